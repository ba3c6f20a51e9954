/- What the law reaches: each function as a plain Lean function, and that each call comes to it. No condition. -/
import Derived.Test.YtockllljeeakaaaPFnExactConfigOkx0
import Derived.Test.YtockllljeeakaaaPFnExactConfigOkx9
import Derived.Test.YtockllljeeakaaaPFnExactConfigOkx10
import Derived.Test.YtockllljeeakaaaPFnExactConfigOkx12
namespace Go.Proofs.Ytockllljeeakaaa.PFnExactConfigOk
open Go.RowKit Go.Proofs.YtockllljeeakaaaW.PrintWords Go.Proofs.YtockllljeeakaaaW.PrintLast Go.Proofs.YtockllljeeakaaaW.PrintMore Go.Proofs.Ytockllljeeakaaa.M
attribute [local go_sem] max2_int min2_int max_two min_two max_three min_three max_four min_four Go.Proofs.Ytockllljeeakaaa.M.str_gtr Go.Proofs.Ytockllljeeakaaa.M.str_leq Go.Proofs.Ytockllljeeakaaa.M.str_geq   -- for this text's walks alone
set_option linter.unusedVariables false
set_option linter.unusedSimpArgs false

/-! ### impl_isItem: function 105 -/
mutual
def impl_isItem.j0 : Nat → Bool → Int → List Int → Int → Int → Int → List Int → List (List Int) → List (S31) → List (List Int) → List (S31) → Option (Bool)
 | 0, _, _, _, _, _, _, _, _, _, _, _ => none
 | k + 1, x25, x352000, x352001, x352002, x352003, x352004, x352005, x352006, x352007, x352008, x352009 => if x25 = true then (some false) else (if x352002 = 0 then ((impl_isZeroExpr.f x352003 x352004 x352005 x352006 x352007).bind fun t355 => (if t355 = true then ((impl_isExpr.f k x352003 x352004 x352005 x352006 x352007).bind fun t356 => (impl_isItem.j1 k (!t356) x352000 x352001 x352002 x352003 x352004 x352005 x352006 x352007 x352008 x352009)) else (impl_isItem.j1 k true x352000 x352001 x352002 x352003 x352004 x352005 x352006 x352007 x352008 x352009))) else ((impl_isExpr.f k x352003 x352004 x352005 x352006 x352007).bind fun t357 => (impl_isItem.j1 k (!t357) x352000 x352001 x352002 x352003 x352004 x352005 x352006 x352007 x352008 x352009)))
def impl_isItem.j1 : Nat → Bool → Int → List Int → Int → Int → Int → List Int → List (List Int) → List (S31) → List (List Int) → List (S31) → Option (Bool)
 | 0, _, _, _, _, _, _, _, _, _, _, _ => none
 | k + 1, x40, x352000, x352001, x352002, x352003, x352004, x352005, x352006, x352007, x352008, x352009 => if x40 = true then (some false) else (if x352000 = 1 then (impl_isItem.l0 k x352008 (x352008.length : Int) 0 x352000 x352001 x352002 x352003 x352004 x352005 x352006 x352007 x352008 x352009) else (if (x352009.length : Int) = 1 then (if (x352008.length : Int) = 0 then (some (x352002 == 0)) else (some false)) else (some false)))
def impl_isItem.l0 : Nat → List (List Int) → Int → Int → Int → List Int → Int → Int → Int → List Int → List (List Int) → List (S31) → List (List Int) → List (S31) → Option (Bool)
 | 0, _, _, _, _, _, _, _, _, _, _, _, _, _ => none
 | k + 1, x60, x61, x62, x352000, x352001, x352002, x352003, x352004, x352005, x352006, x352007, x352008, x352009 => if x62 < x61 then (if 0 ≤ x62 then (if x62 < (x60.length : Int) then ((impl_isName.f k (rd_L1 x60 x62)).bind fun t360 => (if t360 = true then (if x62 > 0 then (if 0 ≤ (wrap64 (x62 - 1)) then (if (wrap64 (x62 - 1)) < (x352008.length : Int) then ((bytes_Compare.f (rd_L1 x352008 (wrap64 (x62 - 1))) (rd_L1 x60 x62)).bind fun t362 => (if t362 ≥ 0 then (some false) else (impl_isItem.l0 k x60 x61 (wrap64 (x62 + 1)) x352000 x352001 x352002 x352003 x352004 x352005 x352006 x352007 x352008 x352009))) else (none)) else (none)) else (impl_isItem.l0 k x60 x61 (wrap64 (x62 + 1)) x352000 x352001 x352002 x352003 x352004 x352005 x352006 x352007 x352008 x352009)) else (some false))) else (none)) else (none)) else ((impl_in.f x352002 0 2).bind fun t358 => (if t358 = true then (some ((x352008.length : Int) == (x352009.length : Int))) else (some false)))
end
def impl_isItem.f (k : Nat) (a0_0 : Int) (l0_1 : List Int) (a0_2 : Int) (a0_3 : Int) (a0_4 : Int) (l0_5 : List Int) (l0_6 : List (List Int)) (l0_7 : List (S31)) (l0_8 : List (List Int)) (l0_9 : List (S31)) : Option (Bool) := (impl_in.f a0_0 0 2).bind fun t352 => (if t352 = true then ((impl_isWord.f k l0_1).bind fun t353 => (if t353 = true then (if (l0_9.length : Int) > 6 then (impl_isItem.j0 k true a0_0 l0_1 a0_2 a0_3 a0_4 l0_5 l0_6 l0_7 l0_8 l0_9) else ((x_ContainsFunc_at_impl_isItem_1.f k l0_9).bind fun t354 => (impl_isItem.j0 k t354 a0_0 l0_1 a0_2 a0_3 a0_4 l0_5 l0_6 l0_7 l0_8 l0_9))) else (impl_isItem.j0 k true a0_0 l0_1 a0_2 a0_3 a0_4 l0_5 l0_6 l0_7 l0_8 l0_9))) else (impl_isItem.j0 k true a0_0 l0_1 a0_2 a0_3 a0_4 l0_5 l0_6 l0_7 l0_8 l0_9))
set_option maxHeartbeats 8000000 in
set_option maxRecDepth 100000 in
theorem impl_isItem.calls (k : Nat) (a0_0 : Int) (A0_1 : Option Addr) (c0_1 : Nat) (l0_1 : List Int) (a0_2 : Int) (a0_3 : Int) (a0_4 : Int) (A0_5 : Option Addr) (c0_5 : Nat) (l0_5 : List Int) (A0_6 : Option Addr) (c0_6 : Nat) (l0_6 : List (List Int)) (A0_7 : Option Addr) (c0_7 : Nat) (l0_7 : List (S31)) (A0_8 : Option Addr) (c0_8 : Nat) (l0_8 : List (List Int)) (A0_9 : Option Addr) (c0_9 : Nat) (l0_9 : List (S31)) (r : Bool) (w : World) (hr0_1 : Kd.C (Kd.int .u8) w A0_1 l0_1.length l0_1) (hc0_1 : l0_1.length ≤ c0_1) (hr0_5 : Kd.C (Kd.int .u8) w A0_5 l0_5.length l0_5) (hc0_5 : l0_5.length ≤ c0_5) (hr0_6 : Kd.C (Kd.slice 5 (Kd.int .u8)) w A0_6 l0_6.length l0_6) (hc0_6 : l0_6.length ≤ c0_6) (hr0_7 : Kd.C k31 w A0_7 l0_7.length l0_7) (hc0_7 : l0_7.length ≤ c0_7) (hr0_8 : Kd.C (Kd.slice 5 (Kd.int .u8)) w A0_8 l0_8.length l0_8) (hc0_8 : l0_8.length ≤ c0_8) (hr0_9 : Kd.C k31 w A0_9 l0_9.length l0_9) (hc0_9 : l0_9.length ≤ c0_9) (h : impl_isItem.f k a0_0 l0_1 a0_2 a0_3 a0_4 l0_5 l0_6 l0_7 l0_8 l0_9 = some r) :
  Calls Try.prog 105 #[.agg #[.int .i64 a0_0, .slice A0_1 l0_1.length c0_1, .int .i64 a0_2, .int .i64 a0_3, .int .i64 a0_4, .slice A0_5 l0_5.length c0_5, .slice A0_6 l0_6.length c0_6, .slice A0_7 l0_7.length c0_7, .slice A0_8 l0_8.length c0_8, .slice A0_9 l0_9.length c0_9]] w fun e w' => e = .returned (.bool r) ∧ Below w.heap.size w w' := by
 have hu94 := Try.underlying94
 have hu31 := Try.underlying31
 have HR0_1 := Aside0.mk hr0_1
 have HC0_1 := Aside0.mk hc0_1
 clear hr0_1 hc0_1
 have HR0_5 := Aside0.mk hr0_5
 have HC0_5 := Aside0.mk hc0_5
 clear hr0_5 hc0_5
 have HR0_6 := Aside0.mk hr0_6
 have HC0_6 := Aside0.mk hc0_6
 clear hr0_6 hc0_6
 have HR0_7 := Aside0.mk hr0_7
 have HC0_7 := Aside0.mk hc0_7
 clear hr0_7 hc0_7
 have HR0_8 := Aside0.mk hr0_8
 have HC0_8 := Aside0.mk hc0_8
 clear hr0_8 hc0_8
 have HR0_9 := Aside0.mk hr0_9
 have HC0_9 := Aside0.mk hc0_9
 clear hr0_9 hc0_9
 have HB := Bw.refl w
 have H : ((impl_in.f a0_0 0 2).bind fun t352 => (if t352 = true then ((impl_isWord.f k l0_1).bind fun t353 => (if t353 = true then (if (l0_9.length : Int) > 6 then (impl_isItem.j0 k true a0_0 l0_1 a0_2 a0_3 a0_4 l0_5 l0_6 l0_7 l0_8 l0_9) else ((x_ContainsFunc_at_impl_isItem_1.f k l0_9).bind fun t354 => (impl_isItem.j0 k t354 a0_0 l0_1 a0_2 a0_3 a0_4 l0_5 l0_6 l0_7 l0_8 l0_9))) else (impl_isItem.j0 k true a0_0 l0_1 a0_2 a0_3 a0_4 l0_5 l0_6 l0_7 l0_8 l0_9))) else (impl_isItem.j0 k true a0_0 l0_1 a0_2 a0_3 a0_4 l0_5 l0_6 l0_7 l0_8 l0_9))) = some r := h
 clear h
 have HC2 := Aside0.mk H
 clear H
 go_enter Try.func105, Try.ntmps105
 go_upto_region 1 with (first | ((with_reducible refine gate_dst (N := 1) rfl ?_); (try (refine gate_guard (by rfl) ?_; dsimp only)); refine box_event rfl (N := 1) rfl (cs := #[.int .i64 a0_0, .slice A0_1 l0_1.length c0_1, .int .i64 a0_2, .int .i64 a0_3, .int .i64 a0_4, .slice A0_5 l0_5.length c0_5, .slice A0_6 l0_6.length c0_6, .slice A0_7 l0_7.length c0_7, .slice A0_8 l0_8.length c0_8, .slice A0_9 l0_9.length c0_9]) (t := 94) (by go_simp <;> rfl) ?_; intro gb351 hg w3 hbox hb; have BK351 := Aside0.mk (hbox); have GE351 := (Ge.of hg : Ge w.heap.size gb351); replace HB := (Bw.sw w hb); clear hb hbox hg))
 (try simp only [Act.put, List.setIfInBounds_toArray, List.set_cons_zero, List.set_cons_succ])
 go_cut [25] (fun v25 wc => ∃ (kq : Nat) (x25_1 : Bool), v25 = .bool x25_1 ∧ Aside0 (impl_isItem.j0 kq x25_1 a0_0 l0_1 a0_2 a0_3 a0_4 l0_5 l0_6 l0_7 l0_8 l0_9 = some r) ∧ Aside0 (kq ≤ k) ∧ Aside0 (wc.heap[gb351]? = some (.cells #[.int .i64 a0_0, (.slice A0_1 l0_1.length c0_1), .int .i64 a0_2, .int .i64 a0_3, .int .i64 a0_4, (.slice A0_5 l0_5.length c0_5), (.slice A0_6 l0_6.length c0_6), (.slice A0_7 l0_7.length c0_7), (.slice A0_8 l0_8.length c0_8), (.slice A0_9 l0_9.length c0_9)] 94 (0, 0))) ∧ Bw w wc)
 case first =>
  as_aux_lemma =>
  have H := HC2.out
  clear HC2
  replace H := Option.bind_eq_some_iff.mp H
  obtain ⟨t352, A40, H⟩ := H
  have A4 := Aside0.mk A40
  clear A40
  by_cases c5 : t352 = true
  rotate_left
  ·replace c5 := Bool.eq_false_iff.mpr c5
   subst c5
   replace H := (if_neg (show ¬ (false = true) by decide)).symm.trans H
   have H' := Aside0.mk H
   clear H
   have hcz19_0 : w3.cell? ⟨gb351, 0, none⟩ = some (.int .i64 a0_0) := (blk_cell BK351.out 0).trans rfl
   have hcz19_1 : w3.cell? ⟨gb351, 1, none⟩ = some (.slice A0_1 l0_1.length c0_1) := (blk_cell BK351.out 1).trans rfl
   have hcz19_2 : w3.cell? ⟨gb351, 2, none⟩ = some (.int .i64 a0_2) := (blk_cell BK351.out 2).trans rfl
   have hcz19_3 : w3.cell? ⟨gb351, 3, none⟩ = some (.int .i64 a0_3) := (blk_cell BK351.out 3).trans rfl
   have hcz19_4 : w3.cell? ⟨gb351, 4, none⟩ = some (.int .i64 a0_4) := (blk_cell BK351.out 4).trans rfl
   have hcz19_5 : w3.cell? ⟨gb351, 5, none⟩ = some (.slice A0_5 l0_5.length c0_5) := (blk_cell BK351.out 5).trans rfl
   have hcz19_6 : w3.cell? ⟨gb351, 6, none⟩ = some (.slice A0_6 l0_6.length c0_6) := (blk_cell BK351.out 6).trans rfl
   have hcz19_7 : w3.cell? ⟨gb351, 7, none⟩ = some (.slice A0_7 l0_7.length c0_7) := (blk_cell BK351.out 7).trans rfl
   have hcz19_8 : w3.cell? ⟨gb351, 8, none⟩ = some (.slice A0_8 l0_8.length c0_8) := (blk_cell BK351.out 8).trans rfl
   have hcz19_9 : w3.cell? ⟨gb351, 9, none⟩ = some (.slice A0_9 l0_9.length c0_9) := (blk_cell BK351.out 9).trans rfl
   have hfz19_0 := blk_frozen BK351.out 0
   have hfz19_1 := blk_frozen BK351.out 1
   have hfz19_2 := blk_frozen BK351.out 2
   have hfz19_3 := blk_frozen BK351.out 3
   have hfz19_4 := blk_frozen BK351.out 4
   have hfz19_5 := blk_frozen BK351.out 5
   have hfz19_6 := blk_frozen BK351.out 6
   have hfz19_7 := blk_frozen BK351.out 7
   have hfz19_8 := blk_frozen BK351.out 8
   have hfz19_9 := blk_frozen BK351.out 9
   go_wp2_with (first | ((with_reducible refine gg (f := 117) (some 7) rfl rfl rfl fr117 ?_); refine onc (impl_in.calls a0_0 0 2 false _ A4.out) rfl ?_; rintro e w' ⟨rfl, ⟨nd, rfl⟩⟩; refine ⟨_, rfl, ?_⟩))
   go_meet
   case rel => exact ⟨_, (true), (by first | rfl | (simp; done) | (simp [*]; done)), H', ⟨by first | omega | exact Nat.le_refl _⟩, ⟨by (with_reducible repeat (first | refine blk_drewN ?_ _ | refine blk_drew ?_ | refine blk_alloc ?_ _)); exact BK351.out⟩, ⟨bw⟩⟩
  as_aux_lemma =>
  subst c5
  replace H := (if_pos rfl).symm.trans H
  replace H := Option.bind_eq_some_iff.mp H
  obtain ⟨t353, A60, H⟩ := H
  have A6 := Aside0.mk A60
  clear A60
  by_cases c7 : t353 = true
  rotate_left
  ·replace c7 := Bool.eq_false_iff.mpr c7
   subst c7
   replace H := (if_neg (show ¬ (false = true) by decide)).symm.trans H
   have H' := Aside0.mk H
   clear H
   have hcz17_0 : w3.cell? ⟨gb351, 0, none⟩ = some (.int .i64 a0_0) := (blk_cell BK351.out 0).trans rfl
   have hcz17_1 : w3.cell? ⟨gb351, 1, none⟩ = some (.slice A0_1 l0_1.length c0_1) := (blk_cell BK351.out 1).trans rfl
   have hcz17_2 : w3.cell? ⟨gb351, 2, none⟩ = some (.int .i64 a0_2) := (blk_cell BK351.out 2).trans rfl
   have hcz17_3 : w3.cell? ⟨gb351, 3, none⟩ = some (.int .i64 a0_3) := (blk_cell BK351.out 3).trans rfl
   have hcz17_4 : w3.cell? ⟨gb351, 4, none⟩ = some (.int .i64 a0_4) := (blk_cell BK351.out 4).trans rfl
   have hcz17_5 : w3.cell? ⟨gb351, 5, none⟩ = some (.slice A0_5 l0_5.length c0_5) := (blk_cell BK351.out 5).trans rfl
   have hcz17_6 : w3.cell? ⟨gb351, 6, none⟩ = some (.slice A0_6 l0_6.length c0_6) := (blk_cell BK351.out 6).trans rfl
   have hcz17_7 : w3.cell? ⟨gb351, 7, none⟩ = some (.slice A0_7 l0_7.length c0_7) := (blk_cell BK351.out 7).trans rfl
   have hcz17_8 : w3.cell? ⟨gb351, 8, none⟩ = some (.slice A0_8 l0_8.length c0_8) := (blk_cell BK351.out 8).trans rfl
   have hcz17_9 : w3.cell? ⟨gb351, 9, none⟩ = some (.slice A0_9 l0_9.length c0_9) := (blk_cell BK351.out 9).trans rfl
   have hfz17_0 := blk_frozen BK351.out 0
   have hfz17_1 := blk_frozen BK351.out 1
   have hfz17_2 := blk_frozen BK351.out 2
   have hfz17_3 := blk_frozen BK351.out 3
   have hfz17_4 := blk_frozen BK351.out 4
   have hfz17_5 := blk_frozen BK351.out 5
   have hfz17_6 := blk_frozen BK351.out 6
   have hfz17_7 := blk_frozen BK351.out 7
   have hfz17_8 := blk_frozen BK351.out 8
   have hfz17_9 := blk_frozen BK351.out 9
   go_wp2_with (first | ((with_reducible refine gg (f := 117) (some 7) rfl rfl rfl fr117 ?_); refine onc (impl_in.calls a0_0 0 2 true _ A4.out) rfl ?_; rintro e w' ⟨rfl, ⟨nd, rfl⟩⟩; refine ⟨_, rfl, ?_⟩) | (go_at_call 120; (with_reducible refine (impl_isWord.calls k _ _ l0_1 false _ ?side1 ?side2 A6.out).mono ?_); (case side1 => repeat (first | exact (Kd.C_below HR0_1.out bw) | (with_reducible refine Kd.C_alloc ?_ _) | (with_reducible refine Kd.C_drewN ?_ _) | (with_reducible refine Kd.C_drew ?_))); (case side2 => exact HC0_1.out); rintro e w18 ⟨rfl, hb⟩; replace BK351 := Aside0.mk (blk_below (g := gb351) (o := .cells #[.int .i64 a0_0, .slice A0_1 l0_1.length c0_1, .int .i64 a0_2, .int .i64 a0_3, .int .i64 a0_4, .slice A0_5 l0_5.length c0_5, .slice A0_6 l0_6.length c0_6, .slice A0_7 l0_7.length c0_7, .slice A0_8 l0_8.length c0_8, .slice A0_9 l0_9.length c0_9] 94 (0, 0)) (by (with_reducible repeat (first | refine blk_drewN ?_ _ | refine blk_drew ?_ | refine blk_alloc ?_ _)); exact BK351.out) hb); replace HB := (Bw.sw w hb); (try clear hb)))
   go_meet
   case rel => exact ⟨_, (true), (by first | rfl | (simp; done) | (simp [*]; done)), H', ⟨by first | omega | exact Nat.le_refl _⟩, ⟨by (with_reducible repeat (first | refine blk_drewN ?_ _ | refine blk_drew ?_ | refine blk_alloc ?_ _)); exact BK351.out⟩, ⟨bw⟩⟩
  as_aux_lemma =>
  subst c7
  replace H := (if_pos rfl).symm.trans H
  by_cases c8 : (l0_9.length : Int) > 6
  ·rw [if_pos c8] at H
   have c8b0 : decide (6 < (l0_9.length : Int)) = true := decide_eq_true c8
   have c8b1 : decide (6 < l0_9.length) = true := decide_eq_true (by omega)
   clear c8
   (first | rw [c8b0] | (simp only [i64_w, i32_w]; rw [c8b0]) | skip)
   have H' := Aside0.mk H
   clear H
   have hcz9_0 : w3.cell? ⟨gb351, 0, none⟩ = some (.int .i64 a0_0) := (blk_cell BK351.out 0).trans rfl
   have hcz9_1 : w3.cell? ⟨gb351, 1, none⟩ = some (.slice A0_1 l0_1.length c0_1) := (blk_cell BK351.out 1).trans rfl
   have hcz9_2 : w3.cell? ⟨gb351, 2, none⟩ = some (.int .i64 a0_2) := (blk_cell BK351.out 2).trans rfl
   have hcz9_3 : w3.cell? ⟨gb351, 3, none⟩ = some (.int .i64 a0_3) := (blk_cell BK351.out 3).trans rfl
   have hcz9_4 : w3.cell? ⟨gb351, 4, none⟩ = some (.int .i64 a0_4) := (blk_cell BK351.out 4).trans rfl
   have hcz9_5 : w3.cell? ⟨gb351, 5, none⟩ = some (.slice A0_5 l0_5.length c0_5) := (blk_cell BK351.out 5).trans rfl
   have hcz9_6 : w3.cell? ⟨gb351, 6, none⟩ = some (.slice A0_6 l0_6.length c0_6) := (blk_cell BK351.out 6).trans rfl
   have hcz9_7 : w3.cell? ⟨gb351, 7, none⟩ = some (.slice A0_7 l0_7.length c0_7) := (blk_cell BK351.out 7).trans rfl
   have hcz9_8 : w3.cell? ⟨gb351, 8, none⟩ = some (.slice A0_8 l0_8.length c0_8) := (blk_cell BK351.out 8).trans rfl
   have hcz9_9 : w3.cell? ⟨gb351, 9, none⟩ = some (.slice A0_9 l0_9.length c0_9) := (blk_cell BK351.out 9).trans rfl
   have hfz9_0 := blk_frozen BK351.out 0
   have hfz9_1 := blk_frozen BK351.out 1
   have hfz9_2 := blk_frozen BK351.out 2
   have hfz9_3 := blk_frozen BK351.out 3
   have hfz9_4 := blk_frozen BK351.out 4
   have hfz9_5 := blk_frozen BK351.out 5
   have hfz9_6 := blk_frozen BK351.out 6
   have hfz9_7 := blk_frozen BK351.out 7
   have hfz9_8 := blk_frozen BK351.out 8
   have hfz9_9 := blk_frozen BK351.out 9
   go_wp2_with (first | ((with_reducible refine gg (f := 117) (some 7) rfl rfl rfl fr117 ?_); refine onc (impl_in.calls a0_0 0 2 true _ A4.out) rfl ?_; rintro e w' ⟨rfl, ⟨nd, rfl⟩⟩; refine ⟨_, rfl, ?_⟩) | (go_at_call 120; (with_reducible refine (impl_isWord.calls k _ _ l0_1 true _ ?side1 ?side2 A6.out).mono ?_); (case side1 => repeat (first | exact (Kd.C_below HR0_1.out bw) | (with_reducible refine Kd.C_alloc ?_ _) | (with_reducible refine Kd.C_drewN ?_ _) | (with_reducible refine Kd.C_drew ?_))); (case side2 => exact HC0_1.out); rintro e w10 ⟨rfl, hb⟩; replace BK351 := Aside0.mk (blk_below (g := gb351) (o := .cells #[.int .i64 a0_0, .slice A0_1 l0_1.length c0_1, .int .i64 a0_2, .int .i64 a0_3, .int .i64 a0_4, .slice A0_5 l0_5.length c0_5, .slice A0_6 l0_6.length c0_6, .slice A0_7 l0_7.length c0_7, .slice A0_8 l0_8.length c0_8, .slice A0_9 l0_9.length c0_9] 94 (0, 0)) (by (with_reducible repeat (first | refine blk_drewN ?_ _ | refine blk_drew ?_ | refine blk_alloc ?_ _)); exact BK351.out) hb); replace HB := (Bw.sw w hb); (try clear hb); have hcz11_0 : w10.cell? ⟨gb351, 0, none⟩ = some (.int .i64 a0_0) := (blk_cell BK351.out 0).trans rfl; have hcz11_1 : w10.cell? ⟨gb351, 1, none⟩ = some (.slice A0_1 l0_1.length c0_1) := (blk_cell BK351.out 1).trans rfl; have hcz11_2 : w10.cell? ⟨gb351, 2, none⟩ = some (.int .i64 a0_2) := (blk_cell BK351.out 2).trans rfl; have hcz11_3 : w10.cell? ⟨gb351, 3, none⟩ = some (.int .i64 a0_3) := (blk_cell BK351.out 3).trans rfl; have hcz11_4 : w10.cell? ⟨gb351, 4, none⟩ = some (.int .i64 a0_4) := (blk_cell BK351.out 4).trans rfl; have hcz11_5 : w10.cell? ⟨gb351, 5, none⟩ = some (.slice A0_5 l0_5.length c0_5) := (blk_cell BK351.out 5).trans rfl; have hcz11_6 : w10.cell? ⟨gb351, 6, none⟩ = some (.slice A0_6 l0_6.length c0_6) := (blk_cell BK351.out 6).trans rfl; have hcz11_7 : w10.cell? ⟨gb351, 7, none⟩ = some (.slice A0_7 l0_7.length c0_7) := (blk_cell BK351.out 7).trans rfl; have hcz11_8 : w10.cell? ⟨gb351, 8, none⟩ = some (.slice A0_8 l0_8.length c0_8) := (blk_cell BK351.out 8).trans rfl; have hcz11_9 : w10.cell? ⟨gb351, 9, none⟩ = some (.slice A0_9 l0_9.length c0_9) := (blk_cell BK351.out 9).trans rfl; have hfz11_0 := blk_frozen BK351.out 0; have hfz11_1 := blk_frozen BK351.out 1; have hfz11_2 := blk_frozen BK351.out 2; have hfz11_3 := blk_frozen BK351.out 3; have hfz11_4 := blk_frozen BK351.out 4; have hfz11_5 := blk_frozen BK351.out 5; have hfz11_6 := blk_frozen BK351.out 6; have hfz11_7 := blk_frozen BK351.out 7; have hfz11_8 := blk_frozen BK351.out 8; have hfz11_9 := blk_frozen BK351.out 9))
   go_meet
   case rel => exact ⟨_, (true), (by first | rfl | (simp; done) | (simp [*]; done)), H', ⟨by first | omega | exact Nat.le_refl _⟩, ⟨by (with_reducible repeat (first | refine blk_drewN ?_ _ | refine blk_drew ?_ | refine blk_alloc ?_ _)); exact BK351.out⟩, ⟨bw⟩⟩
  rw [if_neg c8] at H
  have c8b0 : decide (6 < (l0_9.length : Int)) = false := decide_eq_false c8
  have c8b1 : decide (6 < l0_9.length) = false := decide_eq_false (by omega)
  clear c8
  (first | rw [c8b0] | (simp only [i64_w, i32_w]; rw [c8b0]) | skip)
  replace H := Option.bind_eq_some_iff.mp H
  obtain ⟨t354, A120, H⟩ := H
  have A12 := Aside0.mk A120
  clear A120
  have H' := Aside0.mk H
  clear H
  have hcz13_0 : w3.cell? ⟨gb351, 0, none⟩ = some (.int .i64 a0_0) := (blk_cell BK351.out 0).trans rfl
  have hcz13_1 : w3.cell? ⟨gb351, 1, none⟩ = some (.slice A0_1 l0_1.length c0_1) := (blk_cell BK351.out 1).trans rfl
  have hcz13_2 : w3.cell? ⟨gb351, 2, none⟩ = some (.int .i64 a0_2) := (blk_cell BK351.out 2).trans rfl
  have hcz13_3 : w3.cell? ⟨gb351, 3, none⟩ = some (.int .i64 a0_3) := (blk_cell BK351.out 3).trans rfl
  have hcz13_4 : w3.cell? ⟨gb351, 4, none⟩ = some (.int .i64 a0_4) := (blk_cell BK351.out 4).trans rfl
  have hcz13_5 : w3.cell? ⟨gb351, 5, none⟩ = some (.slice A0_5 l0_5.length c0_5) := (blk_cell BK351.out 5).trans rfl
  have hcz13_6 : w3.cell? ⟨gb351, 6, none⟩ = some (.slice A0_6 l0_6.length c0_6) := (blk_cell BK351.out 6).trans rfl
  have hcz13_7 : w3.cell? ⟨gb351, 7, none⟩ = some (.slice A0_7 l0_7.length c0_7) := (blk_cell BK351.out 7).trans rfl
  have hcz13_8 : w3.cell? ⟨gb351, 8, none⟩ = some (.slice A0_8 l0_8.length c0_8) := (blk_cell BK351.out 8).trans rfl
  have hcz13_9 : w3.cell? ⟨gb351, 9, none⟩ = some (.slice A0_9 l0_9.length c0_9) := (blk_cell BK351.out 9).trans rfl
  have hfz13_0 := blk_frozen BK351.out 0
  have hfz13_1 := blk_frozen BK351.out 1
  have hfz13_2 := blk_frozen BK351.out 2
  have hfz13_3 := blk_frozen BK351.out 3
  have hfz13_4 := blk_frozen BK351.out 4
  have hfz13_5 := blk_frozen BK351.out 5
  have hfz13_6 := blk_frozen BK351.out 6
  have hfz13_7 := blk_frozen BK351.out 7
  have hfz13_8 := blk_frozen BK351.out 8
  have hfz13_9 := blk_frozen BK351.out 9
  go_wp2_with (first | ((with_reducible refine gg (f := 117) (some 7) rfl rfl rfl fr117 ?_); refine onc (impl_in.calls a0_0 0 2 true _ A4.out) rfl ?_; rintro e w' ⟨rfl, ⟨nd, rfl⟩⟩; refine ⟨_, rfl, ?_⟩) | (go_at_call 120; (with_reducible refine (impl_isWord.calls k _ _ l0_1 true _ ?side1 ?side2 A6.out).mono ?_); (case side1 => repeat (first | exact (Kd.C_below HR0_1.out bw) | (with_reducible refine Kd.C_alloc ?_ _) | (with_reducible refine Kd.C_drewN ?_ _) | (with_reducible refine Kd.C_drew ?_))); (case side2 => exact HC0_1.out); rintro e w14 ⟨rfl, hb⟩; replace BK351 := Aside0.mk (blk_below (g := gb351) (o := .cells #[.int .i64 a0_0, .slice A0_1 l0_1.length c0_1, .int .i64 a0_2, .int .i64 a0_3, .int .i64 a0_4, .slice A0_5 l0_5.length c0_5, .slice A0_6 l0_6.length c0_6, .slice A0_7 l0_7.length c0_7, .slice A0_8 l0_8.length c0_8, .slice A0_9 l0_9.length c0_9] 94 (0, 0)) (by (with_reducible repeat (first | refine blk_drewN ?_ _ | refine blk_drew ?_ | refine blk_alloc ?_ _)); exact BK351.out) hb); replace HB := (Bw.sw w hb); (try clear hb); have hcz15_0 : w14.cell? ⟨gb351, 0, none⟩ = some (.int .i64 a0_0) := (blk_cell BK351.out 0).trans rfl; have hcz15_1 : w14.cell? ⟨gb351, 1, none⟩ = some (.slice A0_1 l0_1.length c0_1) := (blk_cell BK351.out 1).trans rfl; have hcz15_2 : w14.cell? ⟨gb351, 2, none⟩ = some (.int .i64 a0_2) := (blk_cell BK351.out 2).trans rfl; have hcz15_3 : w14.cell? ⟨gb351, 3, none⟩ = some (.int .i64 a0_3) := (blk_cell BK351.out 3).trans rfl; have hcz15_4 : w14.cell? ⟨gb351, 4, none⟩ = some (.int .i64 a0_4) := (blk_cell BK351.out 4).trans rfl; have hcz15_5 : w14.cell? ⟨gb351, 5, none⟩ = some (.slice A0_5 l0_5.length c0_5) := (blk_cell BK351.out 5).trans rfl; have hcz15_6 : w14.cell? ⟨gb351, 6, none⟩ = some (.slice A0_6 l0_6.length c0_6) := (blk_cell BK351.out 6).trans rfl; have hcz15_7 : w14.cell? ⟨gb351, 7, none⟩ = some (.slice A0_7 l0_7.length c0_7) := (blk_cell BK351.out 7).trans rfl; have hcz15_8 : w14.cell? ⟨gb351, 8, none⟩ = some (.slice A0_8 l0_8.length c0_8) := (blk_cell BK351.out 8).trans rfl; have hcz15_9 : w14.cell? ⟨gb351, 9, none⟩ = some (.slice A0_9 l0_9.length c0_9) := (blk_cell BK351.out 9).trans rfl; have hfz15_0 := blk_frozen BK351.out 0; have hfz15_1 := blk_frozen BK351.out 1; have hfz15_2 := blk_frozen BK351.out 2; have hfz15_3 := blk_frozen BK351.out 3; have hfz15_4 := blk_frozen BK351.out 4; have hfz15_5 := blk_frozen BK351.out 5; have hfz15_6 := blk_frozen BK351.out 6; have hfz15_7 := blk_frozen BK351.out 7; have hfz15_8 := blk_frozen BK351.out 8; have hfz15_9 := blk_frozen BK351.out 9) | (go_at_call 121; (with_reducible refine (x_ContainsFunc_at_impl_isItem_1.calls k _ _ l0_9 t354 _ ?side1 ?side2 A12.out).mono ?_); (case side1 => repeat (first | exact (Kd.C_below HR0_9.out HB.out) | (with_reducible refine Kd.C_alloc ?_ _) | (with_reducible refine Kd.C_drewN ?_ _) | (with_reducible refine Kd.C_drew ?_))); (case side2 => exact HC0_9.out); rintro e w16 ⟨rfl, hb⟩; replace BK351 := Aside0.mk (blk_below (g := gb351) (o := .cells #[.int .i64 a0_0, .slice A0_1 l0_1.length c0_1, .int .i64 a0_2, .int .i64 a0_3, .int .i64 a0_4, .slice A0_5 l0_5.length c0_5, .slice A0_6 l0_6.length c0_6, .slice A0_7 l0_7.length c0_7, .slice A0_8 l0_8.length c0_8, .slice A0_9 l0_9.length c0_9] 94 (0, 0)) (by (with_reducible repeat (first | refine blk_drewN ?_ _ | refine blk_drew ?_ | refine blk_alloc ?_ _)); exact BK351.out) hb); replace HB := (Bw.sw w hb); (try clear hb)))
  go_meet
  case rel => exact ⟨_, (t354), (by first | rfl | (simp; done) | (simp [*]; done)), H', ⟨by first | omega | exact Nat.le_refl _⟩, ⟨by (with_reducible repeat (first | refine blk_drewN ?_ _ | refine blk_drew ?_ | refine blk_alloc ?_ _)); exact BK351.out⟩, ⟨bw⟩⟩
 case rest =>
  as_aux_lemma =>
  clear HC2
  try clear c5
  try clear c7
  try clear c8
  try clear c8b0
  try clear c8b1
  try clear hcz11_0 hcz11_1 hcz11_2 hcz11_3 hcz11_4 hcz11_5 hcz11_6 hcz11_7 hcz11_8 hcz11_9
  try clear hcz13_0 hcz13_1 hcz13_2 hcz13_3 hcz13_4 hcz13_5 hcz13_6 hcz13_7 hcz13_8 hcz13_9
  try clear hcz15_0 hcz15_1 hcz15_2 hcz15_3 hcz15_4 hcz15_5 hcz15_6 hcz15_7 hcz15_8 hcz15_9
  try clear hcz17_0 hcz17_1 hcz17_2 hcz17_3 hcz17_4 hcz17_5 hcz17_6 hcz17_7 hcz17_8 hcz17_9
  try clear hcz19_0 hcz19_1 hcz19_2 hcz19_3 hcz19_4 hcz19_5 hcz19_6 hcz19_7 hcz19_8 hcz19_9
  try clear hcz9_0 hcz9_1 hcz9_2 hcz9_3 hcz9_4 hcz9_5 hcz9_6 hcz9_7 hcz9_8 hcz9_9
  try clear hfz11_0 hfz11_1 hfz11_2 hfz11_3 hfz11_4 hfz11_5 hfz11_6 hfz11_7 hfz11_8 hfz11_9
  try clear hfz13_0 hfz13_1 hfz13_2 hfz13_3 hfz13_4 hfz13_5 hfz13_6 hfz13_7 hfz13_8 hfz13_9
  try clear hfz15_0 hfz15_1 hfz15_2 hfz15_3 hfz15_4 hfz15_5 hfz15_6 hfz15_7 hfz15_8 hfz15_9
  try clear hfz17_0 hfz17_1 hfz17_2 hfz17_3 hfz17_4 hfz17_5 hfz17_6 hfz17_7 hfz17_8 hfz17_9
  try clear hfz19_0 hfz19_1 hfz19_2 hfz19_3 hfz19_4 hfz19_5 hfz19_6 hfz19_7 hfz19_8 hfz19_9
  try clear hfz9_0 hfz9_1 hfz9_2 hfz9_3 hfz9_4 hfz9_5 hfz9_6 hfz9_7 hfz9_8 hfz9_9
  obtain ⟨kq, x25_1, rfl, HA, HJ1, BK351, HB⟩ := hcut
  cases kq with
  | zero => exact absurd HA.out (by simp [impl_isItem.j0])
  | succ kj1 =>
   have H := HA.out
   clear HA
   simp only [impl_isItem.j0] at H
   by_cases c20 : x25_1 = true
   ·subst c20
    replace H := (if_pos rfl).symm.trans H
    obtain rfl := Option.some.inj H
    go_wp2
    go_ret
    exact ⟨by first | rfl | (simp [errW_none, errW_some] <;> rfl) | (simp [*, errW_none, errW_some] <;> rfl), bw⟩
   as_aux_lemma =>
   replace c20 := Bool.eq_false_iff.mpr c20
   subst c20
   replace H := (if_neg (show ¬ (false = true) by decide)).symm.trans H
   have HC21 := Aside0.mk H
   clear H
   go_upto_region 3 with (fail)
   go_cut [40] (fun v40 wc => ∃ (kq : Nat) (x40_20 : Bool), v40 = .bool x40_20 ∧ Aside0 (impl_isItem.j1 kq x40_20 a0_0 l0_1 a0_2 a0_3 a0_4 l0_5 l0_6 l0_7 l0_8 l0_9 = some r) ∧ Aside0 (kq ≤ kj1) ∧ Aside0 (wc.heap[gb351]? = some (.cells #[.int .i64 a0_0, (.slice A0_1 l0_1.length c0_1), .int .i64 a0_2, .int .i64 a0_3, .int .i64 a0_4, (.slice A0_5 l0_5.length c0_5), (.slice A0_6 l0_6.length c0_6), (.slice A0_7 l0_7.length c0_7), (.slice A0_8 l0_8.length c0_8), (.slice A0_9 l0_9.length c0_9)] 94 (0, 0))) ∧ Bw w wc)
   case first =>
    as_aux_lemma =>
    have H := HC21.out
    clear HC21
    by_cases c22 : a0_2 = 0
    rotate_left
    ·rw [if_neg c22] at H
     have c22b0 : (a0_2 == 0) = false := beq_eq_false_iff_ne.mpr c22
     have c22b1 : (a0_2 != 0) = true := bne_iff_ne.mpr c22
     (first | rw [c22b0] | (simp only [i64_w, i32_w]; rw [c22b0]) | skip)
     replace H := Option.bind_eq_some_iff.mp H
     obtain ⟨t357, A320, H⟩ := H
     have A32 := Aside0.mk A320
     clear A320
     have H' := Aside0.mk H
     clear H
     have hcz33_0 : wc.cell? ⟨gb351, 0, none⟩ = some (.int .i64 a0_0) := (blk_cell BK351.out 0).trans rfl
     have hcz33_1 : wc.cell? ⟨gb351, 1, none⟩ = some (.slice A0_1 l0_1.length c0_1) := (blk_cell BK351.out 1).trans rfl
     have hcz33_2 : wc.cell? ⟨gb351, 2, none⟩ = some (.int .i64 a0_2) := (blk_cell BK351.out 2).trans rfl
     have hcz33_3 : wc.cell? ⟨gb351, 3, none⟩ = some (.int .i64 a0_3) := (blk_cell BK351.out 3).trans rfl
     have hcz33_4 : wc.cell? ⟨gb351, 4, none⟩ = some (.int .i64 a0_4) := (blk_cell BK351.out 4).trans rfl
     have hcz33_5 : wc.cell? ⟨gb351, 5, none⟩ = some (.slice A0_5 l0_5.length c0_5) := (blk_cell BK351.out 5).trans rfl
     have hcz33_6 : wc.cell? ⟨gb351, 6, none⟩ = some (.slice A0_6 l0_6.length c0_6) := (blk_cell BK351.out 6).trans rfl
     have hcz33_7 : wc.cell? ⟨gb351, 7, none⟩ = some (.slice A0_7 l0_7.length c0_7) := (blk_cell BK351.out 7).trans rfl
     have hcz33_8 : wc.cell? ⟨gb351, 8, none⟩ = some (.slice A0_8 l0_8.length c0_8) := (blk_cell BK351.out 8).trans rfl
     have hcz33_9 : wc.cell? ⟨gb351, 9, none⟩ = some (.slice A0_9 l0_9.length c0_9) := (blk_cell BK351.out 9).trans rfl
     have hfz33_0 := blk_frozen BK351.out 0
     have hfz33_1 := blk_frozen BK351.out 1
     have hfz33_2 := blk_frozen BK351.out 2
     have hfz33_3 := blk_frozen BK351.out 3
     have hfz33_4 := blk_frozen BK351.out 4
     have hfz33_5 := blk_frozen BK351.out 5
     have hfz33_6 := blk_frozen BK351.out 6
     have hfz33_7 := blk_frozen BK351.out 7
     have hfz33_8 := blk_frozen BK351.out 8
     have hfz33_9 := blk_frozen BK351.out 9
     go_wp2_with (first | (go_at_call 48; (with_reducible refine (impl_isExpr.calls kj1 a0_3 a0_4 _ _ l0_5 _ _ l0_6 _ _ l0_7 t357 _ ?side1 ?side2 ?side3 ?side4 ?side5 ?side6 A32.out).mono ?_); (case side1 => repeat (first | exact (Kd.C_below HR0_5.out HB.out) | (with_reducible refine Kd.C_alloc ?_ _) | (with_reducible refine Kd.C_drewN ?_ _) | (with_reducible refine Kd.C_drew ?_))); (case side2 => exact HC0_5.out); (case side3 => repeat (first | exact (Kd.C_below HR0_6.out HB.out) | (with_reducible refine Kd.C_alloc ?_ _) | (with_reducible refine Kd.C_drewN ?_ _) | (with_reducible refine Kd.C_drew ?_))); (case side4 => exact HC0_6.out); (case side5 => repeat (first | exact (Kd.C_below HR0_7.out HB.out) | (with_reducible refine Kd.C_alloc ?_ _) | (with_reducible refine Kd.C_drewN ?_ _) | (with_reducible refine Kd.C_drew ?_))); (case side6 => exact HC0_7.out); rintro e w34 ⟨rfl, hb⟩; replace BK351 := Aside0.mk (blk_below (g := gb351) (o := .cells #[.int .i64 a0_0, .slice A0_1 l0_1.length c0_1, .int .i64 a0_2, .int .i64 a0_3, .int .i64 a0_4, .slice A0_5 l0_5.length c0_5, .slice A0_6 l0_6.length c0_6, .slice A0_7 l0_7.length c0_7, .slice A0_8 l0_8.length c0_8, .slice A0_9 l0_9.length c0_9] 94 (0, 0)) (by (with_reducible repeat (first | refine blk_drewN ?_ _ | refine blk_drew ?_ | refine blk_alloc ?_ _)); exact BK351.out) hb); replace HB := (Bw.sw w hb); (try clear hb)))
     go_meet
     case rel => exact ⟨_, (!t357), (by first | rfl | (simp; done) | (simp [*]; done)), H', ⟨by have := HJ1.out; first | omega | exact Nat.le_refl _⟩, ⟨by (with_reducible repeat (first | refine blk_drewN ?_ _ | refine blk_drew ?_ | refine blk_alloc ?_ _)); exact BK351.out⟩, ⟨bw⟩⟩
    as_aux_lemma =>
    rw [if_pos c22] at H
    have c22b0 : (a0_2 == 0) = true := beq_iff_eq.mpr c22
    have c22b1 : (a0_2 != 0) = false := bne_eq_false_iff_eq.mpr c22
    clear c22
    (first | rw [c22b0] | (simp only [i64_w, i32_w]; rw [c22b0]) | skip)
    replace H := Option.bind_eq_some_iff.mp H
    obtain ⟨t355, A230, H⟩ := H
    have A23 := Aside0.mk A230
    clear A230
    by_cases c24 : t355 = true
    ·subst c24
     replace H := (if_pos rfl).symm.trans H
     replace H := Option.bind_eq_some_iff.mp H
     obtain ⟨t356, A250, H⟩ := H
     have A25 := Aside0.mk A250
     clear A250
     have H' := Aside0.mk H
     clear H
     have hcz26_0 : wc.cell? ⟨gb351, 0, none⟩ = some (.int .i64 a0_0) := (blk_cell BK351.out 0).trans rfl
     have hcz26_1 : wc.cell? ⟨gb351, 1, none⟩ = some (.slice A0_1 l0_1.length c0_1) := (blk_cell BK351.out 1).trans rfl
     have hcz26_2 : wc.cell? ⟨gb351, 2, none⟩ = some (.int .i64 a0_2) := (blk_cell BK351.out 2).trans rfl
     have hcz26_3 : wc.cell? ⟨gb351, 3, none⟩ = some (.int .i64 a0_3) := (blk_cell BK351.out 3).trans rfl
     have hcz26_4 : wc.cell? ⟨gb351, 4, none⟩ = some (.int .i64 a0_4) := (blk_cell BK351.out 4).trans rfl
     have hcz26_5 : wc.cell? ⟨gb351, 5, none⟩ = some (.slice A0_5 l0_5.length c0_5) := (blk_cell BK351.out 5).trans rfl
     have hcz26_6 : wc.cell? ⟨gb351, 6, none⟩ = some (.slice A0_6 l0_6.length c0_6) := (blk_cell BK351.out 6).trans rfl
     have hcz26_7 : wc.cell? ⟨gb351, 7, none⟩ = some (.slice A0_7 l0_7.length c0_7) := (blk_cell BK351.out 7).trans rfl
     have hcz26_8 : wc.cell? ⟨gb351, 8, none⟩ = some (.slice A0_8 l0_8.length c0_8) := (blk_cell BK351.out 8).trans rfl
     have hcz26_9 : wc.cell? ⟨gb351, 9, none⟩ = some (.slice A0_9 l0_9.length c0_9) := (blk_cell BK351.out 9).trans rfl
     have hfz26_0 := blk_frozen BK351.out 0
     have hfz26_1 := blk_frozen BK351.out 1
     have hfz26_2 := blk_frozen BK351.out 2
     have hfz26_3 := blk_frozen BK351.out 3
     have hfz26_4 := blk_frozen BK351.out 4
     have hfz26_5 := blk_frozen BK351.out 5
     have hfz26_6 := blk_frozen BK351.out 6
     have hfz26_7 := blk_frozen BK351.out 7
     have hfz26_8 := blk_frozen BK351.out 8
     have hfz26_9 := blk_frozen BK351.out 9
     go_wp2_with (first | (go_at_call 139; (with_reducible refine (impl_isZeroExpr.calls a0_3 a0_4 _ _ l0_5 _ _ l0_6 _ _ l0_7 true _ ?side1 ?side2 ?side3 ?side4 ?side5 ?side6 A23.out).mono ?_); (case side1 => repeat (first | exact (Kd.C_below HR0_5.out HB.out) | (with_reducible refine Kd.C_alloc ?_ _) | (with_reducible refine Kd.C_drewN ?_ _) | (with_reducible refine Kd.C_drew ?_))); (case side2 => exact HC0_5.out); (case side3 => repeat (first | exact (Kd.C_below HR0_6.out HB.out) | (with_reducible refine Kd.C_alloc ?_ _) | (with_reducible refine Kd.C_drewN ?_ _) | (with_reducible refine Kd.C_drew ?_))); (case side4 => exact HC0_6.out); (case side5 => repeat (first | exact (Kd.C_below HR0_7.out HB.out) | (with_reducible refine Kd.C_alloc ?_ _) | (with_reducible refine Kd.C_drewN ?_ _) | (with_reducible refine Kd.C_drew ?_))); (case side6 => exact HC0_7.out); rintro e w27 ⟨rfl, hb⟩; replace BK351 := Aside0.mk (blk_below (g := gb351) (o := .cells #[.int .i64 a0_0, .slice A0_1 l0_1.length c0_1, .int .i64 a0_2, .int .i64 a0_3, .int .i64 a0_4, .slice A0_5 l0_5.length c0_5, .slice A0_6 l0_6.length c0_6, .slice A0_7 l0_7.length c0_7, .slice A0_8 l0_8.length c0_8, .slice A0_9 l0_9.length c0_9] 94 (0, 0)) (by (with_reducible repeat (first | refine blk_drewN ?_ _ | refine blk_drew ?_ | refine blk_alloc ?_ _)); exact BK351.out) hb); replace HB := (Bw.sw w hb); (try clear hb); have hcz28_0 : w27.cell? ⟨gb351, 0, none⟩ = some (.int .i64 a0_0) := (blk_cell BK351.out 0).trans rfl; have hcz28_1 : w27.cell? ⟨gb351, 1, none⟩ = some (.slice A0_1 l0_1.length c0_1) := (blk_cell BK351.out 1).trans rfl; have hcz28_2 : w27.cell? ⟨gb351, 2, none⟩ = some (.int .i64 a0_2) := (blk_cell BK351.out 2).trans rfl; have hcz28_3 : w27.cell? ⟨gb351, 3, none⟩ = some (.int .i64 a0_3) := (blk_cell BK351.out 3).trans rfl; have hcz28_4 : w27.cell? ⟨gb351, 4, none⟩ = some (.int .i64 a0_4) := (blk_cell BK351.out 4).trans rfl; have hcz28_5 : w27.cell? ⟨gb351, 5, none⟩ = some (.slice A0_5 l0_5.length c0_5) := (blk_cell BK351.out 5).trans rfl; have hcz28_6 : w27.cell? ⟨gb351, 6, none⟩ = some (.slice A0_6 l0_6.length c0_6) := (blk_cell BK351.out 6).trans rfl; have hcz28_7 : w27.cell? ⟨gb351, 7, none⟩ = some (.slice A0_7 l0_7.length c0_7) := (blk_cell BK351.out 7).trans rfl; have hcz28_8 : w27.cell? ⟨gb351, 8, none⟩ = some (.slice A0_8 l0_8.length c0_8) := (blk_cell BK351.out 8).trans rfl; have hcz28_9 : w27.cell? ⟨gb351, 9, none⟩ = some (.slice A0_9 l0_9.length c0_9) := (blk_cell BK351.out 9).trans rfl; have hfz28_0 := blk_frozen BK351.out 0; have hfz28_1 := blk_frozen BK351.out 1; have hfz28_2 := blk_frozen BK351.out 2; have hfz28_3 := blk_frozen BK351.out 3; have hfz28_4 := blk_frozen BK351.out 4; have hfz28_5 := blk_frozen BK351.out 5; have hfz28_6 := blk_frozen BK351.out 6; have hfz28_7 := blk_frozen BK351.out 7; have hfz28_8 := blk_frozen BK351.out 8; have hfz28_9 := blk_frozen BK351.out 9) | (go_at_call 48; (with_reducible refine (impl_isExpr.calls kj1 a0_3 a0_4 _ _ l0_5 _ _ l0_6 _ _ l0_7 t356 _ ?side1 ?side2 ?side3 ?side4 ?side5 ?side6 A25.out).mono ?_); (case side1 => repeat (first | exact (Kd.C_below HR0_5.out HB.out) | (with_reducible refine Kd.C_alloc ?_ _) | (with_reducible refine Kd.C_drewN ?_ _) | (with_reducible refine Kd.C_drew ?_))); (case side2 => exact HC0_5.out); (case side3 => repeat (first | exact (Kd.C_below HR0_6.out HB.out) | (with_reducible refine Kd.C_alloc ?_ _) | (with_reducible refine Kd.C_drewN ?_ _) | (with_reducible refine Kd.C_drew ?_))); (case side4 => exact HC0_6.out); (case side5 => repeat (first | exact (Kd.C_below HR0_7.out HB.out) | (with_reducible refine Kd.C_alloc ?_ _) | (with_reducible refine Kd.C_drewN ?_ _) | (with_reducible refine Kd.C_drew ?_))); (case side6 => exact HC0_7.out); rintro e w29 ⟨rfl, hb⟩; replace BK351 := Aside0.mk (blk_below (g := gb351) (o := .cells #[.int .i64 a0_0, .slice A0_1 l0_1.length c0_1, .int .i64 a0_2, .int .i64 a0_3, .int .i64 a0_4, .slice A0_5 l0_5.length c0_5, .slice A0_6 l0_6.length c0_6, .slice A0_7 l0_7.length c0_7, .slice A0_8 l0_8.length c0_8, .slice A0_9 l0_9.length c0_9] 94 (0, 0)) (by (with_reducible repeat (first | refine blk_drewN ?_ _ | refine blk_drew ?_ | refine blk_alloc ?_ _)); exact BK351.out) hb); replace HB := (Bw.sw w hb); (try clear hb)))
     go_meet
     case rel => exact ⟨_, (!t356), (by first | rfl | (simp; done) | (simp [*]; done)), H', ⟨by have := HJ1.out; first | omega | exact Nat.le_refl _⟩, ⟨by (with_reducible repeat (first | refine blk_drewN ?_ _ | refine blk_drew ?_ | refine blk_alloc ?_ _)); exact BK351.out⟩, ⟨bw⟩⟩
    replace c24 := Bool.eq_false_iff.mpr c24
    subst c24
    replace H := (if_neg (show ¬ (false = true) by decide)).symm.trans H
    have H' := Aside0.mk H
    clear H
    have hcz30_0 : wc.cell? ⟨gb351, 0, none⟩ = some (.int .i64 a0_0) := (blk_cell BK351.out 0).trans rfl
    have hcz30_1 : wc.cell? ⟨gb351, 1, none⟩ = some (.slice A0_1 l0_1.length c0_1) := (blk_cell BK351.out 1).trans rfl
    have hcz30_2 : wc.cell? ⟨gb351, 2, none⟩ = some (.int .i64 a0_2) := (blk_cell BK351.out 2).trans rfl
    have hcz30_3 : wc.cell? ⟨gb351, 3, none⟩ = some (.int .i64 a0_3) := (blk_cell BK351.out 3).trans rfl
    have hcz30_4 : wc.cell? ⟨gb351, 4, none⟩ = some (.int .i64 a0_4) := (blk_cell BK351.out 4).trans rfl
    have hcz30_5 : wc.cell? ⟨gb351, 5, none⟩ = some (.slice A0_5 l0_5.length c0_5) := (blk_cell BK351.out 5).trans rfl
    have hcz30_6 : wc.cell? ⟨gb351, 6, none⟩ = some (.slice A0_6 l0_6.length c0_6) := (blk_cell BK351.out 6).trans rfl
    have hcz30_7 : wc.cell? ⟨gb351, 7, none⟩ = some (.slice A0_7 l0_7.length c0_7) := (blk_cell BK351.out 7).trans rfl
    have hcz30_8 : wc.cell? ⟨gb351, 8, none⟩ = some (.slice A0_8 l0_8.length c0_8) := (blk_cell BK351.out 8).trans rfl
    have hcz30_9 : wc.cell? ⟨gb351, 9, none⟩ = some (.slice A0_9 l0_9.length c0_9) := (blk_cell BK351.out 9).trans rfl
    have hfz30_0 := blk_frozen BK351.out 0
    have hfz30_1 := blk_frozen BK351.out 1
    have hfz30_2 := blk_frozen BK351.out 2
    have hfz30_3 := blk_frozen BK351.out 3
    have hfz30_4 := blk_frozen BK351.out 4
    have hfz30_5 := blk_frozen BK351.out 5
    have hfz30_6 := blk_frozen BK351.out 6
    have hfz30_7 := blk_frozen BK351.out 7
    have hfz30_8 := blk_frozen BK351.out 8
    have hfz30_9 := blk_frozen BK351.out 9
    go_wp2_with (first | (go_at_call 139; (with_reducible refine (impl_isZeroExpr.calls a0_3 a0_4 _ _ l0_5 _ _ l0_6 _ _ l0_7 false _ ?side1 ?side2 ?side3 ?side4 ?side5 ?side6 A23.out).mono ?_); (case side1 => repeat (first | exact (Kd.C_below HR0_5.out HB.out) | (with_reducible refine Kd.C_alloc ?_ _) | (with_reducible refine Kd.C_drewN ?_ _) | (with_reducible refine Kd.C_drew ?_))); (case side2 => exact HC0_5.out); (case side3 => repeat (first | exact (Kd.C_below HR0_6.out HB.out) | (with_reducible refine Kd.C_alloc ?_ _) | (with_reducible refine Kd.C_drewN ?_ _) | (with_reducible refine Kd.C_drew ?_))); (case side4 => exact HC0_6.out); (case side5 => repeat (first | exact (Kd.C_below HR0_7.out HB.out) | (with_reducible refine Kd.C_alloc ?_ _) | (with_reducible refine Kd.C_drewN ?_ _) | (with_reducible refine Kd.C_drew ?_))); (case side6 => exact HC0_7.out); rintro e w31 ⟨rfl, hb⟩; replace BK351 := Aside0.mk (blk_below (g := gb351) (o := .cells #[.int .i64 a0_0, .slice A0_1 l0_1.length c0_1, .int .i64 a0_2, .int .i64 a0_3, .int .i64 a0_4, .slice A0_5 l0_5.length c0_5, .slice A0_6 l0_6.length c0_6, .slice A0_7 l0_7.length c0_7, .slice A0_8 l0_8.length c0_8, .slice A0_9 l0_9.length c0_9] 94 (0, 0)) (by (with_reducible repeat (first | refine blk_drewN ?_ _ | refine blk_drew ?_ | refine blk_alloc ?_ _)); exact BK351.out) hb); replace HB := (Bw.sw w hb); (try clear hb)))
    go_meet
    case rel => exact ⟨_, (true), (by first | rfl | (simp; done) | (simp [*]; done)), H', ⟨by have := HJ1.out; first | omega | exact Nat.le_refl _⟩, ⟨by (with_reducible repeat (first | refine blk_drewN ?_ _ | refine blk_drew ?_ | refine blk_alloc ?_ _)); exact BK351.out⟩, ⟨bw⟩⟩
   case rest =>
    as_aux_lemma =>
    clear HC21
    try clear c5
    try clear c7
    try clear c8
    try clear c8b0
    try clear c8b1
    try clear c20
    try clear c22
    try clear c22b0
    try clear c22b1
    try clear c24
    try clear hcz11_0 hcz11_1 hcz11_2 hcz11_3 hcz11_4 hcz11_5 hcz11_6 hcz11_7 hcz11_8 hcz11_9
    try clear hcz13_0 hcz13_1 hcz13_2 hcz13_3 hcz13_4 hcz13_5 hcz13_6 hcz13_7 hcz13_8 hcz13_9
    try clear hcz15_0 hcz15_1 hcz15_2 hcz15_3 hcz15_4 hcz15_5 hcz15_6 hcz15_7 hcz15_8 hcz15_9
    try clear hcz17_0 hcz17_1 hcz17_2 hcz17_3 hcz17_4 hcz17_5 hcz17_6 hcz17_7 hcz17_8 hcz17_9
    try clear hcz19_0 hcz19_1 hcz19_2 hcz19_3 hcz19_4 hcz19_5 hcz19_6 hcz19_7 hcz19_8 hcz19_9
    try clear hcz26_0 hcz26_1 hcz26_2 hcz26_3 hcz26_4 hcz26_5 hcz26_6 hcz26_7 hcz26_8 hcz26_9
    try clear hcz28_0 hcz28_1 hcz28_2 hcz28_3 hcz28_4 hcz28_5 hcz28_6 hcz28_7 hcz28_8 hcz28_9
    try clear hcz30_0 hcz30_1 hcz30_2 hcz30_3 hcz30_4 hcz30_5 hcz30_6 hcz30_7 hcz30_8 hcz30_9
    try clear hcz33_0 hcz33_1 hcz33_2 hcz33_3 hcz33_4 hcz33_5 hcz33_6 hcz33_7 hcz33_8 hcz33_9
    try clear hcz9_0 hcz9_1 hcz9_2 hcz9_3 hcz9_4 hcz9_5 hcz9_6 hcz9_7 hcz9_8 hcz9_9
    try clear hfz11_0 hfz11_1 hfz11_2 hfz11_3 hfz11_4 hfz11_5 hfz11_6 hfz11_7 hfz11_8 hfz11_9
    try clear hfz13_0 hfz13_1 hfz13_2 hfz13_3 hfz13_4 hfz13_5 hfz13_6 hfz13_7 hfz13_8 hfz13_9
    try clear hfz15_0 hfz15_1 hfz15_2 hfz15_3 hfz15_4 hfz15_5 hfz15_6 hfz15_7 hfz15_8 hfz15_9
    try clear hfz17_0 hfz17_1 hfz17_2 hfz17_3 hfz17_4 hfz17_5 hfz17_6 hfz17_7 hfz17_8 hfz17_9
    try clear hfz19_0 hfz19_1 hfz19_2 hfz19_3 hfz19_4 hfz19_5 hfz19_6 hfz19_7 hfz19_8 hfz19_9
    try clear hfz26_0 hfz26_1 hfz26_2 hfz26_3 hfz26_4 hfz26_5 hfz26_6 hfz26_7 hfz26_8 hfz26_9
    try clear hfz28_0 hfz28_1 hfz28_2 hfz28_3 hfz28_4 hfz28_5 hfz28_6 hfz28_7 hfz28_8 hfz28_9
    try clear hfz30_0 hfz30_1 hfz30_2 hfz30_3 hfz30_4 hfz30_5 hfz30_6 hfz30_7 hfz30_8 hfz30_9
    try clear hfz33_0 hfz33_1 hfz33_2 hfz33_3 hfz33_4 hfz33_5 hfz33_6 hfz33_7 hfz33_8 hfz33_9
    try clear hfz9_0 hfz9_1 hfz9_2 hfz9_3 hfz9_4 hfz9_5 hfz9_6 hfz9_7 hfz9_8 hfz9_9
    obtain ⟨kq, x40_20, rfl, HA, HJ20, BK351, HB⟩ := hcut
    cases kq with
    | zero => exact absurd HA.out (by simp [impl_isItem.j1])
    | succ kj20 =>
     have H := HA.out
     clear HA
     simp only [impl_isItem.j1] at H
     by_cases c35 : x40_20 = true
     ·subst c35
      replace H := (if_pos rfl).symm.trans H
      obtain rfl := Option.some.inj H
      go_wp2
      go_ret
      exact ⟨by first | rfl | (simp [errW_none, errW_some] <;> rfl) | (simp [*, errW_none, errW_some] <;> rfl), bw⟩
     as_aux_lemma =>
     replace c35 := Bool.eq_false_iff.mpr c35
     subst c35
     replace H := (if_neg (show ¬ (false = true) by decide)).symm.trans H
     by_cases c36 : a0_0 = 1
     rotate_left
     ·rw [if_neg c36] at H
      have c36b0 : (a0_0 == 1) = false := beq_eq_false_iff_ne.mpr c36
      have c36b1 : (a0_0 != 1) = true := bne_iff_ne.mpr c36
      by_cases c55 : (l0_9.length : Int) = 1
      rotate_left
      ·rw [if_neg c55] at H
       have c55b0 : ((l0_9.length : Int) == 1) = false := beq_eq_false_iff_ne.mpr c55
       have c55b1 : ((l0_9.length : Int) != 1) = true := bne_iff_ne.mpr c55
       obtain rfl := Option.some.inj H
       have hcz59_0 : wc.cell? ⟨gb351, 0, none⟩ = some (.int .i64 a0_0) := (blk_cell BK351.out 0).trans rfl
       have hcz59_1 : wc.cell? ⟨gb351, 1, none⟩ = some (.slice A0_1 l0_1.length c0_1) := (blk_cell BK351.out 1).trans rfl
       have hcz59_2 : wc.cell? ⟨gb351, 2, none⟩ = some (.int .i64 a0_2) := (blk_cell BK351.out 2).trans rfl
       have hcz59_3 : wc.cell? ⟨gb351, 3, none⟩ = some (.int .i64 a0_3) := (blk_cell BK351.out 3).trans rfl
       have hcz59_4 : wc.cell? ⟨gb351, 4, none⟩ = some (.int .i64 a0_4) := (blk_cell BK351.out 4).trans rfl
       have hcz59_5 : wc.cell? ⟨gb351, 5, none⟩ = some (.slice A0_5 l0_5.length c0_5) := (blk_cell BK351.out 5).trans rfl
       have hcz59_6 : wc.cell? ⟨gb351, 6, none⟩ = some (.slice A0_6 l0_6.length c0_6) := (blk_cell BK351.out 6).trans rfl
       have hcz59_7 : wc.cell? ⟨gb351, 7, none⟩ = some (.slice A0_7 l0_7.length c0_7) := (blk_cell BK351.out 7).trans rfl
       have hcz59_8 : wc.cell? ⟨gb351, 8, none⟩ = some (.slice A0_8 l0_8.length c0_8) := (blk_cell BK351.out 8).trans rfl
       have hcz59_9 : wc.cell? ⟨gb351, 9, none⟩ = some (.slice A0_9 l0_9.length c0_9) := (blk_cell BK351.out 9).trans rfl
       have hfz59_0 := blk_frozen BK351.out 0
       have hfz59_1 := blk_frozen BK351.out 1
       have hfz59_2 := blk_frozen BK351.out 2
       have hfz59_3 := blk_frozen BK351.out 3
       have hfz59_4 := blk_frozen BK351.out 4
       have hfz59_5 := blk_frozen BK351.out 5
       have hfz59_6 := blk_frozen BK351.out 6
       have hfz59_7 := blk_frozen BK351.out 7
       have hfz59_8 := blk_frozen BK351.out 8
       have hfz59_9 := blk_frozen BK351.out 9
       go_wp2
       go_ret
       exact ⟨by first | rfl | (simp [errW_none, errW_some] <;> rfl) | (simp [*, errW_none, errW_some] <;> rfl), bw⟩
      rw [if_pos c55] at H
      have c55b0 : ((l0_9.length : Int) == 1) = true := beq_iff_eq.mpr c55
      have c55b1 : ((l0_9.length : Int) != 1) = false := bne_eq_false_iff_eq.mpr c55
      clear c55
      by_cases c56 : (l0_8.length : Int) = 0
      ·rw [if_pos c56] at H
       have c56b0 : ((l0_8.length : Int) == 0) = true := beq_iff_eq.mpr c56
       have c56b1 : ((l0_8.length : Int) != 0) = false := bne_eq_false_iff_eq.mpr c56
       clear c56
       obtain rfl := Option.some.inj H
       have hcz57_0 : wc.cell? ⟨gb351, 0, none⟩ = some (.int .i64 a0_0) := (blk_cell BK351.out 0).trans rfl
       have hcz57_1 : wc.cell? ⟨gb351, 1, none⟩ = some (.slice A0_1 l0_1.length c0_1) := (blk_cell BK351.out 1).trans rfl
       have hcz57_2 : wc.cell? ⟨gb351, 2, none⟩ = some (.int .i64 a0_2) := (blk_cell BK351.out 2).trans rfl
       have hcz57_3 : wc.cell? ⟨gb351, 3, none⟩ = some (.int .i64 a0_3) := (blk_cell BK351.out 3).trans rfl
       have hcz57_4 : wc.cell? ⟨gb351, 4, none⟩ = some (.int .i64 a0_4) := (blk_cell BK351.out 4).trans rfl
       have hcz57_5 : wc.cell? ⟨gb351, 5, none⟩ = some (.slice A0_5 l0_5.length c0_5) := (blk_cell BK351.out 5).trans rfl
       have hcz57_6 : wc.cell? ⟨gb351, 6, none⟩ = some (.slice A0_6 l0_6.length c0_6) := (blk_cell BK351.out 6).trans rfl
       have hcz57_7 : wc.cell? ⟨gb351, 7, none⟩ = some (.slice A0_7 l0_7.length c0_7) := (blk_cell BK351.out 7).trans rfl
       have hcz57_8 : wc.cell? ⟨gb351, 8, none⟩ = some (.slice A0_8 l0_8.length c0_8) := (blk_cell BK351.out 8).trans rfl
       have hcz57_9 : wc.cell? ⟨gb351, 9, none⟩ = some (.slice A0_9 l0_9.length c0_9) := (blk_cell BK351.out 9).trans rfl
       have hfz57_0 := blk_frozen BK351.out 0
       have hfz57_1 := blk_frozen BK351.out 1
       have hfz57_2 := blk_frozen BK351.out 2
       have hfz57_3 := blk_frozen BK351.out 3
       have hfz57_4 := blk_frozen BK351.out 4
       have hfz57_5 := blk_frozen BK351.out 5
       have hfz57_6 := blk_frozen BK351.out 6
       have hfz57_7 := blk_frozen BK351.out 7
       have hfz57_8 := blk_frozen BK351.out 8
       have hfz57_9 := blk_frozen BK351.out 9
       go_wp2
       go_ret
       exact ⟨by first | rfl | (simp [errW_none, errW_some] <;> rfl) | (simp [*, errW_none, errW_some] <;> rfl), bw⟩
      rw [if_neg c56] at H
      have c56b0 : ((l0_8.length : Int) == 0) = false := beq_eq_false_iff_ne.mpr c56
      have c56b1 : ((l0_8.length : Int) != 0) = true := bne_iff_ne.mpr c56
      have c56b2 : ¬ (l0_8 = []) := fun h_ => c56 (by rw [h_]; rfl)
      obtain rfl := Option.some.inj H
      have hcz58_0 : wc.cell? ⟨gb351, 0, none⟩ = some (.int .i64 a0_0) := (blk_cell BK351.out 0).trans rfl
      have hcz58_1 : wc.cell? ⟨gb351, 1, none⟩ = some (.slice A0_1 l0_1.length c0_1) := (blk_cell BK351.out 1).trans rfl
      have hcz58_2 : wc.cell? ⟨gb351, 2, none⟩ = some (.int .i64 a0_2) := (blk_cell BK351.out 2).trans rfl
      have hcz58_3 : wc.cell? ⟨gb351, 3, none⟩ = some (.int .i64 a0_3) := (blk_cell BK351.out 3).trans rfl
      have hcz58_4 : wc.cell? ⟨gb351, 4, none⟩ = some (.int .i64 a0_4) := (blk_cell BK351.out 4).trans rfl
      have hcz58_5 : wc.cell? ⟨gb351, 5, none⟩ = some (.slice A0_5 l0_5.length c0_5) := (blk_cell BK351.out 5).trans rfl
      have hcz58_6 : wc.cell? ⟨gb351, 6, none⟩ = some (.slice A0_6 l0_6.length c0_6) := (blk_cell BK351.out 6).trans rfl
      have hcz58_7 : wc.cell? ⟨gb351, 7, none⟩ = some (.slice A0_7 l0_7.length c0_7) := (blk_cell BK351.out 7).trans rfl
      have hcz58_8 : wc.cell? ⟨gb351, 8, none⟩ = some (.slice A0_8 l0_8.length c0_8) := (blk_cell BK351.out 8).trans rfl
      have hcz58_9 : wc.cell? ⟨gb351, 9, none⟩ = some (.slice A0_9 l0_9.length c0_9) := (blk_cell BK351.out 9).trans rfl
      have hfz58_0 := blk_frozen BK351.out 0
      have hfz58_1 := blk_frozen BK351.out 1
      have hfz58_2 := blk_frozen BK351.out 2
      have hfz58_3 := blk_frozen BK351.out 3
      have hfz58_4 := blk_frozen BK351.out 4
      have hfz58_5 := blk_frozen BK351.out 5
      have hfz58_6 := blk_frozen BK351.out 6
      have hfz58_7 := blk_frozen BK351.out 7
      have hfz58_8 := blk_frozen BK351.out 8
      have hfz58_9 := blk_frozen BK351.out 9
      go_wp2
      go_ret
      exact ⟨by first | rfl | (simp [errW_none, errW_some] <;> rfl) | (simp [*, errW_none, errW_some] <;> rfl), bw⟩
     as_aux_lemma =>
     rw [if_pos c36] at H
     have c36b0 : (a0_0 == 1) = true := beq_iff_eq.mpr c36
     have c36b1 : (a0_0 != 1) = false := bne_eq_false_iff_eq.mpr c36
     clear c36
     have H' := Aside0.mk H
     clear H
     have hcz37_0 : wc.cell? ⟨gb351, 0, none⟩ = some (.int .i64 a0_0) := (blk_cell BK351.out 0).trans rfl
     have hcz37_1 : wc.cell? ⟨gb351, 1, none⟩ = some (.slice A0_1 l0_1.length c0_1) := (blk_cell BK351.out 1).trans rfl
     have hcz37_2 : wc.cell? ⟨gb351, 2, none⟩ = some (.int .i64 a0_2) := (blk_cell BK351.out 2).trans rfl
     have hcz37_3 : wc.cell? ⟨gb351, 3, none⟩ = some (.int .i64 a0_3) := (blk_cell BK351.out 3).trans rfl
     have hcz37_4 : wc.cell? ⟨gb351, 4, none⟩ = some (.int .i64 a0_4) := (blk_cell BK351.out 4).trans rfl
     have hcz37_5 : wc.cell? ⟨gb351, 5, none⟩ = some (.slice A0_5 l0_5.length c0_5) := (blk_cell BK351.out 5).trans rfl
     have hcz37_6 : wc.cell? ⟨gb351, 6, none⟩ = some (.slice A0_6 l0_6.length c0_6) := (blk_cell BK351.out 6).trans rfl
     have hcz37_7 : wc.cell? ⟨gb351, 7, none⟩ = some (.slice A0_7 l0_7.length c0_7) := (blk_cell BK351.out 7).trans rfl
     have hcz37_8 : wc.cell? ⟨gb351, 8, none⟩ = some (.slice A0_8 l0_8.length c0_8) := (blk_cell BK351.out 8).trans rfl
     have hcz37_9 : wc.cell? ⟨gb351, 9, none⟩ = some (.slice A0_9 l0_9.length c0_9) := (blk_cell BK351.out 9).trans rfl
     have hfz37_0 := blk_frozen BK351.out 0
     have hfz37_1 := blk_frozen BK351.out 1
     have hfz37_2 := blk_frozen BK351.out 2
     have hfz37_3 := blk_frozen BK351.out 3
     have hfz37_4 := blk_frozen BK351.out 4
     have hfz37_5 := blk_frozen BK351.out 5
     have hfz37_6 := blk_frozen BK351.out 6
     have hfz37_7 := blk_frozen BK351.out 7
     have hfz37_8 := blk_frozen BK351.out 8
     have hfz37_9 := blk_frozen BK351.out 9
     go_wp2
     go_loopg [62] kj20 (fun kq v62 w' => ∃ (x62_3 : Int), v62 = .int .i64 x62_3 ∧ Aside0 (impl_isItem.l0 kq l0_8 (l0_8.length : Int) x62_3 a0_0 l0_1 a0_2 a0_3 a0_4 l0_5 l0_6 l0_7 l0_8 l0_9 = some r) ∧ Aside0 (kq ≤ kj20) ∧ Aside0 (w'.heap[gb351]? = some (.cells #[.int .i64 a0_0, (.slice A0_1 l0_1.length c0_1), .int .i64 a0_2, .int .i64 a0_3, .int .i64 a0_4, (.slice A0_5 l0_5.length c0_5), (.slice A0_6 l0_6.length c0_6), (.slice A0_7 l0_7.length c0_7), (.slice A0_8 l0_8.length c0_8), (.slice A0_9 l0_9.length c0_9)] 94 (0, 0))) ∧ Bw w w')
     case atStart => exact ⟨(0), (by first | rfl | (simp; done) | (simp [*]; done)), H', ⟨Nat.le_refl _⟩, ⟨by (with_reducible repeat (first | refine blk_drewN ?_ _ | refine blk_drew ?_ | refine blk_alloc ?_ _)); exact BK351.out⟩, ⟨bw⟩⟩
     case round =>
      as_aux_lemma =>
      clear H'
      try clear c5
      try clear c7
      try clear c8
      try clear c8b0
      try clear c8b1
      try clear c20
      try clear c22
      try clear c22b0
      try clear c22b1
      try clear c24
      try clear c35
      try clear c36
      try clear c36b0
      try clear c36b1
      try clear hcz11_0 hcz11_1 hcz11_2 hcz11_3 hcz11_4 hcz11_5 hcz11_6 hcz11_7 hcz11_8 hcz11_9
      try clear hcz13_0 hcz13_1 hcz13_2 hcz13_3 hcz13_4 hcz13_5 hcz13_6 hcz13_7 hcz13_8 hcz13_9
      try clear hcz15_0 hcz15_1 hcz15_2 hcz15_3 hcz15_4 hcz15_5 hcz15_6 hcz15_7 hcz15_8 hcz15_9
      try clear hcz17_0 hcz17_1 hcz17_2 hcz17_3 hcz17_4 hcz17_5 hcz17_6 hcz17_7 hcz17_8 hcz17_9
      try clear hcz19_0 hcz19_1 hcz19_2 hcz19_3 hcz19_4 hcz19_5 hcz19_6 hcz19_7 hcz19_8 hcz19_9
      try clear hcz26_0 hcz26_1 hcz26_2 hcz26_3 hcz26_4 hcz26_5 hcz26_6 hcz26_7 hcz26_8 hcz26_9
      try clear hcz28_0 hcz28_1 hcz28_2 hcz28_3 hcz28_4 hcz28_5 hcz28_6 hcz28_7 hcz28_8 hcz28_9
      try clear hcz30_0 hcz30_1 hcz30_2 hcz30_3 hcz30_4 hcz30_5 hcz30_6 hcz30_7 hcz30_8 hcz30_9
      try clear hcz33_0 hcz33_1 hcz33_2 hcz33_3 hcz33_4 hcz33_5 hcz33_6 hcz33_7 hcz33_8 hcz33_9
      try clear hcz37_0 hcz37_1 hcz37_2 hcz37_3 hcz37_4 hcz37_5 hcz37_6 hcz37_7 hcz37_8 hcz37_9
      try clear hcz9_0 hcz9_1 hcz9_2 hcz9_3 hcz9_4 hcz9_5 hcz9_6 hcz9_7 hcz9_8 hcz9_9
      try clear hfz11_0 hfz11_1 hfz11_2 hfz11_3 hfz11_4 hfz11_5 hfz11_6 hfz11_7 hfz11_8 hfz11_9
      try clear hfz13_0 hfz13_1 hfz13_2 hfz13_3 hfz13_4 hfz13_5 hfz13_6 hfz13_7 hfz13_8 hfz13_9
      try clear hfz15_0 hfz15_1 hfz15_2 hfz15_3 hfz15_4 hfz15_5 hfz15_6 hfz15_7 hfz15_8 hfz15_9
      try clear hfz17_0 hfz17_1 hfz17_2 hfz17_3 hfz17_4 hfz17_5 hfz17_6 hfz17_7 hfz17_8 hfz17_9
      try clear hfz19_0 hfz19_1 hfz19_2 hfz19_3 hfz19_4 hfz19_5 hfz19_6 hfz19_7 hfz19_8 hfz19_9
      try clear hfz26_0 hfz26_1 hfz26_2 hfz26_3 hfz26_4 hfz26_5 hfz26_6 hfz26_7 hfz26_8 hfz26_9
      try clear hfz28_0 hfz28_1 hfz28_2 hfz28_3 hfz28_4 hfz28_5 hfz28_6 hfz28_7 hfz28_8 hfz28_9
      try clear hfz30_0 hfz30_1 hfz30_2 hfz30_3 hfz30_4 hfz30_5 hfz30_6 hfz30_7 hfz30_8 hfz30_9
      try clear hfz33_0 hfz33_1 hfz33_2 hfz33_3 hfz33_4 hfz33_5 hfz33_6 hfz33_7 hfz33_8 hfz33_9
      try clear hfz37_0 hfz37_1 hfz37_2 hfz37_3 hfz37_4 hfz37_5 hfz37_6 hfz37_7 hfz37_8 hfz37_9
      try clear hfz9_0 hfz9_1 hfz9_2 hfz9_3 hfz9_4 hfz9_5 hfz9_6 hfz9_7 hfz9_8 hfz9_9
      obtain ⟨x62_3, rfl, HA, HK3, BK351, HB⟩ := hrel
      cases gk with
      | zero => exact absurd HA.out (by simp [impl_isItem.l0])
      | succ k3 =>
       have H := HA.out
       clear HA
       simp only [impl_isItem.l0] at H
       by_cases c38 : x62_3 < (l0_8.length : Int)
       rotate_left
       ·rw [if_neg c38] at H
        have c38b0 : decide (x62_3 < (l0_8.length : Int)) = false := decide_eq_false c38
        clear c38
        replace H := Option.bind_eq_some_iff.mp H
        obtain ⟨t358, A510, H⟩ := H
        have A51 := Aside0.mk A510
        clear A510
        by_cases c52 : t358 = true
        ·subst c52
         replace H := (if_pos rfl).symm.trans H
         obtain rfl := Option.some.inj H
         have hcz53_0 : wr.cell? ⟨gb351, 0, none⟩ = some (.int .i64 a0_0) := (blk_cell BK351.out 0).trans rfl
         have hcz53_1 : wr.cell? ⟨gb351, 1, none⟩ = some (.slice A0_1 l0_1.length c0_1) := (blk_cell BK351.out 1).trans rfl
         have hcz53_2 : wr.cell? ⟨gb351, 2, none⟩ = some (.int .i64 a0_2) := (blk_cell BK351.out 2).trans rfl
         have hcz53_3 : wr.cell? ⟨gb351, 3, none⟩ = some (.int .i64 a0_3) := (blk_cell BK351.out 3).trans rfl
         have hcz53_4 : wr.cell? ⟨gb351, 4, none⟩ = some (.int .i64 a0_4) := (blk_cell BK351.out 4).trans rfl
         have hcz53_5 : wr.cell? ⟨gb351, 5, none⟩ = some (.slice A0_5 l0_5.length c0_5) := (blk_cell BK351.out 5).trans rfl
         have hcz53_6 : wr.cell? ⟨gb351, 6, none⟩ = some (.slice A0_6 l0_6.length c0_6) := (blk_cell BK351.out 6).trans rfl
         have hcz53_7 : wr.cell? ⟨gb351, 7, none⟩ = some (.slice A0_7 l0_7.length c0_7) := (blk_cell BK351.out 7).trans rfl
         have hcz53_8 : wr.cell? ⟨gb351, 8, none⟩ = some (.slice A0_8 l0_8.length c0_8) := (blk_cell BK351.out 8).trans rfl
         have hcz53_9 : wr.cell? ⟨gb351, 9, none⟩ = some (.slice A0_9 l0_9.length c0_9) := (blk_cell BK351.out 9).trans rfl
         have hfz53_0 := blk_frozen BK351.out 0
         have hfz53_1 := blk_frozen BK351.out 1
         have hfz53_2 := blk_frozen BK351.out 2
         have hfz53_3 := blk_frozen BK351.out 3
         have hfz53_4 := blk_frozen BK351.out 4
         have hfz53_5 := blk_frozen BK351.out 5
         have hfz53_6 := blk_frozen BK351.out 6
         have hfz53_7 := blk_frozen BK351.out 7
         have hfz53_8 := blk_frozen BK351.out 8
         have hfz53_9 := blk_frozen BK351.out 9
         go_wp2_with (first | ((with_reducible refine gg (f := 117) (some 88) rfl rfl rfl fr117 ?_); refine onc (impl_in.calls a0_2 0 2 true _ A51.out) rfl ?_; rintro e w' ⟨rfl, ⟨nd, rfl⟩⟩; refine ⟨_, rfl, ?_⟩))
         go_ret
         exact ⟨by first | rfl | (simp [errW_none, errW_some] <;> rfl) | (simp [*, errW_none, errW_some] <;> rfl), bw⟩
        replace c52 := Bool.eq_false_iff.mpr c52
        subst c52
        replace H := (if_neg (show ¬ (false = true) by decide)).symm.trans H
        obtain rfl := Option.some.inj H
        have hcz54_0 : wr.cell? ⟨gb351, 0, none⟩ = some (.int .i64 a0_0) := (blk_cell BK351.out 0).trans rfl
        have hcz54_1 : wr.cell? ⟨gb351, 1, none⟩ = some (.slice A0_1 l0_1.length c0_1) := (blk_cell BK351.out 1).trans rfl
        have hcz54_2 : wr.cell? ⟨gb351, 2, none⟩ = some (.int .i64 a0_2) := (blk_cell BK351.out 2).trans rfl
        have hcz54_3 : wr.cell? ⟨gb351, 3, none⟩ = some (.int .i64 a0_3) := (blk_cell BK351.out 3).trans rfl
        have hcz54_4 : wr.cell? ⟨gb351, 4, none⟩ = some (.int .i64 a0_4) := (blk_cell BK351.out 4).trans rfl
        have hcz54_5 : wr.cell? ⟨gb351, 5, none⟩ = some (.slice A0_5 l0_5.length c0_5) := (blk_cell BK351.out 5).trans rfl
        have hcz54_6 : wr.cell? ⟨gb351, 6, none⟩ = some (.slice A0_6 l0_6.length c0_6) := (blk_cell BK351.out 6).trans rfl
        have hcz54_7 : wr.cell? ⟨gb351, 7, none⟩ = some (.slice A0_7 l0_7.length c0_7) := (blk_cell BK351.out 7).trans rfl
        have hcz54_8 : wr.cell? ⟨gb351, 8, none⟩ = some (.slice A0_8 l0_8.length c0_8) := (blk_cell BK351.out 8).trans rfl
        have hcz54_9 : wr.cell? ⟨gb351, 9, none⟩ = some (.slice A0_9 l0_9.length c0_9) := (blk_cell BK351.out 9).trans rfl
        have hfz54_0 := blk_frozen BK351.out 0
        have hfz54_1 := blk_frozen BK351.out 1
        have hfz54_2 := blk_frozen BK351.out 2
        have hfz54_3 := blk_frozen BK351.out 3
        have hfz54_4 := blk_frozen BK351.out 4
        have hfz54_5 := blk_frozen BK351.out 5
        have hfz54_6 := blk_frozen BK351.out 6
        have hfz54_7 := blk_frozen BK351.out 7
        have hfz54_8 := blk_frozen BK351.out 8
        have hfz54_9 := blk_frozen BK351.out 9
        go_wp2_with (first | ((with_reducible refine gg (f := 117) (some 88) rfl rfl rfl fr117 ?_); refine onc (impl_in.calls a0_2 0 2 false _ A51.out) rfl ?_; rintro e w' ⟨rfl, ⟨nd, rfl⟩⟩; refine ⟨_, rfl, ?_⟩))
        go_ret
        exact ⟨by first | rfl | (simp [errW_none, errW_some] <;> rfl) | (simp [*, errW_none, errW_some] <;> rfl), bw⟩
       as_aux_lemma =>
       rw [if_pos c38] at H
       have c38b0 : decide (x62_3 < (l0_8.length : Int)) = true := decide_eq_true c38
       clear c38
       by_cases c39 : 0 ≤ x62_3
       rotate_left
       ·rw [if_neg c39] at H
        exact absurd H (by simp)
       as_aux_lemma =>
       rw [if_pos c39] at H
       have c39b0 : decide (0 ≤ x62_3) = true := decide_eq_true c39
       clear c39
       by_cases c40 : x62_3 < (l0_8.length : Int)
       rotate_left
       ·rw [if_neg c40] at H
        exact absurd H (by simp)
       as_aux_lemma =>
       rw [if_pos c40] at H
       have c40b0 : decide (x62_3 < (l0_8.length : Int)) = true := decide_eq_true c40
       clear c40
       replace H := Option.bind_eq_some_iff.mp H
       obtain ⟨t360, A410, H⟩ := H
       have A41 := Aside0.mk A410
       clear A410
       by_cases c42 : t360 = true
       rotate_left
       ·replace c42 := Bool.eq_false_iff.mpr c42
        subst c42
        replace H := (if_neg (show ¬ (false = true) by decide)).symm.trans H
        obtain rfl := Option.some.inj H
        have p359 : 0 ≤ (x62_3 : Int) := of_decide_eq_true (by first | (with_reducible assumption) | assumption)
        have q359 : x62_3 < (l0_8.length : Int) := of_decide_eq_true (by first | (with_reducible assumption) | assumption)
        obtain ⟨ad359, A359_0, c359_0, e359, hx359_0, hl359_0, hi359_0⟩ := at_L1 HR0_8.out x62_3 p359 q359
        cases e359
        replace hx359_0 := (HB.out.cell (World.block_lt_of_cell? w _ hx359_0)).trans hx359_0
        have HR359_0 := Aside0.mk hi359_0
        have HC359_0 := Aside0.mk hl359_0
        clear hi359_0 hl359_0
        replace p359 := eq_true p359
        replace q359 := eq_true q359
        go_wp2_with (first | ((with_reducible refine gg (f := 119) (some 68) rfl rfl rfl fr119 ?_); refine onc (impl_isName.calls k3 _ _ (rd_L1 l0_8 x62_3) false _ (cb HR359_0) HC359_0.out A41.out) rfl ?_; rintro e w' ⟨rfl, ⟨nd, rfl⟩⟩; refine ⟨_, rfl, ?_⟩))
        go_ret
        exact ⟨by first | rfl | (simp [errW_none, errW_some] <;> rfl) | (simp [*, errW_none, errW_some] <;> rfl), bw⟩
       as_aux_lemma =>
       subst c42
       replace H := (if_pos rfl).symm.trans H
       by_cases c43 : x62_3 > 0
       rotate_left
       ·rw [if_neg c43] at H
        have c43b0 : decide (0 < x62_3) = false := decide_eq_false c43
        clear c43
        have H' := Aside0.mk H
        clear H
        have p359 : 0 ≤ (x62_3 : Int) := of_decide_eq_true (by first | (with_reducible assumption) | assumption)
        have q359 : x62_3 < (l0_8.length : Int) := of_decide_eq_true (by first | (with_reducible assumption) | assumption)
        obtain ⟨ad359, A359_0, c359_0, e359, hx359_0, hl359_0, hi359_0⟩ := at_L1 HR0_8.out x62_3 p359 q359
        cases e359
        replace hx359_0 := (HB.out.cell (World.block_lt_of_cell? w _ hx359_0)).trans hx359_0
        have HR359_0 := Aside0.mk hi359_0
        have HC359_0 := Aside0.mk hl359_0
        clear hi359_0 hl359_0
        replace p359 := eq_true p359
        replace q359 := eq_true q359
        go_wp2_with (first | ((with_reducible refine gg (f := 119) (some 68) rfl rfl rfl fr119 ?_); refine onc (impl_isName.calls k3 _ _ (rd_L1 l0_8 x62_3) true _ (cb HR359_0) HC359_0.out A41.out) rfl ?_; rintro e w' ⟨rfl, ⟨nd, rfl⟩⟩; refine ⟨_, rfl, ?_⟩))
        go_roundg k3
        case measure => have := HJ1.out; have := HJ20.out; have := HK3.out; omega
        case rel => exact ⟨(wrap64 (x62_3 + 1)), (by first | rfl | (simp; done) | (simp [*]; done)), H', ⟨by have := HJ1.out; have := HJ20.out; have := HK3.out; omega⟩, ⟨by (with_reducible repeat (first | refine blk_drewN ?_ _ | refine blk_drew ?_ | refine blk_alloc ?_ _)); exact BK351.out⟩, ⟨bw⟩⟩
       as_aux_lemma =>
       rw [if_pos c43] at H
       have c43b0 : decide (0 < x62_3) = true := decide_eq_true c43
       clear c43
       obtain ⟨ji44, hji44⟩ : ∃ j_ : Int, (wrap64 (x62_3 - 1)) = j_ := ⟨_, rfl⟩
       replace H : (if 0 ≤ (ji44) then (if (ji44) < (l0_8.length : Int) then ((bytes_Compare.f (rd_L1 l0_8 (ji44)) (rd_L1 l0_8 x62_3)).bind fun t362 => (if t362 ≥ 0 then (some false) else (impl_isItem.l0 k3 l0_8 (l0_8.length : Int) (wrap64 (x62_3 + 1)) a0_0 l0_1 a0_2 a0_3 a0_4 l0_5 l0_6 l0_7 l0_8 l0_9))) else (none)) else (none)) = some r := by first | (rw [hji44] at H; exact H) | (simp only [hji44] at H ⊢; exact H)
       (try rw [hji44] at A41)
       have hji44w : (IntKind.i64.wrap (x62_3 - 1)) = ji44 := (i64_w _).trans hji44
       by_cases c45 : 0 ≤ (ji44)
       rotate_left
       ·rw [if_neg c45] at H
        exact absurd H (by simp)
       rw [if_pos c45] at H
       have c45b0 : decide (0 ≤ (ji44)) = true := decide_eq_true c45
       clear c45
       by_cases c46 : (ji44) < (l0_8.length : Int)
       rotate_left
       ·rw [if_neg c46] at H
        exact absurd H (by simp)
       rw [if_pos c46] at H
       have c46b0 : decide ((ji44) < (l0_8.length : Int)) = true := decide_eq_true c46
       clear c46
       replace H := Option.bind_eq_some_iff.mp H
       obtain ⟨t362, A470, H⟩ := H
       have A47 := Aside0.mk A470
       clear A470
       by_cases c48 : t362 ≥ 0
       ·rw [if_pos c48] at H
        have c48b0 : decide (0 ≤ t362) = true := decide_eq_true c48
        clear c48
        obtain rfl := Option.some.inj H
        have p359 : 0 ≤ (x62_3 : Int) := of_decide_eq_true (by first | (with_reducible assumption) | assumption)
        have q359 : x62_3 < (l0_8.length : Int) := of_decide_eq_true (by first | (with_reducible assumption) | assumption)
        obtain ⟨ad359, A359_0, c359_0, e359, hx359_0, hl359_0, hi359_0⟩ := at_L1 HR0_8.out x62_3 p359 q359
        cases e359
        replace hx359_0 := (HB.out.cell (World.block_lt_of_cell? w _ hx359_0)).trans hx359_0
        have HR359_0 := Aside0.mk hi359_0
        have HC359_0 := Aside0.mk hl359_0
        clear hi359_0 hl359_0
        replace p359 := eq_true p359
        replace q359 := eq_true q359
        go_wp2_with (first | ((with_reducible refine gg (f := 119) (some 68) rfl rfl rfl fr119 ?_); refine onc (impl_isName.calls k3 _ _ (rd_L1 l0_8 x62_3) true _ (cb HR359_0) HC359_0.out A41.out) rfl ?_; rintro e w' ⟨rfl, ⟨nd, rfl⟩⟩; refine ⟨_, rfl, ?_⟩; have hcz49_0 : wr.cell? ⟨gb351, 0, none⟩ = some (.int .i64 a0_0) := (blk_cell BK351.out 0).trans rfl; have hcz49_1 : wr.cell? ⟨gb351, 1, none⟩ = some (.slice A0_1 l0_1.length c0_1) := (blk_cell BK351.out 1).trans rfl; have hcz49_2 : wr.cell? ⟨gb351, 2, none⟩ = some (.int .i64 a0_2) := (blk_cell BK351.out 2).trans rfl; have hcz49_3 : wr.cell? ⟨gb351, 3, none⟩ = some (.int .i64 a0_3) := (blk_cell BK351.out 3).trans rfl; have hcz49_4 : wr.cell? ⟨gb351, 4, none⟩ = some (.int .i64 a0_4) := (blk_cell BK351.out 4).trans rfl; have hcz49_5 : wr.cell? ⟨gb351, 5, none⟩ = some (.slice A0_5 l0_5.length c0_5) := (blk_cell BK351.out 5).trans rfl; have hcz49_6 : wr.cell? ⟨gb351, 6, none⟩ = some (.slice A0_6 l0_6.length c0_6) := (blk_cell BK351.out 6).trans rfl; have hcz49_7 : wr.cell? ⟨gb351, 7, none⟩ = some (.slice A0_7 l0_7.length c0_7) := (blk_cell BK351.out 7).trans rfl; have hcz49_8 : wr.cell? ⟨gb351, 8, none⟩ = some (.slice (some ad359) l0_8.length c0_8) := (blk_cell BK351.out 8).trans rfl; have hcz49_9 : wr.cell? ⟨gb351, 9, none⟩ = some (.slice A0_9 l0_9.length c0_9) := (blk_cell BK351.out 9).trans rfl; have hfz49_0 := blk_frozen BK351.out 0; have hfz49_1 := blk_frozen BK351.out 1; have hfz49_2 := blk_frozen BK351.out 2; have hfz49_3 := blk_frozen BK351.out 3; have hfz49_4 := blk_frozen BK351.out 4; have hfz49_5 := blk_frozen BK351.out 5; have hfz49_6 := blk_frozen BK351.out 6; have hfz49_7 := blk_frozen BK351.out 7; have hfz49_8 := blk_frozen BK351.out 8; have hfz49_9 := blk_frozen BK351.out 9; have p361 : 0 ≤ ((ji44) : Int) := of_decide_eq_true (by first | (with_reducible assumption) | assumption); have q361 : (ji44) < (l0_8.length : Int) := of_decide_eq_true (by first | (with_reducible assumption) | assumption); obtain ⟨ad361, A361_0, c361_0, e361, hx361_0, hl361_0, hi361_0⟩ := at_L1 HR0_8.out (ji44) p361 q361; obtain rfl : ad359 = ad361 := (by injection e361); replace hx361_0 := (HB.out.cell (World.block_lt_of_cell? w _ hx361_0)).trans hx361_0; have HR361_0 := Aside0.mk hi361_0; have HC361_0 := Aside0.mk hl361_0; clear hi361_0 hl361_0; replace p361 := eq_true p361; replace q361 := eq_true q361) | (go_at_call 85; (with_reducible refine (bytes_Compare.calls _ _ (rd_L1 l0_8 (ji44)) _ _ (rd_L1 l0_8 x62_3) t362 _ ?side1 ?side2 ?side3 ?side4 A47.out).mono ?_); (case side1 => repeat (first | exact (Kd.C_below HR361_0.out bw) | (with_reducible refine Kd.C_alloc ?_ _) | (with_reducible refine Kd.C_drewN ?_ _) | (with_reducible refine Kd.C_drew ?_))); (case side2 => exact HC361_0.out); (case side3 => repeat (first | exact (Kd.C_below HR359_0.out bw) | (with_reducible refine Kd.C_alloc ?_ _) | (with_reducible refine Kd.C_drewN ?_ _) | (with_reducible refine Kd.C_drew ?_))); (case side4 => exact HC359_0.out); rintro e w' ⟨rfl, ⟨nd, rfl⟩⟩))
        go_ret
        exact ⟨by first | rfl | (simp [errW_none, errW_some] <;> rfl) | (simp only [← hji44]; first | rfl | (simp [errW_none, errW_some] <;> rfl)) | (simp [*, errW_none, errW_some] <;> rfl), bw⟩
       rw [if_neg c48] at H
       have c48b0 : decide (0 ≤ t362) = false := decide_eq_false c48
       clear c48
       have H' := Aside0.mk H
       clear H
       have p359 : 0 ≤ (x62_3 : Int) := of_decide_eq_true (by first | (with_reducible assumption) | assumption)
       have q359 : x62_3 < (l0_8.length : Int) := of_decide_eq_true (by first | (with_reducible assumption) | assumption)
       obtain ⟨ad359, A359_0, c359_0, e359, hx359_0, hl359_0, hi359_0⟩ := at_L1 HR0_8.out x62_3 p359 q359
       cases e359
       replace hx359_0 := (HB.out.cell (World.block_lt_of_cell? w _ hx359_0)).trans hx359_0
       have HR359_0 := Aside0.mk hi359_0
       have HC359_0 := Aside0.mk hl359_0
       clear hi359_0 hl359_0
       replace p359 := eq_true p359
       replace q359 := eq_true q359
       go_wp2_with (first | ((with_reducible refine gg (f := 119) (some 68) rfl rfl rfl fr119 ?_); refine onc (impl_isName.calls k3 _ _ (rd_L1 l0_8 x62_3) true _ (cb HR359_0) HC359_0.out A41.out) rfl ?_; rintro e w' ⟨rfl, ⟨nd, rfl⟩⟩; refine ⟨_, rfl, ?_⟩; have hcz50_0 : wr.cell? ⟨gb351, 0, none⟩ = some (.int .i64 a0_0) := (blk_cell BK351.out 0).trans rfl; have hcz50_1 : wr.cell? ⟨gb351, 1, none⟩ = some (.slice A0_1 l0_1.length c0_1) := (blk_cell BK351.out 1).trans rfl; have hcz50_2 : wr.cell? ⟨gb351, 2, none⟩ = some (.int .i64 a0_2) := (blk_cell BK351.out 2).trans rfl; have hcz50_3 : wr.cell? ⟨gb351, 3, none⟩ = some (.int .i64 a0_3) := (blk_cell BK351.out 3).trans rfl; have hcz50_4 : wr.cell? ⟨gb351, 4, none⟩ = some (.int .i64 a0_4) := (blk_cell BK351.out 4).trans rfl; have hcz50_5 : wr.cell? ⟨gb351, 5, none⟩ = some (.slice A0_5 l0_5.length c0_5) := (blk_cell BK351.out 5).trans rfl; have hcz50_6 : wr.cell? ⟨gb351, 6, none⟩ = some (.slice A0_6 l0_6.length c0_6) := (blk_cell BK351.out 6).trans rfl; have hcz50_7 : wr.cell? ⟨gb351, 7, none⟩ = some (.slice A0_7 l0_7.length c0_7) := (blk_cell BK351.out 7).trans rfl; have hcz50_8 : wr.cell? ⟨gb351, 8, none⟩ = some (.slice (some ad359) l0_8.length c0_8) := (blk_cell BK351.out 8).trans rfl; have hcz50_9 : wr.cell? ⟨gb351, 9, none⟩ = some (.slice A0_9 l0_9.length c0_9) := (blk_cell BK351.out 9).trans rfl; have hfz50_0 := blk_frozen BK351.out 0; have hfz50_1 := blk_frozen BK351.out 1; have hfz50_2 := blk_frozen BK351.out 2; have hfz50_3 := blk_frozen BK351.out 3; have hfz50_4 := blk_frozen BK351.out 4; have hfz50_5 := blk_frozen BK351.out 5; have hfz50_6 := blk_frozen BK351.out 6; have hfz50_7 := blk_frozen BK351.out 7; have hfz50_8 := blk_frozen BK351.out 8; have hfz50_9 := blk_frozen BK351.out 9; have p361 : 0 ≤ ((ji44) : Int) := of_decide_eq_true (by first | (with_reducible assumption) | assumption); have q361 : (ji44) < (l0_8.length : Int) := of_decide_eq_true (by first | (with_reducible assumption) | assumption); obtain ⟨ad361, A361_0, c361_0, e361, hx361_0, hl361_0, hi361_0⟩ := at_L1 HR0_8.out (ji44) p361 q361; obtain rfl : ad359 = ad361 := (by injection e361); replace hx361_0 := (HB.out.cell (World.block_lt_of_cell? w _ hx361_0)).trans hx361_0; have HR361_0 := Aside0.mk hi361_0; have HC361_0 := Aside0.mk hl361_0; clear hi361_0 hl361_0; replace p361 := eq_true p361; replace q361 := eq_true q361) | (go_at_call 85; (with_reducible refine (bytes_Compare.calls _ _ (rd_L1 l0_8 (ji44)) _ _ (rd_L1 l0_8 x62_3) t362 _ ?side1 ?side2 ?side3 ?side4 A47.out).mono ?_); (case side1 => repeat (first | exact (Kd.C_below HR361_0.out bw) | (with_reducible refine Kd.C_alloc ?_ _) | (with_reducible refine Kd.C_drewN ?_ _) | (with_reducible refine Kd.C_drew ?_))); (case side2 => exact HC361_0.out); (case side3 => repeat (first | exact (Kd.C_below HR359_0.out bw) | (with_reducible refine Kd.C_alloc ?_ _) | (with_reducible refine Kd.C_drewN ?_ _) | (with_reducible refine Kd.C_drew ?_))); (case side4 => exact HC359_0.out); rintro e w' ⟨rfl, ⟨nd, rfl⟩⟩))
       go_roundg k3
       case measure => have := HJ1.out; have := HJ20.out; have := HK3.out; omega
       case rel => exact ⟨(wrap64 (x62_3 + 1)), (by first | rfl | (simp; done) | (simp [*]; done)), H', ⟨by have := HJ1.out; have := HJ20.out; have := HK3.out; omega⟩, ⟨by (with_reducible repeat (first | refine blk_drewN ?_ _ | refine blk_drew ?_ | refine blk_alloc ?_ _)); exact BK351.out⟩, ⟨bw⟩⟩

end Go.Proofs.Ytockllljeeakaaa.PFnExactConfigOk
