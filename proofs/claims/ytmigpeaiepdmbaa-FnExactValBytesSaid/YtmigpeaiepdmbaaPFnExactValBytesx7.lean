/- What the law reaches: each function as a plain Lean function, and that each call comes to it. No condition. -/
import Derived.Test.YtmigpeaiepdmbaaPFnExactValBytesx0
import Derived.Test.YtmigpeaiepdmbaaPFnExactValBytesx6
namespace Go.Proofs.Ytmigpeaiepdmbaa.PFnExactValBytes
open Go.RowKit Go.Proofs.YtmigpeaiepdmbaaW.PrintWords Go.Proofs.YtmigpeaiepdmbaaW.PrintLast Go.Proofs.YtmigpeaiepdmbaaW.PrintMore Go.Proofs.Ytmigpeaiepdmbaa.M
attribute [local go_sem] max2_int min2_int max_two min_two max_three min_three max_four min_four Go.Proofs.Ytmigpeaiepdmbaa.M.str_gtr Go.Proofs.Ytmigpeaiepdmbaa.M.str_leq Go.Proofs.Ytmigpeaiepdmbaa.M.str_geq   -- for this text's walks alone
set_option linter.unusedVariables false
set_option linter.unusedSimpArgs false

/-! ### spec_l2put: function 80 -/
mutual
def spec_l2put.j0 : Nat → List Int → Bool → Int → Int → List Int → List (List Int) → List (S40) → Option (List Int)
 | 0, _, _, _, _, _, _, _ => none
 | k + 1, x0, x43, x264000, x264001, x264002, x264003, x264004 => if x43 = true then ((spec_PutNum.f k x0 (x264004.length : Int)).bind fun t291 => (spec_l2put.l0 k t291 0 x264000 x264001 x264002 x264003 x264004)) else (some x0)
def spec_l2put.l0 : Nat → List Int → Int → Int → Int → List Int → List (List Int) → List (S40) → Option (List Int)
 | 0, _, _, _, _, _, _, _ => none
 | k + 1, x0, x7, x264000, x264001, x264002, x264003, x264004 => if x7 < (x264004.length : Int) then (if x264000 = 5 then (if 0 ≤ x7 then (if x7 < (x264003.length : Int) then ((spec_PutText.f k x0 (rd_L1 x264003 x7)).bind fun t295 => ((spec_l2put.f k t295 ((rd_T40 x264004 x7).f0) ((rd_T40 x264004 x7).f1) ((rd_T40 x264004 x7).f2) ((rd_T40 x264004 x7).f3) ((rd_T40 x264004 x7).f4)).bind fun t299 => (spec_l2put.l0 k t299 (wrap64 (x7 + 1)) x264000 x264001 x264002 x264003 x264004))) else (none)) else (none)) else (if 0 ≤ x7 then ((spec_l2put.f k x0 ((rd_T40 x264004 x7).f0) ((rd_T40 x264004 x7).f1) ((rd_T40 x264004 x7).f2) ((rd_T40 x264004 x7).f3) ((rd_T40 x264004 x7).f4)).bind fun t303 => (spec_l2put.l0 k t303 (wrap64 (x7 + 1)) x264000 x264001 x264002 x264003 x264004)) else (none))) else (some x0)
def spec_l2put.f : Nat → List Int → Int → Int → List Int → List (List Int) → List (S40) → Option (List Int)
 | 0, _, _, _, _, _, _ => none
 | k + 1, l0, a1_0, a1_1, l1_2, l1_3, l1_4 => (spec_PutNum.f k l0 a1_0).bind fun t264 => (if a1_0 = 1 then ((spec_PutNum.f k t264 a1_1).bind fun t267 => (some t267)) else (if a1_0 = 2 then (if a1_1 < 0 then ((spec_PutNum.f k t264 1).bind fun t270 => ((spec_PutNum.f k t270 (wrap64 (Int.tdiv (wrap64 (-a1_1)) 1000000))).bind fun t273 => ((spec_PutNum.f k t273 (Int.tmod (wrap64 (-a1_1)) 1000000)).bind fun t276 => (some t276)))) else ((spec_PutNum.f k t264 0).bind fun t279 => ((spec_PutNum.f k t279 (wrap64 (Int.tdiv a1_1 1000000))).bind fun t282 => ((spec_PutNum.f k t282 (Int.tmod a1_1 1000000)).bind fun t285 => (some t285))))) else (if a1_0 = 3 then ((spec_PutText.f k t264 l1_2).bind fun t288 => (some t288)) else (if a1_0 = 4 then (spec_l2put.j0 k t264 (a1_0 == 4) a1_0 a1_1 l1_2 l1_3 l1_4) else (spec_l2put.j0 k t264 (a1_0 == 5) a1_0 a1_1 l1_2 l1_3 l1_4)))))
end
theorem spec_l2put.mono_l : ∀ k, (∀ y0 y1 y2 y3 y4 y5, LeO (spec_l2put.f k y0 y1 y2 y3 y4 y5) (spec_l2put.f (k + 1) y0 y1 y2 y3 y4 y5)) ∧ (∀ y0 y1 y2 y3 y4 y5 y6, LeO (spec_l2put.j0 k y0 y1 y2 y3 y4 y5 y6) (spec_l2put.j0 (k + 1) y0 y1 y2 y3 y4 y5 y6)) ∧ (∀ y0 y1 y2 y3 y4 y5 y6, LeO (spec_l2put.l0 k y0 y1 y2 y3 y4 y5 y6) (spec_l2put.l0 (k + 1) y0 y1 y2 y3 y4 y5 y6))
 | 0 => ⟨fun _ _ _ _ _ _ r h => by simp [spec_l2put.f] at h, fun _ _ _ _ _ _ _ r h => by simp [spec_l2put.j0] at h, fun _ _ _ _ _ _ _ r h => by simp [spec_l2put.l0] at h⟩
 | k + 1 => by
  obtain ⟨ih0, ih1, ih2⟩ := spec_l2put.mono_l k
  refine ⟨?_, ?_, ?_⟩
  ·intro y0 y1 y2 y3 y4 y5
   unfold spec_l2put.f
   repeat' first
   | (with_reducible exact ih0 _ _ _ _ _ _)
   | (with_reducible exact ih1 _ _ _ _ _ _ _)
   | (with_reducible exact ih2 _ _ _ _ _ _ _)
   | (with_reducible exact spec_PutNum.mono _ _ _)
   | (with_reducible exact spec_PutText.mono _ _ _)
   | (with_reducible exact LeO.refl _)
   | (with_reducible exact LeO.none _)
   | (with_reducible refine LeO.ite ?_ ?_)
   | (with_reducible refine LeO.bind ?_ (fun _ => ?_))
   | exact ih0 _ _ _ _ _ _
   | exact ih1 _ _ _ _ _ _ _
   | exact ih2 _ _ _ _ _ _ _
   | exact spec_PutNum.mono _ _ _
   | exact spec_PutText.mono _ _ _
   | exact LeO.none _
   | refine LeO.ite ?_ ?_
   | refine LeO.bind ?_ (fun _ => ?_)
  ·intro y0 y1 y2 y3 y4 y5 y6
   unfold spec_l2put.j0
   repeat' first
   | (with_reducible exact ih0 _ _ _ _ _ _)
   | (with_reducible exact ih1 _ _ _ _ _ _ _)
   | (with_reducible exact ih2 _ _ _ _ _ _ _)
   | (with_reducible exact spec_PutNum.mono _ _ _)
   | (with_reducible exact spec_PutText.mono _ _ _)
   | (with_reducible exact LeO.refl _)
   | (with_reducible exact LeO.none _)
   | (with_reducible refine LeO.ite ?_ ?_)
   | (with_reducible refine LeO.bind ?_ (fun _ => ?_))
   | exact ih0 _ _ _ _ _ _
   | exact ih1 _ _ _ _ _ _ _
   | exact ih2 _ _ _ _ _ _ _
   | exact spec_PutNum.mono _ _ _
   | exact spec_PutText.mono _ _ _
   | exact LeO.none _
   | refine LeO.ite ?_ ?_
   | refine LeO.bind ?_ (fun _ => ?_)
  ·intro y0 y1 y2 y3 y4 y5 y6
   unfold spec_l2put.l0
   repeat' first
   | (with_reducible exact ih0 _ _ _ _ _ _)
   | (with_reducible exact ih1 _ _ _ _ _ _ _)
   | (with_reducible exact ih2 _ _ _ _ _ _ _)
   | (with_reducible exact spec_PutNum.mono _ _ _)
   | (with_reducible exact spec_PutText.mono _ _ _)
   | (with_reducible exact LeO.refl _)
   | (with_reducible exact LeO.none _)
   | (with_reducible refine LeO.ite ?_ ?_)
   | (with_reducible refine LeO.bind ?_ (fun _ => ?_))
   | exact ih0 _ _ _ _ _ _
   | exact ih1 _ _ _ _ _ _ _
   | exact ih2 _ _ _ _ _ _ _
   | exact spec_PutNum.mono _ _ _
   | exact spec_PutText.mono _ _ _
   | exact LeO.none _
   | refine LeO.ite ?_ ?_
   | refine LeO.bind ?_ (fun _ => ?_)
theorem spec_l2put.mono : ∀ a0 a1 a2 a3 a4 a5 k, LeO (spec_l2put.f k a0 a1 a2 a3 a4 a5) (spec_l2put.f (k + 1) a0 a1 a2 a3 a4 a5) := by
 intro a0 a1 a2 a3 a4 a5 k
 obtain ⟨ih0, ih1, ih2⟩ := spec_l2put.mono_l k
 exact ih0 a0 a1 a2 a3 a4 a5
set_option maxHeartbeats 8000000 in
set_option maxRecDepth 100000 in
theorem spec_l2put.calls (k : Nat) : ∀ (A0 : Option Addr) (c0 : Nat) (l0 : List Int) (a1_0 : Int) (a1_1 : Int) (A1_2 : Option Addr) (c1_2 : Nat) (l1_2 : List Int) (A1_3 : Option Addr) (c1_3 : Nat) (l1_3 : List (List Int)) (A1_4 : Option Addr) (c1_4 : Nat) (l1_4 : List (S40)) (r : List Int) (w : World) (hr0 : Kd.C (Kd.int .u8) w A0 l0.length l0) (hc0 : l0.length ≤ c0) (hr1_2 : Kd.C (Kd.int .u8) w A1_2 l1_2.length l1_2) (hc1_2 : l1_2.length ≤ c1_2) (hr1_3 : Kd.C (Kd.slice 5 (Kd.int .u8)) w A1_3 l1_3.length l1_3) (hc1_3 : l1_3.length ≤ c1_3) (hr1_4 : Kd.C k40 w A1_4 l1_4.length l1_4) (hc1_4 : l1_4.length ≤ c1_4) (h : spec_l2put.f k l0 a1_0 a1_1 l1_2 l1_3 l1_4 = some r),
  Calls Try.prog 80 #[.slice A0 l0.length c0, .agg #[.int .i64 a1_0, .int .i64 a1_1, .slice A1_2 l1_2.length c1_2, .slice A1_3 l1_3.length c1_3, .slice A1_4 l1_4.length c1_4]] w fun e w' => ∃ v0_ : Value, e = .returned (v0_) ∧ Kd.R (Kd.int .u8) 5 w' w.heap.size (fun _ => True) v0_ r ∧ Below w.heap.size w w' := by
 induction k using Nat.strongRecOn with
 | _ k ih =>
 intro A0 c0 l0 a1_0 a1_1 A1_2 c1_2 l1_2 A1_3 c1_3 l1_3 A1_4 c1_4 l1_4 r w hr0 hc0 hr1_2 hc1_2 hr1_3 hc1_3 hr1_4 hc1_4 h
 cases k with
 | zero => exact absurd h (by simp [spec_l2put.f])
 | succ k =>
 simp only [spec_l2put.f] at h
 have hu40 := Try.underlying40
 have HR0 := Aside0.mk hr0
 have HC0 := Aside0.mk hc0
 clear hr0 hc0
 have HR1_2 := Aside0.mk hr1_2
 have HC1_2 := Aside0.mk hc1_2
 clear hr1_2 hc1_2
 have HR1_3 := Aside0.mk hr1_3
 have HC1_3 := Aside0.mk hc1_3
 clear hr1_3 hc1_3
 have HR1_4 := Aside0.mk hr1_4
 have HC1_4 := Aside0.mk hc1_4
 clear hr1_4 hc1_4
 have HB := Bw.refl w
 have H : ((spec_PutNum.f k l0 a1_0).bind fun t264 => (if a1_0 = 1 then ((spec_PutNum.f k t264 a1_1).bind fun t267 => (some t267)) else (if a1_0 = 2 then (if a1_1 < 0 then ((spec_PutNum.f k t264 1).bind fun t270 => ((spec_PutNum.f k t270 (wrap64 (Int.tdiv (wrap64 (-a1_1)) 1000000))).bind fun t273 => ((spec_PutNum.f k t273 (Int.tmod (wrap64 (-a1_1)) 1000000)).bind fun t276 => (some t276)))) else ((spec_PutNum.f k t264 0).bind fun t279 => ((spec_PutNum.f k t279 (wrap64 (Int.tdiv a1_1 1000000))).bind fun t282 => ((spec_PutNum.f k t282 (Int.tmod a1_1 1000000)).bind fun t285 => (some t285))))) else (if a1_0 = 3 then ((spec_PutText.f k t264 l1_2).bind fun t288 => (some t288)) else (if a1_0 = 4 then (spec_l2put.j0 k t264 (a1_0 == 4) a1_0 a1_1 l1_2 l1_3 l1_4) else (spec_l2put.j0 k t264 (a1_0 == 5) a1_0 a1_1 l1_2 l1_3 l1_4)))))) = some r := h
 clear h
 replace H := Option.bind_eq_some_iff.mp H
 obtain ⟨t264, A30, H⟩ := H
 replace H : (if a1_0 = 1 then ((spec_PutNum.f k t264 a1_1).bind fun t267 => (some t267)) else (if a1_0 = 2 then (if a1_1 < 0 then ((spec_PutNum.f k t264 1).bind fun t270 => ((spec_PutNum.f k t270 (wrap64 (Int.tdiv (wrap64 (-a1_1)) 1000000))).bind fun t273 => ((spec_PutNum.f k t273 (Int.tmod (wrap64 (-a1_1)) 1000000)).bind fun t276 => (some t276)))) else ((spec_PutNum.f k t264 0).bind fun t279 => ((spec_PutNum.f k t279 (wrap64 (Int.tdiv a1_1 1000000))).bind fun t282 => ((spec_PutNum.f k t282 (Int.tmod a1_1 1000000)).bind fun t285 => (some t285))))) else (if a1_0 = 3 then ((spec_PutText.f k t264 l1_2).bind fun t288 => (some t288)) else (if a1_0 = 4 then (spec_l2put.j0 k t264 (a1_0 == 4) a1_0 a1_1 l1_2 l1_3 l1_4) else (spec_l2put.j0 k t264 (a1_0 == 5) a1_0 a1_1 l1_2 l1_3 l1_4))))) = some r := H
 have A3 := Aside0.mk A30
 clear A30
 by_cases c4 : a1_0 = 1
 ·rw [if_pos c4] at H
  have c4b0 : (a1_0 == 1) = true := beq_iff_eq.mpr c4
  have c4b1 : (a1_0 != 1) = false := bne_eq_false_iff_eq.mpr c4
  clear c4
  replace H := Option.bind_eq_some_iff.mp H
  obtain ⟨t267, A50, H⟩ := H
  replace H : (some t267) = some r := H
  have A5 := Aside0.mk A50
  clear A50
  obtain rfl := Option.some.inj H
  go_enter Try.func80, Try.ntmps80
  go_wp2_with (first | ((with_reducible refine gate_dst (N := 3) rfl ?_); refine box_event rfl (N := 3) rfl (cs := #[.int .i64 a1_0, .int .i64 a1_1, .slice A1_2 l1_2.length c1_2, .slice A1_3 l1_3.length c1_3, .slice A1_4 l1_4.length c1_4]) (t := 40) (by go_simp <;> rfl) ?_; intro gb263 hg w6 hbox hb; have BK263 := Aside0.mk (hbox); have GE263 := (Ge.of hg : Ge w.heap.size gb263); replace HB := (Bw.sw w hb); clear hb hbox hg; obtain ⟨hcz7_0, hcz7_1, hcz7_2, hcz7_3, hcz7_4, hfz7_0, hfz7_1, hfz7_2, hfz7_3, hfz7_4⟩ := blk5 BK263.out) | ((with_reducible refine gg (f := 103) (some 11) rfl rfl rfl fr103 ?_); refine onc (spec_PutNum.calls k _ _ l0 a1_0 t264 _ (cb HR0) HC0.out A3.out) rfl ?_; rintro e w8 ⟨v265, rfl, ho0, hb⟩; refine ⟨_, rfl, ?_⟩; have HO266 := Aside0.mk (Kd.R_lower ho0 (bzz w)); replace BK263 := Aside0.mk (blk_below (g := gb263) (o := .cells #[.int .i64 a1_0, .int .i64 a1_1, .slice A1_2 l1_2.length c1_2, .slice A1_3 l1_3.length c1_3, .slice A1_4 l1_4.length c1_4] 40 (0, 0)) (by (with_reducible repeat (first | refine blk_drewN ?_ _ | refine blk_drew ?_ | refine blk_alloc ?_ _)); exact BK263.out) hb); replace HB := (Bw.sw w hb); (try clear hb); (try clear ho0); obtain ⟨hcz9_0, hcz9_1, hcz9_2, hcz9_3, hcz9_4, hfz9_0, hfz9_1, hfz9_2, hfz9_3, hfz9_4⟩ := blk5 BK263.out; obtain ⟨Ao10, co10, eo10⟩ := Kd.R_slice HO266.out; subst eo10) | ((with_reducible refine gg (f := 103) (some 19) rfl rfl rfl fr103 ?_); refine onc (spec_PutNum.calls k _ _ t264 a1_1 t267 _ (cr HO266) (Kd.R_reads' HO266.out).2.1 A5.out) rfl ?_; rintro e w11 ⟨v268, rfl, ho0, hb⟩; refine ⟨_, rfl, ?_⟩; have HO269 := Aside0.mk (Kd.R_lower (Kd.R_new' ho0 (Kd.R_lt (by (with_reducible repeat (first | apply Kd.R_alloc | apply Kd.R_drewN | apply Kd.R_drew)); exact HO266.out))) (bzz w)); replace HO266 := Aside0.mk (Kd.R_elder' (by (with_reducible repeat (first | apply Kd.R_alloc | apply Kd.R_drewN | apply Kd.R_drew)); exact HO266.out) (Kd.R_base ho0) hb); replace BK263 := Aside0.mk (blk_below (g := gb263) (o := .cells #[.int .i64 a1_0, .int .i64 a1_1, .slice A1_2 l1_2.length c1_2, .slice A1_3 l1_3.length c1_3, .slice A1_4 l1_4.length c1_4] 40 (0, 0)) (by (with_reducible repeat (first | refine blk_drewN ?_ _ | refine blk_drew ?_ | refine blk_alloc ?_ _)); exact BK263.out) hb); replace HB := (Bw.sw w hb); (try clear hb); (try clear ho0)))
  go_ret
  exact ⟨_, by first | rfl | (simp [errW_none, errW_some] <;> rfl) | (simp [*, errW_none, errW_some] <;> rfl), by (with_reducible repeat (first | apply Kd.R_alloc | apply Kd.R_drewN | apply Kd.R_drew)); exact Kd.R_mono HO269.out (fun _ hk => trivial), bw⟩
 ·as_aux_lemma =>
  rw [if_neg c4] at H
  have c4b0 : (a1_0 == 1) = false := beq_eq_false_iff_ne.mpr c4
  have c4b1 : (a1_0 != 1) = true := bne_iff_ne.mpr c4
  by_cases c12 : a1_0 = 2
  ·as_aux_lemma =>
   rw [if_pos c12] at H
   have c12b0 : (a1_0 == 2) = true := beq_iff_eq.mpr c12
   have c12b1 : (a1_0 != 2) = false := bne_eq_false_iff_eq.mpr c12
   clear c12
   by_cases c13 : a1_1 < 0
   ·rw [if_pos c13] at H
    have c13b0 : decide (a1_1 < 0) = true := decide_eq_true c13
    clear c13
    replace H := Option.bind_eq_some_iff.mp H
    obtain ⟨t270, A140, H⟩ := H
    replace H : ((spec_PutNum.f k t270 (wrap64 (Int.tdiv (wrap64 (-a1_1)) 1000000))).bind fun t273 => ((spec_PutNum.f k t273 (Int.tmod (wrap64 (-a1_1)) 1000000)).bind fun t276 => (some t276))) = some r := H
    have A14 := Aside0.mk A140
    clear A140
    replace H := Option.bind_eq_some_iff.mp H
    obtain ⟨t273, A150, H⟩ := H
    replace H : ((spec_PutNum.f k t273 (Int.tmod (wrap64 (-a1_1)) 1000000)).bind fun t276 => (some t276)) = some r := H
    have A15 := Aside0.mk A150
    clear A150
    replace H := Option.bind_eq_some_iff.mp H
    obtain ⟨t276, A160, H⟩ := H
    replace H : (some t276) = some r := H
    have A16 := Aside0.mk A160
    clear A160
    obtain rfl := Option.some.inj H
    go_enter Try.func80, Try.ntmps80
    go_wp2_with (first | ((with_reducible refine gate_dst (N := 3) rfl ?_); refine box_event rfl (N := 3) rfl (cs := #[.int .i64 a1_0, .int .i64 a1_1, .slice A1_2 l1_2.length c1_2, .slice A1_3 l1_3.length c1_3, .slice A1_4 l1_4.length c1_4]) (t := 40) (by go_simp <;> rfl) ?_; intro gb263 hg w17 hbox hb; have BK263 := Aside0.mk (hbox); have GE263 := (Ge.of hg : Ge w.heap.size gb263); replace HB := (Bw.sw w hb); clear hb hbox hg; obtain ⟨hcz18_0, hcz18_1, hcz18_2, hcz18_3, hcz18_4, hfz18_0, hfz18_1, hfz18_2, hfz18_3, hfz18_4⟩ := blk5 BK263.out) | ((with_reducible refine gg (f := 103) (some 11) rfl rfl rfl fr103 ?_); refine onc (spec_PutNum.calls k _ _ l0 a1_0 t264 _ (cb HR0) HC0.out A3.out) rfl ?_; rintro e w19 ⟨v265, rfl, ho0, hb⟩; refine ⟨_, rfl, ?_⟩; have HO266 := Aside0.mk (Kd.R_lower ho0 (bzz w)); replace BK263 := Aside0.mk (blk_below (g := gb263) (o := .cells #[.int .i64 a1_0, .int .i64 a1_1, .slice A1_2 l1_2.length c1_2, .slice A1_3 l1_3.length c1_3, .slice A1_4 l1_4.length c1_4] 40 (0, 0)) (by (with_reducible repeat (first | refine blk_drewN ?_ _ | refine blk_drew ?_ | refine blk_alloc ?_ _)); exact BK263.out) hb); replace HB := (Bw.sw w hb); (try clear hb); (try clear ho0); obtain ⟨hcz20_0, hcz20_1, hcz20_2, hcz20_3, hcz20_4, hfz20_0, hfz20_1, hfz20_2, hfz20_3, hfz20_4⟩ := blk5 BK263.out; obtain ⟨Ao21, co21, eo21⟩ := Kd.R_slice HO266.out; subst eo21) | ((with_reducible refine gg (f := 103) (some 30) rfl rfl rfl fr103 ?_); refine onc (spec_PutNum.calls k _ _ t264 1 t270 _ (cr HO266) (Kd.R_reads' HO266.out).2.1 A14.out) rfl ?_; rintro e w22 ⟨v271, rfl, ho0, hb⟩; refine ⟨_, rfl, ?_⟩; have HO272 := Aside0.mk (Kd.R_lower (Kd.R_new' ho0 (Kd.R_lt (by (with_reducible repeat (first | apply Kd.R_alloc | apply Kd.R_drewN | apply Kd.R_drew)); exact HO266.out))) (bzz w)); replace HO266 := Aside0.mk (Kd.R_elder' (by (with_reducible repeat (first | apply Kd.R_alloc | apply Kd.R_drewN | apply Kd.R_drew)); exact HO266.out) (Kd.R_base ho0) hb); replace BK263 := Aside0.mk (blk_below (g := gb263) (o := .cells #[.int .i64 a1_0, .int .i64 a1_1, .slice A1_2 l1_2.length c1_2, .slice A1_3 l1_3.length c1_3, .slice A1_4 l1_4.length c1_4] 40 (0, 0)) (by (with_reducible repeat (first | refine blk_drewN ?_ _ | refine blk_drew ?_ | refine blk_alloc ?_ _)); exact BK263.out) hb); replace HB := (Bw.sw w hb); (try clear hb); (try clear ho0); obtain ⟨Ao23, co23, eo23⟩ := Kd.R_slice HO272.out; subst eo23) | ((with_reducible refine gg (f := 103) (some 33) rfl rfl rfl fr103 ?_); refine onc (spec_PutNum.calls k _ _ t270 (wrap64 (Int.tdiv (wrap64 (-a1_1)) 1000000)) t273 _ (cr HO272) (Kd.R_reads' HO272.out).2.1 A15.out) rfl ?_; rintro e w24 ⟨v274, rfl, ho0, hb⟩; refine ⟨_, rfl, ?_⟩; have HO275 := Aside0.mk (Kd.R_lower (Kd.R_new' (Kd.R_new' ho0 (Kd.R_lt (by (with_reducible repeat (first | apply Kd.R_alloc | apply Kd.R_drewN | apply Kd.R_drew)); exact HO266.out))) (Kd.R_lt (by (with_reducible repeat (first | apply Kd.R_alloc | apply Kd.R_drewN | apply Kd.R_drew)); exact HO272.out))) (bzz w)); replace HO266 := Aside0.mk (Kd.R_elder' (by (with_reducible repeat (first | apply Kd.R_alloc | apply Kd.R_drewN | apply Kd.R_drew)); exact HO266.out) (Kd.R_base ho0) hb); replace HO272 := Aside0.mk (Kd.R_elder' (by (with_reducible repeat (first | apply Kd.R_alloc | apply Kd.R_drewN | apply Kd.R_drew)); exact HO272.out) (Kd.R_base ho0) hb); replace BK263 := Aside0.mk (blk_below (g := gb263) (o := .cells #[.int .i64 a1_0, .int .i64 a1_1, .slice A1_2 l1_2.length c1_2, .slice A1_3 l1_3.length c1_3, .slice A1_4 l1_4.length c1_4] 40 (0, 0)) (by (with_reducible repeat (first | refine blk_drewN ?_ _ | refine blk_drew ?_ | refine blk_alloc ?_ _)); exact BK263.out) hb); replace HB := (Bw.sw w hb); (try clear hb); (try clear ho0); obtain ⟨Ao25, co25, eo25⟩ := Kd.R_slice HO275.out; subst eo25) | ((with_reducible refine gg (f := 103) (some 36) rfl rfl rfl fr103 ?_); refine onc (spec_PutNum.calls k _ _ t273 (Int.tmod (wrap64 (-a1_1)) 1000000) t276 _ (cr HO275) (Kd.R_reads' HO275.out).2.1 A16.out) rfl ?_; rintro e w26 ⟨v277, rfl, ho0, hb⟩; refine ⟨_, rfl, ?_⟩; have HO278 := Aside0.mk (Kd.R_lower (Kd.R_new' (Kd.R_new' (Kd.R_new' ho0 (Kd.R_lt (by (with_reducible repeat (first | apply Kd.R_alloc | apply Kd.R_drewN | apply Kd.R_drew)); exact HO266.out))) (Kd.R_lt (by (with_reducible repeat (first | apply Kd.R_alloc | apply Kd.R_drewN | apply Kd.R_drew)); exact HO272.out))) (Kd.R_lt (by (with_reducible repeat (first | apply Kd.R_alloc | apply Kd.R_drewN | apply Kd.R_drew)); exact HO275.out))) (bzz w)); replace HO266 := Aside0.mk (Kd.R_elder' (by (with_reducible repeat (first | apply Kd.R_alloc | apply Kd.R_drewN | apply Kd.R_drew)); exact HO266.out) (Kd.R_base ho0) hb); replace HO272 := Aside0.mk (Kd.R_elder' (by (with_reducible repeat (first | apply Kd.R_alloc | apply Kd.R_drewN | apply Kd.R_drew)); exact HO272.out) (Kd.R_base ho0) hb); replace HO275 := Aside0.mk (Kd.R_elder' (by (with_reducible repeat (first | apply Kd.R_alloc | apply Kd.R_drewN | apply Kd.R_drew)); exact HO275.out) (Kd.R_base ho0) hb); replace BK263 := Aside0.mk (blk_below (g := gb263) (o := .cells #[.int .i64 a1_0, .int .i64 a1_1, .slice A1_2 l1_2.length c1_2, .slice A1_3 l1_3.length c1_3, .slice A1_4 l1_4.length c1_4] 40 (0, 0)) (by (with_reducible repeat (first | refine blk_drewN ?_ _ | refine blk_drew ?_ | refine blk_alloc ?_ _)); exact BK263.out) hb); replace HB := (Bw.sw w hb); (try clear hb); (try clear ho0)))
    go_ret
    exact ⟨_, by first | rfl | (simp [errW_none, errW_some] <;> rfl) | (simp [*, errW_none, errW_some] <;> rfl), by (with_reducible repeat (first | apply Kd.R_alloc | apply Kd.R_drewN | apply Kd.R_drew)); exact Kd.R_mono HO278.out (fun _ hk => trivial), bw⟩
   ·rw [if_neg c13] at H
    have c13b0 : decide (a1_1 < 0) = false := decide_eq_false c13
    clear c13
    replace H := Option.bind_eq_some_iff.mp H
    obtain ⟨t279, A270, H⟩ := H
    replace H : ((spec_PutNum.f k t279 (wrap64 (Int.tdiv a1_1 1000000))).bind fun t282 => ((spec_PutNum.f k t282 (Int.tmod a1_1 1000000)).bind fun t285 => (some t285))) = some r := H
    have A27 := Aside0.mk A270
    clear A270
    replace H := Option.bind_eq_some_iff.mp H
    obtain ⟨t282, A280, H⟩ := H
    replace H : ((spec_PutNum.f k t282 (Int.tmod a1_1 1000000)).bind fun t285 => (some t285)) = some r := H
    have A28 := Aside0.mk A280
    clear A280
    replace H := Option.bind_eq_some_iff.mp H
    obtain ⟨t285, A290, H⟩ := H
    replace H : (some t285) = some r := H
    have A29 := Aside0.mk A290
    clear A290
    obtain rfl := Option.some.inj H
    go_enter Try.func80, Try.ntmps80
    go_wp2_with (first | ((with_reducible refine gate_dst (N := 3) rfl ?_); refine box_event rfl (N := 3) rfl (cs := #[.int .i64 a1_0, .int .i64 a1_1, .slice A1_2 l1_2.length c1_2, .slice A1_3 l1_3.length c1_3, .slice A1_4 l1_4.length c1_4]) (t := 40) (by go_simp <;> rfl) ?_; intro gb263 hg w30 hbox hb; have BK263 := Aside0.mk (hbox); have GE263 := (Ge.of hg : Ge w.heap.size gb263); replace HB := (Bw.sw w hb); clear hb hbox hg; obtain ⟨hcz31_0, hcz31_1, hcz31_2, hcz31_3, hcz31_4, hfz31_0, hfz31_1, hfz31_2, hfz31_3, hfz31_4⟩ := blk5 BK263.out) | ((with_reducible refine gg (f := 103) (some 11) rfl rfl rfl fr103 ?_); refine onc (spec_PutNum.calls k _ _ l0 a1_0 t264 _ (cb HR0) HC0.out A3.out) rfl ?_; rintro e w32 ⟨v265, rfl, ho0, hb⟩; refine ⟨_, rfl, ?_⟩; have HO266 := Aside0.mk (Kd.R_lower ho0 (bzz w)); replace BK263 := Aside0.mk (blk_below (g := gb263) (o := .cells #[.int .i64 a1_0, .int .i64 a1_1, .slice A1_2 l1_2.length c1_2, .slice A1_3 l1_3.length c1_3, .slice A1_4 l1_4.length c1_4] 40 (0, 0)) (by (with_reducible repeat (first | refine blk_drewN ?_ _ | refine blk_drew ?_ | refine blk_alloc ?_ _)); exact BK263.out) hb); replace HB := (Bw.sw w hb); (try clear hb); (try clear ho0); obtain ⟨hcz33_0, hcz33_1, hcz33_2, hcz33_3, hcz33_4, hfz33_0, hfz33_1, hfz33_2, hfz33_3, hfz33_4⟩ := blk5 BK263.out; obtain ⟨Ao34, co34, eo34⟩ := Kd.R_slice HO266.out; subst eo34) | ((with_reducible refine gg (f := 103) (some 30) rfl rfl rfl fr103 ?_); refine onc (spec_PutNum.calls k _ _ t264 0 t279 _ (cr HO266) (Kd.R_reads' HO266.out).2.1 A27.out) rfl ?_; rintro e w35 ⟨v280, rfl, ho0, hb⟩; refine ⟨_, rfl, ?_⟩; have HO281 := Aside0.mk (Kd.R_lower (Kd.R_new' ho0 (Kd.R_lt (by (with_reducible repeat (first | apply Kd.R_alloc | apply Kd.R_drewN | apply Kd.R_drew)); exact HO266.out))) (bzz w)); replace HO266 := Aside0.mk (Kd.R_elder' (by (with_reducible repeat (first | apply Kd.R_alloc | apply Kd.R_drewN | apply Kd.R_drew)); exact HO266.out) (Kd.R_base ho0) hb); replace BK263 := Aside0.mk (blk_below (g := gb263) (o := .cells #[.int .i64 a1_0, .int .i64 a1_1, .slice A1_2 l1_2.length c1_2, .slice A1_3 l1_3.length c1_3, .slice A1_4 l1_4.length c1_4] 40 (0, 0)) (by (with_reducible repeat (first | refine blk_drewN ?_ _ | refine blk_drew ?_ | refine blk_alloc ?_ _)); exact BK263.out) hb); replace HB := (Bw.sw w hb); (try clear hb); (try clear ho0); obtain ⟨Ao36, co36, eo36⟩ := Kd.R_slice HO281.out; subst eo36) | ((with_reducible refine gg (f := 103) (some 33) rfl rfl rfl fr103 ?_); refine onc (spec_PutNum.calls k _ _ t279 (wrap64 (Int.tdiv a1_1 1000000)) t282 _ (cr HO281) (Kd.R_reads' HO281.out).2.1 A28.out) rfl ?_; rintro e w37 ⟨v283, rfl, ho0, hb⟩; refine ⟨_, rfl, ?_⟩; have HO284 := Aside0.mk (Kd.R_lower (Kd.R_new' (Kd.R_new' ho0 (Kd.R_lt (by (with_reducible repeat (first | apply Kd.R_alloc | apply Kd.R_drewN | apply Kd.R_drew)); exact HO266.out))) (Kd.R_lt (by (with_reducible repeat (first | apply Kd.R_alloc | apply Kd.R_drewN | apply Kd.R_drew)); exact HO281.out))) (bzz w)); replace HO266 := Aside0.mk (Kd.R_elder' (by (with_reducible repeat (first | apply Kd.R_alloc | apply Kd.R_drewN | apply Kd.R_drew)); exact HO266.out) (Kd.R_base ho0) hb); replace HO281 := Aside0.mk (Kd.R_elder' (by (with_reducible repeat (first | apply Kd.R_alloc | apply Kd.R_drewN | apply Kd.R_drew)); exact HO281.out) (Kd.R_base ho0) hb); replace BK263 := Aside0.mk (blk_below (g := gb263) (o := .cells #[.int .i64 a1_0, .int .i64 a1_1, .slice A1_2 l1_2.length c1_2, .slice A1_3 l1_3.length c1_3, .slice A1_4 l1_4.length c1_4] 40 (0, 0)) (by (with_reducible repeat (first | refine blk_drewN ?_ _ | refine blk_drew ?_ | refine blk_alloc ?_ _)); exact BK263.out) hb); replace HB := (Bw.sw w hb); (try clear hb); (try clear ho0); obtain ⟨Ao38, co38, eo38⟩ := Kd.R_slice HO284.out; subst eo38) | ((with_reducible refine gg (f := 103) (some 36) rfl rfl rfl fr103 ?_); refine onc (spec_PutNum.calls k _ _ t282 (Int.tmod a1_1 1000000) t285 _ (cr HO284) (Kd.R_reads' HO284.out).2.1 A29.out) rfl ?_; rintro e w39 ⟨v286, rfl, ho0, hb⟩; refine ⟨_, rfl, ?_⟩; have HO287 := Aside0.mk (Kd.R_lower (Kd.R_new' (Kd.R_new' (Kd.R_new' ho0 (Kd.R_lt (by (with_reducible repeat (first | apply Kd.R_alloc | apply Kd.R_drewN | apply Kd.R_drew)); exact HO266.out))) (Kd.R_lt (by (with_reducible repeat (first | apply Kd.R_alloc | apply Kd.R_drewN | apply Kd.R_drew)); exact HO281.out))) (Kd.R_lt (by (with_reducible repeat (first | apply Kd.R_alloc | apply Kd.R_drewN | apply Kd.R_drew)); exact HO284.out))) (bzz w)); replace HO266 := Aside0.mk (Kd.R_elder' (by (with_reducible repeat (first | apply Kd.R_alloc | apply Kd.R_drewN | apply Kd.R_drew)); exact HO266.out) (Kd.R_base ho0) hb); replace HO281 := Aside0.mk (Kd.R_elder' (by (with_reducible repeat (first | apply Kd.R_alloc | apply Kd.R_drewN | apply Kd.R_drew)); exact HO281.out) (Kd.R_base ho0) hb); replace HO284 := Aside0.mk (Kd.R_elder' (by (with_reducible repeat (first | apply Kd.R_alloc | apply Kd.R_drewN | apply Kd.R_drew)); exact HO284.out) (Kd.R_base ho0) hb); replace BK263 := Aside0.mk (blk_below (g := gb263) (o := .cells #[.int .i64 a1_0, .int .i64 a1_1, .slice A1_2 l1_2.length c1_2, .slice A1_3 l1_3.length c1_3, .slice A1_4 l1_4.length c1_4] 40 (0, 0)) (by (with_reducible repeat (first | refine blk_drewN ?_ _ | refine blk_drew ?_ | refine blk_alloc ?_ _)); exact BK263.out) hb); replace HB := (Bw.sw w hb); (try clear hb); (try clear ho0)))
    go_ret
    exact ⟨_, by first | rfl | (simp [errW_none, errW_some] <;> rfl) | (simp [*, errW_none, errW_some] <;> rfl), by (with_reducible repeat (first | apply Kd.R_alloc | apply Kd.R_drewN | apply Kd.R_drew)); exact Kd.R_mono HO287.out (fun _ hk => trivial), bw⟩
  ·as_aux_lemma =>
   rw [if_neg c12] at H
   have c12b0 : (a1_0 == 2) = false := beq_eq_false_iff_ne.mpr c12
   have c12b1 : (a1_0 != 2) = true := bne_iff_ne.mpr c12
   by_cases c40 : a1_0 = 3
   ·rw [if_pos c40] at H
    have c40b0 : (a1_0 == 3) = true := beq_iff_eq.mpr c40
    have c40b1 : (a1_0 != 3) = false := bne_eq_false_iff_eq.mpr c40
    clear c40
    replace H := Option.bind_eq_some_iff.mp H
    obtain ⟨t288, A410, H⟩ := H
    replace H : (some t288) = some r := H
    have A41 := Aside0.mk A410
    clear A410
    obtain rfl := Option.some.inj H
    go_enter Try.func80, Try.ntmps80
    go_wp2_with (first | ((with_reducible refine gate_dst (N := 3) rfl ?_); refine box_event rfl (N := 3) rfl (cs := #[.int .i64 a1_0, .int .i64 a1_1, .slice A1_2 l1_2.length c1_2, .slice A1_3 l1_3.length c1_3, .slice A1_4 l1_4.length c1_4]) (t := 40) (by go_simp <;> rfl) ?_; intro gb263 hg w42 hbox hb; have BK263 := Aside0.mk (hbox); have GE263 := (Ge.of hg : Ge w.heap.size gb263); replace HB := (Bw.sw w hb); clear hb hbox hg; obtain ⟨hcz43_0, hcz43_1, hcz43_2, hcz43_3, hcz43_4, hfz43_0, hfz43_1, hfz43_2, hfz43_3, hfz43_4⟩ := blk5 BK263.out) | ((with_reducible refine gg (f := 103) (some 11) rfl rfl rfl fr103 ?_); refine onc (spec_PutNum.calls k _ _ l0 a1_0 t264 _ (cb HR0) HC0.out A3.out) rfl ?_; rintro e w44 ⟨v265, rfl, ho0, hb⟩; refine ⟨_, rfl, ?_⟩; have HO266 := Aside0.mk (Kd.R_lower ho0 (bzz w)); replace BK263 := Aside0.mk (blk_below (g := gb263) (o := .cells #[.int .i64 a1_0, .int .i64 a1_1, .slice A1_2 l1_2.length c1_2, .slice A1_3 l1_3.length c1_3, .slice A1_4 l1_4.length c1_4] 40 (0, 0)) (by (with_reducible repeat (first | refine blk_drewN ?_ _ | refine blk_drew ?_ | refine blk_alloc ?_ _)); exact BK263.out) hb); replace HB := (Bw.sw w hb); (try clear hb); (try clear ho0); obtain ⟨hcz45_0, hcz45_1, hcz45_2, hcz45_3, hcz45_4, hfz45_0, hfz45_1, hfz45_2, hfz45_3, hfz45_4⟩ := blk5 BK263.out; obtain ⟨Ao46, co46, eo46⟩ := Kd.R_slice HO266.out; subst eo46) | ((with_reducible refine gg (f := 104) (some 42) rfl rfl rfl fr104 ?_); refine onc (spec_PutText.calls k _ _ t264 _ _ l1_2 t288 _ (cr HO266) (Kd.R_reads' HO266.out).2.1 (cb HR1_2) HC1_2.out A41.out) rfl ?_; rintro e w47 ⟨v289, rfl, ho0, hb⟩; refine ⟨_, rfl, ?_⟩; have HO290 := Aside0.mk (Kd.R_lower (Kd.R_new' ho0 (Kd.R_lt (by (with_reducible repeat (first | apply Kd.R_alloc | apply Kd.R_drewN | apply Kd.R_drew)); exact HO266.out))) (bzz w)); replace HO266 := Aside0.mk (Kd.R_elder' (by (with_reducible repeat (first | apply Kd.R_alloc | apply Kd.R_drewN | apply Kd.R_drew)); exact HO266.out) (Kd.R_base ho0) hb); replace BK263 := Aside0.mk (blk_below (g := gb263) (o := .cells #[.int .i64 a1_0, .int .i64 a1_1, .slice A1_2 l1_2.length c1_2, .slice A1_3 l1_3.length c1_3, .slice A1_4 l1_4.length c1_4] 40 (0, 0)) (by (with_reducible repeat (first | refine blk_drewN ?_ _ | refine blk_drew ?_ | refine blk_alloc ?_ _)); exact BK263.out) hb); replace HB := (Bw.sw w hb); (try clear hb); (try clear ho0)))
    go_ret
    exact ⟨_, by first | rfl | (simp [errW_none, errW_some] <;> rfl) | (simp [*, errW_none, errW_some] <;> rfl), by (with_reducible repeat (first | apply Kd.R_alloc | apply Kd.R_drewN | apply Kd.R_drew)); exact Kd.R_mono HO290.out (fun _ hk => trivial), bw⟩
   ·as_aux_lemma =>
    rw [if_neg c40] at H
    have c40b0 : (a1_0 == 3) = false := beq_eq_false_iff_ne.mpr c40
    have c40b1 : (a1_0 != 3) = true := bne_iff_ne.mpr c40
    have HC48 := Aside0.mk H
    clear H
    go_enter Try.func80, Try.ntmps80
    go_upto_if 43 with (first | ((with_reducible refine gate_dst (N := 3) rfl ?_); refine box_event rfl (N := 3) rfl (cs := #[.int .i64 a1_0, .int .i64 a1_1, .slice A1_2 l1_2.length c1_2, .slice A1_3 l1_3.length c1_3, .slice A1_4 l1_4.length c1_4]) (t := 40) (by go_simp <;> rfl) ?_; intro gb263 hg w49 hbox hb; have BK263 := Aside0.mk (hbox); have GE263 := (Ge.of hg : Ge w.heap.size gb263); replace HB := (Bw.sw w hb); clear hb hbox hg; obtain ⟨hcz50_0, hcz50_1, hcz50_2, hcz50_3, hcz50_4, hfz50_0, hfz50_1, hfz50_2, hfz50_3, hfz50_4⟩ := blk5 BK263.out) | ((with_reducible refine gg (f := 103) (some 11) rfl rfl rfl fr103 ?_); refine onc (spec_PutNum.calls k _ _ l0 a1_0 t264 _ (cb HR0) HC0.out A3.out) rfl ?_; rintro e w51 ⟨v265, rfl, ho0, hb⟩; refine ⟨_, rfl, ?_⟩; have HO266 := Aside0.mk (Kd.R_lower ho0 (bzz w)); replace BK263 := Aside0.mk (blk_below (g := gb263) (o := .cells #[.int .i64 a1_0, .int .i64 a1_1, .slice A1_2 l1_2.length c1_2, .slice A1_3 l1_3.length c1_3, .slice A1_4 l1_4.length c1_4] 40 (0, 0)) (by (with_reducible repeat (first | refine blk_drewN ?_ _ | refine blk_drew ?_ | refine blk_alloc ?_ _)); exact BK263.out) hb); replace HB := (Bw.sw w hb); (try clear hb); (try clear ho0); obtain ⟨hcz52_0, hcz52_1, hcz52_2, hcz52_3, hcz52_4, hfz52_0, hfz52_1, hfz52_2, hfz52_3, hfz52_4⟩ := blk5 BK263.out))
    (try simp only [Act.put, List.setIfInBounds_toArray, List.set_cons_zero, List.set_cons_succ])
    go_cut [43] (fun v43 wc => ∃ (kq : Nat) (x43_47 : Bool), v43 = .bool x43_47 ∧ Aside0 (spec_l2put.j0 kq t264 x43_47 a1_0 a1_1 l1_2 l1_3 l1_4 = some r) ∧ Aside0 (kq ≤ k) ∧ Aside0 (Kd.R (Kd.int .u8) 5 wc w.heap.size (fun _ => True) v265 t264) ∧ Aside0 (wc.heap[gb263]? = some (.cells #[.int .i64 a1_0, .int .i64 a1_1, (.slice A1_2 l1_2.length c1_2), (.slice A1_3 l1_3.length c1_3), (.slice A1_4 l1_4.length c1_4)] 40 (0, 0))) ∧ Bw w wc)
    case first =>
     have H := HC48.out
     clear HC48
     by_cases c53 : a1_0 = 4
     ·rw [if_pos c53] at H
      have c53b0 : (a1_0 == 4) = true := beq_iff_eq.mpr c53
      have c53b1 : (a1_0 != 4) = false := bne_eq_false_iff_eq.mpr c53
      clear c53
      (first | rw [c53b0] | (simp only [i64_w, i32_w]; rw [c53b0]) | skip)
      have H' := Aside0.mk H
      clear H
      go_wp2
      go_meet
      case rel => exact ⟨_, ((a1_0 == 4)), (by first | rfl | (simp; done) | (simp [*]; done)), H', ⟨by first | omega | exact Nat.le_refl _⟩, ⟨by (with_reducible repeat (first | apply Kd.R_alloc | apply Kd.R_drewN | apply Kd.R_drew)); exact HO266.out⟩, ⟨by (with_reducible repeat (first | refine blk_drewN ?_ _ | refine blk_drew ?_ | refine blk_alloc ?_ _)); exact BK263.out⟩, ⟨bw⟩⟩
     ·rw [if_neg c53] at H
      have c53b0 : (a1_0 == 4) = false := beq_eq_false_iff_ne.mpr c53
      have c53b1 : (a1_0 != 4) = true := bne_iff_ne.mpr c53
      (first | rw [c53b0] | (simp only [i64_w, i32_w]; rw [c53b0]) | skip)
      have H' := Aside0.mk H
      clear H
      go_wp2
      go_meet
      case rel => exact ⟨_, ((a1_0 == 5)), (by first | rfl | (simp; done) | (simp [*]; done)), H', ⟨by first | omega | exact Nat.le_refl _⟩, ⟨by (with_reducible repeat (first | apply Kd.R_alloc | apply Kd.R_drewN | apply Kd.R_drew)); exact HO266.out⟩, ⟨by (with_reducible repeat (first | refine blk_drewN ?_ _ | refine blk_drew ?_ | refine blk_alloc ?_ _)); exact BK263.out⟩, ⟨bw⟩⟩
    case rest =>
     as_aux_lemma =>
     clear HC48
     try clear c4
     try clear c4b0
     try clear c4b1
     try clear c12
     try clear c12b0
     try clear c12b1
     try clear c13
     try clear c13b0
     try clear c40
     try clear c40b0
     try clear c40b1
     try clear c53
     try clear c53b0
     try clear c53b1
     try clear hcz18_0 hcz18_1 hcz18_2 hcz18_3 hcz18_4
     try clear hcz20_0 hcz20_1 hcz20_2 hcz20_3 hcz20_4
     try clear hcz31_0 hcz31_1 hcz31_2 hcz31_3 hcz31_4
     try clear hcz33_0 hcz33_1 hcz33_2 hcz33_3 hcz33_4
     try clear hcz43_0 hcz43_1 hcz43_2 hcz43_3 hcz43_4
     try clear hcz45_0 hcz45_1 hcz45_2 hcz45_3 hcz45_4
     try clear hcz50_0 hcz50_1 hcz50_2 hcz50_3 hcz50_4
     try clear hcz52_0 hcz52_1 hcz52_2 hcz52_3 hcz52_4
     try clear hcz7_0 hcz7_1 hcz7_2 hcz7_3 hcz7_4
     try clear hcz9_0 hcz9_1 hcz9_2 hcz9_3 hcz9_4
     try clear hfz18_0 hfz18_1 hfz18_2 hfz18_3 hfz18_4
     try clear hfz20_0 hfz20_1 hfz20_2 hfz20_3 hfz20_4
     try clear hfz31_0 hfz31_1 hfz31_2 hfz31_3 hfz31_4
     try clear hfz33_0 hfz33_1 hfz33_2 hfz33_3 hfz33_4
     try clear hfz43_0 hfz43_1 hfz43_2 hfz43_3 hfz43_4
     try clear hfz45_0 hfz45_1 hfz45_2 hfz45_3 hfz45_4
     try clear hfz50_0 hfz50_1 hfz50_2 hfz50_3 hfz50_4
     try clear hfz52_0 hfz52_1 hfz52_2 hfz52_3 hfz52_4
     try clear hfz7_0 hfz7_1 hfz7_2 hfz7_3 hfz7_4
     try clear hfz9_0 hfz9_1 hfz9_2 hfz9_3 hfz9_4
     obtain ⟨kq, x43_47, rfl, HA, HJ47, HO_0, BK263, HB⟩ := hcut
     cases kq with
     | zero => exact absurd HA.out (by simp [spec_l2put.j0])
     | succ kj47 =>
      have H := HA.out
      clear HA
      simp only [spec_l2put.j0] at H
      by_cases c54 : x43_47 = true
      ·as_aux_lemma =>
       subst c54
       have H1 : ((spec_PutNum.f kj47 t264 (l1_4.length : Int)).bind fun t291 => (spec_l2put.l0 kj47 t291 0 a1_0 a1_1 l1_2 l1_3 l1_4)) = some r := by rw [if_pos rfl] at H; exact H
       clear H
       have H := H1
       clear H1
       replace H := Option.bind_eq_some_iff.mp H
       obtain ⟨t291, A550, H⟩ := H
       replace H : (spec_l2put.l0 kj47 t291 0 a1_0 a1_1 l1_2 l1_3 l1_4) = some r := H
       have A55 := Aside0.mk A550
       clear A550
       have H' := Aside0.mk H
       clear H
       obtain ⟨hcz56_0, hcz56_1, hcz56_2, hcz56_3, hcz56_4, hfz56_0, hfz56_1, hfz56_2, hfz56_3, hfz56_4⟩ := blk5 BK263.out
       obtain ⟨Ao57, co57, eo57⟩ := Kd.R_slice HO_0.out
       subst eo57
       go_wp2_with (first | ((with_reducible refine gg (f := 103) (some 50) rfl rfl rfl fr103 ?_); refine onc (spec_PutNum.calls kj47 _ _ t264 (l1_4.length : Int) t291 _ (cr HO_0) (Kd.R_reads' HO_0.out).2.1 A55.out) rfl ?_; rintro e w58 ⟨v292, rfl, ho0, hb⟩; refine ⟨_, rfl, ?_⟩; have HO293 := Aside0.mk (Kd.R_lower (Kd.R_new' ho0 (Kd.R_lt (by (with_reducible repeat (first | apply Kd.R_alloc | apply Kd.R_drewN | apply Kd.R_drew)); exact HO_0.out))) (bzz w)); replace HO_0 := Aside0.mk (Kd.R_elder' (by (with_reducible repeat (first | apply Kd.R_alloc | apply Kd.R_drewN | apply Kd.R_drew)); exact HO_0.out) (Kd.R_base ho0) hb); replace BK263 := Aside0.mk (blk_below (g := gb263) (o := .cells #[.int .i64 a1_0, .int .i64 a1_1, .slice A1_2 l1_2.length c1_2, .slice A1_3 l1_3.length c1_3, .slice A1_4 l1_4.length c1_4] 40 (0, 0)) (by (with_reducible repeat (first | refine blk_drewN ?_ _ | refine blk_drew ?_ | refine blk_alloc ?_ _)); exact BK263.out) hb); replace HB := (Bw.sw w hb); (try clear hb); (try clear ho0)))
       go_loopg [0, 7] kj47 (fun kq v0 v7 w' => ∃ (x0_2 : List Int) (x7_2 : Int), v7 = .int .i64 x7_2 ∧ Aside0 (spec_l2put.l0 kq x0_2 x7_2 a1_0 a1_1 l1_2 l1_3 l1_4 = some r) ∧ Aside0 (kq ≤ kj47) ∧ Aside0 (Kd.R (Kd.int .u8) 5 w' w.heap.size (fun _ => True) v0 x0_2) ∧ Aside0 (w'.heap[gb263]? = some (.cells #[.int .i64 a1_0, .int .i64 a1_1, (.slice A1_2 l1_2.length c1_2), (.slice A1_3 l1_3.length c1_3), (.slice A1_4 l1_4.length c1_4)] 40 (0, 0))) ∧ Bw w w')
       case atStart => exact ⟨(t291), (0), (by first | rfl | (simp; done) | (simp [*]; done)), H', ⟨Nat.le_refl _⟩, ⟨by (with_reducible repeat (first | apply Kd.R_alloc | apply Kd.R_drewN | apply Kd.R_drew)); exact Kd.R_mono HO293.out (fun _ hk => trivial)⟩, ⟨by (with_reducible repeat (first | refine blk_drewN ?_ _ | refine blk_drew ?_ | refine blk_alloc ?_ _)); exact BK263.out⟩, ⟨bw⟩⟩
       case round =>
        as_aux_lemma =>
        clear H'
        try clear c4
        try clear c4b0
        try clear c4b1
        try clear c12
        try clear c12b0
        try clear c12b1
        try clear c13
        try clear c13b0
        try clear c40
        try clear c40b0
        try clear c40b1
        try clear c53
        try clear c53b0
        try clear c53b1
        try clear c54
        try clear hcz18_0 hcz18_1 hcz18_2 hcz18_3 hcz18_4
        try clear hcz20_0 hcz20_1 hcz20_2 hcz20_3 hcz20_4
        try clear hcz31_0 hcz31_1 hcz31_2 hcz31_3 hcz31_4
        try clear hcz33_0 hcz33_1 hcz33_2 hcz33_3 hcz33_4
        try clear hcz43_0 hcz43_1 hcz43_2 hcz43_3 hcz43_4
        try clear hcz45_0 hcz45_1 hcz45_2 hcz45_3 hcz45_4
        try clear hcz50_0 hcz50_1 hcz50_2 hcz50_3 hcz50_4
        try clear hcz52_0 hcz52_1 hcz52_2 hcz52_3 hcz52_4
        try clear hcz56_0 hcz56_1 hcz56_2 hcz56_3 hcz56_4
        try clear hcz7_0 hcz7_1 hcz7_2 hcz7_3 hcz7_4
        try clear hcz9_0 hcz9_1 hcz9_2 hcz9_3 hcz9_4
        try clear hfz18_0 hfz18_1 hfz18_2 hfz18_3 hfz18_4
        try clear hfz20_0 hfz20_1 hfz20_2 hfz20_3 hfz20_4
        try clear hfz31_0 hfz31_1 hfz31_2 hfz31_3 hfz31_4
        try clear hfz33_0 hfz33_1 hfz33_2 hfz33_3 hfz33_4
        try clear hfz43_0 hfz43_1 hfz43_2 hfz43_3 hfz43_4
        try clear hfz45_0 hfz45_1 hfz45_2 hfz45_3 hfz45_4
        try clear hfz50_0 hfz50_1 hfz50_2 hfz50_3 hfz50_4
        try clear hfz52_0 hfz52_1 hfz52_2 hfz52_3 hfz52_4
        try clear hfz56_0 hfz56_1 hfz56_2 hfz56_3 hfz56_4
        try clear hfz7_0 hfz7_1 hfz7_2 hfz7_3 hfz7_4
        try clear hfz9_0 hfz9_1 hfz9_2 hfz9_3 hfz9_4
        obtain ⟨x0_2, x7_2, rfl, HA, HK2, HO_0, BK263, HB⟩ := hrel
        cases gk with
        | zero => exact absurd HA.out (by simp [spec_l2put.l0])
        | succ k2 =>
         have H := HA.out
         clear HA
         simp only [spec_l2put.l0] at H
         by_cases c59 : x7_2 < (l1_4.length : Int)
         ·as_aux_lemma =>
          rw [if_pos c59] at H
          have c59b0 : decide (x7_2 < (l1_4.length : Int)) = true := decide_eq_true c59
          clear c59
          by_cases c60 : a1_0 = 5
          ·rw [if_pos c60] at H
           have c60b0 : (a1_0 == 5) = true := beq_iff_eq.mpr c60
           have c60b1 : (a1_0 != 5) = false := bne_eq_false_iff_eq.mpr c60
           clear c60
           by_cases c61 : 0 ≤ x7_2
           ·rw [if_pos c61] at H
            have c61b0 : decide (0 ≤ x7_2) = true := decide_eq_true c61
            clear c61
            by_cases c62 : x7_2 < (l1_3.length : Int)
            ·rw [if_pos c62] at H
             have c62b0 : decide (x7_2 < (l1_3.length : Int)) = true := decide_eq_true c62
             clear c62
             replace H := Option.bind_eq_some_iff.mp H
             obtain ⟨t295, A630, H⟩ := H
             replace H : ((spec_l2put.f k2 t295 ((rd_T40 l1_4 x7_2).f0) ((rd_T40 l1_4 x7_2).f1) ((rd_T40 l1_4 x7_2).f2) ((rd_T40 l1_4 x7_2).f3) ((rd_T40 l1_4 x7_2).f4)).bind fun t299 => (spec_l2put.l0 k2 t299 (wrap64 (x7_2 + 1)) a1_0 a1_1 l1_2 l1_3 l1_4)) = some r := H
             have A63 := Aside0.mk A630
             clear A630
             replace H := Option.bind_eq_some_iff.mp H
             obtain ⟨t299, A640, H⟩ := H
             replace H : (spec_l2put.l0 k2 t299 (wrap64 (x7_2 + 1)) a1_0 a1_1 l1_2 l1_3 l1_4) = some r := H
             have A64 := Aside0.mk A640
             clear A640
             have H' := Aside0.mk H
             clear H
             obtain ⟨hcz65_0, hcz65_1, hcz65_2, hcz65_3, hcz65_4, hfz65_0, hfz65_1, hfz65_2, hfz65_3, hfz65_4⟩ := blk5 BK263.out
             have p294 : 0 ≤ (x7_2 : Int) := of_decide_eq_true (by first | (with_reducible assumption) | assumption)
             have q294 : x7_2 < (l1_3.length : Int) := of_decide_eq_true (by first | (with_reducible assumption) | assumption)
             obtain ⟨ad294, A294_0, c294_0, e294, hx294_0, hl294_0, hi294_0⟩ := at_L1 HR1_3.out x7_2 p294 q294
             cases e294
             replace hx294_0 := (HB.out.cell (World.block_lt_of_cell? w _ hx294_0)).trans hx294_0
             have HR294_0 := Aside0.mk hi294_0
             have HC294_0 := Aside0.mk hl294_0
             clear hi294_0 hl294_0
             replace p294 := eq_true p294
             replace q294 := eq_true q294
             obtain ⟨Ao66, co66, eo66⟩ := Kd.R_slice HO_0.out
             subst eo66
             go_wp2_with (first | ((with_reducible refine gg (f := 104) (some 67) rfl rfl rfl fr104 ?_); refine onc (spec_PutText.calls k2 _ _ x0_2 _ _ (rd_L1 l1_3 x7_2) t295 _ (cr HO_0) (Kd.R_reads' HO_0.out).2.1 (cb HR294_0) HC294_0.out A63.out) rfl ?_; rintro e w67 ⟨v296, rfl, ho0, hb⟩; refine ⟨_, rfl, ?_⟩; have HO297 := Aside0.mk (Kd.R_lower (Kd.R_new' ho0 (Kd.R_lt (by (with_reducible repeat (first | apply Kd.R_alloc | apply Kd.R_drewN | apply Kd.R_drew)); exact HO_0.out))) (bzz w)); replace HO_0 := Aside0.mk (Kd.R_elder' (by (with_reducible repeat (first | apply Kd.R_alloc | apply Kd.R_drewN | apply Kd.R_drew)); exact HO_0.out) (Kd.R_base ho0) hb); replace BK263 := Aside0.mk (blk_below (g := gb263) (o := .cells #[.int .i64 a1_0, .int .i64 a1_1, .slice A1_2 l1_2.length c1_2, .slice (some ad294) l1_3.length c1_3, .slice A1_4 l1_4.length c1_4] 40 (0, 0)) (by (with_reducible repeat (first | refine blk_drewN ?_ _ | refine blk_drew ?_ | refine blk_alloc ?_ _)); exact BK263.out) hb); replace HB := (Bw.sw w hb); (try clear hb); (try clear ho0); obtain ⟨hcz68_0, hcz68_1, hcz68_2, hcz68_3, hcz68_4, hfz68_0, hfz68_1, hfz68_2, hfz68_3, hfz68_4⟩ := blk5 BK263.out; have p298 : 0 ≤ (x7_2 : Int) := of_decide_eq_true (by first | (with_reducible assumption) | assumption); have q298 : x7_2 < (l1_4.length : Int) := of_decide_eq_true (by first | (with_reducible assumption) | assumption); obtain ⟨ad298, A298_2, c298_2, A298_3, c298_3, A298_4, c298_4, e298, hx298_0, hx298_1, hx298_2, hx298_3, hx298_4, hl298_2, hi298_2, hl298_3, hi298_3, hl298_4, hi298_4⟩ := at_T40 HR1_4.out x7_2 p298 q298; cases e298; replace hx298_0 := (HB.out.cell (World.block_lt_of_cell? w _ hx298_0)).trans hx298_0; replace hx298_1 := (HB.out.cell (World.block_lt_of_cell? w _ hx298_1)).trans hx298_1; replace hx298_2 := (HB.out.cell (World.block_lt_of_cell? w _ hx298_2)).trans hx298_2; replace hx298_3 := (HB.out.cell (World.block_lt_of_cell? w _ hx298_3)).trans hx298_3; replace hx298_4 := (HB.out.cell (World.block_lt_of_cell? w _ hx298_4)).trans hx298_4; have HR298_2 := Aside0.mk hi298_2; have HC298_2 := Aside0.mk hl298_2; clear hi298_2 hl298_2; have HR298_3 := Aside0.mk hi298_3; have HC298_3 := Aside0.mk hl298_3; clear hi298_3 hl298_3; have HR298_4 := Aside0.mk hi298_4; have HC298_4 := Aside0.mk hl298_4; clear hi298_4 hl298_4; replace p298 := eq_true p298; replace q298 := eq_true q298; obtain ⟨Ao69, co69, eo69⟩ := Kd.R_slice HO297.out; subst eo69) | ((with_reducible refine gg (f := 80) (some 74) rfl rfl rfl fr80 ?_); refine onc (ih k2 (by have := HJ47.out; have := HK2.out; omega) _ _ t295 ((rd_T40 l1_4 x7_2).f0) ((rd_T40 l1_4 x7_2).f1) _ _ ((rd_T40 l1_4 x7_2).f2) _ _ ((rd_T40 l1_4 x7_2).f3) _ _ ((rd_T40 l1_4 x7_2).f4) t299 _ (cr HO297) (Kd.R_reads' HO297.out).2.1 (cb HR298_2) HC298_2.out (cb HR298_3) HC298_3.out (cb HR298_4) HC298_4.out A64.out) rfl ?_; rintro e w70 ⟨v300, rfl, ho0, hb⟩; refine ⟨_, rfl, ?_⟩; have HO301 := Aside0.mk (Kd.R_lower (Kd.R_new' (Kd.R_new' ho0 (Kd.R_lt (by (with_reducible repeat (first | apply Kd.R_alloc | apply Kd.R_drewN | apply Kd.R_drew)); exact HO_0.out))) (Kd.R_lt (by (with_reducible repeat (first | apply Kd.R_alloc | apply Kd.R_drewN | apply Kd.R_drew)); exact HO297.out))) (bzz w)); replace HO_0 := Aside0.mk (Kd.R_elder' (by (with_reducible repeat (first | apply Kd.R_alloc | apply Kd.R_drewN | apply Kd.R_drew)); exact HO_0.out) (Kd.R_base ho0) hb); replace HO297 := Aside0.mk (Kd.R_elder' (by (with_reducible repeat (first | apply Kd.R_alloc | apply Kd.R_drewN | apply Kd.R_drew)); exact HO297.out) (Kd.R_base ho0) hb); replace BK263 := Aside0.mk (blk_below (g := gb263) (o := .cells #[.int .i64 a1_0, .int .i64 a1_1, .slice A1_2 l1_2.length c1_2, .slice (some ad294) l1_3.length c1_3, .slice (some ad298) l1_4.length c1_4] 40 (0, 0)) (by (with_reducible repeat (first | refine blk_drewN ?_ _ | refine blk_drew ?_ | refine blk_alloc ?_ _)); exact BK263.out) hb); replace HB := (Bw.sw w hb); (try clear hb); (try clear ho0)))
             go_roundg k2
             case measure => have := HJ47.out; have := HK2.out; omega
             case rel => exact ⟨(t299), (wrap64 (x7_2 + 1)), (by first | rfl | (simp; done) | (simp [*]; done)), H', ⟨by have := HJ47.out; have := HK2.out; omega⟩, ⟨by (with_reducible repeat (first | apply Kd.R_alloc | apply Kd.R_drewN | apply Kd.R_drew)); exact Kd.R_mono HO301.out (fun _ hk => trivial)⟩, ⟨by (with_reducible repeat (first | refine blk_drewN ?_ _ | refine blk_drew ?_ | refine blk_alloc ?_ _)); exact BK263.out⟩, ⟨bw⟩⟩
            ·rw [if_neg c62] at H
             exact absurd H (by simp)
           ·rw [if_neg c61] at H
            exact absurd H (by simp)
          ·rw [if_neg c60] at H
           have c60b0 : (a1_0 == 5) = false := beq_eq_false_iff_ne.mpr c60
           have c60b1 : (a1_0 != 5) = true := bne_iff_ne.mpr c60
           by_cases c71 : 0 ≤ x7_2
           ·rw [if_pos c71] at H
            have c71b0 : decide (0 ≤ x7_2) = true := decide_eq_true c71
            clear c71
            replace H := Option.bind_eq_some_iff.mp H
            obtain ⟨t303, A720, H⟩ := H
            replace H : (spec_l2put.l0 k2 t303 (wrap64 (x7_2 + 1)) a1_0 a1_1 l1_2 l1_3 l1_4) = some r := H
            have A72 := Aside0.mk A720
            clear A720
            have H' := Aside0.mk H
            clear H
            obtain ⟨hcz73_0, hcz73_1, hcz73_2, hcz73_3, hcz73_4, hfz73_0, hfz73_1, hfz73_2, hfz73_3, hfz73_4⟩ := blk5 BK263.out
            have p302 : 0 ≤ (x7_2 : Int) := of_decide_eq_true (by first | (with_reducible assumption) | assumption)
            have q302 : x7_2 < (l1_4.length : Int) := of_decide_eq_true (by first | (with_reducible assumption) | assumption)
            obtain ⟨ad302, A302_2, c302_2, A302_3, c302_3, A302_4, c302_4, e302, hx302_0, hx302_1, hx302_2, hx302_3, hx302_4, hl302_2, hi302_2, hl302_3, hi302_3, hl302_4, hi302_4⟩ := at_T40 HR1_4.out x7_2 p302 q302
            cases e302
            replace hx302_0 := (HB.out.cell (World.block_lt_of_cell? w _ hx302_0)).trans hx302_0
            replace hx302_1 := (HB.out.cell (World.block_lt_of_cell? w _ hx302_1)).trans hx302_1
            replace hx302_2 := (HB.out.cell (World.block_lt_of_cell? w _ hx302_2)).trans hx302_2
            replace hx302_3 := (HB.out.cell (World.block_lt_of_cell? w _ hx302_3)).trans hx302_3
            replace hx302_4 := (HB.out.cell (World.block_lt_of_cell? w _ hx302_4)).trans hx302_4
            have HR302_2 := Aside0.mk hi302_2
            have HC302_2 := Aside0.mk hl302_2
            clear hi302_2 hl302_2
            have HR302_3 := Aside0.mk hi302_3
            have HC302_3 := Aside0.mk hl302_3
            clear hi302_3 hl302_3
            have HR302_4 := Aside0.mk hi302_4
            have HC302_4 := Aside0.mk hl302_4
            clear hi302_4 hl302_4
            replace p302 := eq_true p302
            replace q302 := eq_true q302
            obtain ⟨Ao74, co74, eo74⟩ := Kd.R_slice HO_0.out
            subst eo74
            go_wp2_with (first | ((with_reducible refine gg (f := 80) (some 74) rfl rfl rfl fr80 ?_); refine onc (ih k2 (by have := HJ47.out; have := HK2.out; omega) _ _ x0_2 ((rd_T40 l1_4 x7_2).f0) ((rd_T40 l1_4 x7_2).f1) _ _ ((rd_T40 l1_4 x7_2).f2) _ _ ((rd_T40 l1_4 x7_2).f3) _ _ ((rd_T40 l1_4 x7_2).f4) t303 _ (cr HO_0) (Kd.R_reads' HO_0.out).2.1 (cb HR302_2) HC302_2.out (cb HR302_3) HC302_3.out (cb HR302_4) HC302_4.out A72.out) rfl ?_; rintro e w75 ⟨v304, rfl, ho0, hb⟩; refine ⟨_, rfl, ?_⟩; have HO305 := Aside0.mk (Kd.R_lower (Kd.R_new' ho0 (Kd.R_lt (by (with_reducible repeat (first | apply Kd.R_alloc | apply Kd.R_drewN | apply Kd.R_drew)); exact HO_0.out))) (bzz w)); replace HO_0 := Aside0.mk (Kd.R_elder' (by (with_reducible repeat (first | apply Kd.R_alloc | apply Kd.R_drewN | apply Kd.R_drew)); exact HO_0.out) (Kd.R_base ho0) hb); replace BK263 := Aside0.mk (blk_below (g := gb263) (o := .cells #[.int .i64 a1_0, .int .i64 a1_1, .slice A1_2 l1_2.length c1_2, .slice A1_3 l1_3.length c1_3, .slice (some ad302) l1_4.length c1_4] 40 (0, 0)) (by (with_reducible repeat (first | refine blk_drewN ?_ _ | refine blk_drew ?_ | refine blk_alloc ?_ _)); exact BK263.out) hb); replace HB := (Bw.sw w hb); (try clear hb); (try clear ho0)))
            go_roundg k2
            case measure => have := HJ47.out; have := HK2.out; omega
            case rel => exact ⟨(t303), (wrap64 (x7_2 + 1)), (by first | rfl | (simp; done) | (simp [*]; done)), H', ⟨by have := HJ47.out; have := HK2.out; omega⟩, ⟨by (with_reducible repeat (first | apply Kd.R_alloc | apply Kd.R_drewN | apply Kd.R_drew)); exact Kd.R_mono HO305.out (fun _ hk => trivial)⟩, ⟨by (with_reducible repeat (first | refine blk_drewN ?_ _ | refine blk_drew ?_ | refine blk_alloc ?_ _)); exact BK263.out⟩, ⟨bw⟩⟩
           ·rw [if_neg c71] at H
            exact absurd H (by simp)
         ·rw [if_neg c59] at H
          have c59b0 : decide (x7_2 < (l1_4.length : Int)) = false := decide_eq_false c59
          clear c59
          obtain rfl := Option.some.inj H
          obtain ⟨hcz76_0, hcz76_1, hcz76_2, hcz76_3, hcz76_4, hfz76_0, hfz76_1, hfz76_2, hfz76_3, hfz76_4⟩ := blk5 BK263.out
          go_wp2
          go_ret
          exact ⟨_, by first | rfl | (simp [errW_none, errW_some] <;> rfl) | (simp [*, errW_none, errW_some] <;> rfl), by (with_reducible repeat (first | apply Kd.R_alloc | apply Kd.R_drewN | apply Kd.R_drew)); exact HO_0.out, bw⟩
      ·replace c54 := Bool.eq_false_iff.mpr c54
       subst c54
       have H1 : (some t264) = some r := by rw [if_neg (show ¬ (false = true) by decide)] at H; exact H
       clear H
       have H := H1
       clear H1
       obtain rfl := Option.some.inj H
       go_wp2
       go_ret
       exact ⟨_, by first | rfl | (simp [errW_none, errW_some] <;> rfl) | (simp [*, errW_none, errW_some] <;> rfl), by (with_reducible repeat (first | apply Kd.R_alloc | apply Kd.R_drewN | apply Kd.R_drew)); exact HO_0.out, bw⟩

/-! ### spec_ValBytes: function 43 -/
def spec_ValBytes.f (k : Nat) (a0_0 : Int) (a0_1 : Int) (l0_2 : List Int) (l0_3 : List (List Int)) (l0_4 : List (S40)) : Option (List Int × Bool) := (spec_ValOk.f k a0_0 a0_1 l0_2 l0_3 l0_4).bind fun t307 => (if t307 = true then ((spec_l2put.f k ([] : List Int) a0_0 a0_1 l0_2 l0_3 l0_4).bind fun t308 => (some (t308, true))) else (some (([] : List Int), false)))
theorem spec_ValBytes.mono : ∀ a0 a1 a2 a3 a4 k, LeO (spec_ValBytes.f k a0 a1 a2 a3 a4) (spec_ValBytes.f (k + 1) a0 a1 a2 a3 a4) := by
 intro a0 a1 a2 a3 a4 k
 unfold spec_ValBytes.f
 repeat' first
   | (with_reducible exact spec_ValOk.mono _ _ _ _ _ _)
   | (with_reducible exact spec_l2put.mono _ _ _ _ _ _ _)
   | (with_reducible exact LeO.refl _)
   | (with_reducible exact LeO.none _)
   | (with_reducible refine LeO.ite ?_ ?_)
   | (with_reducible refine LeO.bind ?_ (fun _ => ?_))
   | exact spec_ValOk.mono _ _ _ _ _ _
   | exact spec_l2put.mono _ _ _ _ _ _ _
   | exact LeO.none _
   | refine LeO.ite ?_ ?_
   | refine LeO.bind ?_ (fun _ => ?_)
set_option maxHeartbeats 8000000 in
set_option maxRecDepth 100000 in
theorem spec_ValBytes.calls (k : Nat) (a0_0 : Int) (a0_1 : Int) (A0_2 : Option Addr) (c0_2 : Nat) (l0_2 : List Int) (A0_3 : Option Addr) (c0_3 : Nat) (l0_3 : List (List Int)) (A0_4 : Option Addr) (c0_4 : Nat) (l0_4 : List (S40)) (r1 : List Int) (r2 : Bool) (w : World) (hr0_2 : Kd.C (Kd.int .u8) w A0_2 l0_2.length l0_2) (hc0_2 : l0_2.length ≤ c0_2) (hr0_3 : Kd.C (Kd.slice 5 (Kd.int .u8)) w A0_3 l0_3.length l0_3) (hc0_3 : l0_3.length ≤ c0_3) (hr0_4 : Kd.C k40 w A0_4 l0_4.length l0_4) (hc0_4 : l0_4.length ≤ c0_4) (h : spec_ValBytes.f k a0_0 a0_1 l0_2 l0_3 l0_4 = some (r1, r2)) :
  Calls Try.prog 43 #[.agg #[.int .i64 a0_0, .int .i64 a0_1, .slice A0_2 l0_2.length c0_2, .slice A0_3 l0_3.length c0_3, .slice A0_4 l0_4.length c0_4]] w fun e w' => ∃ v0_ : Value, e = .returned (.tuple #[v0_, .bool r2]) ∧ Kd.R (Kd.int .u8) 5 w' w.heap.size (fun _ => True) v0_ r1 ∧ Below w.heap.size w w' := by
 have hu40 := Try.underlying40
 have HR0_2 := Aside0.mk hr0_2
 have HC0_2 := Aside0.mk hc0_2
 clear hr0_2 hc0_2
 have HR0_3 := Aside0.mk hr0_3
 have HC0_3 := Aside0.mk hc0_3
 clear hr0_3 hc0_3
 have HR0_4 := Aside0.mk hr0_4
 have HC0_4 := Aside0.mk hc0_4
 clear hr0_4 hc0_4
 have HB := Bw.refl w
 have H : ((spec_ValOk.f k a0_0 a0_1 l0_2 l0_3 l0_4).bind fun t307 => (if t307 = true then ((spec_l2put.f k ([] : List Int) a0_0 a0_1 l0_2 l0_3 l0_4).bind fun t308 => (some (t308, true))) else (some (([] : List Int), false)))) = some (r1, r2) := h
 clear h
 replace H := Option.bind_eq_some_iff.mp H
 obtain ⟨t307, A20, H⟩ := H
 replace H : (if t307 = true then ((spec_l2put.f k ([] : List Int) a0_0 a0_1 l0_2 l0_3 l0_4).bind fun t308 => (some (t308, true))) else (some (([] : List Int), false))) = some (r1, r2) := H
 have A2 := Aside0.mk A20
 clear A20
 by_cases c3 : t307 = true
 ·subst c3
  have H1 : ((spec_l2put.f k ([] : List Int) a0_0 a0_1 l0_2 l0_3 l0_4).bind fun t308 => (some (t308, true))) = some (r1, r2) := by rw [if_pos rfl] at H; exact H
  clear H
  have H := H1
  clear H1
  replace H := Option.bind_eq_some_iff.mp H
  obtain ⟨t308, A40, H⟩ := H
  replace H : (some (t308, true)) = some (r1, r2) := H
  have A4 := Aside0.mk A40
  clear A40
  simp only [Option.some.injEq, Prod.mk.injEq] at H
  obtain ⟨rfl, rfl⟩ := H
  go_enter Try.func43, Try.ntmps43
  go_wp2_with (first | ((with_reducible refine gate_dst (N := 1) rfl ?_); refine box_event rfl (N := 1) rfl (cs := #[.int .i64 a0_0, .int .i64 a0_1, .slice A0_2 l0_2.length c0_2, .slice A0_3 l0_3.length c0_3, .slice A0_4 l0_4.length c0_4]) (t := 40) (by go_simp <;> rfl) ?_; intro gb306 hg w5 hbox hb; have BK306 := Aside0.mk (hbox); have GE306 := (Ge.of hg : Ge w.heap.size gb306); replace HB := (Bw.sw w hb); clear hb hbox hg; obtain ⟨hcz6_0, hcz6_1, hcz6_2, hcz6_3, hcz6_4, hfz6_0, hfz6_1, hfz6_2, hfz6_3, hfz6_4⟩ := blk5 BK306.out) | ((with_reducible refine gg (f := 21) (some 5) rfl rfl rfl fr21 ?_); refine onc (spec_ValOk.calls k a0_0 a0_1 _ _ l0_2 _ _ l0_3 _ _ l0_4 true _ (cb HR0_2) HC0_2.out (cb HR0_3) HC0_3.out (cb HR0_4) HC0_4.out A2.out) rfl ?_; rintro e w7 ⟨rfl, hb⟩; refine ⟨_, rfl, ?_⟩; replace BK306 := Aside0.mk (blk_below (g := gb306) (o := .cells #[.int .i64 a0_0, .int .i64 a0_1, .slice A0_2 l0_2.length c0_2, .slice A0_3 l0_3.length c0_3, .slice A0_4 l0_4.length c0_4] 40 (0, 0)) (by (with_reducible repeat (first | refine blk_drewN ?_ _ | refine blk_drew ?_ | refine blk_alloc ?_ _)); exact BK306.out) hb); replace HB := (Bw.sw w hb); (try clear hb); obtain ⟨hcz8_0, hcz8_1, hcz8_2, hcz8_3, hcz8_4, hfz8_0, hfz8_1, hfz8_2, hfz8_3, hfz8_4⟩ := blk5 BK306.out) | ((with_reducible refine gate_callee (f := 80) rfl ?_); refine goesL_ (some 8) rfl rfl Try.func80 (by kernel_rfl) rfl #[.slice none 0 0, .agg #[.int .i64 a0_0, .int .i64 a0_1, .slice A0_2 l0_2.length c0_2, .slice A0_3 l0_3.length c0_3, .slice A0_4 l0_4.length c0_4]] rfl (by (try simp only [List.map_toArray, List.map_cons, List.map_nil]); first | done | rfl | (simp only [List.length_drop, List.length_take]; rfl)) ?_; (refine (spec_l2put.calls k _ _ ([] : List Int) a0_0 a0_1 _ _ l0_2 _ _ l0_3 _ _ l0_4 t308 _ ?side1 ?side2 ?side3 ?side4 ?side5 ?side6 ?side7 ?side8 A4.out).mono ?_); (case side1 => exact Kd.C_nil _ _); (case side2 => exact Nat.le_refl _); (case side3 => repeat (first | exact (Kd.C_below HR0_2.out HB.out) | (with_reducible refine Kd.C_alloc ?_ _) | (with_reducible refine Kd.C_drewN ?_ _) | (with_reducible refine Kd.C_drew ?_))); (case side4 => exact HC0_2.out); (case side5 => repeat (first | exact (Kd.C_below HR0_3.out HB.out) | (with_reducible refine Kd.C_alloc ?_ _) | (with_reducible refine Kd.C_drewN ?_ _) | (with_reducible refine Kd.C_drew ?_))); (case side6 => exact HC0_3.out); (case side7 => repeat (first | exact (Kd.C_below HR0_4.out HB.out) | (with_reducible refine Kd.C_alloc ?_ _) | (with_reducible refine Kd.C_drewN ?_ _) | (with_reducible refine Kd.C_drew ?_))); (case side8 => exact HC0_4.out); rintro e w9 ⟨v309, rfl, ho0, hb⟩; refine ⟨_, rfl, ?_⟩; have HO310 := Aside0.mk (Kd.R_lower ho0 (bzz w)); replace BK306 := Aside0.mk (blk_below (g := gb306) (o := .cells #[.int .i64 a0_0, .int .i64 a0_1, .slice A0_2 l0_2.length c0_2, .slice A0_3 l0_3.length c0_3, .slice A0_4 l0_4.length c0_4] 40 (0, 0)) (by (with_reducible repeat (first | refine blk_drewN ?_ _ | refine blk_drew ?_ | refine blk_alloc ?_ _)); exact BK306.out) hb); replace HB := (Bw.sw w hb); (try clear hb); (try clear ho0)))
  go_ret2
  exact ⟨_, by first | rfl | (simp [errW_none, errW_some] <;> rfl) | (simp [*, errW_none, errW_some] <;> rfl), by (with_reducible repeat (first | apply Kd.R_alloc | apply Kd.R_drewN | apply Kd.R_drew)); exact HO310.out, bw⟩
 ·replace c3 := Bool.eq_false_iff.mpr c3
  subst c3
  have H1 : (some (([] : List Int), false)) = some (r1, r2) := by rw [if_neg (show ¬ (false = true) by decide)] at H; exact H
  clear H
  have H := H1
  clear H1
  simp only [Option.some.injEq, Prod.mk.injEq] at H
  obtain ⟨rfl, rfl⟩ := H
  go_enter Try.func43, Try.ntmps43
  go_wp2_with (first | ((with_reducible refine gate_dst (N := 1) rfl ?_); refine box_event rfl (N := 1) rfl (cs := #[.int .i64 a0_0, .int .i64 a0_1, .slice A0_2 l0_2.length c0_2, .slice A0_3 l0_3.length c0_3, .slice A0_4 l0_4.length c0_4]) (t := 40) (by go_simp <;> rfl) ?_; intro gb306 hg w10 hbox hb; have BK306 := Aside0.mk (hbox); have GE306 := (Ge.of hg : Ge w.heap.size gb306); replace HB := (Bw.sw w hb); clear hb hbox hg; obtain ⟨hcz11_0, hcz11_1, hcz11_2, hcz11_3, hcz11_4, hfz11_0, hfz11_1, hfz11_2, hfz11_3, hfz11_4⟩ := blk5 BK306.out) | ((with_reducible refine gg (f := 21) (some 5) rfl rfl rfl fr21 ?_); refine onc (spec_ValOk.calls k a0_0 a0_1 _ _ l0_2 _ _ l0_3 _ _ l0_4 false _ (cb HR0_2) HC0_2.out (cb HR0_3) HC0_3.out (cb HR0_4) HC0_4.out A2.out) rfl ?_; rintro e w12 ⟨rfl, hb⟩; refine ⟨_, rfl, ?_⟩; replace BK306 := Aside0.mk (blk_below (g := gb306) (o := .cells #[.int .i64 a0_0, .int .i64 a0_1, .slice A0_2 l0_2.length c0_2, .slice A0_3 l0_3.length c0_3, .slice A0_4 l0_4.length c0_4] 40 (0, 0)) (by (with_reducible repeat (first | refine blk_drewN ?_ _ | refine blk_drew ?_ | refine blk_alloc ?_ _)); exact BK306.out) hb); replace HB := (Bw.sw w hb); (try clear hb)))
  go_ret2
  exact ⟨_, by first | rfl | (simp [errW_none, errW_some] <;> rfl) | (simp [*, errW_none, errW_some] <;> rfl), by first | exact Kd.R_nil _ _ _ _ _ | exact Kd.N_nil _ _ _ _ _ | exact Kd.V_nil _ _ _ _ _ | exact Kd.Q_nil _ _ _ _ _ | exact Kd.S_nil _ _ _ _ _, bw⟩

/-! ### impl_Value_parts: function 67 -/
mutual
def impl_Value_parts.l0 : Nat → Int → List (S40) → Int → Int → Option (Int)
 | 0, _, _, _, _ => none
 | k + 1, x3, x7, x8, x9 => if x9 < x8 then (if 0 ≤ x9 then (if x9 < (x7.length : Int) then ((impl_Value_parts.f k ((rd_T40 x7 x9).f0) ((rd_T40 x7 x9).f1) ((rd_T40 x7 x9).f2) ((rd_T40 x7 x9).f3) ((rd_T40 x7 x9).f4)).bind fun t314 => (impl_Value_parts.l0 k (wrap64 (x3 + t314)) x7 x8 (wrap64 (x9 + 1)))) else (none)) else (none)) else (some x3)
def impl_Value_parts.f : Nat → Int → Int → List Int → List (List Int) → List (S40) → Option (Int)
 | 0, _, _, _, _, _ => none
 | k + 1, a0_0, a0_1, l0_2, l0_3, l0_4 => impl_Value_parts.l0 k 1 l0_4 (l0_4.length : Int) 0
end
theorem impl_Value_parts.mono_l : ∀ k, (∀ y0 y1 y2 y3 y4, LeO (impl_Value_parts.f k y0 y1 y2 y3 y4) (impl_Value_parts.f (k + 1) y0 y1 y2 y3 y4)) ∧ (∀ y0 y1 y2 y3, LeO (impl_Value_parts.l0 k y0 y1 y2 y3) (impl_Value_parts.l0 (k + 1) y0 y1 y2 y3))
 | 0 => ⟨fun _ _ _ _ _ r h => by simp [impl_Value_parts.f] at h, fun _ _ _ _ r h => by simp [impl_Value_parts.l0] at h⟩
 | k + 1 => by
  obtain ⟨ih0, ih1⟩ := impl_Value_parts.mono_l k
  refine ⟨?_, ?_⟩
  ·intro y0 y1 y2 y3 y4
   unfold impl_Value_parts.f
   repeat' first
   | (with_reducible exact ih0 _ _ _ _ _)
   | (with_reducible exact ih1 _ _ _ _)
   | (with_reducible exact LeO.refl _)
   | (with_reducible exact LeO.none _)
   | (with_reducible refine LeO.ite ?_ ?_)
   | (with_reducible refine LeO.bind ?_ (fun _ => ?_))
   | exact ih0 _ _ _ _ _
   | exact ih1 _ _ _ _
   | exact LeO.none _
   | refine LeO.ite ?_ ?_
   | refine LeO.bind ?_ (fun _ => ?_)
  ·intro y0 y1 y2 y3
   unfold impl_Value_parts.l0
   repeat' first
   | (with_reducible exact ih0 _ _ _ _ _)
   | (with_reducible exact ih1 _ _ _ _)
   | (with_reducible exact LeO.refl _)
   | (with_reducible exact LeO.none _)
   | (with_reducible refine LeO.ite ?_ ?_)
   | (with_reducible refine LeO.bind ?_ (fun _ => ?_))
   | exact ih0 _ _ _ _ _
   | exact ih1 _ _ _ _
   | exact LeO.none _
   | refine LeO.ite ?_ ?_
   | refine LeO.bind ?_ (fun _ => ?_)
theorem impl_Value_parts.mono : ∀ a0 a1 a2 a3 a4 k, LeO (impl_Value_parts.f k a0 a1 a2 a3 a4) (impl_Value_parts.f (k + 1) a0 a1 a2 a3 a4) := by
 intro a0 a1 a2 a3 a4 k
 obtain ⟨ih0, ih1⟩ := impl_Value_parts.mono_l k
 exact ih0 a0 a1 a2 a3 a4
set_option maxHeartbeats 8000000 in
set_option maxRecDepth 100000 in
theorem impl_Value_parts.calls (k : Nat) : ∀ (a0_0 : Int) (a0_1 : Int) (A0_2 : Option Addr) (c0_2 : Nat) (l0_2 : List Int) (A0_3 : Option Addr) (c0_3 : Nat) (l0_3 : List (List Int)) (A0_4 : Option Addr) (c0_4 : Nat) (l0_4 : List (S40)) (r : Int) (w : World) (hr0_2 : Kd.C (Kd.int .u8) w A0_2 l0_2.length l0_2) (hc0_2 : l0_2.length ≤ c0_2) (hr0_3 : Kd.C (Kd.slice 5 (Kd.int .u8)) w A0_3 l0_3.length l0_3) (hc0_3 : l0_3.length ≤ c0_3) (hr0_4 : Kd.C k40 w A0_4 l0_4.length l0_4) (hc0_4 : l0_4.length ≤ c0_4) (h : impl_Value_parts.f k a0_0 a0_1 l0_2 l0_3 l0_4 = some r),
  Calls Try.prog 67 #[.agg #[.int .i64 a0_0, .int .i64 a0_1, .slice A0_2 l0_2.length c0_2, .slice A0_3 l0_3.length c0_3, .slice A0_4 l0_4.length c0_4]] w fun e w' => e = .returned (.int .i64 r) ∧ Below w.heap.size w w' := by
 induction k using Nat.strongRecOn with
 | _ k ih =>
 intro a0_0 a0_1 A0_2 c0_2 l0_2 A0_3 c0_3 l0_3 A0_4 c0_4 l0_4 r w hr0_2 hc0_2 hr0_3 hc0_3 hr0_4 hc0_4 h
 cases k with
 | zero => exact absurd h (by simp [impl_Value_parts.f])
 | succ k =>
 simp only [impl_Value_parts.f] at h
 have hu40 := Try.underlying40
 have HR0_2 := Aside0.mk hr0_2
 have HC0_2 := Aside0.mk hc0_2
 clear hr0_2 hc0_2
 have HR0_3 := Aside0.mk hr0_3
 have HC0_3 := Aside0.mk hc0_3
 clear hr0_3 hc0_3
 have HR0_4 := Aside0.mk hr0_4
 have HC0_4 := Aside0.mk hc0_4
 clear hr0_4 hc0_4
 have HB := Bw.refl w
 have H : (impl_Value_parts.l0 k 1 l0_4 (l0_4.length : Int) 0) = some r := h
 clear h
 have H' := Aside0.mk H
 clear H
 go_enter Try.func67, Try.ntmps67
 go_wp2_with (first | ((with_reducible refine gate_dst (N := 1) rfl ?_); refine box_event rfl (N := 1) rfl (cs := #[.int .i64 a0_0, .int .i64 a0_1, .slice A0_2 l0_2.length c0_2, .slice A0_3 l0_3.length c0_3, .slice A0_4 l0_4.length c0_4]) (t := 40) (by go_simp <;> rfl) ?_; intro gb311 hg w2 hbox hb; have BK311 := Aside0.mk (hbox); have GE311 := (Ge.of hg : Ge w.heap.size gb311); replace HB := (Bw.sw w hb); clear hb hbox hg; obtain ⟨hcz3_0, hcz3_1, hcz3_2, hcz3_3, hcz3_4, hfz3_0, hfz3_1, hfz3_2, hfz3_3, hfz3_4⟩ := blk5 BK311.out))
 go_loopg [3, 9] k (fun kq v3 v9 w' => ∃ (x3_1 : Int) (x9_1 : Int), v3 = .int .i64 x3_1 ∧ v9 = .int .i64 x9_1 ∧ Aside0 (impl_Value_parts.l0 kq x3_1 l0_4 (l0_4.length : Int) x9_1 = some r) ∧ Aside0 (kq ≤ k) ∧ Aside0 (w'.heap[gb311]? = some (.cells #[.int .i64 a0_0, .int .i64 a0_1, (.slice A0_2 l0_2.length c0_2), (.slice A0_3 l0_3.length c0_3), (.slice A0_4 l0_4.length c0_4)] 40 (0, 0))) ∧ Bw w w')
 case atStart => exact ⟨(1), (0), (by first | rfl | (simp; done) | (simp [*]; done)), (by first | rfl | (simp; done) | (simp [*]; done)), H', ⟨Nat.le_refl _⟩, ⟨by (with_reducible repeat (first | refine blk_drewN ?_ _ | refine blk_drew ?_ | refine blk_alloc ?_ _)); exact BK311.out⟩, ⟨bw⟩⟩
 case round =>
  clear H'
  try clear hcz3_0 hcz3_1 hcz3_2 hcz3_3 hcz3_4
  try clear hfz3_0 hfz3_1 hfz3_2 hfz3_3 hfz3_4
  obtain ⟨x3_1, x9_1, rfl, rfl, HA, HK1, BK311, HB⟩ := hrel
  cases gk with
  | zero => exact absurd HA.out (by simp [impl_Value_parts.l0])
  | succ k1 =>
   have H := HA.out
   clear HA
   simp only [impl_Value_parts.l0] at H
   by_cases c4 : x9_1 < (l0_4.length : Int)
   ·rw [if_pos c4] at H
    have c4b0 : decide (x9_1 < (l0_4.length : Int)) = true := decide_eq_true c4
    clear c4
    by_cases c5 : 0 ≤ x9_1
    ·rw [if_pos c5] at H
     have c5b0 : decide (0 ≤ x9_1) = true := decide_eq_true c5
     clear c5
     by_cases c6 : x9_1 < (l0_4.length : Int)
     ·rw [if_pos c6] at H
      have c6b0 : decide (x9_1 < (l0_4.length : Int)) = true := decide_eq_true c6
      clear c6
      replace H := Option.bind_eq_some_iff.mp H
      obtain ⟨t314, A70, H⟩ := H
      replace H : (impl_Value_parts.l0 k1 (wrap64 (x3_1 + t314)) l0_4 (l0_4.length : Int) (wrap64 (x9_1 + 1))) = some r := H
      have A7 := Aside0.mk A70
      clear A70
      have H' := Aside0.mk H
      clear H
      have p312 : 0 ≤ (x9_1 : Int) := of_decide_eq_true (by first | (with_reducible assumption) | assumption)
      have q312 : x9_1 < (l0_4.length : Int) := of_decide_eq_true (by first | (with_reducible assumption) | assumption)
      obtain ⟨ad312, A312_2, c312_2, A312_3, c312_3, A312_4, c312_4, e312, hx312_0, hx312_1, hx312_2, hx312_3, hx312_4, hl312_2, hi312_2, hl312_3, hi312_3, hl312_4, hi312_4⟩ := at_T40 HR0_4.out x9_1 p312 q312
      cases e312
      replace hx312_0 := (HB.out.cell (World.block_lt_of_cell? w _ hx312_0)).trans hx312_0
      replace hx312_1 := (HB.out.cell (World.block_lt_of_cell? w _ hx312_1)).trans hx312_1
      replace hx312_2 := (HB.out.cell (World.block_lt_of_cell? w _ hx312_2)).trans hx312_2
      replace hx312_3 := (HB.out.cell (World.block_lt_of_cell? w _ hx312_3)).trans hx312_3
      replace hx312_4 := (HB.out.cell (World.block_lt_of_cell? w _ hx312_4)).trans hx312_4
      have HR312_2 := Aside0.mk hi312_2
      have HC312_2 := Aside0.mk hl312_2
      clear hi312_2 hl312_2
      have HR312_3 := Aside0.mk hi312_3
      have HC312_3 := Aside0.mk hl312_3
      clear hi312_3 hl312_3
      have HR312_4 := Aside0.mk hi312_4
      have HC312_4 := Aside0.mk hl312_4
      clear hi312_4 hl312_4
      replace p312 := eq_true p312
      replace q312 := eq_true q312
      go_wp2_with (first | ((with_reducible refine gate_dst (N := 5) rfl ?_); refine box_event rfl (N := 5) rfl (cs := #[.int .i64 0, .int .i64 0, .slice none 0 0, .slice none 0 0, .slice none 0 0]) (t := 40) (by go_simp <;> rfl) ?_; intro gb313 hg w8 hbox hb; have BK313 := Aside0.mk (hbox); have GE313 := (Ge.of hg : Ge w.heap.size gb313); replace HB := (Bw.sw w hb); have NB311_313 := Aside0.mk ((by rw [hg]; exact Nat.ne_of_lt (blk_lt (g := gb311) (o := .cells #[.int .i64 a0_0, .int .i64 a0_1, .slice A0_2 l0_2.length c0_2, .slice A0_3 l0_3.length c0_3, .slice (some ad312) l0_4.length c0_4] 40 (0, 0)) (by (with_reducible repeat (first | refine blk_drewN ?_ _ | refine blk_drew ?_ | refine blk_alloc ?_ _)); exact BK311.out)) : gb311 ≠ gb313)); have NB313_311 := Aside0.mk ((by rw [hg]; exact Nat.ne_of_gt (blk_lt (g := gb311) (o := .cells #[.int .i64 a0_0, .int .i64 a0_1, .slice A0_2 l0_2.length c0_2, .slice A0_3 l0_3.length c0_3, .slice (some ad312) l0_4.length c0_4] 40 (0, 0)) (by (with_reducible repeat (first | refine blk_drewN ?_ _ | refine blk_drew ?_ | refine blk_alloc ?_ _)); exact BK311.out)) : gb313 ≠ gb311)); replace BK311 := Aside0.mk (blk_below (g := gb311) (o := .cells #[.int .i64 a0_0, .int .i64 a0_1, .slice A0_2 l0_2.length c0_2, .slice A0_3 l0_3.length c0_3, .slice (some ad312) l0_4.length c0_4] 40 (0, 0)) (by (with_reducible repeat (first | refine blk_drewN ?_ _ | refine blk_drew ?_ | refine blk_alloc ?_ _)); exact BK311.out) hb); clear hb hbox hg; have hnb9 := NB313_311.out; have hnc9 := NB311_313.out; obtain ⟨hcz10_0, hcz10_1, hcz10_2, hcz10_3, hcz10_4, hfz10_0, hfz10_1, hfz10_2, hfz10_3, hfz10_4⟩ := blk5 BK313.out) | ((with_reducible refine gg (f := 67) (some 15) rfl rfl rfl fr67 ?_); refine onc (ih k1 (by have := HK1.out; omega) ((rd_T40 l0_4 x9_1).f0) ((rd_T40 l0_4 x9_1).f1) _ _ ((rd_T40 l0_4 x9_1).f2) _ _ ((rd_T40 l0_4 x9_1).f3) _ _ ((rd_T40 l0_4 x9_1).f4) t314 _ (cb HR312_2) HC312_2.out (cb HR312_3) HC312_3.out (cb HR312_4) HC312_4.out A7.out) rfl ?_; rintro e w11 ⟨rfl, hb⟩; refine ⟨_, rfl, ?_⟩; replace BK311 := Aside0.mk (blk_below (g := gb311) (o := .cells #[.int .i64 a0_0, .int .i64 a0_1, .slice A0_2 l0_2.length c0_2, .slice A0_3 l0_3.length c0_3, .slice (some ad312) l0_4.length c0_4] 40 (0, 0)) (by (with_reducible repeat (first | refine blk_drewN ?_ _ | refine blk_drew ?_ | refine blk_alloc ?_ _)); refine blk_far ?_ NB311_313.out _; (with_reducible repeat (first | refine blk_drewN ?_ _ | refine blk_drew ?_ | refine blk_alloc ?_ _)); refine blk_far ?_ NB311_313.out _; (with_reducible repeat (first | refine blk_drewN ?_ _ | refine blk_drew ?_ | refine blk_alloc ?_ _)); refine blk_far ?_ NB311_313.out _; (with_reducible repeat (first | refine blk_drewN ?_ _ | refine blk_drew ?_ | refine blk_alloc ?_ _)); refine blk_far ?_ NB311_313.out _; (with_reducible repeat (first | refine blk_drewN ?_ _ | refine blk_drew ?_ | refine blk_alloc ?_ _)); refine blk_far ?_ NB311_313.out _; (with_reducible repeat (first | refine blk_drewN ?_ _ | refine blk_drew ?_ | refine blk_alloc ?_ _)); exact BK311.out) hb); replace BK313 := Aside0.mk (blk_below (g := gb313) (o := .cells #[.int .i64 ((rd_T40 l0_4 x9_1).f0), .int .i64 ((rd_T40 l0_4 x9_1).f1), .slice A312_2 ((rd_T40 l0_4 x9_1).f2).length c312_2, .slice A312_3 ((rd_T40 l0_4 x9_1).f3).length c312_3, .slice A312_4 ((rd_T40 l0_4 x9_1).f4).length c312_4] 40 (0, 0)) (by (with_reducible repeat (first | refine blk_drewN ?_ _ | refine blk_drew ?_ | refine blk_alloc ?_ _)); refine blk_put (cs := #[.int .i64 ((rd_T40 l0_4 x9_1).f0), .int .i64 ((rd_T40 l0_4 x9_1).f1), .slice A312_2 ((rd_T40 l0_4 x9_1).f2).length c312_2, .slice A312_3 ((rd_T40 l0_4 x9_1).f3).length c312_3, .slice none 0 0]) ?_ 4 _ rfl; (with_reducible repeat (first | refine blk_drewN ?_ _ | refine blk_drew ?_ | refine blk_alloc ?_ _)); refine blk_put (cs := #[.int .i64 ((rd_T40 l0_4 x9_1).f0), .int .i64 ((rd_T40 l0_4 x9_1).f1), .slice A312_2 ((rd_T40 l0_4 x9_1).f2).length c312_2, .slice none 0 0, .slice none 0 0]) ?_ 3 _ rfl; (with_reducible repeat (first | refine blk_drewN ?_ _ | refine blk_drew ?_ | refine blk_alloc ?_ _)); refine blk_put (cs := #[.int .i64 ((rd_T40 l0_4 x9_1).f0), .int .i64 ((rd_T40 l0_4 x9_1).f1), .slice none 0 0, .slice none 0 0, .slice none 0 0]) ?_ 2 _ rfl; (with_reducible repeat (first | refine blk_drewN ?_ _ | refine blk_drew ?_ | refine blk_alloc ?_ _)); refine blk_put (cs := #[.int .i64 ((rd_T40 l0_4 x9_1).f0), .int .i64 0, .slice none 0 0, .slice none 0 0, .slice none 0 0]) ?_ 1 _ rfl; (with_reducible repeat (first | refine blk_drewN ?_ _ | refine blk_drew ?_ | refine blk_alloc ?_ _)); refine blk_put (cs := #[.int .i64 0, .int .i64 0, .slice none 0 0, .slice none 0 0, .slice none 0 0]) ?_ 0 _ rfl; (with_reducible repeat (first | refine blk_drewN ?_ _ | refine blk_drew ?_ | refine blk_alloc ?_ _)); exact BK313.out) hb); replace HB := (Bw.sw w hb); (try clear hb)))
      go_roundg k1
      case measure => have := HK1.out; omega
      case rel => exact ⟨(wrap64 (x3_1 + t314)), (wrap64 (x9_1 + 1)), (by first | rfl | (simp; done) | (simp [*]; done)), (by first | rfl | (simp; done) | (simp [*]; done)), H', ⟨by have := HK1.out; omega⟩, ⟨by (with_reducible repeat (first | refine blk_drewN ?_ _ | refine blk_drew ?_ | refine blk_alloc ?_ _)); exact BK311.out⟩, ⟨bw⟩⟩
     ·rw [if_neg c6] at H
      exact absurd H (by simp)
    ·rw [if_neg c5] at H
     exact absurd H (by simp)
   ·rw [if_neg c4] at H
    have c4b0 : decide (x9_1 < (l0_4.length : Int)) = false := decide_eq_false c4
    clear c4
    obtain rfl := Option.some.inj H
    go_wp2
    go_ret
    exact ⟨by first | rfl | (simp [errW_none, errW_some] <;> rfl) | (simp [*, errW_none, errW_some] <;> rfl), bw⟩

end Go.Proofs.Ytmigpeaiepdmbaa.PFnExactValBytes
