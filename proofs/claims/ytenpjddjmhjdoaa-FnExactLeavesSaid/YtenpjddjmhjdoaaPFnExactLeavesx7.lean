/- What the law reaches: each function as a plain Lean function, and that each call comes to it. No condition. -/
import Derived.Test.YtenpjddjmhjdoaaMtodo
import Derived.Test.YtenpjddjmhjdoaaPFnExactLeavesx0
import Derived.Test.YtenpjddjmhjdoaaPFnExactLeavesx6
namespace Go.Proofs.Ytenpjddjmhjdoaa.PFnExactLeaves
open Go.RowKit Go.Proofs.YtenpjddjmhjdoaaW.PrintWords Go.Proofs.YtenpjddjmhjdoaaW.PrintLast Go.Proofs.YtenpjddjmhjdoaaW.PrintMore Go.Proofs.Ytenpjddjmhjdoaa.M
attribute [local go_sem] max2_int min2_int max_two min_two max_three min_three max_four min_four Go.Proofs.Ytenpjddjmhjdoaa.M.str_gtr Go.Proofs.Ytenpjddjmhjdoaa.M.str_leq Go.Proofs.Ytenpjddjmhjdoaa.M.str_geq   -- for this text's walks alone
set_option linter.unusedVariables false
set_option linter.unusedSimpArgs false

/-! ### spec_l3leaves: function 67 -/
mutual
def spec_l3leaves.l0 : Nat → List (S79) → List (List (S79)) → Int → Int → Int → List Int → List (List Int) → List (S30) → Option ((List (List (S79))))
 | 0, _, _, _, _, _, _, _, _ => none
 | k + 1, x1, x5, x6, x253000, x253001, x253002, x253003, x253004 => if x6 < (x253004.length : Int) then (if x253000 = 5 then ((some (([] : List Int) : List Int)).bind fun y263 => (if 0 ≤ x6 then (if x6 < (x253003.length : Int) then (if y263.length + (rd_L1 x253003 x6).length < 140737488355328 then ((spec_l3more.f x1 0 (y263 ++ (rd_L1 x253003 x6)) 0).bind fun t271 => ((spec_l3leaves.f k ((rd_T30 x253004 x6).f0) ((rd_T30 x253004 x6).f1) ((rd_T30 x253004 x6).f2) ((rd_T30 x253004 x6).f3) ((rd_T30 x253004 x6).f4) t271).bind fun t274 => (if x5.length + t274.length < 5864062014805 then (spec_l3leaves.l0 k x1 (x5 ++ t274) (wrap64 (x6 + 1)) x253000 x253001 x253002 x253003 x253004) else (none)))) else (none)) else (none)) else (none))) else (if 0 ≤ x6 then ((spec_l3more.f x1 1 ([] : List Int) x6).bind fun t281 => ((spec_l3leaves.f k ((rd_T30 x253004 x6).f0) ((rd_T30 x253004 x6).f1) ((rd_T30 x253004 x6).f2) ((rd_T30 x253004 x6).f3) ((rd_T30 x253004 x6).f4) t281).bind fun t284 => (if x5.length + t284.length < 5864062014805 then (spec_l3leaves.l0 k x1 (x5 ++ t284) (wrap64 (x6 + 1)) x253000 x253001 x253002 x253003 x253004) else (none)))) else (none))) else (some x5)
def spec_l3leaves.f : Nat → Int → Int → List Int → List (List Int) → List (S30) → List (S79) → Option ((List (List (S79))))
 | 0, _, _, _, _, _, _ => none
 | k + 1, a0_0, a0_1, l0_2, l0_3, l0_4, l1 => if (l0_4.length : Int) = 0 then ((some (([] : List (S79)) : List (S79))).bind fun y253 => (if y253.length + l1.length < 3518437208883 then (some (([(y253 ++ l1)] : List (List (S79))))) else (none))) else (spec_l3leaves.l0 k l1 ([] : List (List (S79))) 0 a0_0 a0_1 l0_2 l0_3 l0_4)
end
def spec_l3leaves.T10 : Bool × List (List Nat × List Nat) := (true, [([], []), ([], []), ([1], [1]), ([], []), ([2, 3], [2, 3]), ([4], [4]), ([], []), ([], []), ([6, 7], [6, 7]), ([5, 8, 8], [5, 8]), ([0, 9, 9], [0, 9]), ([10, 10, 0, 1, 2, 3, 4, 5, 6, 7, 8, 9, 10], [0, 10])])
def spec_l3leaves.B10 : List Nat := [0, 0, 2, 0, 14, 30, 0, 0, 192, 510, 1023, 2047]
theorem spec_l3leaves.tab10 : rtab .any (opsOf Try.f67 10) = spec_l3leaves.T10 := by kernel_rfl
theorem spec_l3leaves.bits10 : waitsOk spec_l3leaves.T10.2 spec_l3leaves.B10 = true := by kernel_rfl
set_option maxHeartbeats 8000000 in
set_option maxRecDepth 100000 in
theorem spec_l3leaves.calls (k : Nat) : ∀ (a0_0 : Int) (a0_1 : Int) (A0_2 : Option Addr) (c0_2 : Nat) (l0_2 : List Int) (A0_3 : Option Addr) (c0_3 : Nat) (l0_3 : List (List Int)) (A0_4 : Option Addr) (c0_4 : Nat) (l0_4 : List (S30)) (P1_ : Nat → Prop) (A1 : Option Addr) (c1 : Nat) (l1 : List (S79)) (r : List (List (S79))) (w : World) (hr0_2 : Kd.C (Kd.int .u8) w A0_2 l0_2.length l0_2) (hc0_2 : l0_2.length ≤ c0_2) (hr0_3 : Kd.C (Kd.slice 5 (Kd.int .u8)) w A0_3 l0_3.length l0_3) (hc0_3 : l0_3.length ≤ c0_3) (hr0_4 : Kd.C k30 w A0_4 l0_4.length l0_4) (hc0_4 : l0_4.length ≤ c0_4) (hs1 : Kd.V k79 79 w w.heap.size (fun k_ => P1_ k_) (.slice A1 l1.length c1) l1) (h : spec_l3leaves.f k a0_0 a0_1 l0_2 l0_3 l0_4 l1 = some r),
  Calls Try.prog 67 #[.agg #[.int .i64 a0_0, .int .i64 a0_1, .slice A0_2 l0_2.length c0_2, .slice A0_3 l0_3.length c0_3, .slice A0_4 l0_4.length c0_4], .slice A1 l1.length c1] w fun e w' => ∃ v0_ : Value, e = .returned (v0_) ∧ Kd.N (Kd.slice 79 k79) 59 w' w.heap.size (fun k_ => (P1_ k_ ∨ w.heap.size ≤ k_)) v0_ r ∧ Below w.heap.size w w' := by
 induction k using Nat.strongRecOn with
 | _ k ih =>
 intro a0_0 a0_1 A0_2 c0_2 l0_2 A0_3 c0_3 l0_3 A0_4 c0_4 l0_4 P1_ A1 c1 l1 r w hr0_2 hc0_2 hr0_3 hc0_3 hr0_4 hc0_4 hs1 h
 cases k with
 | zero => exact absurd h (by simp [spec_l3leaves.f])
 | succ k =>
 simp only [spec_l3leaves.f] at h
 have hu30 := Try.underlying30
 have hu79 := Try.underlying79
 have HR0_2 := Aside0.mk hr0_2
 have HC0_2 := Aside0.mk hc0_2
 clear hr0_2 hc0_2
 have HR0_3 := Aside0.mk hr0_3
 have HC0_3 := Aside0.mk hc0_3
 clear hr0_3 hc0_3
 have HR0_4 := Aside0.mk hr0_4
 have HC0_4 := Aside0.mk hc0_4
 clear hr0_4 hc0_4
 have HO1 := Aside0.mk (show Kd.V k79 79 w w.heap.size (fun k_ => (P1_ k_ ∨ w.heap.size ≤ k_)) (.slice A1 l1.length c1) l1 from Kd.V_mono hs1 (fun k_ hk => .inl hk))
 have HB := Bw.refl w
 have H : (if (l0_4.length : Int) = 0 then ((some (([] : List (S79)) : List (S79))).bind fun y253 => (if y253.length + l1.length < 3518437208883 then (some (([(y253 ++ l1)] : List (List (S79))))) else (none))) else (spec_l3leaves.l0 k l1 ([] : List (List (S79))) 0 a0_0 a0_1 l0_2 l0_3 l0_4)) = some r := h
 clear h
 by_cases c3 : (l0_4.length : Int) = 0
 ·rw [if_pos c3] at H
  have c3b0 : ((l0_4.length : Int) == 0) = true := beq_iff_eq.mpr c3
  have c3b1 : ((l0_4.length : Int) != 0) = false := bne_eq_false_iff_eq.mpr c3
  clear c3
  obtain ⟨y253, hy253⟩ : ∃ y_ : List (S79), y_ = (([] : List (S79))) := ⟨_, rfl⟩
  replace H : (if y253.length + l1.length < 3518437208883 then (some (([(y253 ++ l1)] : List (List (S79))))) else (none)) = some r := by first | (rw [hy253]; with_reducible exact H) | (have H2_ := (Option.bind_some _ _).symm.trans H; rw [hy253]; with_reducible exact H2_) | (have H2_ := (Option.bind_some _ _).symm.trans H; with_reducible exact H2_) | with_reducible exact H | (rw [hy253]; exact H) | exact H
  have Ny253 := Aside0.mk hy253
  clear hy253
  by_cases c4 : y253.length + l1.length < 3518437208883
  rotate_left
  ·rw [if_neg c4] at H
   exact absurd H (by simp)
  rw [if_pos c4] at H
  have LMc4 := Aside0.mk c4
  clear c4
  obtain ⟨y256, hy256⟩ : ∃ y_ : List (S79), y_ = (y253 ++ l1) := ⟨_, rfl⟩
  replace H : (some (([y256] : List (List (S79))))) = some r := by first | (rw [hy256]; with_reducible exact H) | (have H2_ := (Option.bind_some _ _).symm.trans H; rw [hy256]; with_reducible exact H2_) | (have H2_ := (Option.bind_some _ _).symm.trans H; with_reducible exact H2_) | with_reducible exact H | (rw [hy256]; exact H) | exact H
  have Ny256 := Aside0.mk hy256
  clear hy256
  obtain ⟨y259, hy259⟩ : ∃ y_ : List (List (S79)), y_ = (([y256] : List (List (S79)))) := ⟨_, rfl⟩
  replace H : (some y259) = some r := by first | (rw [hy259]; with_reducible exact H) | (have H2_ := (Option.bind_some _ _).symm.trans H; rw [hy259]; with_reducible exact H2_) | (have H2_ := (Option.bind_some _ _).symm.trans H; with_reducible exact H2_) | with_reducible exact H | (rw [hy259]; exact H) | exact H
  have Ny259 := Aside0.mk hy259
  clear hy259
  obtain rfl := Option.some.inj H
  go_enter Try.func67, Try.ntmps67
  go_wp2_with (first | ((with_reducible refine gate_dst (N := 2) rfl ?_); refine box_event rfl (N := 2) rfl (cs := #[.int .i64 a0_0, .int .i64 a0_1, .slice A0_2 l0_2.length c0_2, .slice A0_3 l0_3.length c0_3, .slice A0_4 l0_4.length c0_4]) (t := 30) (by go_simp <;> rfl) ?_; intro gb252 hg w5 hbox hb; replace HO1 := Aside0.mk (Kd.V_below (Kd.V_elderB (by (with_reducible repeat (first | apply Kd.V_alloc | apply Kd.V_drewN | apply Kd.V_drew)); exact HO1.out) gb252 (Nat.le_of_eq hg.symm)) hb); have BK252 := Aside0.mk (hbox); have GE252 := (Ge.of hg : Ge w.heap.size gb252); replace HB := (Bw.sw w hb); clear hb hbox hg; obtain ⟨hcz6_0, hcz6_1, hcz6_2, hcz6_3, hcz6_4, hfz6_0, hfz6_1, hfz6_2, hfz6_3, hfz6_4⟩ := blk5 BK252.out) | ((with_reducible refine gate_dst (N := 12) rfl ?_); refine Kd.N_lit k79 _ 79 ?hg (N' := 12) ?hd (xs := ([] : List (S79))) (inner := []) (ok := (fun k_ => (P1_ k_ ∨ w.heap.size ≤ k_) ∧ k_ ≠ gb252)) (okp := (fun k_ => (P1_ k_ ∨ w.heap.size ≤ k_) ∧ k_ ≠ gb252)) ?hr ?hp (fun _ hk => hk) ((show ∀ k_, w5.heap.size ≤ k_ → (fun k_ => (P1_ k_ ∨ w.heap.size ≤ k_) ∧ k_ ≠ gb252) k_ from fun k_ hk => ⟨(.inr (Nat.le_trans (bzz w) hk)), Kd.freshB (g := gb252) (o := .cells #[.int .i64 a0_0, .int .i64 a0_1, .slice A0_2 l0_2.length c0_2, .slice A0_3 l0_3.length c0_3, .slice A0_4 l0_4.length c0_4] 30 (0, 0)) (by (with_reducible repeat (first | refine blk_drewN ?_ _ | refine blk_drew ?_ | refine blk_alloc ?_ _)); exact BK252.out) k_ hk⟩) _ (Nat.le_refl _)) (Below.refl _ _) (Nat.le_refl _) (by simp) ?_; (case hd => rfl); (case hg => rfl); (case hr => first | (go_simp; done) | (go_simp; rfl)); (case hp => exact (Reps.none _ _)); intro v254 w7 ho8 hb hg_ hnew_; clear hg_ hnew_; (first | rw [← Ny253.out] at ho8 | (simp only [Int.reduceToNat] at ho8; rw [← Ny253.out] at ho8)); replace HO1 := Aside0.mk (Kd.V_elder' (by (with_reducible repeat (first | apply Kd.V_alloc | apply Kd.V_drewN | apply Kd.V_drew)); exact HO1.out) (Kd.N_base ho8) hb); have HO255 := Aside0.mk (Kd.N_lower ho8 (bzz w)); replace BK252 := Aside0.mk (blk_below (g := gb252) (o := .cells #[.int .i64 a0_0, .int .i64 a0_1, .slice A0_2 l0_2.length c0_2, .slice A0_3 l0_3.length c0_3, .slice A0_4 l0_4.length c0_4] 30 (0, 0)) (by (with_reducible repeat (first | refine blk_drewN ?_ _ | refine blk_drew ?_ | refine blk_alloc ?_ _)); exact BK252.out) hb); replace HB := (Bw.sw w hb); clear hb ho8) | ((with_reducible refine gate_builtin (b := .append) (xs := #[.tmp 12, .tmp 13]) rfl ?_); at_builtin; refine Kd.N_append_rows k79 (w0 := w) w.heap.size rfl (.tmp 12) (.tmp 13) 59 79 (.agg #[(.int .i64 0), (.slice none 0 0), (.int .i64 0)]) 40 rfl Try.underlying59 info79 rfl (by decide) (by omega) v254 y253 l1 _ _ _ (fun k_ => (P1_ k_ ∨ w.heap.size ≤ k_) ∧ k_ ≠ gb252) (fun k_ => ((fun k_ => (P1_ k_ ∨ w.heap.size ≤ k_) ∧ k_ ≠ gb252)) k_ ∧ some k_ ≠ (v254 : Value).ownBlock) rfl rfl ?aO ?aR (fun _ hk => hk) ?aF ?aB ?aS ?aL ?_; (case aR => exact (by skip; exact Kd.V_F (Kd.V_mono (ok' := (fun k_ => ((fun k_ => (P1_ k_ ∨ w.heap.size ≤ k_) ∧ k_ ≠ gb252)) k_ ∧ some k_ ≠ (v254 : Value).ownBlock)) (HO1.out) (fun k_ hk => ⟨⟨hk.1.1, hk.1.2⟩, hk.2⟩)))); (case aB => exact bw); (case aF => exact (fun k_ hk => ⟨(.inr (Nat.le_trans (bzz w) hk)), Kd.freshB (g := gb252) (o := .cells #[.int .i64 a0_0, .int .i64 a0_1, .slice A0_2 l0_2.length c0_2, .slice A0_3 l0_3.length c0_3, .slice A0_4 l0_4.length c0_4] 30 (0, 0)) (by (with_reducible repeat (first | refine blk_drewN ?_ _ | refine blk_drew ?_ | refine blk_alloc ?_ _)); exact BK252.out) k_ hk⟩)); (case aO => exact (by (with_reducible repeat (first | apply Kd.N_alloc | apply Kd.N_drewN | apply Kd.N_drew)); exact HO255.out)); (case aS => exact (bzz w)); (case aL => have := LMc4.out; omega); intro v257 w9 ho hb hg hat; rw [← Ny256.out] at ho; replace HO1 := Aside0.mk (Kd.V_afterv (ok := (fun k_ => (P1_ k_ ∨ w.heap.size ≤ k_) ∧ k_ ≠ gb252)) (by (with_reducible repeat (first | apply Kd.V_alloc | apply Kd.V_drewN | apply Kd.V_drew)); exact HO1.out) hg hat); replace BK252 := Aside0.mk (blk_grown (g := gb252) (o := .cells #[.int .i64 a0_0, .int .i64 a0_1, .slice A0_2 l0_2.length c0_2, .slice A0_3 l0_3.length c0_3, .slice A0_4 l0_4.length c0_4] 30 (0, 0)) (by (with_reducible repeat (first | refine blk_drewN ?_ _ | refine blk_drew ?_ | refine blk_alloc ?_ _)); exact BK252.out) hg (Kd.N_ne HO255.out BK252.out (by decide))); replace HB := Bw.mk (w := w) (hb); have HO258 := Aside0.mk (ho); clear HO255; clear ho hb hg hat; obtain ⟨Ao10, co10, eo10⟩ := Kd.N_slice HO258.out; subst eo10) | ((with_reducible refine gate_dst (N := 15) rfl ?_); refine Kd.N_lit (Kd.slice 79 k79) _ 59 ?hg (N' := 15) ?hd (xs := ([y256] : List (List (S79)))) (inner := [.slice Ao10 y256.length co10]) (ok := (fun k_ => (P1_ k_ ∨ w.heap.size ≤ k_) ∧ k_ ≠ gb252)) (okp := (fun k_ => (P1_ k_ ∨ w.heap.size ≤ k_) ∧ k_ ≠ gb252)) ?hr ?hp (fun _ hk => hk) ((show ∀ k_, w9.heap.size ≤ k_ → (fun k_ => (P1_ k_ ∨ w.heap.size ≤ k_) ∧ k_ ≠ gb252) k_ from fun k_ hk => ⟨(.inr (Nat.le_trans (bzz w) hk)), Kd.freshB (g := gb252) (o := .cells #[.int .i64 a0_0, .int .i64 a0_1, .slice A0_2 l0_2.length c0_2, .slice A0_3 l0_3.length c0_3, .slice A0_4 l0_4.length c0_4] 30 (0, 0)) (by (with_reducible repeat (first | refine blk_drewN ?_ _ | refine blk_drew ?_ | refine blk_alloc ?_ _)); exact BK252.out) k_ hk⟩) _ (Nat.le_refl _)) (Below.refl _ _) (Nat.le_refl _) (by simp) ?_; (case hd => rfl); (case hg => rfl); (case hr => first | (go_simp; done) | (go_simp; rfl)); (case hp => exact (Reps.one (show Kd.FK (Kd.slice 79 k79) _ _ y256 [.slice Ao10 y256.length co10] from (Kd.FK_slice_mk (Kd.N_reads' (Kd.N_mono (ok' := (fun k_ => (P1_ k_ ∨ w.heap.size ≤ k_) ∧ k_ ≠ gb252)) (HO258.out) (fun k_ hk => ⟨hk.1, hk.2⟩))).2.1 (Kd.N_F (Kd.N_mono (ok' := (fun k_ => (P1_ k_ ∨ w.heap.size ≤ k_) ∧ k_ ≠ gb252)) (HO258.out) (fun k_ hk => ⟨hk.1, hk.2⟩))))) (Reps.none _ _))); intro v260 w11 ho12 hb hg_ hnew_; clear hg_ hnew_; (first | rw [← Ny259.out] at ho12 | (simp only [Int.reduceToNat] at ho12; rw [← Ny259.out] at ho12)); replace HO1 := Aside0.mk (Kd.V_elder' (by (with_reducible repeat (first | apply Kd.V_alloc | apply Kd.V_drewN | apply Kd.V_drew)); exact HO1.out) (Kd.N_base ho12) hb); have HO261 := Aside0.mk (Kd.N_lower ho12 (bzz w)); replace BK252 := Aside0.mk (blk_below (g := gb252) (o := .cells #[.int .i64 a0_0, .int .i64 a0_1, .slice A0_2 l0_2.length c0_2, .slice A0_3 l0_3.length c0_3, .slice A0_4 l0_4.length c0_4] 30 (0, 0)) (by (with_reducible repeat (first | refine blk_drewN ?_ _ | refine blk_drew ?_ | refine blk_alloc ?_ _)); exact BK252.out) hb); replace HB := (Bw.sw w hb); clear HO258; clear hb ho12))
  go_ret
  exact ⟨_, by first | rfl | (simp [errW_none, errW_some] <;> rfl) | (simp [*, errW_none, errW_some] <;> rfl), by (with_reducible repeat (first | apply Kd.N_alloc | apply Kd.N_drewN | apply Kd.N_drew)); exact Kd.N_mono HO261.out (fun _ hk => hk.1), bw⟩
 as_aux_lemma =>
 rw [if_neg c3] at H
 have c3b0 : ((l0_4.length : Int) == 0) = false := beq_eq_false_iff_ne.mpr c3
 have c3b1 : ((l0_4.length : Int) != 0) = true := bne_iff_ne.mpr c3
 have c3b2 : ¬ (l0_4 = []) := fun h_ => c3 (by rw [h_]; rfl)
 have H' := Aside0.mk H
 clear H
 go_enter Try.func67, Try.ntmps67
 go_wp2_with (first | ((with_reducible refine gate_dst (N := 2) rfl ?_); refine box_event rfl (N := 2) rfl (cs := #[.int .i64 a0_0, .int .i64 a0_1, .slice A0_2 l0_2.length c0_2, .slice A0_3 l0_3.length c0_3, .slice A0_4 l0_4.length c0_4]) (t := 30) (by go_simp <;> rfl) ?_; intro gb252 hg w13 hbox hb; replace HO1 := Aside0.mk (Kd.V_below (Kd.V_elderB (by (with_reducible repeat (first | apply Kd.V_alloc | apply Kd.V_drewN | apply Kd.V_drew)); exact HO1.out) gb252 (Nat.le_of_eq hg.symm)) hb); have BK252 := Aside0.mk (hbox); have GE252 := (Ge.of hg : Ge w.heap.size gb252); replace HB := (Bw.sw w hb); clear hb hbox hg; obtain ⟨hcz14_0, hcz14_1, hcz14_2, hcz14_3, hcz14_4, hfz14_0, hfz14_1, hfz14_2, hfz14_3, hfz14_4⟩ := blk5 BK252.out))
 go_loopg [5, 6] k (fun kq v5 v6 w' => ∃ (x5_1 : List (List (S79))) (x6_1 : Int), v6 = .int .i64 x6_1 ∧ Aside0 (spec_l3leaves.l0 kq l1 x5_1 x6_1 a0_0 a0_1 l0_2 l0_3 l0_4 = some r) ∧ Aside0 (kq ≤ k) ∧ Aside0 (Kd.V k79 79 w' w.heap.size (fun k_ => (P1_ k_ ∨ w.heap.size ≤ k_) ∧ some k_ ≠ (v5 : Value).ownBlock ∧ k_ ≠ gb252) (.slice A1 l1.length c1) l1) ∧ Aside0 (Kd.N (Kd.slice 79 k79) 59 w' w.heap.size (fun k_ => (P1_ k_ ∨ w.heap.size ≤ k_) ∧ k_ ≠ gb252) v5 x5_1) ∧ Aside0 (w'.heap[gb252]? = some (.cells #[.int .i64 a0_0, .int .i64 a0_1, (.slice A0_2 l0_2.length c0_2), (.slice A0_3 l0_3.length c0_3), (.slice A0_4 l0_4.length c0_4)] 30 (0, 0))) ∧ Bw w w')
 case atStart => exact ⟨(([] : List (List (S79)))), (0), (by first | rfl | (simp; done) | (simp [*]; done)), H', ⟨Nat.le_refl _⟩, ⟨by (with_reducible repeat (first | apply Kd.V_alloc | apply Kd.V_drewN | apply Kd.V_drew)); exact Kd.V_mono HO1.out (fun _ hk => ⟨hk.1, ⟨(by simp [Value.ownBlock]), hk.2⟩⟩)⟩, ⟨by first | exact Kd.R_nil _ _ _ _ _ | exact Kd.N_nil _ _ _ _ _ | exact Kd.V_nil _ _ _ _ _ | exact Kd.Q_nil _ _ _ _ _ | exact Kd.S_nil _ _ _ _ _⟩, ⟨by (with_reducible repeat (first | refine blk_drewN ?_ _ | refine blk_drew ?_ | refine blk_alloc ?_ _)); exact BK252.out⟩, ⟨bw⟩⟩
 case round =>
  as_aux_lemma =>
  clear H'
  try clear c1
  try clear c3
  try clear c3b0
  try clear c3b1
  try clear c3b2
  try clear c4
  try clear hcz14_0 hcz14_1 hcz14_2 hcz14_3 hcz14_4
  try clear hcz6_0 hcz6_1 hcz6_2 hcz6_3 hcz6_4
  try clear hfz14_0 hfz14_1 hfz14_2 hfz14_3 hfz14_4
  try clear hfz6_0 hfz6_1 hfz6_2 hfz6_3 hfz6_4
  obtain ⟨x5_1, x6_1, rfl, HA, HK1, HO_1, HO_5, BK252, HB⟩ := hrel
  cases gk with
  | zero => exact absurd HA.out (by simp [spec_l3leaves.l0])
  | succ k1 =>
   have H := HA.out
   clear HA
   simp only [spec_l3leaves.l0] at H
   by_cases c15 : x6_1 < (l0_4.length : Int)
   rotate_left
   ·rw [if_neg c15] at H
    have c15b0 : decide (x6_1 < (l0_4.length : Int)) = false := decide_eq_false c15
    clear c15
    obtain rfl := Option.some.inj H
    obtain ⟨hcz57_0, hcz57_1, hcz57_2, hcz57_3, hcz57_4, hfz57_0, hfz57_1, hfz57_2, hfz57_3, hfz57_4⟩ := blk5 BK252.out
    go_wp2
    go_ret
    exact ⟨_, by first | rfl | (simp [errW_none, errW_some] <;> rfl) | (simp [*, errW_none, errW_some] <;> rfl), by (with_reducible repeat (first | apply Kd.N_alloc | apply Kd.N_drewN | apply Kd.N_drew)); exact Kd.N_mono HO_5.out (fun _ hk => hk.1), bw⟩
   as_aux_lemma =>
   rw [if_pos c15] at H
   have c15b0 : decide (x6_1 < (l0_4.length : Int)) = true := decide_eq_true c15
   clear c15
   by_cases c16 : a0_0 = 5
   rotate_left
   ·as_aux_lemma =>
    rw [if_neg c16] at H
    have c16b0 : (a0_0 == 5) = false := beq_eq_false_iff_ne.mpr c16
    have c16b1 : (a0_0 != 5) = true := bne_iff_ne.mpr c16
    by_cases c41 : 0 ≤ x6_1
    rotate_left
    ·rw [if_neg c41] at H
     exact absurd H (by simp)
    as_aux_lemma =>
    rw [if_pos c41] at H
    have c41b0 : decide (0 ≤ x6_1) = true := decide_eq_true c41
    clear c41
    replace H := Option.bind_eq_some_iff.mp H
    obtain ⟨t281, A420, H⟩ := H
    have A42 := Aside0.mk A420
    clear A420
    replace H := Option.bind_eq_some_iff.mp H
    obtain ⟨t284, A430, H⟩ := H
    have A43 := Aside0.mk A430
    clear A430
    by_cases c44 : x5_1.length + t284.length < 5864062014805
    rotate_left
    ·rw [if_neg c44] at H
     exact absurd H (by simp)
    as_aux_lemma =>
    rw [if_pos c44] at H
    have LMc44 := Aside0.mk c44
    clear c44
    obtain ⟨y287, hy287⟩ : ∃ y_ : List (List (S79)), y_ = (x5_1 ++ t284) := ⟨_, rfl⟩
    replace H : (spec_l3leaves.l0 k1 l1 y287 (wrap64 (x6_1 + 1)) a0_0 a0_1 l0_2 l0_3 l0_4) = some r := by first | (rw [hy287]; with_reducible exact H) | (have H2_ := (Option.bind_some _ _).symm.trans H; rw [hy287]; with_reducible exact H2_) | (have H2_ := (Option.bind_some _ _).symm.trans H; with_reducible exact H2_) | with_reducible exact H | (rw [hy287]; exact H) | exact H
    have Ny287 := Aside0.mk hy287
    clear hy287
    have H' := Aside0.mk H
    clear H
    obtain ⟨hcz45_0, hcz45_1, hcz45_2, hcz45_3, hcz45_4, hfz45_0, hfz45_1, hfz45_2, hfz45_3, hfz45_4⟩ := blk5 BK252.out
    try go_wp2_with (first | ((with_reducible refine gate_dst (N := 7) rfl ?_); refine box_event rfl (N := 7) rfl (cs := #[.int .i64 0, .slice none 0 0, .int .i64 0]) (t := 79) (by go_simp <;> rfl) ?_; intro gb262 hg w46 hbox hb; replace HO_1 := Aside0.mk (Kd.V_below (Kd.V_elderB (by (with_reducible repeat (first | apply Kd.V_alloc | apply Kd.V_drewN | apply Kd.V_drew)); exact HO_1.out) gb262 (Nat.le_of_eq hg.symm)) hb); replace HO_5 := Aside0.mk (Kd.N_below (Kd.N_elderB (by (with_reducible repeat (first | apply Kd.N_alloc | apply Kd.N_drewN | apply Kd.N_drew)); exact HO_5.out) gb262 (Nat.le_of_eq hg.symm)) hb); have BK262 := Aside0.mk (hbox); have GE262 := (Ge.of hg : Ge w.heap.size gb262); replace HB := (Bw.sw w hb); have NB252_262 := Aside0.mk ((by rw [hg]; exact Nat.ne_of_lt (blk_lt (g := gb252) (o := .cells #[.int .i64 a0_0, .int .i64 a0_1, .slice A0_2 l0_2.length c0_2, .slice A0_3 l0_3.length c0_3, .slice A0_4 l0_4.length c0_4] 30 (0, 0)) (by (with_reducible repeat (first | refine blk_drewN ?_ _ | refine blk_drew ?_ | refine blk_alloc ?_ _)); exact BK252.out)) : gb252 ≠ gb262)); have NB262_252 := Aside0.mk ((by rw [hg]; exact Nat.ne_of_gt (blk_lt (g := gb252) (o := .cells #[.int .i64 a0_0, .int .i64 a0_1, .slice A0_2 l0_2.length c0_2, .slice A0_3 l0_3.length c0_3, .slice A0_4 l0_4.length c0_4] 30 (0, 0)) (by (with_reducible repeat (first | refine blk_drewN ?_ _ | refine blk_drew ?_ | refine blk_alloc ?_ _)); exact BK252.out)) : gb262 ≠ gb252)); replace BK252 := Aside0.mk (blk_below (g := gb252) (o := .cells #[.int .i64 a0_0, .int .i64 a0_1, .slice A0_2 l0_2.length c0_2, .slice A0_3 l0_3.length c0_3, .slice A0_4 l0_4.length c0_4] 30 (0, 0)) (by (with_reducible repeat (first | refine blk_drewN ?_ _ | refine blk_drew ?_ | refine blk_alloc ?_ _)); exact BK252.out) hb); clear hb hbox hg; have hnb47 := NB262_252.out; have hnc47 := NB252_262.out; obtain ⟨hcz48_0, hcz48_1, hcz48_2, hfz48_0, hfz48_1, hfz48_2⟩ := blk3 BK262.out; obtain ⟨hcz49_0, hcz49_1, hcz49_2, hcz49_3, hcz49_4, hfz49_0, hfz49_1, hfz49_2, hfz49_3, hfz49_4⟩ := blk5 BK252.out))
    have n0_ : Aside0 (Kd.V k79 79 (((w46.setCell ⟨gb262, 0, none⟩ (.int .i64 1)).setCell ⟨gb262, 1, none⟩ (.slice none 0 0)).setCell ⟨gb262, 2, none⟩ (.int .i64 x6_1)) w.heap.size (fun k_ => (P1_ k_ ∨ w.heap.size ≤ k_) ∧ some k_ ≠ (u5 : Value).ownBlock ∧ k_ ≠ gb252 ∧ k_ ≠ gb262) (.slice A1 l1.length c1) l1) := ⟨by (with_reducible repeat (first | apply Kd.V_alloc | apply Kd.V_drewN | apply Kd.V_drew)); exact Kd.V_mono (Kd.V_far (p := ⟨gb262, 2, none⟩) (Kd.V_far (p := ⟨gb262, 1, none⟩) (Kd.V_far (p := ⟨gb262, 0, none⟩) (Kd.V_mono HO_1.out (fun k_ hk => (⟨hk, hk.2⟩ : _ ∧ k_ ≠ gb262))) (fun _ hk => hk.2) (.int .i64 1)) (fun _ hk => hk.2) (.slice none 0 0)) (fun _ hk => hk.2) (.int .i64 x6_1)) (fun _ hk => ⟨hk.1.1.1, ⟨hk.1.1.2.1, ⟨hk.1.1.2.2, hk.1.2⟩⟩⟩)⟩
    have n1_ : Aside0 (Kd.N (Kd.slice 79 k79) 59 (((w46.setCell ⟨gb262, 0, none⟩ (.int .i64 1)).setCell ⟨gb262, 1, none⟩ (.slice none 0 0)).setCell ⟨gb262, 2, none⟩ (.int .i64 x6_1)) w.heap.size (fun k_ => (P1_ k_ ∨ w.heap.size ≤ k_) ∧ k_ ≠ gb252 ∧ k_ ≠ gb262) u5 x5_1) := ⟨by (with_reducible repeat (first | apply Kd.N_alloc | apply Kd.N_drewN | apply Kd.N_drew)); exact Kd.N_mono (Kd.N_far (p := ⟨gb262, 2, none⟩) (Kd.N_far (p := ⟨gb262, 1, none⟩) (Kd.N_far (p := ⟨gb262, 0, none⟩) (Kd.N_mono HO_5.out (fun k_ hk => (⟨hk, hk.2⟩ : _ ∧ k_ ≠ gb262))) (fun _ hk => hk.2) (.int .i64 1)) (fun _ hk => hk.2) (.slice none 0 0)) (fun _ hk => hk.2) (.int .i64 x6_1)) (fun _ hk => ⟨hk.1.1.1, ⟨hk.1.1.2, hk.1.2⟩⟩)⟩
    have n2_ : Aside0 ((((w46.setCell ⟨gb262, 0, none⟩ (.int .i64 1)).setCell ⟨gb262, 1, none⟩ (.slice none 0 0)).setCell ⟨gb262, 2, none⟩ (.int .i64 x6_1)).heap[gb252]? = some (.cells #[.int .i64 a0_0, .int .i64 a0_1, .slice A0_2 l0_2.length c0_2, .slice A0_3 l0_3.length c0_3, .slice A0_4 l0_4.length c0_4] 30 (0, 0))) := ⟨by (with_reducible repeat (first | refine blk_drewN ?_ _ | refine blk_drew ?_ | refine blk_alloc ?_ _)); refine blk_far ?_ NB252_262.out _; (with_reducible repeat (first | refine blk_drewN ?_ _ | refine blk_drew ?_ | refine blk_alloc ?_ _)); refine blk_far ?_ NB252_262.out _; (with_reducible repeat (first | refine blk_drewN ?_ _ | refine blk_drew ?_ | refine blk_alloc ?_ _)); refine blk_far ?_ NB252_262.out _; (with_reducible repeat (first | refine blk_drewN ?_ _ | refine blk_drew ?_ | refine blk_alloc ?_ _)); exact BK252.out⟩
    have n3_ : Aside0 ((((w46.setCell ⟨gb262, 0, none⟩ (.int .i64 1)).setCell ⟨gb262, 1, none⟩ (.slice none 0 0)).setCell ⟨gb262, 2, none⟩ (.int .i64 x6_1)).heap[gb262]? = some (.cells #[.int .i64 1, .slice none 0 0, .int .i64 x6_1] 79 (0, 0))) := ⟨by (with_reducible repeat (first | refine blk_drewN ?_ _ | refine blk_drew ?_ | refine blk_alloc ?_ _)); refine blk_put (cs := #[.int .i64 1, .slice none 0 0, .int .i64 0]) ?_ 2 _ rfl; (with_reducible repeat (first | refine blk_drewN ?_ _ | refine blk_drew ?_ | refine blk_alloc ?_ _)); refine blk_put (cs := #[.int .i64 1, .slice none 0 0, .int .i64 0]) ?_ 1 _ rfl; (with_reducible repeat (first | refine blk_drewN ?_ _ | refine blk_drew ?_ | refine blk_alloc ?_ _)); refine blk_put (cs := #[.int .i64 0, .slice none 0 0, .int .i64 0]) ?_ 0 _ rfl; (with_reducible repeat (first | refine blk_drewN ?_ _ | refine blk_drew ?_ | refine blk_alloc ?_ _)); exact BK262.out⟩
    have n4_ : Aside0 (Below w.heap.size w (((w46.setCell ⟨gb262, 0, none⟩ (.int .i64 1)).setCell ⟨gb262, 1, none⟩ (.slice none 0 0)).setCell ⟨gb262, 2, none⟩ (.int .i64 x6_1))) := ⟨bw⟩
    (try clear HO_1)
    (try clear HO_5)
    (try clear BK252)
    (try clear BK262)
    (try clear HB)
    generalize (((w46.setCell ⟨gb262, 0, none⟩ (.int .i64 1)).setCell ⟨gb262, 1, none⟩ (.slice none 0 0)).setCell ⟨gb262, 2, none⟩ (.int .i64 x6_1)) = w50 at n0_ n1_ n2_ n3_ n4_ ⊢
    have HO_1 := n0_
    have HO_5 := n1_
    have BK252 := n2_
    have BK262 := n3_
    have HB := Bw.mk (w := w) n4_.out
    clear n0_ n1_ n2_ n3_ n4_
    replace HO_1 := Aside0.mk (Kd.V_drew HO_1.out)
    replace HO_5 := Aside0.mk (Kd.N_drew HO_5.out)
    replace BK252 := Aside0.mk (blk_drew BK252.out)
    replace BK262 := Aside0.mk (blk_drew BK262.out)
    replace HB := Bw.mk (w := w) (below_drew1 HB.out)
    have p280 : 0 ≤ (x6_1 : Int) := of_decide_eq_true (by first | (with_reducible assumption) | assumption)
    have q280 : x6_1 < (l0_4.length : Int) := of_decide_eq_true (by first | (with_reducible assumption) | assumption)
    obtain ⟨ad280, A280_2, c280_2, A280_3, c280_3, A280_4, c280_4, e280, hx280_0, hx280_1, hx280_2, hx280_3, hx280_4, hl280_2, hi280_2, hl280_3, hi280_3, hl280_4, hi280_4⟩ := at_T30 HR0_4.out x6_1 p280 q280
    have hw280_4 := hx280_4
    have hw280_3 := hx280_3
    have hw280_2 := hx280_2
    have hw280_1 := hx280_1
    have hw280_0 := hx280_0
    cases e280
    replace hx280_0 := (HB.out.cell (World.block_lt_of_cell? w _ hx280_0)).trans hx280_0
    replace hx280_1 := (HB.out.cell (World.block_lt_of_cell? w _ hx280_1)).trans hx280_1
    replace hx280_2 := (HB.out.cell (World.block_lt_of_cell? w _ hx280_2)).trans hx280_2
    replace hx280_3 := (HB.out.cell (World.block_lt_of_cell? w _ hx280_3)).trans hx280_3
    replace hx280_4 := (HB.out.cell (World.block_lt_of_cell? w _ hx280_4)).trans hx280_4
    have HR280_2 := Aside0.mk hi280_2
    have HC280_2 := Aside0.mk hl280_2
    clear hi280_2 hl280_2
    have HR280_3 := Aside0.mk hi280_3
    have HC280_3 := Aside0.mk hl280_3
    clear hi280_3 hl280_3
    have HR280_4 := Aside0.mk hi280_4
    have HC280_4 := Aside0.mk hl280_4
    clear hi280_4 hl280_4
    replace p280 := eq_true p280
    replace q280 := eq_true q280
    refine start_ (n := 12) (S := fun w' => w'.cell? ⟨gb252, 0, none⟩ = some (.int .i64 a0_0) ∧ w'.cell? ⟨gb252, 1, none⟩ = some (.int .i64 a0_1) ∧ w'.cell? ⟨gb252, 2, none⟩ = some (.slice A0_2 l0_2.length c0_2) ∧ w'.cell? ⟨gb252, 3, none⟩ = some (.slice A0_3 l0_3.length c0_3) ∧ w'.cell? ⟨gb252, 4, none⟩ = some (.slice (some ad280) l0_4.length c0_4) ∧ w'.cell? ⟨gb262, 0, none⟩ = some (.int .i64 1) ∧ w'.cell? ⟨gb262, 1, none⟩ = some (.slice none 0 0) ∧ w'.cell? ⟨gb262, 2, none⟩ = some (.int .i64 x6_1) ∧ w'.cell? (ad280.add ((x6_1).toNat * 5)) = some (.int .i64 ((rd_T30 l0_4 x6_1).f0)) ∧ w'.cell? ⟨(ad280.add ((x6_1).toNat * 5)).block, (ad280.add ((x6_1).toNat * 5)).off + 1, none⟩ = some (.int .i64 ((rd_T30 l0_4 x6_1).f1)) ∧ w'.cell? ⟨(ad280.add ((x6_1).toNat * 5)).block, (ad280.add ((x6_1).toNat * 5)).off + 2, none⟩ = some (.slice A280_2 ((rd_T30 l0_4 x6_1).f2).length c280_2) ∧ w'.cell? ⟨(ad280.add ((x6_1).toNat * 5)).block, (ad280.add ((x6_1).toNat * 5)).off + 3, none⟩ = some (.slice A280_3 ((rd_T30 l0_4 x6_1).f3).length c280_3) ∧ w'.cell? ⟨(ad280.add ((x6_1).toNat * 5)).block, (ad280.add ((x6_1).toNat * 5)).off + 4, none⟩ = some (.slice A280_4 ((rd_T30 l0_4 x6_1).f4).length c280_4)) (ds := []) #[false, false, false, false, false, false, false, false, false, false, false, false] (by kernel_rfl) rfl rfl ⟨(blk_cell BK252.out 0).trans rfl, (blk_cell BK252.out 1).trans rfl, (blk_cell BK252.out 2).trans rfl, (blk_cell BK252.out 3).trans rfl, (blk_cell BK252.out 4).trans rfl, (blk_cell BK262.out 0).trans rfl, (blk_cell BK262.out 1).trans rfl, (blk_cell BK262.out 2).trans rfl, ((HB.out.cell (World.block_lt_of_cell? w _ hw280_0)).trans hw280_0), ((HB.out.cell (World.block_lt_of_cell? w _ hw280_1)).trans hw280_1), ((HB.out.cell (World.block_lt_of_cell? w _ hw280_2)).trans hw280_2), ((HB.out.cell (World.block_lt_of_cell? w _ hw280_3)).trans hw280_3), ((HB.out.cell (World.block_lt_of_cell? w _ hw280_4)).trans hw280_4)⟩ (fun hHeld => ?_); refine with_tabW spec_l3leaves.tab10 spec_l3leaves.bits10 (fun HT_ HW_ => ?_)
    generalize w50.drew = w51 at HO_1 HO_5 BK252 BK262 HB HR280_2 HR280_3 HR280_4 hx280_0 hx280_1 hx280_2 hx280_3 hx280_4 hHeld ⊢
    refine todo_ [(0, 36), (1, 37), (3, 39), (6, 42), (2, 38), (4, 40), (5, 41), (7, 43)] ?_
    iterate 8
     (first | (refine pu_ (v := ?_) (a' := ?_) HT_ rfl rfl (by kernel_rfl) (fun _ _ _ h => h) (Or.inl ⟨by rfl, ?_⟩) ?_ ?_; rotate_left; (· intro w'; go_simp; with_reducible rfl); rotate_left) | (refine ta_ (v := ?_) (a' := ?_) HT_ HW_ rfl rfl (by kernel_rfl) (fun _ _ _ h => h) (Or.inl ⟨by rfl, ?_⟩) hHeld ?_ ?_; rotate_left; (· rintro w' ⟨s0, s1, s2, s3, s4, s5, s6, s7, s8, s9, s10, s11, s12⟩; go_simp; with_reducible rfl); rotate_left))
     ·simp only [Act.put, List.setIfInBounds_toArray, List.set_cons_zero, List.set_cons_succ, i64_w, i32_w]
      rfl
    refine tend_ ?_
    refine one_ (i := 8) (N := some 44) #[true, true, true, true, true, true, true, true, true, false, false, false] rfl rfl (one_of HT_.out (by kernel_rfl)) (by decide) (fun K hK => ?_)
    refine goes_ Try.func101 (by kernel_rfl) rfl #[.slice A1 l1.length c1, .agg #[.int .i64 1, .slice none 0 0, .int .i64 x6_1]] (by rfl) rfl rfl (by (try simp only [List.map_toArray, List.map_cons, List.map_nil]); first | done | rfl | (simp only [List.length_drop, List.length_take]; rfl)) ?_
    refine (spec_l3more.calls (fun k_ => ((P1_ k_ ∨ w.heap.size ≤ k_) ∧ (some k_ ≠ (u5 : Value).ownBlock ∧ (k_ ≠ gb252 ∧ k_ ≠ gb262)))) _ _ l1 1 (fun k_ => False) _ _ ([] : List Int) x6_1 t281 _ ?side1 ?side2 A42.out).mono ?_
    (case side1 => exact HO_1.out)
    (case side2 => exact Kd.V_nil _ _ _ _ _)
    rintro e w52 ⟨v282, rfl, ho0, hb⟩
    refine ⟨_, rfl, ?_⟩
    replace HO_1 := Aside0.mk (Kd.V_elder' (by (with_reducible repeat (first | apply Kd.V_alloc | apply Kd.V_drewN | apply Kd.V_drew)); exact HO_1.out) (Kd.N_base ho0) hb)
    have HO283 := Aside0.mk (Kd.N_lower (Kd.N_mono (ok' := fun k_ => (P1_ k_ ∨ w.heap.size ≤ k_) ∧ some k_ ≠ (u5 : Value).ownBlock ∧ k_ ≠ gb252 ∧ k_ ≠ gb262) ho0 (fun k_ hk_ => ⟨Or.elim hk_ (fun hs_ => Or.elim hs_ (fun hs_ => hs_.1) (fun hs_ => (hs_).elim)) (fun hn_ => (.inr (Nat.le_trans (bzz w) hn_))), Or.elim hk_ (fun hs_ => Or.elim hs_ (fun hs_ => hs_.2.1) (fun hs_ => (hs_).elim)) (fun hn_ => (Kd.fresh' (Kd.N_lt (by (with_reducible repeat (first | apply Kd.N_alloc | apply Kd.N_drewN | apply Kd.N_drew)); exact HO_5.out)) k_ hn_)), Or.elim hk_ (fun hs_ => Or.elim hs_ (fun hs_ => hs_.2.2.1) (fun hs_ => (hs_).elim)) (fun hn_ => (Kd.freshB (g := gb252) (o := .cells #[.int .i64 a0_0, .int .i64 a0_1, .slice A0_2 l0_2.length c0_2, .slice A0_3 l0_3.length c0_3, .slice (some ad280) l0_4.length c0_4] 30 (0, 0)) (by (with_reducible repeat (first | refine blk_drewN ?_ _ | refine blk_drew ?_ | refine blk_alloc ?_ _)); exact BK252.out) k_ hn_)), Or.elim hk_ (fun hs_ => Or.elim hs_ (fun hs_ => hs_.2.2.2) (fun hs_ => (hs_).elim)) (fun hn_ => (Kd.freshB (g := gb262) (o := .cells #[.int .i64 1, .slice none 0 0, .int .i64 x6_1] 79 (0, 0)) (by (with_reducible repeat (first | refine blk_drewN ?_ _ | refine blk_drew ?_ | refine blk_alloc ?_ _)); exact BK262.out) k_ hn_))⟩)) (bzz w))
    replace HO_5 := Aside0.mk (Kd.N_elder' (by (with_reducible repeat (first | apply Kd.N_alloc | apply Kd.N_drewN | apply Kd.N_drew)); exact HO_5.out) (Kd.N_base ho0) hb)
    replace BK252 := Aside0.mk (blk_below (g := gb252) (o := .cells #[.int .i64 a0_0, .int .i64 a0_1, .slice A0_2 l0_2.length c0_2, .slice A0_3 l0_3.length c0_3, .slice (some ad280) l0_4.length c0_4] 30 (0, 0)) (by (with_reducible repeat (first | refine blk_drewN ?_ _ | refine blk_drew ?_ | refine blk_alloc ?_ _)); exact BK252.out) hb)
    replace BK262 := Aside0.mk (blk_below (g := gb262) (o := .cells #[.int .i64 1, .slice none 0 0, .int .i64 x6_1] 79 (0, 0)) (by (with_reducible repeat (first | refine blk_drewN ?_ _ | refine blk_drew ?_ | refine blk_alloc ?_ _)); exact BK262.out) hb)
    replace HB := (Bw.sw w hb)
    (try clear hb)
    (try clear hb2)
    (try clear hk)
    (try clear hi)
    (try clear ho0)
    obtain ⟨Ao53, co53, eo53⟩ := Kd.N_slice HO283.out
    (first | subst eo53 | (injection eo53 with f1_ f2_ f3_; have f4_ := f1_.symm; have f5_ := f3_.symm; clear f1_ f2_ f3_; subst f4_; subst f5_))
    refine hK.out _ _ ⟨(blk_cell BK252.out 0).trans rfl, (blk_cell BK252.out 1).trans rfl, (blk_cell BK252.out 2).trans rfl, (blk_cell BK252.out 3).trans rfl, (blk_cell BK252.out 4).trans rfl, (blk_cell BK262.out 0).trans rfl, (blk_cell BK262.out 1).trans rfl, (blk_cell BK262.out 2).trans rfl, ((HB.out.cell (World.block_lt_of_cell? w _ hw280_0)).trans hw280_0), ((HB.out.cell (World.block_lt_of_cell? w _ hw280_1)).trans hw280_1), ((HB.out.cell (World.block_lt_of_cell? w _ hw280_2)).trans hw280_2), ((HB.out.cell (World.block_lt_of_cell? w _ hw280_3)).trans hw280_3), ((HB.out.cell (World.block_lt_of_cell? w _ hw280_4)).trans hw280_4)⟩ (fun hHeld => ?_)
    clear hK K
    refine norm_ (a' := ?_) ?_ ?_
    rotate_left
    ·show Act.put _ (some 44) _ = _
     simp only [Act.put, List.setIfInBounds_toArray, List.set_cons_zero, List.set_cons_succ, i64_w, i32_w]
     rfl
    refine one_ (i := 9) (N := some 45) #[true, true, true, true, true, true, true, true, true, true, false, false] rfl rfl (one_of HT_.out (by kernel_rfl)) (by decide) (fun K hK => ?_)
    refine goes_ Try.func67 (by kernel_rfl) rfl #[.agg #[.int .i64 ((rd_T30 l0_4 x6_1).f0), .int .i64 ((rd_T30 l0_4 x6_1).f1), .slice A280_2 ((rd_T30 l0_4 x6_1).f2).length c280_2, .slice A280_3 ((rd_T30 l0_4 x6_1).f3).length c280_3, .slice A280_4 ((rd_T30 l0_4 x6_1).f4).length c280_4], .slice Ao53 t281.length co53] (by rfl) rfl rfl (by (try simp only [List.map_toArray, List.map_cons, List.map_nil]); first | done | rfl | (simp only [List.length_drop, List.length_take]; rfl)) ?_
    with_reducible refine (ih k1 (by have := HK1.out; omega) ((rd_T30 l0_4 x6_1).f0) ((rd_T30 l0_4 x6_1).f1) _ _ ((rd_T30 l0_4 x6_1).f2) _ _ ((rd_T30 l0_4 x6_1).f3) _ _ ((rd_T30 l0_4 x6_1).f4) (fun k_ => ((P1_ k_ ∨ w.heap.size ≤ k_) ∧ (some k_ ≠ (u5 : Value).ownBlock ∧ (k_ ≠ gb252 ∧ k_ ≠ gb262)))) _ _ t281 t284 _ ?side1 ?side2 ?side3 ?side4 ?side5 ?side6 ?side7 A43.out).mono ?_
    (case side1 => repeat (first | exact (Kd.C_below HR280_2.out HB.out) | (with_reducible refine Kd.C_alloc ?_ _) | (with_reducible refine Kd.C_drewN ?_ _) | (with_reducible refine Kd.C_drew ?_)))
    (case side2 => exact HC280_2.out)
    (case side3 => repeat (first | exact (Kd.C_below HR280_3.out HB.out) | (with_reducible refine Kd.C_alloc ?_ _) | (with_reducible refine Kd.C_drewN ?_ _) | (with_reducible refine Kd.C_drew ?_)))
    (case side4 => exact HC280_3.out)
    (case side5 => repeat (first | exact (Kd.C_below HR280_4.out HB.out) | (with_reducible refine Kd.C_alloc ?_ _) | (with_reducible refine Kd.C_drewN ?_ _) | (with_reducible refine Kd.C_drew ?_)))
    (case side6 => exact HC280_4.out)
    (case side7 => exact Kd.N_V (HO283.out))
    rintro e w54 ⟨v285, rfl, ho0, hb⟩
    refine ⟨_, rfl, ?_⟩
    replace HO_1 := Aside0.mk (Kd.V_elder' (by (with_reducible repeat (first | apply Kd.V_alloc | apply Kd.V_drewN | apply Kd.V_drew)); exact HO_1.out) (Kd.N_base ho0) hb)
    replace HO283 := Aside0.mk (Kd.N_elder' (by (with_reducible repeat (first | apply Kd.N_alloc | apply Kd.N_drewN | apply Kd.N_drew)); exact HO283.out) (Kd.N_base ho0) hb)
    have HO286 := Aside0.mk (Kd.N_lower (Kd.N_mono (ok' := fun k_ => (P1_ k_ ∨ w.heap.size ≤ k_) ∧ some k_ ≠ (u5 : Value).ownBlock ∧ k_ ≠ gb252 ∧ k_ ≠ gb262) ho0 (fun k_ hk_ => ⟨Or.elim hk_ (fun hs_ => hs_.1) (fun hn_ => (.inr (Nat.le_trans (bzz w) hn_))), Or.elim hk_ (fun hs_ => hs_.2.1) (fun hn_ => (Kd.fresh' (Kd.N_lt (by (with_reducible repeat (first | apply Kd.N_alloc | apply Kd.N_drewN | apply Kd.N_drew)); exact HO_5.out)) k_ hn_)), Or.elim hk_ (fun hs_ => hs_.2.2.1) (fun hn_ => (Kd.freshB (g := gb252) (o := .cells #[.int .i64 a0_0, .int .i64 a0_1, .slice A0_2 l0_2.length c0_2, .slice A0_3 l0_3.length c0_3, .slice (some ad280) l0_4.length c0_4] 30 (0, 0)) (by (with_reducible repeat (first | refine blk_drewN ?_ _ | refine blk_drew ?_ | refine blk_alloc ?_ _)); exact BK252.out) k_ hn_)), Or.elim hk_ (fun hs_ => hs_.2.2.2) (fun hn_ => (Kd.freshB (g := gb262) (o := .cells #[.int .i64 1, .slice none 0 0, .int .i64 x6_1] 79 (0, 0)) (by (with_reducible repeat (first | refine blk_drewN ?_ _ | refine blk_drew ?_ | refine blk_alloc ?_ _)); exact BK262.out) k_ hn_))⟩)) (bzz w))
    replace HO_5 := Aside0.mk (Kd.N_elder' (by (with_reducible repeat (first | apply Kd.N_alloc | apply Kd.N_drewN | apply Kd.N_drew)); exact HO_5.out) (Kd.N_base ho0) hb)
    replace BK252 := Aside0.mk (blk_below (g := gb252) (o := .cells #[.int .i64 a0_0, .int .i64 a0_1, .slice A0_2 l0_2.length c0_2, .slice A0_3 l0_3.length c0_3, .slice (some ad280) l0_4.length c0_4] 30 (0, 0)) (by (with_reducible repeat (first | refine blk_drewN ?_ _ | refine blk_drew ?_ | refine blk_alloc ?_ _)); exact BK252.out) hb)
    replace BK262 := Aside0.mk (blk_below (g := gb262) (o := .cells #[.int .i64 1, .slice none 0 0, .int .i64 x6_1] 79 (0, 0)) (by (with_reducible repeat (first | refine blk_drewN ?_ _ | refine blk_drew ?_ | refine blk_alloc ?_ _)); exact BK262.out) hb)
    replace HB := (Bw.sw w hb)
    (try clear hb)
    (try clear hb2)
    (try clear hk)
    (try clear hi)
    (try clear ho0)
    obtain ⟨Ao56, co56, eo56⟩ := Kd.N_slice HO286.out
    (first | subst eo56 | (injection eo56 with f1_ f2_ f3_; have f4_ := f1_.symm; have f5_ := f3_.symm; clear f1_ f2_ f3_; subst f4_; subst f5_))
    refine hK.out _ _ ⟨(blk_cell BK252.out 0).trans rfl, (blk_cell BK252.out 1).trans rfl, (blk_cell BK252.out 2).trans rfl, (blk_cell BK252.out 3).trans rfl, (blk_cell BK252.out 4).trans rfl, (blk_cell BK262.out 0).trans rfl, (blk_cell BK262.out 1).trans rfl, (blk_cell BK262.out 2).trans rfl, ((HB.out.cell (World.block_lt_of_cell? w _ hw280_0)).trans hw280_0), ((HB.out.cell (World.block_lt_of_cell? w _ hw280_1)).trans hw280_1), ((HB.out.cell (World.block_lt_of_cell? w _ hw280_2)).trans hw280_2), ((HB.out.cell (World.block_lt_of_cell? w _ hw280_3)).trans hw280_3), ((HB.out.cell (World.block_lt_of_cell? w _ hw280_4)).trans hw280_4)⟩ (fun hHeld => ?_)
    clear hK K
    refine norm_ (a' := ?_) ?_ ?_
    rotate_left
    ·show Act.put _ (some 45) _ = _
     simp only [Act.put, List.setIfInBounds_toArray, List.set_cons_zero, List.set_cons_succ, i64_w, i32_w]
     rfl
    refine one_ (i := 10) (N := some 46) #[true, true, true, true, true, true, true, true, true, true, true, false] rfl rfl (one_of HT_.out (by kernel_rfl)) (by decide) (fun K hK => ?_)
    refine Kd.N_append_rows_step (Kd.slice 79 k79) (w0 := w) w.heap.size (by rfl) (.tmp 36) (.tmp 45) 40 59 (.slice none 0 0) 24 rfl Try.underlying40 info59 rfl (by decide) (by omega) u5 x5_1 t284 _ _ _ (fun k_ => (P1_ k_ ∨ w.heap.size ≤ k_) ∧ k_ ≠ gb252 ∧ k_ ≠ gb262) (fun k_ => ((fun k_ => (P1_ k_ ∨ w.heap.size ≤ k_) ∧ k_ ≠ gb252 ∧ k_ ≠ gb262)) k_ ∧ some k_ ≠ (u5 : Value).ownBlock) rfl rfl ?aO ?aR (fun _ hk => hk) ?aF ?aB ?aS ?aL ?_
    (case aR => exact (by skip; exact Kd.N_F (Kd.N_mono (ok' := (fun k_ => ((fun k_ => (P1_ k_ ∨ w.heap.size ≤ k_) ∧ k_ ≠ gb252 ∧ k_ ≠ gb262)) k_ ∧ some k_ ≠ (u5 : Value).ownBlock)) (HO286.out) (fun k_ hk => ⟨⟨hk.1, ⟨hk.2.2.1, hk.2.2.2⟩⟩, hk.2.1⟩))))
    (case aB => exact bw)
    (case aF => exact (fun k_ hk => ⟨(.inr (Nat.le_trans (bzz w) hk)), Kd.freshB (g := gb252) (o := .cells #[.int .i64 a0_0, .int .i64 a0_1, .slice A0_2 l0_2.length c0_2, .slice A0_3 l0_3.length c0_3, .slice (some ad280) l0_4.length c0_4] 30 (0, 0)) (by (with_reducible repeat (first | refine blk_drewN ?_ _ | refine blk_drew ?_ | refine blk_alloc ?_ _)); exact BK252.out) k_ hk, Kd.freshB (g := gb262) (o := .cells #[.int .i64 1, .slice none 0 0, .int .i64 x6_1] 79 (0, 0)) (by (with_reducible repeat (first | refine blk_drewN ?_ _ | refine blk_drew ?_ | refine blk_alloc ?_ _)); exact BK262.out) k_ hk⟩))
    (case aO => exact (by (with_reducible repeat (first | apply Kd.N_alloc | apply Kd.N_drewN | apply Kd.N_drew)); exact Kd.N_mono HO_5.out (fun _ hk => ⟨hk.1.1.1, ⟨hk.1.1.2.1, hk.1.1.2.2⟩⟩)))
    (case aS => exact (bzz w))
    (case aL => have := LMc44.out; omega)
    intro v288 w55 ho hb hg hat
    rw [← Ny287.out] at ho
    replace HO_1 := Aside0.mk (Kd.V_afterv (ok := (fun k_ => (P1_ k_ ∨ w.heap.size ≤ k_) ∧ some k_ ≠ (.slice Ao53 t281.length co53 : Value).ownBlock ∧ some k_ ≠ (.slice Ao56 t284.length co56 : Value).ownBlock ∧ k_ ≠ gb252 ∧ k_ ≠ gb262)) (by (with_reducible repeat (first | apply Kd.V_alloc | apply Kd.V_drewN | apply Kd.V_drew)); exact Kd.V_mono HO_1.out (fun _ hk => ⟨⟨hk.1.1.1, ⟨hk.1.2, ⟨hk.2, ⟨hk.1.1.2.2.1, hk.1.1.2.2.2⟩⟩⟩⟩, hk.1.1.2.1⟩)) hg hat)
    replace BK252 := Aside0.mk (blk_grown (g := gb252) (o := .cells #[.int .i64 a0_0, .int .i64 a0_1, .slice A0_2 l0_2.length c0_2, .slice A0_3 l0_3.length c0_3, .slice (some ad280) l0_4.length c0_4] 30 (0, 0)) (by (with_reducible repeat (first | refine blk_drewN ?_ _ | refine blk_drew ?_ | refine blk_alloc ?_ _)); exact BK252.out) hg (Kd.N_ne HO_5.out BK252.out (by decide)))
    replace BK262 := Aside0.mk (blk_grown (g := gb262) (o := .cells #[.int .i64 1, .slice none 0 0, .int .i64 x6_1] 79 (0, 0)) (by (with_reducible repeat (first | refine blk_drewN ?_ _ | refine blk_drew ?_ | refine blk_alloc ?_ _)); exact BK262.out) hg (Kd.N_ne HO_5.out BK262.out (by decide)))
    replace HO283 := Aside0.mk (Kd.N_afterv (ok := (fun k_ => (P1_ k_ ∨ w.heap.size ≤ k_) ∧ some k_ ≠ (.slice Ao56 t284.length co56 : Value).ownBlock ∧ k_ ≠ gb252 ∧ k_ ≠ gb262)) (by (with_reducible repeat (first | apply Kd.N_alloc | apply Kd.N_drewN | apply Kd.N_drew)); exact Kd.N_mono HO283.out (fun _ hk => ⟨⟨hk.1.1, ⟨hk.2, ⟨hk.1.2.2.1, hk.1.2.2.2⟩⟩⟩, hk.1.2.1⟩)) hg hat)
    replace HO286 := Aside0.mk (Kd.N_afterv (ok := (fun k_ => (P1_ k_ ∨ w.heap.size ≤ k_) ∧ k_ ≠ gb252 ∧ k_ ≠ gb262)) (by (with_reducible repeat (first | apply Kd.N_alloc | apply Kd.N_drewN | apply Kd.N_drew)); exact Kd.N_mono HO286.out (fun _ hk => ⟨⟨hk.1, ⟨hk.2.2.1, hk.2.2.2⟩⟩, hk.2.1⟩)) hg hat)
    replace HB := Bw.mk (w := w) (hb)
    have HO289 := Aside0.mk (ho)
    clear HO_5
    clear ho hb hg hat
    refine hK.out _ _ ⟨(blk_cell BK252.out 0).trans rfl, (blk_cell BK252.out 1).trans rfl, (blk_cell BK252.out 2).trans rfl, (blk_cell BK252.out 3).trans rfl, (blk_cell BK252.out 4).trans rfl, (blk_cell BK262.out 0).trans rfl, (blk_cell BK262.out 1).trans rfl, (blk_cell BK262.out 2).trans rfl, ((HB.out.cell (World.block_lt_of_cell? w _ hw280_0)).trans hw280_0), ((HB.out.cell (World.block_lt_of_cell? w _ hw280_1)).trans hw280_1), ((HB.out.cell (World.block_lt_of_cell? w _ hw280_2)).trans hw280_2), ((HB.out.cell (World.block_lt_of_cell? w _ hw280_3)).trans hw280_3), ((HB.out.cell (World.block_lt_of_cell? w _ hw280_4)).trans hw280_4)⟩ (fun hHeld => ?_)
    clear hK K
    refine norm_ (a' := ?_) ?_ ?_
    rotate_left
    ·show Act.put _ (some 46) _ = _
     simp only [Act.put, List.setIfInBounds_toArray, List.set_cons_zero, List.set_cons_succ, i64_w, i32_w]
     rfl
    refine pure_ (i := 11) (N := some 5) (v := ?_) (a' := ?_) #[true, true, true, true, true, true, true, true, true, true, true, true] rfl rfl (any_of HT_.out (by kernel_rfl)) (fun _ _ _ h => h) (Or.inl ⟨by rfl, ?_⟩) ?_ ?_
    rotate_left
    ·intro w'
     go_simp
     with_reducible rfl
    rotate_left
    ·simp only [Act.put, List.setIfInBounds_toArray, List.set_cons_zero, List.set_cons_succ, i64_w, i32_w]
     rfl
    refine done_ (done_of HT_.out (by kernel_rfl)) ?_
    try go_wp2
    go_roundg k1
    case measure => have := HK1.out; omega
    case rel => exact ⟨(y287), (wrap64 (x6_1 + 1)), (by first | rfl | (simp; done) | (simp [*]; done)), H', ⟨by have := HK1.out; omega⟩, ⟨by (with_reducible repeat (first | apply Kd.V_alloc | apply Kd.V_drewN | apply Kd.V_drew)); exact Kd.V_mono HO_1.out (fun _ hk => ⟨hk.1.1, ⟨hk.2, hk.1.2.2.2.1⟩⟩)⟩, ⟨by (with_reducible repeat (first | apply Kd.N_alloc | apply Kd.N_drewN | apply Kd.N_drew)); exact Kd.N_mono HO289.out (fun _ hk => ⟨hk.1, hk.2.1⟩)⟩, ⟨by (with_reducible repeat (first | refine blk_drewN ?_ _ | refine blk_drew ?_ | refine blk_alloc ?_ _)); exact BK252.out⟩, ⟨bw⟩⟩
   as_aux_lemma =>
   rw [if_pos c16] at H
   have c16b0 : (a0_0 == 5) = true := beq_iff_eq.mpr c16
   have c16b1 : (a0_0 != 5) = false := bne_eq_false_iff_eq.mpr c16
   clear c16
   obtain ⟨y263, hy263⟩ : ∃ y_ : List Int, y_ = (([] : List Int)) := ⟨_, rfl⟩
   replace H : (if 0 ≤ x6_1 then (if x6_1 < (l0_3.length : Int) then (if y263.length + (rd_L1 l0_3 x6_1).length < 140737488355328 then ((spec_l3more.f l1 0 (y263 ++ (rd_L1 l0_3 x6_1)) 0).bind fun t271 => ((spec_l3leaves.f k1 ((rd_T30 l0_4 x6_1).f0) ((rd_T30 l0_4 x6_1).f1) ((rd_T30 l0_4 x6_1).f2) ((rd_T30 l0_4 x6_1).f3) ((rd_T30 l0_4 x6_1).f4) t271).bind fun t274 => (if x5_1.length + t274.length < 5864062014805 then (spec_l3leaves.l0 k1 l1 (x5_1 ++ t274) (wrap64 (x6_1 + 1)) a0_0 a0_1 l0_2 l0_3 l0_4) else (none)))) else (none)) else (none)) else (none)) = some r := by first | (rw [hy263]; with_reducible exact H) | (have H2_ := (Option.bind_some _ _).symm.trans H; rw [hy263]; with_reducible exact H2_) | (have H2_ := (Option.bind_some _ _).symm.trans H; with_reducible exact H2_) | with_reducible exact H | (rw [hy263]; exact H) | exact H
   have Ny263 := Aside0.mk hy263
   clear hy263
   by_cases c17 : 0 ≤ x6_1
   rotate_left
   ·rw [if_neg c17] at H
    exact absurd H (by simp)
   as_aux_lemma =>
   rw [if_pos c17] at H
   have c17b0 : decide (0 ≤ x6_1) = true := decide_eq_true c17
   clear c17
   by_cases c18 : x6_1 < (l0_3.length : Int)
   rotate_left
   ·rw [if_neg c18] at H
    exact absurd H (by simp)
   as_aux_lemma =>
   rw [if_pos c18] at H
   have c18b0 : decide (x6_1 < (l0_3.length : Int)) = true := decide_eq_true c18
   clear c18
   by_cases c19 : y263.length + (rd_L1 l0_3 x6_1).length < 140737488355328
   rotate_left
   ·rw [if_neg c19] at H
    exact absurd H (by simp)
   as_aux_lemma =>
   rw [if_pos c19] at H
   have LMc19 := Aside0.mk c19
   clear c19
   obtain ⟨y267, hy267⟩ : ∃ y_ : List Int, y_ = (y263 ++ (rd_L1 l0_3 x6_1)) := ⟨_, rfl⟩
   replace H : ((spec_l3more.f l1 0 y267 0).bind fun t271 => ((spec_l3leaves.f k1 ((rd_T30 l0_4 x6_1).f0) ((rd_T30 l0_4 x6_1).f1) ((rd_T30 l0_4 x6_1).f2) ((rd_T30 l0_4 x6_1).f3) ((rd_T30 l0_4 x6_1).f4) t271).bind fun t274 => (if x5_1.length + t274.length < 5864062014805 then (spec_l3leaves.l0 k1 l1 (x5_1 ++ t274) (wrap64 (x6_1 + 1)) a0_0 a0_1 l0_2 l0_3 l0_4) else (none)))) = some r := by first | (rw [hy267]; with_reducible exact H) | (have H2_ := (Option.bind_some _ _).symm.trans H; rw [hy267]; with_reducible exact H2_) | (have H2_ := (Option.bind_some _ _).symm.trans H; with_reducible exact H2_) | with_reducible exact H | (rw [hy267]; exact H) | exact H
   have Ny267 := Aside0.mk hy267
   clear hy267
   replace H := Option.bind_eq_some_iff.mp H
   obtain ⟨t271, A200, H⟩ := H
   have A20 := Aside0.mk A200
   clear A200
   replace H := Option.bind_eq_some_iff.mp H
   obtain ⟨t274, A210, H⟩ := H
   have A21 := Aside0.mk A210
   clear A210
   by_cases c22 : x5_1.length + t274.length < 5864062014805
   rotate_left
   ·rw [if_neg c22] at H
    exact absurd H (by simp)
   as_aux_lemma =>
   rw [if_pos c22] at H
   have LMc22 := Aside0.mk c22
   clear c22
   obtain ⟨y277, hy277⟩ : ∃ y_ : List (List (S79)), y_ = (x5_1 ++ t274) := ⟨_, rfl⟩
   replace H : (spec_l3leaves.l0 k1 l1 y277 (wrap64 (x6_1 + 1)) a0_0 a0_1 l0_2 l0_3 l0_4) = some r := by first | (rw [hy277]; with_reducible exact H) | (have H2_ := (Option.bind_some _ _).symm.trans H; rw [hy277]; with_reducible exact H2_) | (have H2_ := (Option.bind_some _ _).symm.trans H; with_reducible exact H2_) | with_reducible exact H | (rw [hy277]; exact H) | exact H
   have Ny277 := Aside0.mk hy277
   clear hy277
   have H' := Aside0.mk H
   clear H
   obtain ⟨hcz23_0, hcz23_1, hcz23_2, hcz23_3, hcz23_4, hfz23_0, hfz23_1, hfz23_2, hfz23_3, hfz23_4⟩ := blk5 BK252.out
   try go_wp2_with (first | ((with_reducible refine gate_dst (N := 7) rfl ?_); refine box_event rfl (N := 7) rfl (cs := #[.int .i64 0, .slice none 0 0, .int .i64 0]) (t := 79) (by go_simp <;> rfl) ?_; intro gb262 hg w24 hbox hb; replace HO_1 := Aside0.mk (Kd.V_below (Kd.V_elderB (by (with_reducible repeat (first | apply Kd.V_alloc | apply Kd.V_drewN | apply Kd.V_drew)); exact HO_1.out) gb262 (Nat.le_of_eq hg.symm)) hb); replace HO_5 := Aside0.mk (Kd.N_below (Kd.N_elderB (by (with_reducible repeat (first | apply Kd.N_alloc | apply Kd.N_drewN | apply Kd.N_drew)); exact HO_5.out) gb262 (Nat.le_of_eq hg.symm)) hb); have BK262 := Aside0.mk (hbox); have GE262 := (Ge.of hg : Ge w.heap.size gb262); replace HB := (Bw.sw w hb); have NB252_262 := Aside0.mk ((by rw [hg]; exact Nat.ne_of_lt (blk_lt (g := gb252) (o := .cells #[.int .i64 a0_0, .int .i64 a0_1, .slice A0_2 l0_2.length c0_2, .slice A0_3 l0_3.length c0_3, .slice A0_4 l0_4.length c0_4] 30 (0, 0)) (by (with_reducible repeat (first | refine blk_drewN ?_ _ | refine blk_drew ?_ | refine blk_alloc ?_ _)); exact BK252.out)) : gb252 ≠ gb262)); have NB262_252 := Aside0.mk ((by rw [hg]; exact Nat.ne_of_gt (blk_lt (g := gb252) (o := .cells #[.int .i64 a0_0, .int .i64 a0_1, .slice A0_2 l0_2.length c0_2, .slice A0_3 l0_3.length c0_3, .slice A0_4 l0_4.length c0_4] 30 (0, 0)) (by (with_reducible repeat (first | refine blk_drewN ?_ _ | refine blk_drew ?_ | refine blk_alloc ?_ _)); exact BK252.out)) : gb262 ≠ gb252)); replace BK252 := Aside0.mk (blk_below (g := gb252) (o := .cells #[.int .i64 a0_0, .int .i64 a0_1, .slice A0_2 l0_2.length c0_2, .slice A0_3 l0_3.length c0_3, .slice A0_4 l0_4.length c0_4] 30 (0, 0)) (by (with_reducible repeat (first | refine blk_drewN ?_ _ | refine blk_drew ?_ | refine blk_alloc ?_ _)); exact BK252.out) hb); clear hb hbox hg; have hnb25 := NB262_252.out; have hnc25 := NB252_262.out; obtain ⟨hcz26_0, hcz26_1, hcz26_2, hfz26_0, hfz26_1, hfz26_2⟩ := blk3 BK262.out; obtain ⟨hcz27_0, hcz27_1, hcz27_2, hcz27_3, hcz27_4, hfz27_0, hfz27_1, hfz27_2, hfz27_3, hfz27_4⟩ := blk5 BK252.out) | ((with_reducible refine gate_dst (N := 28) rfl ?_); refine Kd.R_lit (Kd.int .u8) _ 5 ?hg (N := 28) ?hd (xs := ([] : List Int)) (inner := []) (ok := fun _ => True) (okp := fun _ => True) ?hr ?hp (fun _ hk => hk) trivial (Below.refl _ _) (Nat.le_refl _) (by simp) ?_; (case hd => rfl); (case hg => rfl); (case hr => first | (go_simp; done) | (go_simp; rfl)); (case hp => exact (Reps.none _ _)); intro v264 w28 ho29 hb hg_ hnew_; clear hg_ hnew_; (first | rw [← Ny263.out] at ho29 | (simp only [Int.reduceToNat] at ho29; rw [← Ny263.out] at ho29)); replace HO_1 := Aside0.mk (Kd.V_elder' (by (with_reducible repeat (first | apply Kd.V_alloc | apply Kd.V_drewN | apply Kd.V_drew)); exact (Kd.V_mono (Kd.V_far (p := ⟨gb262, 2, none⟩) (Kd.V_far (p := ⟨gb262, 1, none⟩) (Kd.V_far (p := ⟨gb262, 0, none⟩) (Kd.V_mono HO_1.out (fun k_ hk => (⟨hk, hk.2⟩ : _ ∧ k_ ≠ gb262))) (fun _ hk => hk.2) (.int .i64 1)) (fun _ hk => hk.2) (.slice none 0 0)) (fun _ hk => hk.2) (.int .i64 x6_1)) (fun _ h_ => h_.1))) (Kd.R_base ho29) hb); replace HO_5 := Aside0.mk (Kd.N_elder' (by (with_reducible repeat (first | apply Kd.N_alloc | apply Kd.N_drewN | apply Kd.N_drew)); exact (Kd.N_mono (Kd.N_far (p := ⟨gb262, 2, none⟩) (Kd.N_far (p := ⟨gb262, 1, none⟩) (Kd.N_far (p := ⟨gb262, 0, none⟩) (Kd.N_mono HO_5.out (fun k_ hk => (⟨hk, hk.2⟩ : _ ∧ k_ ≠ gb262))) (fun _ hk => hk.2) (.int .i64 1)) (fun _ hk => hk.2) (.slice none 0 0)) (fun _ hk => hk.2) (.int .i64 x6_1)) (fun _ h_ => h_.1))) (Kd.R_base ho29) hb); have HO265 := Aside0.mk (Kd.R_lower (Kd.R_newM (M := fun k_ => (w.heap.size ≤ k_)) ho29 (bzz w) (fun k_ h_ => h_)) (bzz w)); replace BK252 := Aside0.mk (blk_below (g := gb252) (o := .cells #[.int .i64 a0_0, .int .i64 a0_1, .slice A0_2 l0_2.length c0_2, .slice A0_3 l0_3.length c0_3, .slice A0_4 l0_4.length c0_4] 30 (0, 0)) (by (with_reducible repeat (first | refine blk_drewN ?_ _ | refine blk_drew ?_ | refine blk_alloc ?_ _)); refine blk_far ?_ NB252_262.out _; (with_reducible repeat (first | refine blk_drewN ?_ _ | refine blk_drew ?_ | refine blk_alloc ?_ _)); refine blk_far ?_ NB252_262.out _; (with_reducible repeat (first | refine blk_drewN ?_ _ | refine blk_drew ?_ | refine blk_alloc ?_ _)); refine blk_far ?_ NB252_262.out _; (with_reducible repeat (first | refine blk_drewN ?_ _ | refine blk_drew ?_ | refine blk_alloc ?_ _)); exact BK252.out) hb); replace BK262 := Aside0.mk (blk_below (g := gb262) (o := .cells #[.int .i64 1, .slice none 0 0, .int .i64 x6_1] 79 (0, 0)) (by (with_reducible repeat (first | refine blk_drewN ?_ _ | refine blk_drew ?_ | refine blk_alloc ?_ _)); refine blk_put (cs := #[.int .i64 1, .slice none 0 0, .int .i64 0]) ?_ 2 _ rfl; (with_reducible repeat (first | refine blk_drewN ?_ _ | refine blk_drew ?_ | refine blk_alloc ?_ _)); refine blk_put (cs := #[.int .i64 1, .slice none 0 0, .int .i64 0]) ?_ 1 _ rfl; (with_reducible repeat (first | refine blk_drewN ?_ _ | refine blk_drew ?_ | refine blk_alloc ?_ _)); refine blk_put (cs := #[.int .i64 0, .slice none 0 0, .int .i64 0]) ?_ 0 _ rfl; (with_reducible repeat (first | refine blk_drewN ?_ _ | refine blk_drew ?_ | refine blk_alloc ?_ _)); exact BK262.out) hb); replace HB := (Bw.sw w hb); clear hb ho29; obtain ⟨hcz30_0, hcz30_1, hcz30_2, hcz30_3, hcz30_4, hfz30_0, hfz30_1, hfz30_2, hfz30_3, hfz30_4⟩ := blk5 BK252.out; have p266 : 0 ≤ (x6_1 : Int) := of_decide_eq_true (by first | (with_reducible assumption) | assumption); have q266 : x6_1 < (l0_3.length : Int) := of_decide_eq_true (by first | (with_reducible assumption) | assumption); obtain ⟨ad266, A266_0, c266_0, e266, hx266_0, hl266_0, hi266_0⟩ := at_L1 HR0_3.out x6_1 p266 q266; cases e266; replace hx266_0 := (HB.out.cell (World.block_lt_of_cell? w _ hx266_0)).trans hx266_0; have HR266_0 := Aside0.mk hi266_0; have HC266_0 := Aside0.mk hl266_0; clear hi266_0 hl266_0; replace p266 := eq_true p266; replace q266 := eq_true q266) | ((with_reducible refine gate_builtin (b := .append) (xs := #[.tmp 28, .tmp 33]) rfl ?_); at_builtin; refine Kd.R_append_rows (Kd.int .u8) (w0 := w) w.heap.size rfl (.tmp 28) (.tmp 33) 22 5 (.int .u8 0) 1 rfl Try.underlying22 info5 rfl (by decide) (by omega) v264 y263 (rd_L1 l0_3 x6_1) _ _ _ (fun k_ => (w.heap.size ≤ k_)) (fun _ => False) rfl rfl ?aO ?aR (fun _ _ h => h) (fun _ h => h.elim) ?aF ?aB ?aS ?aL ?_; (case aR => repeat (first | exact (Kd.C_below HR266_0.out HB.out) | (with_reducible refine Kd.C_alloc ?_ _) | (with_reducible refine Kd.C_drewN ?_ _) | (with_reducible refine Kd.C_drew ?_))); (case aB => exact bw); (case aF => exact (fun k_ hk => (Nat.le_trans (bzz w) hk))); (case aO => exact (by (with_reducible repeat (first | apply Kd.R_alloc | apply Kd.R_drewN | apply Kd.R_drew)); exact Kd.R_mono HO265.out (fun _ hk => hk.1))); (case aS => exact (bzz w)); (case aL => have := LMc19.out; omega); intro v268 w31 ho hb hg hat; rw [← Ny267.out] at ho; replace HO_1 := Aside0.mk (Kd.V_afterv (ok := (fun k_ => (P1_ k_ ∨ w.heap.size ≤ k_) ∧ some k_ ≠ (u5 : Value).ownBlock ∧ k_ ≠ gb252 ∧ k_ ≠ gb262)) (by (with_reducible repeat (first | apply Kd.V_alloc | apply Kd.V_drewN | apply Kd.V_drew)); exact Kd.V_mono HO_1.out (fun _ hk => ⟨⟨hk.1.1.1, ⟨hk.1.1.2.1, ⟨hk.1.1.2.2, hk.1.2⟩⟩⟩, hk.2⟩)) hg hat); replace HO_5 := Aside0.mk (Kd.N_afterv (ok := (fun k_ => (P1_ k_ ∨ w.heap.size ≤ k_) ∧ k_ ≠ gb252 ∧ k_ ≠ gb262)) (by (with_reducible repeat (first | apply Kd.N_alloc | apply Kd.N_drewN | apply Kd.N_drew)); exact Kd.N_mono HO_5.out (fun _ hk => ⟨⟨hk.1.1.1, ⟨hk.1.1.2, hk.1.2⟩⟩, hk.2⟩)) hg hat); replace BK252 := Aside0.mk (blk_grown (g := gb252) (o := .cells #[.int .i64 a0_0, .int .i64 a0_1, .slice A0_2 l0_2.length c0_2, .slice (some ad266) l0_3.length c0_3, .slice A0_4 l0_4.length c0_4] 30 (0, 0)) (by (with_reducible repeat (first | refine blk_drewN ?_ _ | refine blk_drew ?_ | refine blk_alloc ?_ _)); exact BK252.out) hg (Kd.R_ne HO265.out BK252.out (by decide))); replace BK262 := Aside0.mk (blk_grown (g := gb262) (o := .cells #[.int .i64 1, .slice none 0 0, .int .i64 x6_1] 79 (0, 0)) (by (with_reducible repeat (first | refine blk_drewN ?_ _ | refine blk_drew ?_ | refine blk_alloc ?_ _)); exact BK262.out) hg (Kd.R_ne HO265.out BK262.out (by decide))); replace HB := Bw.mk (w := w) (hb); have HO269 := Aside0.mk (ho); clear HO265; clear ho hb hg hat; obtain ⟨Ao32, co32, eo32⟩ := Kd.R_slice HO269.out; subst eo32; obtain ⟨hcz33_0, hcz33_1, hcz33_2, hfz33_0, hfz33_1, hfz33_2⟩ := blk3 BK262.out))
   have n0_ : Aside0 (Kd.V k79 79 (((w31.setCell ⟨gb262, 0, none⟩ (.int .i64 0)).setCell ⟨gb262, 1, none⟩ (.slice Ao32 y267.length co32)).setCell ⟨gb262, 2, none⟩ (.int .i64 0)) w.heap.size (fun k_ => (P1_ k_ ∨ w.heap.size ≤ k_) ∧ some k_ ≠ (u5 : Value).ownBlock ∧ some k_ ≠ (.slice Ao32 y267.length co32 : Value).ownBlock ∧ k_ ≠ gb252 ∧ k_ ≠ gb262) (.slice A1 l1.length c1) l1) := ⟨by (with_reducible repeat (first | apply Kd.V_alloc | apply Kd.V_drewN | apply Kd.V_drew)); exact Kd.V_mono (Kd.V_far (p := ⟨gb262, 2, none⟩) (Kd.V_far (p := ⟨gb262, 1, none⟩) (Kd.V_far (p := ⟨gb262, 0, none⟩) (Kd.V_mono HO_1.out (fun k_ hk => (⟨hk, hk.1.2.2.2⟩ : _ ∧ k_ ≠ gb262))) (fun _ hk => hk.2) (.int .i64 0)) (fun _ hk => hk.2) (.slice Ao32 y267.length co32)) (fun _ hk => hk.2) (.int .i64 0)) (fun _ hk => ⟨hk.1.1.1, ⟨hk.1.1.2.1, ⟨hk.1.2, ⟨hk.1.1.2.2.1, hk.1.1.2.2.2⟩⟩⟩⟩)⟩
   have n1_ : Aside0 (Kd.N (Kd.slice 79 k79) 59 (((w31.setCell ⟨gb262, 0, none⟩ (.int .i64 0)).setCell ⟨gb262, 1, none⟩ (.slice Ao32 y267.length co32)).setCell ⟨gb262, 2, none⟩ (.int .i64 0)) w.heap.size (fun k_ => (P1_ k_ ∨ w.heap.size ≤ k_) ∧ some k_ ≠ (.slice Ao32 y267.length co32 : Value).ownBlock ∧ k_ ≠ gb252 ∧ k_ ≠ gb262) u5 x5_1) := ⟨by (with_reducible repeat (first | apply Kd.N_alloc | apply Kd.N_drewN | apply Kd.N_drew)); exact Kd.N_mono (Kd.N_far (p := ⟨gb262, 2, none⟩) (Kd.N_far (p := ⟨gb262, 1, none⟩) (Kd.N_far (p := ⟨gb262, 0, none⟩) (Kd.N_mono HO_5.out (fun k_ hk => (⟨hk, hk.1.2.2⟩ : _ ∧ k_ ≠ gb262))) (fun _ hk => hk.2) (.int .i64 0)) (fun _ hk => hk.2) (.slice Ao32 y267.length co32)) (fun _ hk => hk.2) (.int .i64 0)) (fun _ hk => ⟨hk.1.1.1, ⟨hk.1.2, ⟨hk.1.1.2.1, hk.1.1.2.2⟩⟩⟩)⟩
   have n2_ : Aside0 (Kd.R (Kd.int .u8) 5 (((w31.setCell ⟨gb262, 0, none⟩ (.int .i64 0)).setCell ⟨gb262, 1, none⟩ (.slice Ao32 y267.length co32)).setCell ⟨gb262, 2, none⟩ (.int .i64 0)) w.heap.size (fun k_ => (w.heap.size ≤ k_)) (.slice Ao32 y267.length co32) y267) := ⟨by (with_reducible repeat (first | apply Kd.R_alloc | apply Kd.R_drewN | apply Kd.R_drew)); exact Kd.R_mono (Kd.R_far (p := ⟨gb262, 2, none⟩) (Kd.R_far (p := ⟨gb262, 1, none⟩) (Kd.R_far (p := ⟨gb262, 0, none⟩) (Kd.R_types HO269.out BK262.out (by decide)) (fun _ hk => hk.2) (.int .i64 0)) (fun _ hk => hk.2) (.slice Ao32 y267.length co32)) (fun _ hk => hk.2) (.int .i64 0)) (fun _ hk => hk.1)⟩
   have n3_ : Aside0 ((((w31.setCell ⟨gb262, 0, none⟩ (.int .i64 0)).setCell ⟨gb262, 1, none⟩ (.slice Ao32 y267.length co32)).setCell ⟨gb262, 2, none⟩ (.int .i64 0)).heap[gb252]? = some (.cells #[.int .i64 a0_0, .int .i64 a0_1, .slice A0_2 l0_2.length c0_2, .slice (some ad266) l0_3.length c0_3, .slice A0_4 l0_4.length c0_4] 30 (0, 0))) := ⟨by (with_reducible repeat (first | refine blk_drewN ?_ _ | refine blk_drew ?_ | refine blk_alloc ?_ _)); refine blk_far ?_ NB252_262.out _; (with_reducible repeat (first | refine blk_drewN ?_ _ | refine blk_drew ?_ | refine blk_alloc ?_ _)); refine blk_far ?_ NB252_262.out _; (with_reducible repeat (first | refine blk_drewN ?_ _ | refine blk_drew ?_ | refine blk_alloc ?_ _)); refine blk_far ?_ NB252_262.out _; (with_reducible repeat (first | refine blk_drewN ?_ _ | refine blk_drew ?_ | refine blk_alloc ?_ _)); exact BK252.out⟩
   have n4_ : Aside0 ((((w31.setCell ⟨gb262, 0, none⟩ (.int .i64 0)).setCell ⟨gb262, 1, none⟩ (.slice Ao32 y267.length co32)).setCell ⟨gb262, 2, none⟩ (.int .i64 0)).heap[gb262]? = some (.cells #[.int .i64 0, .slice Ao32 y267.length co32, .int .i64 0] 79 (0, 0))) := ⟨by (with_reducible repeat (first | refine blk_drewN ?_ _ | refine blk_drew ?_ | refine blk_alloc ?_ _)); refine blk_put (cs := #[.int .i64 0, .slice Ao32 y267.length co32, .int .i64 x6_1]) ?_ 2 _ rfl; (with_reducible repeat (first | refine blk_drewN ?_ _ | refine blk_drew ?_ | refine blk_alloc ?_ _)); refine blk_put (cs := #[.int .i64 0, .slice none 0 0, .int .i64 x6_1]) ?_ 1 _ rfl; (with_reducible repeat (first | refine blk_drewN ?_ _ | refine blk_drew ?_ | refine blk_alloc ?_ _)); refine blk_put (cs := #[.int .i64 1, .slice none 0 0, .int .i64 x6_1]) ?_ 0 _ rfl; (with_reducible repeat (first | refine blk_drewN ?_ _ | refine blk_drew ?_ | refine blk_alloc ?_ _)); exact BK262.out⟩
   have n5_ : Aside0 (Below w.heap.size w (((w31.setCell ⟨gb262, 0, none⟩ (.int .i64 0)).setCell ⟨gb262, 1, none⟩ (.slice Ao32 y267.length co32)).setCell ⟨gb262, 2, none⟩ (.int .i64 0))) := ⟨bw⟩
   (try clear HO_1)
   (try clear HO_5)
   (try clear HO269)
   (try clear BK252)
   (try clear BK262)
   (try clear HB)
   generalize (((w31.setCell ⟨gb262, 0, none⟩ (.int .i64 0)).setCell ⟨gb262, 1, none⟩ (.slice Ao32 y267.length co32)).setCell ⟨gb262, 2, none⟩ (.int .i64 0)) = w34 at n0_ n1_ n2_ n3_ n4_ n5_ ⊢
   have HO_1 := n0_
   have HO_5 := n1_
   have HO269 := n2_
   have BK252 := n3_
   have BK262 := n4_
   have HB := Bw.mk (w := w) n5_.out
   clear n0_ n1_ n2_ n3_ n4_ n5_
   replace HO_1 := Aside0.mk (Kd.V_drew HO_1.out)
   replace HO_5 := Aside0.mk (Kd.N_drew HO_5.out)
   replace HO269 := Aside0.mk (Kd.R_drew HO269.out)
   replace BK252 := Aside0.mk (blk_drew BK252.out)
   replace BK262 := Aside0.mk (blk_drew BK262.out)
   replace HB := Bw.mk (w := w) (below_drew1 HB.out)
   have p270 : 0 ≤ (x6_1 : Int) := of_decide_eq_true (by first | (with_reducible assumption) | assumption)
   have q270 : x6_1 < (l0_4.length : Int) := of_decide_eq_true (by first | (with_reducible assumption) | assumption)
   obtain ⟨ad270, A270_2, c270_2, A270_3, c270_3, A270_4, c270_4, e270, hx270_0, hx270_1, hx270_2, hx270_3, hx270_4, hl270_2, hi270_2, hl270_3, hi270_3, hl270_4, hi270_4⟩ := at_T30 HR0_4.out x6_1 p270 q270
   have hw270_4 := hx270_4
   have hw270_3 := hx270_3
   have hw270_2 := hx270_2
   have hw270_1 := hx270_1
   have hw270_0 := hx270_0
   cases e270
   replace hx270_0 := (HB.out.cell (World.block_lt_of_cell? w _ hx270_0)).trans hx270_0
   replace hx270_1 := (HB.out.cell (World.block_lt_of_cell? w _ hx270_1)).trans hx270_1
   replace hx270_2 := (HB.out.cell (World.block_lt_of_cell? w _ hx270_2)).trans hx270_2
   replace hx270_3 := (HB.out.cell (World.block_lt_of_cell? w _ hx270_3)).trans hx270_3
   replace hx270_4 := (HB.out.cell (World.block_lt_of_cell? w _ hx270_4)).trans hx270_4
   have HR270_2 := Aside0.mk hi270_2
   have HC270_2 := Aside0.mk hl270_2
   clear hi270_2 hl270_2
   have HR270_3 := Aside0.mk hi270_3
   have HC270_3 := Aside0.mk hl270_3
   clear hi270_3 hl270_3
   have HR270_4 := Aside0.mk hi270_4
   have HC270_4 := Aside0.mk hl270_4
   clear hi270_4 hl270_4
   replace p270 := eq_true p270
   replace q270 := eq_true q270
   refine start_ (n := 12) (S := fun w' => w'.cell? ⟨gb252, 0, none⟩ = some (.int .i64 a0_0) ∧ w'.cell? ⟨gb252, 1, none⟩ = some (.int .i64 a0_1) ∧ w'.cell? ⟨gb252, 2, none⟩ = some (.slice A0_2 l0_2.length c0_2) ∧ w'.cell? ⟨gb252, 3, none⟩ = some (.slice (some ad266) l0_3.length c0_3) ∧ w'.cell? ⟨gb252, 4, none⟩ = some (.slice (some ad270) l0_4.length c0_4) ∧ w'.cell? ⟨gb262, 0, none⟩ = some (.int .i64 0) ∧ w'.cell? ⟨gb262, 1, none⟩ = some (.slice Ao32 y267.length co32) ∧ w'.cell? ⟨gb262, 2, none⟩ = some (.int .i64 0) ∧ w'.cell? (ad270.add ((x6_1).toNat * 5)) = some (.int .i64 ((rd_T30 l0_4 x6_1).f0)) ∧ w'.cell? ⟨(ad270.add ((x6_1).toNat * 5)).block, (ad270.add ((x6_1).toNat * 5)).off + 1, none⟩ = some (.int .i64 ((rd_T30 l0_4 x6_1).f1)) ∧ w'.cell? ⟨(ad270.add ((x6_1).toNat * 5)).block, (ad270.add ((x6_1).toNat * 5)).off + 2, none⟩ = some (.slice A270_2 ((rd_T30 l0_4 x6_1).f2).length c270_2) ∧ w'.cell? ⟨(ad270.add ((x6_1).toNat * 5)).block, (ad270.add ((x6_1).toNat * 5)).off + 3, none⟩ = some (.slice A270_3 ((rd_T30 l0_4 x6_1).f3).length c270_3) ∧ w'.cell? ⟨(ad270.add ((x6_1).toNat * 5)).block, (ad270.add ((x6_1).toNat * 5)).off + 4, none⟩ = some (.slice A270_4 ((rd_T30 l0_4 x6_1).f4).length c270_4)) (ds := []) #[false, false, false, false, false, false, false, false, false, false, false, false] (by kernel_rfl) rfl rfl ⟨(blk_cell BK252.out 0).trans rfl, (blk_cell BK252.out 1).trans rfl, (blk_cell BK252.out 2).trans rfl, (blk_cell BK252.out 3).trans rfl, (blk_cell BK252.out 4).trans rfl, (blk_cell BK262.out 0).trans rfl, (blk_cell BK262.out 1).trans rfl, (blk_cell BK262.out 2).trans rfl, ((HB.out.cell (World.block_lt_of_cell? w _ hw270_0)).trans hw270_0), ((HB.out.cell (World.block_lt_of_cell? w _ hw270_1)).trans hw270_1), ((HB.out.cell (World.block_lt_of_cell? w _ hw270_2)).trans hw270_2), ((HB.out.cell (World.block_lt_of_cell? w _ hw270_3)).trans hw270_3), ((HB.out.cell (World.block_lt_of_cell? w _ hw270_4)).trans hw270_4)⟩ (fun hHeld => ?_); refine with_tabW spec_l3leaves.tab10 spec_l3leaves.bits10 (fun HT_ HW_ => ?_)
   generalize w34.drew = w35 at HO_1 HO_5 HO269 BK252 BK262 HB HR270_2 HR270_3 HR270_4 hx270_0 hx270_1 hx270_2 hx270_3 hx270_4 hHeld ⊢
   refine todo_ [(0, 36), (1, 37), (3, 39), (6, 42), (2, 38), (4, 40), (5, 41), (7, 43)] ?_
   iterate 8
    (first | (refine pu_ (v := ?_) (a' := ?_) HT_ rfl rfl (by kernel_rfl) (fun _ _ _ h => h) (Or.inl ⟨by rfl, ?_⟩) ?_ ?_; rotate_left; (· intro w'; go_simp; with_reducible rfl); rotate_left) | (refine ta_ (v := ?_) (a' := ?_) HT_ HW_ rfl rfl (by kernel_rfl) (fun _ _ _ h => h) (Or.inl ⟨by rfl, ?_⟩) hHeld ?_ ?_; rotate_left; (· rintro w' ⟨s0, s1, s2, s3, s4, s5, s6, s7, s8, s9, s10, s11, s12⟩; go_simp; with_reducible rfl); rotate_left))
    ·simp only [Act.put, List.setIfInBounds_toArray, List.set_cons_zero, List.set_cons_succ, i64_w, i32_w]
     rfl
   refine tend_ ?_
   refine one_ (i := 8) (N := some 44) #[true, true, true, true, true, true, true, true, true, false, false, false] rfl rfl (one_of HT_.out (by kernel_rfl)) (by decide) (fun K hK => ?_)
   refine goes_ Try.func101 (by kernel_rfl) rfl #[.slice A1 l1.length c1, .agg #[.int .i64 0, .slice Ao32 y267.length co32, .int .i64 0]] (by rfl) rfl rfl (by (try simp only [List.map_toArray, List.map_cons, List.map_nil]); first | done | rfl | (simp only [List.length_drop, List.length_take]; rfl)) ?_
   with_reducible refine (spec_l3more.calls (fun k_ => ((P1_ k_ ∨ w.heap.size ≤ k_) ∧ (some k_ ≠ (u5 : Value).ownBlock ∧ (some k_ ≠ (.slice Ao32 y267.length co32 : Value).ownBlock ∧ (k_ ≠ gb252 ∧ k_ ≠ gb262))))) _ _ l1 0 (fun k_ => some k_ = (.slice Ao32 y267.length co32 : Value).ownBlock) _ _ y267 0 t271 _ ?side1 ?side2 A20.out).mono ?_
   (case side1 => exact HO_1.out)
   (case side2 => exact Kd.R_V (Kd.R_tight rfl (Kd.R_types (Kd.R_types (Kd.R_apart' (HO269.out) (Kd.N_typed HO_5.out) (by decide)) BK252.out (by decide)) BK262.out (by decide))))
   rintro e w36 ⟨v272, rfl, ho0, hb⟩
   refine ⟨_, rfl, ?_⟩
   replace HO_1 := Aside0.mk (Kd.V_elder' (by (with_reducible repeat (first | apply Kd.V_alloc | apply Kd.V_drewN | apply Kd.V_drew)); exact HO_1.out) (Kd.N_base ho0) hb)
   have HO273 := Aside0.mk (Kd.N_lower (Kd.N_mono (ok' := fun k_ => (P1_ k_ ∨ w.heap.size ≤ k_) ∧ some k_ ≠ (u5 : Value).ownBlock ∧ k_ ≠ gb252 ∧ k_ ≠ gb262) ho0 (fun k_ hk_ => ⟨Or.elim hk_ (fun hs_ => Or.elim hs_ (fun hs_ => hs_.1) (fun hs_ => (.inr (((Kd.R_types (Kd.R_types (Kd.R_apart' (HO269.out) (Kd.N_typed HO_5.out) (by decide)) BK252.out (by decide)) BK262.out (by decide)).1 k_ hs_.symm).1.1.1)))) (fun hn_ => (.inr (Nat.le_trans (bzz w) hn_))), Or.elim hk_ (fun hs_ => Or.elim hs_ (fun hs_ => hs_.2.1) (fun hs_ => ((Kd.R_types (Kd.R_types (Kd.R_apart' (HO269.out) (Kd.N_typed HO_5.out) (by decide)) BK252.out (by decide)) BK262.out (by decide)).1 k_ hs_.symm).1.1.2)) (fun hn_ => (Kd.fresh' (Kd.N_lt (by (with_reducible repeat (first | apply Kd.N_alloc | apply Kd.N_drewN | apply Kd.N_drew)); exact HO_5.out)) k_ hn_)), Or.elim hk_ (fun hs_ => Or.elim hs_ (fun hs_ => hs_.2.2.2.1) (fun hs_ => ((Kd.R_types (Kd.R_types (Kd.R_apart' (HO269.out) (Kd.N_typed HO_5.out) (by decide)) BK252.out (by decide)) BK262.out (by decide)).1 k_ hs_.symm).1.2)) (fun hn_ => (Kd.freshB (g := gb252) (o := .cells #[.int .i64 a0_0, .int .i64 a0_1, .slice A0_2 l0_2.length c0_2, .slice (some ad266) l0_3.length c0_3, .slice (some ad270) l0_4.length c0_4] 30 (0, 0)) (by (with_reducible repeat (first | refine blk_drewN ?_ _ | refine blk_drew ?_ | refine blk_alloc ?_ _)); exact BK252.out) k_ hn_)), Or.elim hk_ (fun hs_ => Or.elim hs_ (fun hs_ => hs_.2.2.2.2) (fun hs_ => ((Kd.R_types (Kd.R_types (Kd.R_apart' (HO269.out) (Kd.N_typed HO_5.out) (by decide)) BK252.out (by decide)) BK262.out (by decide)).1 k_ hs_.symm).2)) (fun hn_ => (Kd.freshB (g := gb262) (o := .cells #[.int .i64 0, .slice Ao32 y267.length co32, .int .i64 0] 79 (0, 0)) (by (with_reducible repeat (first | refine blk_drewN ?_ _ | refine blk_drew ?_ | refine blk_alloc ?_ _)); exact BK262.out) k_ hn_))⟩)) (bzz w))
   replace HO_5 := Aside0.mk (Kd.N_elder' (by (with_reducible repeat (first | apply Kd.N_alloc | apply Kd.N_drewN | apply Kd.N_drew)); exact HO_5.out) (Kd.N_base ho0) hb)
   replace HO269 := Aside0.mk (Kd.R_below (by (with_reducible repeat (first | apply Kd.R_alloc | apply Kd.R_drewN | apply Kd.R_drew)); exact HO269.out) hb)
   replace BK252 := Aside0.mk (blk_below (g := gb252) (o := .cells #[.int .i64 a0_0, .int .i64 a0_1, .slice A0_2 l0_2.length c0_2, .slice (some ad266) l0_3.length c0_3, .slice (some ad270) l0_4.length c0_4] 30 (0, 0)) (by (with_reducible repeat (first | refine blk_drewN ?_ _ | refine blk_drew ?_ | refine blk_alloc ?_ _)); exact BK252.out) hb)
   replace BK262 := Aside0.mk (blk_below (g := gb262) (o := .cells #[.int .i64 0, .slice Ao32 y267.length co32, .int .i64 0] 79 (0, 0)) (by (with_reducible repeat (first | refine blk_drewN ?_ _ | refine blk_drew ?_ | refine blk_alloc ?_ _)); exact BK262.out) hb)
   replace HB := (Bw.sw w hb)
   (try clear hb)
   (try clear hb2)
   (try clear hk)
   (try clear hi)
   (try clear ho0)
   obtain ⟨Ao37, co37, eo37⟩ := Kd.N_slice HO273.out
   (first | subst eo37 | (injection eo37 with f1_ f2_ f3_; have f4_ := f1_.symm; have f5_ := f3_.symm; clear f1_ f2_ f3_; subst f4_; subst f5_))
   refine hK.out _ _ ⟨(blk_cell BK252.out 0).trans rfl, (blk_cell BK252.out 1).trans rfl, (blk_cell BK252.out 2).trans rfl, (blk_cell BK252.out 3).trans rfl, (blk_cell BK252.out 4).trans rfl, (blk_cell BK262.out 0).trans rfl, (blk_cell BK262.out 1).trans rfl, (blk_cell BK262.out 2).trans rfl, ((HB.out.cell (World.block_lt_of_cell? w _ hw270_0)).trans hw270_0), ((HB.out.cell (World.block_lt_of_cell? w _ hw270_1)).trans hw270_1), ((HB.out.cell (World.block_lt_of_cell? w _ hw270_2)).trans hw270_2), ((HB.out.cell (World.block_lt_of_cell? w _ hw270_3)).trans hw270_3), ((HB.out.cell (World.block_lt_of_cell? w _ hw270_4)).trans hw270_4)⟩ (fun hHeld => ?_)
   clear hK K
   refine norm_ (a' := ?_) ?_ ?_
   rotate_left
   ·show Act.put _ (some 44) _ = _
    simp only [Act.put, List.setIfInBounds_toArray, List.set_cons_zero, List.set_cons_succ, i64_w, i32_w]
    rfl
   refine one_ (i := 9) (N := some 45) #[true, true, true, true, true, true, true, true, true, true, false, false] rfl rfl (one_of HT_.out (by kernel_rfl)) (by decide) (fun K hK => ?_)
   refine goes_ Try.func67 (by kernel_rfl) rfl #[.agg #[.int .i64 ((rd_T30 l0_4 x6_1).f0), .int .i64 ((rd_T30 l0_4 x6_1).f1), .slice A270_2 ((rd_T30 l0_4 x6_1).f2).length c270_2, .slice A270_3 ((rd_T30 l0_4 x6_1).f3).length c270_3, .slice A270_4 ((rd_T30 l0_4 x6_1).f4).length c270_4], .slice Ao37 t271.length co37] (by rfl) rfl rfl (by (try simp only [List.map_toArray, List.map_cons, List.map_nil]); first | done | rfl | (simp only [List.length_drop, List.length_take]; rfl)) ?_
   with_reducible refine (ih k1 (by have := HK1.out; omega) ((rd_T30 l0_4 x6_1).f0) ((rd_T30 l0_4 x6_1).f1) _ _ ((rd_T30 l0_4 x6_1).f2) _ _ ((rd_T30 l0_4 x6_1).f3) _ _ ((rd_T30 l0_4 x6_1).f4) (fun k_ => ((P1_ k_ ∨ w.heap.size ≤ k_) ∧ (some k_ ≠ (u5 : Value).ownBlock ∧ (k_ ≠ gb252 ∧ k_ ≠ gb262)))) _ _ t271 t274 _ ?side1 ?side2 ?side3 ?side4 ?side5 ?side6 ?side7 A21.out).mono ?_
   (case side1 => repeat (first | exact (Kd.C_below HR270_2.out HB.out) | (with_reducible refine Kd.C_alloc ?_ _) | (with_reducible refine Kd.C_drewN ?_ _) | (with_reducible refine Kd.C_drew ?_)))
   (case side2 => exact HC270_2.out)
   (case side3 => repeat (first | exact (Kd.C_below HR270_3.out HB.out) | (with_reducible refine Kd.C_alloc ?_ _) | (with_reducible refine Kd.C_drewN ?_ _) | (with_reducible refine Kd.C_drew ?_)))
   (case side4 => exact HC270_3.out)
   (case side5 => repeat (first | exact (Kd.C_below HR270_4.out HB.out) | (with_reducible refine Kd.C_alloc ?_ _) | (with_reducible refine Kd.C_drewN ?_ _) | (with_reducible refine Kd.C_drew ?_)))
   (case side6 => exact HC270_4.out)
   (case side7 => exact Kd.N_V (HO273.out))
   rintro e w38 ⟨v275, rfl, ho0, hb⟩
   refine ⟨_, rfl, ?_⟩
   replace HO_1 := Aside0.mk (Kd.V_elder' (by (with_reducible repeat (first | apply Kd.V_alloc | apply Kd.V_drewN | apply Kd.V_drew)); exact HO_1.out) (Kd.N_base ho0) hb)
   replace HO269 := Aside0.mk (Kd.R_below (by (with_reducible repeat (first | apply Kd.R_alloc | apply Kd.R_drewN | apply Kd.R_drew)); exact HO269.out) hb)
   replace HO273 := Aside0.mk (Kd.N_elder' (by (with_reducible repeat (first | apply Kd.N_alloc | apply Kd.N_drewN | apply Kd.N_drew)); exact HO273.out) (Kd.N_base ho0) hb)
   have HO276 := Aside0.mk (Kd.N_lower (Kd.N_mono (ok' := fun k_ => (P1_ k_ ∨ w.heap.size ≤ k_) ∧ some k_ ≠ (u5 : Value).ownBlock ∧ k_ ≠ gb252 ∧ k_ ≠ gb262) ho0 (fun k_ hk_ => ⟨Or.elim hk_ (fun hs_ => hs_.1) (fun hn_ => (.inr (Nat.le_trans (bzz w) hn_))), Or.elim hk_ (fun hs_ => hs_.2.1) (fun hn_ => (Kd.fresh' (Kd.N_lt (by (with_reducible repeat (first | apply Kd.N_alloc | apply Kd.N_drewN | apply Kd.N_drew)); exact HO_5.out)) k_ hn_)), Or.elim hk_ (fun hs_ => hs_.2.2.1) (fun hn_ => (Kd.freshB (g := gb252) (o := .cells #[.int .i64 a0_0, .int .i64 a0_1, .slice A0_2 l0_2.length c0_2, .slice (some ad266) l0_3.length c0_3, .slice (some ad270) l0_4.length c0_4] 30 (0, 0)) (by (with_reducible repeat (first | refine blk_drewN ?_ _ | refine blk_drew ?_ | refine blk_alloc ?_ _)); exact BK252.out) k_ hn_)), Or.elim hk_ (fun hs_ => hs_.2.2.2) (fun hn_ => (Kd.freshB (g := gb262) (o := .cells #[.int .i64 0, .slice Ao32 y267.length co32, .int .i64 0] 79 (0, 0)) (by (with_reducible repeat (first | refine blk_drewN ?_ _ | refine blk_drew ?_ | refine blk_alloc ?_ _)); exact BK262.out) k_ hn_))⟩)) (bzz w))
   replace HO_5 := Aside0.mk (Kd.N_elder' (by (with_reducible repeat (first | apply Kd.N_alloc | apply Kd.N_drewN | apply Kd.N_drew)); exact HO_5.out) (Kd.N_base ho0) hb)
   replace BK252 := Aside0.mk (blk_below (g := gb252) (o := .cells #[.int .i64 a0_0, .int .i64 a0_1, .slice A0_2 l0_2.length c0_2, .slice (some ad266) l0_3.length c0_3, .slice (some ad270) l0_4.length c0_4] 30 (0, 0)) (by (with_reducible repeat (first | refine blk_drewN ?_ _ | refine blk_drew ?_ | refine blk_alloc ?_ _)); exact BK252.out) hb)
   replace BK262 := Aside0.mk (blk_below (g := gb262) (o := .cells #[.int .i64 0, .slice Ao32 y267.length co32, .int .i64 0] 79 (0, 0)) (by (with_reducible repeat (first | refine blk_drewN ?_ _ | refine blk_drew ?_ | refine blk_alloc ?_ _)); exact BK262.out) hb)
   replace HB := (Bw.sw w hb)
   (try clear hb)
   (try clear hb2)
   (try clear hk)
   (try clear hi)
   (try clear ho0)
   obtain ⟨Ao40, co40, eo40⟩ := Kd.N_slice HO276.out
   (first | subst eo40 | (injection eo40 with f1_ f2_ f3_; have f4_ := f1_.symm; have f5_ := f3_.symm; clear f1_ f2_ f3_; subst f4_; subst f5_))
   refine hK.out _ _ ⟨(blk_cell BK252.out 0).trans rfl, (blk_cell BK252.out 1).trans rfl, (blk_cell BK252.out 2).trans rfl, (blk_cell BK252.out 3).trans rfl, (blk_cell BK252.out 4).trans rfl, (blk_cell BK262.out 0).trans rfl, (blk_cell BK262.out 1).trans rfl, (blk_cell BK262.out 2).trans rfl, ((HB.out.cell (World.block_lt_of_cell? w _ hw270_0)).trans hw270_0), ((HB.out.cell (World.block_lt_of_cell? w _ hw270_1)).trans hw270_1), ((HB.out.cell (World.block_lt_of_cell? w _ hw270_2)).trans hw270_2), ((HB.out.cell (World.block_lt_of_cell? w _ hw270_3)).trans hw270_3), ((HB.out.cell (World.block_lt_of_cell? w _ hw270_4)).trans hw270_4)⟩ (fun hHeld => ?_)
   clear hK K
   refine norm_ (a' := ?_) ?_ ?_
   rotate_left
   ·show Act.put _ (some 45) _ = _
    simp only [Act.put, List.setIfInBounds_toArray, List.set_cons_zero, List.set_cons_succ, i64_w, i32_w]
    rfl
   refine one_ (i := 10) (N := some 46) #[true, true, true, true, true, true, true, true, true, true, true, false] rfl rfl (one_of HT_.out (by kernel_rfl)) (by decide) (fun K hK => ?_)
   refine Kd.N_append_rows_step (Kd.slice 79 k79) (w0 := w) w.heap.size (by rfl) (.tmp 36) (.tmp 45) 40 59 (.slice none 0 0) 24 rfl Try.underlying40 info59 rfl (by decide) (by omega) u5 x5_1 t274 _ _ _ (fun k_ => (P1_ k_ ∨ w.heap.size ≤ k_) ∧ k_ ≠ gb252 ∧ k_ ≠ gb262) (fun k_ => ((fun k_ => (P1_ k_ ∨ w.heap.size ≤ k_) ∧ k_ ≠ gb252 ∧ k_ ≠ gb262)) k_ ∧ some k_ ≠ (u5 : Value).ownBlock) rfl rfl ?aO ?aR (fun _ hk => hk) ?aF ?aB ?aS ?aL ?_
   (case aR => exact (by skip; exact Kd.N_F (Kd.N_mono (ok' := (fun k_ => ((fun k_ => (P1_ k_ ∨ w.heap.size ≤ k_) ∧ k_ ≠ gb252 ∧ k_ ≠ gb262)) k_ ∧ some k_ ≠ (u5 : Value).ownBlock)) (HO276.out) (fun k_ hk => ⟨⟨hk.1, ⟨hk.2.2.1, hk.2.2.2⟩⟩, hk.2.1⟩))))
   (case aB => exact bw)
   (case aF => exact (fun k_ hk => ⟨(.inr (Nat.le_trans (bzz w) hk)), Kd.freshB (g := gb252) (o := .cells #[.int .i64 a0_0, .int .i64 a0_1, .slice A0_2 l0_2.length c0_2, .slice (some ad266) l0_3.length c0_3, .slice (some ad270) l0_4.length c0_4] 30 (0, 0)) (by (with_reducible repeat (first | refine blk_drewN ?_ _ | refine blk_drew ?_ | refine blk_alloc ?_ _)); exact BK252.out) k_ hk, Kd.freshB (g := gb262) (o := .cells #[.int .i64 0, .slice Ao32 y267.length co32, .int .i64 0] 79 (0, 0)) (by (with_reducible repeat (first | refine blk_drewN ?_ _ | refine blk_drew ?_ | refine blk_alloc ?_ _)); exact BK262.out) k_ hk⟩))
   (case aO => exact (by (with_reducible repeat (first | apply Kd.N_alloc | apply Kd.N_drewN | apply Kd.N_drew)); exact Kd.N_mono HO_5.out (fun _ hk => ⟨hk.1.1.1, ⟨hk.1.1.2.2.1, hk.1.1.2.2.2⟩⟩)))
   (case aS => exact (bzz w))
   (case aL => have := LMc22.out; omega)
   intro v278 w39 ho hb hg hat
   rw [← Ny277.out] at ho
   replace HO_1 := Aside0.mk (Kd.V_afterv (ok := (fun k_ => (P1_ k_ ∨ w.heap.size ≤ k_) ∧ some k_ ≠ (.slice Ao32 y267.length co32 : Value).ownBlock ∧ some k_ ≠ (.slice Ao37 t271.length co37 : Value).ownBlock ∧ some k_ ≠ (.slice Ao40 t274.length co40 : Value).ownBlock ∧ k_ ≠ gb252 ∧ k_ ≠ gb262)) (by (with_reducible repeat (first | apply Kd.V_alloc | apply Kd.V_drewN | apply Kd.V_drew)); exact Kd.V_mono HO_1.out (fun _ hk => ⟨⟨hk.1.1.1, ⟨hk.1.1.2.2.1, ⟨hk.1.2, ⟨hk.2, ⟨hk.1.1.2.2.2.1, hk.1.1.2.2.2.2⟩⟩⟩⟩⟩, hk.1.1.2.1⟩)) hg hat)
   replace BK252 := Aside0.mk (blk_grown (g := gb252) (o := .cells #[.int .i64 a0_0, .int .i64 a0_1, .slice A0_2 l0_2.length c0_2, .slice (some ad266) l0_3.length c0_3, .slice (some ad270) l0_4.length c0_4] 30 (0, 0)) (by (with_reducible repeat (first | refine blk_drewN ?_ _ | refine blk_drew ?_ | refine blk_alloc ?_ _)); exact BK252.out) hg (Kd.N_ne HO_5.out BK252.out (by decide)))
   replace BK262 := Aside0.mk (blk_grown (g := gb262) (o := .cells #[.int .i64 0, .slice Ao32 y267.length co32, .int .i64 0] 79 (0, 0)) (by (with_reducible repeat (first | refine blk_drewN ?_ _ | refine blk_drew ?_ | refine blk_alloc ?_ _)); exact BK262.out) hg (Kd.N_ne HO_5.out BK262.out (by decide)))
   replace HO269 := Aside0.mk (Kd.R_over' (by (with_reducible repeat (first | apply Kd.R_alloc | apply Kd.R_drewN | apply Kd.R_drew)); exact HO269.out) (Kd.N_typed (by (with_reducible repeat (first | apply Kd.N_alloc | apply Kd.N_drewN | apply Kd.N_drew)); exact HO_5.out)) (by decide) hg)
   replace HO273 := Aside0.mk (Kd.N_afterv (ok := (fun k_ => (P1_ k_ ∨ w.heap.size ≤ k_) ∧ some k_ ≠ (.slice Ao40 t274.length co40 : Value).ownBlock ∧ k_ ≠ gb252 ∧ k_ ≠ gb262)) (by (with_reducible repeat (first | apply Kd.N_alloc | apply Kd.N_drewN | apply Kd.N_drew)); exact Kd.N_mono HO273.out (fun _ hk => ⟨⟨hk.1.1, ⟨hk.2, ⟨hk.1.2.2.1, hk.1.2.2.2⟩⟩⟩, hk.1.2.1⟩)) hg hat)
   replace HO276 := Aside0.mk (Kd.N_afterv (ok := (fun k_ => (P1_ k_ ∨ w.heap.size ≤ k_) ∧ k_ ≠ gb252 ∧ k_ ≠ gb262)) (by (with_reducible repeat (first | apply Kd.N_alloc | apply Kd.N_drewN | apply Kd.N_drew)); exact Kd.N_mono HO276.out (fun _ hk => ⟨⟨hk.1, ⟨hk.2.2.1, hk.2.2.2⟩⟩, hk.2.1⟩)) hg hat)
   replace HB := Bw.mk (w := w) (hb)
   have HO279 := Aside0.mk (ho)
   clear HO_5
   clear ho hb hg hat
   refine hK.out _ _ ⟨(blk_cell BK252.out 0).trans rfl, (blk_cell BK252.out 1).trans rfl, (blk_cell BK252.out 2).trans rfl, (blk_cell BK252.out 3).trans rfl, (blk_cell BK252.out 4).trans rfl, (blk_cell BK262.out 0).trans rfl, (blk_cell BK262.out 1).trans rfl, (blk_cell BK262.out 2).trans rfl, ((HB.out.cell (World.block_lt_of_cell? w _ hw270_0)).trans hw270_0), ((HB.out.cell (World.block_lt_of_cell? w _ hw270_1)).trans hw270_1), ((HB.out.cell (World.block_lt_of_cell? w _ hw270_2)).trans hw270_2), ((HB.out.cell (World.block_lt_of_cell? w _ hw270_3)).trans hw270_3), ((HB.out.cell (World.block_lt_of_cell? w _ hw270_4)).trans hw270_4)⟩ (fun hHeld => ?_)
   clear hK K
   refine norm_ (a' := ?_) ?_ ?_
   rotate_left
   ·show Act.put _ (some 46) _ = _
    simp only [Act.put, List.setIfInBounds_toArray, List.set_cons_zero, List.set_cons_succ, i64_w, i32_w]
    rfl
   refine pure_ (i := 11) (N := some 5) (v := ?_) (a' := ?_) #[true, true, true, true, true, true, true, true, true, true, true, true] rfl rfl (any_of HT_.out (by kernel_rfl)) (fun _ _ _ h => h) (Or.inl ⟨by rfl, ?_⟩) ?_ ?_
   rotate_left
   ·intro w'
    go_simp
    with_reducible rfl
   rotate_left
   ·simp only [Act.put, List.setIfInBounds_toArray, List.set_cons_zero, List.set_cons_succ, i64_w, i32_w]
    rfl
   refine done_ (done_of HT_.out (by kernel_rfl)) ?_
   try go_wp2
   go_roundg k1
   case measure => have := HK1.out; omega
   case rel => exact ⟨(y277), (wrap64 (x6_1 + 1)), (by first | rfl | (simp; done) | (simp [*]; done)), H', ⟨by have := HK1.out; omega⟩, ⟨by (with_reducible repeat (first | apply Kd.V_alloc | apply Kd.V_drewN | apply Kd.V_drew)); exact Kd.V_mono HO_1.out (fun _ hk => ⟨hk.1.1, ⟨hk.2, hk.1.2.2.2.2.1⟩⟩)⟩, ⟨by (with_reducible repeat (first | apply Kd.N_alloc | apply Kd.N_drewN | apply Kd.N_drew)); exact Kd.N_mono HO279.out (fun _ hk => ⟨hk.1, hk.2.1⟩)⟩, ⟨by (with_reducible repeat (first | refine blk_drewN ?_ _ | refine blk_drew ?_ | refine blk_alloc ?_ _)); exact BK252.out⟩, ⟨bw⟩⟩

end Go.Proofs.Ytenpjddjmhjdoaa.PFnExactLeaves
