/- What the law reaches: each function as a plain Lean function, and that each call comes to it. No condition. -/
import Derived.Test.YtmigpeaiepdmbaaDoorPFnExactPathTextx0
import Derived.Test.YtmigpeaiepdmbaaDoorPFnExactPathTextx5
namespace Go.Proofs.YtmigpeaiepdmbaaDoor.PFnExactPathText
open Go.RowKit Go.Proofs.YtmigpeaiepdmbaaDoorW.PrintWords Go.Proofs.YtmigpeaiepdmbaaDoorW.PrintLast Go.Proofs.YtmigpeaiepdmbaaDoorW.PrintMore Go.Proofs.YtmigpeaiepdmbaaDoor.M
attribute [local go_sem] max2_int min2_int max_two min_two max_three min_three max_four min_four Go.Proofs.YtmigpeaiepdmbaaDoor.M.str_gtr Go.Proofs.YtmigpeaiepdmbaaDoor.M.str_leq Go.Proofs.YtmigpeaiepdmbaaDoor.M.str_geq   -- for this text's walks alone
set_option linter.unusedVariables false
set_option linter.unusedSimpArgs false

theorem rkeptB {α : Type} {d : Kd α} {e base : Nat} {ok S : Nat → Prop} {W W2 : World} {v : Value} {xs : List α} (h : d.R e W base ok v xs) (hk : Kept W W2 S) (hne : ∀ k, ok k → ¬ S k) : d.R e W2 base (fun k => ok k ∧ (¬ S k ∧ k < W.heap.size)) v xs :=
  Kd.R_move (Kd.R_mono (Kd.R_bound h) (fun k hk2 => (⟨hk2.1, hne k hk2.1, hk2.2.2.1⟩ : ok k ∧ (¬ S k ∧ k < W.heap.size)))) (fun k hk2 => hk.2 k hk2.2.2 hk2.2.1)
/-! ### impl_pathText: function 28 -/
def impl_pathText.l0 : Nat → List Int → List (S43) → Int → Int → Option (List Int)
 | 0, _, _, _, _ => none
 | k + 1, x3, x7, x8, x9 => if x9 < x8 then (if 0 ≤ x9 then (if x9 < (x7.length : Int) then (if ((rd_T43 x7 x9).f0) = 0 then ((some (([46] : List Int) : List Int)).bind fun y237 => (if x3.length + y237.length < 140737488355328 then ((some (x3 ++ y237 : List Int)).bind fun y240 => (if y240.length + ((rd_T43 x7 x9).f1).length < 140737488355328 then (impl_pathText.l0 k (y240 ++ ((rd_T43 x7 x9).f1)) x7 x8 (wrap64 (x9 + 1))) else (none))) else (none))) else ((some (([91] : List Int) : List Int)).bind fun y246 => (if x3.length + y246.length < 140737488355328 then ((strconv_AppendInt_21.f (x3 ++ y246) ((rd_T43 x7 x9).f2) 10).bind fun t252 => ((some (([93] : List Int) : List Int)).bind fun y255 => (if t252.length + y255.length < 140737488355328 then (impl_pathText.l0 k (t252 ++ y255) x7 x8 (wrap64 (x9 + 1))) else (none)))) else (none)))) else (none)) else (none)) else (some x3)
def impl_pathText.f (k : Nat) (l0 : List (S43)) : Option (List Int) := impl_pathText.l0 k (([] : List Int)) l0 (l0.length : Int) 0
theorem impl_pathText.mono_l : ∀ k, (∀ y0 y1 y2 y3, LeO (impl_pathText.l0 k y0 y1 y2 y3) (impl_pathText.l0 (k + 1) y0 y1 y2 y3))
 | 0 => fun _ _ _ _ r h => by simp [impl_pathText.l0] at h
 | k + 1 => by
  have ih0 := impl_pathText.mono_l k
  ·intro y0 y1 y2 y3
   unfold impl_pathText.l0
   repeat' first
   | (with_reducible exact ih0 _ _ _ _)
   | (with_reducible exact LeO.refl _)
   | (with_reducible exact LeO.none _)
   | (with_reducible refine LeO.ite ?_ ?_)
   | (with_reducible refine LeO.bind ?_ (fun _ => ?_))
   | exact ih0 _ _ _ _
   | exact LeO.none _
   | refine LeO.ite ?_ ?_
   | refine LeO.bind ?_ (fun _ => ?_)
theorem impl_pathText.mono : ∀ a0 k, LeO (impl_pathText.f k a0) (impl_pathText.f (k + 1) a0) := by
 intro a0 k
 have ih0 := impl_pathText.mono_l k
 unfold impl_pathText.f
 repeat' first
   | (with_reducible exact ih0 _ _ _ _)
   | (with_reducible exact LeO.refl _)
   | (with_reducible exact LeO.none _)
   | (with_reducible refine LeO.ite ?_ ?_)
   | (with_reducible refine LeO.bind ?_ (fun _ => ?_))
   | exact ih0 _ _ _ _
   | exact LeO.none _
   | refine LeO.ite ?_ ?_
   | refine LeO.bind ?_ (fun _ => ?_)
def impl_pathText.T7 : Bool × List (List Nat × List Nat) := (true, [([], []), ([], []), ([0, 1], [0, 1]), ([], []), ([3], [3]), ([2, 4, 2], [2, 4]), ([], []), ([5, 6, 5], [5, 6]), ([7, 7, 0, 1, 2, 3, 4, 5, 6, 7], [0, 7])])
def impl_pathText.B7 : List Nat := [0, 0, 3, 0, 8, 31, 0, 127, 255]
theorem impl_pathText.tab7 : rtab .any (opsOf Tryd.f28 7) = impl_pathText.T7 := by kernel_rfl
theorem impl_pathText.bits7 : waitsOk impl_pathText.T7.2 impl_pathText.B7 = true := by kernel_rfl
set_option maxHeartbeats 8000000 in
set_option maxRecDepth 100000 in
theorem impl_pathText.calls (k : Nat) (A0 : Option Addr) (c0 : Nat) (l0 : List (S43)) (r : List Int) (w : World) (hr0 : Kd.C k43 w A0 l0.length l0) (hc0 : l0.length ≤ c0) (h : impl_pathText.f k l0 = some r) :
  Calls Tryd.prog 28 #[.slice A0 l0.length c0] w fun e w' => ∃ v0_ : Value, e = .returned (v0_) ∧ Kd.R (Kd.int .u8) 5 w' w.heap.size (fun _ => True) v0_ r ∧ Below w.heap.size w w' := by
 have hu43 := Tryd.underlying43
 have HR0 := Aside0.mk hr0
 have HC0 := Aside0.mk hc0
 clear hr0 hc0
 have HB := Bw.refl w
 have H : (impl_pathText.l0 k (([] : List Int)) l0 (l0.length : Int) 0) = some r := h
 clear h
 obtain ⟨y232, hy232⟩ : ∃ y_ : List Int, y_ = (([] : List Int)) := ⟨_, rfl⟩
 replace H : (impl_pathText.l0 k y232 l0 (l0.length : Int) 0) = some r := by first | (rw [hy232]; with_reducible exact H) | (have H2_ := (Option.bind_some _ _).symm.trans H; rw [hy232]; with_reducible exact H2_) | (have H2_ := (Option.bind_some _ _).symm.trans H; with_reducible exact H2_) | with_reducible exact H | (rw [hy232]; exact H) | exact H
 have Ny232 := Aside0.mk hy232
 clear hy232
 have H' := Aside0.mk H
 clear H
 go_enter Tryd.func28, Tryd.ntmps28
 go_wp2_with (first | ((with_reducible refine gate_dst (N := 6) rfl ?_); refine Kd.R_lit (Kd.int .u8) _ 5 ?hg (N := 6) ?hd (xs := ([] : List Int)) (inner := []) (ok := fun _ => True) (okp := fun _ => True) ?hr ?hp (fun _ hk => hk) trivial (Below.refl _ _) (Nat.le_refl _) (by simp) ?_; (case hd => rfl); (case hg => rfl); (case hr => first | (go_simp; done) | (go_simp; rfl)); (case hp => exact (Reps.none _ _)); intro v233 w2 ho3 hb hg_ hnew_; clear hg_ hnew_; (first | rw [← Ny232.out] at ho3 | (simp only [Int.reduceToNat] at ho3; rw [← Ny232.out] at ho3)); have HO234 := Aside0.mk (Kd.R_lower ho3 (bzz w)); replace HB := (Bw.sw w hb); clear hb ho3))
 go_loopg [3, 9] k (fun kq v3 v9 w' => ∃ (x3_1 : List Int) (x9_1 : Int), v9 = .int .i64 x9_1 ∧ Aside0 (impl_pathText.l0 kq x3_1 l0 (l0.length : Int) x9_1 = some r) ∧ Aside0 (kq ≤ k) ∧ Aside0 (Kd.R (Kd.int .u8) 5 w' w.heap.size (fun _ => True) v3 x3_1) ∧ Bw w w')
 case atStart => exact ⟨(y232), (0), (by first | rfl | (simp; done) | (simp [*]; done)), H', ⟨Nat.le_refl _⟩, ⟨by (with_reducible repeat (first | apply Kd.R_alloc | apply Kd.R_drewN | apply Kd.R_drew)); exact HO234.out⟩, ⟨bw⟩⟩
 case round =>
  as_aux_lemma =>
  clear H'
  obtain ⟨x3_1, x9_1, rfl, HA, HK1, HO_3, HB⟩ := hrel
  cases gk with
  | zero => exact absurd HA.out (by simp [impl_pathText.l0])
  | succ k1 =>
   have H := HA.out
   clear HA
   simp only [impl_pathText.l0] at H
   by_cases c4 : x9_1 < (l0.length : Int)
   ·as_aux_lemma =>
    rw [if_pos c4] at H
    have c4b0 : decide (x9_1 < (l0.length : Int)) = true := decide_eq_true c4
    clear c4
    by_cases c5 : 0 ≤ x9_1
    ·as_aux_lemma =>
     rw [if_pos c5] at H
     have c5b0 : decide (0 ≤ x9_1) = true := decide_eq_true c5
     clear c5
     by_cases c6 : x9_1 < (l0.length : Int)
     ·as_aux_lemma =>
      rw [if_pos c6] at H
      have c6b0 : decide (x9_1 < (l0.length : Int)) = true := decide_eq_true c6
      clear c6
      by_cases c7 : ((rd_T43 l0 x9_1).f0) = 0
      ·as_aux_lemma =>
       rw [if_pos c7] at H
       have c7b0 : (((rd_T43 l0 x9_1).f0) == 0) = true := beq_iff_eq.mpr c7
       have c7b1 : (((rd_T43 l0 x9_1).f0) != 0) = false := bne_eq_false_iff_eq.mpr c7
       clear c7
       obtain ⟨y237, hy237⟩ : ∃ y_ : List Int, y_ = (([46] : List Int)) := ⟨_, rfl⟩
       replace H : (if x3_1.length + y237.length < 140737488355328 then ((some (x3_1 ++ y237 : List Int)).bind fun y240 => (if y240.length + ((rd_T43 l0 x9_1).f1).length < 140737488355328 then (impl_pathText.l0 k1 (y240 ++ ((rd_T43 l0 x9_1).f1)) l0 (l0.length : Int) (wrap64 (x9_1 + 1))) else (none))) else (none)) = some r := by first | (rw [hy237]; with_reducible exact H) | (have H2_ := (Option.bind_some _ _).symm.trans H; rw [hy237]; with_reducible exact H2_) | (have H2_ := (Option.bind_some _ _).symm.trans H; with_reducible exact H2_) | with_reducible exact H | (rw [hy237]; exact H) | exact H
       have Ny237 := Aside0.mk hy237
       clear hy237
       by_cases c8 : x3_1.length + y237.length < 140737488355328
       ·as_aux_lemma =>
        rw [if_pos c8] at H
        have LMc8 := Aside0.mk c8
        clear c8
        obtain ⟨y240, hy240⟩ : ∃ y_ : List Int, y_ = (x3_1 ++ y237) := ⟨_, rfl⟩
        replace H : (if y240.length + ((rd_T43 l0 x9_1).f1).length < 140737488355328 then (impl_pathText.l0 k1 (y240 ++ ((rd_T43 l0 x9_1).f1)) l0 (l0.length : Int) (wrap64 (x9_1 + 1))) else (none)) = some r := by first | (rw [hy240]; with_reducible exact H) | (have H2_ := (Option.bind_some _ _).symm.trans H; rw [hy240]; with_reducible exact H2_) | (have H2_ := (Option.bind_some _ _).symm.trans H; with_reducible exact H2_) | with_reducible exact H | (rw [hy240]; exact H) | exact H
        have Ny240 := Aside0.mk hy240
        clear hy240
        by_cases c9 : y240.length + ((rd_T43 l0 x9_1).f1).length < 140737488355328
        ·as_aux_lemma =>
         rw [if_pos c9] at H
         have LMc9 := Aside0.mk c9
         clear c9
         obtain ⟨y243, hy243⟩ : ∃ y_ : List Int, y_ = (y240 ++ ((rd_T43 l0 x9_1).f1)) := ⟨_, rfl⟩
         replace H : (impl_pathText.l0 k1 y243 l0 (l0.length : Int) (wrap64 (x9_1 + 1))) = some r := by first | (rw [hy243]; with_reducible exact H) | (have H2_ := (Option.bind_some _ _).symm.trans H; rw [hy243]; with_reducible exact H2_) | (have H2_ := (Option.bind_some _ _).symm.trans H; with_reducible exact H2_) | with_reducible exact H | (rw [hy243]; exact H) | exact H
         have Ny243 := Aside0.mk hy243
         clear hy243
         have H' := Aside0.mk H
         clear H
         have p235 : 0 ≤ (x9_1 : Int) := of_decide_eq_true (by first | (with_reducible assumption) | assumption)
         have q235 : x9_1 < (l0.length : Int) := of_decide_eq_true (by first | (with_reducible assumption) | assumption)
         obtain ⟨ad235, A235_1, c235_1, e235, hx235_0, hx235_1, hx235_2, hl235_1, hi235_1⟩ := at_T43 HR0.out x9_1 p235 q235
         cases e235
         replace hx235_0 := (HB.out.cell (World.block_lt_of_cell? w _ hx235_0)).trans hx235_0
         replace hx235_1 := (HB.out.cell (World.block_lt_of_cell? w _ hx235_1)).trans hx235_1
         replace hx235_2 := (HB.out.cell (World.block_lt_of_cell? w _ hx235_2)).trans hx235_2
         have HR235_1 := Aside0.mk hi235_1
         have HC235_1 := Aside0.mk hl235_1
         clear hi235_1 hl235_1
         replace p235 := eq_true p235
         replace q235 := eq_true q235
         try go_wp2_with (first | ((with_reducible refine gate_dst (N := 5) rfl ?_); refine box_event rfl (N := 5) rfl (cs := #[.int .i64 0, .slice none 0 0, .int .i64 0]) (t := 43) (by go_simp <;> rfl) ?_; intro gb236 hg w10 hbox hb; replace HO_3 := Aside0.mk (Kd.R_below (by (with_reducible repeat (first | apply Kd.R_alloc | apply Kd.R_drewN | apply Kd.R_drew)); exact HO_3.out) hb); have BK236 := Aside0.mk (hbox); have GE236 := (Ge.of hg : Ge w.heap.size gb236); replace HB := (Bw.sw w hb); clear hb hbox hg; obtain ⟨hcz11_0, hcz11_1, hcz11_2, hfz11_0, hfz11_1, hfz11_2⟩ := blk3 BK236.out))
         have n0_ : Aside0 (Kd.R (Kd.int .u8) 5 (((w10.setCell ⟨gb236, 0, none⟩ (.int .i64 ((rd_T43 l0 x9_1).f0))).setCell ⟨gb236, 1, none⟩ (.slice A235_1 ((rd_T43 l0 x9_1).f1).length c235_1)).setCell ⟨gb236, 2, none⟩ (.int .i64 ((rd_T43 l0 x9_1).f2))) w.heap.size (fun _ => True) u3 x3_1) := ⟨by (with_reducible repeat (first | apply Kd.R_alloc | apply Kd.R_drewN | apply Kd.R_drew)); exact Kd.R_mono (Kd.R_far (p := ⟨gb236, 2, none⟩) (Kd.R_far (p := ⟨gb236, 1, none⟩) (Kd.R_far (p := ⟨gb236, 0, none⟩) (Kd.R_types HO_3.out BK236.out (by decide)) (fun _ hk => hk.2) (.int .i64 ((rd_T43 l0 x9_1).f0))) (fun _ hk => hk.2) (.slice A235_1 ((rd_T43 l0 x9_1).f1).length c235_1)) (fun _ hk => hk.2) (.int .i64 ((rd_T43 l0 x9_1).f2))) (fun _ hk => trivial)⟩
         have n1_ : Aside0 ((((w10.setCell ⟨gb236, 0, none⟩ (.int .i64 ((rd_T43 l0 x9_1).f0))).setCell ⟨gb236, 1, none⟩ (.slice A235_1 ((rd_T43 l0 x9_1).f1).length c235_1)).setCell ⟨gb236, 2, none⟩ (.int .i64 ((rd_T43 l0 x9_1).f2))).heap[gb236]? = some (.cells #[.int .i64 ((rd_T43 l0 x9_1).f0), .slice A235_1 ((rd_T43 l0 x9_1).f1).length c235_1, .int .i64 ((rd_T43 l0 x9_1).f2)] 43 (0, 0))) := ⟨by (with_reducible repeat (first | refine blk_drewN ?_ _ | refine blk_drew ?_ | refine blk_alloc ?_ _)); refine blk_put (cs := #[.int .i64 ((rd_T43 l0 x9_1).f0), .slice A235_1 ((rd_T43 l0 x9_1).f1).length c235_1, .int .i64 0]) ?_ 2 _ rfl; (with_reducible repeat (first | refine blk_drewN ?_ _ | refine blk_drew ?_ | refine blk_alloc ?_ _)); refine blk_put (cs := #[.int .i64 ((rd_T43 l0 x9_1).f0), .slice none 0 0, .int .i64 0]) ?_ 1 _ rfl; (with_reducible repeat (first | refine blk_drewN ?_ _ | refine blk_drew ?_ | refine blk_alloc ?_ _)); refine blk_put (cs := #[.int .i64 0, .slice none 0 0, .int .i64 0]) ?_ 0 _ rfl; (with_reducible repeat (first | refine blk_drewN ?_ _ | refine blk_drew ?_ | refine blk_alloc ?_ _)); exact BK236.out⟩
         have n2_ : Aside0 (Below w.heap.size w (((w10.setCell ⟨gb236, 0, none⟩ (.int .i64 ((rd_T43 l0 x9_1).f0))).setCell ⟨gb236, 1, none⟩ (.slice A235_1 ((rd_T43 l0 x9_1).f1).length c235_1)).setCell ⟨gb236, 2, none⟩ (.int .i64 ((rd_T43 l0 x9_1).f2)))) := ⟨bw⟩
         (try clear HO_3)
         (try clear BK236)
         (try clear HB)
         generalize (((w10.setCell ⟨gb236, 0, none⟩ (.int .i64 ((rd_T43 l0 x9_1).f0))).setCell ⟨gb236, 1, none⟩ (.slice A235_1 ((rd_T43 l0 x9_1).f1).length c235_1)).setCell ⟨gb236, 2, none⟩ (.int .i64 ((rd_T43 l0 x9_1).f2))) = w12 at n0_ n1_ n2_ ⊢
         have HO_3 := n0_
         have BK236 := n1_
         have HB := Bw.mk (w := w) n2_.out
         clear n0_ n1_ n2_
         replace HO_3 := Aside0.mk (Kd.R_drew HO_3.out)
         replace BK236 := Aside0.mk (blk_drew BK236.out)
         replace HB := Bw.mk (w := w) (below_drew1 HB.out)
         refine start_ (n := 7) (S := fun w' => w'.cell? ⟨gb236, 0, none⟩ = some (.int .i64 ((rd_T43 l0 x9_1).f0)) ∧ w'.cell? ⟨gb236, 1, none⟩ = some (.slice A235_1 ((rd_T43 l0 x9_1).f1).length c235_1) ∧ w'.cell? ⟨gb236, 2, none⟩ = some (.int .i64 ((rd_T43 l0 x9_1).f2))) (ds := []) #[false, false, false, false, false, false, false] (by kernel_rfl) rfl rfl ⟨(blk_cell BK236.out 0).trans rfl, (blk_cell BK236.out 1).trans rfl, (blk_cell BK236.out 2).trans rfl⟩ (fun hHeld => ?_)
         generalize w12.drew = w13 at HO_3 BK236 HB hHeld ⊢
         refine pure_ (i := 0) (N := some 16) (v := ?_) (a' := ?_) #[true, false, false, false, false, false, false] rfl rfl (by kernel_rfl) (fun _ _ _ h => h) (Or.inl ⟨by rfl, ?_⟩) ?_ ?_
         rotate_left
         ·intro w'
          go_simp
          with_reducible rfl
         rotate_left
         ·simp only [Act.put, List.setIfInBounds_toArray, List.set_cons_zero, List.set_cons_succ, i64_w, i32_w]
          rfl
         refine pure_ (i := 3) (N := some 19) (v := ?_) (a' := ?_) #[true, false, false, true, false, false, false] rfl rfl (by kernel_rfl) (fun _ _ _ h => h) (Or.inl ⟨by rfl, ?_⟩) ?_ ?_
         rotate_left
         ·intro w'
          go_simp
          with_reducible rfl
         rotate_left
         ·simp only [Act.put, List.setIfInBounds_toArray, List.set_cons_zero, List.set_cons_succ, i64_w, i32_w]
          rfl
         refine take_ (i := 4) (N := some 20) (v := ?_) (a' := ?_) #[true, false, false, true, true, false, false] rfl rfl (by kernel_rfl) (fun _ _ _ h => h) (Or.inl ⟨by rfl, ?_⟩) hHeld ?_ ?_
         rotate_left
         ·rintro w' ⟨s0, s1, s2⟩
          go_simp
          with_reducible rfl
         rotate_left
         ·simp only [Act.put, List.setIfInBounds_toArray, List.set_cons_zero, List.set_cons_succ, i64_w, i32_w]
          rfl
         refine one_ (i := 1) (N := some 17) #[true, true, false, true, true, false, false] rfl rfl (by kernel_rfl) (by decide) (fun K hK => ?_)
         refine Kd.R_lit_step (Kd.int .u8) _ 5 ?hg (N := 17) ?hd (xs := ([46] : List Int)) (inner := [.int .u8 46]) (ok := fun _ => True) (okp := fun _ => True) ?hr ?hp (fun _ hk => hk) trivial (Below.refl _ _) (Nat.le_refl _) (by simp) ?_; (case hd => rfl); (case hg => rfl); (case hr => first | (go_simp; done) | (go_simp; rfl)); (case hp => exact (Reps.one (show Kd.M (Kd.int .u8) _ _ _ 46 [.int .u8 46] from rfl) (Reps.none _ _)))
         intro v238 w14 ho15 hb hg_ hnew_
         clear hg_ hnew_
         (first | rw [← Ny237.out] at ho15 | (simp only [Int.reduceToNat] at ho15; rw [← Ny237.out] at ho15))
         have HO239 := Aside0.mk (Kd.R_lower (Kd.R_new' ho15 (Kd.R_lt (by (with_reducible repeat (first | apply Kd.R_alloc | apply Kd.R_drewN | apply Kd.R_drew)); exact HO_3.out))) (bzz w))
         replace HO_3 := Aside0.mk (Kd.R_elder' (by (with_reducible repeat (first | apply Kd.R_alloc | apply Kd.R_drewN | apply Kd.R_drew)); exact HO_3.out) (Kd.R_base ho15) hb)
         replace BK236 := Aside0.mk (blk_below (g := gb236) (o := .cells #[.int .i64 ((rd_T43 l0 x9_1).f0), .slice A235_1 ((rd_T43 l0 x9_1).f1).length c235_1, .int .i64 ((rd_T43 l0 x9_1).f2)] 43 (0, 0)) (by (with_reducible repeat (first | refine blk_drewN ?_ _ | refine blk_drew ?_ | refine blk_alloc ?_ _)); exact BK236.out) hb)
         replace HB := (Bw.sw w hb)
         clear hb ho15
         obtain ⟨Ao17, co17, eo17⟩ := Kd.R_slice HO239.out
         (first | subst eo17 | (injection eo17 with f1_ f2_ f3_; have f4_ := f1_.symm; have f5_ := f3_.symm; clear f1_ f2_ f3_; subst f4_; subst f5_))
         refine hK.out _ _ ⟨(blk_cell BK236.out 0).trans rfl, (blk_cell BK236.out 1).trans rfl, (blk_cell BK236.out 2).trans rfl⟩ (fun hHeld => ?_)
         clear hK K
         refine norm_ (a' := ?_) ?_ ?_
         rotate_left
         ·show Act.put _ (some 17) _ = _
          simp only [Act.put, List.setIfInBounds_toArray, List.set_cons_zero, List.set_cons_succ, i64_w, i32_w]
          rfl
         refine one_ (i := 2) (N := some 18) #[true, true, true, true, true, false, false] rfl rfl (by kernel_rfl) (by decide) (fun K hK => ?_)
         refine Kd.R_append_rows_step (Kd.int .u8) (w0 := w) w.heap.size (by rfl) (.tmp 16) (.tmp 17) 22 5 (.int .u8 0) 1 rfl Tryd.underlying22 info5 rfl (by decide) (by omega) u3 x3_1 y237 _ _ _ (fun k_ => some k_ ≠ (.slice Ao17 y237.length co17 : Value).ownBlock) (fun _ => False) rfl rfl ?aO ?aR (fun _ _ h => h) (fun _ h => h.elim) ?aF ?aB ?aS ?aL ?_
         (case aR => repeat (first | exact (Kd.R_reads' HO239.out).2.2 | (with_reducible refine Kd.C_alloc ?_ _) | (with_reducible refine Kd.C_drewN ?_ _) | (with_reducible refine Kd.C_drew ?_)))
         (case aB => exact bw)
         (case aF => exact (fun k_ hk => Kd.fresh' (Kd.R_lt (by (with_reducible repeat (first | apply Kd.R_alloc | apply Kd.R_drewN | apply Kd.R_drew)); exact HO239.out)) k_ hk))
         (case aO => exact (by (with_reducible repeat (first | apply Kd.R_alloc | apply Kd.R_drewN | apply Kd.R_drew)); exact Kd.R_mono HO_3.out (fun _ hk => hk.2)))
         (case aS => exact (bzz w))
         (case aL => have := LMc8.out; omega)
         intro v241 w16 ho hb hg hat
         rw [← Ny240.out] at ho
         replace BK236 := Aside0.mk (blk_grown (g := gb236) (o := .cells #[.int .i64 ((rd_T43 l0 x9_1).f0), .slice A235_1 ((rd_T43 l0 x9_1).f1).length c235_1, .int .i64 ((rd_T43 l0 x9_1).f2)] 43 (0, 0)) (by (with_reducible repeat (first | refine blk_drewN ?_ _ | refine blk_drew ?_ | refine blk_alloc ?_ _)); exact BK236.out) hg (Kd.R_ne HO_3.out BK236.out (by decide)))
         replace HO239 := Aside0.mk (Kd.R_after (ok := (fun _ => True)) (by (with_reducible repeat (first | apply Kd.R_alloc | apply Kd.R_drewN | apply Kd.R_drew)); exact HO239.out) hg hat)
         replace HB := Bw.mk (w := w) (hb)
         have HO242 := Aside0.mk (ho)
         clear HO_3
         clear ho hb hg hat
         refine hK.out _ _ ⟨(blk_cell BK236.out 0).trans rfl, (blk_cell BK236.out 1).trans rfl, (blk_cell BK236.out 2).trans rfl⟩ (fun hHeld => ?_)
         clear hK K
         refine norm_ (a' := ?_) ?_ ?_
         rotate_left
         ·show Act.put _ (some 18) _ = _
          simp only [Act.put, List.setIfInBounds_toArray, List.set_cons_zero, List.set_cons_succ, i64_w, i32_w]
          rfl
         refine one_ (i := 5) (N := some 21) #[true, true, true, true, true, true, false] rfl rfl (by kernel_rfl) (by decide) (fun K hK => ?_)
         refine Kd.R_append_rows_step (Kd.int .u8) (w0 := w) w.heap.size (by rfl) (.tmp 18) (.tmp 20) 22 5 (.int .u8 0) 1 rfl Tryd.underlying22 info5 rfl (by decide) (by omega) v241 y240 ((rd_T43 l0 x9_1).f1) _ _ _ (fun k_ => some k_ ≠ (.slice Ao17 y237.length co17 : Value).ownBlock) (fun _ => False) rfl rfl ?aO ?aR (fun _ _ h => h) (fun _ h => h.elim) ?aF ?aB ?aS ?aL ?_
         (case aR => repeat (first | exact (Kd.C_below HR235_1.out HB.out) | (with_reducible refine Kd.C_alloc ?_ _) | (with_reducible refine Kd.C_drewN ?_ _) | (with_reducible refine Kd.C_drew ?_)))
         (case aB => exact bw)
         (case aF => exact (fun k_ hk => Kd.fresh' (Kd.R_lt (by (with_reducible repeat (first | apply Kd.R_alloc | apply Kd.R_drewN | apply Kd.R_drew)); exact HO239.out)) k_ hk))
         (case aO => exact (by (with_reducible repeat (first | apply Kd.R_alloc | apply Kd.R_drewN | apply Kd.R_drew)); exact HO242.out))
         (case aS => exact (bzz w))
         (case aL => have := LMc9.out; omega)
         intro v244 w18 ho hb hg hat
         rw [← Ny243.out] at ho
         replace BK236 := Aside0.mk (blk_grown (g := gb236) (o := .cells #[.int .i64 ((rd_T43 l0 x9_1).f0), .slice A235_1 ((rd_T43 l0 x9_1).f1).length c235_1, .int .i64 ((rd_T43 l0 x9_1).f2)] 43 (0, 0)) (by (with_reducible repeat (first | refine blk_drewN ?_ _ | refine blk_drew ?_ | refine blk_alloc ?_ _)); exact BK236.out) hg (Kd.R_ne HO242.out BK236.out (by decide)))
         replace HO239 := Aside0.mk (Kd.R_after (ok := (fun _ => True)) (by (with_reducible repeat (first | apply Kd.R_alloc | apply Kd.R_drewN | apply Kd.R_drew)); exact HO239.out) hg hat)
         replace HB := Bw.mk (w := w) (hb)
         have HO245 := Aside0.mk (ho)
         clear HO242
         clear ho hb hg hat
         refine hK.out _ _ ⟨(blk_cell BK236.out 0).trans rfl, (blk_cell BK236.out 1).trans rfl, (blk_cell BK236.out 2).trans rfl⟩ (fun hHeld => ?_)
         clear hK K
         refine norm_ (a' := ?_) ?_ ?_
         rotate_left
         ·show Act.put _ (some 21) _ = _
          simp only [Act.put, List.setIfInBounds_toArray, List.set_cons_zero, List.set_cons_succ, i64_w, i32_w]
          rfl
         refine pure_ (i := 6) (N := some 3) (v := ?_) (a' := ?_) #[true, true, true, true, true, true, true] rfl rfl (by kernel_rfl) (fun _ _ _ h => h) (Or.inl ⟨by rfl, ?_⟩) ?_ ?_
         rotate_left
         ·intro w'
          go_simp
          with_reducible rfl
         rotate_left
         ·simp only [Act.put, List.setIfInBounds_toArray, List.set_cons_zero, List.set_cons_succ, i64_w, i32_w]
          rfl
         refine done_ (by kernel_rfl) ?_
         try go_wp2
         go_roundg k1
         case measure => have := HK1.out; omega
         case rel => exact ⟨(y243), (wrap64 (x9_1 + 1)), (by first | rfl | (simp; done) | (simp [*]; done)), H', ⟨by have := HK1.out; omega⟩, ⟨by (with_reducible repeat (first | apply Kd.R_alloc | apply Kd.R_drewN | apply Kd.R_drew)); exact Kd.R_mono HO245.out (fun _ hk => trivial)⟩, ⟨bw⟩⟩
        ·rw [if_neg c9] at H
         exact absurd H (by simp)
       ·rw [if_neg c8] at H
        exact absurd H (by simp)
      ·as_aux_lemma =>
       rw [if_neg c7] at H
       have c7b0 : (((rd_T43 l0 x9_1).f0) == 0) = false := beq_eq_false_iff_ne.mpr c7
       have c7b1 : (((rd_T43 l0 x9_1).f0) != 0) = true := bne_iff_ne.mpr c7
       obtain ⟨y246, hy246⟩ : ∃ y_ : List Int, y_ = (([91] : List Int)) := ⟨_, rfl⟩
       replace H : (if x3_1.length + y246.length < 140737488355328 then ((strconv_AppendInt_21.f (x3_1 ++ y246) ((rd_T43 l0 x9_1).f2) 10).bind fun t252 => ((some (([93] : List Int) : List Int)).bind fun y255 => (if t252.length + y255.length < 140737488355328 then (impl_pathText.l0 k1 (t252 ++ y255) l0 (l0.length : Int) (wrap64 (x9_1 + 1))) else (none)))) else (none)) = some r := by first | (rw [hy246]; with_reducible exact H) | (have H2_ := (Option.bind_some _ _).symm.trans H; rw [hy246]; with_reducible exact H2_) | (have H2_ := (Option.bind_some _ _).symm.trans H; with_reducible exact H2_) | with_reducible exact H | (rw [hy246]; exact H) | exact H
       have Ny246 := Aside0.mk hy246
       clear hy246
       by_cases c19 : x3_1.length + y246.length < 140737488355328
       ·as_aux_lemma =>
        rw [if_pos c19] at H
        have LMc19 := Aside0.mk c19
        clear c19
        obtain ⟨y249, hy249⟩ : ∃ y_ : List Int, y_ = (x3_1 ++ y246) := ⟨_, rfl⟩
        replace H : ((strconv_AppendInt_21.f y249 ((rd_T43 l0 x9_1).f2) 10).bind fun t252 => ((some (([93] : List Int) : List Int)).bind fun y255 => (if t252.length + y255.length < 140737488355328 then (impl_pathText.l0 k1 (t252 ++ y255) l0 (l0.length : Int) (wrap64 (x9_1 + 1))) else (none)))) = some r := by first | (rw [hy249]; with_reducible exact H) | (have H2_ := (Option.bind_some _ _).symm.trans H; rw [hy249]; with_reducible exact H2_) | (have H2_ := (Option.bind_some _ _).symm.trans H; with_reducible exact H2_) | with_reducible exact H | (rw [hy249]; exact H) | exact H
        have Ny249 := Aside0.mk hy249
        clear hy249
        replace H := Option.bind_eq_some_iff.mp H
        obtain ⟨t252, A200, H⟩ := H
        replace H : ((some (([93] : List Int) : List Int)).bind fun y255 => (if t252.length + y255.length < 140737488355328 then (impl_pathText.l0 k1 (t252 ++ y255) l0 (l0.length : Int) (wrap64 (x9_1 + 1))) else (none))) = some r := H
        have A20 := Aside0.mk A200
        clear A200
        obtain ⟨y255, hy255⟩ : ∃ y_ : List Int, y_ = (([93] : List Int)) := ⟨_, rfl⟩
        replace H : (if t252.length + y255.length < 140737488355328 then (impl_pathText.l0 k1 (t252 ++ y255) l0 (l0.length : Int) (wrap64 (x9_1 + 1))) else (none)) = some r := by first | (rw [hy255]; with_reducible exact H) | (have H2_ := (Option.bind_some _ _).symm.trans H; rw [hy255]; with_reducible exact H2_) | (have H2_ := (Option.bind_some _ _).symm.trans H; with_reducible exact H2_) | with_reducible exact H | (rw [hy255]; exact H) | exact H
        have Ny255 := Aside0.mk hy255
        clear hy255
        by_cases c21 : t252.length + y255.length < 140737488355328
        ·as_aux_lemma =>
         rw [if_pos c21] at H
         have LMc21 := Aside0.mk c21
         clear c21
         obtain ⟨y258, hy258⟩ : ∃ y_ : List Int, y_ = (t252 ++ y255) := ⟨_, rfl⟩
         replace H : (impl_pathText.l0 k1 y258 l0 (l0.length : Int) (wrap64 (x9_1 + 1))) = some r := by first | (rw [hy258]; with_reducible exact H) | (have H2_ := (Option.bind_some _ _).symm.trans H; rw [hy258]; with_reducible exact H2_) | (have H2_ := (Option.bind_some _ _).symm.trans H; with_reducible exact H2_) | with_reducible exact H | (rw [hy258]; exact H) | exact H
         have Ny258 := Aside0.mk hy258
         clear hy258
         have H' := Aside0.mk H
         clear H
         have p235 : 0 ≤ (x9_1 : Int) := of_decide_eq_true (by first | (with_reducible assumption) | assumption)
         have q235 : x9_1 < (l0.length : Int) := of_decide_eq_true (by first | (with_reducible assumption) | assumption)
         obtain ⟨ad235, A235_1, c235_1, e235, hx235_0, hx235_1, hx235_2, hl235_1, hi235_1⟩ := at_T43 HR0.out x9_1 p235 q235
         cases e235
         replace hx235_0 := (HB.out.cell (World.block_lt_of_cell? w _ hx235_0)).trans hx235_0
         replace hx235_1 := (HB.out.cell (World.block_lt_of_cell? w _ hx235_1)).trans hx235_1
         replace hx235_2 := (HB.out.cell (World.block_lt_of_cell? w _ hx235_2)).trans hx235_2
         have HR235_1 := Aside0.mk hi235_1
         have HC235_1 := Aside0.mk hl235_1
         clear hi235_1 hl235_1
         replace p235 := eq_true p235
         replace q235 := eq_true q235
         try go_wp2_with (first | ((with_reducible refine gate_dst (N := 5) rfl ?_); refine box_event rfl (N := 5) rfl (cs := #[.int .i64 0, .slice none 0 0, .int .i64 0]) (t := 43) (by go_simp <;> rfl) ?_; intro gb236 hg w22 hbox hb; replace HO_3 := Aside0.mk (Kd.R_below (by (with_reducible repeat (first | apply Kd.R_alloc | apply Kd.R_drewN | apply Kd.R_drew)); exact HO_3.out) hb); have BK236 := Aside0.mk (hbox); have GE236 := (Ge.of hg : Ge w.heap.size gb236); replace HB := (Bw.sw w hb); clear hb hbox hg; obtain ⟨hcz23_0, hcz23_1, hcz23_2, hfz23_0, hfz23_1, hfz23_2⟩ := blk3 BK236.out; obtain ⟨Ao24, co24, eo24⟩ := Kd.R_slice HO_3.out; subst eo24))
         have n0_ : Aside0 (Kd.R (Kd.int .u8) 5 (((w22.setCell ⟨gb236, 0, none⟩ (.int .i64 ((rd_T43 l0 x9_1).f0))).setCell ⟨gb236, 1, none⟩ (.slice A235_1 ((rd_T43 l0 x9_1).f1).length c235_1)).setCell ⟨gb236, 2, none⟩ (.int .i64 ((rd_T43 l0 x9_1).f2))) w.heap.size (fun _ => True) (.slice Ao24 x3_1.length co24) x3_1) := ⟨by (with_reducible repeat (first | apply Kd.R_alloc | apply Kd.R_drewN | apply Kd.R_drew)); exact Kd.R_mono (Kd.R_far (p := ⟨gb236, 2, none⟩) (Kd.R_far (p := ⟨gb236, 1, none⟩) (Kd.R_far (p := ⟨gb236, 0, none⟩) (Kd.R_types HO_3.out BK236.out (by decide)) (fun _ hk => hk.2) (.int .i64 ((rd_T43 l0 x9_1).f0))) (fun _ hk => hk.2) (.slice A235_1 ((rd_T43 l0 x9_1).f1).length c235_1)) (fun _ hk => hk.2) (.int .i64 ((rd_T43 l0 x9_1).f2))) (fun _ hk => trivial)⟩
         have n1_ : Aside0 ((((w22.setCell ⟨gb236, 0, none⟩ (.int .i64 ((rd_T43 l0 x9_1).f0))).setCell ⟨gb236, 1, none⟩ (.slice A235_1 ((rd_T43 l0 x9_1).f1).length c235_1)).setCell ⟨gb236, 2, none⟩ (.int .i64 ((rd_T43 l0 x9_1).f2))).heap[gb236]? = some (.cells #[.int .i64 ((rd_T43 l0 x9_1).f0), .slice A235_1 ((rd_T43 l0 x9_1).f1).length c235_1, .int .i64 ((rd_T43 l0 x9_1).f2)] 43 (0, 0))) := ⟨by (with_reducible repeat (first | refine blk_drewN ?_ _ | refine blk_drew ?_ | refine blk_alloc ?_ _)); refine blk_put (cs := #[.int .i64 ((rd_T43 l0 x9_1).f0), .slice A235_1 ((rd_T43 l0 x9_1).f1).length c235_1, .int .i64 0]) ?_ 2 _ rfl; (with_reducible repeat (first | refine blk_drewN ?_ _ | refine blk_drew ?_ | refine blk_alloc ?_ _)); refine blk_put (cs := #[.int .i64 ((rd_T43 l0 x9_1).f0), .slice none 0 0, .int .i64 0]) ?_ 1 _ rfl; (with_reducible repeat (first | refine blk_drewN ?_ _ | refine blk_drew ?_ | refine blk_alloc ?_ _)); refine blk_put (cs := #[.int .i64 0, .slice none 0 0, .int .i64 0]) ?_ 0 _ rfl; (with_reducible repeat (first | refine blk_drewN ?_ _ | refine blk_drew ?_ | refine blk_alloc ?_ _)); exact BK236.out⟩
         have n2_ : Aside0 (Below w.heap.size w (((w22.setCell ⟨gb236, 0, none⟩ (.int .i64 ((rd_T43 l0 x9_1).f0))).setCell ⟨gb236, 1, none⟩ (.slice A235_1 ((rd_T43 l0 x9_1).f1).length c235_1)).setCell ⟨gb236, 2, none⟩ (.int .i64 ((rd_T43 l0 x9_1).f2)))) := ⟨bw⟩
         (try clear HO_3)
         (try clear BK236)
         (try clear HB)
         generalize (((w22.setCell ⟨gb236, 0, none⟩ (.int .i64 ((rd_T43 l0 x9_1).f0))).setCell ⟨gb236, 1, none⟩ (.slice A235_1 ((rd_T43 l0 x9_1).f1).length c235_1)).setCell ⟨gb236, 2, none⟩ (.int .i64 ((rd_T43 l0 x9_1).f2))) = w25 at n0_ n1_ n2_ ⊢
         have HO_3 := n0_
         have BK236 := n1_
         have HB := Bw.mk (w := w) n2_.out
         clear n0_ n1_ n2_
         replace HO_3 := Aside0.mk (Kd.R_drew HO_3.out)
         replace BK236 := Aside0.mk (blk_drew BK236.out)
         replace HB := Bw.mk (w := w) (below_drew1 HB.out)
         refine start_ (n := 9) (S := fun w' => w'.cell? ⟨gb236, 0, none⟩ = some (.int .i64 ((rd_T43 l0 x9_1).f0)) ∧ w'.cell? ⟨gb236, 1, none⟩ = some (.slice A235_1 ((rd_T43 l0 x9_1).f1).length c235_1) ∧ w'.cell? ⟨gb236, 2, none⟩ = some (.int .i64 ((rd_T43 l0 x9_1).f2))) (ds := []) #[false, false, false, false, false, false, false, false, false] (by kernel_rfl) rfl rfl ⟨(blk_cell BK236.out 0).trans rfl, (blk_cell BK236.out 1).trans rfl, (blk_cell BK236.out 2).trans rfl⟩ (fun hHeld => ?_); refine with_tabW impl_pathText.tab7 impl_pathText.bits7 (fun HT_ HW_ => ?_)
         generalize w25.drew = w26 at HO_3 BK236 HB hHeld ⊢
         refine pure_ (i := 0) (N := some 22) (v := ?_) (a' := ?_) #[true, false, false, false, false, false, false, false, false] rfl rfl (any_of HT_.out (by kernel_rfl)) (fun _ _ _ h => h) (Or.inl ⟨by rfl, ?_⟩) ?_ ?_
         rotate_left
         ·intro w'
          go_simp
          with_reducible rfl
         rotate_left
         ·simp only [Act.put, List.setIfInBounds_toArray, List.set_cons_zero, List.set_cons_succ, i64_w, i32_w]
          rfl
         refine pure_ (i := 3) (N := some 25) (v := ?_) (a' := ?_) #[true, false, false, true, false, false, false, false, false] rfl rfl (any_of HT_.out (by kernel_rfl)) (fun _ _ _ h => h) (Or.inl ⟨by rfl, ?_⟩) ?_ ?_
         rotate_left
         ·intro w'
          go_simp
          with_reducible rfl
         rotate_left
         ·simp only [Act.put, List.setIfInBounds_toArray, List.set_cons_zero, List.set_cons_succ, i64_w, i32_w]
          rfl
         refine take_ (i := 4) (N := some 26) (v := ?_) (a' := ?_) #[true, false, false, true, true, false, false, false, false] rfl rfl (take_ofW HT_.out HW_.out (by kernel_rfl)) (fun _ _ _ h => h) (Or.inl ⟨by rfl, ?_⟩) hHeld ?_ ?_
         rotate_left
         ·rintro w' ⟨s0, s1, s2⟩
          go_simp
          with_reducible rfl
         rotate_left
         ·simp only [Act.put, List.setIfInBounds_toArray, List.set_cons_zero, List.set_cons_succ, i64_w, i32_w]
          rfl
         refine join_ (σ := Value × Value × Value × Value) 2 #[true, true, true, true, true, true, true, false, false] (fun s_ => [(23, s_.1), (24, s_.2.1), (27, s_.2.2.1), (28, s_.2.2.2)]) (fun s_ w' => (w'.cell? ⟨gb236, 0, none⟩ = some (.int .i64 ((rd_T43 l0 x9_1).f0)) ∧ w'.cell? ⟨gb236, 1, none⟩ = some (.slice A235_1 ((rd_T43 l0 x9_1).f1).length c235_1) ∧ w'.cell? ⟨gb236, 2, none⟩ = some (.int .i64 ((rd_T43 l0 x9_1).f2))) ∧ (Kd.R (Kd.int .u8) 5 w' w.heap.size (fun k_ => some k_ ≠ (s_.2.2.1 : Value).ownBlock ∧ some k_ ≠ (s_.2.2.2 : Value).ownBlock) s_.1 y246) ∧ (Kd.R (Kd.int .u8) 5 w' w.heap.size (fun k_ => some k_ ≠ (s_.1 : Value).ownBlock ∧ some k_ ≠ (s_.2.2.2 : Value).ownBlock) s_.2.2.1 t252) ∧ (Kd.R (Kd.int .u8) 5 w' w.heap.size (fun k_ => some k_ ≠ (s_.1 : Value).ownBlock ∧ some k_ ≠ (s_.2.2.1 : Value).ownBlock) s_.2.2.2 y255) ∧ (w'.heap[gb236]? = some (.cells #[.int .i64 ((rd_T43 l0 x9_1).f0), .slice A235_1 ((rd_T43 l0 x9_1).f1).length c235_1, .int .i64 ((rd_T43 l0 x9_1).f2)] 43 (0, 0))) ∧ (Below w.heap.size w w')) ?_ ?_
         rotate_left
         ·as_aux_lemma =>
          intro hCont
          refine two_ (i := 1) (j := 6) (Ni := some 23) (Nj := some 28) #[true, true, false, true, true, false, false, false, false] #[true, false, false, true, true, false, true, false, false] rfl rfl rfl rfl (two_of HT_.out (by kernel_rfl)) (by decide) (by decide) (fun K hK => ?_) (fun K hK => ?_)
          ·as_aux_lemma =>
           skip
           refine Kd.R_lit_step (Kd.int .u8) _ 5 ?hg (N := 23) ?hd (xs := ([91] : List Int)) (inner := [.int .u8 91]) (ok := fun _ => True) (okp := fun _ => True) ?hr ?hp (fun _ hk => hk) trivial (Below.refl _ _) (Nat.le_refl _) (by simp) ?_; (case hd => rfl); (case hg => rfl); (case hr => first | (go_simp; done) | (go_simp; rfl)); (case hp => exact (Reps.one (show Kd.M (Kd.int .u8) _ _ _ 91 [.int .u8 91] from rfl) (Reps.none _ _)))
           intro v247 w27 ho28 hb hg_ hnew_
           clear hg_ hnew_
           (first | rw [← Ny246.out] at ho28 | (simp only [Int.reduceToNat] at ho28; rw [← Ny246.out] at ho28))
           have HO248 := Aside0.mk (Kd.R_lower (Kd.R_new' ho28 (Kd.R_lt (by (with_reducible repeat (first | apply Kd.R_alloc | apply Kd.R_drewN | apply Kd.R_drew)); exact HO_3.out))) (bzz w))
           replace HO_3 := Aside0.mk (Kd.R_elder' (by (with_reducible repeat (first | apply Kd.R_alloc | apply Kd.R_drewN | apply Kd.R_drew)); exact HO_3.out) (Kd.R_base ho28) hb)
           replace BK236 := Aside0.mk (blk_below (g := gb236) (o := .cells #[.int .i64 ((rd_T43 l0 x9_1).f0), .slice A235_1 ((rd_T43 l0 x9_1).f1).length c235_1, .int .i64 ((rd_T43 l0 x9_1).f2)] 43 (0, 0)) (by (with_reducible repeat (first | refine blk_drewN ?_ _ | refine blk_drew ?_ | refine blk_alloc ?_ _)); exact BK236.out) hb)
           replace HB := (Bw.sw w hb)
           clear hb ho28
           obtain ⟨Ao30, co30, eo30⟩ := Kd.R_slice HO248.out
           (first | subst eo30 | (injection eo30 with f1_ f2_ f3_; have f4_ := f1_.symm; have f5_ := f3_.symm; clear f1_ f2_ f3_; subst f4_; subst f5_))
           refine hK.out _ _ ⟨(blk_cell BK236.out 0).trans rfl, (blk_cell BK236.out 1).trans rfl, (blk_cell BK236.out 2).trans rfl⟩ (fun hHeld => ?_)
           clear hK K
           refine norm_ (a' := ?_) ?_ ?_
           rotate_left
           ·show Act.put _ (some 23) _ = _
            simp only [Act.put, List.setIfInBounds_toArray, List.set_cons_zero, List.set_cons_succ, i64_w, i32_w]
            rfl
           refine two_ (i := 2) (j := 6) (Ni := some 24) (Nj := some 28) #[true, true, true, true, true, false, false, false, false] #[true, true, false, true, true, false, true, false, false] rfl rfl rfl rfl (two_of HT_.out (by kernel_rfl)) (by decide) (by decide) (fun K hK => ?_) (fun K hK => ?_)
           ·as_aux_lemma =>
            skip
            refine Kd.R_append_rows_step (Kd.int .u8) (w0 := w) w.heap.size (by rfl) (.tmp 22) (.tmp 23) 22 5 (.int .u8 0) 1 rfl Tryd.underlying22 info5 rfl (by decide) (by omega) (.slice Ao24 x3_1.length co24) x3_1 y246 _ _ _ (fun k_ => some k_ ≠ (.slice Ao30 y246.length co30 : Value).ownBlock) (fun _ => False) rfl rfl ?aO ?aR (fun _ _ h => h) (fun _ h => h.elim) ?aF ?aB ?aS ?aL ?_
            (case aR => repeat (first | exact (Kd.R_reads' HO248.out).2.2 | (with_reducible refine Kd.C_alloc ?_ _) | (with_reducible refine Kd.C_drewN ?_ _) | (with_reducible refine Kd.C_drew ?_)))
            (case aB => exact bw)
            (case aF => exact (fun k_ hk => Kd.fresh' (Kd.R_lt (by (with_reducible repeat (first | apply Kd.R_alloc | apply Kd.R_drewN | apply Kd.R_drew)); exact HO248.out)) k_ hk))
            (case aO => exact (by (with_reducible repeat (first | apply Kd.R_alloc | apply Kd.R_drewN | apply Kd.R_drew)); exact Kd.R_mono HO_3.out (fun _ hk => hk.2)))
            (case aS => exact (bzz w))
            (case aL => have := LMc19.out; omega)
            intro v250 w29 ho hb hg hat
            rw [← Ny249.out] at ho
            replace BK236 := Aside0.mk (blk_grown (g := gb236) (o := .cells #[.int .i64 ((rd_T43 l0 x9_1).f0), .slice A235_1 ((rd_T43 l0 x9_1).f1).length c235_1, .int .i64 ((rd_T43 l0 x9_1).f2)] 43 (0, 0)) (by (with_reducible repeat (first | refine blk_drewN ?_ _ | refine blk_drew ?_ | refine blk_alloc ?_ _)); exact BK236.out) hg (Kd.R_ne HO_3.out BK236.out (by decide)))
            replace HO248 := Aside0.mk (Kd.R_after (ok := (fun _ => True)) (by (with_reducible repeat (first | apply Kd.R_alloc | apply Kd.R_drewN | apply Kd.R_drew)); exact HO248.out) hg hat)
            replace HB := Bw.mk (w := w) (hb)
            have HO251 := Aside0.mk (ho)
            clear HO_3
            clear ho hb hg hat
            obtain ⟨Ao31, co31, eo31⟩ := Kd.R_slice HO251.out
            (first | subst eo31 | (injection eo31 with f1_ f2_ f3_; have f4_ := f1_.symm; have f5_ := f3_.symm; clear f1_ f2_ f3_; subst f4_; subst f5_))
            refine hK.out _ _ ⟨(blk_cell BK236.out 0).trans rfl, (blk_cell BK236.out 1).trans rfl, (blk_cell BK236.out 2).trans rfl⟩ (fun hHeld => ?_)
            clear hK K
            refine norm_ (a' := ?_) ?_ ?_
            rotate_left
            ·show Act.put _ (some 24) _ = _
             simp only [Act.put, List.setIfInBounds_toArray, List.set_cons_zero, List.set_cons_succ, i64_w, i32_w]
             rfl
            refine two_ (i := 5) (j := 6) (Ni := some 27) (Nj := some 28) #[true, true, true, true, true, true, false, false, false] #[true, true, true, true, true, false, true, false, false] rfl rfl rfl rfl (two_of HT_.out (by kernel_rfl)) (by decide) (by decide) (fun K hK => ?_) (fun K hK => ?_)
            ·skip
             refine goes_ Tryd.func21 (by kernel_rfl) rfl #[.slice Ao31 y249.length co31, .int .i64 ((rd_T43 l0 x9_1).f2), .int .i64 10] (by rfl) rfl rfl (by (try simp only [List.map_toArray, List.map_cons, List.map_nil]); first | done | rfl | (simp only [List.length_drop, List.length_take]; rfl)) ?_
             with_reducible refine (strconv_AppendInt_21.calls (fun k_ => some k_ = (.slice Ao31 y249.length co31 : Value).ownBlock) (.slice Ao31 y249.length co31) y249 ((rd_T43 l0 x9_1).f2) 10 t252 w _ ?side1 ?side2 A20.out).mono ?_
             (case side1 => repeat (first | (with_reducible first | exact HB.out | apply below_alloc | apply pw_below_drewN | apply below_drew1 | refine below_set ?_ GE236.out) | exact HB.out))
             (case side2 => exact Kd.R_tight rfl HO251.out)
             rintro e w32 ⟨v253, rfl, ho0, hb, hkp⟩
             refine ⟨_, rfl, ?_⟩
             replace BK236 := Aside0.mk (blk_kept (by (with_reducible repeat (first | refine blk_drewN ?_ _ | refine blk_drew ?_ | refine blk_alloc ?_ _)); exact BK236.out) hkp (fun hs_ => (fun e_ => (Kd.R_ne HO251.out BK236.out (by decide)) e_) hs_))
             have HO254 := Aside0.mk (Kd.R_mono (ok' := fun k_ => some k_ ≠ (.slice Ao30 y246.length co30 : Value).ownBlock) ho0 (fun k_ hk_ => Or.elim hk_ (fun hs_ => fun e_ => (((HO248.out).1 k_ e_.symm).2) hs_) (fun hn_ => (Kd.fresh' (Kd.R_lt (by (with_reducible repeat (first | apply Kd.R_alloc | apply Kd.R_drewN | apply Kd.R_drew)); exact HO248.out)) k_ hn_))))
             replace HO248 := Aside0.mk (Kd.R_mono (ok' := fun k_ => some k_ ≠ (v253 : Value).ownBlock) (rkeptB (HO248.out) hkp (fun k_ hk_ hs_ => (hk_.2) hs_)) (fun k_ hk_ => fun e_ => Or.elim (ho0.1 k_ e_.symm) (fun hs_ => hk_.2.1 hs_) (fun hn_ => Nat.not_le.2 hk_.2.2 hn_)))
             replace HB := Bw.mk (w := w) (hb)
             clear HO251
             (try clear hb)
             (try clear hkp)
             (try clear ho0)
             refine hK.out _ _ ⟨(blk_cell BK236.out 0).trans rfl, (blk_cell BK236.out 1).trans rfl, (blk_cell BK236.out 2).trans rfl⟩ (fun hHeld => ?_)
             clear hK K
             refine norm_ (a' := ?_) ?_ ?_
             rotate_left
             ·show Act.put _ (some 27) _ = _
              simp only [Act.put, List.setIfInBounds_toArray, List.set_cons_zero, List.set_cons_succ, i64_w, i32_w]
              rfl
             refine one_ (i := 6) (N := some 28) #[true, true, true, true, true, true, true, false, false] rfl rfl (one_of HT_.out (by kernel_rfl)) (by decide) (fun K hK => ?_)
             refine Kd.R_lit_step (Kd.int .u8) _ 5 ?hg (N := 28) ?hd (xs := ([93] : List Int)) (inner := [.int .u8 93]) (ok := fun _ => True) (okp := fun _ => True) ?hr ?hp (fun _ hk => hk) trivial (Below.refl _ _) (Nat.le_refl _) (by simp) ?_; (case hd => rfl); (case hg => rfl); (case hr => first | (go_simp; done) | (go_simp; rfl)); (case hp => exact (Reps.one (show Kd.M (Kd.int .u8) _ _ _ 93 [.int .u8 93] from rfl) (Reps.none _ _)))
             intro v256 w33 ho34 hb hg_ hnew_
             clear hg_ hnew_
             (first | rw [← Ny255.out] at ho34 | (simp only [Int.reduceToNat] at ho34; rw [← Ny255.out] at ho34))
             have HO257 := Aside0.mk (Kd.R_lower (Kd.R_new' (Kd.R_new' ho34 (Kd.R_lt (by (with_reducible repeat (first | apply Kd.R_alloc | apply Kd.R_drewN | apply Kd.R_drew)); exact HO248.out))) (Kd.R_lt (by (with_reducible repeat (first | apply Kd.R_alloc | apply Kd.R_drewN | apply Kd.R_drew)); exact HO254.out))) (bzz w))
             replace HO248 := Aside0.mk (Kd.R_elder' (by (with_reducible repeat (first | apply Kd.R_alloc | apply Kd.R_drewN | apply Kd.R_drew)); exact HO248.out) (Kd.R_base ho34) hb)
             replace HO254 := Aside0.mk (Kd.R_elder' (by (with_reducible repeat (first | apply Kd.R_alloc | apply Kd.R_drewN | apply Kd.R_drew)); exact HO254.out) (Kd.R_base ho34) hb)
             replace BK236 := Aside0.mk (blk_below (g := gb236) (o := .cells #[.int .i64 ((rd_T43 l0 x9_1).f0), .slice A235_1 ((rd_T43 l0 x9_1).f1).length c235_1, .int .i64 ((rd_T43 l0 x9_1).f2)] 43 (0, 0)) (by (with_reducible repeat (first | refine blk_drewN ?_ _ | refine blk_drew ?_ | refine blk_alloc ?_ _)); exact BK236.out) hb)
             replace HB := (Bw.sw w hb)
             clear hb ho34
             refine hK.out _ _ ⟨(blk_cell BK236.out 0).trans rfl, (blk_cell BK236.out 1).trans rfl, (blk_cell BK236.out 2).trans rfl⟩ (fun hHeld => ?_)
             clear hK K
             refine norm_ (a' := ?_) ?_ ?_
             rotate_left
             ·show Act.put _ (some 28) _ = _
              simp only [Act.put, List.setIfInBounds_toArray, List.set_cons_zero, List.set_cons_succ, i64_w, i32_w]
              rfl
             exact norm_ (by simp only [putAll, Act.put, List.setIfInBounds_toArray, List.set_cons_zero, List.set_cons_succ]) (hCont (.slice Ao30 y246.length co30, .slice Ao31 y249.length co31, v253, v256) _ ⟨hHeld, (by (with_reducible repeat (first | apply Kd.R_alloc | apply Kd.R_drewN | apply Kd.R_drew)); exact HO248.out), (by (with_reducible repeat (first | apply Kd.R_alloc | apply Kd.R_drewN | apply Kd.R_drew)); exact HO254.out), (by (with_reducible repeat (first | apply Kd.R_alloc | apply Kd.R_drewN | apply Kd.R_drew)); exact Kd.R_mono HO257.out (fun _ hk => ⟨hk.1.2, hk.2⟩)), (by (with_reducible repeat (first | refine blk_drewN ?_ _ | refine blk_drew ?_ | refine blk_alloc ?_ _)); exact BK236.out), bw⟩)
            ·skip
             refine Kd.R_lit_step (Kd.int .u8) _ 5 ?hg (N := 28) ?hd (xs := ([93] : List Int)) (inner := [.int .u8 93]) (ok := fun _ => True) (okp := fun _ => True) ?hr ?hp (fun _ hk => hk) trivial (Below.refl _ _) (Nat.le_refl _) (by simp) ?_; (case hd => rfl); (case hg => rfl); (case hr => first | (go_simp; done) | (go_simp; rfl)); (case hp => exact (Reps.one (show Kd.M (Kd.int .u8) _ _ _ 93 [.int .u8 93] from rfl) (Reps.none _ _)))
             intro v256 w31 ho32 hb hg_ hnew_
             clear hg_ hnew_
             (first | rw [← Ny255.out] at ho32 | (simp only [Int.reduceToNat] at ho32; rw [← Ny255.out] at ho32))
             have HO257 := Aside0.mk (Kd.R_lower (Kd.R_new' (Kd.R_new' ho32 (Kd.R_lt (by (with_reducible repeat (first | apply Kd.R_alloc | apply Kd.R_drewN | apply Kd.R_drew)); exact HO248.out))) (Kd.R_lt (by (with_reducible repeat (first | apply Kd.R_alloc | apply Kd.R_drewN | apply Kd.R_drew)); exact HO251.out))) (bzz w))
             replace HO248 := Aside0.mk (Kd.R_elder' (by (with_reducible repeat (first | apply Kd.R_alloc | apply Kd.R_drewN | apply Kd.R_drew)); exact HO248.out) (Kd.R_base ho32) hb)
             replace HO251 := Aside0.mk (Kd.R_elder' (by (with_reducible repeat (first | apply Kd.R_alloc | apply Kd.R_drewN | apply Kd.R_drew)); exact HO251.out) (Kd.R_base ho32) hb)
             replace BK236 := Aside0.mk (blk_below (g := gb236) (o := .cells #[.int .i64 ((rd_T43 l0 x9_1).f0), .slice A235_1 ((rd_T43 l0 x9_1).f1).length c235_1, .int .i64 ((rd_T43 l0 x9_1).f2)] 43 (0, 0)) (by (with_reducible repeat (first | refine blk_drewN ?_ _ | refine blk_drew ?_ | refine blk_alloc ?_ _)); exact BK236.out) hb)
             replace HB := (Bw.sw w hb)
             clear hb ho32
             obtain ⟨Ao33, co33, eo33⟩ := Kd.R_slice HO251.out
             (first | subst eo33 | (injection eo33 with f1_ f2_ f3_; have f4_ := f1_.symm; have f5_ := f3_.symm; clear f1_ f2_ f3_; subst f4_; subst f5_))
             refine hK.out _ _ ⟨(blk_cell BK236.out 0).trans rfl, (blk_cell BK236.out 1).trans rfl, (blk_cell BK236.out 2).trans rfl⟩ (fun hHeld => ?_)
             clear hK K
             refine norm_ (a' := ?_) ?_ ?_
             rotate_left
             ·show Act.put _ (some 28) _ = _
              simp only [Act.put, List.setIfInBounds_toArray, List.set_cons_zero, List.set_cons_succ, i64_w, i32_w]
              rfl
             refine one_ (i := 5) (N := some 27) #[true, true, true, true, true, true, true, false, false] rfl rfl (one_of HT_.out (by kernel_rfl)) (by decide) (fun K hK => ?_)
             refine goes_ Tryd.func21 (by kernel_rfl) rfl #[.slice Ao33 y249.length co33, .int .i64 ((rd_T43 l0 x9_1).f2), .int .i64 10] (by rfl) rfl rfl (by (try simp only [List.map_toArray, List.map_cons, List.map_nil]); first | done | rfl | (simp only [List.length_drop, List.length_take]; rfl)) ?_
             with_reducible refine (strconv_AppendInt_21.calls (fun k_ => some k_ = (.slice Ao33 y249.length co33 : Value).ownBlock) (.slice Ao33 y249.length co33) y249 ((rd_T43 l0 x9_1).f2) 10 t252 w _ ?side1 ?side2 A20.out).mono ?_
             (case side1 => repeat (first | (with_reducible first | exact HB.out | apply below_alloc | apply pw_below_drewN | apply below_drew1 | refine below_set ?_ GE236.out) | exact HB.out))
             (case side2 => exact Kd.R_tight rfl HO251.out)
             rintro e w34 ⟨v253, rfl, ho0, hb, hkp⟩
             refine ⟨_, rfl, ?_⟩
             replace BK236 := Aside0.mk (blk_kept (by (with_reducible repeat (first | refine blk_drewN ?_ _ | refine blk_drew ?_ | refine blk_alloc ?_ _)); exact BK236.out) hkp (fun hs_ => (fun e_ => (Kd.R_ne HO251.out BK236.out (by decide)) e_) hs_))
             have HO254 := Aside0.mk (Kd.R_mono (ok' := fun k_ => some k_ ≠ (.slice Ao30 y246.length co30 : Value).ownBlock ∧ some k_ ≠ (v256 : Value).ownBlock) ho0 (fun k_ hk_ => ⟨Or.elim hk_ (fun hs_ => fun e_ => (((HO248.out).1 k_ e_.symm).1.2) hs_) (fun hn_ => (Kd.fresh' (Kd.R_lt (by (with_reducible repeat (first | apply Kd.R_alloc | apply Kd.R_drewN | apply Kd.R_drew)); exact HO248.out)) k_ hn_)), Or.elim hk_ (fun hs_ => fun e_ => (((HO257.out).1 k_ e_.symm).2) hs_) (fun hn_ => (Kd.fresh' (Kd.R_lt (by (with_reducible repeat (first | apply Kd.R_alloc | apply Kd.R_drewN | apply Kd.R_drew)); exact HO257.out)) k_ hn_))⟩))
             replace HO248 := Aside0.mk (Kd.R_mono (ok' := fun k_ => some k_ ≠ (v256 : Value).ownBlock ∧ some k_ ≠ (v253 : Value).ownBlock) (rkeptB (HO248.out) hkp (fun k_ hk_ hs_ => (hk_.1.2) hs_)) (fun k_ hk_ => ⟨hk_.1.2, fun e_ => Or.elim (ho0.1 k_ e_.symm) (fun hs_ => hk_.2.1 hs_) (fun hn_ => Nat.not_le.2 hk_.2.2 hn_)⟩))
             replace HO257 := Aside0.mk (Kd.R_mono (ok' := fun k_ => some k_ ≠ (.slice Ao30 y246.length co30 : Value).ownBlock ∧ some k_ ≠ (v253 : Value).ownBlock) (rkeptB (HO257.out) hkp (fun k_ hk_ hs_ => (hk_.2) hs_)) (fun k_ hk_ => ⟨hk_.1.1.2, fun e_ => Or.elim (ho0.1 k_ e_.symm) (fun hs_ => hk_.2.1 hs_) (fun hn_ => Nat.not_le.2 hk_.2.2 hn_)⟩))
             replace HB := Bw.mk (w := w) (hb)
             clear HO251
             (try clear hb)
             (try clear hkp)
             (try clear ho0)
             refine hK.out _ _ ⟨(blk_cell BK236.out 0).trans rfl, (blk_cell BK236.out 1).trans rfl, (blk_cell BK236.out 2).trans rfl⟩ (fun hHeld => ?_)
             clear hK K
             refine norm_ (a' := ?_) ?_ ?_
             rotate_left
             ·show Act.put _ (some 27) _ = _
              simp only [Act.put, List.setIfInBounds_toArray, List.set_cons_zero, List.set_cons_succ, i64_w, i32_w]
              rfl
             exact norm_ (by simp only [putAll, Act.put, List.setIfInBounds_toArray, List.set_cons_zero, List.set_cons_succ]) (hCont (.slice Ao30 y246.length co30, .slice Ao33 y249.length co33, v253, v256) _ ⟨hHeld, (by (with_reducible repeat (first | apply Kd.R_alloc | apply Kd.R_drewN | apply Kd.R_drew)); exact Kd.R_mono HO248.out (fun _ hk => ⟨hk.2, hk.1⟩)), (by (with_reducible repeat (first | apply Kd.R_alloc | apply Kd.R_drewN | apply Kd.R_drew)); exact HO254.out), (by (with_reducible repeat (first | apply Kd.R_alloc | apply Kd.R_drewN | apply Kd.R_drew)); exact HO257.out), (by (with_reducible repeat (first | refine blk_drewN ?_ _ | refine blk_drew ?_ | refine blk_alloc ?_ _)); exact BK236.out), bw⟩)
           ·skip
            refine Kd.R_lit_step (Kd.int .u8) _ 5 ?hg (N := 28) ?hd (xs := ([93] : List Int)) (inner := [.int .u8 93]) (ok := fun _ => True) (okp := fun _ => True) ?hr ?hp (fun _ hk => hk) trivial (Below.refl _ _) (Nat.le_refl _) (by simp) ?_; (case hd => rfl); (case hg => rfl); (case hr => first | (go_simp; done) | (go_simp; rfl)); (case hp => exact (Reps.one (show Kd.M (Kd.int .u8) _ _ _ 93 [.int .u8 93] from rfl) (Reps.none _ _)))
            intro v256 w29 ho30 hb hg_ hnew_
            clear hg_ hnew_
            (first | rw [← Ny255.out] at ho30 | (simp only [Int.reduceToNat] at ho30; rw [← Ny255.out] at ho30))
            have HO257 := Aside0.mk (Kd.R_lower (Kd.R_new' (Kd.R_new' ho30 (Kd.R_lt (by (with_reducible repeat (first | apply Kd.R_alloc | apply Kd.R_drewN | apply Kd.R_drew)); exact HO_3.out))) (Kd.R_lt (by (with_reducible repeat (first | apply Kd.R_alloc | apply Kd.R_drewN | apply Kd.R_drew)); exact HO248.out))) (bzz w))
            replace HO_3 := Aside0.mk (Kd.R_elder' (by (with_reducible repeat (first | apply Kd.R_alloc | apply Kd.R_drewN | apply Kd.R_drew)); exact HO_3.out) (Kd.R_base ho30) hb)
            replace HO248 := Aside0.mk (Kd.R_elder' (by (with_reducible repeat (first | apply Kd.R_alloc | apply Kd.R_drewN | apply Kd.R_drew)); exact HO248.out) (Kd.R_base ho30) hb)
            replace BK236 := Aside0.mk (blk_below (g := gb236) (o := .cells #[.int .i64 ((rd_T43 l0 x9_1).f0), .slice A235_1 ((rd_T43 l0 x9_1).f1).length c235_1, .int .i64 ((rd_T43 l0 x9_1).f2)] 43 (0, 0)) (by (with_reducible repeat (first | refine blk_drewN ?_ _ | refine blk_drew ?_ | refine blk_alloc ?_ _)); exact BK236.out) hb)
            replace HB := (Bw.sw w hb)
            clear hb ho30
            obtain ⟨Ao32, co32, eo32⟩ := Kd.R_slice HO248.out
            (first | subst eo32 | (injection eo32 with f1_ f2_ f3_; have f4_ := f1_.symm; have f5_ := f3_.symm; clear f1_ f2_ f3_; subst f4_; subst f5_))
            refine hK.out _ _ ⟨(blk_cell BK236.out 0).trans rfl, (blk_cell BK236.out 1).trans rfl, (blk_cell BK236.out 2).trans rfl⟩ (fun hHeld => ?_)
            clear hK K
            refine norm_ (a' := ?_) ?_ ?_
            rotate_left
            ·show Act.put _ (some 28) _ = _
             simp only [Act.put, List.setIfInBounds_toArray, List.set_cons_zero, List.set_cons_succ, i64_w, i32_w]
             rfl
            refine one_ (i := 2) (N := some 24) #[true, true, true, true, true, false, true, false, false] rfl rfl (one_of HT_.out (by kernel_rfl)) (by decide) (fun K hK => ?_)
            refine Kd.R_append_rows_step (Kd.int .u8) (w0 := w) w.heap.size (by rfl) (.tmp 22) (.tmp 23) 22 5 (.int .u8 0) 1 rfl Tryd.underlying22 info5 rfl (by decide) (by omega) (.slice Ao24 x3_1.length co24) x3_1 y246 _ _ _ (fun k_ => some k_ ≠ (.slice Ao32 y246.length co32 : Value).ownBlock ∧ some k_ ≠ (v256 : Value).ownBlock) (fun _ => False) rfl rfl ?aO ?aR (fun _ _ h => h) (fun _ h => h.elim) ?aF ?aB ?aS ?aL ?_
            (case aR => repeat (first | exact (Kd.R_reads' HO248.out).2.2 | (with_reducible refine Kd.C_alloc ?_ _) | (with_reducible refine Kd.C_drewN ?_ _) | (with_reducible refine Kd.C_drew ?_)))
            (case aB => exact bw)
            (case aF => exact (fun k_ hk => ⟨Kd.fresh' (Kd.R_lt (by (with_reducible repeat (first | apply Kd.R_alloc | apply Kd.R_drewN | apply Kd.R_drew)); exact HO248.out)) k_ hk, Kd.fresh' (Kd.R_lt (by (with_reducible repeat (first | apply Kd.R_alloc | apply Kd.R_drewN | apply Kd.R_drew)); exact HO257.out)) k_ hk⟩))
            (case aO => exact (by (with_reducible repeat (first | apply Kd.R_alloc | apply Kd.R_drewN | apply Kd.R_drew)); exact Kd.R_mono HO_3.out (fun _ hk => ⟨hk.1.2, hk.2⟩)))
            (case aS => exact (bzz w))
            (case aL => have := LMc19.out; omega)
            intro v250 w31 ho hb hg hat
            rw [← Ny249.out] at ho
            replace BK236 := Aside0.mk (blk_grown (g := gb236) (o := .cells #[.int .i64 ((rd_T43 l0 x9_1).f0), .slice A235_1 ((rd_T43 l0 x9_1).f1).length c235_1, .int .i64 ((rd_T43 l0 x9_1).f2)] 43 (0, 0)) (by (with_reducible repeat (first | refine blk_drewN ?_ _ | refine blk_drew ?_ | refine blk_alloc ?_ _)); exact BK236.out) hg (Kd.R_ne HO_3.out BK236.out (by decide)))
            replace HO248 := Aside0.mk (Kd.R_after (ok := (fun k_ => some k_ ≠ (v256 : Value).ownBlock)) (by (with_reducible repeat (first | apply Kd.R_alloc | apply Kd.R_drewN | apply Kd.R_drew)); exact Kd.R_mono HO248.out (fun _ hk => ⟨hk.2, hk.1.2⟩)) hg hat)
            replace HO257 := Aside0.mk (Kd.R_after (ok := (fun k_ => some k_ ≠ (.slice Ao32 y246.length co32 : Value).ownBlock)) (by (with_reducible repeat (first | apply Kd.R_alloc | apply Kd.R_drewN | apply Kd.R_drew)); exact Kd.R_mono HO257.out (fun _ hk => ⟨hk.2, hk.1.2⟩)) hg hat)
            replace HB := Bw.mk (w := w) (hb)
            have HO251 := Aside0.mk (ho)
            clear HO_3
            clear ho hb hg hat
            obtain ⟨Ao33, co33, eo33⟩ := Kd.R_slice HO251.out
            (first | subst eo33 | (injection eo33 with f1_ f2_ f3_; have f4_ := f1_.symm; have f5_ := f3_.symm; clear f1_ f2_ f3_; subst f4_; subst f5_))
            refine hK.out _ _ ⟨(blk_cell BK236.out 0).trans rfl, (blk_cell BK236.out 1).trans rfl, (blk_cell BK236.out 2).trans rfl⟩ (fun hHeld => ?_)
            clear hK K
            refine norm_ (a' := ?_) ?_ ?_
            rotate_left
            ·show Act.put _ (some 24) _ = _
             simp only [Act.put, List.setIfInBounds_toArray, List.set_cons_zero, List.set_cons_succ, i64_w, i32_w]
             rfl
            refine one_ (i := 5) (N := some 27) #[true, true, true, true, true, true, true, false, false] rfl rfl (one_of HT_.out (by kernel_rfl)) (by decide) (fun K hK => ?_)
            refine goes_ Tryd.func21 (by kernel_rfl) rfl #[.slice Ao33 y249.length co33, .int .i64 ((rd_T43 l0 x9_1).f2), .int .i64 10] (by rfl) rfl rfl (by (try simp only [List.map_toArray, List.map_cons, List.map_nil]); first | done | rfl | (simp only [List.length_drop, List.length_take]; rfl)) ?_
            with_reducible refine (strconv_AppendInt_21.calls (fun k_ => some k_ = (.slice Ao33 y249.length co33 : Value).ownBlock) (.slice Ao33 y249.length co33) y249 ((rd_T43 l0 x9_1).f2) 10 t252 w _ ?side1 ?side2 A20.out).mono ?_
            (case side1 => repeat (first | (with_reducible first | exact HB.out | apply below_alloc | apply pw_below_drewN | apply below_drew1 | refine below_set ?_ GE236.out) | exact HB.out))
            (case side2 => exact Kd.R_tight rfl HO251.out)
            rintro e w34 ⟨v253, rfl, ho0, hb, hkp⟩
            refine ⟨_, rfl, ?_⟩
            replace BK236 := Aside0.mk (blk_kept (by (with_reducible repeat (first | refine blk_drewN ?_ _ | refine blk_drew ?_ | refine blk_alloc ?_ _)); exact BK236.out) hkp (fun hs_ => (fun e_ => (Kd.R_ne HO251.out BK236.out (by decide)) e_) hs_))
            have HO254 := Aside0.mk (Kd.R_mono (ok' := fun k_ => some k_ ≠ (.slice Ao32 y246.length co32 : Value).ownBlock ∧ some k_ ≠ (v256 : Value).ownBlock) ho0 (fun k_ hk_ => ⟨Or.elim hk_ (fun hs_ => fun e_ => (((HO248.out).1 k_ e_.symm).2) hs_) (fun hn_ => (Kd.fresh' (Kd.R_lt (by (with_reducible repeat (first | apply Kd.R_alloc | apply Kd.R_drewN | apply Kd.R_drew)); exact HO248.out)) k_ hn_)), Or.elim hk_ (fun hs_ => fun e_ => (((HO257.out).1 k_ e_.symm).2) hs_) (fun hn_ => (Kd.fresh' (Kd.R_lt (by (with_reducible repeat (first | apply Kd.R_alloc | apply Kd.R_drewN | apply Kd.R_drew)); exact HO257.out)) k_ hn_))⟩))
            replace HO248 := Aside0.mk (Kd.R_mono (ok' := fun k_ => some k_ ≠ (v256 : Value).ownBlock ∧ some k_ ≠ (v253 : Value).ownBlock) (rkeptB (HO248.out) hkp (fun k_ hk_ hs_ => (hk_.2) hs_)) (fun k_ hk_ => ⟨hk_.1.1, fun e_ => Or.elim (ho0.1 k_ e_.symm) (fun hs_ => hk_.2.1 hs_) (fun hn_ => Nat.not_le.2 hk_.2.2 hn_)⟩))
            replace HO257 := Aside0.mk (Kd.R_mono (ok' := fun k_ => some k_ ≠ (.slice Ao32 y246.length co32 : Value).ownBlock ∧ some k_ ≠ (v253 : Value).ownBlock) (rkeptB (HO257.out) hkp (fun k_ hk_ hs_ => (hk_.2) hs_)) (fun k_ hk_ => ⟨hk_.1.1, fun e_ => Or.elim (ho0.1 k_ e_.symm) (fun hs_ => hk_.2.1 hs_) (fun hn_ => Nat.not_le.2 hk_.2.2 hn_)⟩))
            replace HB := Bw.mk (w := w) (hb)
            clear HO251
            (try clear hb)
            (try clear hkp)
            (try clear ho0)
            refine hK.out _ _ ⟨(blk_cell BK236.out 0).trans rfl, (blk_cell BK236.out 1).trans rfl, (blk_cell BK236.out 2).trans rfl⟩ (fun hHeld => ?_)
            clear hK K
            refine norm_ (a' := ?_) ?_ ?_
            rotate_left
            ·show Act.put _ (some 27) _ = _
             simp only [Act.put, List.setIfInBounds_toArray, List.set_cons_zero, List.set_cons_succ, i64_w, i32_w]
             rfl
            exact norm_ (by simp only [putAll, Act.put, List.setIfInBounds_toArray, List.set_cons_zero, List.set_cons_succ]) (hCont (.slice Ao32 y246.length co32, .slice Ao33 y249.length co33, v253, v256) _ ⟨hHeld, (by (with_reducible repeat (first | apply Kd.R_alloc | apply Kd.R_drewN | apply Kd.R_drew)); exact Kd.R_mono HO248.out (fun _ hk => ⟨hk.2, hk.1⟩)), (by (with_reducible repeat (first | apply Kd.R_alloc | apply Kd.R_drewN | apply Kd.R_drew)); exact HO254.out), (by (with_reducible repeat (first | apply Kd.R_alloc | apply Kd.R_drewN | apply Kd.R_drew)); exact HO257.out), (by (with_reducible repeat (first | refine blk_drewN ?_ _ | refine blk_drew ?_ | refine blk_alloc ?_ _)); exact BK236.out), bw⟩)
          ·as_aux_lemma =>
           skip
           refine Kd.R_lit_step (Kd.int .u8) _ 5 ?hg (N := 28) ?hd (xs := ([93] : List Int)) (inner := [.int .u8 93]) (ok := fun _ => True) (okp := fun _ => True) ?hr ?hp (fun _ hk => hk) trivial (Below.refl _ _) (Nat.le_refl _) (by simp) ?_; (case hd => rfl); (case hg => rfl); (case hr => first | (go_simp; done) | (go_simp; rfl)); (case hp => exact (Reps.one (show Kd.M (Kd.int .u8) _ _ _ 93 [.int .u8 93] from rfl) (Reps.none _ _)))
           intro v256 w27 ho28 hb hg_ hnew_
           clear hg_ hnew_
           (first | rw [← Ny255.out] at ho28 | (simp only [Int.reduceToNat] at ho28; rw [← Ny255.out] at ho28))
           have HO257 := Aside0.mk (Kd.R_lower (Kd.R_new' ho28 (Kd.R_lt (by (with_reducible repeat (first | apply Kd.R_alloc | apply Kd.R_drewN | apply Kd.R_drew)); exact HO_3.out))) (bzz w))
           replace HO_3 := Aside0.mk (Kd.R_elder' (by (with_reducible repeat (first | apply Kd.R_alloc | apply Kd.R_drewN | apply Kd.R_drew)); exact HO_3.out) (Kd.R_base ho28) hb)
           replace BK236 := Aside0.mk (blk_below (g := gb236) (o := .cells #[.int .i64 ((rd_T43 l0 x9_1).f0), .slice A235_1 ((rd_T43 l0 x9_1).f1).length c235_1, .int .i64 ((rd_T43 l0 x9_1).f2)] 43 (0, 0)) (by (with_reducible repeat (first | refine blk_drewN ?_ _ | refine blk_drew ?_ | refine blk_alloc ?_ _)); exact BK236.out) hb)
           replace HB := (Bw.sw w hb)
           clear hb ho28
           refine hK.out _ _ ⟨(blk_cell BK236.out 0).trans rfl, (blk_cell BK236.out 1).trans rfl, (blk_cell BK236.out 2).trans rfl⟩ (fun hHeld => ?_)
           clear hK K
           refine norm_ (a' := ?_) ?_ ?_
           rotate_left
           ·show Act.put _ (some 28) _ = _
            simp only [Act.put, List.setIfInBounds_toArray, List.set_cons_zero, List.set_cons_succ, i64_w, i32_w]
            rfl
           refine one_ (i := 1) (N := some 23) #[true, true, false, true, true, false, true, false, false] rfl rfl (one_of HT_.out (by kernel_rfl)) (by decide) (fun K hK => ?_)
           refine Kd.R_lit_step (Kd.int .u8) _ 5 ?hg (N := 23) ?hd (xs := ([91] : List Int)) (inner := [.int .u8 91]) (ok := fun _ => True) (okp := fun _ => True) ?hr ?hp (fun _ hk => hk) trivial (Below.refl _ _) (Nat.le_refl _) (by simp) ?_; (case hd => rfl); (case hg => rfl); (case hr => first | (go_simp; done) | (go_simp; rfl)); (case hp => exact (Reps.one (show Kd.M (Kd.int .u8) _ _ _ 91 [.int .u8 91] from rfl) (Reps.none _ _)))
           intro v247 w29 ho30 hb hg_ hnew_
           clear hg_ hnew_
           (first | rw [← Ny246.out] at ho30 | (simp only [Int.reduceToNat] at ho30; rw [← Ny246.out] at ho30))
           have HO248 := Aside0.mk (Kd.R_lower (Kd.R_new' (Kd.R_new' ho30 (Kd.R_lt (by (with_reducible repeat (first | apply Kd.R_alloc | apply Kd.R_drewN | apply Kd.R_drew)); exact HO_3.out))) (Kd.R_lt (by (with_reducible repeat (first | apply Kd.R_alloc | apply Kd.R_drewN | apply Kd.R_drew)); exact HO257.out))) (bzz w))
           replace HO_3 := Aside0.mk (Kd.R_elder' (by (with_reducible repeat (first | apply Kd.R_alloc | apply Kd.R_drewN | apply Kd.R_drew)); exact HO_3.out) (Kd.R_base ho30) hb)
           replace HO257 := Aside0.mk (Kd.R_elder' (by (with_reducible repeat (first | apply Kd.R_alloc | apply Kd.R_drewN | apply Kd.R_drew)); exact HO257.out) (Kd.R_base ho30) hb)
           replace BK236 := Aside0.mk (blk_below (g := gb236) (o := .cells #[.int .i64 ((rd_T43 l0 x9_1).f0), .slice A235_1 ((rd_T43 l0 x9_1).f1).length c235_1, .int .i64 ((rd_T43 l0 x9_1).f2)] 43 (0, 0)) (by (with_reducible repeat (first | refine blk_drewN ?_ _ | refine blk_drew ?_ | refine blk_alloc ?_ _)); exact BK236.out) hb)
           replace HB := (Bw.sw w hb)
           clear hb ho30
           obtain ⟨Ao32, co32, eo32⟩ := Kd.R_slice HO248.out
           (first | subst eo32 | (injection eo32 with f1_ f2_ f3_; have f4_ := f1_.symm; have f5_ := f3_.symm; clear f1_ f2_ f3_; subst f4_; subst f5_))
           refine hK.out _ _ ⟨(blk_cell BK236.out 0).trans rfl, (blk_cell BK236.out 1).trans rfl, (blk_cell BK236.out 2).trans rfl⟩ (fun hHeld => ?_)
           clear hK K
           refine norm_ (a' := ?_) ?_ ?_
           rotate_left
           ·show Act.put _ (some 23) _ = _
            simp only [Act.put, List.setIfInBounds_toArray, List.set_cons_zero, List.set_cons_succ, i64_w, i32_w]
            rfl
           refine one_ (i := 2) (N := some 24) #[true, true, true, true, true, false, true, false, false] rfl rfl (one_of HT_.out (by kernel_rfl)) (by decide) (fun K hK => ?_)
           refine Kd.R_append_rows_step (Kd.int .u8) (w0 := w) w.heap.size (by rfl) (.tmp 22) (.tmp 23) 22 5 (.int .u8 0) 1 rfl Tryd.underlying22 info5 rfl (by decide) (by omega) (.slice Ao24 x3_1.length co24) x3_1 y246 _ _ _ (fun k_ => some k_ ≠ (v256 : Value).ownBlock ∧ some k_ ≠ (.slice Ao32 y246.length co32 : Value).ownBlock) (fun _ => False) rfl rfl ?aO ?aR (fun _ _ h => h) (fun _ h => h.elim) ?aF ?aB ?aS ?aL ?_
           (case aR => repeat (first | exact (Kd.R_reads' HO248.out).2.2 | (with_reducible refine Kd.C_alloc ?_ _) | (with_reducible refine Kd.C_drewN ?_ _) | (with_reducible refine Kd.C_drew ?_)))
           (case aB => exact bw)
           (case aF => exact (fun k_ hk => ⟨Kd.fresh' (Kd.R_lt (by (with_reducible repeat (first | apply Kd.R_alloc | apply Kd.R_drewN | apply Kd.R_drew)); exact HO257.out)) k_ hk, Kd.fresh' (Kd.R_lt (by (with_reducible repeat (first | apply Kd.R_alloc | apply Kd.R_drewN | apply Kd.R_drew)); exact HO248.out)) k_ hk⟩))
           (case aO => exact (by (with_reducible repeat (first | apply Kd.R_alloc | apply Kd.R_drewN | apply Kd.R_drew)); exact Kd.R_mono HO_3.out (fun _ hk => ⟨hk.1.2, hk.2⟩)))
           (case aS => exact (bzz w))
           (case aL => have := LMc19.out; omega)
           intro v250 w31 ho hb hg hat
           rw [← Ny249.out] at ho
           replace BK236 := Aside0.mk (blk_grown (g := gb236) (o := .cells #[.int .i64 ((rd_T43 l0 x9_1).f0), .slice A235_1 ((rd_T43 l0 x9_1).f1).length c235_1, .int .i64 ((rd_T43 l0 x9_1).f2)] 43 (0, 0)) (by (with_reducible repeat (first | refine blk_drewN ?_ _ | refine blk_drew ?_ | refine blk_alloc ?_ _)); exact BK236.out) hg (Kd.R_ne HO_3.out BK236.out (by decide)))
           replace HO257 := Aside0.mk (Kd.R_after (ok := (fun k_ => some k_ ≠ (.slice Ao32 y246.length co32 : Value).ownBlock)) (by (with_reducible repeat (first | apply Kd.R_alloc | apply Kd.R_drewN | apply Kd.R_drew)); exact Kd.R_mono HO257.out (fun _ hk => ⟨hk.2, hk.1.2⟩)) hg hat)
           replace HO248 := Aside0.mk (Kd.R_after (ok := (fun k_ => some k_ ≠ (v256 : Value).ownBlock)) (by (with_reducible repeat (first | apply Kd.R_alloc | apply Kd.R_drewN | apply Kd.R_drew)); exact Kd.R_mono HO248.out (fun _ hk => ⟨hk.2, hk.1.2⟩)) hg hat)
           replace HB := Bw.mk (w := w) (hb)
           have HO251 := Aside0.mk (ho)
           clear HO_3
           clear ho hb hg hat
           obtain ⟨Ao33, co33, eo33⟩ := Kd.R_slice HO251.out
           (first | subst eo33 | (injection eo33 with f1_ f2_ f3_; have f4_ := f1_.symm; have f5_ := f3_.symm; clear f1_ f2_ f3_; subst f4_; subst f5_))
           refine hK.out _ _ ⟨(blk_cell BK236.out 0).trans rfl, (blk_cell BK236.out 1).trans rfl, (blk_cell BK236.out 2).trans rfl⟩ (fun hHeld => ?_)
           clear hK K
           refine norm_ (a' := ?_) ?_ ?_
           rotate_left
           ·show Act.put _ (some 24) _ = _
            simp only [Act.put, List.setIfInBounds_toArray, List.set_cons_zero, List.set_cons_succ, i64_w, i32_w]
            rfl
           refine one_ (i := 5) (N := some 27) #[true, true, true, true, true, true, true, false, false] rfl rfl (one_of HT_.out (by kernel_rfl)) (by decide) (fun K hK => ?_)
           refine goes_ Tryd.func21 (by kernel_rfl) rfl #[.slice Ao33 y249.length co33, .int .i64 ((rd_T43 l0 x9_1).f2), .int .i64 10] (by rfl) rfl rfl (by (try simp only [List.map_toArray, List.map_cons, List.map_nil]); first | done | rfl | (simp only [List.length_drop, List.length_take]; rfl)) ?_
           with_reducible refine (strconv_AppendInt_21.calls (fun k_ => some k_ = (.slice Ao33 y249.length co33 : Value).ownBlock) (.slice Ao33 y249.length co33) y249 ((rd_T43 l0 x9_1).f2) 10 t252 w _ ?side1 ?side2 A20.out).mono ?_
           (case side1 => repeat (first | (with_reducible first | exact HB.out | apply below_alloc | apply pw_below_drewN | apply below_drew1 | refine below_set ?_ GE236.out) | exact HB.out))
           (case side2 => exact Kd.R_tight rfl HO251.out)
           rintro e w34 ⟨v253, rfl, ho0, hb, hkp⟩
           refine ⟨_, rfl, ?_⟩
           replace BK236 := Aside0.mk (blk_kept (by (with_reducible repeat (first | refine blk_drewN ?_ _ | refine blk_drew ?_ | refine blk_alloc ?_ _)); exact BK236.out) hkp (fun hs_ => (fun e_ => (Kd.R_ne HO251.out BK236.out (by decide)) e_) hs_))
           have HO254 := Aside0.mk (Kd.R_mono (ok' := fun k_ => some k_ ≠ (v256 : Value).ownBlock ∧ some k_ ≠ (.slice Ao32 y246.length co32 : Value).ownBlock) ho0 (fun k_ hk_ => ⟨Or.elim hk_ (fun hs_ => fun e_ => (((HO257.out).1 k_ e_.symm).2) hs_) (fun hn_ => (Kd.fresh' (Kd.R_lt (by (with_reducible repeat (first | apply Kd.R_alloc | apply Kd.R_drewN | apply Kd.R_drew)); exact HO257.out)) k_ hn_)), Or.elim hk_ (fun hs_ => fun e_ => (((HO248.out).1 k_ e_.symm).2) hs_) (fun hn_ => (Kd.fresh' (Kd.R_lt (by (with_reducible repeat (first | apply Kd.R_alloc | apply Kd.R_drewN | apply Kd.R_drew)); exact HO248.out)) k_ hn_))⟩))
           replace HO257 := Aside0.mk (Kd.R_mono (ok' := fun k_ => some k_ ≠ (.slice Ao32 y246.length co32 : Value).ownBlock ∧ some k_ ≠ (v253 : Value).ownBlock) (rkeptB (HO257.out) hkp (fun k_ hk_ hs_ => (hk_.2) hs_)) (fun k_ hk_ => ⟨hk_.1.1, fun e_ => Or.elim (ho0.1 k_ e_.symm) (fun hs_ => hk_.2.1 hs_) (fun hn_ => Nat.not_le.2 hk_.2.2 hn_)⟩))
           replace HO248 := Aside0.mk (Kd.R_mono (ok' := fun k_ => some k_ ≠ (v256 : Value).ownBlock ∧ some k_ ≠ (v253 : Value).ownBlock) (rkeptB (HO248.out) hkp (fun k_ hk_ hs_ => (hk_.2) hs_)) (fun k_ hk_ => ⟨hk_.1.1, fun e_ => Or.elim (ho0.1 k_ e_.symm) (fun hs_ => hk_.2.1 hs_) (fun hn_ => Nat.not_le.2 hk_.2.2 hn_)⟩))
           replace HB := Bw.mk (w := w) (hb)
           clear HO251
           (try clear hb)
           (try clear hkp)
           (try clear ho0)
           refine hK.out _ _ ⟨(blk_cell BK236.out 0).trans rfl, (blk_cell BK236.out 1).trans rfl, (blk_cell BK236.out 2).trans rfl⟩ (fun hHeld => ?_)
           clear hK K
           refine norm_ (a' := ?_) ?_ ?_
           rotate_left
           ·show Act.put _ (some 27) _ = _
            simp only [Act.put, List.setIfInBounds_toArray, List.set_cons_zero, List.set_cons_succ, i64_w, i32_w]
            rfl
           exact norm_ (by simp only [putAll, Act.put, List.setIfInBounds_toArray, List.set_cons_zero, List.set_cons_succ]) (hCont (.slice Ao32 y246.length co32, .slice Ao33 y249.length co33, v253, v256) _ ⟨hHeld, (by (with_reducible repeat (first | apply Kd.R_alloc | apply Kd.R_drewN | apply Kd.R_drew)); exact Kd.R_mono HO248.out (fun _ hk => ⟨hk.2, hk.1⟩)), (by (with_reducible repeat (first | apply Kd.R_alloc | apply Kd.R_drewN | apply Kd.R_drew)); exact Kd.R_mono HO254.out (fun _ hk => ⟨hk.2, hk.1⟩)), (by (with_reducible repeat (first | apply Kd.R_alloc | apply Kd.R_drewN | apply Kd.R_drew)); exact HO257.out), (by (with_reducible repeat (first | refine blk_drewN ?_ _ | refine blk_drew ?_ | refine blk_alloc ?_ _)); exact BK236.out), bw⟩)
         rintro ⟨v247, v250, v253, v256⟩ w35 ⟨hS_, h0_, h1_, h2_, h3_, h4_⟩
         have n0_ : Aside0 (Kd.R (Kd.int .u8) 5 w35 w.heap.size (fun k_ => some k_ ≠ (v253 : Value).ownBlock ∧ some k_ ≠ (v256 : Value).ownBlock) v247 y246) := ⟨h0_⟩
         have n1_ : Aside0 (Kd.R (Kd.int .u8) 5 w35 w.heap.size (fun k_ => some k_ ≠ (v247 : Value).ownBlock ∧ some k_ ≠ (v256 : Value).ownBlock) v253 t252) := ⟨h1_⟩
         have n2_ : Aside0 (Kd.R (Kd.int .u8) 5 w35 w.heap.size (fun k_ => some k_ ≠ (v247 : Value).ownBlock ∧ some k_ ≠ (v253 : Value).ownBlock) v256 y255) := ⟨h2_⟩
         have n3_ : Aside0 (w35.heap[gb236]? = some (.cells #[.int .i64 ((rd_T43 l0 x9_1).f0), .slice A235_1 ((rd_T43 l0 x9_1).f1).length c235_1, .int .i64 ((rd_T43 l0 x9_1).f2)] 43 (0, 0))) := ⟨h3_⟩
         have n4_ : Aside0 (Below w.heap.size w w35) := ⟨h4_⟩
         clear HO_3
         clear BK236
         clear HB
         clear h0_ h1_ h2_ h3_ h4_
         have HO248 := n0_
         have HO254 := n1_
         have HO257 := n2_
         have BK236 := n3_
         have HB := Bw.mk (w := w) n4_.out
         clear n0_ n1_ n2_ n3_ n4_
         have hHeld : w35.cell? ⟨gb236, 0, none⟩ = some (.int .i64 ((rd_T43 l0 x9_1).f0)) ∧ w35.cell? ⟨gb236, 1, none⟩ = some (.slice A235_1 ((rd_T43 l0 x9_1).f1).length c235_1) ∧ w35.cell? ⟨gb236, 2, none⟩ = some (.int .i64 ((rd_T43 l0 x9_1).f2)) := hS_
         obtain ⟨Ao37, co37, eo37⟩ := Kd.R_slice HO257.out
         (first | subst eo37 | (injection eo37 with f1_ f2_ f3_; have f4_ := f1_.symm; have f5_ := f3_.symm; clear f1_ f2_ f3_; subst f4_; subst f5_))
         refine norm_ (a' := ?_) ?_ ?_
         rotate_left
         ·simp only [putAll, Act.put, List.setIfInBounds_toArray, List.set_cons_zero, List.set_cons_succ]
          rfl
         refine one_ (i := 7) (N := some 29) #[true, true, true, true, true, true, true, true, false] rfl rfl (one_of HT_.out (by kernel_rfl)) (by decide) (fun K hK => ?_)
         refine Kd.R_append_rows_step (Kd.int .u8) (w0 := w) w.heap.size (by rfl) (.tmp 27) (.tmp 28) 22 5 (.int .u8 0) 1 rfl Tryd.underlying22 info5 rfl (by decide) (by omega) v253 t252 y255 _ _ _ (fun k_ => some k_ ≠ (v247 : Value).ownBlock ∧ some k_ ≠ (.slice Ao37 y255.length co37 : Value).ownBlock) (fun _ => False) rfl rfl ?aO ?aR (fun _ _ h => h) (fun _ h => h.elim) ?aF ?aB ?aS ?aL ?_
         (case aR => repeat (first | exact (Kd.R_reads' HO257.out).2.2 | (with_reducible refine Kd.C_alloc ?_ _) | (with_reducible refine Kd.C_drewN ?_ _) | (with_reducible refine Kd.C_drew ?_)))
         (case aB => exact bw)
         (case aF => exact (fun k_ hk => ⟨Kd.fresh' (Kd.R_lt (by (with_reducible repeat (first | apply Kd.R_alloc | apply Kd.R_drewN | apply Kd.R_drew)); exact HO248.out)) k_ hk, Kd.fresh' (Kd.R_lt (by (with_reducible repeat (first | apply Kd.R_alloc | apply Kd.R_drewN | apply Kd.R_drew)); exact HO257.out)) k_ hk⟩))
         (case aO => exact (by (with_reducible repeat (first | apply Kd.R_alloc | apply Kd.R_drewN | apply Kd.R_drew)); exact HO254.out))
         (case aS => exact (bzz w))
         (case aL => have := LMc21.out; omega)
         intro v259 w36 ho hb hg hat
         rw [← Ny258.out] at ho
         replace BK236 := Aside0.mk (blk_grown (g := gb236) (o := .cells #[.int .i64 ((rd_T43 l0 x9_1).f0), .slice A235_1 ((rd_T43 l0 x9_1).f1).length c235_1, .int .i64 ((rd_T43 l0 x9_1).f2)] 43 (0, 0)) (by (with_reducible repeat (first | refine blk_drewN ?_ _ | refine blk_drew ?_ | refine blk_alloc ?_ _)); exact BK236.out) hg (Kd.R_ne HO254.out BK236.out (by decide)))
         replace HO248 := Aside0.mk (Kd.R_after (ok := (fun k_ => some k_ ≠ (.slice Ao37 y255.length co37 : Value).ownBlock)) (by (with_reducible repeat (first | apply Kd.R_alloc | apply Kd.R_drewN | apply Kd.R_drew)); exact Kd.R_mono HO248.out (fun _ hk => ⟨hk.2, hk.1⟩)) hg hat)
         replace HO257 := Aside0.mk (Kd.R_after (ok := (fun k_ => some k_ ≠ (v247 : Value).ownBlock)) (by (with_reducible repeat (first | apply Kd.R_alloc | apply Kd.R_drewN | apply Kd.R_drew)); exact HO257.out) hg hat)
         replace HB := Bw.mk (w := w) (hb)
         have HO260 := Aside0.mk (ho)
         clear HO254
         clear ho hb hg hat
         refine hK.out _ _ ⟨(blk_cell BK236.out 0).trans rfl, (blk_cell BK236.out 1).trans rfl, (blk_cell BK236.out 2).trans rfl⟩ (fun hHeld => ?_)
         clear hK K
         refine norm_ (a' := ?_) ?_ ?_
         rotate_left
         ·show Act.put _ (some 29) _ = _
          simp only [Act.put, List.setIfInBounds_toArray, List.set_cons_zero, List.set_cons_succ, i64_w, i32_w]
          rfl
         refine pure_ (i := 8) (N := some 3) (v := ?_) (a' := ?_) #[true, true, true, true, true, true, true, true, true] rfl rfl (any_of HT_.out (by kernel_rfl)) (fun _ _ _ h => h) (Or.inl ⟨by rfl, ?_⟩) ?_ ?_
         rotate_left
         ·intro w'
          go_simp
          with_reducible rfl
         rotate_left
         ·simp only [Act.put, List.setIfInBounds_toArray, List.set_cons_zero, List.set_cons_succ, i64_w, i32_w]
          rfl
         refine done_ (done_of HT_.out (by kernel_rfl)) ?_
         try go_wp2
         go_roundg k1
         case measure => have := HK1.out; omega
         case rel => exact ⟨(y258), (wrap64 (x9_1 + 1)), (by first | rfl | (simp; done) | (simp [*]; done)), H', ⟨by have := HK1.out; omega⟩, ⟨by (with_reducible repeat (first | apply Kd.R_alloc | apply Kd.R_drewN | apply Kd.R_drew)); exact Kd.R_mono HO260.out (fun _ hk => trivial)⟩, ⟨bw⟩⟩
        ·rw [if_neg c21] at H
         exact absurd H (by simp)
       ·rw [if_neg c19] at H
        exact absurd H (by simp)
     ·rw [if_neg c6] at H
      exact absurd H (by simp)
    ·rw [if_neg c5] at H
     exact absurd H (by simp)
   ·rw [if_neg c4] at H
    have c4b0 : decide (x9_1 < (l0.length : Int)) = false := decide_eq_false c4
    clear c4
    obtain rfl := Option.some.inj H
    go_wp2
    go_ret
    exact ⟨_, by first | rfl | (simp [errW_none, errW_some] <;> rfl) | (simp [*, errW_none, errW_some] <;> rfl), by (with_reducible repeat (first | apply Kd.R_alloc | apply Kd.R_drewN | apply Kd.R_drew)); exact HO_3.out, bw⟩

end Go.Proofs.YtmigpeaiepdmbaaDoor.PFnExactPathText
