/- impl.copyValue: what it makes lies apart to the bottom. No condition. -/
import Derived.Test.YtenpjddjmhjdoaaPFnExactAtx0
import Derived.Test.YtenpjddjmhjdoaaPFnExactAtx12
import Derived.Test.YtenpjddjmhjdoaaPFnExactAtx17
namespace Go.Proofs.Ytenpjddjmhjdoaa.PFnExactAt
open Go.RowKit Go.Proofs.YtenpjddjmhjdoaaW.PrintWords Go.Proofs.YtenpjddjmhjdoaaW.PrintLast Go.Proofs.YtenpjddjmhjdoaaW.PrintMore Go.Proofs.Ytenpjddjmhjdoaa.M
attribute [local go_sem] max2_int min2_int max_two min_two max_three min_three max_four min_four Go.Proofs.Ytenpjddjmhjdoaa.M.str_gtr Go.Proofs.Ytenpjddjmhjdoaa.M.str_leq Go.Proofs.Ytenpjddjmhjdoaa.M.str_geq   -- for this text's walks alone
set_option linter.unusedVariables false
set_option linter.unusedSimpArgs false
set_option maxHeartbeats 8000000 in
set_option maxRecDepth 100000 in
theorem impl_copyValue.dcalls (k : Nat) : ∀ (a0_0 : Int) (a0_1 : Int) (A0_2 : Option Addr) (c0_2 : Nat) (l0_2 : List Int) (A0_3 : Option Addr) (c0_3 : Nat) (l0_3 : List (List Int)) (A0_4 : Option Addr) (c0_4 : Nat) (l0_4 : List (S30)) (r1 : Int) (r2 : Int) (r3 : List Int) (r4 : List (List Int)) (r5 : List (S30)) (w : World) (hr0_2 : Kd.C (Kd.int .u8) w A0_2 l0_2.length l0_2) (hc0_2 : l0_2.length ≤ c0_2) (hr0_3 : Kd.C (Kd.slice 5 (Kd.int .u8)) w A0_3 l0_3.length l0_3) (hc0_3 : l0_3.length ≤ c0_3) (hr0_4 : Kd.C k30 w A0_4 l0_4.length l0_4) (hc0_4 : l0_4.length ≤ c0_4) (h : impl_copyValue.f k a0_0 a0_1 l0_2 l0_3 l0_4 = some (r1, r2, r3, r4, r5)),
  Calls Try.prog 59 #[.agg #[.int .i64 a0_0, .int .i64 a0_1, .slice A0_2 l0_2.length c0_2, .slice A0_3 l0_3.length c0_3, .slice A0_4 l0_4.length c0_4]] w fun e w' => ∃ v2_ v3_ v4_ : Value, e = .returned (.agg #[.int .i64 r1, .int .i64 r2, v2_, v3_, v4_]) ∧ dV.M w' w.heap.size (fun _ => True) ⟨r1, r2, r3, r4, r5⟩ [.int .i64 r1, .int .i64 r2, v2_, v3_, v4_] ∧ Below w.heap.size w w' := by
 induction k using Nat.strongRecOn with
 | _ k ih =>
 intro a0_0 a0_1 A0_2 c0_2 l0_2 A0_3 c0_3 l0_3 A0_4 c0_4 l0_4 r1 r2 r3 r4 r5 w hr0_2 hc0_2 hr0_3 hc0_3 hr0_4 hc0_4 h
 cases k with
 | zero => exact absurd h (by simp [impl_copyValue.f])
 | succ k =>
 simp only [impl_copyValue.f] at h
 have hu30 := Try.underlying30; have HR0_2 := Aside0.mk hr0_2; have HC0_2 := Aside0.mk hc0_2; clear hr0_2 hc0_2; have HR0_3 := Aside0.mk hr0_3; have HC0_3 := Aside0.mk hc0_3; clear hr0_3 hc0_3; have HR0_4 := Aside0.mk hr0_4; have HC0_4 := Aside0.mk hc0_4; clear hr0_4 hc0_4; have HB := Bw.refl w
 have H : ((impl_copyBytes.f l0_2).bind fun t352 => ((impl_copyTexts.f k l0_3).bind fun t355 => (impl_copyValue.l0 k l0_4 (l0_4.length : Int) 0 a0_0 a0_1 t352 t355 ([] : List (S30))))) = some (r1, r2, r3, r4, r5) := h
 clear h; replace H := Option.bind_eq_some_iff.mp H; obtain ⟨t352, A20, H⟩ := H
 replace H : ((impl_copyTexts.f k l0_3).bind fun t355 => (impl_copyValue.l0 k l0_4 (l0_4.length : Int) 0 a0_0 a0_1 t352 t355 ([] : List (S30)))) = some (r1, r2, r3, r4, r5) := H
 have A2 := Aside0.mk A20; clear A20; replace H := Option.bind_eq_some_iff.mp H; obtain ⟨t355, A30, H⟩ := H; replace H : (impl_copyValue.l0 k l0_4 (l0_4.length : Int) 0 a0_0 a0_1 t352 t355 ([] : List (S30))) = some (r1, r2, r3, r4, r5) := H; have A3 := Aside0.mk A30; clear A30; have H' := Aside0.mk H; clear H
 go_enter Try.func59, Try.ntmps59
 try go_wp2_with (first | ((with_reducible refine gate_dst (N := 1) rfl ?_); refine box_event rfl (N := 1) rfl (cs := #[.int .i64 a0_0, .int .i64 a0_1, .slice A0_2 l0_2.length c0_2, .slice A0_3 l0_3.length c0_3, .slice A0_4 l0_4.length c0_4]) (t := 30) (by go_simp <;> rfl) ?_; intro gb350 hg w4 hbox hb; have BK350 := Aside0.mk (hbox); have GE350 := (Ge.of hg : Ge w.heap.size gb350); replace HB := (Bw.sw w hb); clear hb hbox hg) | ((with_reducible refine gate_dst (N := 2) rfl ?_); refine box_event rfl (N := 2) rfl (cs := #[.int .i64 0, .int .i64 0, .slice none 0 0, .slice none 0 0, .slice none 0 0]) (t := 30) (by go_simp <;> rfl) ?_; intro gb351 hg w5 hbox hb; have BK351 := Aside0.mk (hbox); have GE351 := (Ge.of hg : Ge w.heap.size gb351); replace HB := (Bw.sw w hb); have NB350_351 := Aside0.mk ((by rw [hg]; exact Nat.ne_of_lt (blk_lt BK350.out) : gb350 ≠ gb351)); have NB351_350 := Aside0.mk ((by rw [hg]; exact Nat.ne_of_gt (blk_lt BK350.out) : gb351 ≠ gb350)); replace BK350 := Aside0.mk (blk_below BK350.out hb); clear hb hbox hg))
 replace BK350 := Aside0.mk (blk_drew BK350.out); replace BK351 := Aside0.mk (blk_drew BK351.out); replace HB := Bw.mk (w := w) (below_drew1 HB.out)
 refine start_ (n := 13) (S := fun w' => w'.cell? ⟨gb350, 0, none⟩ = some (.int .i64 a0_0) ∧ w'.cell? ⟨gb350, 1, none⟩ = some (.int .i64 a0_1) ∧ w'.cell? ⟨gb350, 2, none⟩ = some (.slice A0_2 l0_2.length c0_2) ∧ w'.cell? ⟨gb350, 3, none⟩ = some (.slice A0_3 l0_3.length c0_3) ∧ w'.cell? ⟨gb350, 4, none⟩ = some (.slice A0_4 l0_4.length c0_4)) (ds := []) #[false, false, false, false, false, false, false, false, false, false, false, false, false] (by kernel_rfl) rfl rfl ⟨(blk_cell BK350.out 0).trans rfl, (blk_cell BK350.out 1).trans rfl, (blk_cell BK350.out 2).trans rfl, (blk_cell BK350.out 3).trans rfl, (blk_cell BK350.out 4).trans rfl⟩ (fun hHeld => ?_); refine with_tabW impl_copyValue.tab1 impl_copyValue.bits1 (fun HT_ HW_ => ?_)
 generalize w5.drew = w6 at BK350 BK351 HB hHeld ⊢
 refine pure_ (i := 0) (N := some 6) (v := ?_) (a' := ?_) #[true, false, false, false, false, false, false, false, false, false, false, false, false] rfl rfl (any_of HT_.out (by kernel_rfl)) (fun _ _ _ h => h) (Or.inl ⟨by rfl, ?_⟩) ?_ ?_
 rotate_left
 ·intro w'
  go_simp
  with_reducible rfl
 rotate_left
 ·simp only [Act.put, List.setIfInBounds_toArray, List.set_cons_zero, List.set_cons_succ, i64_w, i32_w]
  rfl
 refine pure_ (i := 2) (N := some 8) (v := ?_) (a' := ?_) #[true, false, true, false, false, false, false, false, false, false, false, false, false] rfl rfl (any_of HT_.out (by kernel_rfl)) (fun _ _ _ h => h) (Or.inl ⟨by rfl, ?_⟩) ?_ ?_
 rotate_left
 ·intro w'
  go_simp
  with_reducible rfl
 rotate_left
 ·simp only [Act.put, List.setIfInBounds_toArray, List.set_cons_zero, List.set_cons_succ, i64_w, i32_w]
  rfl
 refine pure_ (i := 4) (N := some 10) (v := ?_) (a' := ?_) #[true, false, true, false, true, false, false, false, false, false, false, false, false] rfl rfl (any_of HT_.out (by kernel_rfl)) (fun _ _ _ h => h) (Or.inl ⟨by rfl, ?_⟩) ?_ ?_
 rotate_left
 ·intro w'
  go_simp
  with_reducible rfl
 rotate_left
 ·simp only [Act.put, List.setIfInBounds_toArray, List.set_cons_zero, List.set_cons_succ, i64_w, i32_w]
  rfl
 refine pure_ (i := 7) (N := some 13) (v := ?_) (a' := ?_) #[true, false, true, false, true, false, false, true, false, false, false, false, false] rfl rfl (any_of HT_.out (by kernel_rfl)) (fun _ _ _ h => h) (Or.inl ⟨by rfl, ?_⟩) ?_ ?_
 rotate_left
 ·intro w'
  go_simp
  with_reducible rfl
 rotate_left
 ·simp only [Act.put, List.setIfInBounds_toArray, List.set_cons_zero, List.set_cons_succ, i64_w, i32_w]
  rfl
 refine take_ (i := 1) (N := some 7) (v := ?_) (a' := ?_) #[true, true, true, false, true, false, false, true, false, false, false, false, false] rfl rfl (take_ofW HT_.out HW_.out (by kernel_rfl)) (fun _ _ _ h => h) (Or.inl ⟨by rfl, ?_⟩) hHeld ?_ ?_
 rotate_left
 ·rintro w' ⟨s0, s1, s2, s3, s4⟩
  go_simp
  with_reducible rfl
 rotate_left
 ·simp only [Act.put, List.setIfInBounds_toArray, List.set_cons_zero, List.set_cons_succ, i64_w, i32_w]
  rfl
 refine take_ (i := 3) (N := some 9) (v := ?_) (a' := ?_) #[true, true, true, true, true, false, false, true, false, false, false, false, false] rfl rfl (take_ofW HT_.out HW_.out (by kernel_rfl)) (fun _ _ _ h => h) (Or.inl ⟨by rfl, ?_⟩) hHeld ?_ ?_
 rotate_left
 ·rintro w' ⟨s0, s1, s2, s3, s4⟩
  go_simp
  with_reducible rfl
 rotate_left
 ·simp only [Act.put, List.setIfInBounds_toArray, List.set_cons_zero, List.set_cons_succ, i64_w, i32_w]
  rfl
 refine take_ (i := 5) (N := some 11) (v := ?_) (a' := ?_) #[true, true, true, true, true, true, false, true, false, false, false, false, false] rfl rfl (take_ofW HT_.out HW_.out (by kernel_rfl)) (fun _ _ _ h => h) (Or.inl ⟨by rfl, ?_⟩) hHeld ?_ ?_
 rotate_left
 ·rintro w' ⟨s0, s1, s2, s3, s4⟩
  go_simp
  with_reducible rfl
 rotate_left
 ·simp only [Act.put, List.setIfInBounds_toArray, List.set_cons_zero, List.set_cons_succ, i64_w, i32_w]
  rfl
 refine take_ (i := 8) (N := some 14) (v := ?_) (a' := ?_) #[true, true, true, true, true, true, false, true, true, false, false, false, false] rfl rfl (take_ofW HT_.out HW_.out (by kernel_rfl)) (fun _ _ _ h => h) (Or.inl ⟨by rfl, ?_⟩) hHeld ?_ ?_
 rotate_left
 ·rintro w' ⟨s0, s1, s2, s3, s4⟩
  go_simp
  with_reducible rfl
 rotate_left
 ·simp only [Act.put, List.setIfInBounds_toArray, List.set_cons_zero, List.set_cons_succ, i64_w, i32_w]
  rfl
 refine join_ (σ := Value × Value × Nat) 1 #[true, true, true, true, true, true, true, true, true, true, true, true, false] (fun s_ => [(12, s_.1), (15, s_.2.1), (3, .pointer (some ⟨s_.2.2, 0, none⟩)), (16, .agg #[.int .i64 a0_0, .int .i64 a0_1, s_.1, s_.2.1, .slice none 0 0])]) (fun s_ w' => (w'.cell? ⟨gb350, 0, none⟩ = some (.int .i64 a0_0) ∧ w'.cell? ⟨gb350, 1, none⟩ = some (.int .i64 a0_1) ∧ w'.cell? ⟨gb350, 2, none⟩ = some (.slice A0_2 l0_2.length c0_2) ∧ w'.cell? ⟨gb350, 3, none⟩ = some (.slice A0_3 l0_3.length c0_3) ∧ w'.cell? ⟨gb350, 4, none⟩ = some (.slice A0_4 l0_4.length c0_4)) ∧ (Kd.R (Kd.int .u8) 5 w' w.heap.size (fun _ => True) s_.1 t352) ∧ (Kd.S (Kd.slice 5 (Kd.int .u8)) 22 w' w.heap.size (fun k_ => some k_ ≠ (s_.1 : Value).ownBlock) s_.2.1 t355) ∧ (w'.heap[gb350]? = some (.cells #[.int .i64 a0_0, .int .i64 a0_1, .slice A0_2 l0_2.length c0_2, .slice A0_3 l0_3.length c0_3, .slice A0_4 l0_4.length c0_4] 30 (0, 0))) ∧ (w'.heap[gb351]? = some (.cells #[.int .i64 0, .int .i64 0, .slice none 0 0, .slice none 0 0, .slice none 0 0] 30 (0, 0))) ∧ (w'.heap[s_.2.2]? = some (.cells #[.int .i64 0, .int .i64 0, .slice none 0 0, .slice none 0 0, .slice none 0 0] 30 (0, 0))) ∧ (w.heap.size ≤ s_.2.2) ∧ (w.heap.size ≤ s_.2.2) ∧ (gb350 ≠ s_.2.2) ∧ (s_.2.2 ≠ gb350) ∧ (gb351 ≠ s_.2.2) ∧ (s_.2.2 ≠ gb351) ∧ (Below w.heap.size w w')) ?_ ?_
 rotate_left
 ·as_aux_lemma =>
  intro hCont
  refine two_ (i := 6) (j := 11) (Ni := some 12) (Nj := some 3) #[true, true, true, true, true, true, true, true, true, false, false, false, false] #[true, true, true, true, true, true, false, true, true, false, false, true, false] rfl rfl rfl rfl (two_of HT_.out (by kernel_rfl)) (by decide) (by decide) (fun K hK => ?_) (fun K hK => ?_)
  ·as_aux_lemma =>
   skip
   refine goes_ Try.func100 (by kernel_rfl) rfl #[.slice A0_2 l0_2.length c0_2] (by rfl) rfl rfl (by (try simp only [List.map_toArray, List.map_cons, List.map_nil]); first | done | rfl | (simp only [List.length_drop, List.length_take]; rfl)) ?_
   with_reducible refine (impl_copyBytes.calls _ _ l0_2 t352 _ ?side1 ?side2 A2.out).mono ?_
   (case side1 => exact (Kd.C_below HR0_2.out HB.out))
   (case side2 => exact HC0_2.out)
   rintro e w7 ⟨v353, rfl, ho0, hb⟩
   refine ⟨_, rfl, ?_⟩; have HO354 := Aside0.mk (Kd.R_lower ho0 (bzz w)); replace BK350 := Aside0.mk (blk_below BK350.out hb); replace BK351 := Aside0.mk (blk_below BK351.out hb); replace HB := (Bw.sw w hb)
   (try clear hb)
   (try clear hb2)
   (try clear hk)
   (try clear hi)
   (try clear ho0)
   refine hK.out _ _ ⟨(blk_cell BK350.out 0).trans rfl, (blk_cell BK350.out 1).trans rfl, (blk_cell BK350.out 2).trans rfl, (blk_cell BK350.out 3).trans rfl, (blk_cell BK350.out 4).trans rfl⟩ (fun hHeld => ?_)
   clear hK K; refine norm_ (a' := ?_) ?_ ?_; rotate_left
   ·show Act.put _ (some 12) _ = _
    simp only [Act.put, List.setIfInBounds_toArray, List.set_cons_zero, List.set_cons_succ, i64_w, i32_w]
    rfl
   refine two_ (i := 9) (j := 11) (Ni := some 15) (Nj := some 3) #[true, true, true, true, true, true, true, true, true, true, false, false, false] #[true, true, true, true, true, true, true, true, true, false, false, true, false] rfl rfl rfl rfl (two_of HT_.out (by kernel_rfl)) (by decide) (by decide) (fun K hK => ?_) (fun K hK => ?_)
   ·skip
    refine goes_ Try.func78 (by kernel_rfl) rfl #[.slice A0_3 l0_3.length c0_3] (by rfl) rfl rfl (by (try simp only [List.map_toArray, List.map_cons, List.map_nil]); first | done | rfl | (simp only [List.length_drop, List.length_take]; rfl)) ?_
    with_reducible refine (impl_copyTexts.calls k _ _ l0_3 t355 _ ?side1 ?side2 A3.out).mono ?_
    (case side1 => exact (Kd.C_below HR0_3.out HB.out))
    (case side2 => exact HC0_3.out)
    rintro e w8 ⟨v356, rfl, ho0, hb⟩
    refine ⟨_, rfl, ?_⟩
    have HO357 := Aside0.mk (Kd.S_lower (Kd.S_new' ho0 (Kd.R_lt (by exact HO354.out))) (bzz w))
    replace HO354 := Aside0.mk (Kd.R_below (by exact HO354.out) hb)
    replace BK350 := Aside0.mk (blk_below BK350.out hb); replace BK351 := Aside0.mk (blk_below BK351.out hb); replace HB := (Bw.sw w hb)
    (try clear hb)
    (try clear hb2)
    (try clear hk)
    (try clear hi)
    (try clear ho0)
    obtain ⟨Ao9, co9, eo9⟩ := Kd.S_slice HO357.out
    (first | subst eo9 | (injection eo9 with f1_ f2_ f3_; have f4_ := f1_.symm; have f5_ := f3_.symm; clear f1_ f2_ f3_; subst f4_; subst f5_))
    obtain ⟨Ao10, co10, eo10⟩ := Kd.R_slice HO354.out
    (first | subst eo10 | (injection eo10 with f1_ f2_ f3_; have f4_ := f1_.symm; have f5_ := f3_.symm; clear f1_ f2_ f3_; subst f4_; subst f5_))
    refine hK.out _ _ ⟨(blk_cell BK350.out 0).trans rfl, (blk_cell BK350.out 1).trans rfl, (blk_cell BK350.out 2).trans rfl, (blk_cell BK350.out 3).trans rfl, (blk_cell BK350.out 4).trans rfl⟩ (fun hHeld => ?_)
    clear hK K; refine norm_ (a' := ?_) ?_ ?_; rotate_left
    ·show Act.put _ (some 15) _ = _
     simp only [Act.put, List.setIfInBounds_toArray, List.set_cons_zero, List.set_cons_succ, i64_w, i32_w]
     rfl
    refine pure_ (i := 10) (N := some 16) (v := ?_) (a' := ?_) #[true, true, true, true, true, true, true, true, true, true, true, false, false] rfl rfl (any_of HT_.out (by kernel_rfl)) (fun _ _ _ h => h) (Or.inl ⟨by rfl, ?_⟩) ?_ ?_
    rotate_left
    ·intro w'
     go_simp
     with_reducible rfl
    rotate_left
    ·simp only [Act.put, List.setIfInBounds_toArray, List.set_cons_zero, List.set_cons_succ, i64_w, i32_w]
     rfl
    refine one_ (i := 11) (N := some 3) #[true, true, true, true, true, true, true, true, true, true, true, true, false] rfl rfl (one_of HT_.out (by kernel_rfl)) (by decide) (fun K hK => ?_)
    refine box_step ?hg (N := 3) ?hd (cs := #[.int .i64 0, .int .i64 0, .slice none 0 0, .slice none 0 0, .slice none 0 0]) (t := 30) ?hr ?_; (case hd => rfl); (case hg => rfl); (case hr => first | (go_simp; done) | (go_simp; rfl))
    intro gb358 hg w11 hbox hb
    replace HO354 := Aside0.mk (Kd.R_below (by exact HO354.out) hb)
    replace HO357 := Aside0.mk (Kd.S_below (by exact HO357.out) hb)
    have BK358 := Aside0.mk (hbox); have GE358 := (Ge.of hg : Ge w.heap.size gb358); replace HB := (Bw.sw w hb)
    have NB350_358 := Aside0.mk ((by rw [hg]; exact Nat.ne_of_lt (blk_lt BK350.out) : gb350 ≠ gb358))
    have NB358_350 := Aside0.mk ((by rw [hg]; exact Nat.ne_of_gt (blk_lt BK350.out) : gb358 ≠ gb350))
    replace BK350 := Aside0.mk (blk_below BK350.out hb)
    have NB351_358 := Aside0.mk ((by rw [hg]; exact Nat.ne_of_lt (blk_lt BK351.out) : gb351 ≠ gb358))
    have NB358_351 := Aside0.mk ((by rw [hg]; exact Nat.ne_of_gt (blk_lt BK351.out) : gb358 ≠ gb351))
    replace BK351 := Aside0.mk (blk_below BK351.out hb); clear hb hbox hg
    refine hK.out _ _ ⟨(blk_cell BK350.out 0).trans rfl, (blk_cell BK350.out 1).trans rfl, (blk_cell BK350.out 2).trans rfl, (blk_cell BK350.out 3).trans rfl, (blk_cell BK350.out 4).trans rfl⟩ (fun hHeld => ?_)
    clear hK K; refine norm_ (a' := ?_) ?_ ?_; rotate_left
    ·show Act.put _ (some 3) _ = _
     simp only [Act.put, List.setIfInBounds_toArray, List.set_cons_zero, List.set_cons_succ, i64_w, i32_w]
     rfl
    exact norm_ (by simp only [putAll, Act.put, List.setIfInBounds_toArray, List.set_cons_zero, List.set_cons_succ]) (hCont (.slice Ao10 t352.length co10, .slice Ao9 t355.length co9, gb358) _ ⟨hHeld, (by exact HO354.out), (by exact Kd.S_mono HO357.out (fun _ hk => hk.2)), BK350.out, BK351.out, BK358.out, GE358.out, GE358.out, NB350_358.out, NB358_350.out, NB351_358.out, NB358_351.out, bw⟩)
   ·skip
    refine box_step ?hg (N := 3) ?hd (cs := #[.int .i64 0, .int .i64 0, .slice none 0 0, .slice none 0 0, .slice none 0 0]) (t := 30) ?hr ?_; (case hd => rfl); (case hg => rfl); (case hr => first | (go_simp; done) | (go_simp; rfl))
    intro gb358 hg w8 hbox hb
    replace HO354 := Aside0.mk (Kd.R_below (by exact HO354.out) hb)
    have BK358 := Aside0.mk (hbox); have GE358 := (Ge.of hg : Ge w.heap.size gb358); replace HB := (Bw.sw w hb)
    have NB350_358 := Aside0.mk ((by rw [hg]; exact Nat.ne_of_lt (blk_lt BK350.out) : gb350 ≠ gb358))
    have NB358_350 := Aside0.mk ((by rw [hg]; exact Nat.ne_of_gt (blk_lt BK350.out) : gb358 ≠ gb350))
    replace BK350 := Aside0.mk (blk_below BK350.out hb)
    have NB351_358 := Aside0.mk ((by rw [hg]; exact Nat.ne_of_lt (blk_lt BK351.out) : gb351 ≠ gb358))
    have NB358_351 := Aside0.mk ((by rw [hg]; exact Nat.ne_of_gt (blk_lt BK351.out) : gb358 ≠ gb351))
    replace BK351 := Aside0.mk (blk_below BK351.out hb); clear hb hbox hg
    refine hK.out _ _ ⟨(blk_cell BK350.out 0).trans rfl, (blk_cell BK350.out 1).trans rfl, (blk_cell BK350.out 2).trans rfl, (blk_cell BK350.out 3).trans rfl, (blk_cell BK350.out 4).trans rfl⟩ (fun hHeld => ?_)
    clear hK K; refine norm_ (a' := ?_) ?_ ?_; rotate_left
    ·show Act.put _ (some 3) _ = _
     simp only [Act.put, List.setIfInBounds_toArray, List.set_cons_zero, List.set_cons_succ, i64_w, i32_w]
     rfl
    refine one_ (i := 9) (N := some 15) #[true, true, true, true, true, true, true, true, true, true, false, true, false] rfl rfl (one_of HT_.out (by kernel_rfl)) (by decide) (fun K hK => ?_)
    refine goes_ Try.func78 (by kernel_rfl) rfl #[.slice A0_3 l0_3.length c0_3] (by rfl) rfl rfl (by (try simp only [List.map_toArray, List.map_cons, List.map_nil]); first | done | rfl | (simp only [List.length_drop, List.length_take]; rfl)) ?_
    with_reducible refine (impl_copyTexts.calls k _ _ l0_3 t355 _ ?side1 ?side2 A3.out).mono ?_
    (case side1 => exact (Kd.C_below HR0_3.out HB.out))
    (case side2 => exact HC0_3.out)
    rintro e w9 ⟨v356, rfl, ho0, hb⟩
    refine ⟨_, rfl, ?_⟩
    have HO357 := Aside0.mk (Kd.S_lower (Kd.S_new' ho0 (Kd.R_lt (by exact HO354.out))) (bzz w))
    replace HO354 := Aside0.mk (Kd.R_below (by exact HO354.out) hb)
    replace BK350 := Aside0.mk (blk_below BK350.out hb); replace BK351 := Aside0.mk (blk_below BK351.out hb); replace BK358 := Aside0.mk (blk_below BK358.out hb); replace HB := (Bw.sw w hb)
    (try clear hb)
    (try clear hb2)
    (try clear hk)
    (try clear hi)
    (try clear ho0)
    obtain ⟨Ao10, co10, eo10⟩ := Kd.S_slice HO357.out
    (first | subst eo10 | (injection eo10 with f1_ f2_ f3_; have f4_ := f1_.symm; have f5_ := f3_.symm; clear f1_ f2_ f3_; subst f4_; subst f5_))
    obtain ⟨Ao11, co11, eo11⟩ := Kd.R_slice HO354.out
    (first | subst eo11 | (injection eo11 with f1_ f2_ f3_; have f4_ := f1_.symm; have f5_ := f3_.symm; clear f1_ f2_ f3_; subst f4_; subst f5_))
    refine hK.out _ _ ⟨(blk_cell BK350.out 0).trans rfl, (blk_cell BK350.out 1).trans rfl, (blk_cell BK350.out 2).trans rfl, (blk_cell BK350.out 3).trans rfl, (blk_cell BK350.out 4).trans rfl⟩ (fun hHeld => ?_)
    clear hK K; refine norm_ (a' := ?_) ?_ ?_; rotate_left
    ·show Act.put _ (some 15) _ = _
     simp only [Act.put, List.setIfInBounds_toArray, List.set_cons_zero, List.set_cons_succ, i64_w, i32_w]
     rfl
    refine pure_ (i := 10) (N := some 16) (v := ?_) (a' := ?_) #[true, true, true, true, true, true, true, true, true, true, true, true, false] rfl rfl (any_of HT_.out (by kernel_rfl)) (fun _ _ _ h => h) (Or.inl ⟨by rfl, ?_⟩) ?_ ?_
    rotate_left
    ·intro w'
     go_simp
     with_reducible rfl
    rotate_left
    ·simp only [Act.put, List.setIfInBounds_toArray, List.set_cons_zero, List.set_cons_succ, i64_w, i32_w]
     rfl
    exact norm_ (by simp only [putAll, Act.put, List.setIfInBounds_toArray, List.set_cons_zero, List.set_cons_succ]) (hCont (.slice Ao11 t352.length co11, .slice Ao10 t355.length co10, gb358) _ ⟨hHeld, (by exact HO354.out), (by exact Kd.S_mono HO357.out (fun _ hk => hk.2)), BK350.out, BK351.out, BK358.out, GE358.out, GE358.out, NB350_358.out, NB358_350.out, NB351_358.out, NB358_351.out, bw⟩)
  ·as_aux_lemma =>
   skip
   refine box_step ?hg (N := 3) ?hd (cs := #[.int .i64 0, .int .i64 0, .slice none 0 0, .slice none 0 0, .slice none 0 0]) (t := 30) ?hr ?_; (case hd => rfl); (case hg => rfl); (case hr => first | (go_simp; done) | (go_simp; rfl))
   intro gb358 hg w7 hbox hb; have BK358 := Aside0.mk (hbox); have GE358 := (Ge.of hg : Ge w.heap.size gb358); replace HB := (Bw.sw w hb)
   have NB350_358 := Aside0.mk ((by rw [hg]; exact Nat.ne_of_lt (blk_lt BK350.out) : gb350 ≠ gb358))
   have NB358_350 := Aside0.mk ((by rw [hg]; exact Nat.ne_of_gt (blk_lt BK350.out) : gb358 ≠ gb350))
   replace BK350 := Aside0.mk (blk_below BK350.out hb)
   have NB351_358 := Aside0.mk ((by rw [hg]; exact Nat.ne_of_lt (blk_lt BK351.out) : gb351 ≠ gb358))
   have NB358_351 := Aside0.mk ((by rw [hg]; exact Nat.ne_of_gt (blk_lt BK351.out) : gb358 ≠ gb351))
   replace BK351 := Aside0.mk (blk_below BK351.out hb); clear hb hbox hg
   refine hK.out _ _ ⟨(blk_cell BK350.out 0).trans rfl, (blk_cell BK350.out 1).trans rfl, (blk_cell BK350.out 2).trans rfl, (blk_cell BK350.out 3).trans rfl, (blk_cell BK350.out 4).trans rfl⟩ (fun hHeld => ?_)
   clear hK K; refine norm_ (a' := ?_) ?_ ?_; rotate_left
   ·show Act.put _ (some 3) _ = _
    simp only [Act.put, List.setIfInBounds_toArray, List.set_cons_zero, List.set_cons_succ, i64_w, i32_w]
    rfl
   refine one_ (i := 6) (N := some 12) #[true, true, true, true, true, true, true, true, true, false, false, true, false] rfl rfl (one_of HT_.out (by kernel_rfl)) (by decide) (fun K hK => ?_)
   refine goes_ Try.func100 (by kernel_rfl) rfl #[.slice A0_2 l0_2.length c0_2] (by rfl) rfl rfl (by (try simp only [List.map_toArray, List.map_cons, List.map_nil]); first | done | rfl | (simp only [List.length_drop, List.length_take]; rfl)) ?_
   with_reducible refine (impl_copyBytes.calls _ _ l0_2 t352 _ ?side1 ?side2 A2.out).mono ?_
   (case side1 => exact (Kd.C_below HR0_2.out HB.out))
   (case side2 => exact HC0_2.out)
   rintro e w8 ⟨v353, rfl, ho0, hb⟩
   refine ⟨_, rfl, ?_⟩; have HO354 := Aside0.mk (Kd.R_lower ho0 (bzz w)); replace BK350 := Aside0.mk (blk_below BK350.out hb); replace BK351 := Aside0.mk (blk_below BK351.out hb); replace BK358 := Aside0.mk (blk_below BK358.out hb); replace HB := (Bw.sw w hb)
   (try clear hb)
   (try clear hb2)
   (try clear hk)
   (try clear hi)
   (try clear ho0)
   refine hK.out _ _ ⟨(blk_cell BK350.out 0).trans rfl, (blk_cell BK350.out 1).trans rfl, (blk_cell BK350.out 2).trans rfl, (blk_cell BK350.out 3).trans rfl, (blk_cell BK350.out 4).trans rfl⟩ (fun hHeld => ?_)
   clear hK K; refine norm_ (a' := ?_) ?_ ?_; rotate_left
   ·show Act.put _ (some 12) _ = _
    simp only [Act.put, List.setIfInBounds_toArray, List.set_cons_zero, List.set_cons_succ, i64_w, i32_w]
    rfl
   refine one_ (i := 9) (N := some 15) #[true, true, true, true, true, true, true, true, true, true, false, true, false] rfl rfl (one_of HT_.out (by kernel_rfl)) (by decide) (fun K hK => ?_)
   refine goes_ Try.func78 (by kernel_rfl) rfl #[.slice A0_3 l0_3.length c0_3] (by rfl) rfl rfl (by (try simp only [List.map_toArray, List.map_cons, List.map_nil]); first | done | rfl | (simp only [List.length_drop, List.length_take]; rfl)) ?_
   with_reducible refine (impl_copyTexts.calls k _ _ l0_3 t355 _ ?side1 ?side2 A3.out).mono ?_
   (case side1 => exact (Kd.C_below HR0_3.out HB.out))
   (case side2 => exact HC0_3.out)
   rintro e w9 ⟨v356, rfl, ho0, hb⟩
   refine ⟨_, rfl, ?_⟩
   have HO357 := Aside0.mk (Kd.S_lower (Kd.S_new' ho0 (Kd.R_lt (by exact HO354.out))) (bzz w))
   replace HO354 := Aside0.mk (Kd.R_below (by exact HO354.out) hb)
   replace BK350 := Aside0.mk (blk_below BK350.out hb); replace BK351 := Aside0.mk (blk_below BK351.out hb); replace BK358 := Aside0.mk (blk_below BK358.out hb); replace HB := (Bw.sw w hb)
   (try clear hb)
   (try clear hb2)
   (try clear hk)
   (try clear hi)
   (try clear ho0)
   obtain ⟨Ao10, co10, eo10⟩ := Kd.S_slice HO357.out
   (first | subst eo10 | (injection eo10 with f1_ f2_ f3_; have f4_ := f1_.symm; have f5_ := f3_.symm; clear f1_ f2_ f3_; subst f4_; subst f5_))
   obtain ⟨Ao11, co11, eo11⟩ := Kd.R_slice HO354.out
   (first | subst eo11 | (injection eo11 with f1_ f2_ f3_; have f4_ := f1_.symm; have f5_ := f3_.symm; clear f1_ f2_ f3_; subst f4_; subst f5_))
   refine hK.out _ _ ⟨(blk_cell BK350.out 0).trans rfl, (blk_cell BK350.out 1).trans rfl, (blk_cell BK350.out 2).trans rfl, (blk_cell BK350.out 3).trans rfl, (blk_cell BK350.out 4).trans rfl⟩ (fun hHeld => ?_)
   clear hK K; refine norm_ (a' := ?_) ?_ ?_; rotate_left
   ·show Act.put _ (some 15) _ = _
    simp only [Act.put, List.setIfInBounds_toArray, List.set_cons_zero, List.set_cons_succ, i64_w, i32_w]
    rfl
   refine pure_ (i := 10) (N := some 16) (v := ?_) (a' := ?_) #[true, true, true, true, true, true, true, true, true, true, true, true, false] rfl rfl (any_of HT_.out (by kernel_rfl)) (fun _ _ _ h => h) (Or.inl ⟨by rfl, ?_⟩) ?_ ?_
   rotate_left
   ·intro w'
    go_simp
    with_reducible rfl
   rotate_left
   ·simp only [Act.put, List.setIfInBounds_toArray, List.set_cons_zero, List.set_cons_succ, i64_w, i32_w]
    rfl
   exact norm_ (by simp only [putAll, Act.put, List.setIfInBounds_toArray, List.set_cons_zero, List.set_cons_succ]) (hCont (.slice Ao11 t352.length co11, .slice Ao10 t355.length co10, gb358) _ ⟨hHeld, (by exact HO354.out), (by exact Kd.S_mono HO357.out (fun _ hk => hk.2)), BK350.out, BK351.out, BK358.out, GE358.out, GE358.out, NB350_358.out, NB358_350.out, NB351_358.out, NB358_351.out, bw⟩)
 rintro ⟨v353, v356, gb358⟩ w12 ⟨hS_, h0_, h1_, h2_, h3_, h4_, h5_, h6_, h7_, h8_, h9_, h10_, h11_⟩
 have n0_ : Aside0 (Kd.R (Kd.int .u8) 5 w12 w.heap.size (fun _ => True) v353 t352) := ⟨h0_⟩
 have n1_ : Aside0 (Kd.S (Kd.slice 5 (Kd.int .u8)) 22 w12 w.heap.size (fun k_ => some k_ ≠ (v353 : Value).ownBlock) v356 t355) := ⟨h1_⟩
 have n2_ : Aside0 (w12.heap[gb350]? = some (.cells #[.int .i64 a0_0, .int .i64 a0_1, .slice A0_2 l0_2.length c0_2, .slice A0_3 l0_3.length c0_3, .slice A0_4 l0_4.length c0_4] 30 (0, 0))) := ⟨h2_⟩; have n3_ : Aside0 (w12.heap[gb351]? = some (.cells #[.int .i64 0, .int .i64 0, .slice none 0 0, .slice none 0 0, .slice none 0 0] 30 (0, 0))) := ⟨h3_⟩; have n4_ : Aside0 (w12.heap[gb358]? = some (.cells #[.int .i64 0, .int .i64 0, .slice none 0 0, .slice none 0 0, .slice none 0 0] 30 (0, 0))) := ⟨h4_⟩; have n5_ : Aside0 (w.heap.size ≤ gb358) := ⟨h5_⟩; have n6_ : Aside0 (w.heap.size ≤ gb358) := ⟨h6_⟩
 have n7_ : Aside0 (gb350 ≠ gb358) := ⟨h7_⟩; have n8_ : Aside0 (gb358 ≠ gb350) := ⟨h8_⟩; have n9_ : Aside0 (gb351 ≠ gb358) := ⟨h9_⟩; have n10_ : Aside0 (gb358 ≠ gb351) := ⟨h10_⟩; have n11_ : Aside0 (Below w.heap.size w w12) := ⟨h11_⟩; clear BK350; clear BK351; clear HB; clear h0_ h1_ h2_ h3_ h4_ h5_ h6_ h7_ h8_ h9_ h10_ h11_; have HO354 := n0_; have HO357 := n1_; have BK350 := n2_; have BK351 := n3_; have BK358 := n4_; have GE358 := (Ge.mk n6_.out : Ge w.heap.size gb358); have NB350_358 := n7_; have NB358_350 := n8_; have NB351_358 := n9_; have NB358_351 := n10_; have HB := Bw.mk (w := w) n11_.out
 clear n0_ n1_ n2_ n3_ n4_ n5_ n6_ n7_ n8_ n9_ n10_ n11_
 have hHeld : w12.cell? ⟨gb350, 0, none⟩ = some (.int .i64 a0_0) ∧ w12.cell? ⟨gb350, 1, none⟩ = some (.int .i64 a0_1) ∧ w12.cell? ⟨gb350, 2, none⟩ = some (.slice A0_2 l0_2.length c0_2) ∧ w12.cell? ⟨gb350, 3, none⟩ = some (.slice A0_3 l0_3.length c0_3) ∧ w12.cell? ⟨gb350, 4, none⟩ = some (.slice A0_4 l0_4.length c0_4) := hS_
 obtain ⟨Ao13, co13, eo13⟩ := Kd.S_slice HO357.out
 (first | subst eo13 | (injection eo13 with f1_ f2_ f3_; have f4_ := f1_.symm; have f5_ := f3_.symm; clear f1_ f2_ f3_; subst f4_; subst f5_))
 obtain ⟨Ao14, co14, eo14⟩ := Kd.R_slice HO354.out
 (first | subst eo14 | (injection eo14 with f1_ f2_ f3_; have f4_ := f1_.symm; have f5_ := f3_.symm; clear f1_ f2_ f3_; subst f4_; subst f5_))
 refine norm_ (a' := ?_) ?_ ?_; rotate_left
 ·simp only [putAll, Act.put, List.setIfInBounds_toArray, List.set_cons_zero, List.set_cons_succ]
  rfl
 refine one_ (i := 12) (N := none) #[true, true, true, true, true, true, true, true, true, true, true, true, true] rfl rfl (one_of HT_.out (by kernel_rfl)) (by decide) (fun K hK => ?_)
 have hs15 : w12.cell? ⟨gb358, 0, none⟩ = some (.int .i64 0) := (blk_cell BK358.out 0).trans rfl; have hfs15 := blk_frozen BK358.out 0; have hns15_0 := NB350_358.out; have hns15_1 := NB351_358.out; have hms15_0 := NB358_350.out; have hms15_1 := NB358_351.out; have hs16 : w12.cell? ⟨gb358, 1, none⟩ = some (.int .i64 0) := (blk_cell BK358.out 1).trans rfl; have hfs16 := blk_frozen BK358.out 1; have hns16_0 := NB350_358.out; have hns16_1 := NB351_358.out; have hms16_0 := NB358_350.out; have hms16_1 := NB358_351.out; have hs17 : w12.cell? ⟨gb358, 2, none⟩ = some (.slice none 0 0) := (blk_cell BK358.out 2).trans rfl
 have hfs17 := blk_frozen BK358.out 2; have hns17_0 := NB350_358.out; have hns17_1 := NB351_358.out; have hms17_0 := NB358_350.out; have hms17_1 := NB358_351.out; have hs18 : w12.cell? ⟨gb358, 3, none⟩ = some (.slice none 0 0) := (blk_cell BK358.out 3).trans rfl; have hfs18 := blk_frozen BK358.out 3; have hns18_0 := NB350_358.out; have hns18_1 := NB351_358.out; have hms18_0 := NB358_350.out; have hms18_1 := NB358_351.out; have hs19 : w12.cell? ⟨gb358, 4, none⟩ = some (.slice none 0 0) := (blk_cell BK358.out 4).trans rfl; have hfs19 := blk_frozen BK358.out 4; have hns19_0 := NB350_358.out; have hns19_1 := NB351_358.out
 have hms19_0 := NB358_350.out; have hms19_1 := NB358_351.out
 refine skip_ (w1 := ?_) (by rfl) rfl ?_ ?_
 rotate_left
 ·go_simp
  rfl
 refine hK.out _ _ ⟨((cell_far (p := ⟨gb358, _, none⟩) NB350_358.out _).trans (((cell_far (p := ⟨gb358, _, none⟩) NB350_358.out _).trans (((cell_far (p := ⟨gb358, _, none⟩) NB350_358.out _).trans (((cell_far (p := ⟨gb358, _, none⟩) NB350_358.out _).trans (((cell_far (p := ⟨gb358, _, none⟩) NB350_358.out _).trans (hHeld.1)))))))))), ((cell_far (p := ⟨gb358, _, none⟩) NB350_358.out _).trans (((cell_far (p := ⟨gb358, _, none⟩) NB350_358.out _).trans (((cell_far (p := ⟨gb358, _, none⟩) NB350_358.out _).trans (((cell_far (p := ⟨gb358, _, none⟩) NB350_358.out _).trans (((cell_far (p := ⟨gb358, _, none⟩) NB350_358.out _).trans (hHeld.2.1)))))))))), ((cell_far (p := ⟨gb358, _, none⟩) NB350_358.out _).trans (((cell_far (p := ⟨gb358, _, none⟩) NB350_358.out _).trans (((cell_far (p := ⟨gb358, _, none⟩) NB350_358.out _).trans (((cell_far (p := ⟨gb358, _, none⟩) NB350_358.out _).trans (((cell_far (p := ⟨gb358, _, none⟩) NB350_358.out _).trans (hHeld.2.2.1)))))))))), ((cell_far (p := ⟨gb358, _, none⟩) NB350_358.out _).trans (((cell_far (p := ⟨gb358, _, none⟩) NB350_358.out _).trans (((cell_far (p := ⟨gb358, _, none⟩) NB350_358.out _).trans (((cell_far (p := ⟨gb358, _, none⟩) NB350_358.out _).trans (((cell_far (p := ⟨gb358, _, none⟩) NB350_358.out _).trans (hHeld.2.2.2.1)))))))))), ((cell_far (p := ⟨gb358, _, none⟩) NB350_358.out _).trans (((cell_far (p := ⟨gb358, _, none⟩) NB350_358.out _).trans (((cell_far (p := ⟨gb358, _, none⟩) NB350_358.out _).trans (((cell_far (p := ⟨gb358, _, none⟩) NB350_358.out _).trans (((cell_far (p := ⟨gb358, _, none⟩) NB350_358.out _).trans (hHeld.2.2.2.2))))))))))⟩ (fun hHeld => ?_)
 clear hK K
 refine done_ (done_of HT_.out (by kernel_rfl)) ?_
 have hnb20 := NB350_351.out; have hnc20 := NB351_350.out; have hnb21 := NB350_358.out; have hnc21 := NB358_350.out; obtain ⟨hcz22_0, hcz22_1, hcz22_2, hcz22_3, hcz22_4, hfz22_0, hfz22_1, hfz22_2, hfz22_3, hfz22_4⟩ := blk5 BK350.out
 try go_wp2
 go_loopg [20] k (fun kq vi wr => ∃ (xi : Int) (xs : List (S30)) (u : Value), vi = .int .i64 xi ∧ Aside0 (impl_copyValue.l0 kq l0_4 (l0_4.length : Int) xi a0_0 a0_1 t352 t355 xs = some (r1, r2, r3, r4, r5)) ∧ Aside0 (kq ≤ k) ∧ Aside0 (Wr (fun z => z = gb358) w12 wr) ∧ Bx wr gb358 30 #[.int .i64 a0_0, .int .i64 a0_1, .slice Ao14 t352.length co14, .slice Ao13 t355.length co13, u] ∧ Aside0 (Kd.S dV 30 wr w12.heap.size (fun _ => True) u xs) ∧ Bw w wr)
 case atStart => exact ⟨0, [], .slice none 0 0, rfl, H', ⟨Nat.le_refl _⟩, ⟨Wr.sets5⟩, ⟨blk_set (blk_set (blk_set (blk_set (blk_set BK358.out 0 _) 1 _) 2 _) 3 _) 4 _⟩, ⟨Kd.S_nil _ _ _ _ _⟩, ⟨Below.ofWr HB.out Wr.sets5 (fun z hz => by rw [hz]; exact GE358.out)⟩⟩
 case round =>
  clear H'; obtain ⟨xi, xs, u, rfl, HA, HK1, HW, BX, HS, HB2⟩ := hrel; have HB0 := HB; clear HB; have HB := HB2
  cases gk with
  | zero => exact absurd HA.out (by simp [impl_copyValue.l0])
  | succ k1 =>
   have H := HA.out; clear HA
   simp only [impl_copyValue.l0] at H
   have HG := Aside0.mk (blk_lt BK358.out); have HZ0 := Aside0.mk HW.out.size; obtain ⟨hc0, hc1, hc2, hc3, hc4, hf0, hf1, hf2, hf3, hf4⟩ := blk5 BX.h
   by_cases c : xi < (l0_4.length : Int)
   · rw [if_pos c] at H
     have H9 := yesN H; clear H; obtain ⟨p0, H⟩ := H9; have H9 := yesN H; clear H; obtain ⟨-, H⟩ := H9; have H9 := bnd H; clear H; obtain ⟨⟨t1, t2, t3, t4, t5⟩, A6, H⟩ := H9; have H9 := yesN H; clear H; obtain ⟨cl, H⟩ := H9; replace A6 := Aside0.mk A6; have LM := Aside0.mk cl; have H' := Aside0.mk H; clear cl H; obtain ⟨ad, D2, d2, D3, d3, D4, d4, e4, x0, x1, x2, x3, x4, y2, z2, y3, z3, y4, z4⟩ := at_T30 HR0_4.out xi p0 c; cases e4; replace x0 := (HB.out.cell (World.block_lt_of_cell? w _ x0)).trans x0; replace x1 := (HB.out.cell (World.block_lt_of_cell? w _ x1)).trans x1; replace x2 := (HB.out.cell (World.block_lt_of_cell? w _ x2)).trans x2
     replace x3 := (HB.out.cell (World.block_lt_of_cell? w _ x3)).trans x3; replace x4 := (HB.out.cell (World.block_lt_of_cell? w _ x4)).trans x4; have Y2 := Aside0.mk y2; have Z2 := Aside0.mk z2; have Y3 := Aside0.mk y3; have Z3 := Aside0.mk z3; have Y4 := Aside0.mk y4; have Z4 := Aside0.mk z4; clear y2 z2 y3 z3 y4 z4; have cb : decide (xi < (l0_4.length : Int)) = true := decide_eq_true c; have p1 := eq_true p0; have p2 := eq_true c; clear p0 c
     obtain ⟨xx, hxx⟩ : ∃ y, y = rd_T30 l0_4 xi := ⟨_, rfl⟩
     rw [← hxx] at x0 x1 x2 x3 x4 Y2 Y3 Y4 Z2 Z3 Z4 A6; clear hxx
     go_wp2_with (first
       | ((with_reducible refine gate_dst (N := 5) rfl ?_); refine alst (bs := #[.int .i64 xx.f0, .int .i64 xx.f1, .slice D2 xx.f2.length d2, .slice D3 xx.f3.length d3, .slice D4 xx.f4.length d4]) (cs := #[.int .i64 0, .int .i64 0, .slice none 0 0, .slice none 0 0, .slice none 0 0]) 5 rfl rfl rfl rfl rfl rfl (fun _ => rfl) (fun _ => rfl) (by kernel_rfl) rfl (by simp [Value.oneCell']) ?_; intro gl wl BY hbl hle hlt; have HUL := Aside0.mk (fun z (hz : u.ownBlock = some z) => Nat.lt_of_lt_of_le (Kd.S_lt HS.out z hz) hbl.size); have NU := Aside0.mk (fun (e : some gl = u.ownBlock) => Nat.not_lt.2 hle (Kd.S_lt HS.out gl e.symm)); replace BX := BX.b hbl; replace HW := Aside0.mk (HW.out.trans (Wr.of_below hbl)); replace HS := Aside0.mk (Kd.S_below HS.out hbl); replace HB := Bw.sw w hbl; clear hbl hle hlt; simp only [Act.put, List.setIfInBounds_toArray, List.set_cons_zero, List.set_cons_succ]))
     have hdr : Below wl.heap.size wl wl.drew := below_drew1 (Below.refl _ _)
     refine start_ (n := 8) (S := fun w' => Bx w' gb358 30 #[.int .i64 a0_0, .int .i64 a0_1, .slice Ao14 t352.length co14, .slice Ao13 t355.length co13, u] ∧ Bx w' gl 30 #[.int .i64 xx.f0, .int .i64 xx.f1, .slice D2 xx.f2.length d2, .slice D3 xx.f3.length d3, .slice D4 xx.f4.length d4]) (ds := [7]) #[false, false, false, false, false, false, false, false] (by kernel_rfl) rfl rfl ⟨BX.b hdr, BY.b hdr⟩ (fun hH => ?_)
     generalize wl.drew = wd at hdr hH ⊢
     replace BX := BX.b hdr; replace BY := BY.b hdr; replace HW := Aside0.mk (HW.out.trans (Wr.of_below hdr)); have HZ := Aside0.mk HW.out.size; replace HS := Aside0.mk (Kd.S_below HS.out hdr); replace HB := Bw.sw w hdr
     replace HUL := Aside0.mk (fun z (hz : u.ownBlock = some z) => Nat.lt_of_lt_of_le (HUL.out z hz) hdr.size)
     clear hdr
     refine pure_ (i := 0) (N := some 24) (v := ?_) (a' := ?_) #[true, false, false, false, false, false, false, false] rfl rfl (by kernel_rfl) (fun _ _ _ h => h) (Or.inl ⟨by rfl, ?_⟩) ?_ ?_
     rotate_left
     ·intro w'
      go_simp
      with_reducible rfl
     rotate_left
     ·simp only [Act.put, List.setIfInBounds_toArray, List.set_cons_zero, List.set_cons_succ, i64_w, i32_w]
      rfl
     refine take_ (i := 1) (N := some 25) (v := ?_) (a' := ?_) #[true, true, false, false, false, false, false, false] rfl rfl (by kernel_rfl) (fun _ _ _ h => h) (Or.inl ⟨by rfl, ?_⟩) hH ?_ ?_
     rotate_left
     ·rintro w' ⟨s0, s1⟩
      obtain ⟨hc0, hc1, hc2, hc3, hc4, hf0, hf1, hf2, hf3, hf4⟩ := blk5 s0.h
      go_simp
      with_reducible rfl
     rotate_left
     ·simp only [Act.put, List.setIfInBounds_toArray, List.set_cons_zero, List.set_cons_succ, i64_w, i32_w]
      rfl
     refine take_ (i := 2) (N := some 26) (v := .agg #[.int .i64 xx.f0, .int .i64 xx.f1, .slice D2 xx.f2.length d2, .slice D3 xx.f3.length d3, .slice D4 xx.f4.length d4]) (a' := ?_) #[true, true, true, false, false, false, false, false] rfl rfl (by kernel_rfl) (fun _ _ _ h => h) (Or.inl ⟨by rfl, ?_⟩) hH ?_ ?_
     ·rintro w' ⟨s0, s1⟩
      exact ld_op rfl rfl s1 ⟨⟨_, Try.underlying30⟩, by kernel_rfl⟩
     rotate_left
     ·simp only [Act.put, List.setIfInBounds_toArray, List.set_cons_zero, List.set_cons_succ, i64_w, i32_w]
      rfl
     refine one_ (i := 3) (N := some 27) #[true, true, true, true, false, false, false, false] rfl rfl (by kernel_rfl) (by decide) (fun K hK => ?_)
     refine goes_ Try.func59 (by kernel_rfl) rfl #[.agg #[.int .i64 xx.f0, .int .i64 xx.f1, .slice D2 xx.f2.length d2, .slice D3 xx.f3.length d3, .slice D4 xx.f4.length d4]] (by rfl) rfl rfl (by (try simp only [List.map_toArray, List.map_cons, List.map_nil]); first | done | rfl) ?_
     refine (ih k1 (by have := HK1.out; omega) xx.f0 xx.f1 _ _ xx.f2 _ _ xx.f3 _ _ xx.f4 t1 t2 t3 t4 t5 _ (Kd.C_below Z2.out HB.out) Y2.out (Kd.C_below Z3.out HB.out) Y3.out (Kd.C_below Z4.out HB.out) Y4.out A6.out).mono ?_
     rintro e we ⟨v2, v3, v4, rfl, hD, hb⟩
     refine ⟨_, rfl, ?_⟩; replace BX := BX.b hb; replace BY := BY.b hb; replace HW := Aside0.mk (HW.out.trans (Wr.of_below hb)); have HS2 := Aside0.mk (Kd.S_below (Kd.S_bound HS.out) hb); have HM := Aside0.mk (dV.M_bound hD); replace HB := Bw.sw w hb; clear hb hD HS
     refine hK.out _ _ ⟨BX, BY⟩ (fun hH => ?_)
     clear hK K; refine norm_ (a' := ?_) ?_ ?_; rotate_left
     ·show Act.put _ (some 27) _ = _
      simp only [Act.put, List.setIfInBounds_toArray, List.set_cons_zero, List.set_cons_succ, i64_w, i32_w]
      rfl
     refine one_ (i := 4) (N := some 28) #[true, true, true, true, true, false, false, false] rfl rfl (by kernel_rfl) (by decide) (fun K hK => ?_)
     refine value_ (w1 := ?_) (v := ?_) (by rfl) rfl ?_ ?_
     rotate_left 2
     ·go_simp
      constructor
      ·rfl
      ·rfl
     refine hK.out _ _ ⟨⟨blk_alloc BX.h _⟩, ⟨blk_alloc BY.h _⟩⟩ (fun hH => ?_)
     clear hK K; refine norm_ (a' := ?_) ?_ ?_; rotate_left
     ·show Act.put _ (some 28) _ = _
      simp only [Act.put, List.setIfInBounds_toArray, List.set_cons_zero, List.set_cons_succ, i64_w, i32_w]
      rfl
     refine one_ (i := 5) (N := some 29) #[true, true, true, true, true, true, false, false] rfl rfl (by kernel_rfl) (by decide) (fun K hK => ?_)
     have hul : ∀ z, u.ownBlock = some z → z < wd.heap.size := HUL.out
     refine Kd.S_append_step dV (w0 := we) w12.heap.size (by rfl) (.tmp 25) (.tmp 28) 28 30 (.agg #[.int .i64 0, .int .i64 0, .slice none 0 0, .slice none 0 0, .slice none 0 0]) 88 rfl Try.underlying28 info30 rfl (by decide) (by omega) u xs (⟨t1, t2, t3, t4, t5⟩ : S30) [.int .i64 t1, .int .i64 t2, v2, v3, v4] (fun _ => True) (fun z => wd.heap.size ≤ z ∧ z < we.heap.size) rfl rfl ?aP (fun z hz => ⟨trivial, fun e => Nat.not_lt.2 hz.1 (hul z e.symm)⟩) (fun _ _ => trivial) ?aO (Below.refl _ _) HW.out.size ?aL ?_
     (case aP => exact dV.M_lower HZ.out (dV.M_mono (fun z hz => ⟨hz.2.1, hz.2.2.1⟩) HM.out))
     (case aO => exact Kd.S_mono HS2.out (fun z hz => ⟨trivial, fun h => Nat.not_lt.2 h.1 hz.2.2.1⟩))
     (case aL => have := LM.out; omega)
     intro v1 w1 ho hb hg hat; replace BX := BX.bel hb HG.out; replace BY := BY.grown hg NU.out; replace HW := Aside0.mk (HW.out.bel hb); replace HB := Bw.mk (w := w) (HB.out.trans (hb.mono HB0.out.size)); have HS3 := Aside0.mk (Kd.S_bound ho); clear ho hb hg hat hul HS2 HM
     refine hK.out _ _ ⟨BX, BY⟩ (fun hH => ?_)
     clear hK K; refine norm_ (a' := ?_) ?_ ?_; rotate_left
     ·show Act.put _ (some 29) _ = _
      simp only [Act.put, List.setIfInBounds_toArray, List.set_cons_zero, List.set_cons_succ, i64_w, i32_w]
      rfl
     obtain ⟨A5, c5, e5⟩ := Kd.S_slice HS3.out; subst e5; have hs4 := HS3.out; rw [List.length_append, List.length_singleton] at hs4; replace HS3 := Aside0.mk hs4; clear hs4
     refine pure_ (i := 6) (N := some 30) (v := ?_) (a' := ?_) #[true, true, true, true, true, true, true, false] rfl rfl (by kernel_rfl) (fun _ _ _ h => h) (Or.inl ⟨by rfl, ?_⟩) ?_ ?_
     rotate_left
     ·intro w'
      go_simp
      with_reducible rfl
     rotate_left
     ·simp only [Act.put, List.setIfInBounds_toArray, List.set_cons_zero, List.set_cons_succ, i64_w, i32_w]
      rfl
     refine last_ (i := 7) (N := none) #[true, true, true, true, true, true, true, true] rfl rfl (by kernel_rfl) (by decide) (fun K hK => ?_)
     obtain ⟨hc0, hc1, hc2, hc3, hc4, hf0, hf1, hf2, hf3, hf4⟩ := blk5 BX.h
     refine skip_ (w1 := ?_) (by rfl) rfl ?_ ?_
     rotate_left
     ·go_simp
      rfl
     refine hK.out _ _ ?_; clear hK K
     refine done_ (by kernel_rfl) ?_
     try go_wp2
     go_roundg k1
     case measure => have := HK1.out; omega
     case rel => exact ⟨wrap64 (xi + 1), xs ++ [⟨t1, t2, t3, t4, t5⟩], .slice A5 (xs.length + 1) c5, rfl, H', ⟨by have := HK1.out; omega⟩, ⟨HW.out.trans Wr.one⟩, ⟨blk_set BX.h 4 _⟩, ⟨Kd.S_mono (Kd.S_far (p := ⟨gb358, 4, none⟩) HS3.out (fun z hz => fun e => by have := hz.2.1; have := HG.out; simp only at e; omega) _) (fun _ _ => trivial)⟩, ⟨Below.ofWr HB.out (Wr.one (b := gb358)) (fun z hz => by rw [hz]; exact GE358.out)⟩⟩
   · rw [if_neg c] at H
     have cb : decide (xi < (l0_4.length : Int)) = false := decide_eq_false c; clear c
     simp only [Option.some.injEq, Prod.mk.injEq] at H
     obtain ⟨rfl, rfl, rfl, rfl, rfl⟩ := H; have BR : Bx wr gb351 30 #[.int .i64 0, .int .i64 0, .slice none 0 0, .slice none 0 0, .slice none 0 0] := ⟨(HW.out.block gb351 (blk_lt BK351.out) NB351_358.out).trans BK351.out⟩; have hnb1 := NB351_358.out; have hnc1 := NB358_351.out; obtain ⟨gc0, gc1, gc2, gc3, gc4, gf0, gf1, gf2, gf3, gf4⟩ := blk5 BR.h; obtain ⟨A5, c5, e5⟩ := Kd.S_slice HS.out; subst e5; go_wp2
     refine bodyPost_ret (results_cell_row rfl _ _ gb351 30 #[.int .i64 a0_0, .int .i64 a0_1, .slice Ao14 t352.length co14, .slice Ao13 t355.length co13, .slice A5 xs.length c5] (0, 0) _ rfl (blk_set (blk_set (blk_set (blk_set (blk_set BR.h 0 _) 1 _) 2 _) 3 _) 4 _) Try.underlying30 rfl (by kernel_rfl)) rfl ?_
     refine ⟨_, _, _, rfl, ?_, ?_⟩
     · have q2 := Kd.R_bound (Kd.R_types (Kd.R_types HO354.out BK358.out (by decide)) BK351.out (by decide))
       have g2 : (Kd.int .u8).R 5 w12 w.heap.size (fun z => some z = (Value.slice Ao14 t352.length co14).ownBlock ∧ z < w12.heap.size ∧ z ≠ gb358 ∧ z ≠ gb351) (.slice Ao14 t352.length co14) t352 := by
         have q3 := Kd.R_tight rfl q2
         refine ⟨fun z hz => ⟨hz.symm, (q2.1 z hz).2.2.1, (q2.1 z hz).1.1.2, (q2.1 z hz).1.2⟩, q3.2.imp_ (fun _ _ hp => hp)⟩
       have g3 := Kd.S_mono (ok' := fun z => some z ≠ (Value.slice Ao14 t352.length co14).ownBlock ∧ z < w12.heap.size ∧ z ≠ gb358 ∧ z ≠ gb351) (Kd.S_bound (Kd.S_types (Kd.S_types HO357.out BK358.out (by decide)) BK351.out (by decide))) (fun z hz => ⟨hz.1.1.1, hz.2.2.1, hz.1.1.2, hz.1.2⟩)
       have g4 := Kd.S_bound HS.out
       refine dV_mkM (o4 := fun z => w12.heap.size ≤ z) (⟨a0_0, a0_1, t352, t355, xs⟩ : S30) (Kd.R_move g2 (fun z hz => by rw [Below.heap_setCell _ _ _ _ hz.2.2.2, Below.heap_setCell _ _ _ _ hz.2.2.2, Below.heap_setCell _ _ _ _ hz.2.2.2, Below.heap_setCell _ _ _ _ hz.2.2.2, Below.heap_setCell _ _ _ _ hz.2.2.2]; exact HW.out.block z hz.2.1 hz.2.2.1)) (Kd.S_move g3 (fun z hz => by rw [Below.heap_setCell _ _ _ _ hz.2.2.2, Below.heap_setCell _ _ _ _ hz.2.2.2, Below.heap_setCell _ _ _ _ hz.2.2.2, Below.heap_setCell _ _ _ _ hz.2.2.2, Below.heap_setCell _ _ _ _ hz.2.2.2]; exact HW.out.block z hz.2.1 hz.2.2.1)) (Kd.S_lower (Kd.S_mono (Kd.S_move (w1 := _) (Kd.S_mono (ok' := fun z => w12.heap.size ≤ z) g4 (fun z hz => hz.2.1)) (fun z hz => ?_)) (fun _ h => h)) HB0.out.size) (fun _ _ => trivial) (fun _ _ => trivial) (fun _ _ => trivial) (fun z h h2 => h2.1 h.1) (fun z h h2 => Nat.not_lt.2 h2 h.2.1) (fun z h h2 => Nat.not_lt.2 h2 h.2.1)
       have hzg : z ≠ gb351 := fun e => by have := blk_lt BK351.out; rw [e] at hz; exact Nat.not_lt.2 hz this
       rw [Below.heap_setCell _ _ _ _ hzg, Below.heap_setCell _ _ _ _ hzg, Below.heap_setCell _ _ _ _ hzg, Below.heap_setCell _ _ _ _ hzg, Below.heap_setCell _ _ _ _ hzg]
     · exact bw
end Go.Proofs.Ytenpjddjmhjdoaa.PFnExactAt
