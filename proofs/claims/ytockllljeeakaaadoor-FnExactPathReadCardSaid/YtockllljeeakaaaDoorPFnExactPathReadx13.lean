/- The law, walked: by contracts over whole values. No condition. -/
import Derived.Test.YtockllljeeakaaaDoorPFnExactPathReadx0
import Derived.Test.YtockllljeeakaaaDoorPFnExactPathReadx1
import Derived.Test.YtockllljeeakaaaDoorPFnExactPathReadx3
import Derived.Test.YtockllljeeakaaaDoorPFnExactPathReadx8
import Derived.Test.YtockllljeeakaaaDoorPFnExactPathReadx9
import Derived.Test.YtockllljeeakaaaDoorPFnExactPathReadx11
import Derived.Test.YtockllljeeakaaaDoorPFnExactPathReadx12
import Derived.Test.YtockllljeeakaaaDoorMlaw
import Derived.Test.YtockllljeeakaaaDoorMownB
namespace Go.Proofs.YtockllljeeakaaaDoor.PFnExactPathRead
open Go.RowKit Go.Proofs.YtockllljeeakaaaDoorW.PrintWords Go.Proofs.YtockllljeeakaaaDoorW.PrintLast Go.Proofs.YtockllljeeakaaaDoorW.PrintMore Go.Proofs.YtockllljeeakaaaDoor.M
attribute [local go_sem] max2_int min2_int max_two min_two max_three min_three max_four min_four Go.Proofs.YtockllljeeakaaaDoor.M.str_gtr Go.Proofs.YtockllljeeakaaaDoor.M.str_leq Go.Proofs.YtockllljeeakaaaDoor.M.str_geq   -- for this text's walks alone
set_option linter.unusedVariables false
set_option linter.unusedSimpArgs false
theorem laws_toByteS.kc (k : Nat) (l0 : List Int) (v0 : Value) (r : List Int) (w : World) (h0 : Rd (Kd.slice 5 (Kd.int .u8)) w l0 [v0]) (h : laws_toByteS.f k l0 = some r) :
  Calls Tryd.prog 9 #[v0] w fun e w' => ∃ v : Value, e = .returned v ∧ Own (Kd.slice 5 (Kd.int .u8)) w' w.heap.size w'.heap.size r [v] ∧ Below w.heap.size w w' := by
  obtain ⟨A0, c0, e0, lc0, g0⟩ := h0.k
  injection e0 with e0
  subst e0
  refine (laws_toByteS.calls k _ _ l0 r w g0 lc0 h).mono ?_
  rintro e w' ⟨v, rfl, g, hb⟩
  exact ⟨_, rfl, Own.of ⟨_, rfl, g⟩ (Below.size (hb)), hb⟩
theorem spec_PathRead.kc (k : Nat) (l0 : List Int) (v0 : Value) (r1 : List (S56)) (r2 : Bool) (w : World) (h0 : Rd (Kd.slice 5 (Kd.int .u8)) w l0 [v0]) (h : spec_PathRead.f k l0 = some (r1, r2)) :
  Calls Tryd.prog 12 #[v0] w fun e w' => ∃ v : Value, e = .returned (.tuple #[v, .bool r2]) ∧ OwnS k56 56 w' w.heap.size w'.heap.size r1 v ∧ Below w.heap.size w w' := by
  obtain ⟨A0, c0, e0, lc0, g0⟩ := h0.k
  injection e0 with e0
  subst e0
  refine (spec_PathRead.calls k _ _ l0 r1 r2 w g0 lc0 h).mono ?_
  rintro e w' ⟨v, rfl, g, hb⟩
  exact ⟨_, rfl, OwnS.of g (Below.size (hb)), hb⟩
theorem laws_eqStepS.kc (k : Nat) (l0 : List (S56)) (v0 : Value) (l1 : List (S56)) (v1 : Value) (r : Bool) (w : World) (h0 : Rd (Kd.slice 56 k56) w l0 [v0]) (h1 : Rd (Kd.slice 56 k56) w l1 [v1]) (h : laws_eqStepS.f k l0 l1 = some r) :
  Calls Tryd.prog 14 #[v0, v1] w fun e w' => e = .returned (.bool r) ∧ Below w.heap.size w w' := by
  obtain ⟨A0, c0, e0, lc0, g0⟩ := h0.k
  injection e0 with e0
  subst e0
  obtain ⟨A1, c1, e1, lc1, g1⟩ := h1.k
  injection e1 with e1
  subst e1
  refine (laws_eqStepS.calls k _ _ l0 _ _ l1 r w g0 lc0 g1 lc1 h).mono ?_
  rintro e w' ⟨rfl, hb⟩
  exact ⟨rfl, hb⟩
theorem laws_eqByteS.kc (k : Nat) (l0 : List Int) (v0 : Value) (l1 : List Int) (v1 : Value) (r : Bool) (w : World) (h0 : Rd (Kd.slice 5 (Kd.int .u8)) w l0 [v0]) (h1 : Rd (Kd.slice 5 (Kd.int .u8)) w l1 [v1]) (h : laws_eqByteS.f k l0 l1 = some r) :
  Calls Tryd.prog 11 #[v0, v1] w fun e w' => e = .returned (.bool r) ∧ Below w.heap.size w w' := by
  obtain ⟨A0, c0, e0, lc0, g0⟩ := h0.k
  injection e0 with e0
  subst e0
  obtain ⟨A1, c1, e1, lc1, g1⟩ := h1.k
  injection e1 with e1
  subst e1
  refine (laws_eqByteS.calls k _ _ l0 _ _ l1 r w g0 lc0 g1 lc1 h).mono ?_
  rintro e w' ⟨rfl, ⟨nd, rfl⟩⟩
  exact ⟨rfl, pw_below_drewN (Below.refl _ _) nd⟩
theorem laws_markByteS.kc (l0 : List Int) (v0 : Value) (k mm : Int) (w : World) {lo hi : Nat} (hk : 0 ≤ k) (hm : l0.length ≤ 1099511627776) (hk2 : k ≤ 1099511627776) (he : some (k + (l0.length : Nat)) = some mm) (h0 : Own (Kd.slice 5 (Kd.int .u8)) w lo hi l0 [v0]) :
    Calls Tryd.prog 15 #[v0, .int .i64 k] w fun e w' => e = .returned (.int .i64 mm) ∧ Own (Kd.slice 5 (Kd.int .u8)) w' lo hi (mk k l0.length) [v0] ∧ M.Outside lo hi w w' := by
  have he := Option.some.inj he
  subst he
  obtain ⟨v, e, h1⟩ := h0.m
  injection e with e
  subst e
  refine (markByteS_own l0 v0 k w lo _ hk (by omega) h1).mono ?_
  rintro e w' ⟨rfl, g1, g2⟩
  have g := g2.outside (fun _ h => h)
  exact ⟨rfl, ⟨⟨_, rfl, g1⟩, Nat.le_trans h0.le g.size⟩, g⟩
theorem laws_heldStepS.kc (k : Nat) (l0 : List (S56)) (v0 : Value) (a1 : Int) (r : Int) (w : World) (h0 : Rd (Kd.slice 56 k56) w l0 [v0]) (h : laws_heldStepS.f k l0 a1 = some r) :
  Calls Tryd.prog 17 #[v0, .int .i64 a1] w fun e w' => e = .returned (.int .i64 r) ∧ Below w.heap.size w w' := by
  obtain ⟨A0, c0, e0, lc0, g0⟩ := h0.k
  injection e0 with e0
  subst e0
  refine (laws_heldStepS.calls k _ _ l0 a1 r w g0 lc0 h).mono ?_
  rintro e w' ⟨rfl, ⟨nd, rfl⟩⟩
  exact ⟨rfl, pw_below_drewN (Below.refl _ _) nd⟩
theorem fr9 : Fr Tryd.prog 9 := ⟨_, Tryd.func9, by kernel_rfl, rfl⟩
theorem fr12 : Fr Tryd.prog 12 := ⟨_, Tryd.func12, by kernel_rfl, rfl⟩
theorem fr13 : Fr Tryd.prog 13 := ⟨_, Tryd.func13, by kernel_rfl, rfl⟩
theorem fr14 : Fr Tryd.prog 14 := ⟨_, Tryd.func14, by kernel_rfl, rfl⟩
theorem fr15 : Fr Tryd.prog 15 := ⟨_, Tryd.func15, by kernel_rfl, rfl⟩
theorem fr16 : Fr Tryd.prog 16 := ⟨_, Tryd.func16, by kernel_rfl, rfl⟩
theorem fr17 : Fr Tryd.prog 17 := ⟨_, Tryd.func17, by kernel_rfl, rfl⟩
def laws_FnExactPathRead.f (k : Nat) (l0 : List Int) : Option Bool := if (l0.length : Int) > 1048576 then some true else (laws_toByteS.f k l0).bind fun t1 => (spec_PathRead.f k t1).bind fun t2 => (impl_PathRead.f k t1).bind fun t3 => (laws_eqStepS.f k t3.1 t2.1).bind fun t4 => if t4 = true then if t3.2 = t2.2 then (laws_eqByteS.f k t1 t1).bind fun t5 => if t5 = true then if t1.length ≤ 1099511627776 then (some (1 + (t1.length : Nat)) : Option Int).bind fun t7 => if t7 < 0 then some false else if t3.1.length + mSt t3.1 ≤ 1099511627776 then (some (1 + (mSt t3.1 : Nat)) : Option Int).bind fun t9 => (laws_heldStepS.f k ((msts 1 t3.1)) 1).bind fun t10 => if t10 < 0 then some false else if t10 = t9 then some true else some false else some false else some false else some false else some false else some false
set_option maxRecDepth 100000 in
set_option maxHeartbeats 8000000 in
theorem laws_FnExactPathRead.calls (k : Nat) (l0 : List Int) (v0 : Value) (w : World) (K0 : Rd (Kd.slice 5 (Kd.int .u8)) w l0 [v0]) (TB : Tb w) (h : laws_FnExactPathRead.f k l0 = some true) :
  Calls Tryd.prog 4 #[v0] w fun e w' => e = .returned (.bool true) ∧ Below w.heap.size w w' := by
  unfold laws_FnExactPathRead.f at h
  obtain ⟨A_0, c_0, e, hc0, hr0⟩ := id K0.k
  injection e with e
  subst e
  clear hc0 hr0
  have HB := Bw.refl w
  by_cases c : (l0.length : Int) > 1048576
  ·have cb : decide ((l0.length : Int) > 1048576) = true := decide_eq_true c
   clear c h
   go_enter Tryd.func4, Tryd.ntmps4
   try go_wp2
   go_ret
   exact ⟨by first | rfl | simp, HB.out⟩
  rw [if_neg c] at h
  replace c : decide ((l0.length : Int) > 1048576) = false := decide_eq_false c
  have q11 := c
  clear c
  have h9 := bnd h; clear h; obtain ⟨t1, A1, h⟩ := h9
  replace A1 := Aside0.mk A1
  have h9 := bnd h; clear h; obtain ⟨t2, A2, h⟩ := h9
  replace A2 := Aside0.mk A2
  obtain ⟨t2_1, t2_2⟩ := t2
  try dsimp only at h
  have h9 := bnd h; clear h; obtain ⟨t3, A3, h⟩ := h9
  replace A3 := Aside0.mk A3
  obtain ⟨t3_1, t3_2⟩ := t3
  try dsimp only at h
  have h9 := bnd h; clear h; obtain ⟨t4, A4, h⟩ := h9
  replace A4 := Aside0.mk A4
  have h9 := yes h; clear h; obtain ⟨c, h⟩ := h9
  subst c
  have h9 := yes h; clear h; obtain ⟨c, h⟩ := h9
  subst c
  have h9 := bnd h; clear h; obtain ⟨t5, A5, h⟩ := h9
  replace A5 := Aside0.mk A5
  have h9 := yes h; clear h; obtain ⟨c, h⟩ := h9
  subst c
  have h9 := yes h; clear h; obtain ⟨G6, h⟩ := h9; replace G6 := Aside0.mk G6
  have h9 := bnd h; clear h; obtain ⟨t7, A7, h⟩ := h9
  replace A7 := Aside0.mk A7
  have h9 := nope h; clear h; obtain ⟨c, h⟩ := h9
  have q12 : decide (t7 < 0) = false := decide_eq_false c
  clear c
  have h9 := yes h; clear h; obtain ⟨G8, h⟩ := h9; replace G8 := Aside0.mk G8
  have h9 := bnd h; clear h; obtain ⟨t9, A9, h⟩ := h9
  replace A9 := Aside0.mk A9
  have h9 := bnd h; clear h; obtain ⟨t10, A10, h⟩ := h9
  replace A10 := Aside0.mk A10
  have h9 := nope h; clear h; obtain ⟨c, h⟩ := h9
  have q13 : decide (t10 < 0) = false := decide_eq_false c
  clear c
  have h9 := yes h; clear h; obtain ⟨c, h⟩ := h9
  subst c
  clear h
  go_enter Tryd.func4, Tryd.ntmps4
  go_wp2_with (first
    | ((with_reducible refine gate_dst (N := 18) rfl ?_); refine gg (some 18) rfl rfl rfl fr9 ?_; refine onc (laws_toByteS.kc k l0 (.slice A_0 l0.length c_0) t1 _ (K0.b HB.out) A1.out) rfl ?_; rintro e w1 ⟨v_18, rfl, ho, hb⟩; refine ⟨_, rfl, ?_⟩; have z1 := hb.size; replace HB := Bw.sw w hb; have O18 := ho; clear ho hb; simp only [Act.put, List.setIfInBounds_toArray, List.set_cons_zero, List.set_cons_succ])
    | ((with_reducible refine gate_dst (N := 19) rfl ?_); refine gg (some 19) rfl rfl rfl fr12 ?_; refine onc (spec_PathRead.kc k t1 v_18 t2_1 t3_2 _ O18.rd A2.out) rfl ?_; rintro e w2 ⟨v_19, rfl, ho, hb⟩; refine ⟨_, rfl, ?_⟩; have z2 := hb.size; replace HB := Bw.sw w hb; have O19 := ho; clear ho hb; simp only [Act.put, List.setIfInBounds_toArray, List.set_cons_zero, List.set_cons_succ])
    | ((with_reducible refine gate_dst (N := 23) rfl ?_); refine gg (some 23) rfl rfl rfl fr9 ?_; refine onc (laws_toByteS.kc k l0 (.slice A_0 l0.length c_0) t1 _ (K0.b HB.out) A1.out) rfl ?_; rintro e w3 ⟨v_23, rfl, ho, hb⟩; refine ⟨_, rfl, ?_⟩; replace O19 := O19.b hb; have z3 := hb.size; replace HB := Bw.sw w hb; have O23 := ho; clear ho hb; simp only [Act.put, List.setIfInBounds_toArray, List.set_cons_zero, List.set_cons_succ])
    | ((with_reducible refine gate_dst (N := 26) rfl ?_); refine gg (some 26) rfl rfl rfl fr13 ?_; refine onc (impl_PathRead.kc k t1 v_23 t3_1 t3_2 _ O23.rd (TB.b HB.out) A3.out) rfl ?_; rintro e w4 ⟨v_26, rfl, ho, hb⟩; refine ⟨_, rfl, ?_⟩; replace O19 := O19.b hb; replace O23 := O23.b hb; have z4 := hb.size; replace HB := Bw.sw w hb; have O26 := ho; clear ho hb; simp only [Act.put, List.setIfInBounds_toArray, List.set_cons_zero, List.set_cons_succ])
    | ((with_reducible refine gate_dst (N := 31) rfl ?_); refine gg (some 31) rfl rfl rfl fr14 ?_; refine onc (laws_eqStepS.kc k t3_1 v_26 t2_1 v_19 true _ O26.rd O19.rd A4.out) rfl ?_; rintro e w5 ⟨rfl, hb⟩; refine ⟨_, rfl, ?_⟩; replace O19 := O19.b hb; replace O23 := O23.b hb; replace O26 := O26.b hb; have z5 := hb.size; replace HB := Bw.sw w hb; clear hb; simp only [Act.put, List.setIfInBounds_toArray, List.set_cons_zero, List.set_cons_succ])
    | ((with_reducible refine gate_dst (N := 40) rfl ?_); refine gg (some 40) rfl rfl rfl fr9 ?_; refine onc (laws_toByteS.kc k l0 (.slice A_0 l0.length c_0) t1 _ (K0.b HB.out) A1.out) rfl ?_; rintro e w6 ⟨v_40, rfl, ho, hb⟩; refine ⟨_, rfl, ?_⟩; replace O19 := O19.b hb; replace O23 := O23.b hb; replace O26 := O26.b hb; have z6 := hb.size; replace HB := Bw.sw w hb; have O40 := ho; clear ho hb; simp only [Act.put, List.setIfInBounds_toArray, List.set_cons_zero, List.set_cons_succ])
    | ((with_reducible refine gate_dst (N := 41) rfl ?_); refine gg (some 41) rfl rfl rfl fr11 ?_; refine onc (laws_eqByteS.kc k t1 v_23 t1 v_40 true _ O23.rd O40.rd A5.out) rfl ?_; rintro e w7 ⟨rfl, hb⟩; refine ⟨_, rfl, ?_⟩; replace O19 := O19.b hb; replace O23 := O23.b hb; replace O26 := O26.b hb; have z7 := hb.size; replace HB := Bw.sw w hb; clear hb; simp only [Act.put, List.setIfInBounds_toArray, List.set_cons_zero, List.set_cons_succ])
    | ((with_reducible refine gate_dst (N := 45) rfl ?_); refine gg (some 45) rfl rfl rfl fr15 ?_; refine onc (laws_markByteS.kc t1 v_23 1 t7 _ (by omega) G6.out (by omega) A7.out O23) rfl ?_; rintro e w8 ⟨rfl, hn, ho⟩; refine ⟨_, rfl, ?_⟩; replace O19 := O19.mv ho (by omega); replace O26 := O26.mv ho (by omega); have z8 := ho.size; replace HB := Bw.mk (w := w) (ho.below HB.out (by omega)); replace O23 := hn; clear hn; clear ho; simp only [Act.put, List.setIfInBounds_toArray, List.set_cons_zero, List.set_cons_succ])
    | ((with_reducible refine gate_dst (N := 51) rfl ?_); refine ggw (some 51) rfl (by rfl) rfl fr14 ?_; refine onc (laws_eqStepS.kc k t3_1 v_26 t2_1 v_19 true _ O26.rd O19.rd A4.out) rfl ?_; rintro e w9 ⟨rfl, hb⟩; refine ⟨_, rfl, ?_⟩; replace O19 := O19.b hb; replace O26 := O26.b hb; have z9 := hb.size; replace HB := Bw.sw w hb; clear hb; simp only [Act.put, List.setIfInBounds_toArray, List.set_cons_zero, List.set_cons_succ])
    | ((with_reducible refine gate_dst (N := 61) rfl ?_); refine gg (some 61) rfl rfl rfl fr16 ?_; refine onc (laws_markStepS.kce t3_1 v_26 1 t10 _ (by omega) G8.out (by omega) A9.out O26) rfl ?_; rintro e w10 ⟨rfl, hn, ho⟩; refine ⟨_, rfl, ?_⟩; replace O19 := O19.mv ho (by omega); have z10 := ho.size; replace HB := Bw.mk (w := w) (ho.below HB.out (by omega)); replace O26 := hn; clear hn; clear ho; simp only [Act.put, List.setIfInBounds_toArray, List.set_cons_zero, List.set_cons_succ])
    | ((with_reducible refine gate_dst (N := 64) rfl ?_); refine gg (some 64) rfl rfl rfl fr17 ?_; refine onc (laws_heldStepS.kc k (msts 1 t3_1) v_26 1 t10 _ O26.rd A10.out) rfl ?_; rintro e w11 ⟨rfl, hb⟩; refine ⟨_, rfl, ?_⟩; replace O19 := O19.b hb; replace O26 := O26.b hb; have z11 := hb.size; replace HB := Bw.sw w hb; clear hb; simp only [Act.put, List.setIfInBounds_toArray, List.set_cons_zero, List.set_cons_succ])
    | ((with_reducible refine gate_dst (N := 72) rfl ?_); refine gg (some 72) rfl rfl rfl fr9 ?_; refine onc (laws_toByteS.kc k l0 (.slice A_0 l0.length c_0) t1 _ (K0.b HB.out) A1.out) rfl ?_; rintro e w12 ⟨v_72, rfl, ho, hb⟩; refine ⟨_, rfl, ?_⟩; replace O19 := O19.b hb; replace O26 := O26.b hb; have z12 := hb.size; replace HB := Bw.sw w hb; have O72 := ho; clear ho hb; simp only [Act.put, List.setIfInBounds_toArray, List.set_cons_zero, List.set_cons_succ])
    | ((with_reducible refine gate_dst (N := 73) rfl ?_); refine gg (some 73) rfl rfl rfl fr13 ?_; refine onc (impl_PathRead.kc k t1 v_72 t3_1 t3_2 _ O72.rd (TB.b HB.out) A3.out) rfl ?_; rintro e w13 ⟨v_73, rfl, ho, hb⟩; refine ⟨_, rfl, ?_⟩; replace O19 := O19.b hb; replace O26 := O26.b hb; have z13 := hb.size; replace HB := Bw.sw w hb; have O73 := ho; clear ho hb; simp only [Act.put, List.setIfInBounds_toArray, List.set_cons_zero, List.set_cons_succ])
    | ((with_reducible refine gate_dst (N := 78) rfl ?_); refine gg (some 78) rfl rfl rfl fr14 ?_; refine onc (laws_eqStepS.kc k t3_1 v_73 t2_1 v_19 true _ O73.rd O19.rd A4.out) rfl ?_; rintro e w14 ⟨rfl, hb⟩; refine ⟨_, rfl, ?_⟩; replace O26 := O26.b hb; have z14 := hb.size; replace HB := Bw.sw w hb; clear hb; simp only [Act.put, List.setIfInBounds_toArray, List.set_cons_zero, List.set_cons_succ])
    | ((with_reducible refine gate_dst (N := 87) rfl ?_); refine gg (some 87) rfl rfl rfl fr17 ?_; refine onc (laws_heldStepS.kc k (msts 1 t3_1) v_26 1 t10 _ O26.rd A10.out) rfl ?_; rintro e w15 ⟨rfl, hb⟩; refine ⟨_, rfl, ?_⟩; have z15 := hb.size; replace HB := Bw.sw w hb; clear hb; simp only [Act.put, List.setIfInBounds_toArray, List.set_cons_zero, List.set_cons_succ]))
  go_ret
  exact ⟨by first | rfl | simp, HB.out⟩
end Go.Proofs.YtockllljeeakaaaDoor.PFnExactPathRead
