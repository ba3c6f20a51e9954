/- The law, walked: by contracts over whole values. No condition. -/
import Derived.Test.YtockllljeeakaaaDoorPFnExactAddrNamex0
import Derived.Test.YtockllljeeakaaaDoorPFnExactAddrNamex1
import Derived.Test.YtockllljeeakaaaDoorPFnExactAddrNamex4
import Derived.Test.YtockllljeeakaaaDoorPFnExactAddrNamex9
import Derived.Test.YtockllljeeakaaaDoorMlaw
import Derived.Test.YtockllljeeakaaaDoorMownB
namespace Go.Proofs.YtockllljeeakaaaDoor.PFnExactAddrName
open Go.RowKit Go.Proofs.YtockllljeeakaaaDoorW.PrintWords Go.Proofs.YtockllljeeakaaaDoorW.PrintLast Go.Proofs.YtockllljeeakaaaDoorW.PrintMore Go.Proofs.YtockllljeeakaaaDoor.M
attribute [local go_sem] max2_int min2_int max_two min_two max_three min_three max_four min_four Go.Proofs.YtockllljeeakaaaDoor.M.str_gtr Go.Proofs.YtockllljeeakaaaDoor.M.str_leq Go.Proofs.YtockllljeeakaaaDoor.M.str_geq   -- for this text's walks alone
set_option linter.unusedVariables false
set_option linter.unusedSimpArgs false
theorem laws_toByteS.kc (k : Nat) (l0 : List Int) (v0 : Value) (r : List Int) (w : World) (h0 : Rd (Kd.slice 5 (Kd.int .u8)) w l0 [v0]) (h : laws_toByteS.f k l0 = some r) :
  Calls Tryd.prog 9 #[v0] w fun e w' => ∃ v : Value, e = .returned v ∧ Own (Kd.slice 5 (Kd.int .u8)) w' w.heap.size w'.heap.size r [v] ∧ Below w.heap.size w w' := by
  obtain ⟨A0, c0, e0, lc0, g0⟩ := h0.k
  injection e0 with e0
  subst e0
  refine (laws_toByteS.calls k _ _ l0 r w g0 lc0 h).mono ?_
  rintro e w' ⟨v, rfl, g, hb⟩
  exact ⟨_, rfl, Own.of ⟨_, rfl, g⟩ (Below.size (hb)), hb⟩
theorem laws_eqByteS.kc (k : Nat) (l0 : List Int) (v0 : Value) (l1 : List Int) (v1 : Value) (r : Bool) (w : World) (h0 : Rd (Kd.slice 5 (Kd.int .u8)) w l0 [v0]) (h1 : Rd (Kd.slice 5 (Kd.int .u8)) w l1 [v1]) (h : laws_eqByteS.f k l0 l1 = some r) :
  Calls Tryd.prog 11 #[v0, v1] w fun e w' => e = .returned (.bool r) ∧ Below w.heap.size w w' := by
  obtain ⟨A0, c0, e0, lc0, g0⟩ := h0.k
  injection e0 with e0
  subst e0
  obtain ⟨A1, c1, e1, lc1, g1⟩ := h1.k
  injection e1 with e1
  subst e1
  refine (laws_eqByteS.calls k _ _ l0 _ _ l1 r w g0 lc0 g1 lc1 h).mono ?_
  rintro e w' ⟨rfl, ⟨nd, rfl⟩⟩
  exact ⟨rfl, pw_below_drewN (Below.refl _ _) nd⟩
theorem laws_markByteS.kc (l0 : List Int) (v0 : Value) (k mm : Int) (w : World) {lo hi : Nat} (hk : 0 ≤ k) (hm : l0.length ≤ 1099511627776) (hk2 : k ≤ 1099511627776) (he : some (k + (l0.length : Nat)) = some mm) (h0 : Own (Kd.slice 5 (Kd.int .u8)) w lo hi l0 [v0]) :
    Calls Tryd.prog 15 #[v0, .int .i64 k] w fun e w' => e = .returned (.int .i64 mm) ∧ Own (Kd.slice 5 (Kd.int .u8)) w' lo hi (mk k l0.length) [v0] ∧ M.Outside lo hi w w' := by
  have he := Option.some.inj he
  subst he
  obtain ⟨v, e, h1⟩ := h0.m
  injection e with e
  subst e
  refine (markByteS_own l0 v0 k w lo _ hk (by omega) h1).mono ?_
  rintro e w' ⟨rfl, g1, g2⟩
  have g := g2.outside (fun _ h => h)
  exact ⟨rfl, ⟨⟨_, rfl, g1⟩, Nat.le_trans h0.le g.size⟩, g⟩
theorem laws_heldByteS.kc (k : Nat) (l0 : List Int) (v0 : Value) (a1 : Int) (r : Int) (w : World) (h0 : Rd (Kd.slice 5 (Kd.int .u8)) w l0 [v0]) (h : laws_heldByteS.f k l0 a1 = some r) :
  Calls Tryd.prog 20 #[v0, .int .i64 a1] w fun e w' => e = .returned (.int .i64 r) ∧ Below w.heap.size w w' := by
  obtain ⟨A0, c0, e0, lc0, g0⟩ := h0.k
  injection e0 with e0
  subst e0
  refine (laws_heldByteS.calls k _ _ l0 a1 r w g0 lc0 h).mono ?_
  rintro e w' ⟨rfl, ⟨nd, rfl⟩⟩
  exact ⟨rfl, pw_below_drewN (Below.refl _ _) nd⟩
theorem fr9 : Fr Tryd.prog 9 := ⟨_, Tryd.func9, by kernel_rfl, rfl⟩
theorem fr18 : Fr Tryd.prog 18 := ⟨_, Tryd.func18, by kernel_rfl, rfl⟩
theorem fr19 : Fr Tryd.prog 19 := ⟨_, Tryd.func19, by kernel_rfl, rfl⟩
theorem fr11 : Fr Tryd.prog 11 := ⟨_, Tryd.func11, by kernel_rfl, rfl⟩
theorem fr15 : Fr Tryd.prog 15 := ⟨_, Tryd.func15, by kernel_rfl, rfl⟩
theorem fr20 : Fr Tryd.prog 20 := ⟨_, Tryd.func20, by kernel_rfl, rfl⟩
def laws_FnExactAddrName.f (k : Nat) (l0 : List Int) : Option Bool := if (l0.length : Int) > 1048576 then some true else (laws_toByteS.f k l0).bind fun t1 => (spec_AddrName.g k t1).bind fun t2 => (impl_AddrName.g k t1).bind fun t3 => (laws_eqByteS.f k t3 t2).bind fun t4 => if t4 = true then (laws_eqByteS.f k t1 t1).bind fun t5 => if t5 = true then if t1.length ≤ 1099511627776 then (some (1 + (t1.length : Nat)) : Option Int).bind fun t7 => if t7 < 0 then some false else if t3.length ≤ 1099511627776 then (some (1 + (t3.length : Nat)) : Option Int).bind fun t9 => (laws_heldByteS.f k ((mk 1 t3.length)) 1).bind fun t10 => if t10 < 0 then some false else if t10 = t9 then some true else some false else some false else some false else some false else some false
set_option maxRecDepth 100000 in
set_option maxHeartbeats 8000000 in
theorem laws_FnExactAddrName.calls (k : Nat) (l0 : List Int) (v0 : Value) (w : World) (K0 : Rd (Kd.slice 5 (Kd.int .u8)) w l0 [v0]) (TB : Tb w) (h : laws_FnExactAddrName.f k l0 = some true) :
  Calls Tryd.prog 5 #[v0] w fun e w' => e = .returned (.bool true) ∧ Below w.heap.size w w' := by
  unfold laws_FnExactAddrName.f at h
  obtain ⟨A_0, c_0, e, hc0, hr0⟩ := id K0.k
  injection e with e
  subst e
  clear hc0 hr0
  have HB := Bw.refl w
  by_cases c : (l0.length : Int) > 1048576
  ·have cb : decide ((l0.length : Int) > 1048576) = true := decide_eq_true c
   clear c h
   go_enter Tryd.func5, Tryd.ntmps5
   try go_wp2
   go_ret
   exact ⟨by first | rfl | simp, HB.out⟩
  rw [if_neg c] at h
  replace c : decide ((l0.length : Int) > 1048576) = false := decide_eq_false c
  have q11 := c
  clear c
  have h9 := bnd h; clear h; obtain ⟨t1, A1, h⟩ := h9
  replace A1 := Aside0.mk A1
  have h9 := bnd h; clear h; obtain ⟨t2, A2, h⟩ := h9
  replace A2 := Aside0.mk A2
  have h9 := bnd h; clear h; obtain ⟨t3, A3, h⟩ := h9
  replace A3 := Aside0.mk A3
  have h9 := bnd h; clear h; obtain ⟨t4, A4, h⟩ := h9
  replace A4 := Aside0.mk A4
  have h9 := yes h; clear h; obtain ⟨c, h⟩ := h9
  subst c
  have h9 := bnd h; clear h; obtain ⟨t5, A5, h⟩ := h9
  replace A5 := Aside0.mk A5
  have h9 := yes h; clear h; obtain ⟨c, h⟩ := h9
  subst c
  have h9 := yes h; clear h; obtain ⟨G6, h⟩ := h9; replace G6 := Aside0.mk G6
  have h9 := bnd h; clear h; obtain ⟨t7, A7, h⟩ := h9
  replace A7 := Aside0.mk A7
  have h9 := nope h; clear h; obtain ⟨c, h⟩ := h9
  have q12 : decide (t7 < 0) = false := decide_eq_false c
  clear c
  have h9 := yes h; clear h; obtain ⟨G8, h⟩ := h9; replace G8 := Aside0.mk G8
  have h9 := bnd h; clear h; obtain ⟨t9, A9, h⟩ := h9
  replace A9 := Aside0.mk A9
  have h9 := bnd h; clear h; obtain ⟨t10, A10, h⟩ := h9
  replace A10 := Aside0.mk A10
  have h9 := nope h; clear h; obtain ⟨c, h⟩ := h9
  have q13 : decide (t10 < 0) = false := decide_eq_false c
  clear c
  have h9 := yes h; clear h; obtain ⟨c, h⟩ := h9
  subst c
  clear h
  go_enter Tryd.func5, Tryd.ntmps5
  go_wp2_with (first
    | ((with_reducible refine gate_dst (N := 14) rfl ?_); refine gg (some 14) rfl rfl rfl fr9 ?_; refine onc (laws_toByteS.kc k l0 (.slice A_0 l0.length c_0) t1 _ (K0.b HB.out) A1.out) rfl ?_; rintro e w1 ⟨v_14, rfl, ho, hb⟩; refine ⟨_, rfl, ?_⟩; have z1 := hb.size; replace HB := Bw.sw w hb; have O14 := ho; clear ho hb; simp only [Act.put, List.setIfInBounds_toArray, List.set_cons_zero, List.set_cons_succ])
    | ((with_reducible refine gate_dst (N := 15) rfl ?_); refine gg (some 15) rfl rfl rfl fr18 ?_; refine onc (spec_AddrName.kc k t1 v_14 t2 _ O14.rd A2.out) rfl ?_; rintro e w2 ⟨v_15, rfl, ho, hb⟩; refine ⟨_, rfl, ?_⟩; have z2 := hb.size; replace HB := Bw.sw w hb; have O15 := ho; clear ho hb; simp only [Act.put, List.setIfInBounds_toArray, List.set_cons_zero, List.set_cons_succ])
    | ((with_reducible refine gate_dst (N := 17) rfl ?_); refine gg (some 17) rfl rfl rfl fr9 ?_; refine onc (laws_toByteS.kc k l0 (.slice A_0 l0.length c_0) t1 _ (K0.b HB.out) A1.out) rfl ?_; rintro e w3 ⟨v_17, rfl, ho, hb⟩; refine ⟨_, rfl, ?_⟩; replace O15 := O15.b hb; have z3 := hb.size; replace HB := Bw.sw w hb; have O17 := ho; clear ho hb; simp only [Act.put, List.setIfInBounds_toArray, List.set_cons_zero, List.set_cons_succ])
    | ((with_reducible refine gate_dst (N := 19) rfl ?_); refine gg (some 19) rfl rfl rfl fr19 ?_; refine onc (impl_AddrName.kc k t1 v_17 t3 _ O17.rd (TB.b HB.out) A3.out) rfl ?_; rintro e w4 ⟨v_19, rfl, ho, hb⟩; refine ⟨_, rfl, ?_⟩; replace O15 := O15.b hb; replace O17 := O17.b hb; have z4 := hb.size; replace HB := Bw.sw w hb; have O19 := ho; clear ho hb; simp only [Act.put, List.setIfInBounds_toArray, List.set_cons_zero, List.set_cons_succ])
    | ((with_reducible refine gate_dst (N := 22) rfl ?_); refine gg (some 22) rfl rfl rfl fr11 ?_; refine onc (laws_eqByteS.kc k t3 v_19 t2 v_15 true _ O19.rd O15.rd A4.out) rfl ?_; rintro e w5 ⟨rfl, hb⟩; refine ⟨_, rfl, ?_⟩; replace O15 := O15.b hb; replace O17 := O17.b hb; replace O19 := O19.b hb; have z5 := hb.size; replace HB := Bw.sw w hb; clear hb; simp only [Act.put, List.setIfInBounds_toArray, List.set_cons_zero, List.set_cons_succ])
    | ((with_reducible refine gate_dst (N := 26) rfl ?_); refine gg (some 26) rfl rfl rfl fr9 ?_; refine onc (laws_toByteS.kc k l0 (.slice A_0 l0.length c_0) t1 _ (K0.b HB.out) A1.out) rfl ?_; rintro e w6 ⟨v_26, rfl, ho, hb⟩; refine ⟨_, rfl, ?_⟩; replace O15 := O15.b hb; replace O17 := O17.b hb; replace O19 := O19.b hb; have z6 := hb.size; replace HB := Bw.sw w hb; have O26 := ho; clear ho hb; simp only [Act.put, List.setIfInBounds_toArray, List.set_cons_zero, List.set_cons_succ])
    | ((with_reducible refine gate_dst (N := 27) rfl ?_); refine gg (some 27) rfl rfl rfl fr11 ?_; refine onc (laws_eqByteS.kc k t1 v_17 t1 v_26 true _ O17.rd O26.rd A5.out) rfl ?_; rintro e w7 ⟨rfl, hb⟩; refine ⟨_, rfl, ?_⟩; replace O15 := O15.b hb; replace O17 := O17.b hb; replace O19 := O19.b hb; have z7 := hb.size; replace HB := Bw.sw w hb; clear hb; simp only [Act.put, List.setIfInBounds_toArray, List.set_cons_zero, List.set_cons_succ])
    | ((with_reducible refine gate_dst (N := 31) rfl ?_); refine gg (some 31) rfl rfl rfl fr15 ?_; refine onc (laws_markByteS.kc t1 v_17 1 t7 _ (by omega) G6.out (by omega) A7.out O17) rfl ?_; rintro e w8 ⟨rfl, hn, ho⟩; refine ⟨_, rfl, ?_⟩; replace O15 := O15.mv ho (by omega); replace O19 := O19.mv ho (by omega); have z8 := ho.size; replace HB := Bw.mk (w := w) (ho.below HB.out (by omega)); replace O17 := hn; clear hn; clear ho; simp only [Act.put, List.setIfInBounds_toArray, List.set_cons_zero, List.set_cons_succ])
    | ((with_reducible refine gate_dst (N := 37) rfl ?_); refine ggw (some 37) rfl (by rfl) rfl fr11 ?_; refine onc (laws_eqByteS.kc k t3 v_19 t2 v_15 true _ O19.rd O15.rd A4.out) rfl ?_; rintro e w9 ⟨rfl, hb⟩; refine ⟨_, rfl, ?_⟩; replace O15 := O15.b hb; replace O19 := O19.b hb; have z9 := hb.size; replace HB := Bw.sw w hb; clear hb; simp only [Act.put, List.setIfInBounds_toArray, List.set_cons_zero, List.set_cons_succ])
    | ((with_reducible refine gate_dst (N := 42) rfl ?_); refine gg (some 42) rfl rfl rfl fr15 ?_; refine onc (laws_markByteS.kc t3 v_19 1 t10 _ (by omega) G8.out (by omega) A9.out O19) rfl ?_; rintro e w10 ⟨rfl, hn, ho⟩; refine ⟨_, rfl, ?_⟩; replace O15 := O15.mv ho (by omega); have z10 := ho.size; replace HB := Bw.mk (w := w) (ho.below HB.out (by omega)); replace O19 := hn; clear hn; clear ho; simp only [Act.put, List.setIfInBounds_toArray, List.set_cons_zero, List.set_cons_succ])
    | ((with_reducible refine gate_dst (N := 45) rfl ?_); refine gg (some 45) rfl rfl rfl fr20 ?_; refine onc (laws_heldByteS.kc k (mk 1 t3.length) v_19 1 t10 _ O19.rd A10.out) rfl ?_; rintro e w11 ⟨rfl, hb⟩; refine ⟨_, rfl, ?_⟩; replace O15 := O15.b hb; replace O19 := O19.b hb; have z11 := hb.size; replace HB := Bw.sw w hb; clear hb; simp only [Act.put, List.setIfInBounds_toArray, List.set_cons_zero, List.set_cons_succ])
    | ((with_reducible refine gate_dst (N := 52) rfl ?_); refine gg (some 52) rfl rfl rfl fr9 ?_; refine onc (laws_toByteS.kc k l0 (.slice A_0 l0.length c_0) t1 _ (K0.b HB.out) A1.out) rfl ?_; rintro e w12 ⟨v_52, rfl, ho, hb⟩; refine ⟨_, rfl, ?_⟩; replace O15 := O15.b hb; replace O19 := O19.b hb; have z12 := hb.size; replace HB := Bw.sw w hb; have O52 := ho; clear ho hb; simp only [Act.put, List.setIfInBounds_toArray, List.set_cons_zero, List.set_cons_succ])
    | ((with_reducible refine gate_dst (N := 53) rfl ?_); refine gg (some 53) rfl rfl rfl fr19 ?_; refine onc (impl_AddrName.kc k t1 v_52 t3 _ O52.rd (TB.b HB.out) A3.out) rfl ?_; rintro e w13 ⟨v_53, rfl, ho, hb⟩; refine ⟨_, rfl, ?_⟩; replace O15 := O15.b hb; replace O19 := O19.b hb; have z13 := hb.size; replace HB := Bw.sw w hb; have O53 := ho; clear ho hb; simp only [Act.put, List.setIfInBounds_toArray, List.set_cons_zero, List.set_cons_succ])
    | ((with_reducible refine gate_dst (N := 56) rfl ?_); refine gg (some 56) rfl rfl rfl fr11 ?_; refine onc (laws_eqByteS.kc k t3 v_53 t2 v_15 true _ O53.rd O15.rd A4.out) rfl ?_; rintro e w14 ⟨rfl, hb⟩; refine ⟨_, rfl, ?_⟩; replace O19 := O19.b hb; have z14 := hb.size; replace HB := Bw.sw w hb; clear hb; simp only [Act.put, List.setIfInBounds_toArray, List.set_cons_zero, List.set_cons_succ])
    | ((with_reducible refine gate_dst (N := 60) rfl ?_); refine gg (some 60) rfl rfl rfl fr20 ?_; refine onc (laws_heldByteS.kc k (mk 1 t3.length) v_19 1 t10 _ O19.rd A10.out) rfl ?_; rintro e w15 ⟨rfl, hb⟩; refine ⟨_, rfl, ?_⟩; have z15 := hb.size; replace HB := Bw.sw w hb; clear hb; simp only [Act.put, List.setIfInBounds_toArray, List.set_cons_zero, List.set_cons_succ]))
  go_ret
  exact ⟨by first | rfl | simp, HB.out⟩
end Go.Proofs.YtockllljeeakaaaDoor.PFnExactAddrName
