/- The law, walked: by contracts over whole values. No condition. -/
import Derived.Test.YtockllljeeakaaaDoorPFnExactAddrOkx0
import Derived.Test.YtockllljeeakaaaDoorPFnExactAddrOkx1
import Derived.Test.YtockllljeeakaaaDoorPFnExactAddrOkx4
import Derived.Test.YtockllljeeakaaaDoorPFnExactAddrOkx8
import Derived.Test.YtockllljeeakaaaDoorMlaw
namespace Go.Proofs.YtockllljeeakaaaDoor.PFnExactAddrOk
open Go.RowKit Go.Proofs.YtockllljeeakaaaDoorW.PrintWords Go.Proofs.YtockllljeeakaaaDoorW.PrintLast Go.Proofs.YtockllljeeakaaaDoorW.PrintMore Go.Proofs.YtockllljeeakaaaDoor.M
attribute [local go_sem] max2_int min2_int max_two min_two max_three min_three max_four min_four Go.Proofs.YtockllljeeakaaaDoor.M.str_gtr Go.Proofs.YtockllljeeakaaaDoor.M.str_leq Go.Proofs.YtockllljeeakaaaDoor.M.str_geq   -- for this text's walks alone
set_option linter.unusedVariables false
set_option linter.unusedSimpArgs false
theorem laws_toByteS.kc (k : Nat) (l0 : List Int) (v0 : Value) (r : List Int) (w : World) (h0 : Rd (Kd.slice 5 (Kd.int .u8)) w l0 [v0]) (h : laws_toByteS.f k l0 = some r) :
  Calls Tryd.prog 9 #[v0] w fun e w' => ∃ v : Value, e = .returned v ∧ Own (Kd.slice 5 (Kd.int .u8)) w' w.heap.size w'.heap.size r [v] ∧ Below w.heap.size w w' := by
  obtain ⟨A0, c0, e0, lc0, g0⟩ := h0.k
  injection e0 with e0
  subst e0
  refine (laws_toByteS.calls k _ _ l0 r w g0 lc0 h).mono ?_
  rintro e w' ⟨v, rfl, g, hb⟩
  exact ⟨_, rfl, Own.of ⟨_, rfl, g⟩ (Below.size (hb)), hb⟩
theorem laws_eqByteS.kc (k : Nat) (l0 : List Int) (v0 : Value) (l1 : List Int) (v1 : Value) (r : Bool) (w : World) (h0 : Rd (Kd.slice 5 (Kd.int .u8)) w l0 [v0]) (h1 : Rd (Kd.slice 5 (Kd.int .u8)) w l1 [v1]) (h : laws_eqByteS.f k l0 l1 = some r) :
  Calls Tryd.prog 11 #[v0, v1] w fun e w' => e = .returned (.bool r) ∧ Below w.heap.size w w' := by
  obtain ⟨A0, c0, e0, lc0, g0⟩ := h0.k
  injection e0 with e0
  subst e0
  obtain ⟨A1, c1, e1, lc1, g1⟩ := h1.k
  injection e1 with e1
  subst e1
  refine (laws_eqByteS.calls k _ _ l0 _ _ l1 r w g0 lc0 g1 lc1 h).mono ?_
  rintro e w' ⟨rfl, ⟨nd, rfl⟩⟩
  exact ⟨rfl, pw_below_drewN (Below.refl _ _) nd⟩
theorem fr9 : Fr Tryd.prog 9 := ⟨_, Tryd.func9, by kernel_rfl, rfl⟩
theorem fr8 : Fr Tryd.prog 8 := ⟨_, Tryd.func8, by kernel_rfl, rfl⟩
theorem fr10 : Fr Tryd.prog 10 := ⟨_, Tryd.func10, by kernel_rfl, rfl⟩
theorem fr11 : Fr Tryd.prog 11 := ⟨_, Tryd.func11, by kernel_rfl, rfl⟩
def laws_FnExactAddrOk.f (k : Nat) (l0 : List Int) : Option Bool := if (l0.length : Int) > 1048576 then some true else (laws_toByteS.f k l0).bind fun t1 => (spec_AddrOk.g k t1).bind fun t2 => (impl_AddrOk.g k t1).bind fun t3 => if t3 = t2 then (laws_eqByteS.f k t1 t1).bind fun t4 => if t4 = true then some true else some false else some false
set_option maxRecDepth 100000 in
set_option maxHeartbeats 8000000 in
theorem laws_FnExactAddrOk.calls (k : Nat) (l0 : List Int) (v0 : Value) (w : World) (K0 : Rd (Kd.slice 5 (Kd.int .u8)) w l0 [v0]) (TB : Tb w) (h : laws_FnExactAddrOk.f k l0 = some true) :
  Calls Tryd.prog 3 #[v0] w fun e w' => e = .returned (.bool true) ∧ Below w.heap.size w w' := by
  unfold laws_FnExactAddrOk.f at h
  obtain ⟨A_0, c_0, e, hc0, hr0⟩ := id K0.k
  injection e with e
  subst e
  clear hc0 hr0
  have HB := Bw.refl w
  by_cases c : (l0.length : Int) > 1048576
  ·have cb : decide ((l0.length : Int) > 1048576) = true := decide_eq_true c
   clear c h
   go_enter Tryd.func3, Tryd.ntmps3
   try go_wp2
   go_ret
   exact ⟨by first | rfl | simp, HB.out⟩
  rw [if_neg c] at h
  replace c : decide ((l0.length : Int) > 1048576) = false := decide_eq_false c
  have q5 := c
  clear c
  have h9 := bnd h; clear h; obtain ⟨t1, A1, h⟩ := h9
  replace A1 := Aside0.mk A1
  have h9 := bnd h; clear h; obtain ⟨t2, A2, h⟩ := h9
  replace A2 := Aside0.mk A2
  have h9 := bnd h; clear h; obtain ⟨t3, A3, h⟩ := h9
  replace A3 := Aside0.mk A3
  have h9 := yes h; clear h; obtain ⟨c, h⟩ := h9
  subst c
  have h9 := bnd h; clear h; obtain ⟨t4, A4, h⟩ := h9
  replace A4 := Aside0.mk A4
  have h9 := yes h; clear h; obtain ⟨c, h⟩ := h9
  subst c
  clear h
  go_enter Tryd.func3, Tryd.ntmps3
  go_wp2_with (first
    | ((with_reducible refine gate_dst (N := 10) rfl ?_); refine gg (some 10) rfl rfl rfl fr9 ?_; refine onc (laws_toByteS.kc k l0 (.slice A_0 l0.length c_0) t1 _ (K0.b HB.out) A1.out) rfl ?_; rintro e w1 ⟨v_10, rfl, ho, hb⟩; refine ⟨_, rfl, ?_⟩; replace HB := Bw.sw w hb; have O10 := ho; clear ho hb; simp only [Act.put, List.setIfInBounds_toArray, List.set_cons_zero, List.set_cons_succ])
    | ((with_reducible refine gate_dst (N := 11) rfl ?_); refine gg (some 11) rfl rfl rfl fr8 ?_; refine onc (spec_AddrOk.kc k t1 v_10 t3 _ O10.rd A2.out) rfl ?_; rintro e w2 ⟨rfl, hb⟩; refine ⟨_, rfl, ?_⟩; replace HB := Bw.sw w hb; clear hb; simp only [Act.put, List.setIfInBounds_toArray, List.set_cons_zero, List.set_cons_succ])
    | ((with_reducible refine gate_dst (N := 13) rfl ?_); refine gg (some 13) rfl rfl rfl fr9 ?_; refine onc (laws_toByteS.kc k l0 (.slice A_0 l0.length c_0) t1 _ (K0.b HB.out) A1.out) rfl ?_; rintro e w3 ⟨v_13, rfl, ho, hb⟩; refine ⟨_, rfl, ?_⟩; replace HB := Bw.sw w hb; have O13 := ho; clear ho hb; simp only [Act.put, List.setIfInBounds_toArray, List.set_cons_zero, List.set_cons_succ])
    | ((with_reducible refine gate_dst (N := 15) rfl ?_); refine gg (some 15) rfl rfl rfl fr10 ?_; refine onc (impl_AddrOk.kc k t1 v_13 t3 _ O13.rd (TB.b HB.out) A3.out) rfl ?_; rintro e w4 ⟨rfl, hb⟩; refine ⟨_, rfl, ?_⟩; replace O13 := O13.b hb; replace HB := Bw.sw w hb; clear hb; simp only [Act.put, List.setIfInBounds_toArray, List.set_cons_zero, List.set_cons_succ])
    | ((with_reducible refine gate_dst (N := 21) rfl ?_); refine gg (some 21) rfl rfl rfl fr9 ?_; refine onc (laws_toByteS.kc k l0 (.slice A_0 l0.length c_0) t1 _ (K0.b HB.out) A1.out) rfl ?_; rintro e w5 ⟨v_21, rfl, ho, hb⟩; refine ⟨_, rfl, ?_⟩; replace O13 := O13.b hb; replace HB := Bw.sw w hb; have O21 := ho; clear ho hb; simp only [Act.put, List.setIfInBounds_toArray, List.set_cons_zero, List.set_cons_succ])
    | ((with_reducible refine gate_dst (N := 22) rfl ?_); refine gg (some 22) rfl rfl rfl fr11 ?_; refine onc (laws_eqByteS.kc k t1 v_13 t1 v_21 true _ O13.rd O21.rd A4.out) rfl ?_; rintro e w6 ⟨rfl, hb⟩; refine ⟨_, rfl, ?_⟩; replace HB := Bw.sw w hb; clear hb; simp only [Act.put, List.setIfInBounds_toArray, List.set_cons_zero, List.set_cons_succ]))
  go_ret
  exact ⟨by first | rfl | simp, HB.out⟩
end Go.Proofs.YtockllljeeakaaaDoor.PFnExactAddrOk
