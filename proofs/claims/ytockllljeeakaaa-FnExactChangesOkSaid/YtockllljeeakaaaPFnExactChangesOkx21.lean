/- The law, walked: by contracts over whole values. No condition. -/
import Derived.Test.YtockllljeeakaaaPFnExactChangesOkx0
import Derived.Test.YtockllljeeakaaaPFnExactChangesOkx2
import Derived.Test.YtockllljeeakaaaPFnExactChangesOkx12
import Derived.Test.YtockllljeeakaaaPFnExactChangesOkx18
import Derived.Test.YtockllljeeakaaaPFnExactChangesOkx19
import Derived.Test.YtockllljeeakaaaPFnExactChangesOkx20
import Derived.Test.YtockllljeeakaaaMlaw
namespace Go.Proofs.Ytockllljeeakaaa.PFnExactChangesOk
open Go.RowKit Go.Proofs.YtockllljeeakaaaW.PrintWords Go.Proofs.YtockllljeeakaaaW.PrintLast Go.Proofs.YtockllljeeakaaaW.PrintMore Go.Proofs.Ytockllljeeakaaa.M
attribute [local go_sem] max2_int min2_int max_two min_two max_three min_three max_four min_four Go.Proofs.Ytockllljeeakaaa.M.str_gtr Go.Proofs.Ytockllljeeakaaa.M.str_leq Go.Proofs.Ytockllljeeakaaa.M.str_geq   -- for this text's walks alone
set_option linter.unusedVariables false
set_option linter.unusedSimpArgs false
theorem laws_szChangeS.kc (k : Nat) (l0 : List (S74)) (v0 : Value) (a1 : Int) (r : Int) (w : World) (h0 : Rd (Kd.slice 74 k74) w l0 [v0]) (h : laws_szChangeS.f k l0 a1 = some r) :
  Calls Try.prog 21 #[v0, .int .i64 a1] w fun e w' => e = .returned (.int .i64 r) ∧ Below w.heap.size w w' := by
  obtain ⟨A0, c0, e0, lc0, g0⟩ := h0.k
  injection e0 with e0
  subst e0
  refine (laws_szChangeS.calls k _ _ l0 a1 r w g0 lc0 h).mono ?_
  rintro e w' ⟨rfl, hb⟩
  exact ⟨rfl, hb⟩
theorem laws_toChangeS.kc (k : Nat) (l0 : List (S74)) (v0 : Value) (r : List (S81)) (w : World) (h0 : Rd (Kd.slice 74 k74) w l0 [v0]) (h : laws_toChangeS.f k l0 = some r) :
  Calls Try.prog 23 #[v0] w fun e w' => ∃ v : Value, e = .returned v ∧ Own (Kd.slice 81 k81) w' w.heap.size w'.heap.size r [v] ∧ Below w.heap.size w w' := by
  obtain ⟨A0, c0, e0, lc0, g0⟩ := h0.k
  injection e0 with e0
  subst e0
  refine (laws_toChangeS.calls k _ _ l0 r w g0 lc0 h).mono ?_
  rintro e w' ⟨v, rfl, g, hb⟩
  exact ⟨_, rfl, Own.of ⟨_, rfl, g⟩ (Below.size (hb)), hb⟩
theorem spec_ChangesOk.kc (k : Nat) (l0 : List (S81)) (v0 : Value) (r : Bool) (w : World) (h0 : Rd (Kd.slice 81 k81) w l0 [v0]) (h : spec_ChangesOk.f k l0 = some r) :
  Calls Try.prog 35 #[v0] w fun e w' => e = .returned (.bool r) ∧ Below w.heap.size w w' := by
  obtain ⟨A0, c0, e0, lc0, g0⟩ := h0.k
  injection e0 with e0
  subst e0
  refine (spec_ChangesOk.calls k _ _ l0 r w g0 lc0 h).mono ?_
  rintro e w' ⟨rfl, hb⟩
  exact ⟨rfl, hb⟩
theorem impl_ChangesOk.kc (k : Nat) (l0 : List (S81)) (v0 : Value) (r : Bool) (w : World) (h0 : Rd (Kd.slice 81 k81) w l0 [v0]) (h : impl_ChangesOk.f k l0 = some r) :
  Calls Try.prog 36 #[v0] w fun e w' => e = .returned (.bool r) ∧ Below w.heap.size w w' := by
  obtain ⟨A0, c0, e0, lc0, g0⟩ := h0.k
  injection e0 with e0
  subst e0
  refine (impl_ChangesOk.calls k _ _ l0 r w g0 lc0 h).mono ?_
  rintro e w' ⟨rfl, hb⟩
  exact ⟨rfl, hb⟩
theorem laws_eqChangeS.kc (k : Nat) (l0 : List (S81)) (v0 : Value) (l1 : List (S81)) (v1 : Value) (r : Bool) (w : World) (h0 : Rd (Kd.slice 81 k81) w l0 [v0]) (h1 : Rd (Kd.slice 81 k81) w l1 [v1]) (h : laws_eqChangeS.f k l0 l1 = some r) :
  Calls Try.prog 25 #[v0, v1] w fun e w' => e = .returned (.bool r) ∧ Below w.heap.size w w' := by
  obtain ⟨A0, c0, e0, lc0, g0⟩ := h0.k
  injection e0 with e0
  subst e0
  obtain ⟨A1, c1, e1, lc1, g1⟩ := h1.k
  injection e1 with e1
  subst e1
  refine (laws_eqChangeS.calls k _ _ l0 _ _ l1 r w g0 lc0 g1 lc1 h).mono ?_
  rintro e w' ⟨rfl, hb⟩
  exact ⟨rfl, hb⟩
def laws_FnExactChangesOk.f (k : Nat) (l0 : List S74) : Option Bool := (laws_szChangeS.f k l0 1048576).bind fun t1 => if t1 < 0 then some true else (laws_toChangeS.f k l0).bind fun t2 => (spec_ChangesOk.f k t2).bind fun t3 => (impl_ChangesOk.f k t2).bind fun t4 => if t4 = t3 then (laws_eqChangeS.f k t2 t2).bind fun t5 => if t5 = true then some true else some false else some false
set_option maxRecDepth 100000 in
set_option maxHeartbeats 8000000 in
theorem laws_FnExactChangesOk.calls (k : Nat) (l0 : List S74) (v0 : Value) (w : World) (K0 : Rd (Kd.slice 74 k74) w l0 [v0]) (h : laws_FnExactChangesOk.f k l0 = some true) :
  Calls Try.prog 8 #[v0] w fun e w' => e = .returned (.bool true) ∧ Below w.heap.size w w' := by
  unfold laws_FnExactChangesOk.f at h
  obtain ⟨A_0, c_0, e, hc0, hr0⟩ := id K0.k
  injection e with e
  subst e
  clear hc0 hr0
  have HB := Bw.refl w
  have h9 := bnd h; clear h; obtain ⟨t1, A1, h⟩ := h9
  replace A1 := Aside0.mk A1
  by_cases c : t1 < 0
  ·have cb : decide (t1 < 0) = true := decide_eq_true c
   clear c h
   go_enter Try.func8, Try.ntmps8
   go_wp2_with (first
     | ((with_reducible refine gate_dst (N := 9) rfl ?_); refine gg (some 9) rfl rfl rfl fr21 ?_; refine onc (laws_szChangeS.kc k l0 (.slice A_0 l0.length c_0) 1048576 t1 _ (K0.b HB.out) A1.out) rfl ?_; rintro e w1 ⟨rfl, hb⟩; refine ⟨_, rfl, ?_⟩; replace HB := Bw.sw w hb; clear hb; simp only [Act.put, List.setIfInBounds_toArray, List.set_cons_zero, List.set_cons_succ]))
   go_ret
   exact ⟨by first | rfl | simp, HB.out⟩
  rw [if_neg c] at h
  replace c : decide (t1 < 0) = false := decide_eq_false c
  have q6 := c
  clear c
  have h9 := bnd h; clear h; obtain ⟨t2, A2, h⟩ := h9
  replace A2 := Aside0.mk A2
  have h9 := bnd h; clear h; obtain ⟨t3, A3, h⟩ := h9
  replace A3 := Aside0.mk A3
  have h9 := bnd h; clear h; obtain ⟨t4, A4, h⟩ := h9
  replace A4 := Aside0.mk A4
  have h9 := yes h; clear h; obtain ⟨c, h⟩ := h9
  subst c
  have h9 := bnd h; clear h; obtain ⟨t5, A5, h⟩ := h9
  replace A5 := Aside0.mk A5
  have h9 := yes h; clear h; obtain ⟨c, h⟩ := h9
  subst c
  clear h
  go_enter Try.func8, Try.ntmps8
  go_wp2_with (first
    | ((with_reducible refine gate_dst (N := 9) rfl ?_); refine gg (some 9) rfl rfl rfl fr21 ?_; refine onc (laws_szChangeS.kc k l0 (.slice A_0 l0.length c_0) 1048576 t1 _ (K0.b HB.out) A1.out) rfl ?_; rintro e w1 ⟨rfl, hb⟩; refine ⟨_, rfl, ?_⟩; replace HB := Bw.sw w hb; clear hb; simp only [Act.put, List.setIfInBounds_toArray, List.set_cons_zero, List.set_cons_succ])
    | ((with_reducible refine gate_dst (N := 13) rfl ?_); refine gg (some 13) rfl rfl rfl fr23 ?_; refine onc (laws_toChangeS.kc k l0 (.slice A_0 l0.length c_0) t2 _ (K0.b HB.out) A2.out) rfl ?_; rintro e w2 ⟨v_13, rfl, ho, hb⟩; refine ⟨_, rfl, ?_⟩; replace HB := Bw.sw w hb; have O13 := ho; clear ho hb; simp only [Act.put, List.setIfInBounds_toArray, List.set_cons_zero, List.set_cons_succ])
    | ((with_reducible refine gate_dst (N := 14) rfl ?_); refine gg (some 14) rfl rfl rfl fr35 ?_; refine onc (spec_ChangesOk.kc k t2 v_13 t4 _ O13.rd A3.out) rfl ?_; rintro e w3 ⟨rfl, hb⟩; refine ⟨_, rfl, ?_⟩; replace HB := Bw.sw w hb; clear hb; simp only [Act.put, List.setIfInBounds_toArray, List.set_cons_zero, List.set_cons_succ])
    | ((with_reducible refine gate_dst (N := 16) rfl ?_); refine gg (some 16) rfl rfl rfl fr23 ?_; refine onc (laws_toChangeS.kc k l0 (.slice A_0 l0.length c_0) t2 _ (K0.b HB.out) A2.out) rfl ?_; rintro e w4 ⟨v_16, rfl, ho, hb⟩; refine ⟨_, rfl, ?_⟩; replace HB := Bw.sw w hb; have O16 := ho; clear ho hb; simp only [Act.put, List.setIfInBounds_toArray, List.set_cons_zero, List.set_cons_succ])
    | ((with_reducible refine gate_dst (N := 18) rfl ?_); refine gg (some 18) rfl rfl rfl fr36 ?_; refine onc (impl_ChangesOk.kc k t2 v_16 t4 _ O16.rd A4.out) rfl ?_; rintro e w5 ⟨rfl, hb⟩; refine ⟨_, rfl, ?_⟩; replace O16 := O16.b hb; replace HB := Bw.sw w hb; clear hb; simp only [Act.put, List.setIfInBounds_toArray, List.set_cons_zero, List.set_cons_succ])
    | ((with_reducible refine gate_dst (N := 24) rfl ?_); refine gg (some 24) rfl rfl rfl fr23 ?_; refine onc (laws_toChangeS.kc k l0 (.slice A_0 l0.length c_0) t2 _ (K0.b HB.out) A2.out) rfl ?_; rintro e w6 ⟨v_24, rfl, ho, hb⟩; refine ⟨_, rfl, ?_⟩; replace O16 := O16.b hb; replace HB := Bw.sw w hb; have O24 := ho; clear ho hb; simp only [Act.put, List.setIfInBounds_toArray, List.set_cons_zero, List.set_cons_succ])
    | ((with_reducible refine gate_dst (N := 25) rfl ?_); refine gg (some 25) rfl rfl rfl fr25 ?_; refine onc (laws_eqChangeS.kc k t2 v_16 t2 v_24 true _ O16.rd O24.rd A5.out) rfl ?_; rintro e w7 ⟨rfl, hb⟩; refine ⟨_, rfl, ?_⟩; replace HB := Bw.sw w hb; clear hb; simp only [Act.put, List.setIfInBounds_toArray, List.set_cons_zero, List.set_cons_succ]))
  go_ret
  exact ⟨by first | rfl | simp, HB.out⟩
end Go.Proofs.Ytockllljeeakaaa.PFnExactChangesOk
