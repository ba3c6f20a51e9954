/- The law, walked: by contracts over whole values. No condition. -/
import Derived.Test.YtockllljeeakaaaPFnExactConfigOkx0
import Derived.Test.YtockllljeeakaaaPFnExactConfigOkx1
import Derived.Test.YtockllljeeakaaaPFnExactConfigOkx7
import Derived.Test.YtockllljeeakaaaPFnExactConfigOkx16
import Derived.Test.YtockllljeeakaaaPFnExactConfigOkx17
import Derived.Test.YtockllljeeakaaaPFnExactConfigOkx18
import Derived.Test.YtockllljeeakaaaMlaw
import Derived.Laws.CopyRow
namespace Go.Proofs.Ytockllljeeakaaa.PFnExactConfigOk
open Go.RowKit Go.Proofs.YtockllljeeakaaaW.PrintWords Go.Proofs.YtockllljeeakaaaW.PrintLast Go.Proofs.YtockllljeeakaaaW.PrintMore Go.Proofs.Ytockllljeeakaaa.M
attribute [local go_sem] max2_int min2_int max_two min_two max_three min_three max_four min_four Go.Proofs.Ytockllljeeakaaa.M.str_gtr Go.Proofs.Ytockllljeeakaaa.M.str_leq Go.Proofs.Ytockllljeeakaaa.M.str_geq   -- for this text's walks alone
set_option linter.unusedVariables false
set_option linter.unusedSimpArgs false
theorem laws_szItemS.kc (k : Nat) (l0 : List (S91)) (v0 : Value) (a1 : Int) (r : Int) (w : World) (h0 : Rd (Kd.slice 91 k91) w l0 [v0]) (h : laws_szItemS.f k l0 a1 = some r) :
  Calls Try.prog 30 #[v0, .int .i64 a1] w fun e w' => e = .returned (.int .i64 r) ∧ Below w.heap.size w w' := by
  obtain ⟨A0, c0, e0, lc0, g0⟩ := h0.k
  injection e0 with e0
  subst e0
  refine (laws_szItemS.calls k _ _ l0 a1 r w g0 lc0 h).mono ?_
  rintro e w' ⟨rfl, hb⟩
  exact ⟨rfl, hb⟩
theorem laws_toItemS.kc (k : Nat) (l0 : List (S91)) (v0 : Value) (r : List (S94)) (w : World) (h0 : Rd (Kd.slice 91 k91) w l0 [v0]) (h : laws_toItemS.f k l0 = some r) :
  Calls Try.prog 32 #[v0] w fun e w' => ∃ v : Value, e = .returned v ∧ Own (Kd.slice 94 k94) w' w.heap.size w'.heap.size r [v] ∧ Below w.heap.size w w' := by
  obtain ⟨A0, c0, e0, lc0, g0⟩ := h0.k
  injection e0 with e0
  subst e0
  refine (laws_toItemS.calls k _ _ l0 r w g0 lc0 h).mono ?_
  rintro e w' ⟨v, rfl, g, hb⟩
  exact ⟨_, rfl, Own.of ⟨_, rfl, g⟩ (Below.size (hb)), hb⟩
theorem spec_ConfigOk.kc (k : Nat) (l0 : List (S94)) (v0 : Value) (r : Bool) (w : World) (h0 : Rd (Kd.slice 94 k94) w l0 [v0]) (h : spec_ConfigOk.f k l0 = some r) :
  Calls Try.prog 31 #[v0] w fun e w' => e = .returned (.bool r) ∧ Below w.heap.size w w' := by
  obtain ⟨A0, c0, e0, lc0, g0⟩ := h0.k
  injection e0 with e0
  subst e0
  refine (spec_ConfigOk.calls k _ _ l0 r w g0 lc0 h).mono ?_
  rintro e w' ⟨rfl, hb⟩
  exact ⟨rfl, hb⟩
theorem impl_ConfigOk.kc (k : Nat) (l0 : List (S94)) (v0 : Value) (r : Bool) (w : World) (h0 : Rd (Kd.slice 94 k94) w l0 [v0]) (h : impl_ConfigOk.f k l0 = some r) :
  Calls Try.prog 33 #[v0] w fun e w' => e = .returned (.bool r) ∧ Below w.heap.size w w' := by
  obtain ⟨A0, c0, e0, lc0, g0⟩ := h0.k
  injection e0 with e0
  subst e0
  refine (impl_ConfigOk.calls k _ _ l0 r w g0 lc0 h).mono ?_
  rintro e w' ⟨rfl, hb⟩
  exact ⟨rfl, hb⟩
theorem laws_eqItemS.kc (k : Nat) (l0 : List (S94)) (v0 : Value) (l1 : List (S94)) (v1 : Value) (r : Bool) (w : World) (h0 : Rd (Kd.slice 94 k94) w l0 [v0]) (h1 : Rd (Kd.slice 94 k94) w l1 [v1]) (h : laws_eqItemS.f k l0 l1 = some r) :
  Calls Try.prog 34 #[v0, v1] w fun e w' => e = .returned (.bool r) ∧ Below w.heap.size w w' := by
  obtain ⟨A0, c0, e0, lc0, g0⟩ := h0.k
  injection e0 with e0
  subst e0
  obtain ⟨A1, c1, e1, lc1, g1⟩ := h1.k
  injection e1 with e1
  subst e1
  refine (laws_eqItemS.calls k _ _ l0 _ _ l1 r w g0 lc0 g1 lc1 h).mono ?_
  rintro e w' ⟨rfl, hb⟩
  exact ⟨rfl, hb⟩
theorem fr30 : Fr Try.prog 30 := ⟨_, Try.func30, by kernel_rfl, rfl⟩
theorem fr32 : Fr Try.prog 32 := ⟨_, Try.func32, by kernel_rfl, rfl⟩
theorem fr31 : Fr Try.prog 31 := ⟨_, Try.func31, by kernel_rfl, rfl⟩
theorem fr33 : Fr Try.prog 33 := ⟨_, Try.func33, by kernel_rfl, rfl⟩
theorem fr34 : Fr Try.prog 34 := ⟨_, Try.func34, by kernel_rfl, rfl⟩
def laws_FnExactConfigOk.f (k : Nat) (l0 : List S91) : Option Bool := (laws_szItemS.f k l0 1048576).bind fun t1 => if t1 < 0 then some true else (laws_toItemS.f k l0).bind fun t2 => (spec_ConfigOk.f k t2).bind fun t3 => (impl_ConfigOk.f k t2).bind fun t4 => if t4 = t3 then (laws_eqItemS.f k t2 t2).bind fun t5 => if t5 = true then some true else some false else some false
set_option maxRecDepth 100000 in
set_option maxHeartbeats 8000000 in
theorem laws_FnExactConfigOk.calls (k : Nat) (l0 : List S91) (v0 : Value) (w : World) (K0 : Rd (Kd.slice 91 k91) w l0 [v0]) (h : laws_FnExactConfigOk.f k l0 = some true) :
  Calls Try.prog 7 #[v0] w fun e w' => e = .returned (.bool true) ∧ Below w.heap.size w w' := by
  unfold laws_FnExactConfigOk.f at h
  obtain ⟨A_0, c_0, e, hc0, hr0⟩ := id K0.k
  injection e with e
  subst e
  clear hc0 hr0
  have HB := Bw.refl w
  have h9 := bnd h; clear h; obtain ⟨t1, A1, h⟩ := h9
  replace A1 := Aside0.mk A1
  by_cases c : t1 < 0
  ·have cb : decide (t1 < 0) = true := decide_eq_true c
   clear c h
   go_enter Try.func7, Try.ntmps7
   go_wp2_with (first
     | ((with_reducible refine gate_dst (N := 9) rfl ?_); refine gg (some 9) rfl rfl rfl fr30 ?_; refine onc (laws_szItemS.kc k l0 (.slice A_0 l0.length c_0) 1048576 t1 _ (K0.b HB.out) A1.out) rfl ?_; rintro e w1 ⟨rfl, hb⟩; refine ⟨_, rfl, ?_⟩; replace HB := Bw.sw w hb; clear hb; simp only [Act.put, List.setIfInBounds_toArray, List.set_cons_zero, List.set_cons_succ]))
   go_ret
   exact ⟨by first | rfl | simp, HB.out⟩
  rw [if_neg c] at h
  replace c : decide (t1 < 0) = false := decide_eq_false c
  have q6 := c
  clear c
  have h9 := bnd h; clear h; obtain ⟨t2, A2, h⟩ := h9
  replace A2 := Aside0.mk A2
  have h9 := bnd h; clear h; obtain ⟨t3, A3, h⟩ := h9
  replace A3 := Aside0.mk A3
  have h9 := bnd h; clear h; obtain ⟨t4, A4, h⟩ := h9
  replace A4 := Aside0.mk A4
  have h9 := yes h; clear h; obtain ⟨c, h⟩ := h9
  subst c
  have h9 := bnd h; clear h; obtain ⟨t5, A5, h⟩ := h9
  replace A5 := Aside0.mk A5
  have h9 := yes h; clear h; obtain ⟨c, h⟩ := h9
  subst c
  clear h
  go_enter Try.func7, Try.ntmps7
  go_wp2_with (first
    | ((with_reducible refine gate_dst (N := 9) rfl ?_); refine gg (some 9) rfl rfl rfl fr30 ?_; refine onc (laws_szItemS.kc k l0 (.slice A_0 l0.length c_0) 1048576 t1 _ (K0.b HB.out) A1.out) rfl ?_; rintro e w1 ⟨rfl, hb⟩; refine ⟨_, rfl, ?_⟩; replace HB := Bw.sw w hb; clear hb; simp only [Act.put, List.setIfInBounds_toArray, List.set_cons_zero, List.set_cons_succ])
    | ((with_reducible refine gate_dst (N := 13) rfl ?_); refine gg (some 13) rfl rfl rfl fr32 ?_; refine onc (laws_toItemS.kc k l0 (.slice A_0 l0.length c_0) t2 _ (K0.b HB.out) A2.out) rfl ?_; rintro e w2 ⟨v_13, rfl, ho, hb⟩; refine ⟨_, rfl, ?_⟩; replace HB := Bw.sw w hb; have O13 := ho; clear ho hb; simp only [Act.put, List.setIfInBounds_toArray, List.set_cons_zero, List.set_cons_succ])
    | ((with_reducible refine gate_dst (N := 14) rfl ?_); refine gg (some 14) rfl rfl rfl fr31 ?_; refine onc (spec_ConfigOk.kc k t2 v_13 t4 _ O13.rd A3.out) rfl ?_; rintro e w3 ⟨rfl, hb⟩; refine ⟨_, rfl, ?_⟩; replace HB := Bw.sw w hb; clear hb; simp only [Act.put, List.setIfInBounds_toArray, List.set_cons_zero, List.set_cons_succ])
    | ((with_reducible refine gate_dst (N := 16) rfl ?_); refine gg (some 16) rfl rfl rfl fr32 ?_; refine onc (laws_toItemS.kc k l0 (.slice A_0 l0.length c_0) t2 _ (K0.b HB.out) A2.out) rfl ?_; rintro e w4 ⟨v_16, rfl, ho, hb⟩; refine ⟨_, rfl, ?_⟩; replace HB := Bw.sw w hb; have O16 := ho; clear ho hb; simp only [Act.put, List.setIfInBounds_toArray, List.set_cons_zero, List.set_cons_succ])
    | ((with_reducible refine gate_dst (N := 18) rfl ?_); refine gg (some 18) rfl rfl rfl fr33 ?_; refine onc (impl_ConfigOk.kc k t2 v_16 t4 _ O16.rd A4.out) rfl ?_; rintro e w5 ⟨rfl, hb⟩; refine ⟨_, rfl, ?_⟩; replace O16 := O16.b hb; replace HB := Bw.sw w hb; clear hb; simp only [Act.put, List.setIfInBounds_toArray, List.set_cons_zero, List.set_cons_succ])
    | ((with_reducible refine gate_dst (N := 24) rfl ?_); refine gg (some 24) rfl rfl rfl fr32 ?_; refine onc (laws_toItemS.kc k l0 (.slice A_0 l0.length c_0) t2 _ (K0.b HB.out) A2.out) rfl ?_; rintro e w6 ⟨v_24, rfl, ho, hb⟩; refine ⟨_, rfl, ?_⟩; replace O16 := O16.b hb; replace HB := Bw.sw w hb; have O24 := ho; clear ho hb; simp only [Act.put, List.setIfInBounds_toArray, List.set_cons_zero, List.set_cons_succ])
    | ((with_reducible refine gate_dst (N := 25) rfl ?_); refine gg (some 25) rfl rfl rfl fr34 ?_; refine onc (laws_eqItemS.kc k t2 v_16 t2 v_24 true _ O16.rd O24.rd A5.out) rfl ?_; rintro e w7 ⟨rfl, hb⟩; refine ⟨_, rfl, ?_⟩; replace HB := Bw.sw w hb; clear hb; simp only [Act.put, List.setIfInBounds_toArray, List.set_cons_zero, List.set_cons_succ]))
  go_ret
  exact ⟨by first | rfl | simp, HB.out⟩
end Go.Proofs.Ytockllljeeakaaa.PFnExactConfigOk
