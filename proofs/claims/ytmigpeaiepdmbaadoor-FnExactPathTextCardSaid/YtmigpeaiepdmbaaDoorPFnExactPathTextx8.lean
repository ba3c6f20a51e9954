/- The law, walked: by contracts over whole values. No condition. -/
import Derived.Test.YtmigpeaiepdmbaaDoorPFnExactPathTextx0
import Derived.Test.YtmigpeaiepdmbaaDoorPFnExactPathTextx1
import Derived.Test.YtmigpeaiepdmbaaDoorPFnExactPathTextx4
import Derived.Test.YtmigpeaiepdmbaaDoorPFnExactPathTextx7
import Derived.Test.YtmigpeaiepdmbaaDoorMlaw
import Derived.Test.YtmigpeaiepdmbaaDoorMstepm
import Derived.Test.YtmigpeaiepdmbaaDoorMownB
namespace Go.Proofs.YtmigpeaiepdmbaaDoor.PFnExactPathText
open Go.RowKit Go.Proofs.YtmigpeaiepdmbaaDoorW.PrintWords Go.Proofs.YtmigpeaiepdmbaaDoorW.PrintLast Go.Proofs.YtmigpeaiepdmbaaDoorW.PrintMore Go.Proofs.YtmigpeaiepdmbaaDoor.M
attribute [local go_sem] max2_int min2_int max_two min_two max_three min_three max_four min_four Go.Proofs.YtmigpeaiepdmbaaDoor.M.str_gtr Go.Proofs.YtmigpeaiepdmbaaDoor.M.str_leq Go.Proofs.YtmigpeaiepdmbaaDoor.M.str_geq   -- for this text's walks alone
set_option linter.unusedVariables false
set_option linter.unusedSimpArgs false
theorem laws_szStepS.kc (k : Nat) (l0 : List (S41)) (v0 : Value) (a1 : Int) (r : Int) (w : World) (h0 : Rd (Kd.slice 41 k41) w l0 [v0]) (h : laws_szStepS.f k l0 a1 = some r) :
  Calls Tryd.prog 11 #[v0, .int .i64 a1] w fun e w' => e = .returned (.int .i64 r) ∧ Below w.heap.size w w' := by
  obtain ⟨A0, c0, e0, lc0, g0⟩ := h0.k
  injection e0 with e0
  subst e0
  refine (laws_szStepS.calls k _ _ l0 a1 r w g0 lc0 h).mono ?_
  rintro e w' ⟨rfl, hb⟩
  exact ⟨rfl, hb⟩
theorem laws_toStepS.kc (k : Nat) (l0 : List (S41)) (v0 : Value) (r : List (S43)) (w : World) (h0 : Rd (Kd.slice 41 k41) w l0 [v0]) (h : laws_toStepS.f k l0 = some r) :
  Calls Tryd.prog 13 #[v0] w fun e w' => ∃ v : Value, e = .returned v ∧ OwnS k43 43 w' w.heap.size w'.heap.size r v ∧ Below w.heap.size w w' := by
  obtain ⟨A0, c0, e0, lc0, g0⟩ := h0.k
  injection e0 with e0
  subst e0
  refine (laws_toStepS.calls k _ _ l0 r w g0 lc0 h).mono ?_
  rintro e w' ⟨v, rfl, g, hb⟩
  exact ⟨_, rfl, OwnS.of g (Below.size (hb)), hb⟩
theorem spec_PathText.kc (k : Nat) (l0 : List (S43)) (v0 : Value) (r : List Int) (w : World) (h0 : Rd (Kd.slice 43 k43) w l0 [v0]) (h : spec_PathText.f k l0 = some r) :
  Calls Tryd.prog 12 #[v0] w fun e w' => ∃ v : Value, e = .returned v ∧ Own (Kd.slice 5 (Kd.int .u8)) w' w.heap.size w'.heap.size r [v] ∧ Below w.heap.size w w' := by
  obtain ⟨A0, c0, e0, lc0, g0⟩ := h0.k
  injection e0 with e0
  subst e0
  refine (spec_PathText.calls k _ _ l0 r w g0 lc0 h).mono ?_
  rintro e w' ⟨v, rfl, g, hb⟩
  exact ⟨_, rfl, Own.of ⟨_, rfl, g⟩ (Below.size (hb)), hb⟩
theorem impl_PathText.kc (k : Nat) (l0 : List (S43)) (v0 : Value) (r : List Int) (w : World) (h0 : Rd (Kd.slice 43 k43) w l0 [v0]) (h : impl_PathText.f k l0 = some r) :
  Calls Tryd.prog 14 #[v0] w fun e w' => ∃ v : Value, e = .returned v ∧ Own (Kd.slice 5 (Kd.int .u8)) w' w.heap.size w'.heap.size r [v] ∧ Below w.heap.size w w' := by
  obtain ⟨A0, c0, e0, lc0, g0⟩ := h0.k
  injection e0 with e0
  subst e0
  refine (impl_PathText.calls k _ _ l0 r w g0 lc0 h).mono ?_
  rintro e w' ⟨v, rfl, g, hb⟩
  exact ⟨_, rfl, Own.of ⟨_, rfl, g⟩ (Below.size (hb)), hb⟩
theorem laws_eqByteS.kc (k : Nat) (l0 : List Int) (v0 : Value) (l1 : List Int) (v1 : Value) (r : Bool) (w : World) (h0 : Rd (Kd.slice 5 (Kd.int .u8)) w l0 [v0]) (h1 : Rd (Kd.slice 5 (Kd.int .u8)) w l1 [v1]) (h : laws_eqByteS.f k l0 l1 = some r) :
  Calls Tryd.prog 8 #[v0, v1] w fun e w' => e = .returned (.bool r) ∧ Below w.heap.size w w' := by
  obtain ⟨A0, c0, e0, lc0, g0⟩ := h0.k
  injection e0 with e0
  subst e0
  obtain ⟨A1, c1, e1, lc1, g1⟩ := h1.k
  injection e1 with e1
  subst e1
  refine (laws_eqByteS.calls k _ _ l0 _ _ l1 r w g0 lc0 g1 lc1 h).mono ?_
  rintro e w' ⟨rfl, ⟨nd, rfl⟩⟩
  exact ⟨rfl, pw_below_drewN (Below.refl _ _) nd⟩
theorem laws_eqStepS.kc (k : Nat) (l0 : List (S43)) (v0 : Value) (l1 : List (S43)) (v1 : Value) (r : Bool) (w : World) (h0 : Rd (Kd.slice 43 k43) w l0 [v0]) (h1 : Rd (Kd.slice 43 k43) w l1 [v1]) (h : laws_eqStepS.f k l0 l1 = some r) :
  Calls Tryd.prog 15 #[v0, v1] w fun e w' => e = .returned (.bool r) ∧ Below w.heap.size w w' := by
  obtain ⟨A0, c0, e0, lc0, g0⟩ := h0.k
  injection e0 with e0
  subst e0
  obtain ⟨A1, c1, e1, lc1, g1⟩ := h1.k
  injection e1 with e1
  subst e1
  refine (laws_eqStepS.calls k _ _ l0 _ _ l1 r w g0 lc0 g1 lc1 h).mono ?_
  rintro e w' ⟨rfl, hb⟩
  exact ⟨rfl, hb⟩
theorem laws_markStepS.kc (l0 : List S43) (v0 : Value) (k : Int) (w : World) {lo hi : Nat} (hk : 0 ≤ k) (hm : cSs (l0.map fun x => x.f1.length) ≤ 1099511627776) (hk2 : k ≤ 1099511627776) (h0 : Own (Kd.slice 43 k43) w lo hi l0 [v0]) :
    Calls Tryd.prog 16 #[v0, .int .i64 k] w fun e w' => ∃ kk : Int, e = .returned (.int .i64 kk) ∧ 0 ≤ kk ∧ M.Outside lo hi w w' := by
  obtain ⟨v, e, h1⟩ := h0.m
  injection e with e
  subst e
  have h2 : StT w lo hi 5 43 v0 (l0.map fun x => x.f1.length) := by
    have := Row.of_R h1 (fun _ h => h) (StE w lo hi 5 (l0.map fun x => x.f1.length)) fun i x cs hx hm => by
      obtain ⟨v1, rfl, g1⟩ := k43_openM hm
      refine ⟨_, _, _, rfl, ?_⟩
      rw [List.getD_eq_getElem?_getD, List.getElem?_map, hx]
      exact ByT.of_R g1 (fun _ h => h)
    unfold StT
    rw [List.length_map]
    exact this
  refine (markStepS_out lo hi _ v0 k w hk (by omega) h2).mono ?_
  rintro e w' ⟨rfl, _, g⟩
  exact ⟨_, rfl, by omega, g⟩
theorem laws_markByteS.kc (l0 : List Int) (v0 : Value) (k mm : Int) (w : World) {lo hi : Nat} (hk : 0 ≤ k) (hm : l0.length ≤ 1099511627776) (hk2 : k ≤ 1099511627776) (he : some (k + (l0.length : Nat)) = some mm) (h0 : Own (Kd.slice 5 (Kd.int .u8)) w lo hi l0 [v0]) :
    Calls Tryd.prog 9 #[v0, .int .i64 k] w fun e w' => e = .returned (.int .i64 mm) ∧ Own (Kd.slice 5 (Kd.int .u8)) w' lo hi (mk k l0.length) [v0] ∧ M.Outside lo hi w w' := by
  have he := Option.some.inj he
  subst he
  obtain ⟨v, e, h1⟩ := h0.m
  injection e with e
  subst e
  refine (markByteS_own l0 v0 k w lo _ hk (by omega) h1).mono ?_
  rintro e w' ⟨rfl, g1, g2⟩
  have g := g2.outside (fun _ h => h)
  exact ⟨rfl, ⟨⟨_, rfl, g1⟩, Nat.le_trans h0.le g.size⟩, g⟩
theorem laws_heldByteS.kc (k : Nat) (l0 : List Int) (v0 : Value) (a1 : Int) (r : Int) (w : World) (h0 : Rd (Kd.slice 5 (Kd.int .u8)) w l0 [v0]) (h : laws_heldByteS.f k l0 a1 = some r) :
  Calls Tryd.prog 10 #[v0, .int .i64 a1] w fun e w' => e = .returned (.int .i64 r) ∧ Below w.heap.size w w' := by
  obtain ⟨A0, c0, e0, lc0, g0⟩ := h0.k
  injection e0 with e0
  subst e0
  refine (laws_heldByteS.calls k _ _ l0 a1 r w g0 lc0 h).mono ?_
  rintro e w' ⟨rfl, ⟨nd, rfl⟩⟩
  exact ⟨rfl, pw_below_drewN (Below.refl _ _) nd⟩
theorem fr11 : Fr Tryd.prog 11 := ⟨_, Tryd.func11, by kernel_rfl, rfl⟩
theorem fr13 : Fr Tryd.prog 13 := ⟨_, Tryd.func13, by kernel_rfl, rfl⟩
theorem fr12 : Fr Tryd.prog 12 := ⟨_, Tryd.func12, by kernel_rfl, rfl⟩
theorem fr14 : Fr Tryd.prog 14 := ⟨_, Tryd.func14, by kernel_rfl, rfl⟩
theorem fr15 : Fr Tryd.prog 15 := ⟨_, Tryd.func15, by kernel_rfl, rfl⟩
theorem fr16 : Fr Tryd.prog 16 := ⟨_, Tryd.func16, by kernel_rfl, rfl⟩
theorem fr9 : Fr Tryd.prog 9 := ⟨_, Tryd.func9, by kernel_rfl, rfl⟩
theorem fr10 : Fr Tryd.prog 10 := ⟨_, Tryd.func10, by kernel_rfl, rfl⟩
def laws_FnExactPathText.f (k : Nat) (l0 : List S41) : Option Bool := (laws_szStepS.f k l0 1048576).bind fun t1 => if t1 < 0 then some true else (laws_toStepS.f k l0).bind fun t2 => (spec_PathText.f k t2).bind fun t3 => (impl_PathText.f k t2).bind fun t4 => (laws_eqByteS.f k t4 t3).bind fun t5 => if t5 = true then (laws_eqStepS.f k t2 t2).bind fun t6 => if t6 = true then if cSs (t2.map fun x => x.f1.length) ≤ 1099511627776 then if t4.length ≤ 1099511627776 then (some (1 + (t4.length : Nat)) : Option Int).bind fun t9 => (laws_heldByteS.f k ((mk 1 t4.length)) 1).bind fun t10 => if t10 < 0 then some false else if t10 = t9 then some true else some false else some false else some false else some false else some false
set_option maxRecDepth 100000 in
set_option maxHeartbeats 8000000 in
theorem laws_FnExactPathText.calls (k : Nat) (l0 : List S41) (v0 : Value) (w : World) (K0 : Rd (Kd.slice 41 k41) w l0 [v0]) (h : laws_FnExactPathText.f k l0 = some true) :
  Calls Tryd.prog 4 #[v0] w fun e w' => e = .returned (.bool true) ∧ Below w.heap.size w w' := by
  unfold laws_FnExactPathText.f at h
  obtain ⟨A_0, c_0, e, hc0, hr0⟩ := id K0.k
  injection e with e
  subst e
  clear hc0 hr0
  have HB := Bw.refl w
  have h9 := bnd h; clear h; obtain ⟨t1, A1, h⟩ := h9
  replace A1 := Aside0.mk A1
  by_cases c : t1 < 0
  ·have cb : decide (t1 < 0) = true := decide_eq_true c
   clear c h
   go_enter Tryd.func4, Tryd.ntmps4
   go_wp2_with (first
     | ((with_reducible refine gate_dst (N := 13) rfl ?_); refine gg (some 13) rfl rfl rfl fr11 ?_; refine onc (laws_szStepS.kc k l0 (.slice A_0 l0.length c_0) 1048576 t1 _ (K0.b HB.out) A1.out) rfl ?_; rintro e w1 ⟨rfl, hb⟩; refine ⟨_, rfl, ?_⟩; have z1 := hb.size; replace HB := Bw.sw w hb; clear hb; simp only [Act.put, List.setIfInBounds_toArray, List.set_cons_zero, List.set_cons_succ]))
   go_ret
   exact ⟨by first | rfl | simp, HB.out⟩
  rw [if_neg c] at h
  replace c : decide (t1 < 0) = false := decide_eq_false c
  have q11 := c
  clear c
  have h9 := bnd h; clear h; obtain ⟨t2, A2, h⟩ := h9
  replace A2 := Aside0.mk A2
  have h9 := bnd h; clear h; obtain ⟨t3, A3, h⟩ := h9
  replace A3 := Aside0.mk A3
  have h9 := bnd h; clear h; obtain ⟨t4, A4, h⟩ := h9
  replace A4 := Aside0.mk A4
  have h9 := bnd h; clear h; obtain ⟨t5, A5, h⟩ := h9
  replace A5 := Aside0.mk A5
  have h9 := yes h; clear h; obtain ⟨c, h⟩ := h9
  subst c
  have h9 := bnd h; clear h; obtain ⟨t6, A6, h⟩ := h9
  replace A6 := Aside0.mk A6
  have h9 := yes h; clear h; obtain ⟨c, h⟩ := h9
  subst c
  have h9 := yes h; clear h; obtain ⟨G7, h⟩ := h9; replace G7 := Aside0.mk G7
  have h9 := yes h; clear h; obtain ⟨G8, h⟩ := h9; replace G8 := Aside0.mk G8
  have h9 := bnd h; clear h; obtain ⟨t9, A9, h⟩ := h9
  replace A9 := Aside0.mk A9
  have h9 := bnd h; clear h; obtain ⟨t10, A10, h⟩ := h9
  replace A10 := Aside0.mk A10
  have h9 := nope h; clear h; obtain ⟨c, h⟩ := h9
  have q12 : decide (t10 < 0) = false := decide_eq_false c
  clear c
  have h9 := yes h; clear h; obtain ⟨c, h⟩ := h9
  subst c
  clear h
  go_enter Tryd.func4, Tryd.ntmps4
  go_wp2_with (first
    | ((with_reducible refine gate_dst (N := 13) rfl ?_); refine gg (some 13) rfl rfl rfl fr11 ?_; refine onc (laws_szStepS.kc k l0 (.slice A_0 l0.length c_0) 1048576 t1 _ (K0.b HB.out) A1.out) rfl ?_; rintro e w1 ⟨rfl, hb⟩; refine ⟨_, rfl, ?_⟩; have z1 := hb.size; replace HB := Bw.sw w hb; clear hb; simp only [Act.put, List.setIfInBounds_toArray, List.set_cons_zero, List.set_cons_succ])
    | ((with_reducible refine gate_dst (N := 17) rfl ?_); refine gg (some 17) rfl rfl rfl fr13 ?_; refine onc (laws_toStepS.kc k l0 (.slice A_0 l0.length c_0) t2 _ (K0.b HB.out) A2.out) rfl ?_; rintro e w2 ⟨v_17, rfl, ho, hb⟩; refine ⟨_, rfl, ?_⟩; have z2 := hb.size; replace HB := Bw.sw w hb; have O17 := ho; clear ho hb; simp only [Act.put, List.setIfInBounds_toArray, List.set_cons_zero, List.set_cons_succ])
    | ((with_reducible refine gate_dst (N := 18) rfl ?_); refine gg (some 18) rfl rfl rfl fr12 ?_; refine onc (spec_PathText.kc k t2 v_17 t3 _ O17.rd A3.out) rfl ?_; rintro e w3 ⟨v_18, rfl, ho, hb⟩; refine ⟨_, rfl, ?_⟩; have z3 := hb.size; replace HB := Bw.sw w hb; have O18 := ho; clear ho hb; simp only [Act.put, List.setIfInBounds_toArray, List.set_cons_zero, List.set_cons_succ])
    | ((with_reducible refine gate_dst (N := 20) rfl ?_); refine gg (some 20) rfl rfl rfl fr13 ?_; refine onc (laws_toStepS.kc k l0 (.slice A_0 l0.length c_0) t2 _ (K0.b HB.out) A2.out) rfl ?_; rintro e w4 ⟨v_20, rfl, ho, hb⟩; refine ⟨_, rfl, ?_⟩; replace O18 := O18.b hb; have z4 := hb.size; replace HB := Bw.sw w hb; have O20 := ho; clear ho hb; simp only [Act.put, List.setIfInBounds_toArray, List.set_cons_zero, List.set_cons_succ])
    | ((with_reducible refine gate_dst (N := 22) rfl ?_); refine gg (some 22) rfl rfl rfl fr14 ?_; refine onc (impl_PathText.kc k t2 v_20 t4 _ O20.rd A4.out) rfl ?_; rintro e w5 ⟨v_22, rfl, ho, hb⟩; refine ⟨_, rfl, ?_⟩; replace O18 := O18.b hb; replace O20 := O20.b hb; have z5 := hb.size; replace HB := Bw.sw w hb; have O22 := ho; clear ho hb; simp only [Act.put, List.setIfInBounds_toArray, List.set_cons_zero, List.set_cons_succ])
    | ((with_reducible refine gate_dst (N := 25) rfl ?_); refine gg (some 25) rfl rfl rfl fr8 ?_; refine onc (laws_eqByteS.kc k t4 v_22 t3 v_18 true _ O22.rd O18.rd A5.out) rfl ?_; rintro e w6 ⟨rfl, hb⟩; refine ⟨_, rfl, ?_⟩; replace O18 := O18.b hb; replace O20 := O20.b hb; replace O22 := O22.b hb; have z6 := hb.size; replace HB := Bw.sw w hb; clear hb; simp only [Act.put, List.setIfInBounds_toArray, List.set_cons_zero, List.set_cons_succ])
    | ((with_reducible refine gate_dst (N := 29) rfl ?_); refine gg (some 29) rfl rfl rfl fr13 ?_; refine onc (laws_toStepS.kc k l0 (.slice A_0 l0.length c_0) t2 _ (K0.b HB.out) A2.out) rfl ?_; rintro e w7 ⟨v_29, rfl, ho, hb⟩; refine ⟨_, rfl, ?_⟩; replace O18 := O18.b hb; replace O20 := O20.b hb; replace O22 := O22.b hb; have z7 := hb.size; replace HB := Bw.sw w hb; have O29 := ho; clear ho hb; simp only [Act.put, List.setIfInBounds_toArray, List.set_cons_zero, List.set_cons_succ])
    | ((with_reducible refine gate_dst (N := 30) rfl ?_); refine gg (some 30) rfl rfl rfl fr15 ?_; refine onc (laws_eqStepS.kc k t2 v_20 t2 v_29 true _ O20.rd O29.rd A6.out) rfl ?_; rintro e w8 ⟨rfl, hb⟩; refine ⟨_, rfl, ?_⟩; replace O18 := O18.b hb; replace O20 := O20.b hb; replace O22 := O22.b hb; have z8 := hb.size; replace HB := Bw.sw w hb; clear hb; simp only [Act.put, List.setIfInBounds_toArray, List.set_cons_zero, List.set_cons_succ])
    | ((with_reducible refine gate_dst (N := 34) rfl ?_); refine gg (some 34) rfl rfl rfl fr16 ?_; refine onc (laws_markStepS.kc t2 v_20 1 _ (by omega) G7.out (by omega) O20.own) rfl ?_; rintro e w9 ⟨kk34, rfl, hkk, ho⟩; refine ⟨_, rfl, ?_⟩; replace O18 := O18.mv ho (by omega); replace O22 := O22.mv ho (by omega); have z9 := ho.size; replace HB := Bw.mk (w := w) (ho.below HB.out (by omega)); have qk34 : decide (kk34 < 0) = false := decide_eq_false (by omega); clear ho; simp only [Act.put, List.setIfInBounds_toArray, List.set_cons_zero, List.set_cons_succ])
    | ((with_reducible refine gate_dst (N := 40) rfl ?_); refine ggw (some 40) rfl (by rfl) rfl fr8 ?_; refine onc (laws_eqByteS.kc k t4 v_22 t3 v_18 true _ O22.rd O18.rd A5.out) rfl ?_; rintro e w10 ⟨rfl, hb⟩; refine ⟨_, rfl, ?_⟩; replace O18 := O18.b hb; replace O22 := O22.b hb; have z10 := hb.size; replace HB := Bw.sw w hb; clear hb; simp only [Act.put, List.setIfInBounds_toArray, List.set_cons_zero, List.set_cons_succ])
    | ((with_reducible refine gate_dst (N := 45) rfl ?_); refine gg (some 45) rfl rfl rfl fr9 ?_; refine onc (laws_markByteS.kc t4 v_22 1 t10 _ (by omega) G8.out (by omega) A9.out O22) rfl ?_; rintro e w11 ⟨rfl, hn, ho⟩; refine ⟨_, rfl, ?_⟩; replace O18 := O18.mv ho (by omega); have z11 := ho.size; replace HB := Bw.mk (w := w) (ho.below HB.out (by omega)); replace O22 := hn; clear hn; clear ho; simp only [Act.put, List.setIfInBounds_toArray, List.set_cons_zero, List.set_cons_succ])
    | ((with_reducible refine gate_dst (N := 48) rfl ?_); refine gg (some 48) rfl rfl rfl fr10 ?_; refine onc (laws_heldByteS.kc k (mk 1 t4.length) v_22 1 t10 _ O22.rd A10.out) rfl ?_; rintro e w12 ⟨rfl, hb⟩; refine ⟨_, rfl, ?_⟩; replace O18 := O18.b hb; replace O22 := O22.b hb; have z12 := hb.size; replace HB := Bw.sw w hb; clear hb; simp only [Act.put, List.setIfInBounds_toArray, List.set_cons_zero, List.set_cons_succ])
    | ((with_reducible refine gate_dst (N := 55) rfl ?_); refine gg (some 55) rfl rfl rfl fr13 ?_; refine onc (laws_toStepS.kc k l0 (.slice A_0 l0.length c_0) t2 _ (K0.b HB.out) A2.out) rfl ?_; rintro e w13 ⟨v_55, rfl, ho, hb⟩; refine ⟨_, rfl, ?_⟩; replace O18 := O18.b hb; replace O22 := O22.b hb; have z13 := hb.size; replace HB := Bw.sw w hb; have O55 := ho; clear ho hb; simp only [Act.put, List.setIfInBounds_toArray, List.set_cons_zero, List.set_cons_succ])
    | ((with_reducible refine gate_dst (N := 56) rfl ?_); refine gg (some 56) rfl rfl rfl fr14 ?_; refine onc (impl_PathText.kc k t2 v_55 t4 _ O55.rd A4.out) rfl ?_; rintro e w14 ⟨v_56, rfl, ho, hb⟩; refine ⟨_, rfl, ?_⟩; replace O18 := O18.b hb; replace O22 := O22.b hb; have z14 := hb.size; replace HB := Bw.sw w hb; have O56 := ho; clear ho hb; simp only [Act.put, List.setIfInBounds_toArray, List.set_cons_zero, List.set_cons_succ])
    | ((with_reducible refine gate_dst (N := 59) rfl ?_); refine gg (some 59) rfl rfl rfl fr8 ?_; refine onc (laws_eqByteS.kc k t4 v_56 t3 v_18 true _ O56.rd O18.rd A5.out) rfl ?_; rintro e w15 ⟨rfl, hb⟩; refine ⟨_, rfl, ?_⟩; replace O22 := O22.b hb; have z15 := hb.size; replace HB := Bw.sw w hb; clear hb; simp only [Act.put, List.setIfInBounds_toArray, List.set_cons_zero, List.set_cons_succ])
    | ((with_reducible refine gate_dst (N := 63) rfl ?_); refine gg (some 63) rfl rfl rfl fr10 ?_; refine onc (laws_heldByteS.kc k (mk 1 t4.length) v_22 1 t10 _ O22.rd A10.out) rfl ?_; rintro e w16 ⟨rfl, hb⟩; refine ⟨_, rfl, ?_⟩; have z16 := hb.size; replace HB := Bw.sw w hb; clear hb; simp only [Act.put, List.setIfInBounds_toArray, List.set_cons_zero, List.set_cons_succ]))
  go_ret
  exact ⟨by first | rfl | simp, HB.out⟩
end Go.Proofs.YtmigpeaiepdmbaaDoor.PFnExactPathText
