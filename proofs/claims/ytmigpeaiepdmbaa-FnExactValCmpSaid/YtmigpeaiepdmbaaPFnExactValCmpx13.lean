/- The law, walked: by contracts over whole values. No condition. -/
import Derived.Test.YtmigpeaiepdmbaaPFnExactValCmpx0
import Derived.Test.YtmigpeaiepdmbaaPFnExactValCmpx1
import Derived.Test.YtmigpeaiepdmbaaPFnExactValCmpx2
import Derived.Test.YtmigpeaiepdmbaaPFnExactValCmpx3
import Derived.Test.YtmigpeaiepdmbaaPFnExactValCmpx8
import Derived.Test.YtmigpeaiepdmbaaPFnExactValCmpx12
import Derived.Test.YtmigpeaiepdmbaaMlaw
namespace Go.Proofs.Ytmigpeaiepdmbaa.PFnExactValCmp
open Go.RowKit Go.Proofs.YtmigpeaiepdmbaaW.PrintWords Go.Proofs.YtmigpeaiepdmbaaW.PrintLast Go.Proofs.YtmigpeaiepdmbaaW.PrintMore Go.Proofs.Ytmigpeaiepdmbaa.M
attribute [local go_sem] max2_int min2_int max_two min_two max_three min_three max_four min_four Go.Proofs.Ytmigpeaiepdmbaa.M.str_gtr Go.Proofs.Ytmigpeaiepdmbaa.M.str_leq Go.Proofs.Ytmigpeaiepdmbaa.M.str_geq   -- for this text's walks alone
set_option linter.unusedVariables false
set_option linter.unusedSimpArgs false
def zs35 : Array Value := #[.int .i64 0, .int .i64 0, .slice none 0 0, .slice none 0 0, .slice none 0 0]
theorem cel35 {w : World} {x : S35} {b : Array Value} (h : Rd k35 w x b.toList) : Cel Try.prog 35 zs35 b := by
  have h1 := k35_open h.k
  obtain ⟨A2, c2, A3, c3, A4, c4, e, _⟩ := h1
  obtain rfl : b = #[.int .i64 x.f0, .int .i64 x.f1, .slice A2 x.f2.length c2, .slice A3 x.f3.length c3, .slice A4 x.f4.length c4] := by rw [← b.toArray_toList, e]
  exact ⟨⟨⟨_, Try.underlying35⟩, by kernel_rfl⟩, by kernel_rfl, rfl, by rw [← Array.all_toList]; exact List.all_eq_true.2 (k35.K_one h.k)⟩
theorem laws_szValue.kc (k : Nat) (x0 : S35) (b0 : Array Value) (a1 : Int) (r : Int) (w : World) (h0 : Rd k35 w x0 b0.toList) (h : laws_szValue.f k x0.f0 x0.f1 x0.f2 x0.f3 x0.f4 a1 = some r) :
  Calls Try.prog 20 #[.agg b0, .int .i64 a1] w fun e w' => e = .returned (.int .i64 r) ∧ Below w.heap.size w w' := by
  obtain ⟨A2_0, c2_0, A3_0, c3_0, A4_0, c4_0, e0, l2_0, g2_0, l3_0, g3_0, l4_0, g4_0⟩ := k35_open h0.k
  obtain rfl : b0 = #[.int .i64 x0.f0, .int .i64 x0.f1, .slice A2_0 x0.f2.length c2_0, .slice A3_0 x0.f3.length c3_0, .slice A4_0 x0.f4.length c4_0] := by rw [← b0.toArray_toList, e0]
  refine (laws_szValue.calls k x0.f0 x0.f1 _ _ x0.f2 _ _ x0.f3 _ _ x0.f4 a1 r w g2_0 l2_0 g3_0 l3_0 g4_0 l4_0 h).mono ?_
  rintro e w' ⟨rfl, hb⟩
  exact ⟨rfl, hb⟩
def zs40 : Array Value := #[.int .i64 0, .int .i64 0, .slice none 0 0, .slice none 0 0, .slice none 0 0]
theorem cel40 {w : World} {x : S40} {b : Array Value} (h : Rd k40 w x b.toList) : Cel Try.prog 40 zs40 b := by
  have h1 := k40_open h.k
  obtain ⟨A2, c2, A3, c3, A4, c4, e, _⟩ := h1
  obtain rfl : b = #[.int .i64 x.f0, .int .i64 x.f1, .slice A2 x.f2.length c2, .slice A3 x.f3.length c3, .slice A4 x.f4.length c4] := by rw [← b.toArray_toList, e]
  exact ⟨⟨⟨_, Try.underlying40⟩, by kernel_rfl⟩, by kernel_rfl, rfl, by rw [← Array.all_toList]; exact List.all_eq_true.2 (k40.K_one h.k)⟩
theorem laws_toValue.kc (k : Nat) (x0 : S35) (b0 : Array Value) (y : S40) (w : World) (h0 : Rd k35 w x0 b0.toList) (h : laws_toValue.f k x0.f0 x0.f1 x0.f2 x0.f3 x0.f4 = some (y.f0, y.f1, y.f2, y.f3, y.f4)) :
  Calls Try.prog 22 #[.agg b0] w fun e w' => ∃ b : Array Value, e = .returned (.agg b) ∧ Own k40 w' w.heap.size w'.heap.size y b.toList ∧ Below w.heap.size w w' := by
  obtain ⟨A2_0, c2_0, A3_0, c3_0, A4_0, c4_0, e0, l2_0, g2_0, l3_0, g3_0, l4_0, g4_0⟩ := k35_open h0.k
  obtain rfl : b0 = #[.int .i64 x0.f0, .int .i64 x0.f1, .slice A2_0 x0.f2.length c2_0, .slice A3_0 x0.f3.length c3_0, .slice A4_0 x0.f4.length c4_0] := by rw [← b0.toArray_toList, e0]
  refine (laws_toValue.calls k x0.f0 x0.f1 _ _ x0.f2 _ _ x0.f3 _ _ x0.f4 y.f0 y.f1 y.f2 y.f3 y.f4 w g2_0 l2_0 g3_0 l3_0 g4_0 l4_0 h).mono ?_
  rintro e w' ⟨v0_, v1_, v2_, rfl, g0, g1, g2, hb⟩
  exact ⟨_, rfl, Own.of (k40_mkM w' w.heap.size (fun _ => True) y (Kd.R_mono (g0) (fun _ _ => trivial)) (Kd.R_mono (Kd.S_R g1) (fun _ _ => trivial)) (Kd.R_mono (g2) (fun _ _ => trivial))) hb.size, hb⟩
theorem spec_ValCmp.kc (k : Nat) (x0 : S40) (b0 : Array Value) (x1 : S40) (b1 : Array Value) (r : Int) (w : World) (h0 : Rd k40 w x0 b0.toList) (h1 : Rd k40 w x1 b1.toList) (h : spec_ValCmp.f k x0.f0 x0.f1 x0.f2 x0.f3 x0.f4 x1.f0 x1.f1 x1.f2 x1.f3 x1.f4 = some r) :
  Calls Try.prog 37 #[.agg b0, .agg b1] w fun e w' => e = .returned (.int .i64 r) ∧ Below w.heap.size w w' := by
  obtain ⟨A2_0, c2_0, A3_0, c3_0, A4_0, c4_0, e0, l2_0, g2_0, l3_0, g3_0, l4_0, g4_0⟩ := k40_open h0.k
  obtain rfl : b0 = #[.int .i64 x0.f0, .int .i64 x0.f1, .slice A2_0 x0.f2.length c2_0, .slice A3_0 x0.f3.length c3_0, .slice A4_0 x0.f4.length c4_0] := by rw [← b0.toArray_toList, e0]
  obtain ⟨A2_1, c2_1, A3_1, c3_1, A4_1, c4_1, e1, l2_1, g2_1, l3_1, g3_1, l4_1, g4_1⟩ := k40_open h1.k
  obtain rfl : b1 = #[.int .i64 x1.f0, .int .i64 x1.f1, .slice A2_1 x1.f2.length c2_1, .slice A3_1 x1.f3.length c3_1, .slice A4_1 x1.f4.length c4_1] := by rw [← b1.toArray_toList, e1]
  refine (spec_ValCmp.calls k x0.f0 x0.f1 _ _ x0.f2 _ _ x0.f3 _ _ x0.f4 x1.f0 x1.f1 _ _ x1.f2 _ _ x1.f3 _ _ x1.f4 r w g2_0 l2_0 g3_0 l3_0 g4_0 l4_0 g2_1 l2_1 g3_1 l3_1 g4_1 l4_1 h).mono ?_
  rintro e w' ⟨rfl, hb⟩
  exact ⟨rfl, hb⟩
theorem impl_ValCmp.kc (k : Nat) (x0 : S40) (b0 : Array Value) (x1 : S40) (b1 : Array Value) (r : Int) (w : World) (h0 : Rd k40 w x0 b0.toList) (h1 : Rd k40 w x1 b1.toList) (h : impl_ValCmp.f k x0.f0 x0.f1 x0.f2 x0.f3 x0.f4 x1.f0 x1.f1 x1.f2 x1.f3 x1.f4 = some r) :
  Calls Try.prog 38 #[.agg b0, .agg b1] w fun e w' => e = .returned (.int .i64 r) ∧ Below w.heap.size w w' := by
  obtain ⟨A2_0, c2_0, A3_0, c3_0, A4_0, c4_0, e0, l2_0, g2_0, l3_0, g3_0, l4_0, g4_0⟩ := k40_open h0.k
  obtain rfl : b0 = #[.int .i64 x0.f0, .int .i64 x0.f1, .slice A2_0 x0.f2.length c2_0, .slice A3_0 x0.f3.length c3_0, .slice A4_0 x0.f4.length c4_0] := by rw [← b0.toArray_toList, e0]
  obtain ⟨A2_1, c2_1, A3_1, c3_1, A4_1, c4_1, e1, l2_1, g2_1, l3_1, g3_1, l4_1, g4_1⟩ := k40_open h1.k
  obtain rfl : b1 = #[.int .i64 x1.f0, .int .i64 x1.f1, .slice A2_1 x1.f2.length c2_1, .slice A3_1 x1.f3.length c3_1, .slice A4_1 x1.f4.length c4_1] := by rw [← b1.toArray_toList, e1]
  refine (impl_ValCmp.calls k x0.f0 x0.f1 _ _ x0.f2 _ _ x0.f3 _ _ x0.f4 x1.f0 x1.f1 _ _ x1.f2 _ _ x1.f3 _ _ x1.f4 r w g2_0 l2_0 g3_0 l3_0 g4_0 l4_0 g2_1 l2_1 g3_1 l3_1 g4_1 l4_1 h).mono ?_
  rintro e w' ⟨rfl, hb⟩
  exact ⟨rfl, hb⟩
theorem laws_eqValue.kc (k : Nat) (x0 : S40) (b0 : Array Value) (x1 : S40) (b1 : Array Value) (r : Bool) (w : World) (h0 : Rd k40 w x0 b0.toList) (h1 : Rd k40 w x1 b1.toList) (h : laws_eqValue.f k x0.f0 x0.f1 x0.f2 x0.f3 x0.f4 x1.f0 x1.f1 x1.f2 x1.f3 x1.f4 = some r) :
  Calls Try.prog 24 #[.agg b0, .agg b1] w fun e w' => e = .returned (.bool r) ∧ Below w.heap.size w w' := by
  obtain ⟨A2_0, c2_0, A3_0, c3_0, A4_0, c4_0, e0, l2_0, g2_0, l3_0, g3_0, l4_0, g4_0⟩ := k40_open h0.k
  obtain rfl : b0 = #[.int .i64 x0.f0, .int .i64 x0.f1, .slice A2_0 x0.f2.length c2_0, .slice A3_0 x0.f3.length c3_0, .slice A4_0 x0.f4.length c4_0] := by rw [← b0.toArray_toList, e0]
  obtain ⟨A2_1, c2_1, A3_1, c3_1, A4_1, c4_1, e1, l2_1, g2_1, l3_1, g3_1, l4_1, g4_1⟩ := k40_open h1.k
  obtain rfl : b1 = #[.int .i64 x1.f0, .int .i64 x1.f1, .slice A2_1 x1.f2.length c2_1, .slice A3_1 x1.f3.length c3_1, .slice A4_1 x1.f4.length c4_1] := by rw [← b1.toArray_toList, e1]
  refine (laws_eqValue.calls k x0.f0 x0.f1 _ _ x0.f2 _ _ x0.f3 _ _ x0.f4 x1.f0 x1.f1 _ _ x1.f2 _ _ x1.f3 _ _ x1.f4 r w g2_0 l2_0 g3_0 l3_0 g4_0 l4_0 g2_1 l2_1 g3_1 l3_1 g4_1 l4_1 h).mono ?_
  rintro e w' ⟨rfl, hb⟩
  exact ⟨rfl, hb⟩
theorem fr38 : Fr Try.prog 38 := ⟨_, Try.func38, by kernel_rfl, rfl⟩
def laws_FnExactValCmp.f (k : Nat) (a0_0 : Int) (a0_1 : Int) (l0_2 : (List Int)) (l0_3 : (List (List Int))) (l0_4 : (List S35)) (a1_0 : Int) (a1_1 : Int) (l1_2 : (List Int)) (l1_3 : (List (List Int))) (l1_4 : (List S35)) : Option Bool := (laws_szValue.f k a0_0 a0_1 l0_2 l0_3 l0_4 1048576).bind fun t1 => if t1 < 0 then some true else (laws_szValue.f k a1_0 a1_1 l1_2 l1_3 l1_4 t1).bind fun t2 => if t2 < 0 then some true else (laws_toValue.f k a0_0 a0_1 l0_2 l0_3 l0_4).bind fun t3 => (laws_toValue.f k a1_0 a1_1 l1_2 l1_3 l1_4).bind fun t4 => (spec_ValCmp.f k t3.1 t3.2.1 t3.2.2.1 t3.2.2.2.1 t3.2.2.2.2 t4.1 t4.2.1 t4.2.2.1 t4.2.2.2.1 t4.2.2.2.2).bind fun t5 => (impl_ValCmp.f k t3.1 t3.2.1 t3.2.2.1 t3.2.2.2.1 t3.2.2.2.2 t4.1 t4.2.1 t4.2.2.1 t4.2.2.2.1 t4.2.2.2.2).bind fun t6 => if t6 = t5 then (laws_eqValue.f k t3.1 t3.2.1 t3.2.2.1 t3.2.2.2.1 t3.2.2.2.2 t3.1 t3.2.1 t3.2.2.1 t3.2.2.2.1 t3.2.2.2.2).bind fun t7 => if t7 = true then (laws_eqValue.f k t4.1 t4.2.1 t4.2.2.1 t4.2.2.2.1 t4.2.2.2.2 t4.1 t4.2.1 t4.2.2.1 t4.2.2.2.1 t4.2.2.2.2).bind fun t8 => if t8 = true then some true else some false else some false else some false
set_option maxRecDepth 100000 in
set_option maxHeartbeats 8000000 in
theorem laws_FnExactValCmp.calls (k : Nat) (x0 : S35) (b0 : Array Value) (x1 : S35) (b1 : Array Value) (w : World) (K0 : Rd k35 w x0 b0.toList) (K1 : Rd k35 w x1 b1.toList) (h : laws_FnExactValCmp.f k x0.f0 x0.f1 x0.f2 x0.f3 x0.f4 x1.f0 x1.f1 x1.f2 x1.f3 x1.f4 = some true) :
  Calls Try.prog 10 #[.agg b0, .agg b1] w fun e w' => e = .returned (.bool true) ∧ Below w.heap.size w w' := by
  unfold laws_FnExactValCmp.f at h
  have HB := Bw.refl w
  have h9 := bnd h; clear h; obtain ⟨t1, A1, h⟩ := h9
  replace A1 := Aside0.mk A1
  by_cases c : t1 < 0
  ·have cb : decide (t1 < 0) = true := decide_eq_true c
   clear c h
   go_enter Try.func10, Try.ntmps10
   go_wp2_with (first
     | ((with_reducible refine gate_dst (N := 2) rfl ?_); refine bxb (bs := b0) 2 rfl rfl rfl rfl ?_; intro p2 w1 hx hb hle hlt; replace HB := Bw.sw w hb; have X2 := hx; clear hx hb hle hlt; simp only [Act.put, List.setIfInBounds_toArray, List.set_cons_zero, List.set_cons_succ])
     | ((with_reducible refine gate_dst (N := 3) rfl ?_); refine bxb (bs := b1) 3 rfl rfl rfl rfl ?_; intro p3 w2 hx hb hle hlt; replace X2 := X2.b hb; replace HB := Bw.sw w hb; have X3 := hx; clear hx hb hle hlt; simp only [Act.put, List.setIfInBounds_toArray, List.set_cons_zero, List.set_cons_succ])
     | ((with_reducible refine gate_dst (N := 10) rfl ?_); refine ldb (some 10) rfl rfl rfl rfl X2 (cel35 (K0.b HB.out)).st ?_; simp only [Act.put, List.setIfInBounds_toArray, List.set_cons_zero, List.set_cons_succ])
     | ((with_reducible refine gate_dst (N := 12) rfl ?_); refine gg (some 12) rfl rfl rfl fr20 ?_; refine onc (laws_szValue.kc k x0 b0 1048576 t1 _ (K0.b HB.out) A1.out) rfl ?_; rintro e w3 ⟨rfl, hb⟩; refine ⟨_, rfl, ?_⟩; replace HB := Bw.sw w hb; clear hb; simp only [Act.put, List.setIfInBounds_toArray, List.set_cons_zero, List.set_cons_succ]))
   go_ret
   exact ⟨by first | rfl | simp, HB.out⟩
  rw [if_neg c] at h
  replace c : decide (t1 < 0) = false := decide_eq_false c
  have q9 := c
  clear c
  have h9 := bnd h; clear h; obtain ⟨t2, A2, h⟩ := h9
  replace A2 := Aside0.mk A2
  by_cases c : t2 < 0
  ·have cb : decide (t2 < 0) = true := decide_eq_true c
   clear c h
   go_enter Try.func10, Try.ntmps10
   go_wp2_with (first
     | ((with_reducible refine gate_dst (N := 2) rfl ?_); refine bxb (bs := b0) 2 rfl rfl rfl rfl ?_; intro p2 w1 hx hb hle hlt; replace HB := Bw.sw w hb; have X2 := hx; clear hx hb hle hlt; simp only [Act.put, List.setIfInBounds_toArray, List.set_cons_zero, List.set_cons_succ])
     | ((with_reducible refine gate_dst (N := 3) rfl ?_); refine bxb (bs := b1) 3 rfl rfl rfl rfl ?_; intro p3 w2 hx hb hle hlt; replace X2 := X2.b hb; replace HB := Bw.sw w hb; have X3 := hx; clear hx hb hle hlt; simp only [Act.put, List.setIfInBounds_toArray, List.set_cons_zero, List.set_cons_succ])
     | ((with_reducible refine gate_dst (N := 10) rfl ?_); refine ldb (some 10) rfl rfl rfl rfl X2 (cel35 (K0.b HB.out)).st ?_; simp only [Act.put, List.setIfInBounds_toArray, List.set_cons_zero, List.set_cons_succ])
     | ((with_reducible refine gate_dst (N := 12) rfl ?_); refine gg (some 12) rfl rfl rfl fr20 ?_; refine onc (laws_szValue.kc k x0 b0 1048576 t1 _ (K0.b HB.out) A1.out) rfl ?_; rintro e w3 ⟨rfl, hb⟩; refine ⟨_, rfl, ?_⟩; replace X3 := X3.b hb; replace HB := Bw.sw w hb; clear hb; simp only [Act.put, List.setIfInBounds_toArray, List.set_cons_zero, List.set_cons_succ])
     | ((with_reducible refine gate_dst (N := 15) rfl ?_); refine ldb (some 15) rfl rfl rfl rfl X3 (cel35 (K1.b HB.out)).st ?_; simp only [Act.put, List.setIfInBounds_toArray, List.set_cons_zero, List.set_cons_succ])
     | ((with_reducible refine gate_dst (N := 17) rfl ?_); refine gg (some 17) rfl rfl rfl fr20 ?_; refine onc (laws_szValue.kc k x1 b1 t1 t2 _ (K1.b HB.out) A2.out) rfl ?_; rintro e w4 ⟨rfl, hb⟩; refine ⟨_, rfl, ?_⟩; replace HB := Bw.sw w hb; clear hb; simp only [Act.put, List.setIfInBounds_toArray, List.set_cons_zero, List.set_cons_succ]))
   go_ret
   exact ⟨by first | rfl | simp, HB.out⟩
  rw [if_neg c] at h
  replace c : decide (t2 < 0) = false := decide_eq_false c
  have q10 := c
  clear c
  have h9 := bnd h; clear h; obtain ⟨t3, A3, h⟩ := h9
  replace A3 := Aside0.mk A3
  have h9 := bnd h; clear h; obtain ⟨t4, A4, h⟩ := h9
  replace A4 := Aside0.mk A4
  have h9 := bnd h; clear h; obtain ⟨t5, A5, h⟩ := h9
  replace A5 := Aside0.mk A5
  have h9 := bnd h; clear h; obtain ⟨t6, A6, h⟩ := h9
  replace A6 := Aside0.mk A6
  have h9 := yes h; clear h; obtain ⟨c, h⟩ := h9
  subst c
  have h9 := bnd h; clear h; obtain ⟨t7, A7, h⟩ := h9
  replace A7 := Aside0.mk A7
  have h9 := yes h; clear h; obtain ⟨c, h⟩ := h9
  subst c
  have h9 := bnd h; clear h; obtain ⟨t8, A8, h⟩ := h9
  replace A8 := Aside0.mk A8
  have h9 := yes h; clear h; obtain ⟨c, h⟩ := h9
  subst c
  clear h
  go_enter Try.func10, Try.ntmps10
  go_wp2_with (first
    | ((with_reducible refine gate_dst (N := 2) rfl ?_); refine bxb (bs := b0) 2 rfl rfl rfl rfl ?_; intro p2 w1 hx hb hle hlt; replace HB := Bw.sw w hb; have X2 := hx; clear hx hb hle hlt; simp only [Act.put, List.setIfInBounds_toArray, List.set_cons_zero, List.set_cons_succ])
    | ((with_reducible refine gate_dst (N := 3) rfl ?_); refine bxb (bs := b1) 3 rfl rfl rfl rfl ?_; intro p3 w2 hx hb hle hlt; replace X2 := X2.b hb; replace HB := Bw.sw w hb; have X3 := hx; clear hx hb hle hlt; simp only [Act.put, List.setIfInBounds_toArray, List.set_cons_zero, List.set_cons_succ])
    | ((with_reducible refine gate_dst (N := 10) rfl ?_); refine ldb (some 10) rfl rfl rfl rfl X2 (cel35 (K0.b HB.out)).st ?_; simp only [Act.put, List.setIfInBounds_toArray, List.set_cons_zero, List.set_cons_succ])
    | ((with_reducible refine gate_dst (N := 12) rfl ?_); refine gg (some 12) rfl rfl rfl fr20 ?_; refine onc (laws_szValue.kc k x0 b0 1048576 t1 _ (K0.b HB.out) A1.out) rfl ?_; rintro e w3 ⟨rfl, hb⟩; refine ⟨_, rfl, ?_⟩; replace X2 := X2.b hb; replace X3 := X3.b hb; replace HB := Bw.sw w hb; clear hb; simp only [Act.put, List.setIfInBounds_toArray, List.set_cons_zero, List.set_cons_succ])
    | ((with_reducible refine gate_dst (N := 15) rfl ?_); refine ldb (some 15) rfl rfl rfl rfl X3 (cel35 (K1.b HB.out)).st ?_; simp only [Act.put, List.setIfInBounds_toArray, List.set_cons_zero, List.set_cons_succ])
    | ((with_reducible refine gate_dst (N := 17) rfl ?_); refine gg (some 17) rfl rfl rfl fr20 ?_; refine onc (laws_szValue.kc k x1 b1 t1 t2 _ (K1.b HB.out) A2.out) rfl ?_; rintro e w4 ⟨rfl, hb⟩; refine ⟨_, rfl, ?_⟩; replace X2 := X2.b hb; replace X3 := X3.b hb; replace HB := Bw.sw w hb; clear hb; simp only [Act.put, List.setIfInBounds_toArray, List.set_cons_zero, List.set_cons_succ]))
  have hb : Below w4.heap.size w4 w4.drew := below_drew1 (Below.refl _ _)
  refine start_ (n := 6) (S := fun w' => Bx w' p2 35 b0 ∧ Bx w' p3 35 b1) (ds := []) #[false, false, false, false, false, false] (by kernel_rfl) rfl rfl ⟨X2.b hb, X3.b hb⟩ (fun hH => ?_)
  generalize w4.drew = w5 at hb hH ⊢; replace X2 := X2.b hb; replace X3 := X3.b hb; replace HB := Bw.sw w hb; clear hb
  refine take_ (i := 0) (N := some 20) (v := .agg b0) (a' := ?_) #[true, false, false, false, false, false] rfl rfl (by kernel_rfl) (fun _ _ _ h => h) (Or.inl ⟨by rfl, ?hy5_20⟩) hH ?ha5_20 ?_
  case hy5_20 => (rintro w' ⟨s0, s1⟩; exact ld_op rfl rfl s0 (cel35 (K0.b HB.out)).st)
  case ha5_20 => (simp only [Act.put, List.setIfInBounds_toArray, List.set_cons_zero, List.set_cons_succ, i64_w, i32_w]; rfl)
  refine take_ (i := 2) (N := some 22) (v := .agg b1) (a' := ?_) #[true, false, true, false, false, false] rfl rfl (by kernel_rfl) (fun _ _ _ h => h) (Or.inl ⟨by rfl, ?hy5_22⟩) hH ?ha5_22 ?_
  case hy5_22 => (rintro w' ⟨s0, s1⟩; exact ld_op rfl rfl s1 (cel35 (K1.b HB.out)).st)
  case ha5_22 => (simp only [Act.put, List.setIfInBounds_toArray, List.set_cons_zero, List.set_cons_succ, i64_w, i32_w]; rfl)
  refine one_ (i := 1) (N := some 21) #[true, true, true, false, false, false] rfl rfl (by kernel_rfl) (by decide) (fun K hK => ?_)
  refine goes_ Try.func22 (by kernel_rfl) rfl #[.agg b0] (by rfl) rfl rfl (by (try simp only [List.map_toArray, List.map_cons, List.map_nil]); first | done | rfl) ?_
  refine (laws_toValue.kc k x0 b0 (⟨t3.1, t3.2.1, t3.2.2.1, t3.2.2.2.1, t3.2.2.2.2⟩ : S40) _ (K0.b HB.out) A3.out).mono ?_
  rintro e w6 ⟨b_21, rfl, ho, hb⟩
  refine ⟨_, rfl, ?_⟩
  replace X2 := X2.b hb; replace X3 := X3.b hb; replace HB := Bw.sw w hb
  have O21 := ho
  refine hK.out _ _ ⟨X2, X3⟩ (fun hH => ?_)
  clear hK K hb ho
  refine norm_ (a' := ?_) ?_ ?_
  rotate_left
  ·show Act.put _ (some 21) _ = _
   simp only [Act.put, List.setIfInBounds_toArray, List.set_cons_zero, List.set_cons_succ, i64_w, i32_w]
   rfl
  refine one_ (i := 3) (N := some 23) #[true, true, true, true, false, false] rfl rfl (by kernel_rfl) (by decide) (fun K hK => ?_)
  refine goes_ Try.func22 (by kernel_rfl) rfl #[.agg b1] (by rfl) rfl rfl (by (try simp only [List.map_toArray, List.map_cons, List.map_nil]); first | done | rfl) ?_
  refine (laws_toValue.kc k x1 b1 (⟨t4.1, t4.2.1, t4.2.2.1, t4.2.2.2.1, t4.2.2.2.2⟩ : S40) _ (K1.b HB.out) A4.out).mono ?_
  rintro e w7 ⟨b_23, rfl, ho, hb⟩
  refine ⟨_, rfl, ?_⟩
  replace X2 := X2.b hb; replace X3 := X3.b hb; replace O21 := O21.b hb; replace HB := Bw.sw w hb
  have O23 := ho
  refine hK.out _ _ ⟨X2, X3⟩ (fun hH => ?_)
  clear hK K hb ho
  refine norm_ (a' := ?_) ?_ ?_
  rotate_left
  ·show Act.put _ (some 23) _ = _
   simp only [Act.put, List.setIfInBounds_toArray, List.set_cons_zero, List.set_cons_succ, i64_w, i32_w]
   rfl
  refine one_ (i := 4) (N := some 24) #[true, true, true, true, true, false] rfl rfl (by kernel_rfl) (by decide) (fun K hK => ?_)
  refine goes_ Try.func37 (by kernel_rfl) rfl #[.agg b_21, .agg b_23] (by rfl) rfl rfl (by (try simp only [List.map_toArray, List.map_cons, List.map_nil]); first | done | rfl) ?_
  refine (spec_ValCmp.kc k (⟨t3.1, t3.2.1, t3.2.2.1, t3.2.2.2.1, t3.2.2.2.2⟩ : S40) b_21 (⟨t4.1, t4.2.1, t4.2.2.1, t4.2.2.2.1, t4.2.2.2.2⟩ : S40) b_23 t6 _ O21.rd O23.rd A5.out).mono ?_
  rintro e w8 ⟨rfl, hb⟩
  refine ⟨_, rfl, ?_⟩
  replace X2 := X2.b hb; replace X3 := X3.b hb; replace O21 := O21.b hb; replace O23 := O23.b hb; replace HB := Bw.sw w hb
  refine hK.out _ _ ⟨X2, X3⟩ (fun hH => ?_)
  clear hK K hb
  refine norm_ (a' := ?_) ?_ ?_
  rotate_left
  ·show Act.put _ (some 24) _ = _
   simp only [Act.put, List.setIfInBounds_toArray, List.set_cons_zero, List.set_cons_succ, i64_w, i32_w]
   rfl
  refine pure_ (i := 5) (N := some 6) (v := ?_) (a' := ?_) #[true, true, true, true, true, true] rfl rfl (by kernel_rfl) (fun _ _ _ h => h) (Or.inl ⟨by rfl, ?_⟩) ?_ ?_
  rotate_left
  ·intro w'
   go_simp
   with_reducible rfl
  rotate_left
  ·simp only [Act.put, List.setIfInBounds_toArray, List.set_cons_zero, List.set_cons_succ, i64_w, i32_w]
   rfl
  refine done_ (by kernel_rfl) ?_
  go_wp2_with (first
    | ((with_reducible refine gate_dst (N := 25) rfl ?_); refine ldb (some 25) rfl rfl rfl rfl X2 (cel35 (K0.b HB.out)).st ?_; simp only [Act.put, List.setIfInBounds_toArray, List.set_cons_zero, List.set_cons_succ])
    | ((with_reducible refine gate_dst (N := 26) rfl ?_); refine gg (some 26) rfl rfl rfl fr22 ?_; refine onc (laws_toValue.kc k x0 b0 (⟨t3.1, t3.2.1, t3.2.2.1, t3.2.2.2.1, t3.2.2.2.2⟩ : S40) _ (K0.b HB.out) A3.out) rfl ?_; rintro e w9 ⟨b_26, rfl, ho, hb⟩; refine ⟨_, rfl, ?_⟩; replace X2 := X2.b hb; replace X3 := X3.b hb; replace HB := Bw.sw w hb; have O26 := ho; clear ho hb; simp only [Act.put, List.setIfInBounds_toArray, List.set_cons_zero, List.set_cons_succ])
    | ((with_reducible refine gate_dst (N := 7) rfl ?_); have hc := cel40 O26.rd; refine alst (bs := b_26) (cs := zs40) 7 rfl rfl rfl rfl rfl rfl (fun _ => rfl) (fun _ => rfl) hc.hz hc.hl hc.h1 ?_; intro p7 w10 hx hb hle hlt; replace X2 := X2.b hb; replace X3 := X3.b hb; replace O26 := O26.b hb; replace HB := Bw.sw w hb; have X7 := hx; clear hx hb hc hle hlt; simp only [Act.put, List.setIfInBounds_toArray, List.set_cons_zero, List.set_cons_succ])
    | ((with_reducible refine gate_dst (N := 27) rfl ?_); refine ldb (some 27) rfl rfl rfl rfl X3 (cel35 (K1.b HB.out)).st ?_; simp only [Act.put, List.setIfInBounds_toArray, List.set_cons_zero, List.set_cons_succ])
    | ((with_reducible refine gate_dst (N := 28) rfl ?_); refine gg (some 28) rfl rfl rfl fr22 ?_; refine onc (laws_toValue.kc k x1 b1 (⟨t4.1, t4.2.1, t4.2.2.1, t4.2.2.2.1, t4.2.2.2.2⟩ : S40) _ (K1.b HB.out) A4.out) rfl ?_; rintro e w11 ⟨b_28, rfl, ho, hb⟩; refine ⟨_, rfl, ?_⟩; replace X2 := X2.b hb; replace X3 := X3.b hb; replace O26 := O26.b hb; replace X7 := X7.b hb; replace HB := Bw.sw w hb; have O28 := ho; clear ho hb; simp only [Act.put, List.setIfInBounds_toArray, List.set_cons_zero, List.set_cons_succ])
    | ((with_reducible refine gate_dst (N := 8) rfl ?_); have hc := cel40 O28.rd; refine alst (bs := b_28) (cs := zs40) 8 rfl rfl rfl rfl rfl rfl (fun _ => rfl) (fun _ => rfl) hc.hz hc.hl hc.h1 ?_; intro p8 w12 hx hb hle hlt; replace X2 := X2.b hb; replace X3 := X3.b hb; replace O26 := O26.b hb; replace X7 := X7.b hb; replace O28 := O28.b hb; replace HB := Bw.sw w hb; have X8 := hx; clear hx hb hc hle hlt; simp only [Act.put, List.setIfInBounds_toArray, List.set_cons_zero, List.set_cons_succ])
    | ((with_reducible refine gate_dst (N := 29) rfl ?_); refine ldb (some 29) rfl rfl rfl rfl X7 (cel40 O26.rd).st ?_; simp only [Act.put, List.setIfInBounds_toArray, List.set_cons_zero, List.set_cons_succ])
    | ((with_reducible refine gate_dst (N := 30) rfl ?_); refine ldb (some 30) rfl rfl rfl rfl X8 (cel40 O28.rd).st ?_; simp only [Act.put, List.setIfInBounds_toArray, List.set_cons_zero, List.set_cons_succ])
    | ((with_reducible refine gate_dst (N := 31) rfl ?_); refine gg (some 31) rfl rfl rfl fr38 ?_; refine onc (impl_ValCmp.kc k (⟨t3.1, t3.2.1, t3.2.2.1, t3.2.2.2.1, t3.2.2.2.2⟩ : S40) b_26 (⟨t4.1, t4.2.1, t4.2.2.1, t4.2.2.2.1, t4.2.2.2.2⟩ : S40) b_28 t6 _ O26.rd O28.rd A6.out) rfl ?_; rintro e w13 ⟨rfl, hb⟩; refine ⟨_, rfl, ?_⟩; replace X2 := X2.b hb; replace X3 := X3.b hb; replace O26 := O26.b hb; replace X7 := X7.b hb; replace O28 := O28.b hb; replace X8 := X8.b hb; replace HB := Bw.sw w hb; clear hb; simp only [Act.put, List.setIfInBounds_toArray, List.set_cons_zero, List.set_cons_succ]))
  have hb : Below w13.heap.size w13 w13.drew := below_drew1 (Below.refl _ _)
  refine start_ (n := 5) (S := fun w' => Bx w' p7 40 b_26 ∧ Bx w' p2 35 b0) (ds := []) #[false, false, false, false, false] (by kernel_rfl) rfl rfl ⟨X7.b hb, X2.b hb⟩ (fun hH => ?_)
  generalize w13.drew = w14 at hb hH ⊢; replace X2 := X2.b hb; replace X3 := X3.b hb; replace O26 := O26.b hb; replace X7 := X7.b hb; replace O28 := O28.b hb; replace X8 := X8.b hb; replace HB := Bw.sw w hb; clear hb
  refine take_ (i := 0) (N := some 35) (v := .agg b_26) (a' := ?_) #[true, false, false, false, false] rfl rfl (by kernel_rfl) (fun _ _ _ h => h) (Or.inl ⟨by rfl, ?hy14_35⟩) hH ?ha14_35 ?_
  case hy14_35 => (rintro w' ⟨s0, s1⟩; exact ld_op rfl rfl s0 (cel40 O26.rd).st)
  case ha14_35 => (simp only [Act.put, List.setIfInBounds_toArray, List.set_cons_zero, List.set_cons_succ, i64_w, i32_w]; rfl)
  refine take_ (i := 1) (N := some 36) (v := .agg b0) (a' := ?_) #[true, true, false, false, false] rfl rfl (by kernel_rfl) (fun _ _ _ h => h) (Or.inl ⟨by rfl, ?hy14_36⟩) hH ?ha14_36 ?_
  case hy14_36 => (rintro w' ⟨s0, s1⟩; exact ld_op rfl rfl s1 (cel35 (K0.b HB.out)).st)
  case ha14_36 => (simp only [Act.put, List.setIfInBounds_toArray, List.set_cons_zero, List.set_cons_succ, i64_w, i32_w]; rfl)
  refine one_ (i := 2) (N := some 37) #[true, true, true, false, false] rfl rfl (by kernel_rfl) (by decide) (fun K hK => ?_)
  refine goes_ Try.func22 (by kernel_rfl) rfl #[.agg b0] (by rfl) rfl rfl (by (try simp only [List.map_toArray, List.map_cons, List.map_nil]); first | done | rfl) ?_
  refine (laws_toValue.kc k x0 b0 (⟨t3.1, t3.2.1, t3.2.2.1, t3.2.2.2.1, t3.2.2.2.2⟩ : S40) _ (K0.b HB.out) A3.out).mono ?_
  rintro e w15 ⟨b_37, rfl, ho, hb⟩
  refine ⟨_, rfl, ?_⟩
  replace X2 := X2.b hb; replace X3 := X3.b hb; replace O26 := O26.b hb; replace X7 := X7.b hb; replace O28 := O28.b hb; replace X8 := X8.b hb; replace HB := Bw.sw w hb
  have O37 := ho
  refine hK.out _ _ ⟨X7, X2⟩ (fun hH => ?_)
  clear hK K hb ho
  refine norm_ (a' := ?_) ?_ ?_
  rotate_left
  ·show Act.put _ (some 37) _ = _
   simp only [Act.put, List.setIfInBounds_toArray, List.set_cons_zero, List.set_cons_succ, i64_w, i32_w]
   rfl
  refine one_ (i := 3) (N := some 38) #[true, true, true, true, false] rfl rfl (by kernel_rfl) (by decide) (fun K hK => ?_)
  refine goes_ Try.func24 (by kernel_rfl) rfl #[.agg b_26, .agg b_37] (by rfl) rfl rfl (by (try simp only [List.map_toArray, List.map_cons, List.map_nil]); first | done | rfl) ?_
  refine (laws_eqValue.kc k (⟨t3.1, t3.2.1, t3.2.2.1, t3.2.2.2.1, t3.2.2.2.2⟩ : S40) b_26 (⟨t3.1, t3.2.1, t3.2.2.1, t3.2.2.2.1, t3.2.2.2.2⟩ : S40) b_37 true _ O26.rd O37.rd A7.out).mono ?_
  rintro e w16 ⟨rfl, hb⟩
  refine ⟨_, rfl, ?_⟩
  replace X2 := X2.b hb; replace X3 := X3.b hb; replace O26 := O26.b hb; replace X7 := X7.b hb; replace O28 := O28.b hb; replace X8 := X8.b hb; replace O37 := O37.b hb; replace HB := Bw.sw w hb
  refine hK.out _ _ ⟨X7, X2⟩ (fun hH => ?_)
  clear hK K hb
  refine norm_ (a' := ?_) ?_ ?_
  rotate_left
  ·show Act.put _ (some 38) _ = _
   simp only [Act.put, List.setIfInBounds_toArray, List.set_cons_zero, List.set_cons_succ, i64_w, i32_w]
   rfl
  refine pure_ (i := 4) (N := some 39) (v := ?_) (a' := ?_) #[true, true, true, true, true] rfl rfl (by kernel_rfl) (fun _ _ _ h => h) (Or.inl ⟨by rfl, ?_⟩) ?_ ?_
  rotate_left
  ·intro w'
   go_simp
   with_reducible rfl
  rotate_left
  ·simp only [Act.put, List.setIfInBounds_toArray, List.set_cons_zero, List.set_cons_succ, i64_w, i32_w]
   rfl
  refine done_ (by kernel_rfl) ?_
  try go_wp2
  have hb : Below w16.heap.size w16 w16.drew := below_drew1 (Below.refl _ _)
  refine start_ (n := 5) (S := fun w' => Bx w' p8 40 b_28 ∧ Bx w' p3 35 b1) (ds := []) #[false, false, false, false, false] (by kernel_rfl) rfl rfl ⟨X8.b hb, X3.b hb⟩ (fun hH => ?_)
  generalize w16.drew = w17 at hb hH ⊢; replace X2 := X2.b hb; replace X3 := X3.b hb; replace X7 := X7.b hb; replace O28 := O28.b hb; replace X8 := X8.b hb; replace HB := Bw.sw w hb; clear hb
  refine take_ (i := 0) (N := some 40) (v := .agg b_28) (a' := ?_) #[true, false, false, false, false] rfl rfl (by kernel_rfl) (fun _ _ _ h => h) (Or.inl ⟨by rfl, ?hy17_40⟩) hH ?ha17_40 ?_
  case hy17_40 => (rintro w' ⟨s0, s1⟩; exact ld_op rfl rfl s0 (cel40 O28.rd).st)
  case ha17_40 => (simp only [Act.put, List.setIfInBounds_toArray, List.set_cons_zero, List.set_cons_succ, i64_w, i32_w]; rfl)
  refine take_ (i := 1) (N := some 41) (v := .agg b1) (a' := ?_) #[true, true, false, false, false] rfl rfl (by kernel_rfl) (fun _ _ _ h => h) (Or.inl ⟨by rfl, ?hy17_41⟩) hH ?ha17_41 ?_
  case hy17_41 => (rintro w' ⟨s0, s1⟩; exact ld_op rfl rfl s1 (cel35 (K1.b HB.out)).st)
  case ha17_41 => (simp only [Act.put, List.setIfInBounds_toArray, List.set_cons_zero, List.set_cons_succ, i64_w, i32_w]; rfl)
  refine one_ (i := 2) (N := some 42) #[true, true, true, false, false] rfl rfl (by kernel_rfl) (by decide) (fun K hK => ?_)
  refine goes_ Try.func22 (by kernel_rfl) rfl #[.agg b1] (by rfl) rfl rfl (by (try simp only [List.map_toArray, List.map_cons, List.map_nil]); first | done | rfl) ?_
  refine (laws_toValue.kc k x1 b1 (⟨t4.1, t4.2.1, t4.2.2.1, t4.2.2.2.1, t4.2.2.2.2⟩ : S40) _ (K1.b HB.out) A4.out).mono ?_
  rintro e w18 ⟨b_42, rfl, ho, hb⟩
  refine ⟨_, rfl, ?_⟩
  replace X3 := X3.b hb; replace O28 := O28.b hb; replace X8 := X8.b hb; replace HB := Bw.sw w hb
  have O42 := ho
  refine hK.out _ _ ⟨X8, X3⟩ (fun hH => ?_)
  clear hK K hb ho
  refine norm_ (a' := ?_) ?_ ?_
  rotate_left
  ·show Act.put _ (some 42) _ = _
   simp only [Act.put, List.setIfInBounds_toArray, List.set_cons_zero, List.set_cons_succ, i64_w, i32_w]
   rfl
  refine one_ (i := 3) (N := some 43) #[true, true, true, true, false] rfl rfl (by kernel_rfl) (by decide) (fun K hK => ?_)
  refine goes_ Try.func24 (by kernel_rfl) rfl #[.agg b_28, .agg b_42] (by rfl) rfl rfl (by (try simp only [List.map_toArray, List.map_cons, List.map_nil]); first | done | rfl) ?_
  refine (laws_eqValue.kc k (⟨t4.1, t4.2.1, t4.2.2.1, t4.2.2.2.1, t4.2.2.2.2⟩ : S40) b_28 (⟨t4.1, t4.2.1, t4.2.2.1, t4.2.2.2.1, t4.2.2.2.2⟩ : S40) b_42 true _ O28.rd O42.rd A8.out).mono ?_
  rintro e w19 ⟨rfl, hb⟩
  refine ⟨_, rfl, ?_⟩
  replace X3 := X3.b hb; replace O28 := O28.b hb; replace X8 := X8.b hb; replace O42 := O42.b hb; replace HB := Bw.sw w hb
  refine hK.out _ _ ⟨X8, X3⟩ (fun hH => ?_)
  clear hK K hb
  refine norm_ (a' := ?_) ?_ ?_
  rotate_left
  ·show Act.put _ (some 43) _ = _
   simp only [Act.put, List.setIfInBounds_toArray, List.set_cons_zero, List.set_cons_succ, i64_w, i32_w]
   rfl
  refine pure_ (i := 4) (N := some 44) (v := ?_) (a' := ?_) #[true, true, true, true, true] rfl rfl (by kernel_rfl) (fun _ _ _ h => h) (Or.inl ⟨by rfl, ?_⟩) ?_ ?_
  rotate_left
  ·intro w'
   go_simp
   with_reducible rfl
  rotate_left
  ·simp only [Act.put, List.setIfInBounds_toArray, List.set_cons_zero, List.set_cons_succ, i64_w, i32_w]
   rfl
  refine done_ (by kernel_rfl) ?_
  try go_wp2
  go_ret
  exact ⟨by first | rfl | simp, HB.out⟩
end Go.Proofs.Ytmigpeaiepdmbaa.PFnExactValCmp
