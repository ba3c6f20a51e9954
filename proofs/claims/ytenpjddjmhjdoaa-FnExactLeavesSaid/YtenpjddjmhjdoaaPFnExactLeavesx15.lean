/- The law, walked: by contracts over whole values. No condition. -/
import Derived.Test.YtenpjddjmhjdoaaPFnExactLeavesx0
import Derived.Test.YtenpjddjmhjdoaaPFnExactLeavesx1
import Derived.Test.YtenpjddjmhjdoaaPFnExactLeavesx2
import Derived.Test.YtenpjddjmhjdoaaPFnExactLeavesx3
import Derived.Test.YtenpjddjmhjdoaaPFnExactLeavesx11
import Derived.Test.YtenpjddjmhjdoaaPFnExactLeavesx13
import Derived.Test.YtenpjddjmhjdoaaPFnExactLeavesx14
import Derived.Test.YtenpjddjmhjdoaaMlaw
import Derived.Test.YtenpjddjmhjdoaaMmark
namespace Go.Proofs.Ytenpjddjmhjdoaa.PFnExactLeaves
open Go.RowKit Go.Proofs.YtenpjddjmhjdoaaW.PrintWords Go.Proofs.YtenpjddjmhjdoaaW.PrintLast Go.Proofs.YtenpjddjmhjdoaaW.PrintMore Go.Proofs.Ytenpjddjmhjdoaa.M
attribute [local go_sem] max2_int min2_int max_two min_two max_three min_three max_four min_four Go.Proofs.Ytenpjddjmhjdoaa.M.str_gtr Go.Proofs.Ytenpjddjmhjdoaa.M.str_leq Go.Proofs.Ytenpjddjmhjdoaa.M.str_geq   -- for this text's walks alone
set_option linter.unusedVariables false
set_option linter.unusedSimpArgs false
def zs26 : Array Value := #[.int .i64 0, .int .i64 0, .slice none 0 0, .slice none 0 0, .slice none 0 0]
theorem cel26 {w : World} {x : S26} {b : Array Value} (h : Rd k26 w x b.toList) : Cel Try.prog 26 zs26 b := by
  have h1 := k26_open h.k
  obtain ⟨A2, c2, A3, c3, A4, c4, e, _⟩ := h1
  obtain rfl : b = #[.int .i64 x.f0, .int .i64 x.f1, .slice A2 x.f2.length c2, .slice A3 x.f3.length c3, .slice A4 x.f4.length c4] := by rw [← b.toArray_toList, e]
  exact ⟨⟨⟨_, Try.underlying26⟩, by kernel_rfl⟩, by kernel_rfl, rfl, by rw [← Array.all_toList]; exact List.all_eq_true.2 (k26.K_one h.k)⟩
theorem laws_szValue.kc (k : Nat) (x0 : S26) (b0 : Array Value) (a1 : Int) (r : Int) (w : World) (h0 : Rd k26 w x0 b0.toList) (h : laws_szValue.f k x0.f0 x0.f1 x0.f2 x0.f3 x0.f4 a1 = some r) :
  Calls Try.prog 12 #[.agg b0, .int .i64 a1] w fun e w' => e = .returned (.int .i64 r) ∧ Below w.heap.size w w' := by
  obtain ⟨A2_0, c2_0, A3_0, c3_0, A4_0, c4_0, e0, l2_0, g2_0, l3_0, g3_0, l4_0, g4_0⟩ := k26_open h0.k
  obtain rfl : b0 = #[.int .i64 x0.f0, .int .i64 x0.f1, .slice A2_0 x0.f2.length c2_0, .slice A3_0 x0.f3.length c3_0, .slice A4_0 x0.f4.length c4_0] := by rw [← b0.toArray_toList, e0]
  refine (laws_szValue.calls k x0.f0 x0.f1 _ _ x0.f2 _ _ x0.f3 _ _ x0.f4 a1 r w g2_0 l2_0 g3_0 l3_0 g4_0 l4_0 h).mono ?_
  rintro e w' ⟨rfl, hb⟩
  exact ⟨rfl, hb⟩
def zs30 : Array Value := #[.int .i64 0, .int .i64 0, .slice none 0 0, .slice none 0 0, .slice none 0 0]
theorem cel30 {w : World} {x : S30} {b : Array Value} (h : Rd k30 w x b.toList) : Cel Try.prog 30 zs30 b := by
  have h1 := k30_open h.k
  obtain ⟨A2, c2, A3, c3, A4, c4, e, _⟩ := h1
  obtain rfl : b = #[.int .i64 x.f0, .int .i64 x.f1, .slice A2 x.f2.length c2, .slice A3 x.f3.length c3, .slice A4 x.f4.length c4] := by rw [← b.toArray_toList, e]
  exact ⟨⟨⟨_, Try.underlying30⟩, by kernel_rfl⟩, by kernel_rfl, rfl, by rw [← Array.all_toList]; exact List.all_eq_true.2 (k30.K_one h.k)⟩
theorem laws_toValue.kc (k : Nat) (x0 : S26) (b0 : Array Value) (y : S30) (w : World) (h0 : Rd k26 w x0 b0.toList) (h : laws_toValue.f k x0.f0 x0.f1 x0.f2 x0.f3 x0.f4 = some (y.f0, y.f1, y.f2, y.f3, y.f4)) :
  Calls Try.prog 14 #[.agg b0] w fun e w' => ∃ b : Array Value, e = .returned (.agg b) ∧ Own k30 w' w.heap.size w'.heap.size y b.toList ∧ Below w.heap.size w w' := by
  obtain ⟨A2_0, c2_0, A3_0, c3_0, A4_0, c4_0, e0, l2_0, g2_0, l3_0, g3_0, l4_0, g4_0⟩ := k26_open h0.k
  obtain rfl : b0 = #[.int .i64 x0.f0, .int .i64 x0.f1, .slice A2_0 x0.f2.length c2_0, .slice A3_0 x0.f3.length c3_0, .slice A4_0 x0.f4.length c4_0] := by rw [← b0.toArray_toList, e0]
  refine (laws_toValue.calls k x0.f0 x0.f1 _ _ x0.f2 _ _ x0.f3 _ _ x0.f4 y.f0 y.f1 y.f2 y.f3 y.f4 w g2_0 l2_0 g3_0 l3_0 g4_0 l4_0 h).mono ?_
  rintro e w' ⟨v0_, v1_, v2_, rfl, g0, g1, g2, hb⟩
  exact ⟨_, rfl, Own.of (k30_mkM w' w.heap.size (fun _ => True) y (Kd.R_mono (g0) (fun _ _ => trivial)) (Kd.R_mono (Kd.S_R g1) (fun _ _ => trivial)) (Kd.R_mono (g2) (fun _ _ => trivial))) hb.size, hb⟩
theorem laws_eqStepSS.kc (k : Nat) (l0 : List (List (S79))) (v0 : Value) (l1 : List (List (S79))) (v1 : Value) (r : Bool) (w : World) (h0 : Rd (Kd.slice 59 (Kd.slice 79 k79)) w l0 [v0]) (h1 : Rd (Kd.slice 59 (Kd.slice 79 k79)) w l1 [v1]) (h : laws_eqStepSS.f k l0 l1 = some r) :
  Calls Try.prog 24 #[v0, v1] w fun e w' => e = .returned (.bool r) ∧ Below w.heap.size w w' := by
  obtain ⟨A0, c0, e0, lc0, g0⟩ := h0.k
  injection e0 with e0
  subst e0
  obtain ⟨A1, c1, e1, lc1, g1⟩ := h1.k
  injection e1 with e1
  subst e1
  refine (laws_eqStepSS.calls k _ _ l0 _ _ l1 r w g0 lc0 g1 lc1 h).mono ?_
  rintro e w' ⟨rfl, hb⟩
  exact ⟨rfl, hb⟩
theorem laws_eqValue.kc (k : Nat) (x0 : S30) (b0 : Array Value) (x1 : S30) (b1 : Array Value) (r : Bool) (w : World) (h0 : Rd k30 w x0 b0.toList) (h1 : Rd k30 w x1 b1.toList) (h : laws_eqValue.f k x0.f0 x0.f1 x0.f2 x0.f3 x0.f4 x1.f0 x1.f1 x1.f2 x1.f3 x1.f4 = some r) :
  Calls Try.prog 17 #[.agg b0, .agg b1] w fun e w' => e = .returned (.bool r) ∧ Below w.heap.size w w' := by
  obtain ⟨A2_0, c2_0, A3_0, c3_0, A4_0, c4_0, e0, l2_0, g2_0, l3_0, g3_0, l4_0, g4_0⟩ := k30_open h0.k
  obtain rfl : b0 = #[.int .i64 x0.f0, .int .i64 x0.f1, .slice A2_0 x0.f2.length c2_0, .slice A3_0 x0.f3.length c3_0, .slice A4_0 x0.f4.length c4_0] := by rw [← b0.toArray_toList, e0]
  obtain ⟨A2_1, c2_1, A3_1, c3_1, A4_1, c4_1, e1, l2_1, g2_1, l3_1, g3_1, l4_1, g4_1⟩ := k30_open h1.k
  obtain rfl : b1 = #[.int .i64 x1.f0, .int .i64 x1.f1, .slice A2_1 x1.f2.length c2_1, .slice A3_1 x1.f3.length c3_1, .slice A4_1 x1.f4.length c4_1] := by rw [← b1.toArray_toList, e1]
  refine (laws_eqValue.calls k x0.f0 x0.f1 _ _ x0.f2 _ _ x0.f3 _ _ x0.f4 x1.f0 x1.f1 _ _ x1.f2 _ _ x1.f3 _ _ x1.f4 r w g2_0 l2_0 g3_0 l3_0 g4_0 l4_0 g2_1 l2_1 g3_1 l3_1 g4_1 l4_1 h).mono ?_
  rintro e w' ⟨rfl, hb⟩
  exact ⟨rfl, hb⟩
mutual
def sh30 : S30 → Sh
  | ⟨_, _, s, k, l⟩ => .mk s.length (k.map List.length) (shs30 l)
def shs30 : List S30 → List Sh
  | [] => []
  | x :: l => sh30 x :: shs30 l
end
mutual
def m30 : S30 → Nat
  | ⟨_, _, s, k, l⟩ => s.length + (k.length + mL k + (l.length + ms30 l))
def ms30 : List S30 → Nat
  | [] => 0
  | x :: l => m30 x + ms30 l
end
mutual
theorem c30 : ∀ x : S30, cV (sh30 x) ≤ 2 * m30 x
  | ⟨_, _, s, k, l⟩ => by have := cs30 l; have := cBs_map k; simp only [sh30, m30, cV]; omega
theorem cs30 : ∀ l : List S30, cVs (shs30 l) ≤ 2 * (l.length + ms30 l)
  | [] => by simp [shs30, cVs]
  | x :: l => by have := c30 x; have := cs30 l; simp only [shs30, ms30, cVs, List.length_cons]; omega
end
theorem shs30_len : ∀ l : List S30, (shs30 l).length = l.length
  | [] => rfl
  | x :: l => by simp only [shs30, List.length_cons, shs30_len l]
theorem shs30_at : ∀ (l : List S30) (i : Nat) (x : S30), l[i]? = some x → (shs30 l).getD i (.mk 0 [] []) = sh30 x
  | [], i, x, h => by simp at h
  | y :: l, 0, x, h => by simp at h; subst h; rfl
  | y :: l, i + 1, x, h => by simpa [shs30] using shs30_at l i x (by simpa using h)
mutual
theorem ok30 : ∀ x : S30, m30 x ≤ 4611686018427387904 → okV (sh30 x)
  | ⟨_, _, s, k, l⟩, h => by
    simp only [m30] at h
    exact ⟨by rw [List.length_map]; omega, oks30 l (by omega)⟩
theorem oks30 : ∀ l : List S30, l.length + ms30 l ≤ 4611686018427387904 → okVs (shs30 l)
  | [], _ => trivial
  | x :: l, h => by
    simp only [ms30, List.length_cons] at h
    exact ⟨by rw [shs30_len]; omega, ok30 x (by omega), oks30 l (by omega)⟩
end
theorem shT30 {lo hi : Nat} {w : World} : ∀ (n : Nat) (x : S30) (base : Nat) (ok : Nat → Prop) (cs : List Value), SizeOf.sizeOf x ≤ n → (∀ k, ok k → lo ≤ k ∧ k < hi) → k30.M w base ok x cs → ShT 5 22 30 w lo hi n (sh30 x) cs
  | 0, ⟨_, _, s, k, l⟩, base, ok, cs, hs, _, _ => by simp at hs
  | n + 1, ⟨i, j, s, k, l⟩, base, ok, cs, hs, hok, h => by
    obtain ⟨v2, v3, v4, rfl, h2, h3, h4⟩ := k30_openM h
    refine ⟨i, j, v2, v3, v4, rfl, ByT.of_R h2 hok, BsT.of_R h3 hok, ?_⟩
    simp only [sh30, Sh.l]
    rw [shs30_len]
    refine Row.of_R h4 hok _ fun q x c hx hm => ?_
    rw [shs30_at l q x hx]
    have hm2 : x ∈ l := List.mem_of_getElem? hx
    have := List.sizeOf_lt_of_mem hm2
    exact shT30 n x base ok c (by simp at hs; omega) hok hm
theorem laws_markValue.kc (x0 : S30) (b0 : Array Value) (k : Int) (w : World) {lo hi : Nat} (hk : 0 ≤ k) (hm : m30 x0 ≤ 1099511627776) (hk2 : k ≤ 17592186044416) (h0 : Own k30 w lo hi x0 b0.toList) :
    Calls Try.prog 19 #[.agg b0, .int .i64 k] w fun e w' => ∃ kk : Int, e = .returned (.int .i64 kk) ∧ 0 ≤ kk ∧ kk ≤ k + 2199023255552 ∧ M.Outside lo hi w w' := by
  have h1 := shT30 (SizeOf.sizeOf x0) x0 _ _ _ (Nat.le_refl _) (fun _ h => h) h0.m
  have h2 := c30 x0
  refine (markValue_out lo hi (SizeOf.sizeOf x0) (sh30 x0) b0 k w hk (by omega) (ok30 x0 (by omega)) h1 h0.le).mono ?_
  rintro e w' ⟨rfl, g⟩
  exact ⟨_, rfl, by omega, by omega, g⟩
theorem laws_heldStepSS.kc (k : Nat) (l0 : List (List (S79))) (v0 : Value) (a1 : Int) (r : Int) (w : World) (h0 : Rd (Kd.slice 59 (Kd.slice 79 k79)) w l0 [v0]) (h : laws_heldStepSS.f k l0 a1 = some r) :
  Calls Try.prog 26 #[v0, .int .i64 a1] w fun e w' => e = .returned (.int .i64 r) ∧ Below w.heap.size w w' := by
  obtain ⟨A0, c0, e0, lc0, g0⟩ := h0.k
  injection e0 with e0
  subst e0
  refine (laws_heldStepSS.calls k _ _ l0 a1 r w g0 lc0 h).mono ?_
  rintro e w' ⟨rfl, ⟨nd, rfl⟩⟩
  exact ⟨rfl, pw_below_drewN (Below.refl _ _) nd⟩
theorem fr22 : Fr Try.prog 22 := ⟨_, Try.func22, by kernel_rfl, rfl⟩
theorem fr23 : Fr Try.prog 23 := ⟨_, Try.func23, by kernel_rfl, rfl⟩
theorem fr24 : Fr Try.prog 24 := ⟨_, Try.func24, by kernel_rfl, rfl⟩
theorem fr19 : Fr Try.prog 19 := ⟨_, Try.func19, by kernel_rfl, rfl⟩
theorem fr25 : Fr Try.prog 25 := ⟨_, Try.func25, by kernel_rfl, rfl⟩
theorem fr26 : Fr Try.prog 26 := ⟨_, Try.func26, by kernel_rfl, rfl⟩
def laws_FnExactLeaves.f (k : Nat) (a0_0 : Int) (a0_1 : Int) (l0_2 : (List Int)) (l0_3 : (List (List Int))) (l0_4 : (List S26)) : Option Bool := (laws_szValue.f k a0_0 a0_1 l0_2 l0_3 l0_4 1048576).bind fun t1 => if t1 < 0 then some true else (laws_toValue.f k a0_0 a0_1 l0_2 l0_3 l0_4).bind fun t2 => (spec_Leaves.f k t2.1 t2.2.1 t2.2.2.1 t2.2.2.2.1 t2.2.2.2.2).bind fun t3 => (impl_Leaves.g k t2.1 t2.2.1 t2.2.2.1 t2.2.2.2.1 t2.2.2.2.2).bind fun t4 => (laws_eqStepSS.f k t4 t3).bind fun t5 => if t5 = true then (laws_eqValue.f k t2.1 t2.2.1 t2.2.2.1 t2.2.2.2.1 t2.2.2.2.2 t2.1 t2.2.1 t2.2.2.1 t2.2.2.2.1 t2.2.2.2.2).bind fun t6 => if t6 = true then if m30 (⟨t2.1, t2.2.1, t2.2.2.1, t2.2.2.2.1, t2.2.2.2.2⟩ : S30) ≤ 1099511627776 then if t4.length + mStt t4 ≤ 1099511627776 then (some (1 + (mStt t4 : Nat)) : Option Int).bind fun t9 => (laws_heldStepSS.f k ((mstss 1 t4)) 1).bind fun t10 => if t10 < 0 then some false else if t10 = t9 then some true else some false else some false else some false else some false else some false
set_option maxRecDepth 100000 in
set_option maxHeartbeats 8000000 in
theorem laws_FnExactLeaves.calls (k : Nat) (x0 : S26) (b0 : Array Value) (w : World) (K0 : Rd k26 w x0 b0.toList) (h : laws_FnExactLeaves.f k x0.f0 x0.f1 x0.f2 x0.f3 x0.f4 = some true) :
  Calls Try.prog 4 #[.agg b0] w fun e w' => e = .returned (.bool true) ∧ Below w.heap.size w w' := by
  unfold laws_FnExactLeaves.f at h
  have HB := Bw.refl w
  have h9 := bnd h; clear h; obtain ⟨t1, A1, h⟩ := h9
  replace A1 := Aside0.mk A1
  by_cases c : t1 < 0
  ·have cb : decide (t1 < 0) = true := decide_eq_true c
   clear c h
   go_enter Try.func4, Try.ntmps4
   go_wp2_with (first
     | ((with_reducible refine gate_dst (N := 1) rfl ?_); refine bxb (bs := b0) 1 rfl rfl rfl rfl ?_; intro p1 w1 hx hb hle hlt; have z1 := hb.size; replace HB := Bw.sw w hb; have X1 := hx; clear hx hb; have y1a := hle; have y1b := hlt; clear hle hlt; simp only [Act.put, List.setIfInBounds_toArray, List.set_cons_zero, List.set_cons_succ])
     | ((with_reducible refine gate_dst (N := 11) rfl ?_); refine ldb (some 11) rfl rfl rfl rfl X1 (cel26 (K0.b HB.out)).st ?_; simp only [Act.put, List.setIfInBounds_toArray, List.set_cons_zero, List.set_cons_succ])
     | ((with_reducible refine gate_dst (N := 13) rfl ?_); refine gg (some 13) rfl rfl rfl fr12 ?_; refine onc (laws_szValue.kc k x0 b0 1048576 t1 _ (K0.b HB.out) A1.out) rfl ?_; rintro e w2 ⟨rfl, hb⟩; refine ⟨_, rfl, ?_⟩; have z2 := hb.size; replace HB := Bw.sw w hb; clear hb; simp only [Act.put, List.setIfInBounds_toArray, List.set_cons_zero, List.set_cons_succ]))
   go_ret
   exact ⟨by first | rfl | simp, HB.out⟩
  rw [if_neg c] at h
  replace c : decide (t1 < 0) = false := decide_eq_false c
  have q11 := c
  clear c
  have h9 := bnd h; clear h; obtain ⟨t2, A2, h⟩ := h9
  replace A2 := Aside0.mk A2
  have h9 := bnd h; clear h; obtain ⟨t3, A3, h⟩ := h9
  replace A3 := Aside0.mk A3
  have h9 := bnd h; clear h; obtain ⟨t4, A4, h⟩ := h9
  replace A4 := Aside0.mk A4
  have h9 := bnd h; clear h; obtain ⟨t5, A5, h⟩ := h9
  replace A5 := Aside0.mk A5
  have h9 := yes h; clear h; obtain ⟨c, h⟩ := h9
  subst c
  have h9 := bnd h; clear h; obtain ⟨t6, A6, h⟩ := h9
  replace A6 := Aside0.mk A6
  have h9 := yes h; clear h; obtain ⟨c, h⟩ := h9
  subst c
  have h9 := yes h; clear h; obtain ⟨G7, h⟩ := h9; replace G7 := Aside0.mk G7
  have h9 := yes h; clear h; obtain ⟨G8, h⟩ := h9; replace G8 := Aside0.mk G8
  have h9 := bnd h; clear h; obtain ⟨t9, A9, h⟩ := h9
  replace A9 := Aside0.mk A9
  have h9 := bnd h; clear h; obtain ⟨t10, A10, h⟩ := h9
  replace A10 := Aside0.mk A10
  have h9 := nope h; clear h; obtain ⟨c, h⟩ := h9
  have q12 : decide (t10 < 0) = false := decide_eq_false c
  clear c
  have h9 := yes h; clear h; obtain ⟨c, h⟩ := h9
  subst c
  clear h
  go_enter Try.func4, Try.ntmps4
  go_wp2_with (first
    | ((with_reducible refine gate_dst (N := 1) rfl ?_); refine bxb (bs := b0) 1 rfl rfl rfl rfl ?_; intro p1 w1 hx hb hle hlt; have z1 := hb.size; replace HB := Bw.sw w hb; have X1 := hx; clear hx hb; have y1a := hle; have y1b := hlt; clear hle hlt; simp only [Act.put, List.setIfInBounds_toArray, List.set_cons_zero, List.set_cons_succ])
    | ((with_reducible refine gate_dst (N := 11) rfl ?_); refine ldb (some 11) rfl rfl rfl rfl X1 (cel26 (K0.b HB.out)).st ?_; simp only [Act.put, List.setIfInBounds_toArray, List.set_cons_zero, List.set_cons_succ])
    | ((with_reducible refine gate_dst (N := 13) rfl ?_); refine gg (some 13) rfl rfl rfl fr12 ?_; refine onc (laws_szValue.kc k x0 b0 1048576 t1 _ (K0.b HB.out) A1.out) rfl ?_; rintro e w2 ⟨rfl, hb⟩; refine ⟨_, rfl, ?_⟩; replace X1 := X1.b hb; have z2 := hb.size; replace HB := Bw.sw w hb; clear hb; simp only [Act.put, List.setIfInBounds_toArray, List.set_cons_zero, List.set_cons_succ])
    | ((with_reducible refine gate_dst (N := 16) rfl ?_); refine ldb (some 16) rfl rfl rfl rfl X1 (cel26 (K0.b HB.out)).st ?_; simp only [Act.put, List.setIfInBounds_toArray, List.set_cons_zero, List.set_cons_succ])
    | ((with_reducible refine gate_dst (N := 17) rfl ?_); refine gg (some 17) rfl rfl rfl fr14 ?_; refine onc (laws_toValue.kc k x0 b0 (⟨t2.1, t2.2.1, t2.2.2.1, t2.2.2.2.1, t2.2.2.2.2⟩ : S30) _ (K0.b HB.out) A2.out) rfl ?_; rintro e w3 ⟨b_17, rfl, ho, hb⟩; refine ⟨_, rfl, ?_⟩; replace X1 := X1.b hb; have z3 := hb.size; replace HB := Bw.sw w hb; have O17 := ho; clear ho hb; simp only [Act.put, List.setIfInBounds_toArray, List.set_cons_zero, List.set_cons_succ])
    | ((with_reducible refine gate_dst (N := 18) rfl ?_); refine gg (some 18) rfl rfl rfl fr22 ?_; refine onc (spec_Leaves.kc k (⟨t2.1, t2.2.1, t2.2.2.1, t2.2.2.2.1, t2.2.2.2.2⟩ : S30) b_17 t3 _ O17.rd A3.out) rfl ?_; rintro e w4 ⟨v_18, rfl, ho, hb⟩; refine ⟨_, rfl, ?_⟩; replace X1 := X1.b hb; have z4 := hb.size; replace HB := Bw.sw w hb; have O18 := ho; clear ho hb; simp only [Act.put, List.setIfInBounds_toArray, List.set_cons_zero, List.set_cons_succ])
    | ((with_reducible refine gate_dst (N := 19) rfl ?_); refine ldb (some 19) rfl rfl rfl rfl X1 (cel26 (K0.b HB.out)).st ?_; simp only [Act.put, List.setIfInBounds_toArray, List.set_cons_zero, List.set_cons_succ])
    | ((with_reducible refine gate_dst (N := 20) rfl ?_); refine gg (some 20) rfl rfl rfl fr14 ?_; refine onc (laws_toValue.kc k x0 b0 (⟨t2.1, t2.2.1, t2.2.2.1, t2.2.2.2.1, t2.2.2.2.2⟩ : S30) _ (K0.b HB.out) A2.out) rfl ?_; rintro e w5 ⟨b_20, rfl, ho, hb⟩; refine ⟨_, rfl, ?_⟩; replace X1 := X1.b hb; replace O18 := O18.b hb; have z5 := hb.size; replace HB := Bw.sw w hb; have O20 := ho; clear ho hb; simp only [Act.put, List.setIfInBounds_toArray, List.set_cons_zero, List.set_cons_succ])
    | ((with_reducible refine gate_dst (N := 5) rfl ?_); have hc := cel30 O20.rd; refine alst (bs := b_20) (cs := zs30) 5 rfl rfl rfl rfl rfl rfl (fun _ => rfl) (fun _ => rfl) hc.hz hc.hl hc.h1 ?_; intro p5 w6 hx hb hle hlt; replace X1 := X1.b hb; replace O18 := O18.b hb; replace O20 := O20.b hb; have z6 := hb.size; replace HB := Bw.sw w hb; have X5 := hx; clear hx hb hc; have y5a := hle; have y5b := hlt; clear hle hlt; simp only [Act.put, List.setIfInBounds_toArray, List.set_cons_zero, List.set_cons_succ])
    | ((with_reducible refine gate_dst (N := 21) rfl ?_); refine ldb (some 21) rfl rfl rfl rfl X5 (cel30 O20.rd).st ?_; simp only [Act.put, List.setIfInBounds_toArray, List.set_cons_zero, List.set_cons_succ])
    | ((with_reducible refine gate_dst (N := 22) rfl ?_); refine gg (some 22) rfl rfl rfl fr23 ?_; refine onc (impl_Leaves.kc k (⟨t2.1, t2.2.1, t2.2.2.1, t2.2.2.2.1, t2.2.2.2.2⟩ : S30) b_20 t4 _ O20.rd A4.out) rfl ?_; rintro e w7 ⟨v_22, rfl, ho, hb⟩; refine ⟨_, rfl, ?_⟩; replace X1 := X1.b hb; replace O18 := O18.b hb; replace O20 := O20.b hb; replace X5 := X5.b hb; have z7 := hb.size; replace HB := Bw.sw w hb; have O22 := ho; clear ho hb; simp only [Act.put, List.setIfInBounds_toArray, List.set_cons_zero, List.set_cons_succ])
    | ((with_reducible refine gate_dst (N := 25) rfl ?_); refine gg (some 25) rfl rfl rfl fr24 ?_; refine onc (laws_eqStepSS.kc k t4 v_22 t3 v_18 true _ (rdX O22.rd) O18.rd A5.out) rfl ?_; rintro e w8 ⟨rfl, hb⟩; refine ⟨_, rfl, ?_⟩; replace X1 := X1.b hb; replace O18 := O18.b hb; replace O20 := O20.b hb; replace X5 := X5.b hb; replace O22 := O22.b hb; have z8 := hb.size; replace HB := Bw.sw w hb; clear hb; simp only [Act.put, List.setIfInBounds_toArray, List.set_cons_zero, List.set_cons_succ]))
  have hb : Below w8.heap.size w8 w8.drew := below_drew1 (Below.refl _ _)
  refine start_ (n := 5) (S := fun w' => Bx w' p5 30 b_20 ∧ Bx w' p1 26 b0) (ds := []) #[false, false, false, false, false] (by kernel_rfl) rfl rfl ⟨X5.b hb, X1.b hb⟩ (fun hH => ?_)
  generalize w8.drew = w9 at hb hH ⊢; replace X1 := X1.b hb; replace O18 := O18.b hb; replace O20 := O20.b hb; replace X5 := X5.b hb; replace O22 := O22.b hb; have z9 := hb.size; replace HB := Bw.sw w hb; clear hb
  refine take_ (i := 0) (N := some 27) (v := .agg b_20) (a' := ?_) #[true, false, false, false, false] rfl rfl (by kernel_rfl) (fun _ _ _ h => h) (Or.inl ⟨by rfl, ?hy9_27⟩) hH ?ha9_27 ?_
  case hy9_27 => (rintro w' ⟨s0, s1⟩; exact ld_op rfl rfl s0 (cel30 O20.rd).st)
  case ha9_27 => (simp only [Act.put, List.setIfInBounds_toArray, List.set_cons_zero, List.set_cons_succ, i64_w, i32_w]; rfl)
  refine take_ (i := 1) (N := some 28) (v := .agg b0) (a' := ?_) #[true, true, false, false, false] rfl rfl (by kernel_rfl) (fun _ _ _ h => h) (Or.inl ⟨by rfl, ?hy9_28⟩) hH ?ha9_28 ?_
  case hy9_28 => (rintro w' ⟨s0, s1⟩; exact ld_op rfl rfl s1 (cel26 (K0.b HB.out)).st)
  case ha9_28 => (simp only [Act.put, List.setIfInBounds_toArray, List.set_cons_zero, List.set_cons_succ, i64_w, i32_w]; rfl)
  refine one_ (i := 2) (N := some 29) #[true, true, true, false, false] rfl rfl (by kernel_rfl) (by decide) (fun K hK => ?_)
  refine goes_ Try.func14 (by kernel_rfl) rfl #[.agg b0] (by rfl) rfl rfl (by (try simp only [List.map_toArray, List.map_cons, List.map_nil]); first | done | rfl) ?_
  refine (laws_toValue.kc k x0 b0 (⟨t2.1, t2.2.1, t2.2.2.1, t2.2.2.2.1, t2.2.2.2.2⟩ : S30) _ (K0.b HB.out) A2.out).mono ?_
  rintro e w10 ⟨b_29, rfl, ho, hb⟩
  refine ⟨_, rfl, ?_⟩
  replace X1 := X1.b hb; replace O18 := O18.b hb; replace O20 := O20.b hb; replace X5 := X5.b hb; replace O22 := O22.b hb; have z10 := hb.size; replace HB := Bw.sw w hb
  have O29 := ho
  refine hK.out _ _ ⟨X5, X1⟩ (fun hH => ?_)
  clear hK K hb ho
  refine norm_ (a' := ?_) ?_ ?_
  rotate_left
  ·show Act.put _ (some 29) _ = _
   simp only [Act.put, List.setIfInBounds_toArray, List.set_cons_zero, List.set_cons_succ, i64_w, i32_w]
   rfl
  refine one_ (i := 3) (N := some 30) #[true, true, true, true, false] rfl rfl (by kernel_rfl) (by decide) (fun K hK => ?_)
  refine goes_ Try.func17 (by kernel_rfl) rfl #[.agg b_20, .agg b_29] (by rfl) rfl rfl (by (try simp only [List.map_toArray, List.map_cons, List.map_nil]); first | done | rfl) ?_
  refine (laws_eqValue.kc k (⟨t2.1, t2.2.1, t2.2.2.1, t2.2.2.2.1, t2.2.2.2.2⟩ : S30) b_20 (⟨t2.1, t2.2.1, t2.2.2.1, t2.2.2.2.1, t2.2.2.2.2⟩ : S30) b_29 true _ O20.rd O29.rd A6.out).mono ?_
  rintro e w11 ⟨rfl, hb⟩
  refine ⟨_, rfl, ?_⟩
  replace X1 := X1.b hb; replace O18 := O18.b hb; replace O20 := O20.b hb; replace X5 := X5.b hb; replace O22 := O22.b hb; replace O29 := O29.b hb; have z11 := hb.size; replace HB := Bw.sw w hb
  refine hK.out _ _ ⟨X5, X1⟩ (fun hH => ?_)
  clear hK K hb
  refine norm_ (a' := ?_) ?_ ?_
  rotate_left
  ·show Act.put _ (some 30) _ = _
   simp only [Act.put, List.setIfInBounds_toArray, List.set_cons_zero, List.set_cons_succ, i64_w, i32_w]
   rfl
  refine pure_ (i := 4) (N := some 31) (v := ?_) (a' := ?_) #[true, true, true, true, true] rfl rfl (by kernel_rfl) (fun _ _ _ h => h) (Or.inl ⟨by rfl, ?_⟩) ?_ ?_
  rotate_left
  ·intro w'
   go_simp
   with_reducible rfl
  rotate_left
  ·simp only [Act.put, List.setIfInBounds_toArray, List.set_cons_zero, List.set_cons_succ, i64_w, i32_w]
   rfl
  refine done_ (by kernel_rfl) ?_
  go_wp2_with (first
    | ((with_reducible refine gate_dst (N := 32) rfl ?_); refine ldb (some 32) rfl rfl rfl rfl X5 (cel30 O20.rd).st ?_; simp only [Act.put, List.setIfInBounds_toArray, List.set_cons_zero, List.set_cons_succ])
    | ((with_reducible refine gate_dst (N := 34) rfl ?_); refine gg (some 34) rfl rfl rfl fr19 ?_; refine onc (laws_markValue.kc (⟨t2.1, t2.2.1, t2.2.2.1, t2.2.2.2.1, t2.2.2.2.2⟩ : S30) b_20 1 _ (by omega) G7.out (by omega) O20) rfl ?_; rintro e w12 ⟨kk34, rfl, hkk, hkl, ho⟩; refine ⟨_, rfl, ?_⟩; replace X1 := X1.mv ho (by omega); replace O18 := O18.mv ho (by omega); replace O22 := O22.mv ho (by omega); have z12 := ho.size; replace HB := Bw.mk (w := w) (ho.below HB.out (by omega)); have qk34 : decide (kk34 < 0) = false := decide_eq_false (by omega); clear ho; simp only [Act.put, List.setIfInBounds_toArray, List.set_cons_zero, List.set_cons_succ])
    | ((with_reducible refine gate_dst (N := 40) rfl ?_); refine ggw (some 40) rfl (by rfl) rfl fr24 ?_; refine onc (laws_eqStepSS.kc k t4 v_22 t3 v_18 true _ (rdX O22.rd) O18.rd A5.out) rfl ?_; rintro e w13 ⟨rfl, hb⟩; refine ⟨_, rfl, ?_⟩; replace X1 := X1.b hb; replace O18 := O18.b hb; replace O22 := O22.b hb; have z13 := hb.size; replace HB := Bw.sw w hb; clear hb; simp only [Act.put, List.setIfInBounds_toArray, List.set_cons_zero, List.set_cons_succ])
    | ((with_reducible refine gate_dst (N := 45) rfl ?_); refine gg (some 45) rfl rfl rfl fr25 ?_; refine onc (laws_markStepSS.kce t4 v_22 1 t10 _ (by omega) G8.out (by omega) A9.out O22) rfl ?_; rintro e w14 ⟨rfl, hn, ho⟩; refine ⟨_, rfl, ?_⟩; replace X1 := X1.mv ho (by omega); replace O18 := O18.mv ho (by omega); have z14 := ho.size; replace HB := Bw.mk (w := w) (ho.below HB.out (by omega)); replace O22 := hn; clear hn; clear ho; simp only [Act.put, List.setIfInBounds_toArray, List.set_cons_zero, List.set_cons_succ])
    | ((with_reducible refine gate_dst (N := 48) rfl ?_); refine gg (some 48) rfl rfl rfl fr26 ?_; refine onc (laws_heldStepSS.kc k (mstss 1 t4) v_22 1 t10 _ (rdX O22.rd) A10.out) rfl ?_; rintro e w15 ⟨rfl, hb⟩; refine ⟨_, rfl, ?_⟩; replace X1 := X1.b hb; replace O18 := O18.b hb; replace O22 := O22.b hb; have z15 := hb.size; replace HB := Bw.sw w hb; clear hb; simp only [Act.put, List.setIfInBounds_toArray, List.set_cons_zero, List.set_cons_succ])
    | ((with_reducible refine gate_dst (N := 54) rfl ?_); refine ldb (some 54) rfl rfl rfl rfl X1 (cel26 (K0.b HB.out)).st ?_; simp only [Act.put, List.setIfInBounds_toArray, List.set_cons_zero, List.set_cons_succ])
    | ((with_reducible refine gate_dst (N := 55) rfl ?_); refine gg (some 55) rfl rfl rfl fr14 ?_; refine onc (laws_toValue.kc k x0 b0 (⟨t2.1, t2.2.1, t2.2.2.1, t2.2.2.2.1, t2.2.2.2.2⟩ : S30) _ (K0.b HB.out) A2.out) rfl ?_; rintro e w16 ⟨b_55, rfl, ho, hb⟩; refine ⟨_, rfl, ?_⟩; replace O18 := O18.b hb; replace O22 := O22.b hb; have z16 := hb.size; replace HB := Bw.sw w hb; have O55 := ho; clear ho hb; simp only [Act.put, List.setIfInBounds_toArray, List.set_cons_zero, List.set_cons_succ])
    | ((with_reducible refine gate_dst (N := 56) rfl ?_); refine gg (some 56) rfl rfl rfl fr23 ?_; refine onc (impl_Leaves.kc k (⟨t2.1, t2.2.1, t2.2.2.1, t2.2.2.2.1, t2.2.2.2.2⟩ : S30) b_55 t4 _ O55.rd A4.out) rfl ?_; rintro e w17 ⟨v_56, rfl, ho, hb⟩; refine ⟨_, rfl, ?_⟩; replace O18 := O18.b hb; replace O22 := O22.b hb; have z17 := hb.size; replace HB := Bw.sw w hb; have O56 := ho; clear ho hb; simp only [Act.put, List.setIfInBounds_toArray, List.set_cons_zero, List.set_cons_succ])
    | ((with_reducible refine gate_dst (N := 59) rfl ?_); refine gg (some 59) rfl rfl rfl fr24 ?_; refine onc (laws_eqStepSS.kc k t4 v_56 t3 v_18 true _ (rdX O56.rd) O18.rd A5.out) rfl ?_; rintro e w18 ⟨rfl, hb⟩; refine ⟨_, rfl, ?_⟩; replace O22 := O22.b hb; have z18 := hb.size; replace HB := Bw.sw w hb; clear hb; simp only [Act.put, List.setIfInBounds_toArray, List.set_cons_zero, List.set_cons_succ])
    | ((with_reducible refine gate_dst (N := 63) rfl ?_); refine gg (some 63) rfl rfl rfl fr26 ?_; refine onc (laws_heldStepSS.kc k (mstss 1 t4) v_22 1 t10 _ (rdX O22.rd) A10.out) rfl ?_; rintro e w19 ⟨rfl, hb⟩; refine ⟨_, rfl, ?_⟩; have z19 := hb.size; replace HB := Bw.sw w hb; clear hb; simp only [Act.put, List.setIfInBounds_toArray, List.set_cons_zero, List.set_cons_succ]))
  go_ret
  exact ⟨by first | rfl | simp, HB.out⟩
end Go.Proofs.Ytenpjddjmhjdoaa.PFnExactLeaves
