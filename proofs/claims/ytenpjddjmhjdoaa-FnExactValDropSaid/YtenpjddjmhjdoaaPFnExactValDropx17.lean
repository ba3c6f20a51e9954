/- The law, walked: by contracts over whole values. No condition. -/
import Derived.Test.YtenpjddjmhjdoaaPFnExactValDropx0
import Derived.Test.YtenpjddjmhjdoaaPFnExactValDropx1
import Derived.Test.YtenpjddjmhjdoaaPFnExactValDropx2
import Derived.Test.YtenpjddjmhjdoaaPFnExactValDropx3
import Derived.Test.YtenpjddjmhjdoaaPFnExactValDropx4
import Derived.Test.YtenpjddjmhjdoaaPFnExactValDropx14
import Derived.Test.YtenpjddjmhjdoaaPFnExactValDropx16
import Derived.Test.YtenpjddjmhjdoaaMlaw
import Derived.Test.YtenpjddjmhjdoaaMmark
import Derived.Test.YtenpjddjmhjdoaaMownB
namespace Go.Proofs.Ytenpjddjmhjdoaa.PFnExactValDrop
open Go.RowKit Go.Proofs.YtenpjddjmhjdoaaW.PrintWords Go.Proofs.YtenpjddjmhjdoaaW.PrintLast Go.Proofs.YtenpjddjmhjdoaaW.PrintMore Go.Proofs.Ytenpjddjmhjdoaa.M
attribute [local go_sem] max2_int min2_int max_two min_two max_three min_three max_four min_four Go.Proofs.Ytenpjddjmhjdoaa.M.str_gtr Go.Proofs.Ytenpjddjmhjdoaa.M.str_leq Go.Proofs.Ytenpjddjmhjdoaa.M.str_geq   -- for this text's walks alone
set_option linter.unusedVariables false
set_option linter.unusedSimpArgs false
def zs26 : Array Value := #[.int .i64 0, .int .i64 0, .slice none 0 0, .slice none 0 0, .slice none 0 0]
theorem cel26 {w : World} {x : S26} {b : Array Value} (h : Rd k26 w x b.toList) : Cel Try.prog 26 zs26 b := by
  have h1 := k26_open h.k; obtain ⟨A2, c2, A3, c3, A4, c4, e, _⟩ := h1
  obtain rfl : b = #[.int .i64 x.f0, .int .i64 x.f1, .slice A2 x.f2.length c2, .slice A3 x.f3.length c3, .slice A4 x.f4.length c4] := by rw [← b.toArray_toList, e]
  exact ⟨⟨⟨_, Try.underlying26⟩, by kernel_rfl⟩, by kernel_rfl, rfl, by rw [← Array.all_toList]; exact List.all_eq_true.2 (k26.K_one h.k)⟩
theorem laws_szValue.kc (k : Nat) (x0 : S26) (b0 : Array Value) (a1 : Int) (r : Int) (w : World) (h0 : Rd k26 w x0 b0.toList) (h : laws_szValue.f k x0.f0 x0.f1 x0.f2 x0.f3 x0.f4 a1 = some r) :
  Calls Try.prog 12 #[.agg b0, .int .i64 a1] w fun e w' => e = .returned (.int .i64 r) ∧ Below w.heap.size w w' := by
  obtain ⟨A2_0, c2_0, A3_0, c3_0, A4_0, c4_0, e0, l2_0, g2_0, l3_0, g3_0, l4_0, g4_0⟩ := k26_open h0.k
  obtain rfl : b0 = #[.int .i64 x0.f0, .int .i64 x0.f1, .slice A2_0 x0.f2.length c2_0, .slice A3_0 x0.f3.length c3_0, .slice A4_0 x0.f4.length c4_0] := by rw [← b0.toArray_toList, e0]
  refine (laws_szValue.calls k x0.f0 x0.f1 _ _ x0.f2 _ _ x0.f3 _ _ x0.f4 a1 r w g2_0 l2_0 g3_0 l3_0 g4_0 l4_0 h).mono ?_
  rintro e w' ⟨rfl, hb⟩
  exact ⟨rfl, hb⟩
def zs30 : Array Value := #[.int .i64 0, .int .i64 0, .slice none 0 0, .slice none 0 0, .slice none 0 0]
theorem cel30 {w : World} {x : S30} {b : Array Value} (h : Rd k30 w x b.toList) : Cel Try.prog 30 zs30 b := by
  have h1 := k30_open h.k; obtain ⟨A2, c2, A3, c3, A4, c4, e, _⟩ := h1
  obtain rfl : b = #[.int .i64 x.f0, .int .i64 x.f1, .slice A2 x.f2.length c2, .slice A3 x.f3.length c3, .slice A4 x.f4.length c4] := by rw [← b.toArray_toList, e]
  exact ⟨⟨⟨_, Try.underlying30⟩, by kernel_rfl⟩, by kernel_rfl, rfl, by rw [← Array.all_toList]; exact List.all_eq_true.2 (k30.K_one h.k)⟩
theorem laws_toValue.kc (k : Nat) (x0 : S26) (b0 : Array Value) (y : S30) (w : World) (h0 : Rd k26 w x0 b0.toList) (h : laws_toValue.f k x0.f0 x0.f1 x0.f2 x0.f3 x0.f4 = some (y.f0, y.f1, y.f2, y.f3, y.f4)) :
  Calls Try.prog 14 #[.agg b0] w fun e w' => ∃ b : Array Value, e = .returned (.agg b) ∧ Own k30 w' w.heap.size w'.heap.size y b.toList ∧ Below w.heap.size w w' := by
  obtain ⟨A2_0, c2_0, A3_0, c3_0, A4_0, c4_0, e0, l2_0, g2_0, l3_0, g3_0, l4_0, g4_0⟩ := k26_open h0.k
  obtain rfl : b0 = #[.int .i64 x0.f0, .int .i64 x0.f1, .slice A2_0 x0.f2.length c2_0, .slice A3_0 x0.f3.length c3_0, .slice A4_0 x0.f4.length c4_0] := by rw [← b0.toArray_toList, e0]
  refine (laws_toValue.calls k x0.f0 x0.f1 _ _ x0.f2 _ _ x0.f3 _ _ x0.f4 y.f0 y.f1 y.f2 y.f3 y.f4 w g2_0 l2_0 g3_0 l3_0 g4_0 l4_0 h).mono ?_
  rintro e w' ⟨v0_, v1_, v2_, rfl, g0, g1, g2, hb⟩
  exact ⟨_, rfl, Own.of (k30_mkM w' w.heap.size (fun _ => True) y (Kd.R_mono (g0) (fun _ _ => trivial)) (Kd.R_mono (Kd.S_R g1) (fun _ _ => trivial)) (Kd.R_mono (g2) (fun _ _ => trivial))) hb.size, hb⟩
theorem laws_toByteS.kc (k : Nat) (l0 : List Int) (v0 : Value) (r : List Int) (w : World) (h0 : Rd (Kd.slice 5 (Kd.int .u8)) w l0 [v0]) (h : laws_toByteS.f k l0 = some r) :
  Calls Try.prog 15 #[v0] w fun e w' => ∃ v : Value, e = .returned v ∧ Own (Kd.slice 5 (Kd.int .u8)) w' w.heap.size w'.heap.size r [v] ∧ Below w.heap.size w w' := by
  obtain ⟨A0, c0, e0, lc0, g0⟩ := h0.k
  injection e0 with e0
  subst e0; refine (laws_toByteS.calls k _ _ l0 r w g0 lc0 h).mono ?_
  rintro e w' ⟨v, rfl, g, hb⟩
  exact ⟨_, rfl, Own.of ⟨_, rfl, g⟩ (Below.size (hb)), hb⟩
theorem laws_eqValue.kc (k : Nat) (x0 : S30) (b0 : Array Value) (x1 : S30) (b1 : Array Value) (r : Bool) (w : World) (h0 : Rd k30 w x0 b0.toList) (h1 : Rd k30 w x1 b1.toList) (h : laws_eqValue.f k x0.f0 x0.f1 x0.f2 x0.f3 x0.f4 x1.f0 x1.f1 x1.f2 x1.f3 x1.f4 = some r) :
  Calls Try.prog 17 #[.agg b0, .agg b1] w fun e w' => e = .returned (.bool r) ∧ Below w.heap.size w w' := by
  obtain ⟨A2_0, c2_0, A3_0, c3_0, A4_0, c4_0, e0, l2_0, g2_0, l3_0, g3_0, l4_0, g4_0⟩ := k30_open h0.k
  obtain rfl : b0 = #[.int .i64 x0.f0, .int .i64 x0.f1, .slice A2_0 x0.f2.length c2_0, .slice A3_0 x0.f3.length c3_0, .slice A4_0 x0.f4.length c4_0] := by rw [← b0.toArray_toList, e0]
  obtain ⟨A2_1, c2_1, A3_1, c3_1, A4_1, c4_1, e1, l2_1, g2_1, l3_1, g3_1, l4_1, g4_1⟩ := k30_open h1.k
  obtain rfl : b1 = #[.int .i64 x1.f0, .int .i64 x1.f1, .slice A2_1 x1.f2.length c2_1, .slice A3_1 x1.f3.length c3_1, .slice A4_1 x1.f4.length c4_1] := by rw [← b1.toArray_toList, e1]
  refine (laws_eqValue.calls k x0.f0 x0.f1 _ _ x0.f2 _ _ x0.f3 _ _ x0.f4 x1.f0 x1.f1 _ _ x1.f2 _ _ x1.f3 _ _ x1.f4 r w g2_0 l2_0 g3_0 l3_0 g4_0 l4_0 g2_1 l2_1 g3_1 l3_1 g4_1 l4_1 h).mono ?_
  rintro e w' ⟨rfl, hb⟩
  exact ⟨rfl, hb⟩
theorem laws_eqByteS.kc (k : Nat) (l0 : List Int) (v0 : Value) (l1 : List Int) (v1 : Value) (r : Bool) (w : World) (h0 : Rd (Kd.slice 5 (Kd.int .u8)) w l0 [v0]) (h1 : Rd (Kd.slice 5 (Kd.int .u8)) w l1 [v1]) (h : laws_eqByteS.f k l0 l1 = some r) :
  Calls Try.prog 18 #[v0, v1] w fun e w' => e = .returned (.bool r) ∧ Below w.heap.size w w' := by
  obtain ⟨A0, c0, e0, lc0, g0⟩ := h0.k
  injection e0 with e0
  subst e0; obtain ⟨A1, c1, e1, lc1, g1⟩ := h1.k
  injection e1 with e1
  subst e1; refine (laws_eqByteS.calls k _ _ l0 _ _ l1 r w g0 lc0 g1 lc1 h).mono ?_
  rintro e w' ⟨rfl, ⟨nd, rfl⟩⟩
  exact ⟨rfl, pw_below_drewN (Below.refl _ _) nd⟩
mutual
def sh30 : S30 → Sh
  | ⟨_, _, s, k, l⟩ => .mk s.length (k.map List.length) (shs30 l)
def shs30 : List S30 → List Sh
  | [] => []
  | x :: l => sh30 x :: shs30 l
end
mutual
def m30 : S30 → Nat
  | ⟨_, _, s, k, l⟩ => s.length + (k.length + mL k + (l.length + ms30 l))
def ms30 : List S30 → Nat
  | [] => 0
  | x :: l => m30 x + ms30 l
end
mutual
theorem c30 : ∀ x : S30, cV (sh30 x) ≤ 2 * m30 x
  | ⟨_, _, s, k, l⟩ => by have := cs30 l; have := cBs_map k; simp only [sh30, m30, cV]; omega
theorem cs30 : ∀ l : List S30, cVs (shs30 l) ≤ 2 * (l.length + ms30 l)
  | [] => by simp [shs30, cVs]
  | x :: l => by have := c30 x; have := cs30 l; simp only [shs30, ms30, cVs, List.length_cons]; omega
end
theorem shs30_len : ∀ l : List S30, (shs30 l).length = l.length
  | [] => rfl
  | x :: l => by simp only [shs30, List.length_cons, shs30_len l]
theorem shs30_at : ∀ (l : List S30) (i : Nat) (x : S30), l[i]? = some x → (shs30 l).getD i (.mk 0 [] []) = sh30 x
  | [], i, x, h => by simp at h
  | y :: l, 0, x, h => by simp at h; subst h; rfl
  | y :: l, i + 1, x, h => by simpa [shs30] using shs30_at l i x (by simpa using h)
mutual
theorem ok30 : ∀ x : S30, m30 x ≤ 4611686018427387904 → okV (sh30 x)
  | ⟨_, _, s, k, l⟩, h => by
    simp only [m30] at h
    exact ⟨by rw [List.length_map]; omega, oks30 l (by omega)⟩
theorem oks30 : ∀ l : List S30, l.length + ms30 l ≤ 4611686018427387904 → okVs (shs30 l)
  | [], _ => trivial
  | x :: l, h => by
    simp only [ms30, List.length_cons] at h
    exact ⟨by rw [shs30_len]; omega, ok30 x (by omega), oks30 l (by omega)⟩
end
theorem shT30 {lo hi : Nat} {w : World} : ∀ (n : Nat) (x : S30) (base : Nat) (ok : Nat → Prop) (cs : List Value), SizeOf.sizeOf x ≤ n → (∀ k, ok k → lo ≤ k ∧ k < hi) → k30.M w base ok x cs → ShT 5 22 30 w lo hi n (sh30 x) cs
  | 0, ⟨_, _, s, k, l⟩, base, ok, cs, hs, _, _ => by simp at hs
  | n + 1, ⟨i, j, s, k, l⟩, base, ok, cs, hs, hok, h => by
    obtain ⟨v2, v3, v4, rfl, h2, h3, h4⟩ := k30_openM h; refine ⟨i, j, v2, v3, v4, rfl, ByT.of_R h2 hok, BsT.of_R h3 hok, ?_⟩
    simp only [sh30, Sh.l]
    rw [shs30_len]
    refine Row.of_R h4 hok _ fun q x c hx hm => ?_
    rw [shs30_at l q x hx]; have hm2 : x ∈ l := List.mem_of_getElem? hx; have := List.sizeOf_lt_of_mem hm2
    exact shT30 n x base ok c (by simp at hs; omega) hok hm
theorem laws_markValue.kc (x0 : S30) (b0 : Array Value) (k : Int) (w : World) {lo hi : Nat} (hk : 0 ≤ k) (hm : m30 x0 ≤ 1099511627776) (hk2 : k ≤ 17592186044416) (h0 : Own k30 w lo hi x0 b0.toList) :
    Calls Try.prog 19 #[.agg b0, .int .i64 k] w fun e w' => ∃ kk : Int, e = .returned (.int .i64 kk) ∧ 0 ≤ kk ∧ kk ≤ k + 2199023255552 ∧ M.Outside lo hi w w' := by
  have h1 := shT30 (SizeOf.sizeOf x0) x0 _ _ _ (Nat.le_refl _) (fun _ h => h) h0.m
  have h2 := c30 x0
  refine (markValue_out lo hi (SizeOf.sizeOf x0) (sh30 x0) b0 k w hk (by omega) (ok30 x0 (by omega)) h1 h0.le).mono ?_
  rintro e w' ⟨rfl, g⟩
  exact ⟨_, rfl, by omega, by omega, g⟩
theorem laws_markByteS.kcx (l0 : List Int) (v0 : Value) (k : Int) (w : World) {lo hi : Nat} (hk : 0 ≤ k) (hm : l0.length ≤ 1099511627776) (hk2 : k ≤ 17592186044416) (h0 : Own (Kd.slice 5 (Kd.int .u8)) w lo hi l0 [v0]) :
    Calls Try.prog 20 #[v0, .int .i64 k] w fun e w' => ∃ kk : Int, e = .returned (.int .i64 kk) ∧ 0 ≤ kk ∧ kk ≤ k + 2199023255552 ∧ M.Outside lo hi w w' := by
  obtain ⟨v, e, h1⟩ := h0.m
  injection e with e
  subst e
  refine (markByteS_own l0 v0 k w lo _ hk (by omega) h1).mono ?_
  rintro e w' ⟨rfl, g1, g2⟩
  exact ⟨_, rfl, by omega, by omega, g2.outside (fun _ h => h)⟩
theorem laws_heldValue.kc (k : Nat) (x0 : S30) (b0 : Array Value) (a1 : Int) (r : Int) (w : World) (h0 : Rd k30 w x0 b0.toList) (h : laws_heldValue.f k x0.f0 x0.f1 x0.f2 x0.f3 x0.f4 a1 = some r) :
  Calls Try.prog 21 #[.agg b0, .int .i64 a1] w fun e w' => e = .returned (.int .i64 r) ∧ Below w.heap.size w w' := by
  obtain ⟨A2_0, c2_0, A3_0, c3_0, A4_0, c4_0, e0, l2_0, g2_0, l3_0, g3_0, l4_0, g4_0⟩ := k30_open h0.k
  obtain rfl : b0 = #[.int .i64 x0.f0, .int .i64 x0.f1, .slice A2_0 x0.f2.length c2_0, .slice A3_0 x0.f3.length c3_0, .slice A4_0 x0.f4.length c4_0] := by rw [← b0.toArray_toList, e0]
  refine (laws_heldValue.calls k x0.f0 x0.f1 _ _ x0.f2 _ _ x0.f3 _ _ x0.f4 a1 r w g2_0 l2_0 g3_0 l3_0 g4_0 l4_0 h).mono ?_
  rintro e w' ⟨rfl, hb⟩
  exact ⟨rfl, hb⟩
theorem fr27 : Fr Try.prog 27 := ⟨_, Try.func27, by kernel_rfl, rfl⟩
theorem fr28 : Fr Try.prog 28 := ⟨_, Try.func28, by kernel_rfl, rfl⟩
theorem fr17 : Fr Try.prog 17 := ⟨_, Try.func17, by kernel_rfl, rfl⟩
theorem fr19 : Fr Try.prog 19 := ⟨_, Try.func19, by kernel_rfl, rfl⟩
theorem fr20 : Fr Try.prog 20 := ⟨_, Try.func20, by kernel_rfl, rfl⟩
theorem ldw {P : Program} {ops : Array Oper} {Q : Exit → Act → World → Prop} {rest : List Oper} {oi : Oper} {a : Act} {w : World} {bs : Array Value} {t p b : Nat} (N : Option Tmp) (hd : oi.dst = N) (hw : Region.wanted oi (yielded ops a.tmps) = true) (ho : oi.op = .load t (.tmp p)) (hx : a.eval (.tmp p) = .pointer (some ⟨b, 0, none⟩)) (h : Bx w b t bs) (hs : St P t bs.size)
    (k : wpList P ops Q rest (a.put N (.agg bs)) w) : wpList P ops Q (oi :: rest) a w := by
  subst hd
  refine wpList_step fun K hK => ?_
  rw [if_pos hw]; unfold Oper.wp; rw [ld_op ho hx h hs]; exact hK _ _ k

theorem fr21 : Fr Try.prog 21 := ⟨_, Try.func21, by kernel_rfl, rfl⟩
def laws_FnExactValDrop.f (k : Nat) (a0_0 : Int) (a0_1 : Int) (l0_2 : (List Int)) (l0_3 : (List (List Int))) (l0_4 : (List S26)) (l1 : List Int) : Option Bool := if (l1.length : Int) > 1048576 then some true else (laws_szValue.f k a0_0 a0_1 l0_2 l0_3 l0_4 1048576).bind fun t1 => if t1 < 0 then some true else (laws_toValue.f k a0_0 a0_1 l0_2 l0_3 l0_4).bind fun t2 => (laws_toByteS.f k l1).bind fun t3 => (spec_ValDrop.f k t2.1 t2.2.1 t2.2.2.1 t2.2.2.2.1 t2.2.2.2.2 t3).bind fun t4 => (impl_ValDrop.g k t2.1 t2.2.1 t2.2.2.1 t2.2.2.2.1 t2.2.2.2.2 t3).bind fun t5 => (laws_eqValue.f k t5.1.f0 t5.1.f1 t5.1.f2 t5.1.f3 t5.1.f4 t4.1 t4.2.1 t4.2.2.1 t4.2.2.2.1 t4.2.2.2.2.1).bind fun t6 => if t6 = true then if t5.2 = t4.2.2.2.2.2 then (laws_eqValue.f k t2.1 t2.2.1 t2.2.2.1 t2.2.2.2.1 t2.2.2.2.2 t2.1 t2.2.1 t2.2.2.1 t2.2.2.2.1 t2.2.2.2.2).bind fun t7 => if t7 = true then (laws_eqByteS.f k t3 t3).bind fun t8 => if t8 = true then if m30 (⟨t2.1, t2.2.1, t2.2.2.1, t2.2.2.2.1, t2.2.2.2.2⟩ : S30) ≤ 1099511627776 then if t3.length ≤ 1099511627776 then if dsV t5.1 ≤ 1099511627776 then (some (1 + (dnV t5.1 : Nat)) : Option Int).bind fun t12 => (laws_heldValue.f k ((dmkV 1 t5.1).f0) ((dmkV 1 t5.1).f1) ((dmkV 1 t5.1).f2) ((dmkV 1 t5.1).f3) ((dmkV 1 t5.1).f4) 1).bind fun t13 => if t13 < 0 then some false else if t13 = t12 then some true else some false else some false else some false else some false else some false else some false else some false else some false
set_option maxRecDepth 100000 in
set_option maxHeartbeats 8000000 in
theorem laws_FnExactValDrop.calls (k : Nat) (x0 : S26) (b0 : Array Value) (l1 : List Int) (v1 : Value) (w : World) (K0 : Rd k26 w x0 b0.toList) (K1 : Rd (Kd.slice 5 (Kd.int .u8)) w l1 [v1]) (h : laws_FnExactValDrop.f k x0.f0 x0.f1 x0.f2 x0.f3 x0.f4 l1 = some true) :
  Calls Try.prog 5 #[.agg b0, v1] w fun e w' => e = .returned (.bool true) ∧ Below w.heap.size w w' := by
  unfold laws_FnExactValDrop.f at h; obtain ⟨A_1, c_1, e, hc1, hr1⟩ := id K1.k
  injection e with e
  subst e; clear hc1 hr1; have HB := Bw.refl w
  by_cases c : (l1.length : Int) > 1048576
  ·have cb : decide ((l1.length : Int) > 1048576) = true := decide_eq_true c
   clear c h
   go_enter Try.func5, Try.ntmps5
   go_wp2_with (first
     | ((with_reducible refine gate_dst (N := 2) rfl ?_); refine bxb (bs := b0) 2 rfl rfl rfl rfl ?_; intro p2 w1 hx hb hle hlt; have z1 := hb.size; replace HB := Bw.sw w hb; have X2 := hx; clear hx hb; have y2a := hle; have y2b := hlt; clear hle hlt; simp only [Act.put, List.setIfInBounds_toArray, List.set_cons_zero, List.set_cons_succ]))
   go_ret
   exact ⟨by first | rfl | simp, HB.out⟩
  rw [if_neg c] at h; replace c : decide ((l1.length : Int) > 1048576) = false := decide_eq_false c; have q14 := c; clear c; have h9 := bnd h; clear h; obtain ⟨t1, A1, h⟩ := h9; replace A1 := Aside0.mk A1
  by_cases c : t1 < 0
  ·have cb : decide (t1 < 0) = true := decide_eq_true c
   clear c h
   go_enter Try.func5, Try.ntmps5
   go_wp2_with (first
     | ((with_reducible refine gate_dst (N := 2) rfl ?_); refine bxb (bs := b0) 2 rfl rfl rfl rfl ?_; intro p2 w1 hx hb hle hlt; have z1 := hb.size; replace HB := Bw.sw w hb; have X2 := hx; clear hx hb; have y2a := hle; have y2b := hlt; clear hle hlt; simp only [Act.put, List.setIfInBounds_toArray, List.set_cons_zero, List.set_cons_succ])
     | ((with_reducible refine gate_dst (N := 20) rfl ?_); refine ldb (some 20) rfl rfl rfl rfl X2 (cel26 (K0.b HB.out)).st ?_; simp only [Act.put, List.setIfInBounds_toArray, List.set_cons_zero, List.set_cons_succ])
     | ((with_reducible refine gate_dst (N := 22) rfl ?_); refine gg (some 22) rfl rfl rfl fr12 ?_; refine onc (laws_szValue.kc k x0 b0 1048576 t1 _ (K0.b HB.out) A1.out) rfl ?_; rintro e w2 ⟨rfl, hb⟩; refine ⟨_, rfl, ?_⟩; have z2 := hb.size; replace HB := Bw.sw w hb; clear hb; simp only [Act.put, List.setIfInBounds_toArray, List.set_cons_zero, List.set_cons_succ]))
   go_ret
   exact ⟨by first | rfl | simp, HB.out⟩
  rw [if_neg c] at h; replace c : decide (t1 < 0) = false := decide_eq_false c; have q15 := c; clear c; have h9 := bnd h; clear h; obtain ⟨t2, A2, h⟩ := h9; replace A2 := Aside0.mk A2; have h9 := bnd h; clear h; obtain ⟨t3, A3, h⟩ := h9; replace A3 := Aside0.mk A3; have h9 := bnd h; clear h; obtain ⟨t4, A4, h⟩ := h9; replace A4 := Aside0.mk A4; obtain ⟨t4_1, t4_2, t4_3, t4_4, t4_5, t4_6⟩ := t4
  try dsimp only at h
  have h9 := bnd h; clear h; obtain ⟨t5, A5, h⟩ := h9; replace A5 := Aside0.mk A5; obtain ⟨t5_1, t5_2⟩ := t5
  try dsimp only at h
  have h9 := bnd h; clear h; obtain ⟨t6, A6, h⟩ := h9; replace A6 := Aside0.mk A6; have h9 := yes h; clear h; obtain ⟨c, h⟩ := h9; subst c; have h9 := yes h; clear h; obtain ⟨c, h⟩ := h9; subst c; have h9 := bnd h; clear h; obtain ⟨t7, A7, h⟩ := h9; replace A7 := Aside0.mk A7; have h9 := yes h; clear h; obtain ⟨c, h⟩ := h9; subst c; have h9 := bnd h; clear h; obtain ⟨t8, A8, h⟩ := h9; replace A8 := Aside0.mk A8; have h9 := yes h; clear h; obtain ⟨c, h⟩ := h9; subst c; have h9 := yes h; clear h; obtain ⟨G9, h⟩ := h9; replace G9 := Aside0.mk G9; have h9 := yes h; clear h; obtain ⟨G10, h⟩ := h9; replace G10 := Aside0.mk G10
  have h9 := yes h; clear h; obtain ⟨G11, h⟩ := h9; replace G11 := Aside0.mk G11; have h9 := bnd h; clear h; obtain ⟨t12, A12, h⟩ := h9; replace A12 := Aside0.mk A12; have h9 := bnd h; clear h; obtain ⟨t13, A13, h⟩ := h9; replace A13 := Aside0.mk A13; have h9 := nope h; clear h; obtain ⟨c, h⟩ := h9; have q16 : decide (t13 < 0) = false := decide_eq_false c; clear c; have h9 := yes h; clear h; obtain ⟨c, h⟩ := h9; subst c; clear h
  go_enter Try.func5, Try.ntmps5
  go_wp2_with (first
    | ((with_reducible refine gate_dst (N := 2) rfl ?_); refine bxb (bs := b0) 2 rfl rfl rfl rfl ?_; intro p2 w1 hx hb hle hlt; have z1 := hb.size; replace HB := Bw.sw w hb; have X2 := hx; clear hx hb; have y2a := hle; have y2b := hlt; clear hle hlt; simp only [Act.put, List.setIfInBounds_toArray, List.set_cons_zero, List.set_cons_succ])
    | ((with_reducible refine gate_dst (N := 20) rfl ?_); refine ldb (some 20) rfl rfl rfl rfl X2 (cel26 (K0.b HB.out)).st ?_; simp only [Act.put, List.setIfInBounds_toArray, List.set_cons_zero, List.set_cons_succ])
    | ((with_reducible refine gate_dst (N := 22) rfl ?_); refine gg (some 22) rfl rfl rfl fr12 ?_; refine onc (laws_szValue.kc k x0 b0 1048576 t1 _ (K0.b HB.out) A1.out) rfl ?_; rintro e w2 ⟨rfl, hb⟩; refine ⟨_, rfl, ?_⟩; replace X2 := X2.b hb; have z2 := hb.size; replace HB := Bw.sw w hb; clear hb; simp only [Act.put, List.setIfInBounds_toArray, List.set_cons_zero, List.set_cons_succ])
    | ((with_reducible refine gate_dst (N := 26) rfl ?_); refine ldb (some 26) rfl rfl rfl rfl X2 (cel26 (K0.b HB.out)).st ?_; simp only [Act.put, List.setIfInBounds_toArray, List.set_cons_zero, List.set_cons_succ])
    | ((with_reducible refine gate_dst (N := 27) rfl ?_); refine gg (some 27) rfl rfl rfl fr14 ?_; refine onc (laws_toValue.kc k x0 b0 (⟨t2.1, t2.2.1, t2.2.2.1, t2.2.2.2.1, t2.2.2.2.2⟩ : S30) _ (K0.b HB.out) A2.out) rfl ?_; rintro e w3 ⟨b_27, rfl, ho, hb⟩; refine ⟨_, rfl, ?_⟩; replace X2 := X2.b hb; have z3 := hb.size; replace HB := Bw.sw w hb; have O27 := ho; clear ho hb; simp only [Act.put, List.setIfInBounds_toArray, List.set_cons_zero, List.set_cons_succ])
    | ((with_reducible refine gate_dst (N := 29) rfl ?_); refine gg (some 29) rfl rfl rfl fr15 ?_; refine onc (laws_toByteS.kc k l1 (.slice A_1 l1.length c_1) t3 _ (K1.b HB.out) A3.out) rfl ?_; rintro e w4 ⟨v_29, rfl, ho, hb⟩; refine ⟨_, rfl, ?_⟩; replace X2 := X2.b hb; replace O27 := O27.b hb; have z4 := hb.size; replace HB := Bw.sw w hb; have O29 := ho; clear ho hb; simp only [Act.put, List.setIfInBounds_toArray, List.set_cons_zero, List.set_cons_succ])
    | ((with_reducible refine gate_dst (N := 30) rfl ?_); refine gg (some 30) rfl rfl rfl fr27 ?_; refine onc (spec_ValDrop.kc k (⟨t2.1, t2.2.1, t2.2.2.1, t2.2.2.2.1, t2.2.2.2.2⟩ : S30) b_27 t3 v_29 (⟨t4_1, t4_2, t4_3, t4_4, t4_5⟩ : S30) t5_2 _ O27.rd O29.rd A4.out) rfl ?_; rintro e w5 ⟨b_30, rfl, ho, hb⟩; refine ⟨_, rfl, ?_⟩; replace X2 := X2.b hb; have z5 := hb.size; replace HB := Bw.sw w hb; have O30 := ho; clear ho hb; simp only [Act.put, List.setIfInBounds_toArray, List.set_cons_zero, List.set_cons_succ])
    | ((with_reducible refine gate_dst (N := 6) rfl ?_); have hc := cel30 O30.rd; refine alst (bs := b_30) (cs := zs30) 6 rfl rfl rfl rfl rfl rfl (fun _ => rfl) (fun _ => rfl) hc.hz hc.hl hc.h1 ?_; intro p6 w6 hx hb hle hlt; replace X2 := X2.b hb; replace O30 := O30.b hb; have z6 := hb.size; replace HB := Bw.sw w hb; have X6 := hx; clear hx hb hc; have y6a := hle; have y6b := hlt; clear hle hlt; simp only [Act.put, List.setIfInBounds_toArray, List.set_cons_zero, List.set_cons_succ])
    | ((with_reducible refine gate_dst (N := 33) rfl ?_); refine ldb (some 33) rfl rfl rfl rfl X2 (cel26 (K0.b HB.out)).st ?_; simp only [Act.put, List.setIfInBounds_toArray, List.set_cons_zero, List.set_cons_succ])
    | ((with_reducible refine gate_dst (N := 34) rfl ?_); refine gg (some 34) rfl rfl rfl fr14 ?_; refine onc (laws_toValue.kc k x0 b0 (⟨t2.1, t2.2.1, t2.2.2.1, t2.2.2.2.1, t2.2.2.2.2⟩ : S30) _ (K0.b HB.out) A2.out) rfl ?_; rintro e w7 ⟨b_34, rfl, ho, hb⟩; refine ⟨_, rfl, ?_⟩; replace X2 := X2.b hb; replace O30 := O30.b hb; replace X6 := X6.b hb; have z7 := hb.size; replace HB := Bw.sw w hb; have O34 := ho; clear ho hb; simp only [Act.put, List.setIfInBounds_toArray, List.set_cons_zero, List.set_cons_succ])
    | ((with_reducible refine gate_dst (N := 8) rfl ?_); have hc := cel30 O34.rd; refine alst (bs := b_34) (cs := zs30) 8 rfl rfl rfl rfl rfl rfl (fun _ => rfl) (fun _ => rfl) hc.hz hc.hl hc.h1 ?_; intro p8 w8 hx hb hle hlt; replace X2 := X2.b hb; replace O30 := O30.b hb; replace X6 := X6.b hb; replace O34 := O34.b hb; have z8 := hb.size; replace HB := Bw.sw w hb; have X8 := hx; clear hx hb hc; have y8a := hle; have y8b := hlt; clear hle hlt; simp only [Act.put, List.setIfInBounds_toArray, List.set_cons_zero, List.set_cons_succ])
    | ((with_reducible refine gate_dst (N := 36) rfl ?_); refine gg (some 36) rfl rfl rfl fr15 ?_; refine onc (laws_toByteS.kc k l1 (.slice A_1 l1.length c_1) t3 _ (K1.b HB.out) A3.out) rfl ?_; rintro e w9 ⟨v_36, rfl, ho, hb⟩; refine ⟨_, rfl, ?_⟩; replace X2 := X2.b hb; replace O30 := O30.b hb; replace X6 := X6.b hb; replace O34 := O34.b hb; replace X8 := X8.b hb; have z9 := hb.size; replace HB := Bw.sw w hb; have O36 := ho; clear ho hb; simp only [Act.put, List.setIfInBounds_toArray, List.set_cons_zero, List.set_cons_succ])
    | ((with_reducible refine gate_dst (N := 38) rfl ?_); refine ldb (some 38) rfl rfl rfl rfl X8 (cel30 O34.rd).st ?_; simp only [Act.put, List.setIfInBounds_toArray, List.set_cons_zero, List.set_cons_succ])
    | ((with_reducible refine gate_dst (N := 40) rfl ?_); refine gg (some 40) rfl rfl rfl fr28 ?_; refine onc (impl_ValDrop.kc k (⟨t2.1, t2.2.1, t2.2.2.1, t2.2.2.2.1, t2.2.2.2.2⟩ : S30) b_34 t3 v_36 t5_1 t5_2 _ O34.rd O36.rd A5.out) rfl ?_; rintro e w10 ⟨b_40, rfl, ho, hb⟩; refine ⟨_, rfl, ?_⟩; replace X2 := X2.b hb; replace O30 := O30.b hb; replace X6 := X6.b hb; replace O34 := O34.b hb; replace X8 := X8.b hb; replace O36 := O36.b hb; have z10 := hb.size; replace HB := Bw.sw w hb; have O40 := ho; clear ho hb; simp only [Act.put, List.setIfInBounds_toArray, List.set_cons_zero, List.set_cons_succ])
    | ((with_reducible refine gate_dst (N := 10) rfl ?_); have hc := cel30 (rdD O40.rd); refine alst (bs := b_40) (cs := zs30) 10 rfl rfl rfl rfl rfl rfl (fun _ => rfl) (fun _ => rfl) hc.hz hc.hl hc.h1 ?_; intro p10 w11 hx hb hle hlt; replace X2 := X2.b hb; replace O30 := O30.b hb; replace X6 := X6.b hb; replace O34 := O34.b hb; replace X8 := X8.b hb; replace O36 := O36.b hb; replace O40 := O40.b hb; have z11 := hb.size; replace HB := Bw.sw w hb; have X10 := hx; clear hx hb hc; have y10a := hle; have y10b := hlt; clear hle hlt; simp only [Act.put, List.setIfInBounds_toArray, List.set_cons_zero, List.set_cons_succ])
    | ((with_reducible refine gate_dst (N := 43) rfl ?_); refine ldb (some 43) rfl rfl rfl rfl X10 (cel30 (rdD O40.rd)).st ?_; simp only [Act.put, List.setIfInBounds_toArray, List.set_cons_zero, List.set_cons_succ])
    | ((with_reducible refine gate_dst (N := 44) rfl ?_); refine ldb (some 44) rfl rfl rfl rfl X6 (cel30 O30.rd).st ?_; simp only [Act.put, List.setIfInBounds_toArray, List.set_cons_zero, List.set_cons_succ])
    | ((with_reducible refine gate_dst (N := 45) rfl ?_); refine gg (some 45) rfl rfl rfl fr17 ?_; refine onc (laws_eqValue.kc k t5_1 b_40 (⟨t4_1, t4_2, t4_3, t4_4, t4_5⟩ : S30) b_30 true _ (rdD O40.rd) O30.rd A6.out) rfl ?_; rintro e w12 ⟨rfl, hb⟩; refine ⟨_, rfl, ?_⟩; replace X2 := X2.b hb; replace O30 := O30.b hb; replace X6 := X6.b hb; replace O34 := O34.b hb; replace X8 := X8.b hb; replace O36 := O36.b hb; replace O40 := O40.b hb; replace X10 := X10.b hb; have z12 := hb.size; replace HB := Bw.sw w hb; clear hb; simp only [Act.put, List.setIfInBounds_toArray, List.set_cons_zero, List.set_cons_succ]))
  have hb : Below w12.heap.size w12 w12.drew := below_drew1 (Below.refl _ _)
  refine start_ (n := 5) (S := fun w' => Bx w' p8 30 b_34 ∧ Bx w' p2 26 b0) (ds := []) #[false, false, false, false, false] (by kernel_rfl) rfl rfl ⟨X8.b hb, X2.b hb⟩ (fun hH => ?_)
  generalize w12.drew = w13 at hb hH ⊢; replace X2 := X2.b hb; replace O30 := O30.b hb; replace X6 := X6.b hb; replace O34 := O34.b hb; replace X8 := X8.b hb; replace O36 := O36.b hb; replace O40 := O40.b hb; replace X10 := X10.b hb; have z13 := hb.size; replace HB := Bw.sw w hb; clear hb
  refine take_ (i := 0) (N := some 52) (v := .agg b_34) (a' := ?_) #[true, false, false, false, false] rfl rfl (by kernel_rfl) (fun _ _ _ h => h) (Or.inl ⟨by rfl, ?hy13_52⟩) hH ?ha13_52 ?_
  case hy13_52 => (rintro w' ⟨s0, s1⟩; exact ld_op rfl rfl s0 (cel30 O34.rd).st)
  case ha13_52 => (simp only [Act.put, List.setIfInBounds_toArray, List.set_cons_zero, List.set_cons_succ, i64_w, i32_w]; rfl)
  refine take_ (i := 1) (N := some 53) (v := .agg b0) (a' := ?_) #[true, true, false, false, false] rfl rfl (by kernel_rfl) (fun _ _ _ h => h) (Or.inl ⟨by rfl, ?hy13_53⟩) hH ?ha13_53 ?_
  case hy13_53 => (rintro w' ⟨s0, s1⟩; exact ld_op rfl rfl s1 (cel26 (K0.b HB.out)).st)
  case ha13_53 => (simp only [Act.put, List.setIfInBounds_toArray, List.set_cons_zero, List.set_cons_succ, i64_w, i32_w]; rfl)
  refine one_ (i := 2) (N := some 54) #[true, true, true, false, false] rfl rfl (by kernel_rfl) (by decide) (fun K hK => ?_)
  refine goes_ Try.func14 (by kernel_rfl) rfl #[.agg b0] (by rfl) rfl rfl (by (try simp only [List.map_toArray, List.map_cons, List.map_nil]); first | done | rfl) ?_
  refine (laws_toValue.kc k x0 b0 (⟨t2.1, t2.2.1, t2.2.2.1, t2.2.2.2.1, t2.2.2.2.2⟩ : S30) _ (K0.b HB.out) A2.out).mono ?_
  rintro e w14 ⟨b_54, rfl, ho, hb⟩
  refine ⟨_, rfl, ?_⟩; replace X2 := X2.b hb; replace O30 := O30.b hb; replace X6 := X6.b hb; replace O34 := O34.b hb; replace X8 := X8.b hb; replace O36 := O36.b hb; replace O40 := O40.b hb; replace X10 := X10.b hb; have z14 := hb.size; replace HB := Bw.sw w hb; have O54 := ho
  refine hK.out _ _ ⟨X8, X2⟩ (fun hH => ?_)
  clear hK K hb ho; refine norm_ (a' := ?_) ?_ ?_; rotate_left
  ·show Act.put _ (some 54) _ = _
   simp only [Act.put, List.setIfInBounds_toArray, List.set_cons_zero, List.set_cons_succ, i64_w, i32_w]
   rfl
  refine one_ (i := 3) (N := some 55) #[true, true, true, true, false] rfl rfl (by kernel_rfl) (by decide) (fun K hK => ?_)
  refine goes_ Try.func17 (by kernel_rfl) rfl #[.agg b_34, .agg b_54] (by rfl) rfl rfl (by (try simp only [List.map_toArray, List.map_cons, List.map_nil]); first | done | rfl) ?_
  refine (laws_eqValue.kc k (⟨t2.1, t2.2.1, t2.2.2.1, t2.2.2.2.1, t2.2.2.2.2⟩ : S30) b_34 (⟨t2.1, t2.2.1, t2.2.2.1, t2.2.2.2.1, t2.2.2.2.2⟩ : S30) b_54 true _ O34.rd O54.rd A7.out).mono ?_
  rintro e w15 ⟨rfl, hb⟩
  refine ⟨_, rfl, ?_⟩
  replace X2 := X2.b hb; replace O30 := O30.b hb; replace X6 := X6.b hb; replace O34 := O34.b hb; replace X8 := X8.b hb; replace O36 := O36.b hb; replace O40 := O40.b hb; replace X10 := X10.b hb; replace O54 := O54.b hb; have z15 := hb.size; replace HB := Bw.sw w hb
  refine hK.out _ _ ⟨X8, X2⟩ (fun hH => ?_)
  clear hK K hb; refine norm_ (a' := ?_) ?_ ?_; rotate_left
  ·show Act.put _ (some 55) _ = _
   simp only [Act.put, List.setIfInBounds_toArray, List.set_cons_zero, List.set_cons_succ, i64_w, i32_w]
   rfl
  refine pure_ (i := 4) (N := some 56) (v := ?_) (a' := ?_) #[true, true, true, true, true] rfl rfl (by kernel_rfl) (fun _ _ _ h => h) (Or.inl ⟨by rfl, ?_⟩) ?_ ?_
  rotate_left
  ·intro w'
   go_simp
   with_reducible rfl
  rotate_left
  ·simp only [Act.put, List.setIfInBounds_toArray, List.set_cons_zero, List.set_cons_succ, i64_w, i32_w]
   rfl
  refine done_ (by kernel_rfl) ?_
  go_wp2_with (first
    | ((with_reducible refine gate_dst (N := 59) rfl ?_); refine gg (some 59) rfl rfl rfl fr15 ?_; refine onc (laws_toByteS.kc k l1 (.slice A_1 l1.length c_1) t3 _ (K1.b HB.out) A3.out) rfl ?_; rintro e w16 ⟨v_59, rfl, ho, hb⟩; refine ⟨_, rfl, ?_⟩; replace X2 := X2.b hb; replace O30 := O30.b hb; replace X6 := X6.b hb; replace O34 := O34.b hb; replace X8 := X8.b hb; replace O36 := O36.b hb; replace O40 := O40.b hb; replace X10 := X10.b hb; have z16 := hb.size; replace HB := Bw.sw w hb; have O59 := ho; clear ho hb; simp only [Act.put, List.setIfInBounds_toArray, List.set_cons_zero, List.set_cons_succ])
    | ((with_reducible refine gate_dst (N := 60) rfl ?_); refine gg (some 60) rfl rfl rfl fr18 ?_; refine onc (laws_eqByteS.kc k t3 v_36 t3 v_59 true _ O36.rd O59.rd A8.out) rfl ?_; rintro e w17 ⟨rfl, hb⟩; refine ⟨_, rfl, ?_⟩; replace X2 := X2.b hb; replace O30 := O30.b hb; replace X6 := X6.b hb; replace O34 := O34.b hb; replace X8 := X8.b hb; replace O36 := O36.b hb; replace O40 := O40.b hb; replace X10 := X10.b hb; have z17 := hb.size; replace HB := Bw.sw w hb; clear hb; simp only [Act.put, List.setIfInBounds_toArray, List.set_cons_zero, List.set_cons_succ])
    | ((with_reducible refine gate_dst (N := 62) rfl ?_); refine ldb (some 62) rfl rfl rfl rfl X8 (cel30 O34.rd).st ?_; simp only [Act.put, List.setIfInBounds_toArray, List.set_cons_zero, List.set_cons_succ])
    | ((with_reducible refine gate_dst (N := 64) rfl ?_); refine gg (some 64) rfl rfl rfl fr19 ?_; refine onc (laws_markValue.kc (⟨t2.1, t2.2.1, t2.2.2.1, t2.2.2.2.1, t2.2.2.2.2⟩ : S30) b_34 1 _ (by omega) G9.out (by omega) O34) rfl ?_; rintro e w18 ⟨kk64, rfl, hkk, hkl, ho⟩; refine ⟨_, rfl, ?_⟩; replace X2 := X2.mv ho (by omega); replace O30 := O30.mv ho (by omega); replace X6 := X6.mv ho (by omega); replace O36 := O36.mv ho (by omega); replace O40 := O40.mv ho (by omega); replace X10 := X10.mv ho (by omega); have z18 := ho.size; replace HB := Bw.mk (w := w) (ho.below HB.out (by omega)); have qk64 : decide (kk64 < 0) = false := decide_eq_false (by omega); clear ho; simp only [Act.put, List.setIfInBounds_toArray, List.set_cons_zero, List.set_cons_succ])
    | ((with_reducible refine gate_dst (N := 67) rfl ?_); refine gg (some 67) rfl rfl rfl fr20 ?_; refine onc (laws_markByteS.kcx t3 v_36 kk64 _ (by omega) G10.out (by omega) O36) rfl ?_; rintro e w19 ⟨kk67, rfl, hkk, hkl, ho⟩; refine ⟨_, rfl, ?_⟩; replace X2 := X2.mv ho (by omega); replace O30 := O30.mv ho (by omega); replace X6 := X6.mv ho (by omega); replace O40 := O40.mv ho (by omega); replace X10 := X10.mv ho (by omega); have z19 := ho.size; replace HB := Bw.mk (w := w) (ho.below HB.out (by omega)); have qk67 : decide (kk67 < 0) = false := decide_eq_false (by omega); clear ho; simp only [Act.put, List.setIfInBounds_toArray, List.set_cons_zero, List.set_cons_succ])
    | ((with_reducible refine gate_dst (N := 71) rfl ?_); refine ldw (some 71) rfl (by rfl) rfl rfl X10 (cel30 (rdD O40.rd)).st ?_; simp only [Act.put, List.setIfInBounds_toArray, List.set_cons_zero, List.set_cons_succ])
    | ((with_reducible refine gate_dst (N := 72) rfl ?_); refine ldw (some 72) rfl (by rfl) rfl rfl X6 (cel30 O30.rd).st ?_; simp only [Act.put, List.setIfInBounds_toArray, List.set_cons_zero, List.set_cons_succ])
    | ((with_reducible refine gate_dst (N := 73) rfl ?_); refine ggw (some 73) rfl (by rfl) rfl fr17 ?_; refine onc (laws_eqValue.kc k t5_1 b_40 (⟨t4_1, t4_2, t4_3, t4_4, t4_5⟩ : S30) b_30 true _ (rdD O40.rd) O30.rd A6.out) rfl ?_; rintro e w20 ⟨rfl, hb⟩; refine ⟨_, rfl, ?_⟩; replace X2 := X2.b hb; replace O30 := O30.b hb; replace X6 := X6.b hb; replace O40 := O40.b hb; replace X10 := X10.b hb; have z20 := hb.size; replace HB := Bw.sw w hb; clear hb; simp only [Act.put, List.setIfInBounds_toArray, List.set_cons_zero, List.set_cons_succ])
    | ((with_reducible refine gate_dst (N := 81) rfl ?_); refine ldb (some 81) rfl rfl rfl rfl X10 (cel30 (rdD O40.rd)).st ?_; simp only [Act.put, List.setIfInBounds_toArray, List.set_cons_zero, List.set_cons_succ])
    | ((with_reducible refine gate_dst (N := 83) rfl ?_); refine gg (some 83) rfl rfl rfl fr19 ?_; refine onc (laws_markValue.kcd t5_1 b_40 1 t13 _ (by omega) G11.out (by omega) A12.out O40) rfl ?_; rintro e w21 ⟨rfl, hn, ho⟩; refine ⟨_, rfl, ?_⟩; replace X2 := X2.mv ho (by omega); replace O30 := O30.mv ho (by omega); replace X6 := X6.mv ho (by omega); replace X10 := X10.mv ho (by omega); have z21 := ho.size; replace HB := Bw.mk (w := w) (ho.below HB.out (by omega)); replace O40 := hn; clear hn; clear ho; simp only [Act.put, List.setIfInBounds_toArray, List.set_cons_zero, List.set_cons_succ])
    | ((with_reducible refine gate_dst (N := 84) rfl ?_); refine ldb (some 84) rfl rfl rfl rfl X10 (cel30 (rdD O40.rd)).st ?_; simp only [Act.put, List.setIfInBounds_toArray, List.set_cons_zero, List.set_cons_succ])
    | ((with_reducible refine gate_dst (N := 86) rfl ?_); refine gg (some 86) rfl rfl rfl fr21 ?_; refine onc (laws_heldValue.kc k (dmkV 1 t5_1) b_40 1 t13 _ (rdD O40.rd) A13.out) rfl ?_; rintro e w22 ⟨rfl, hb⟩; refine ⟨_, rfl, ?_⟩; replace X2 := X2.b hb; replace O30 := O30.b hb; replace X6 := X6.b hb; replace O40 := O40.b hb; replace X10 := X10.b hb; have z22 := hb.size; replace HB := Bw.sw w hb; clear hb; simp only [Act.put, List.setIfInBounds_toArray, List.set_cons_zero, List.set_cons_succ])
    | ((with_reducible refine gate_dst (N := 93) rfl ?_); refine ldb (some 93) rfl rfl rfl rfl X2 (cel26 (K0.b HB.out)).st ?_; simp only [Act.put, List.setIfInBounds_toArray, List.set_cons_zero, List.set_cons_succ])
    | ((with_reducible refine gate_dst (N := 94) rfl ?_); refine gg (some 94) rfl rfl rfl fr14 ?_; refine onc (laws_toValue.kc k x0 b0 (⟨t2.1, t2.2.1, t2.2.2.1, t2.2.2.2.1, t2.2.2.2.2⟩ : S30) _ (K0.b HB.out) A2.out) rfl ?_; rintro e w23 ⟨b_94, rfl, ho, hb⟩; refine ⟨_, rfl, ?_⟩; replace O30 := O30.b hb; replace X6 := X6.b hb; replace O40 := O40.b hb; replace X10 := X10.b hb; have z23 := hb.size; replace HB := Bw.sw w hb; have O94 := ho; clear ho hb; simp only [Act.put, List.setIfInBounds_toArray, List.set_cons_zero, List.set_cons_succ])
    | ((with_reducible refine gate_dst (N := 96) rfl ?_); refine gg (some 96) rfl rfl rfl fr15 ?_; refine onc (laws_toByteS.kc k l1 (.slice A_1 l1.length c_1) t3 _ (K1.b HB.out) A3.out) rfl ?_; rintro e w24 ⟨v_96, rfl, ho, hb⟩; refine ⟨_, rfl, ?_⟩; replace O30 := O30.b hb; replace X6 := X6.b hb; replace O40 := O40.b hb; replace X10 := X10.b hb; replace O94 := O94.b hb; have z24 := hb.size; replace HB := Bw.sw w hb; have O96 := ho; clear ho hb; simp only [Act.put, List.setIfInBounds_toArray, List.set_cons_zero, List.set_cons_succ])
    | ((with_reducible refine gate_dst (N := 97) rfl ?_); refine gg (some 97) rfl rfl rfl fr28 ?_; refine onc (impl_ValDrop.kc k (⟨t2.1, t2.2.1, t2.2.2.1, t2.2.2.2.1, t2.2.2.2.2⟩ : S30) b_94 t3 v_96 t5_1 t5_2 _ O94.rd O96.rd A5.out) rfl ?_; rintro e w25 ⟨b_97, rfl, ho, hb⟩; refine ⟨_, rfl, ?_⟩; replace O30 := O30.b hb; replace X6 := X6.b hb; replace O40 := O40.b hb; replace X10 := X10.b hb; have z25 := hb.size; replace HB := Bw.sw w hb; have O97 := ho; clear ho hb; simp only [Act.put, List.setIfInBounds_toArray, List.set_cons_zero, List.set_cons_succ])
    | ((with_reducible refine gate_dst (N := 15) rfl ?_); have hc := cel30 (rdD O97.rd); refine alst (bs := b_97) (cs := zs30) 15 rfl rfl rfl rfl rfl rfl (fun _ => rfl) (fun _ => rfl) hc.hz hc.hl hc.h1 ?_; intro p15 w26 hx hb hle hlt; replace O30 := O30.b hb; replace X6 := X6.b hb; replace O40 := O40.b hb; replace X10 := X10.b hb; replace O97 := O97.b hb; have z26 := hb.size; replace HB := Bw.sw w hb; have X15 := hx; clear hx hb hc; have y15a := hle; have y15b := hlt; clear hle hlt; simp only [Act.put, List.setIfInBounds_toArray, List.set_cons_zero, List.set_cons_succ])
    | ((with_reducible refine gate_dst (N := 100) rfl ?_); refine ldb (some 100) rfl rfl rfl rfl X15 (cel30 (rdD O97.rd)).st ?_; simp only [Act.put, List.setIfInBounds_toArray, List.set_cons_zero, List.set_cons_succ])
    | ((with_reducible refine gate_dst (N := 101) rfl ?_); refine ldb (some 101) rfl rfl rfl rfl X6 (cel30 O30.rd).st ?_; simp only [Act.put, List.setIfInBounds_toArray, List.set_cons_zero, List.set_cons_succ])
    | ((with_reducible refine gate_dst (N := 102) rfl ?_); refine gg (some 102) rfl rfl rfl fr17 ?_; refine onc (laws_eqValue.kc k t5_1 b_97 (⟨t4_1, t4_2, t4_3, t4_4, t4_5⟩ : S30) b_30 true _ (rdD O97.rd) O30.rd A6.out) rfl ?_; rintro e w27 ⟨rfl, hb⟩; refine ⟨_, rfl, ?_⟩; replace O40 := O40.b hb; replace X10 := X10.b hb; have z27 := hb.size; replace HB := Bw.sw w hb; clear hb; simp only [Act.put, List.setIfInBounds_toArray, List.set_cons_zero, List.set_cons_succ])
    | ((with_reducible refine gate_dst (N := 109) rfl ?_); refine ldb (some 109) rfl rfl rfl rfl X10 (cel30 (rdD O40.rd)).st ?_; simp only [Act.put, List.setIfInBounds_toArray, List.set_cons_zero, List.set_cons_succ])
    | ((with_reducible refine gate_dst (N := 111) rfl ?_); refine gg (some 111) rfl rfl rfl fr21 ?_; refine onc (laws_heldValue.kc k (dmkV 1 t5_1) b_40 1 t13 _ (rdD O40.rd) A13.out) rfl ?_; rintro e w28 ⟨rfl, hb⟩; refine ⟨_, rfl, ?_⟩; have z28 := hb.size; replace HB := Bw.sw w hb; clear hb; simp only [Act.put, List.setIfInBounds_toArray, List.set_cons_zero, List.set_cons_succ]))
  go_ret
  exact ⟨by first | rfl | simp, HB.out⟩
end Go.Proofs.Ytenpjddjmhjdoaa.PFnExactValDrop
