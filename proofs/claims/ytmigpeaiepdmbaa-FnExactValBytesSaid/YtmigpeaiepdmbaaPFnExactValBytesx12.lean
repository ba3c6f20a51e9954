/- The law, walked: by contracts over whole values. No condition. -/
import Derived.Test.YtmigpeaiepdmbaaPFnExactValBytesx0
import Derived.Test.YtmigpeaiepdmbaaPFnExactValBytesx1
import Derived.Test.YtmigpeaiepdmbaaPFnExactValBytesx2
import Derived.Test.YtmigpeaiepdmbaaPFnExactValBytesx3
import Derived.Test.YtmigpeaiepdmbaaPFnExactValBytesx7
import Derived.Test.YtmigpeaiepdmbaaPFnExactValBytesx10
import Derived.Test.YtmigpeaiepdmbaaPFnExactValBytesx11
import Derived.Test.YtmigpeaiepdmbaaMlaw
import Derived.Test.YtmigpeaiepdmbaaMmark
import Derived.Test.YtmigpeaiepdmbaaMown
namespace Go.Proofs.Ytmigpeaiepdmbaa.PFnExactValBytes
open Go.RowKit Go.Proofs.YtmigpeaiepdmbaaW.PrintWords Go.Proofs.YtmigpeaiepdmbaaW.PrintLast Go.Proofs.YtmigpeaiepdmbaaW.PrintMore Go.Proofs.Ytmigpeaiepdmbaa.M
attribute [local go_sem] max2_int min2_int max_two min_two max_three min_three max_four min_four Go.Proofs.Ytmigpeaiepdmbaa.M.str_gtr Go.Proofs.Ytmigpeaiepdmbaa.M.str_leq Go.Proofs.Ytmigpeaiepdmbaa.M.str_geq   -- for this text's walks alone
set_option linter.unusedVariables false
set_option linter.unusedSimpArgs false
def zs35 : Array Value := #[.int .i64 0, .int .i64 0, .slice none 0 0, .slice none 0 0, .slice none 0 0]
theorem cel35 {w : World} {x : S35} {b : Array Value} (h : Rd k35 w x b.toList) : Cel Try.prog 35 zs35 b := by
  have h1 := k35_open h.k
  obtain ⟨A2, c2, A3, c3, A4, c4, e, _⟩ := h1
  obtain rfl : b = #[.int .i64 x.f0, .int .i64 x.f1, .slice A2 x.f2.length c2, .slice A3 x.f3.length c3, .slice A4 x.f4.length c4] := by rw [← b.toArray_toList, e]
  exact ⟨⟨⟨_, Try.underlying35⟩, by kernel_rfl⟩, by kernel_rfl, rfl, by rw [← Array.all_toList]; exact List.all_eq_true.2 (k35.K_one h.k)⟩
theorem laws_szValue.kc (k : Nat) (x0 : S35) (b0 : Array Value) (a1 : Int) (r : Int) (w : World) (h0 : Rd k35 w x0 b0.toList) (h : laws_szValue.f k x0.f0 x0.f1 x0.f2 x0.f3 x0.f4 a1 = some r) :
  Calls Try.prog 20 #[.agg b0, .int .i64 a1] w fun e w' => e = .returned (.int .i64 r) ∧ Below w.heap.size w w' := by
  obtain ⟨A2_0, c2_0, A3_0, c3_0, A4_0, c4_0, e0, l2_0, g2_0, l3_0, g3_0, l4_0, g4_0⟩ := k35_open h0.k
  obtain rfl : b0 = #[.int .i64 x0.f0, .int .i64 x0.f1, .slice A2_0 x0.f2.length c2_0, .slice A3_0 x0.f3.length c3_0, .slice A4_0 x0.f4.length c4_0] := by rw [← b0.toArray_toList, e0]
  refine (laws_szValue.calls k x0.f0 x0.f1 _ _ x0.f2 _ _ x0.f3 _ _ x0.f4 a1 r w g2_0 l2_0 g3_0 l3_0 g4_0 l4_0 h).mono ?_
  rintro e w' ⟨rfl, hb⟩
  exact ⟨rfl, hb⟩
def zs40 : Array Value := #[.int .i64 0, .int .i64 0, .slice none 0 0, .slice none 0 0, .slice none 0 0]
theorem cel40 {w : World} {x : S40} {b : Array Value} (h : Rd k40 w x b.toList) : Cel Try.prog 40 zs40 b := by
  have h1 := k40_open h.k
  obtain ⟨A2, c2, A3, c3, A4, c4, e, _⟩ := h1
  obtain rfl : b = #[.int .i64 x.f0, .int .i64 x.f1, .slice A2 x.f2.length c2, .slice A3 x.f3.length c3, .slice A4 x.f4.length c4] := by rw [← b.toArray_toList, e]
  exact ⟨⟨⟨_, Try.underlying40⟩, by kernel_rfl⟩, by kernel_rfl, rfl, by rw [← Array.all_toList]; exact List.all_eq_true.2 (k40.K_one h.k)⟩
theorem laws_toValue.kc (k : Nat) (x0 : S35) (b0 : Array Value) (y : S40) (w : World) (h0 : Rd k35 w x0 b0.toList) (h : laws_toValue.f k x0.f0 x0.f1 x0.f2 x0.f3 x0.f4 = some (y.f0, y.f1, y.f2, y.f3, y.f4)) :
  Calls Try.prog 22 #[.agg b0] w fun e w' => ∃ b : Array Value, e = .returned (.agg b) ∧ Own k40 w' w.heap.size w'.heap.size y b.toList ∧ Below w.heap.size w w' := by
  obtain ⟨A2_0, c2_0, A3_0, c3_0, A4_0, c4_0, e0, l2_0, g2_0, l3_0, g3_0, l4_0, g4_0⟩ := k35_open h0.k
  obtain rfl : b0 = #[.int .i64 x0.f0, .int .i64 x0.f1, .slice A2_0 x0.f2.length c2_0, .slice A3_0 x0.f3.length c3_0, .slice A4_0 x0.f4.length c4_0] := by rw [← b0.toArray_toList, e0]
  refine (laws_toValue.calls k x0.f0 x0.f1 _ _ x0.f2 _ _ x0.f3 _ _ x0.f4 y.f0 y.f1 y.f2 y.f3 y.f4 w g2_0 l2_0 g3_0 l3_0 g4_0 l4_0 h).mono ?_
  rintro e w' ⟨v0_, v1_, v2_, rfl, g0, g1, g2, hb⟩
  exact ⟨_, rfl, Own.of (k40_mkM w' w.heap.size (fun _ => True) y (Kd.R_mono (g0) (fun _ _ => trivial)) (Kd.R_mono (Kd.S_R g1) (fun _ _ => trivial)) (Kd.R_mono (g2) (fun _ _ => trivial))) hb.size, hb⟩
theorem spec_ValBytes.kc (k : Nat) (x0 : S40) (b0 : Array Value) (r1 : List Int) (r2 : Bool) (w : World) (h0 : Rd k40 w x0 b0.toList) (h : spec_ValBytes.f k x0.f0 x0.f1 x0.f2 x0.f3 x0.f4 = some (r1, r2)) :
  Calls Try.prog 43 #[.agg b0] w fun e w' => ∃ v : Value, e = .returned (.tuple #[v, .bool r2]) ∧ Own (Kd.slice 5 (Kd.int .u8)) w' w.heap.size w'.heap.size r1 [v] ∧ Below w.heap.size w w' := by
  obtain ⟨A2_0, c2_0, A3_0, c3_0, A4_0, c4_0, e0, l2_0, g2_0, l3_0, g3_0, l4_0, g4_0⟩ := k40_open h0.k
  obtain rfl : b0 = #[.int .i64 x0.f0, .int .i64 x0.f1, .slice A2_0 x0.f2.length c2_0, .slice A3_0 x0.f3.length c3_0, .slice A4_0 x0.f4.length c4_0] := by rw [← b0.toArray_toList, e0]
  refine (spec_ValBytes.calls k x0.f0 x0.f1 _ _ x0.f2 _ _ x0.f3 _ _ x0.f4 r1 r2 w g2_0 l2_0 g3_0 l3_0 g4_0 l4_0 h).mono ?_
  rintro e w' ⟨v, rfl, g, hb⟩
  exact ⟨_, rfl, Own.of ⟨_, rfl, g⟩ (Below.size (hb)), hb⟩
theorem laws_eqByteS.kc (k : Nat) (l0 : List Int) (v0 : Value) (l1 : List Int) (v1 : Value) (r : Bool) (w : World) (h0 : Rd (Kd.slice 5 (Kd.int .u8)) w l0 [v0]) (h1 : Rd (Kd.slice 5 (Kd.int .u8)) w l1 [v1]) (h : laws_eqByteS.f k l0 l1 = some r) :
  Calls Try.prog 45 #[v0, v1] w fun e w' => e = .returned (.bool r) ∧ Below w.heap.size w w' := by
  obtain ⟨A0, c0, e0, lc0, g0⟩ := h0.k
  injection e0 with e0
  subst e0
  obtain ⟨A1, c1, e1, lc1, g1⟩ := h1.k
  injection e1 with e1
  subst e1
  refine (laws_eqByteS.calls k _ _ l0 _ _ l1 r w g0 lc0 g1 lc1 h).mono ?_
  rintro e w' ⟨rfl, ⟨nd, rfl⟩⟩
  exact ⟨rfl, pw_below_drewN (Below.refl _ _) nd⟩
theorem laws_eqValue.kc (k : Nat) (x0 : S40) (b0 : Array Value) (x1 : S40) (b1 : Array Value) (r : Bool) (w : World) (h0 : Rd k40 w x0 b0.toList) (h1 : Rd k40 w x1 b1.toList) (h : laws_eqValue.f k x0.f0 x0.f1 x0.f2 x0.f3 x0.f4 x1.f0 x1.f1 x1.f2 x1.f3 x1.f4 = some r) :
  Calls Try.prog 24 #[.agg b0, .agg b1] w fun e w' => e = .returned (.bool r) ∧ Below w.heap.size w w' := by
  obtain ⟨A2_0, c2_0, A3_0, c3_0, A4_0, c4_0, e0, l2_0, g2_0, l3_0, g3_0, l4_0, g4_0⟩ := k40_open h0.k
  obtain rfl : b0 = #[.int .i64 x0.f0, .int .i64 x0.f1, .slice A2_0 x0.f2.length c2_0, .slice A3_0 x0.f3.length c3_0, .slice A4_0 x0.f4.length c4_0] := by rw [← b0.toArray_toList, e0]
  obtain ⟨A2_1, c2_1, A3_1, c3_1, A4_1, c4_1, e1, l2_1, g2_1, l3_1, g3_1, l4_1, g4_1⟩ := k40_open h1.k
  obtain rfl : b1 = #[.int .i64 x1.f0, .int .i64 x1.f1, .slice A2_1 x1.f2.length c2_1, .slice A3_1 x1.f3.length c3_1, .slice A4_1 x1.f4.length c4_1] := by rw [← b1.toArray_toList, e1]
  refine (laws_eqValue.calls k x0.f0 x0.f1 _ _ x0.f2 _ _ x0.f3 _ _ x0.f4 x1.f0 x1.f1 _ _ x1.f2 _ _ x1.f3 _ _ x1.f4 r w g2_0 l2_0 g3_0 l3_0 g4_0 l4_0 g2_1 l2_1 g3_1 l3_1 g4_1 l4_1 h).mono ?_
  rintro e w' ⟨rfl, hb⟩
  exact ⟨rfl, hb⟩
mutual
def sh40 : S40 → Sh
  | ⟨_, _, s, k, l⟩ => .mk s.length (k.map List.length) (shs40 l)
def shs40 : List S40 → List Sh
  | [] => []
  | x :: l => sh40 x :: shs40 l
end
mutual
def m40 : S40 → Nat
  | ⟨_, _, s, k, l⟩ => s.length + (k.length + mL k + (l.length + ms40 l))
def ms40 : List S40 → Nat
  | [] => 0
  | x :: l => m40 x + ms40 l
end
mutual
theorem c40 : ∀ x : S40, cV (sh40 x) ≤ 2 * m40 x
  | ⟨_, _, s, k, l⟩ => by have := cs40 l; have := cBs_map k; simp only [sh40, m40, cV]; omega
theorem cs40 : ∀ l : List S40, cVs (shs40 l) ≤ 2 * (l.length + ms40 l)
  | [] => by simp [shs40, cVs]
  | x :: l => by have := c40 x; have := cs40 l; simp only [shs40, ms40, cVs, List.length_cons]; omega
end
theorem shs40_len : ∀ l : List S40, (shs40 l).length = l.length
  | [] => rfl
  | x :: l => by simp only [shs40, List.length_cons, shs40_len l]
theorem shs40_at : ∀ (l : List S40) (i : Nat) (x : S40), l[i]? = some x → (shs40 l).getD i (.mk 0 [] []) = sh40 x
  | [], i, x, h => by simp at h
  | y :: l, 0, x, h => by simp at h; subst h; rfl
  | y :: l, i + 1, x, h => by simpa [shs40] using shs40_at l i x (by simpa using h)
mutual
theorem ok40 : ∀ x : S40, m40 x ≤ 4611686018427387904 → okV (sh40 x)
  | ⟨_, _, s, k, l⟩, h => by
    simp only [m40] at h
    exact ⟨by rw [List.length_map]; omega, oks40 l (by omega)⟩
theorem oks40 : ∀ l : List S40, l.length + ms40 l ≤ 4611686018427387904 → okVs (shs40 l)
  | [], _ => trivial
  | x :: l, h => by
    simp only [ms40, List.length_cons] at h
    exact ⟨by rw [shs40_len]; omega, ok40 x (by omega), oks40 l (by omega)⟩
end
theorem shT40 {lo hi : Nat} {w : World} : ∀ (n : Nat) (x : S40) (base : Nat) (ok : Nat → Prop) (cs : List Value), SizeOf.sizeOf x ≤ n → (∀ k, ok k → lo ≤ k ∧ k < hi) → k40.M w base ok x cs → ShT 5 31 40 w lo hi n (sh40 x) cs
  | 0, ⟨_, _, s, k, l⟩, base, ok, cs, hs, _, _ => by simp at hs
  | n + 1, ⟨i, j, s, k, l⟩, base, ok, cs, hs, hok, h => by
    obtain ⟨v2, v3, v4, rfl, h2, h3, h4⟩ := k40_openM h
    refine ⟨i, j, v2, v3, v4, rfl, ByT.of_R h2 hok, BsT.of_R h3 hok, ?_⟩
    simp only [sh40, Sh.l]
    rw [shs40_len]
    refine Row.of_R h4 hok _ fun q x c hx hm => ?_
    rw [shs40_at l q x hx]
    have hm2 : x ∈ l := List.mem_of_getElem? hx
    have := List.sizeOf_lt_of_mem hm2
    exact shT40 n x base ok c (by simp at hs; omega) hok hm
theorem laws_markValue.kc (x0 : S40) (b0 : Array Value) (k : Int) (w : World) {lo hi : Nat} (hk : 0 ≤ k) (hm : m40 x0 ≤ 1099511627776) (hk2 : k ≤ 1099511627776) (h0 : Own k40 w lo hi x0 b0.toList) :
    Calls Try.prog 34 #[.agg b0, .int .i64 k] w fun e w' => ∃ kk : Int, e = .returned (.int .i64 kk) ∧ 0 ≤ kk ∧ M.Outside lo hi w w' := by
  have h1 := shT40 (SizeOf.sizeOf x0) x0 _ _ _ (Nat.le_refl _) (fun _ h => h) h0.m
  have h2 := c40 x0
  refine (markValue_out lo hi (SizeOf.sizeOf x0) (sh40 x0) b0 k w hk (by omega) (ok40 x0 (by omega)) h1 h0.le).mono ?_
  rintro e w' ⟨rfl, g⟩
  exact ⟨_, rfl, by omega, g⟩
theorem laws_markByteS.kc (l0 : List Int) (v0 : Value) (k mm : Int) (w : World) {lo hi : Nat} (hk : 0 ≤ k) (hm : l0.length ≤ 1099511627776) (hk2 : k ≤ 1099511627776) (he : some (k + (l0.length : Nat)) = some mm) (h0 : Own (Kd.slice 5 (Kd.int .u8)) w lo hi l0 [v0]) :
    Calls Try.prog 46 #[v0, .int .i64 k] w fun e w' => e = .returned (.int .i64 mm) ∧ Own (Kd.slice 5 (Kd.int .u8)) w' lo hi (mk k l0.length) [v0] ∧ M.Outside lo hi w w' := by
  have he := Option.some.inj he
  subst he
  obtain ⟨v, e, h1⟩ := h0.m
  injection e with e
  subst e
  refine (markByteS_own l0 v0 k w lo _ hk (by omega) h1).mono ?_
  rintro e w' ⟨rfl, g1, g2⟩
  have g := g2.outside (fun _ h => h)
  exact ⟨rfl, ⟨⟨_, rfl, g1⟩, Nat.le_trans h0.le g.size⟩, g⟩
theorem laws_heldByteS.kc (k : Nat) (l0 : List Int) (v0 : Value) (a1 : Int) (r : Int) (w : World) (h0 : Rd (Kd.slice 5 (Kd.int .u8)) w l0 [v0]) (h : laws_heldByteS.f k l0 a1 = some r) :
  Calls Try.prog 47 #[v0, .int .i64 a1] w fun e w' => e = .returned (.int .i64 r) ∧ Below w.heap.size w w' := by
  obtain ⟨A0, c0, e0, lc0, g0⟩ := h0.k
  injection e0 with e0
  subst e0
  refine (laws_heldByteS.calls k _ _ l0 a1 r w g0 lc0 h).mono ?_
  rintro e w' ⟨rfl, ⟨nd, rfl⟩⟩
  exact ⟨rfl, pw_below_drewN (Below.refl _ _) nd⟩
theorem fr43 : Fr Try.prog 43 := ⟨_, Try.func43, by kernel_rfl, rfl⟩
theorem fr44 : Fr Try.prog 44 := ⟨_, Try.func44, by kernel_rfl, rfl⟩
theorem fr34 : Fr Try.prog 34 := ⟨_, Try.func34, by kernel_rfl, rfl⟩
theorem fr46 : Fr Try.prog 46 := ⟨_, Try.func46, by kernel_rfl, rfl⟩
theorem fr47 : Fr Try.prog 47 := ⟨_, Try.func47, by kernel_rfl, rfl⟩
def laws_FnExactValBytes.f (k : Nat) (a0_0 : Int) (a0_1 : Int) (l0_2 : (List Int)) (l0_3 : (List (List Int))) (l0_4 : (List S35)) : Option Bool := (laws_szValue.f k a0_0 a0_1 l0_2 l0_3 l0_4 1048576).bind fun t1 => if t1 < 0 then some true else (laws_toValue.f k a0_0 a0_1 l0_2 l0_3 l0_4).bind fun t2 => (spec_ValBytes.f k t2.1 t2.2.1 t2.2.2.1 t2.2.2.2.1 t2.2.2.2.2).bind fun t3 => (impl_ValBytes.f k t2.1 t2.2.1 t2.2.2.1 t2.2.2.2.1 t2.2.2.2.2).bind fun t4 => (laws_eqByteS.f k t4.1 t3.1).bind fun t5 => if t5 = true then if t4.2 = t3.2 then (laws_eqValue.f k t2.1 t2.2.1 t2.2.2.1 t2.2.2.2.1 t2.2.2.2.2 t2.1 t2.2.1 t2.2.2.1 t2.2.2.2.1 t2.2.2.2.2).bind fun t6 => if t6 = true then if m40 (⟨t2.1, t2.2.1, t2.2.2.1, t2.2.2.2.1, t2.2.2.2.2⟩ : S40) ≤ 1099511627776 then if t4.1.length ≤ 1099511627776 then (some (1 + (t4.1.length : Nat)) : Option Int).bind fun t9 => (laws_heldByteS.f k ((mk 1 t4.1.length)) 1).bind fun t10 => if t10 < 0 then some false else if t10 = t9 then some true else some false else some false else some false else some false else some false else some false
set_option maxRecDepth 100000 in
set_option maxHeartbeats 8000000 in
theorem laws_FnExactValBytes.calls (k : Nat) (x0 : S35) (b0 : Array Value) (w : World) (K0 : Rd k35 w x0 b0.toList) (h : laws_FnExactValBytes.f k x0.f0 x0.f1 x0.f2 x0.f3 x0.f4 = some true) :
  Calls Try.prog 12 #[.agg b0] w fun e w' => e = .returned (.bool true) ∧ Below w.heap.size w w' := by
  unfold laws_FnExactValBytes.f at h
  have HB := Bw.refl w
  have h9 := bnd h; clear h; obtain ⟨t1, A1, h⟩ := h9
  replace A1 := Aside0.mk A1
  by_cases c : t1 < 0
  ·have cb : decide (t1 < 0) = true := decide_eq_true c
   clear c h
   go_enter Try.func12, Try.ntmps12
   go_wp2_with (first
     | ((with_reducible refine gate_dst (N := 1) rfl ?_); refine bxb (bs := b0) 1 rfl rfl rfl rfl ?_; intro p1 w1 hx hb hle hlt; have z1 := hb.size; replace HB := Bw.sw w hb; have X1 := hx; clear hx hb; have y1a := hle; have y1b := hlt; clear hle hlt; simp only [Act.put, List.setIfInBounds_toArray, List.set_cons_zero, List.set_cons_succ])
     | ((with_reducible refine gate_dst (N := 14) rfl ?_); refine ldb (some 14) rfl rfl rfl rfl X1 (cel35 (K0.b HB.out)).st ?_; simp only [Act.put, List.setIfInBounds_toArray, List.set_cons_zero, List.set_cons_succ])
     | ((with_reducible refine gate_dst (N := 16) rfl ?_); refine gg (some 16) rfl rfl rfl fr20 ?_; refine onc (laws_szValue.kc k x0 b0 1048576 t1 _ (K0.b HB.out) A1.out) rfl ?_; rintro e w2 ⟨rfl, hb⟩; refine ⟨_, rfl, ?_⟩; have z2 := hb.size; replace HB := Bw.sw w hb; clear hb; simp only [Act.put, List.setIfInBounds_toArray, List.set_cons_zero, List.set_cons_succ]))
   go_ret
   exact ⟨by first | rfl | simp, HB.out⟩
  rw [if_neg c] at h
  replace c : decide (t1 < 0) = false := decide_eq_false c
  have q11 := c
  clear c
  have h9 := bnd h; clear h; obtain ⟨t2, A2, h⟩ := h9
  replace A2 := Aside0.mk A2
  have h9 := bnd h; clear h; obtain ⟨t3, A3, h⟩ := h9
  replace A3 := Aside0.mk A3
  obtain ⟨t3_1, t3_2⟩ := t3
  try dsimp only at h
  have h9 := bnd h; clear h; obtain ⟨t4, A4, h⟩ := h9
  replace A4 := Aside0.mk A4
  obtain ⟨t4_1, t4_2⟩ := t4
  try dsimp only at h
  have h9 := bnd h; clear h; obtain ⟨t5, A5, h⟩ := h9
  replace A5 := Aside0.mk A5
  have h9 := yes h; clear h; obtain ⟨c, h⟩ := h9
  subst c
  have h9 := yes h; clear h; obtain ⟨c, h⟩ := h9
  subst c
  have h9 := bnd h; clear h; obtain ⟨t6, A6, h⟩ := h9
  replace A6 := Aside0.mk A6
  have h9 := yes h; clear h; obtain ⟨c, h⟩ := h9
  subst c
  have h9 := yes h; clear h; obtain ⟨G7, h⟩ := h9; replace G7 := Aside0.mk G7
  have h9 := yes h; clear h; obtain ⟨G8, h⟩ := h9; replace G8 := Aside0.mk G8
  have h9 := bnd h; clear h; obtain ⟨t9, A9, h⟩ := h9
  replace A9 := Aside0.mk A9
  have h9 := bnd h; clear h; obtain ⟨t10, A10, h⟩ := h9
  replace A10 := Aside0.mk A10
  have h9 := nope h; clear h; obtain ⟨c, h⟩ := h9
  have q12 : decide (t10 < 0) = false := decide_eq_false c
  clear c
  have h9 := yes h; clear h; obtain ⟨c, h⟩ := h9
  subst c
  clear h
  go_enter Try.func12, Try.ntmps12
  go_wp2_with (first
    | ((with_reducible refine gate_dst (N := 1) rfl ?_); refine bxb (bs := b0) 1 rfl rfl rfl rfl ?_; intro p1 w1 hx hb hle hlt; have z1 := hb.size; replace HB := Bw.sw w hb; have X1 := hx; clear hx hb; have y1a := hle; have y1b := hlt; clear hle hlt; simp only [Act.put, List.setIfInBounds_toArray, List.set_cons_zero, List.set_cons_succ])
    | ((with_reducible refine gate_dst (N := 14) rfl ?_); refine ldb (some 14) rfl rfl rfl rfl X1 (cel35 (K0.b HB.out)).st ?_; simp only [Act.put, List.setIfInBounds_toArray, List.set_cons_zero, List.set_cons_succ])
    | ((with_reducible refine gate_dst (N := 16) rfl ?_); refine gg (some 16) rfl rfl rfl fr20 ?_; refine onc (laws_szValue.kc k x0 b0 1048576 t1 _ (K0.b HB.out) A1.out) rfl ?_; rintro e w2 ⟨rfl, hb⟩; refine ⟨_, rfl, ?_⟩; replace X1 := X1.b hb; have z2 := hb.size; replace HB := Bw.sw w hb; clear hb; simp only [Act.put, List.setIfInBounds_toArray, List.set_cons_zero, List.set_cons_succ])
    | ((with_reducible refine gate_dst (N := 20) rfl ?_); refine ldb (some 20) rfl rfl rfl rfl X1 (cel35 (K0.b HB.out)).st ?_; simp only [Act.put, List.setIfInBounds_toArray, List.set_cons_zero, List.set_cons_succ])
    | ((with_reducible refine gate_dst (N := 21) rfl ?_); refine gg (some 21) rfl rfl rfl fr22 ?_; refine onc (laws_toValue.kc k x0 b0 (⟨t2.1, t2.2.1, t2.2.2.1, t2.2.2.2.1, t2.2.2.2.2⟩ : S40) _ (K0.b HB.out) A2.out) rfl ?_; rintro e w3 ⟨b_21, rfl, ho, hb⟩; refine ⟨_, rfl, ?_⟩; replace X1 := X1.b hb; have z3 := hb.size; replace HB := Bw.sw w hb; have O21 := ho; clear ho hb; simp only [Act.put, List.setIfInBounds_toArray, List.set_cons_zero, List.set_cons_succ])
    | ((with_reducible refine gate_dst (N := 22) rfl ?_); refine gg (some 22) rfl rfl rfl fr43 ?_; refine onc (spec_ValBytes.kc k (⟨t2.1, t2.2.1, t2.2.2.1, t2.2.2.2.1, t2.2.2.2.2⟩ : S40) b_21 t3_1 t4_2 _ O21.rd A3.out) rfl ?_; rintro e w4 ⟨v_22, rfl, ho, hb⟩; refine ⟨_, rfl, ?_⟩; replace X1 := X1.b hb; have z4 := hb.size; replace HB := Bw.sw w hb; have O22 := ho; clear ho hb; simp only [Act.put, List.setIfInBounds_toArray, List.set_cons_zero, List.set_cons_succ])
    | ((with_reducible refine gate_dst (N := 25) rfl ?_); refine ldb (some 25) rfl rfl rfl rfl X1 (cel35 (K0.b HB.out)).st ?_; simp only [Act.put, List.setIfInBounds_toArray, List.set_cons_zero, List.set_cons_succ])
    | ((with_reducible refine gate_dst (N := 26) rfl ?_); refine gg (some 26) rfl rfl rfl fr22 ?_; refine onc (laws_toValue.kc k x0 b0 (⟨t2.1, t2.2.1, t2.2.2.1, t2.2.2.2.1, t2.2.2.2.2⟩ : S40) _ (K0.b HB.out) A2.out) rfl ?_; rintro e w5 ⟨b_26, rfl, ho, hb⟩; refine ⟨_, rfl, ?_⟩; replace X1 := X1.b hb; replace O22 := O22.b hb; have z5 := hb.size; replace HB := Bw.sw w hb; have O26 := ho; clear ho hb; simp only [Act.put, List.setIfInBounds_toArray, List.set_cons_zero, List.set_cons_succ])
    | ((with_reducible refine gate_dst (N := 6) rfl ?_); have hc := cel40 O26.rd; refine alst (bs := b_26) (cs := zs40) 6 rfl rfl rfl rfl rfl rfl (fun _ => rfl) (fun _ => rfl) hc.hz hc.hl hc.h1 ?_; intro p6 w6 hx hb hle hlt; replace X1 := X1.b hb; replace O22 := O22.b hb; replace O26 := O26.b hb; have z6 := hb.size; replace HB := Bw.sw w hb; have X6 := hx; clear hx hb hc; have y6a := hle; have y6b := hlt; clear hle hlt; simp only [Act.put, List.setIfInBounds_toArray, List.set_cons_zero, List.set_cons_succ])
    | ((with_reducible refine gate_dst (N := 28) rfl ?_); refine ldb (some 28) rfl rfl rfl rfl X6 (cel40 O26.rd).st ?_; simp only [Act.put, List.setIfInBounds_toArray, List.set_cons_zero, List.set_cons_succ])
    | ((with_reducible refine gate_dst (N := 29) rfl ?_); refine gg (some 29) rfl rfl rfl fr44 ?_; refine onc (impl_ValBytes.kc k (⟨t2.1, t2.2.1, t2.2.2.1, t2.2.2.2.1, t2.2.2.2.2⟩ : S40) b_26 t4_1 t4_2 _ O26.rd A4.out) rfl ?_; rintro e w7 ⟨v_29, rfl, ho, hb⟩; refine ⟨_, rfl, ?_⟩; replace X1 := X1.b hb; replace O22 := O22.b hb; replace O26 := O26.b hb; replace X6 := X6.b hb; have z7 := hb.size; replace HB := Bw.sw w hb; have O29 := ho; clear ho hb; simp only [Act.put, List.setIfInBounds_toArray, List.set_cons_zero, List.set_cons_succ])
    | ((with_reducible refine gate_dst (N := 34) rfl ?_); refine gg (some 34) rfl rfl rfl fr45 ?_; refine onc (laws_eqByteS.kc k t4_1 v_29 t3_1 v_22 true _ O29.rd O22.rd A5.out) rfl ?_; rintro e w8 ⟨rfl, hb⟩; refine ⟨_, rfl, ?_⟩; replace X1 := X1.b hb; replace O22 := O22.b hb; replace O26 := O26.b hb; replace X6 := X6.b hb; replace O29 := O29.b hb; have z8 := hb.size; replace HB := Bw.sw w hb; clear hb; simp only [Act.put, List.setIfInBounds_toArray, List.set_cons_zero, List.set_cons_succ]))
  have hb : Below w8.heap.size w8 w8.drew := below_drew1 (Below.refl _ _)
  refine start_ (n := 5) (S := fun w' => Bx w' p6 40 b_26 ∧ Bx w' p1 35 b0) (ds := []) #[false, false, false, false, false] (by kernel_rfl) rfl rfl ⟨X6.b hb, X1.b hb⟩ (fun hH => ?_)
  generalize w8.drew = w9 at hb hH ⊢; replace X1 := X1.b hb; replace O22 := O22.b hb; replace O26 := O26.b hb; replace X6 := X6.b hb; replace O29 := O29.b hb; have z9 := hb.size; replace HB := Bw.sw w hb; clear hb
  refine take_ (i := 0) (N := some 41) (v := .agg b_26) (a' := ?_) #[true, false, false, false, false] rfl rfl (by kernel_rfl) (fun _ _ _ h => h) (Or.inl ⟨by rfl, ?hy9_41⟩) hH ?ha9_41 ?_
  case hy9_41 => (rintro w' ⟨s0, s1⟩; exact ld_op rfl rfl s0 (cel40 O26.rd).st)
  case ha9_41 => (simp only [Act.put, List.setIfInBounds_toArray, List.set_cons_zero, List.set_cons_succ, i64_w, i32_w]; rfl)
  refine take_ (i := 1) (N := some 42) (v := .agg b0) (a' := ?_) #[true, true, false, false, false] rfl rfl (by kernel_rfl) (fun _ _ _ h => h) (Or.inl ⟨by rfl, ?hy9_42⟩) hH ?ha9_42 ?_
  case hy9_42 => (rintro w' ⟨s0, s1⟩; exact ld_op rfl rfl s1 (cel35 (K0.b HB.out)).st)
  case ha9_42 => (simp only [Act.put, List.setIfInBounds_toArray, List.set_cons_zero, List.set_cons_succ, i64_w, i32_w]; rfl)
  refine one_ (i := 2) (N := some 43) #[true, true, true, false, false] rfl rfl (by kernel_rfl) (by decide) (fun K hK => ?_)
  refine goes_ Try.func22 (by kernel_rfl) rfl #[.agg b0] (by rfl) rfl rfl (by (try simp only [List.map_toArray, List.map_cons, List.map_nil]); first | done | rfl) ?_
  refine (laws_toValue.kc k x0 b0 (⟨t2.1, t2.2.1, t2.2.2.1, t2.2.2.2.1, t2.2.2.2.2⟩ : S40) _ (K0.b HB.out) A2.out).mono ?_
  rintro e w10 ⟨b_43, rfl, ho, hb⟩
  refine ⟨_, rfl, ?_⟩
  replace X1 := X1.b hb; replace O22 := O22.b hb; replace O26 := O26.b hb; replace X6 := X6.b hb; replace O29 := O29.b hb; have z10 := hb.size; replace HB := Bw.sw w hb
  have O43 := ho
  refine hK.out _ _ ⟨X6, X1⟩ (fun hH => ?_)
  clear hK K hb ho
  refine norm_ (a' := ?_) ?_ ?_
  rotate_left
  ·show Act.put _ (some 43) _ = _
   simp only [Act.put, List.setIfInBounds_toArray, List.set_cons_zero, List.set_cons_succ, i64_w, i32_w]
   rfl
  refine one_ (i := 3) (N := some 44) #[true, true, true, true, false] rfl rfl (by kernel_rfl) (by decide) (fun K hK => ?_)
  refine goes_ Try.func24 (by kernel_rfl) rfl #[.agg b_26, .agg b_43] (by rfl) rfl rfl (by (try simp only [List.map_toArray, List.map_cons, List.map_nil]); first | done | rfl) ?_
  refine (laws_eqValue.kc k (⟨t2.1, t2.2.1, t2.2.2.1, t2.2.2.2.1, t2.2.2.2.2⟩ : S40) b_26 (⟨t2.1, t2.2.1, t2.2.2.1, t2.2.2.2.1, t2.2.2.2.2⟩ : S40) b_43 true _ O26.rd O43.rd A6.out).mono ?_
  rintro e w11 ⟨rfl, hb⟩
  refine ⟨_, rfl, ?_⟩
  replace X1 := X1.b hb; replace O22 := O22.b hb; replace O26 := O26.b hb; replace X6 := X6.b hb; replace O29 := O29.b hb; replace O43 := O43.b hb; have z11 := hb.size; replace HB := Bw.sw w hb
  refine hK.out _ _ ⟨X6, X1⟩ (fun hH => ?_)
  clear hK K hb
  refine norm_ (a' := ?_) ?_ ?_
  rotate_left
  ·show Act.put _ (some 44) _ = _
   simp only [Act.put, List.setIfInBounds_toArray, List.set_cons_zero, List.set_cons_succ, i64_w, i32_w]
   rfl
  refine pure_ (i := 4) (N := some 45) (v := ?_) (a' := ?_) #[true, true, true, true, true] rfl rfl (by kernel_rfl) (fun _ _ _ h => h) (Or.inl ⟨by rfl, ?_⟩) ?_ ?_
  rotate_left
  ·intro w'
   go_simp
   with_reducible rfl
  rotate_left
  ·simp only [Act.put, List.setIfInBounds_toArray, List.set_cons_zero, List.set_cons_succ, i64_w, i32_w]
   rfl
  refine done_ (by kernel_rfl) ?_
  go_wp2_with (first
    | ((with_reducible refine gate_dst (N := 46) rfl ?_); refine ldb (some 46) rfl rfl rfl rfl X6 (cel40 O26.rd).st ?_; simp only [Act.put, List.setIfInBounds_toArray, List.set_cons_zero, List.set_cons_succ])
    | ((with_reducible refine gate_dst (N := 48) rfl ?_); refine gg (some 48) rfl rfl rfl fr34 ?_; refine onc (laws_markValue.kc (⟨t2.1, t2.2.1, t2.2.2.1, t2.2.2.2.1, t2.2.2.2.2⟩ : S40) b_26 1 _ (by omega) G7.out (by omega) O26) rfl ?_; rintro e w12 ⟨kk48, rfl, hkk, ho⟩; refine ⟨_, rfl, ?_⟩; replace X1 := X1.mv ho (by omega); replace O22 := O22.mv ho (by omega); replace O29 := O29.mv ho (by omega); have z12 := ho.size; replace HB := Bw.mk (w := w) (ho.below HB.out (by omega)); have qk48 : decide (kk48 < 0) = false := decide_eq_false (by omega); clear ho; simp only [Act.put, List.setIfInBounds_toArray, List.set_cons_zero, List.set_cons_succ])
    | ((with_reducible refine gate_dst (N := 54) rfl ?_); refine ggw (some 54) rfl (by rfl) rfl fr45 ?_; refine onc (laws_eqByteS.kc k t4_1 v_29 t3_1 v_22 true _ O29.rd O22.rd A5.out) rfl ?_; rintro e w13 ⟨rfl, hb⟩; refine ⟨_, rfl, ?_⟩; replace X1 := X1.b hb; replace O22 := O22.b hb; replace O29 := O29.b hb; have z13 := hb.size; replace HB := Bw.sw w hb; clear hb; simp only [Act.put, List.setIfInBounds_toArray, List.set_cons_zero, List.set_cons_succ])
    | ((with_reducible refine gate_dst (N := 64) rfl ?_); refine gg (some 64) rfl rfl rfl fr46 ?_; refine onc (laws_markByteS.kc t4_1 v_29 1 t10 _ (by omega) G8.out (by omega) A9.out O29) rfl ?_; rintro e w14 ⟨rfl, hn, ho⟩; refine ⟨_, rfl, ?_⟩; replace X1 := X1.mv ho (by omega); replace O22 := O22.mv ho (by omega); have z14 := ho.size; replace HB := Bw.mk (w := w) (ho.below HB.out (by omega)); replace O29 := hn; clear hn; clear ho; simp only [Act.put, List.setIfInBounds_toArray, List.set_cons_zero, List.set_cons_succ])
    | ((with_reducible refine gate_dst (N := 67) rfl ?_); refine gg (some 67) rfl rfl rfl fr47 ?_; refine onc (laws_heldByteS.kc k (mk 1 t4_1.length) v_29 1 t10 _ O29.rd A10.out) rfl ?_; rintro e w15 ⟨rfl, hb⟩; refine ⟨_, rfl, ?_⟩; replace X1 := X1.b hb; replace O22 := O22.b hb; replace O29 := O29.b hb; have z15 := hb.size; replace HB := Bw.sw w hb; clear hb; simp only [Act.put, List.setIfInBounds_toArray, List.set_cons_zero, List.set_cons_succ])
    | ((with_reducible refine gate_dst (N := 74) rfl ?_); refine ldb (some 74) rfl rfl rfl rfl X1 (cel35 (K0.b HB.out)).st ?_; simp only [Act.put, List.setIfInBounds_toArray, List.set_cons_zero, List.set_cons_succ])
    | ((with_reducible refine gate_dst (N := 75) rfl ?_); refine gg (some 75) rfl rfl rfl fr22 ?_; refine onc (laws_toValue.kc k x0 b0 (⟨t2.1, t2.2.1, t2.2.2.1, t2.2.2.2.1, t2.2.2.2.2⟩ : S40) _ (K0.b HB.out) A2.out) rfl ?_; rintro e w16 ⟨b_75, rfl, ho, hb⟩; refine ⟨_, rfl, ?_⟩; replace O22 := O22.b hb; replace O29 := O29.b hb; have z16 := hb.size; replace HB := Bw.sw w hb; have O75 := ho; clear ho hb; simp only [Act.put, List.setIfInBounds_toArray, List.set_cons_zero, List.set_cons_succ])
    | ((with_reducible refine gate_dst (N := 76) rfl ?_); refine gg (some 76) rfl rfl rfl fr44 ?_; refine onc (impl_ValBytes.kc k (⟨t2.1, t2.2.1, t2.2.2.1, t2.2.2.2.1, t2.2.2.2.2⟩ : S40) b_75 t4_1 t4_2 _ O75.rd A4.out) rfl ?_; rintro e w17 ⟨v_76, rfl, ho, hb⟩; refine ⟨_, rfl, ?_⟩; replace O22 := O22.b hb; replace O29 := O29.b hb; have z17 := hb.size; replace HB := Bw.sw w hb; have O76 := ho; clear ho hb; simp only [Act.put, List.setIfInBounds_toArray, List.set_cons_zero, List.set_cons_succ])
    | ((with_reducible refine gate_dst (N := 81) rfl ?_); refine gg (some 81) rfl rfl rfl fr45 ?_; refine onc (laws_eqByteS.kc k t4_1 v_76 t3_1 v_22 true _ O76.rd O22.rd A5.out) rfl ?_; rintro e w18 ⟨rfl, hb⟩; refine ⟨_, rfl, ?_⟩; replace O29 := O29.b hb; have z18 := hb.size; replace HB := Bw.sw w hb; clear hb; simp only [Act.put, List.setIfInBounds_toArray, List.set_cons_zero, List.set_cons_succ])
    | ((with_reducible refine gate_dst (N := 90) rfl ?_); refine gg (some 90) rfl rfl rfl fr47 ?_; refine onc (laws_heldByteS.kc k (mk 1 t4_1.length) v_29 1 t10 _ O29.rd A10.out) rfl ?_; rintro e w19 ⟨rfl, hb⟩; refine ⟨_, rfl, ?_⟩; have z19 := hb.size; replace HB := Bw.sw w hb; clear hb; simp only [Act.put, List.setIfInBounds_toArray, List.set_cons_zero, List.set_cons_succ]))
  go_ret
  exact ⟨by first | rfl | simp, HB.out⟩
end Go.Proofs.Ytmigpeaiepdmbaa.PFnExactValBytes
