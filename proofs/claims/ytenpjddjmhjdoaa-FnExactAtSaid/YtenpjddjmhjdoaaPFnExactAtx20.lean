/- The law, walked: by contracts over whole values. No condition. -/
import Derived.Test.YtenpjddjmhjdoaaPFnExactAtx0
import Derived.Test.YtenpjddjmhjdoaaPFnExactAtx1
import Derived.Test.YtenpjddjmhjdoaaPFnExactAtx2
import Derived.Test.YtenpjddjmhjdoaaPFnExactAtx3
import Derived.Test.YtenpjddjmhjdoaaPFnExactAtx4
import Derived.Test.YtenpjddjmhjdoaaPFnExactAtx5
import Derived.Test.YtenpjddjmhjdoaaPFnExactAtx10
import Derived.Test.YtenpjddjmhjdoaaPFnExactAtx17
import Derived.Test.YtenpjddjmhjdoaaPFnExactAtx19
import Derived.Test.YtenpjddjmhjdoaaMlaw
import Derived.Test.YtenpjddjmhjdoaaMmark
import Derived.Test.YtenpjddjmhjdoaaMstepm
namespace Go.Proofs.Ytenpjddjmhjdoaa.PFnExactAt
open Go.RowKit Go.Proofs.YtenpjddjmhjdoaaW.PrintWords Go.Proofs.YtenpjddjmhjdoaaW.PrintLast Go.Proofs.YtenpjddjmhjdoaaW.PrintMore Go.Proofs.Ytenpjddjmhjdoaa.M
attribute [local go_sem] max2_int min2_int max_two min_two max_three min_three max_four min_four Go.Proofs.Ytenpjddjmhjdoaa.M.str_gtr Go.Proofs.Ytenpjddjmhjdoaa.M.str_leq Go.Proofs.Ytenpjddjmhjdoaa.M.str_geq   -- for this text's walks alone
set_option linter.unusedVariables false
set_option linter.unusedSimpArgs false
def zs26 : Array Value := #[.int .i64 0, .int .i64 0, .slice none 0 0, .slice none 0 0, .slice none 0 0]
theorem cel26 {w : World} {x : S26} {b : Array Value} (h : Rd k26 w x b.toList) : Cel Try.prog 26 zs26 b := by
  have h1 := k26_open h.k
  obtain ⟨A2, c2, A3, c3, A4, c4, e, _⟩ := h1
  obtain rfl : b = #[.int .i64 x.f0, .int .i64 x.f1, .slice A2 x.f2.length c2, .slice A3 x.f3.length c3, .slice A4 x.f4.length c4] := by rw [← b.toArray_toList, e]
  exact ⟨⟨⟨_, Try.underlying26⟩, by kernel_rfl⟩, by kernel_rfl, rfl, by rw [← Array.all_toList]; exact List.all_eq_true.2 (k26.K_one h.k)⟩
theorem laws_szValue.kc (k : Nat) (x0 : S26) (b0 : Array Value) (a1 : Int) (r : Int) (w : World) (h0 : Rd k26 w x0 b0.toList) (h : laws_szValue.f k x0.f0 x0.f1 x0.f2 x0.f3 x0.f4 a1 = some r) :
  Calls Try.prog 12 #[.agg b0, .int .i64 a1] w fun e w' => e = .returned (.int .i64 r) ∧ Below w.heap.size w w' := by
  obtain ⟨A2_0, c2_0, A3_0, c3_0, A4_0, c4_0, e0, l2_0, g2_0, l3_0, g3_0, l4_0, g4_0⟩ := k26_open h0.k
  obtain rfl : b0 = #[.int .i64 x0.f0, .int .i64 x0.f1, .slice A2_0 x0.f2.length c2_0, .slice A3_0 x0.f3.length c3_0, .slice A4_0 x0.f4.length c4_0] := by rw [← b0.toArray_toList, e0]
  refine (laws_szValue.calls k x0.f0 x0.f1 _ _ x0.f2 _ _ x0.f3 _ _ x0.f4 a1 r w g2_0 l2_0 g3_0 l3_0 g4_0 l4_0 h).mono ?_
  rintro e w' ⟨rfl, hb⟩
  exact ⟨rfl, hb⟩
theorem laws_szStepS.kc (k : Nat) (l0 : List (S102)) (v0 : Value) (a1 : Int) (r : Int) (w : World) (h0 : Rd (Kd.slice 102 k102) w l0 [v0]) (h : laws_szStepS.f k l0 a1 = some r) :
  Calls Try.prog 41 #[v0, .int .i64 a1] w fun e w' => e = .returned (.int .i64 r) ∧ Below w.heap.size w w' := by
  obtain ⟨A0, c0, e0, lc0, g0⟩ := h0.k
  injection e0 with e0
  subst e0
  refine (laws_szStepS.calls k _ _ l0 a1 r w g0 lc0 h).mono ?_
  rintro e w' ⟨rfl, hb⟩
  exact ⟨rfl, hb⟩
def zs30 : Array Value := #[.int .i64 0, .int .i64 0, .slice none 0 0, .slice none 0 0, .slice none 0 0]
theorem cel30 {w : World} {x : S30} {b : Array Value} (h : Rd k30 w x b.toList) : Cel Try.prog 30 zs30 b := by
  have h1 := k30_open h.k
  obtain ⟨A2, c2, A3, c3, A4, c4, e, _⟩ := h1
  obtain rfl : b = #[.int .i64 x.f0, .int .i64 x.f1, .slice A2 x.f2.length c2, .slice A3 x.f3.length c3, .slice A4 x.f4.length c4] := by rw [← b.toArray_toList, e]
  exact ⟨⟨⟨_, Try.underlying30⟩, by kernel_rfl⟩, by kernel_rfl, rfl, by rw [← Array.all_toList]; exact List.all_eq_true.2 (k30.K_one h.k)⟩
theorem laws_toValue.kc (k : Nat) (x0 : S26) (b0 : Array Value) (y : S30) (w : World) (h0 : Rd k26 w x0 b0.toList) (h : laws_toValue.f k x0.f0 x0.f1 x0.f2 x0.f3 x0.f4 = some (y.f0, y.f1, y.f2, y.f3, y.f4)) :
  Calls Try.prog 14 #[.agg b0] w fun e w' => ∃ b : Array Value, e = .returned (.agg b) ∧ Own k30 w' w.heap.size w'.heap.size y b.toList ∧ Below w.heap.size w w' := by
  obtain ⟨A2_0, c2_0, A3_0, c3_0, A4_0, c4_0, e0, l2_0, g2_0, l3_0, g3_0, l4_0, g4_0⟩ := k26_open h0.k
  obtain rfl : b0 = #[.int .i64 x0.f0, .int .i64 x0.f1, .slice A2_0 x0.f2.length c2_0, .slice A3_0 x0.f3.length c3_0, .slice A4_0 x0.f4.length c4_0] := by rw [← b0.toArray_toList, e0]
  refine (laws_toValue.calls k x0.f0 x0.f1 _ _ x0.f2 _ _ x0.f3 _ _ x0.f4 y.f0 y.f1 y.f2 y.f3 y.f4 w g2_0 l2_0 g3_0 l3_0 g4_0 l4_0 h).mono ?_
  rintro e w' ⟨v0_, v1_, v2_, rfl, g0, g1, g2, hb⟩
  exact ⟨_, rfl, Own.of (k30_mkM w' w.heap.size (fun _ => True) y (Kd.R_mono (g0) (fun _ _ => trivial)) (Kd.R_mono (Kd.S_R g1) (fun _ _ => trivial)) (Kd.R_mono (g2) (fun _ _ => trivial))) hb.size, hb⟩
theorem laws_toStepS.kc (k : Nat) (l0 : List (S102)) (v0 : Value) (r : List (S79)) (w : World) (h0 : Rd (Kd.slice 102 k102) w l0 [v0]) (h : laws_toStepS.f k l0 = some r) :
  Calls Try.prog 43 #[v0] w fun e w' => ∃ v : Value, e = .returned v ∧ OwnS k79 79 w' w.heap.size w'.heap.size r v ∧ Below w.heap.size w w' := by
  obtain ⟨A0, c0, e0, lc0, g0⟩ := h0.k
  injection e0 with e0
  subst e0
  refine (laws_toStepS.calls k _ _ l0 r w g0 lc0 h).mono ?_
  rintro e w' ⟨v, rfl, g, hb⟩
  exact ⟨_, rfl, OwnS.of g (Below.size (hb)), hb⟩
theorem laws_eqValue.kc (k : Nat) (x0 : S30) (b0 : Array Value) (x1 : S30) (b1 : Array Value) (r : Bool) (w : World) (h0 : Rd k30 w x0 b0.toList) (h1 : Rd k30 w x1 b1.toList) (h : laws_eqValue.f k x0.f0 x0.f1 x0.f2 x0.f3 x0.f4 x1.f0 x1.f1 x1.f2 x1.f3 x1.f4 = some r) :
  Calls Try.prog 17 #[.agg b0, .agg b1] w fun e w' => e = .returned (.bool r) ∧ Below w.heap.size w w' := by
  obtain ⟨A2_0, c2_0, A3_0, c3_0, A4_0, c4_0, e0, l2_0, g2_0, l3_0, g3_0, l4_0, g4_0⟩ := k30_open h0.k
  obtain rfl : b0 = #[.int .i64 x0.f0, .int .i64 x0.f1, .slice A2_0 x0.f2.length c2_0, .slice A3_0 x0.f3.length c3_0, .slice A4_0 x0.f4.length c4_0] := by rw [← b0.toArray_toList, e0]
  obtain ⟨A2_1, c2_1, A3_1, c3_1, A4_1, c4_1, e1, l2_1, g2_1, l3_1, g3_1, l4_1, g4_1⟩ := k30_open h1.k
  obtain rfl : b1 = #[.int .i64 x1.f0, .int .i64 x1.f1, .slice A2_1 x1.f2.length c2_1, .slice A3_1 x1.f3.length c3_1, .slice A4_1 x1.f4.length c4_1] := by rw [← b1.toArray_toList, e1]
  refine (laws_eqValue.calls k x0.f0 x0.f1 _ _ x0.f2 _ _ x0.f3 _ _ x0.f4 x1.f0 x1.f1 _ _ x1.f2 _ _ x1.f3 _ _ x1.f4 r w g2_0 l2_0 g3_0 l3_0 g4_0 l4_0 g2_1 l2_1 g3_1 l3_1 g4_1 l4_1 h).mono ?_
  rintro e w' ⟨rfl, hb⟩
  exact ⟨rfl, hb⟩
theorem laws_eqStepS.kc (k : Nat) (l0 : List (S79)) (v0 : Value) (l1 : List (S79)) (v1 : Value) (r : Bool) (w : World) (h0 : Rd (Kd.slice 79 k79) w l0 [v0]) (h1 : Rd (Kd.slice 79 k79) w l1 [v1]) (h : laws_eqStepS.f k l0 l1 = some r) :
  Calls Try.prog 45 #[v0, v1] w fun e w' => e = .returned (.bool r) ∧ Below w.heap.size w w' := by
  obtain ⟨A0, c0, e0, lc0, g0⟩ := h0.k
  injection e0 with e0
  subst e0
  obtain ⟨A1, c1, e1, lc1, g1⟩ := h1.k
  injection e1 with e1
  subst e1
  refine (laws_eqStepS.calls k _ _ l0 _ _ l1 r w g0 lc0 g1 lc1 h).mono ?_
  rintro e w' ⟨rfl, hb⟩
  exact ⟨rfl, hb⟩
mutual
def sh30 : S30 → Sh
  | ⟨_, _, s, k, l⟩ => .mk s.length (k.map List.length) (shs30 l)
def shs30 : List S30 → List Sh
  | [] => []
  | x :: l => sh30 x :: shs30 l
end
mutual
def m30 : S30 → Nat
  | ⟨_, _, s, k, l⟩ => s.length + (k.length + mL k + (l.length + ms30 l))
def ms30 : List S30 → Nat
  | [] => 0
  | x :: l => m30 x + ms30 l
end
mutual
theorem c30 : ∀ x : S30, cV (sh30 x) ≤ 2 * m30 x
  | ⟨_, _, s, k, l⟩ => by have := cs30 l; have := cBs_map k; simp only [sh30, m30, cV]; omega
theorem cs30 : ∀ l : List S30, cVs (shs30 l) ≤ 2 * (l.length + ms30 l)
  | [] => by simp [shs30, cVs]
  | x :: l => by have := c30 x; have := cs30 l; simp only [shs30, ms30, cVs, List.length_cons]; omega
end
theorem shs30_len : ∀ l : List S30, (shs30 l).length = l.length
  | [] => rfl
  | x :: l => by simp only [shs30, List.length_cons, shs30_len l]
theorem shs30_at : ∀ (l : List S30) (i : Nat) (x : S30), l[i]? = some x → (shs30 l).getD i (.mk 0 [] []) = sh30 x
  | [], i, x, h => by simp at h
  | y :: l, 0, x, h => by simp at h; subst h; rfl
  | y :: l, i + 1, x, h => by simpa [shs30] using shs30_at l i x (by simpa using h)
mutual
theorem ok30 : ∀ x : S30, m30 x ≤ 4611686018427387904 → okV (sh30 x)
  | ⟨_, _, s, k, l⟩, h => by
    simp only [m30] at h
    exact ⟨by rw [List.length_map]; omega, oks30 l (by omega)⟩
theorem oks30 : ∀ l : List S30, l.length + ms30 l ≤ 4611686018427387904 → okVs (shs30 l)
  | [], _ => trivial
  | x :: l, h => by
    simp only [ms30, List.length_cons] at h
    exact ⟨by rw [shs30_len]; omega, ok30 x (by omega), oks30 l (by omega)⟩
end
theorem shT30 {lo hi : Nat} {w : World} : ∀ (n : Nat) (x : S30) (base : Nat) (ok : Nat → Prop) (cs : List Value), SizeOf.sizeOf x ≤ n → (∀ k, ok k → lo ≤ k ∧ k < hi) → k30.M w base ok x cs → ShT 5 22 30 w lo hi n (sh30 x) cs
  | 0, ⟨_, _, s, k, l⟩, base, ok, cs, hs, _, _ => by simp at hs
  | n + 1, ⟨i, j, s, k, l⟩, base, ok, cs, hs, hok, h => by
    obtain ⟨v2, v3, v4, rfl, h2, h3, h4⟩ := k30_openM h
    refine ⟨i, j, v2, v3, v4, rfl, ByT.of_R h2 hok, BsT.of_R h3 hok, ?_⟩
    simp only [sh30, Sh.l]
    rw [shs30_len]
    refine Row.of_R h4 hok _ fun q x c hx hm => ?_
    rw [shs30_at l q x hx]
    have hm2 : x ∈ l := List.mem_of_getElem? hx
    have := List.sizeOf_lt_of_mem hm2
    exact shT30 n x base ok c (by simp at hs; omega) hok hm
theorem laws_markValue.kc (x0 : S30) (b0 : Array Value) (k : Int) (w : World) {lo hi : Nat} (hk : 0 ≤ k) (hm : m30 x0 ≤ 1099511627776) (hk2 : k ≤ 17592186044416) (h0 : Own k30 w lo hi x0 b0.toList) :
    Calls Try.prog 19 #[.agg b0, .int .i64 k] w fun e w' => ∃ kk : Int, e = .returned (.int .i64 kk) ∧ 0 ≤ kk ∧ kk ≤ k + 2199023255552 ∧ M.Outside lo hi w w' := by
  have h1 := shT30 (SizeOf.sizeOf x0) x0 _ _ _ (Nat.le_refl _) (fun _ h => h) h0.m
  have h2 := c30 x0
  refine (markValue_out lo hi (SizeOf.sizeOf x0) (sh30 x0) b0 k w hk (by omega) (ok30 x0 (by omega)) h1 h0.le).mono ?_
  rintro e w' ⟨rfl, g⟩
  exact ⟨_, rfl, by omega, by omega, g⟩
theorem laws_markStepS.kc (l0 : List S79) (v0 : Value) (k : Int) (w : World) {lo hi : Nat} (hk : 0 ≤ k) (hm : cSs (l0.map fun x => x.f1.length) ≤ 1099511627776) (hk2 : k ≤ 17592186044416) (h0 : Own (Kd.slice 79 k79) w lo hi l0 [v0]) :
    Calls Try.prog 46 #[v0, .int .i64 k] w fun e w' => ∃ kk : Int, e = .returned (.int .i64 kk) ∧ 0 ≤ kk ∧ kk ≤ k + 2199023255552 ∧ M.Outside lo hi w w' := by
  obtain ⟨v, e, h1⟩ := h0.m
  injection e with e
  subst e
  have h2 : StT w lo hi 5 79 v0 (l0.map fun x => x.f1.length) := by
    have := Row.of_R h1 (fun _ h => h) (StE w lo hi 5 (l0.map fun x => x.f1.length)) fun i x cs hx hm => by
      obtain ⟨v1, rfl, g1⟩ := k79_openM hm
      refine ⟨_, _, _, rfl, ?_⟩
      rw [List.getD_eq_getElem?_getD, List.getElem?_map, hx]
      exact ByT.of_R g1 (fun _ h => h)
    unfold StT
    rw [List.length_map]
    exact this
  refine (markStepS_out lo hi _ v0 k w hk (by omega) h2).mono ?_
  rintro e w' ⟨rfl, _, g⟩
  exact ⟨_, rfl, by omega, by omega, g⟩
theorem laws_heldValue.kc (k : Nat) (x0 : S30) (b0 : Array Value) (a1 : Int) (r : Int) (w : World) (h0 : Rd k30 w x0 b0.toList) (h : laws_heldValue.f k x0.f0 x0.f1 x0.f2 x0.f3 x0.f4 a1 = some r) :
  Calls Try.prog 21 #[.agg b0, .int .i64 a1] w fun e w' => e = .returned (.int .i64 r) ∧ Below w.heap.size w w' := by
  obtain ⟨A2_0, c2_0, A3_0, c3_0, A4_0, c4_0, e0, l2_0, g2_0, l3_0, g3_0, l4_0, g4_0⟩ := k30_open h0.k
  obtain rfl : b0 = #[.int .i64 x0.f0, .int .i64 x0.f1, .slice A2_0 x0.f2.length c2_0, .slice A3_0 x0.f3.length c3_0, .slice A4_0 x0.f4.length c4_0] := by rw [← b0.toArray_toList, e0]
  refine (laws_heldValue.calls k x0.f0 x0.f1 _ _ x0.f2 _ _ x0.f3 _ _ x0.f4 a1 r w g2_0 l2_0 g3_0 l3_0 g4_0 l4_0 h).mono ?_
  rintro e w' ⟨rfl, hb⟩
  exact ⟨rfl, hb⟩
theorem fr41 : Fr Try.prog 41 := ⟨_, Try.func41, by kernel_rfl, rfl⟩
theorem fr43 : Fr Try.prog 43 := ⟨_, Try.func43, by kernel_rfl, rfl⟩
theorem fr42 : Fr Try.prog 42 := ⟨_, Try.func42, by kernel_rfl, rfl⟩
theorem fr44 : Fr Try.prog 44 := ⟨_, Try.func44, by kernel_rfl, rfl⟩
theorem fr17 : Fr Try.prog 17 := ⟨_, Try.func17, by kernel_rfl, rfl⟩
theorem fr45 : Fr Try.prog 45 := ⟨_, Try.func45, by kernel_rfl, rfl⟩
theorem fr19 : Fr Try.prog 19 := ⟨_, Try.func19, by kernel_rfl, rfl⟩
theorem fr46 : Fr Try.prog 46 := ⟨_, Try.func46, by kernel_rfl, rfl⟩
theorem ldw {P : Program} {ops : Array Oper} {Q : Exit → Act → World → Prop} {rest : List Oper} {oi : Oper} {a : Act} {w : World} {bs : Array Value} {t p b : Nat} (N : Option Tmp) (hd : oi.dst = N) (hw : Region.wanted oi (yielded ops a.tmps) = true) (ho : oi.op = .load t (.tmp p)) (hx : a.eval (.tmp p) = .pointer (some ⟨b, 0, none⟩)) (h : Bx w b t bs) (hs : St P t bs.size)
    (k : wpList P ops Q rest (a.put N (.agg bs)) w) : wpList P ops Q (oi :: rest) a w := by
  subst hd
  refine wpList_step fun K hK => ?_
  rw [if_pos hw]
  unfold Oper.wp
  rw [ld_op ho hx h hs]
  exact hK _ _ k

theorem fr21 : Fr Try.prog 21 := ⟨_, Try.func21, by kernel_rfl, rfl⟩
def laws_FnExactAt.f (k : Nat) (a0_0 : Int) (a0_1 : Int) (l0_2 : (List Int)) (l0_3 : (List (List Int))) (l0_4 : (List S26)) (l1 : List S102) : Option Bool := (laws_szValue.f k a0_0 a0_1 l0_2 l0_3 l0_4 1048576).bind fun t1 => if t1 < 0 then some true else (laws_szStepS.f k l1 t1).bind fun t2 => if t2 < 0 then some true else (laws_toValue.f k a0_0 a0_1 l0_2 l0_3 l0_4).bind fun t3 => (laws_toStepS.f k l1).bind fun t4 => (spec_At.f k t3.1 t3.2.1 t3.2.2.1 t3.2.2.2.1 t3.2.2.2.2 t4).bind fun t5 => (impl_At.g k t3.1 t3.2.1 t3.2.2.1 t3.2.2.2.1 t3.2.2.2.2 t4).bind fun t6 => (laws_eqValue.f k t6.1.f0 t6.1.f1 t6.1.f2 t6.1.f3 t6.1.f4 t5.1 t5.2.1 t5.2.2.1 t5.2.2.2.1 t5.2.2.2.2.1).bind fun t7 => if t7 = true then if t6.2 = t5.2.2.2.2.2 then (laws_eqValue.f k t3.1 t3.2.1 t3.2.2.1 t3.2.2.2.1 t3.2.2.2.2 t3.1 t3.2.1 t3.2.2.1 t3.2.2.2.1 t3.2.2.2.2).bind fun t8 => if t8 = true then (laws_eqStepS.f k t4 t4).bind fun t9 => if t9 = true then if m30 (⟨t3.1, t3.2.1, t3.2.2.1, t3.2.2.2.1, t3.2.2.2.2⟩ : S30) ≤ 1099511627776 then if cSs (t4.map fun x => x.f1.length) ≤ 1099511627776 then if dsV t6.1 ≤ 1099511627776 then (some (1 + (dnV t6.1 : Nat)) : Option Int).bind fun t13 => (laws_heldValue.f k ((dmkV 1 t6.1).f0) ((dmkV 1 t6.1).f1) ((dmkV 1 t6.1).f2) ((dmkV 1 t6.1).f3) ((dmkV 1 t6.1).f4) 1).bind fun t14 => if t14 < 0 then some false else if t14 = t13 then some true else some false else some false else some false else some false else some false else some false else some false else some false
set_option maxRecDepth 100000 in
set_option maxHeartbeats 8000000 in
theorem laws_FnExactAt.calls (k : Nat) (x0 : S26) (b0 : Array Value) (l1 : List S102) (v1 : Value) (w : World) (K0 : Rd k26 w x0 b0.toList) (K1 : Rd (Kd.slice 102 k102) w l1 [v1]) (h : laws_FnExactAt.f k x0.f0 x0.f1 x0.f2 x0.f3 x0.f4 l1 = some true) :
  Calls Try.prog 9 #[.agg b0, v1] w fun e w' => e = .returned (.bool true) ∧ Below w.heap.size w w' := by
  unfold laws_FnExactAt.f at h
  obtain ⟨A_1, c_1, e, hc1, hr1⟩ := id K1.k
  injection e with e
  subst e
  clear hc1 hr1
  have HB := Bw.refl w
  have h9 := bnd h; clear h; obtain ⟨t1, A1, h⟩ := h9
  replace A1 := Aside0.mk A1
  by_cases c : t1 < 0
  ·have cb : decide (t1 < 0) = true := decide_eq_true c
   clear c h
   go_enter Try.func9, Try.ntmps9
   go_wp2_with (first
     | ((with_reducible refine gate_dst (N := 2) rfl ?_); refine bxb (bs := b0) 2 rfl rfl rfl rfl ?_; intro p2 w1 hx hb hle hlt; have z1 := hb.size; replace HB := Bw.sw w hb; have X2 := hx; clear hx hb; have y2a := hle; have y2b := hlt; clear hle hlt; simp only [Act.put, List.setIfInBounds_toArray, List.set_cons_zero, List.set_cons_succ])
     | ((with_reducible refine gate_dst (N := 17) rfl ?_); refine ldb (some 17) rfl rfl rfl rfl X2 (cel26 (K0.b HB.out)).st ?_; simp only [Act.put, List.setIfInBounds_toArray, List.set_cons_zero, List.set_cons_succ])
     | ((with_reducible refine gate_dst (N := 19) rfl ?_); refine gg (some 19) rfl rfl rfl fr12 ?_; refine onc (laws_szValue.kc k x0 b0 1048576 t1 _ (K0.b HB.out) A1.out) rfl ?_; rintro e w2 ⟨rfl, hb⟩; refine ⟨_, rfl, ?_⟩; have z2 := hb.size; replace HB := Bw.sw w hb; clear hb; simp only [Act.put, List.setIfInBounds_toArray, List.set_cons_zero, List.set_cons_succ]))
   go_ret
   exact ⟨by first | rfl | simp, HB.out⟩
  rw [if_neg c] at h
  replace c : decide (t1 < 0) = false := decide_eq_false c
  have q15 := c
  clear c
  have h9 := bnd h; clear h; obtain ⟨t2, A2, h⟩ := h9
  replace A2 := Aside0.mk A2
  by_cases c : t2 < 0
  ·have cb : decide (t2 < 0) = true := decide_eq_true c
   clear c h
   go_enter Try.func9, Try.ntmps9
   go_wp2_with (first
     | ((with_reducible refine gate_dst (N := 2) rfl ?_); refine bxb (bs := b0) 2 rfl rfl rfl rfl ?_; intro p2 w1 hx hb hle hlt; have z1 := hb.size; replace HB := Bw.sw w hb; have X2 := hx; clear hx hb; have y2a := hle; have y2b := hlt; clear hle hlt; simp only [Act.put, List.setIfInBounds_toArray, List.set_cons_zero, List.set_cons_succ])
     | ((with_reducible refine gate_dst (N := 17) rfl ?_); refine ldb (some 17) rfl rfl rfl rfl X2 (cel26 (K0.b HB.out)).st ?_; simp only [Act.put, List.setIfInBounds_toArray, List.set_cons_zero, List.set_cons_succ])
     | ((with_reducible refine gate_dst (N := 19) rfl ?_); refine gg (some 19) rfl rfl rfl fr12 ?_; refine onc (laws_szValue.kc k x0 b0 1048576 t1 _ (K0.b HB.out) A1.out) rfl ?_; rintro e w2 ⟨rfl, hb⟩; refine ⟨_, rfl, ?_⟩; have z2 := hb.size; replace HB := Bw.sw w hb; clear hb; simp only [Act.put, List.setIfInBounds_toArray, List.set_cons_zero, List.set_cons_succ])
     | ((with_reducible refine gate_dst (N := 24) rfl ?_); refine gg (some 24) rfl rfl rfl fr41 ?_; refine onc (laws_szStepS.kc k l1 (.slice A_1 l1.length c_1) t1 t2 _ (K1.b HB.out) A2.out) rfl ?_; rintro e w3 ⟨rfl, hb⟩; refine ⟨_, rfl, ?_⟩; have z3 := hb.size; replace HB := Bw.sw w hb; clear hb; simp only [Act.put, List.setIfInBounds_toArray, List.set_cons_zero, List.set_cons_succ]))
   go_ret
   exact ⟨by first | rfl | simp, HB.out⟩
  rw [if_neg c] at h
  replace c : decide (t2 < 0) = false := decide_eq_false c
  have q16 := c
  clear c
  have h9 := bnd h; clear h; obtain ⟨t3, A3, h⟩ := h9
  replace A3 := Aside0.mk A3
  have h9 := bnd h; clear h; obtain ⟨t4, A4, h⟩ := h9
  replace A4 := Aside0.mk A4
  have h9 := bnd h; clear h; obtain ⟨t5, A5, h⟩ := h9
  replace A5 := Aside0.mk A5
  obtain ⟨t5_1, t5_2, t5_3, t5_4, t5_5, t5_6⟩ := t5
  try dsimp only at h
  have h9 := bnd h; clear h; obtain ⟨t6, A6, h⟩ := h9
  replace A6 := Aside0.mk A6
  obtain ⟨t6_1, t6_2⟩ := t6
  try dsimp only at h
  have h9 := bnd h; clear h; obtain ⟨t7, A7, h⟩ := h9
  replace A7 := Aside0.mk A7
  have h9 := yes h; clear h; obtain ⟨c, h⟩ := h9
  subst c
  have h9 := yes h; clear h; obtain ⟨c, h⟩ := h9
  subst c
  have h9 := bnd h; clear h; obtain ⟨t8, A8, h⟩ := h9
  replace A8 := Aside0.mk A8
  have h9 := yes h; clear h; obtain ⟨c, h⟩ := h9
  subst c
  have h9 := bnd h; clear h; obtain ⟨t9, A9, h⟩ := h9
  replace A9 := Aside0.mk A9
  have h9 := yes h; clear h; obtain ⟨c, h⟩ := h9
  subst c
  have h9 := yes h; clear h; obtain ⟨G10, h⟩ := h9; replace G10 := Aside0.mk G10
  have h9 := yes h; clear h; obtain ⟨G11, h⟩ := h9; replace G11 := Aside0.mk G11
  have h9 := yes h; clear h; obtain ⟨G12, h⟩ := h9; replace G12 := Aside0.mk G12
  have h9 := bnd h; clear h; obtain ⟨t13, A13, h⟩ := h9
  replace A13 := Aside0.mk A13
  have h9 := bnd h; clear h; obtain ⟨t14, A14, h⟩ := h9
  replace A14 := Aside0.mk A14
  have h9 := nope h; clear h; obtain ⟨c, h⟩ := h9
  have q17 : decide (t14 < 0) = false := decide_eq_false c
  clear c
  have h9 := yes h; clear h; obtain ⟨c, h⟩ := h9
  subst c
  clear h
  go_enter Try.func9, Try.ntmps9
  go_wp2_with (first
    | ((with_reducible refine gate_dst (N := 2) rfl ?_); refine bxb (bs := b0) 2 rfl rfl rfl rfl ?_; intro p2 w1 hx hb hle hlt; have z1 := hb.size; replace HB := Bw.sw w hb; have X2 := hx; clear hx hb; have y2a := hle; have y2b := hlt; clear hle hlt; simp only [Act.put, List.setIfInBounds_toArray, List.set_cons_zero, List.set_cons_succ])
    | ((with_reducible refine gate_dst (N := 17) rfl ?_); refine ldb (some 17) rfl rfl rfl rfl X2 (cel26 (K0.b HB.out)).st ?_; simp only [Act.put, List.setIfInBounds_toArray, List.set_cons_zero, List.set_cons_succ])
    | ((with_reducible refine gate_dst (N := 19) rfl ?_); refine gg (some 19) rfl rfl rfl fr12 ?_; refine onc (laws_szValue.kc k x0 b0 1048576 t1 _ (K0.b HB.out) A1.out) rfl ?_; rintro e w2 ⟨rfl, hb⟩; refine ⟨_, rfl, ?_⟩; replace X2 := X2.b hb; have z2 := hb.size; replace HB := Bw.sw w hb; clear hb; simp only [Act.put, List.setIfInBounds_toArray, List.set_cons_zero, List.set_cons_succ])
    | ((with_reducible refine gate_dst (N := 24) rfl ?_); refine gg (some 24) rfl rfl rfl fr41 ?_; refine onc (laws_szStepS.kc k l1 (.slice A_1 l1.length c_1) t1 t2 _ (K1.b HB.out) A2.out) rfl ?_; rintro e w3 ⟨rfl, hb⟩; refine ⟨_, rfl, ?_⟩; replace X2 := X2.b hb; have z3 := hb.size; replace HB := Bw.sw w hb; clear hb; simp only [Act.put, List.setIfInBounds_toArray, List.set_cons_zero, List.set_cons_succ])
    | ((with_reducible refine gate_dst (N := 28) rfl ?_); refine ldb (some 28) rfl rfl rfl rfl X2 (cel26 (K0.b HB.out)).st ?_; simp only [Act.put, List.setIfInBounds_toArray, List.set_cons_zero, List.set_cons_succ])
    | ((with_reducible refine gate_dst (N := 29) rfl ?_); refine gg (some 29) rfl rfl rfl fr14 ?_; refine onc (laws_toValue.kc k x0 b0 (⟨t3.1, t3.2.1, t3.2.2.1, t3.2.2.2.1, t3.2.2.2.2⟩ : S30) _ (K0.b HB.out) A3.out) rfl ?_; rintro e w4 ⟨b_29, rfl, ho, hb⟩; refine ⟨_, rfl, ?_⟩; replace X2 := X2.b hb; have z4 := hb.size; replace HB := Bw.sw w hb; have O29 := ho; clear ho hb; simp only [Act.put, List.setIfInBounds_toArray, List.set_cons_zero, List.set_cons_succ])
    | ((with_reducible refine gate_dst (N := 31) rfl ?_); refine gg (some 31) rfl rfl rfl fr43 ?_; refine onc (laws_toStepS.kc k l1 (.slice A_1 l1.length c_1) t4 _ (K1.b HB.out) A4.out) rfl ?_; rintro e w5 ⟨v_31, rfl, ho, hb⟩; refine ⟨_, rfl, ?_⟩; replace X2 := X2.b hb; replace O29 := O29.b hb; have z5 := hb.size; replace HB := Bw.sw w hb; have O31 := ho; clear ho hb; simp only [Act.put, List.setIfInBounds_toArray, List.set_cons_zero, List.set_cons_succ])
    | ((with_reducible refine gate_dst (N := 32) rfl ?_); refine gg (some 32) rfl rfl rfl fr42 ?_; refine onc (spec_At.kc k (⟨t3.1, t3.2.1, t3.2.2.1, t3.2.2.2.1, t3.2.2.2.2⟩ : S30) b_29 t4 v_31 (⟨t5_1, t5_2, t5_3, t5_4, t5_5⟩ : S30) t6_2 _ O29.rd O31.rd A5.out) rfl ?_; rintro e w6 ⟨b_32, rfl, ho, hb⟩; refine ⟨_, rfl, ?_⟩; replace X2 := X2.b hb; have z6 := hb.size; replace HB := Bw.sw w hb; have O32 := ho; clear ho hb; simp only [Act.put, List.setIfInBounds_toArray, List.set_cons_zero, List.set_cons_succ])
    | ((with_reducible refine gate_dst (N := 6) rfl ?_); have hc := cel30 O32.rd; refine alst (bs := b_32) (cs := zs30) 6 rfl rfl rfl rfl rfl rfl (fun _ => rfl) (fun _ => rfl) hc.hz hc.hl hc.h1 ?_; intro p6 w7 hx hb hle hlt; replace X2 := X2.b hb; replace O32 := O32.b hb; have z7 := hb.size; replace HB := Bw.sw w hb; have X6 := hx; clear hx hb hc; have y6a := hle; have y6b := hlt; clear hle hlt; simp only [Act.put, List.setIfInBounds_toArray, List.set_cons_zero, List.set_cons_succ])
    | ((with_reducible refine gate_dst (N := 35) rfl ?_); refine ldb (some 35) rfl rfl rfl rfl X2 (cel26 (K0.b HB.out)).st ?_; simp only [Act.put, List.setIfInBounds_toArray, List.set_cons_zero, List.set_cons_succ])
    | ((with_reducible refine gate_dst (N := 36) rfl ?_); refine gg (some 36) rfl rfl rfl fr14 ?_; refine onc (laws_toValue.kc k x0 b0 (⟨t3.1, t3.2.1, t3.2.2.1, t3.2.2.2.1, t3.2.2.2.2⟩ : S30) _ (K0.b HB.out) A3.out) rfl ?_; rintro e w8 ⟨b_36, rfl, ho, hb⟩; refine ⟨_, rfl, ?_⟩; replace X2 := X2.b hb; replace O32 := O32.b hb; replace X6 := X6.b hb; have z8 := hb.size; replace HB := Bw.sw w hb; have O36 := ho; clear ho hb; simp only [Act.put, List.setIfInBounds_toArray, List.set_cons_zero, List.set_cons_succ])
    | ((with_reducible refine gate_dst (N := 8) rfl ?_); have hc := cel30 O36.rd; refine alst (bs := b_36) (cs := zs30) 8 rfl rfl rfl rfl rfl rfl (fun _ => rfl) (fun _ => rfl) hc.hz hc.hl hc.h1 ?_; intro p8 w9 hx hb hle hlt; replace X2 := X2.b hb; replace O32 := O32.b hb; replace X6 := X6.b hb; replace O36 := O36.b hb; have z9 := hb.size; replace HB := Bw.sw w hb; have X8 := hx; clear hx hb hc; have y8a := hle; have y8b := hlt; clear hle hlt; simp only [Act.put, List.setIfInBounds_toArray, List.set_cons_zero, List.set_cons_succ])
    | ((with_reducible refine gate_dst (N := 38) rfl ?_); refine gg (some 38) rfl rfl rfl fr43 ?_; refine onc (laws_toStepS.kc k l1 (.slice A_1 l1.length c_1) t4 _ (K1.b HB.out) A4.out) rfl ?_; rintro e w10 ⟨v_38, rfl, ho, hb⟩; refine ⟨_, rfl, ?_⟩; replace X2 := X2.b hb; replace O32 := O32.b hb; replace X6 := X6.b hb; replace O36 := O36.b hb; replace X8 := X8.b hb; have z10 := hb.size; replace HB := Bw.sw w hb; have O38 := ho; clear ho hb; simp only [Act.put, List.setIfInBounds_toArray, List.set_cons_zero, List.set_cons_succ])
    | ((with_reducible refine gate_dst (N := 40) rfl ?_); refine ldb (some 40) rfl rfl rfl rfl X8 (cel30 O36.rd).st ?_; simp only [Act.put, List.setIfInBounds_toArray, List.set_cons_zero, List.set_cons_succ])
    | ((with_reducible refine gate_dst (N := 42) rfl ?_); refine gg (some 42) rfl rfl rfl fr44 ?_; refine onc (impl_At.kc k (⟨t3.1, t3.2.1, t3.2.2.1, t3.2.2.2.1, t3.2.2.2.2⟩ : S30) b_36 t4 v_38 t6_1 t6_2 _ O36.rd O38.rd A6.out) rfl ?_; rintro e w11 ⟨b_42, rfl, ho, hb⟩; refine ⟨_, rfl, ?_⟩; replace X2 := X2.b hb; replace O32 := O32.b hb; replace X6 := X6.b hb; replace O36 := O36.b hb; replace X8 := X8.b hb; replace O38 := O38.b hb; have z11 := hb.size; replace HB := Bw.sw w hb; have O42 := ho; clear ho hb; simp only [Act.put, List.setIfInBounds_toArray, List.set_cons_zero, List.set_cons_succ])
    | ((with_reducible refine gate_dst (N := 10) rfl ?_); have hc := cel30 (rdD O42.rd); refine alst (bs := b_42) (cs := zs30) 10 rfl rfl rfl rfl rfl rfl (fun _ => rfl) (fun _ => rfl) hc.hz hc.hl hc.h1 ?_; intro p10 w12 hx hb hle hlt; replace X2 := X2.b hb; replace O32 := O32.b hb; replace X6 := X6.b hb; replace O36 := O36.b hb; replace X8 := X8.b hb; replace O38 := O38.b hb; replace O42 := O42.b hb; have z12 := hb.size; replace HB := Bw.sw w hb; have X10 := hx; clear hx hb hc; have y10a := hle; have y10b := hlt; clear hle hlt; simp only [Act.put, List.setIfInBounds_toArray, List.set_cons_zero, List.set_cons_succ])
    | ((with_reducible refine gate_dst (N := 45) rfl ?_); refine ldb (some 45) rfl rfl rfl rfl X10 (cel30 (rdD O42.rd)).st ?_; simp only [Act.put, List.setIfInBounds_toArray, List.set_cons_zero, List.set_cons_succ])
    | ((with_reducible refine gate_dst (N := 46) rfl ?_); refine ldb (some 46) rfl rfl rfl rfl X6 (cel30 O32.rd).st ?_; simp only [Act.put, List.setIfInBounds_toArray, List.set_cons_zero, List.set_cons_succ])
    | ((with_reducible refine gate_dst (N := 47) rfl ?_); refine gg (some 47) rfl rfl rfl fr17 ?_; refine onc (laws_eqValue.kc k t6_1 b_42 (⟨t5_1, t5_2, t5_3, t5_4, t5_5⟩ : S30) b_32 true _ (rdD O42.rd) O32.rd A7.out) rfl ?_; rintro e w13 ⟨rfl, hb⟩; refine ⟨_, rfl, ?_⟩; replace X2 := X2.b hb; replace O32 := O32.b hb; replace X6 := X6.b hb; replace O36 := O36.b hb; replace X8 := X8.b hb; replace O38 := O38.b hb; replace O42 := O42.b hb; replace X10 := X10.b hb; have z13 := hb.size; replace HB := Bw.sw w hb; clear hb; simp only [Act.put, List.setIfInBounds_toArray, List.set_cons_zero, List.set_cons_succ]))
  have hb : Below w13.heap.size w13 w13.drew := below_drew1 (Below.refl _ _)
  refine start_ (n := 5) (S := fun w' => Bx w' p8 30 b_36 ∧ Bx w' p2 26 b0) (ds := []) #[false, false, false, false, false] (by kernel_rfl) rfl rfl ⟨X8.b hb, X2.b hb⟩ (fun hH => ?_)
  generalize w13.drew = w14 at hb hH ⊢; replace X2 := X2.b hb; replace O32 := O32.b hb; replace X6 := X6.b hb; replace O36 := O36.b hb; replace X8 := X8.b hb; replace O38 := O38.b hb; replace O42 := O42.b hb; replace X10 := X10.b hb; have z14 := hb.size; replace HB := Bw.sw w hb; clear hb
  refine take_ (i := 0) (N := some 54) (v := .agg b_36) (a' := ?_) #[true, false, false, false, false] rfl rfl (by kernel_rfl) (fun _ _ _ h => h) (Or.inl ⟨by rfl, ?hy14_54⟩) hH ?ha14_54 ?_
  case hy14_54 => (rintro w' ⟨s0, s1⟩; exact ld_op rfl rfl s0 (cel30 O36.rd).st)
  case ha14_54 => (simp only [Act.put, List.setIfInBounds_toArray, List.set_cons_zero, List.set_cons_succ, i64_w, i32_w]; rfl)
  refine take_ (i := 1) (N := some 55) (v := .agg b0) (a' := ?_) #[true, true, false, false, false] rfl rfl (by kernel_rfl) (fun _ _ _ h => h) (Or.inl ⟨by rfl, ?hy14_55⟩) hH ?ha14_55 ?_
  case hy14_55 => (rintro w' ⟨s0, s1⟩; exact ld_op rfl rfl s1 (cel26 (K0.b HB.out)).st)
  case ha14_55 => (simp only [Act.put, List.setIfInBounds_toArray, List.set_cons_zero, List.set_cons_succ, i64_w, i32_w]; rfl)
  refine one_ (i := 2) (N := some 56) #[true, true, true, false, false] rfl rfl (by kernel_rfl) (by decide) (fun K hK => ?_)
  refine goes_ Try.func14 (by kernel_rfl) rfl #[.agg b0] (by rfl) rfl rfl (by (try simp only [List.map_toArray, List.map_cons, List.map_nil]); first | done | rfl) ?_
  refine (laws_toValue.kc k x0 b0 (⟨t3.1, t3.2.1, t3.2.2.1, t3.2.2.2.1, t3.2.2.2.2⟩ : S30) _ (K0.b HB.out) A3.out).mono ?_
  rintro e w15 ⟨b_56, rfl, ho, hb⟩
  refine ⟨_, rfl, ?_⟩
  replace X2 := X2.b hb; replace O32 := O32.b hb; replace X6 := X6.b hb; replace O36 := O36.b hb; replace X8 := X8.b hb; replace O38 := O38.b hb; replace O42 := O42.b hb; replace X10 := X10.b hb; have z15 := hb.size; replace HB := Bw.sw w hb
  have O56 := ho
  refine hK.out _ _ ⟨X8, X2⟩ (fun hH => ?_)
  clear hK K hb ho
  refine norm_ (a' := ?_) ?_ ?_
  rotate_left
  ·show Act.put _ (some 56) _ = _
   simp only [Act.put, List.setIfInBounds_toArray, List.set_cons_zero, List.set_cons_succ, i64_w, i32_w]
   rfl
  refine one_ (i := 3) (N := some 57) #[true, true, true, true, false] rfl rfl (by kernel_rfl) (by decide) (fun K hK => ?_)
  refine goes_ Try.func17 (by kernel_rfl) rfl #[.agg b_36, .agg b_56] (by rfl) rfl rfl (by (try simp only [List.map_toArray, List.map_cons, List.map_nil]); first | done | rfl) ?_
  refine (laws_eqValue.kc k (⟨t3.1, t3.2.1, t3.2.2.1, t3.2.2.2.1, t3.2.2.2.2⟩ : S30) b_36 (⟨t3.1, t3.2.1, t3.2.2.1, t3.2.2.2.1, t3.2.2.2.2⟩ : S30) b_56 true _ O36.rd O56.rd A8.out).mono ?_
  rintro e w16 ⟨rfl, hb⟩
  refine ⟨_, rfl, ?_⟩
  replace X2 := X2.b hb; replace O32 := O32.b hb; replace X6 := X6.b hb; replace O36 := O36.b hb; replace X8 := X8.b hb; replace O38 := O38.b hb; replace O42 := O42.b hb; replace X10 := X10.b hb; replace O56 := O56.b hb; have z16 := hb.size; replace HB := Bw.sw w hb
  refine hK.out _ _ ⟨X8, X2⟩ (fun hH => ?_)
  clear hK K hb
  refine norm_ (a' := ?_) ?_ ?_
  rotate_left
  ·show Act.put _ (some 57) _ = _
   simp only [Act.put, List.setIfInBounds_toArray, List.set_cons_zero, List.set_cons_succ, i64_w, i32_w]
   rfl
  refine pure_ (i := 4) (N := some 58) (v := ?_) (a' := ?_) #[true, true, true, true, true] rfl rfl (by kernel_rfl) (fun _ _ _ h => h) (Or.inl ⟨by rfl, ?_⟩) ?_ ?_
  rotate_left
  ·intro w'
   go_simp
   with_reducible rfl
  rotate_left
  ·simp only [Act.put, List.setIfInBounds_toArray, List.set_cons_zero, List.set_cons_succ, i64_w, i32_w]
   rfl
  refine done_ (by kernel_rfl) ?_
  go_wp2_with (first
    | ((with_reducible refine gate_dst (N := 61) rfl ?_); refine gg (some 61) rfl rfl rfl fr43 ?_; refine onc (laws_toStepS.kc k l1 (.slice A_1 l1.length c_1) t4 _ (K1.b HB.out) A4.out) rfl ?_; rintro e w17 ⟨v_61, rfl, ho, hb⟩; refine ⟨_, rfl, ?_⟩; replace X2 := X2.b hb; replace O32 := O32.b hb; replace X6 := X6.b hb; replace O36 := O36.b hb; replace X8 := X8.b hb; replace O38 := O38.b hb; replace O42 := O42.b hb; replace X10 := X10.b hb; have z17 := hb.size; replace HB := Bw.sw w hb; have O61 := ho; clear ho hb; simp only [Act.put, List.setIfInBounds_toArray, List.set_cons_zero, List.set_cons_succ])
    | ((with_reducible refine gate_dst (N := 62) rfl ?_); refine gg (some 62) rfl rfl rfl fr45 ?_; refine onc (laws_eqStepS.kc k t4 v_38 t4 v_61 true _ O38.rd O61.rd A9.out) rfl ?_; rintro e w18 ⟨rfl, hb⟩; refine ⟨_, rfl, ?_⟩; replace X2 := X2.b hb; replace O32 := O32.b hb; replace X6 := X6.b hb; replace O36 := O36.b hb; replace X8 := X8.b hb; replace O38 := O38.b hb; replace O42 := O42.b hb; replace X10 := X10.b hb; have z18 := hb.size; replace HB := Bw.sw w hb; clear hb; simp only [Act.put, List.setIfInBounds_toArray, List.set_cons_zero, List.set_cons_succ])
    | ((with_reducible refine gate_dst (N := 64) rfl ?_); refine ldb (some 64) rfl rfl rfl rfl X8 (cel30 O36.rd).st ?_; simp only [Act.put, List.setIfInBounds_toArray, List.set_cons_zero, List.set_cons_succ])
    | ((with_reducible refine gate_dst (N := 66) rfl ?_); refine gg (some 66) rfl rfl rfl fr19 ?_; refine onc (laws_markValue.kc (⟨t3.1, t3.2.1, t3.2.2.1, t3.2.2.2.1, t3.2.2.2.2⟩ : S30) b_36 1 _ (by omega) G10.out (by omega) O36) rfl ?_; rintro e w19 ⟨kk66, rfl, hkk, hkl, ho⟩; refine ⟨_, rfl, ?_⟩; replace X2 := X2.mv ho (by omega); replace O32 := O32.mv ho (by omega); replace X6 := X6.mv ho (by omega); replace O38 := O38.mv ho (by omega); replace O42 := O42.mv ho (by omega); replace X10 := X10.mv ho (by omega); have z19 := ho.size; replace HB := Bw.mk (w := w) (ho.below HB.out (by omega)); have qk66 : decide (kk66 < 0) = false := decide_eq_false (by omega); clear ho; simp only [Act.put, List.setIfInBounds_toArray, List.set_cons_zero, List.set_cons_succ])
    | ((with_reducible refine gate_dst (N := 69) rfl ?_); refine gg (some 69) rfl rfl rfl fr46 ?_; refine onc (laws_markStepS.kc t4 v_38 kk66 _ (by omega) G11.out (by omega) O38.own) rfl ?_; rintro e w20 ⟨kk69, rfl, hkk, hkl, ho⟩; refine ⟨_, rfl, ?_⟩; replace X2 := X2.mv ho (by omega); replace O32 := O32.mv ho (by omega); replace X6 := X6.mv ho (by omega); replace O42 := O42.mv ho (by omega); replace X10 := X10.mv ho (by omega); have z20 := ho.size; replace HB := Bw.mk (w := w) (ho.below HB.out (by omega)); have qk69 : decide (kk69 < 0) = false := decide_eq_false (by omega); clear ho; simp only [Act.put, List.setIfInBounds_toArray, List.set_cons_zero, List.set_cons_succ])
    | ((with_reducible refine gate_dst (N := 73) rfl ?_); refine ldw (some 73) rfl (by rfl) rfl rfl X10 (cel30 (rdD O42.rd)).st ?_; simp only [Act.put, List.setIfInBounds_toArray, List.set_cons_zero, List.set_cons_succ])
    | ((with_reducible refine gate_dst (N := 74) rfl ?_); refine ldw (some 74) rfl (by rfl) rfl rfl X6 (cel30 O32.rd).st ?_; simp only [Act.put, List.setIfInBounds_toArray, List.set_cons_zero, List.set_cons_succ])
    | ((with_reducible refine gate_dst (N := 75) rfl ?_); refine ggw (some 75) rfl (by rfl) rfl fr17 ?_; refine onc (laws_eqValue.kc k t6_1 b_42 (⟨t5_1, t5_2, t5_3, t5_4, t5_5⟩ : S30) b_32 true _ (rdD O42.rd) O32.rd A7.out) rfl ?_; rintro e w21 ⟨rfl, hb⟩; refine ⟨_, rfl, ?_⟩; replace X2 := X2.b hb; replace O32 := O32.b hb; replace X6 := X6.b hb; replace O42 := O42.b hb; replace X10 := X10.b hb; have z21 := hb.size; replace HB := Bw.sw w hb; clear hb; simp only [Act.put, List.setIfInBounds_toArray, List.set_cons_zero, List.set_cons_succ])
    | ((with_reducible refine gate_dst (N := 83) rfl ?_); refine ldb (some 83) rfl rfl rfl rfl X10 (cel30 (rdD O42.rd)).st ?_; simp only [Act.put, List.setIfInBounds_toArray, List.set_cons_zero, List.set_cons_succ])
    | ((with_reducible refine gate_dst (N := 85) rfl ?_); refine gg (some 85) rfl rfl rfl fr19 ?_; refine onc (laws_markValue.kcd t6_1 b_42 1 t14 _ (by omega) G12.out (by omega) A13.out O42) rfl ?_; rintro e w22 ⟨rfl, hn, ho⟩; refine ⟨_, rfl, ?_⟩; replace X2 := X2.mv ho (by omega); replace O32 := O32.mv ho (by omega); replace X6 := X6.mv ho (by omega); replace X10 := X10.mv ho (by omega); have z22 := ho.size; replace HB := Bw.mk (w := w) (ho.below HB.out (by omega)); replace O42 := hn; clear hn; clear ho; simp only [Act.put, List.setIfInBounds_toArray, List.set_cons_zero, List.set_cons_succ])
    | ((with_reducible refine gate_dst (N := 86) rfl ?_); refine ldb (some 86) rfl rfl rfl rfl X10 (cel30 (rdD O42.rd)).st ?_; simp only [Act.put, List.setIfInBounds_toArray, List.set_cons_zero, List.set_cons_succ])
    | ((with_reducible refine gate_dst (N := 88) rfl ?_); refine gg (some 88) rfl rfl rfl fr21 ?_; refine onc (laws_heldValue.kc k (dmkV 1 t6_1) b_42 1 t14 _ (rdD O42.rd) A14.out) rfl ?_; rintro e w23 ⟨rfl, hb⟩; refine ⟨_, rfl, ?_⟩; replace X2 := X2.b hb; replace O32 := O32.b hb; replace X6 := X6.b hb; replace O42 := O42.b hb; replace X10 := X10.b hb; have z23 := hb.size; replace HB := Bw.sw w hb; clear hb; simp only [Act.put, List.setIfInBounds_toArray, List.set_cons_zero, List.set_cons_succ])
    | ((with_reducible refine gate_dst (N := 95) rfl ?_); refine ldb (some 95) rfl rfl rfl rfl X2 (cel26 (K0.b HB.out)).st ?_; simp only [Act.put, List.setIfInBounds_toArray, List.set_cons_zero, List.set_cons_succ])
    | ((with_reducible refine gate_dst (N := 96) rfl ?_); refine gg (some 96) rfl rfl rfl fr14 ?_; refine onc (laws_toValue.kc k x0 b0 (⟨t3.1, t3.2.1, t3.2.2.1, t3.2.2.2.1, t3.2.2.2.2⟩ : S30) _ (K0.b HB.out) A3.out) rfl ?_; rintro e w24 ⟨b_96, rfl, ho, hb⟩; refine ⟨_, rfl, ?_⟩; replace O32 := O32.b hb; replace X6 := X6.b hb; replace O42 := O42.b hb; replace X10 := X10.b hb; have z24 := hb.size; replace HB := Bw.sw w hb; have O96 := ho; clear ho hb; simp only [Act.put, List.setIfInBounds_toArray, List.set_cons_zero, List.set_cons_succ])
    | ((with_reducible refine gate_dst (N := 98) rfl ?_); refine gg (some 98) rfl rfl rfl fr43 ?_; refine onc (laws_toStepS.kc k l1 (.slice A_1 l1.length c_1) t4 _ (K1.b HB.out) A4.out) rfl ?_; rintro e w25 ⟨v_98, rfl, ho, hb⟩; refine ⟨_, rfl, ?_⟩; replace O32 := O32.b hb; replace X6 := X6.b hb; replace O42 := O42.b hb; replace X10 := X10.b hb; replace O96 := O96.b hb; have z25 := hb.size; replace HB := Bw.sw w hb; have O98 := ho; clear ho hb; simp only [Act.put, List.setIfInBounds_toArray, List.set_cons_zero, List.set_cons_succ])
    | ((with_reducible refine gate_dst (N := 99) rfl ?_); refine gg (some 99) rfl rfl rfl fr44 ?_; refine onc (impl_At.kc k (⟨t3.1, t3.2.1, t3.2.2.1, t3.2.2.2.1, t3.2.2.2.2⟩ : S30) b_96 t4 v_98 t6_1 t6_2 _ O96.rd O98.rd A6.out) rfl ?_; rintro e w26 ⟨b_99, rfl, ho, hb⟩; refine ⟨_, rfl, ?_⟩; replace O32 := O32.b hb; replace X6 := X6.b hb; replace O42 := O42.b hb; replace X10 := X10.b hb; have z26 := hb.size; replace HB := Bw.sw w hb; have O99 := ho; clear ho hb; simp only [Act.put, List.setIfInBounds_toArray, List.set_cons_zero, List.set_cons_succ])
    | ((with_reducible refine gate_dst (N := 15) rfl ?_); have hc := cel30 (rdD O99.rd); refine alst (bs := b_99) (cs := zs30) 15 rfl rfl rfl rfl rfl rfl (fun _ => rfl) (fun _ => rfl) hc.hz hc.hl hc.h1 ?_; intro p15 w27 hx hb hle hlt; replace O32 := O32.b hb; replace X6 := X6.b hb; replace O42 := O42.b hb; replace X10 := X10.b hb; replace O99 := O99.b hb; have z27 := hb.size; replace HB := Bw.sw w hb; have X15 := hx; clear hx hb hc; have y15a := hle; have y15b := hlt; clear hle hlt; simp only [Act.put, List.setIfInBounds_toArray, List.set_cons_zero, List.set_cons_succ])
    | ((with_reducible refine gate_dst (N := 102) rfl ?_); refine ldb (some 102) rfl rfl rfl rfl X15 (cel30 (rdD O99.rd)).st ?_; simp only [Act.put, List.setIfInBounds_toArray, List.set_cons_zero, List.set_cons_succ])
    | ((with_reducible refine gate_dst (N := 103) rfl ?_); refine ldb (some 103) rfl rfl rfl rfl X6 (cel30 O32.rd).st ?_; simp only [Act.put, List.setIfInBounds_toArray, List.set_cons_zero, List.set_cons_succ])
    | ((with_reducible refine gate_dst (N := 104) rfl ?_); refine gg (some 104) rfl rfl rfl fr17 ?_; refine onc (laws_eqValue.kc k t6_1 b_99 (⟨t5_1, t5_2, t5_3, t5_4, t5_5⟩ : S30) b_32 true _ (rdD O99.rd) O32.rd A7.out) rfl ?_; rintro e w28 ⟨rfl, hb⟩; refine ⟨_, rfl, ?_⟩; replace O42 := O42.b hb; replace X10 := X10.b hb; have z28 := hb.size; replace HB := Bw.sw w hb; clear hb; simp only [Act.put, List.setIfInBounds_toArray, List.set_cons_zero, List.set_cons_succ])
    | ((with_reducible refine gate_dst (N := 111) rfl ?_); refine ldb (some 111) rfl rfl rfl rfl X10 (cel30 (rdD O42.rd)).st ?_; simp only [Act.put, List.setIfInBounds_toArray, List.set_cons_zero, List.set_cons_succ])
    | ((with_reducible refine gate_dst (N := 113) rfl ?_); refine gg (some 113) rfl rfl rfl fr21 ?_; refine onc (laws_heldValue.kc k (dmkV 1 t6_1) b_42 1 t14 _ (rdD O42.rd) A14.out) rfl ?_; rintro e w29 ⟨rfl, hb⟩; refine ⟨_, rfl, ?_⟩; have z29 := hb.size; replace HB := Bw.sw w hb; clear hb; simp only [Act.put, List.setIfInBounds_toArray, List.set_cons_zero, List.set_cons_succ]))
  go_ret
  exact ⟨by first | rfl | simp, HB.out⟩
end Go.Proofs.Ytenpjddjmhjdoaa.PFnExactAt
