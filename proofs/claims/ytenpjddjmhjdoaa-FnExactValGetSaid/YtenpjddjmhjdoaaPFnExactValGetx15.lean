/- What a function comes to, walked by hand. No condition. -/
import Derived.Test.YtenpjddjmhjdoaaPFnExactValGetx0
import Derived.Test.YtenpjddjmhjdoaaPFnExactValGetx8
import Derived.Test.YtenpjddjmhjdoaaPFnExactValGetx10
import Derived.Test.YtenpjddjmhjdoaaPFnExactValGetx13
import Derived.Test.YtenpjddjmhjdoaaPFnExactValGetx14
import Derived.Test.YtenpjddjmhjdoaaMkx
namespace Go.Proofs.Ytenpjddjmhjdoaa.PFnExactValGet
open Go.RowKit Go.Proofs.YtenpjddjmhjdoaaW.PrintWords Go.Proofs.YtenpjddjmhjdoaaW.PrintLast Go.Proofs.YtenpjddjmhjdoaaW.PrintMore Go.Proofs.Ytenpjddjmhjdoaa.M
attribute [local go_sem] max2_int min2_int max_two min_two max_three min_three max_four min_four Go.Proofs.Ytenpjddjmhjdoaa.M.str_gtr Go.Proofs.Ytenpjddjmhjdoaa.M.str_leq Go.Proofs.Ytenpjddjmhjdoaa.M.str_geq   -- for this text's walks alone
set_option linter.unusedVariables false
set_option linter.unusedSimpArgs false
-- KC impl_ValGet {"params":[["agg",30,["f0","f1","f2","f3","f4"]],["slice","(Kd.int .u8)",5,"List Int"]],"res":["tuple",[["agg",30,["f0","f1","f2","f3","f4"],"D"],["bool"]]],"hasK":true,"fn":16,"f":"impl_ValGet.g"}
/-- What ValGet gives, as a value. -/
def impl_ValGet.g (k : Nat) (a0_0 a0_1 : Int) (l0_2 : List Int) (l0_3 : List (List Int)) (l0_4 : List S30) (l1 : List Int) : Option (S30 × Bool) :=
  (impl_ValGet.f k a0_0 a0_1 l0_2 l0_3 l0_4 l1).bind fun r => some (⟨r.1, r.2.1, r.2.2.1, r.2.2.2.1, r.2.2.2.2.1⟩, r.2.2.2.2.2)
theorem frG1 : Fr Try.prog 57 := ⟨_, Try.func57, by kernel_rfl, rfl⟩
theorem frG2 : Fr Try.prog 58 := ⟨_, Try.func58, by kernel_rfl, rfl⟩
theorem frG3 : Fr Try.prog 59 := ⟨_, Try.func59, by kernel_rfl, rfl⟩
theorem dV_zero (w : World) (base : Nat) (ok : Nat → Prop) : dV.M w base ok z30 [.int .i64 0, .int .i64 0, .slice none 0 0, .slice none 0 0, .slice none 0 0] :=
  dV_mkM (o2 := fun _ => False) (o3 := fun _ => False) (o4 := fun _ => False) z30 (Kd.R_nil _ _ _ _ _) (Kd.S_nil _ _ _ _ _) (Kd.S_nil _ _ _ _ _) (fun _ h => h.elim) (fun _ h => h.elim) (fun _ h => h.elim) (fun _ h => h.elim) (fun _ h => h.elim) (fun _ h => h.elim)
set_option maxRecDepth 100000 in
set_option maxHeartbeats 8000000 in
theorem impl_ValGet.kc (k : Nat) (x0 : S30) (b0 : Array Value) (l1 : List Int) (v1 : Value) (y : S30) (r2 : Bool) (w : World) (h0 : Rd k30 w x0 b0.toList) (h1 : Rd (Kd.slice 5 (Kd.int .u8)) w l1 [v1]) (h : impl_ValGet.g k x0.f0 x0.f1 x0.f2 x0.f3 x0.f4 l1 = some (y, r2)) :
    Calls Try.prog 16 #[.agg b0, v1] w fun e w' => ∃ b : Array Value, e = .returned (.tuple #[.agg b, .bool r2]) ∧ Own dV w' w.heap.size w'.heap.size y b.toList ∧ Below w.heap.size w w' := by
  obtain ⟨A2, c2, A3, c3, A4, c4, e0, lc2, g2, lc3, g3, lc4, g4⟩ := k30_open h0.k
  obtain ⟨a0, a1, l2, l3, l4⟩ := x0
  obtain rfl : b0 = #[.int .i64 a0, .int .i64 a1, .slice A2 l2.length c2, .slice A3 l3.length c3, .slice A4 l4.length c4] := by rw [← b0.toArray_toList, e0]
  simp only at lc2 g2 lc3 g3 lc4 g4
  obtain ⟨A1, c1, e1, lc1, g1⟩ := h1.k
  injection e1 with e1
  subst e1
  have hu := Try.underlying30
  have G1 := Aside0.mk g1
  have L1 := Aside0.mk lc1
  have G2 := Aside0.mk g2
  have L2 := Aside0.mk lc2
  have G3 := Aside0.mk g3
  have L3 := Aside0.mk lc3
  have G4 := Aside0.mk g4
  have L4 := Aside0.mk lc4
  have HB := Bw.refl w
  clear g1 g2 g3 g4 lc1 lc2 lc3 lc4 e0 h0 h1
  unfold impl_ValGet.g impl_ValGet.f at h
  have h9 := bnd h
  clear h
  obtain ⟨⟨q1, q2, q3, q4, q5, q6⟩, h8, h⟩ := h9
  have h9 := Option.some.inj h
  clear h
  obtain ⟨rfl, rfl⟩ := Prod.mk.inj h9
  clear h9
  have h := h8
  clear h8
  have h9 := bnd h
  clear h
  obtain ⟨t, T1, h⟩ := h9
  replace T1 := Aside0.mk T1
  cases t with
  | false =>
    rw [if_neg (by decide)] at h
    simp only [Option.some.injEq, Prod.mk.injEq] at h
    obtain ⟨rfl, rfl, rfl, rfl, rfl, rfl⟩ := h
    go_enter Try.func16, Try.ntmps16
    go_wp2_with (first
      | ((with_reducible refine gate_dst (N := 2) rfl ?_); refine bxb (bs := #[.int .i64 a0, .int .i64 a1, .slice A2 l2.length c2, .slice A3 l3.length c3, .slice A4 l4.length c4]) 2 rfl rfl rfl rfl ?_; intro gb w1 BX hb1 hle hlt; replace HB := Bw.sw w hb1; clear hb1 hle hlt; obtain ⟨hc0, hc1, hc2, hc3, hc4, hf0, hf1, hf2, hf3, hf4⟩ := blk5 BX.h; simp only [Act.put, List.setIfInBounds_toArray, List.set_cons_zero, List.set_cons_succ])
      | ((with_reducible refine gate_dst (N := 4) rfl ?_); refine alb (n := 5) (cs := #[.int .i64 0, .int .i64 0, .slice none 0 0, .slice none 0 0, .slice none 0 0]) 4 rfl rfl rfl (by kernel_rfl) ?_; intro gr w2 BR hb2 hle hlt; have NB := Aside0.mk (Nat.ne_of_lt (Nat.lt_of_lt_of_le BX.lt hle)); have GE := Aside0.mk (Nat.le_trans HB.out.size hle); replace BX := BX.b hb2; replace HB := Bw.sw w hb2; clear hb2 hle hlt; obtain ⟨hc0, hc1, hc2, hc3, hc4, hf0, hf1, hf2, hf3, hf4⟩ := blk5 BX.h; simp only [Act.put, List.setIfInBounds_toArray, List.set_cons_zero, List.set_cons_succ])
      | ((with_reducible refine gate_dst (N := 9) rfl ?_); refine gg (some 9) rfl rfl rfl frG1 ?_; refine onc (impl_isMap.calls k a0 a1 _ _ l2 _ _ l3 _ _ l4 false _ (cb G2) L2.out (cb G3) L3.out (cb G4) L4.out T1.out) rfl ?_; rintro e w3 ⟨rfl, hb⟩; refine ⟨_, rfl, ?_⟩; replace BX := BX.b hb; replace BR := BR.b hb; replace HB := Bw.sw w hb; clear hb; obtain ⟨hc0, hc1, hc2, hc3, hc4, hf0, hf1, hf2, hf3, hf4⟩ := blk5 BX.h; obtain ⟨gc0, gc1, gc2, gc3, gc4, gf0, gf1, gf2, gf3, gf4⟩ := blk5 BR.h; have hnb := NB.out; have hnc := NB.out.symm; simp only [Act.put, List.setIfInBounds_toArray, List.set_cons_zero, List.set_cons_succ]))
    refine bodyPost_ret (results_ct rfl _ _ gr 30 #[.int .i64 0, .int .i64 0, .slice none 0 0, .slice none 0 0, .slice none 0 0] (0, 0) _ rfl BR.sets5.h Try.underlying30 rfl (by kernel_rfl)) rfl ?_
    exact ⟨_, rfl, Own.of (dV_zero _ _ (fun _ => True)) (M.Below.sets5 HB.out GE.out).size, M.Below.sets5 HB.out GE.out⟩
  | true =>
  rw [if_pos rfl] at h
  have h9 := bnd h
  clear h
  obtain ⟨⟨at_, there⟩, T2, h⟩ := h9
  replace T2 := Aside0.mk T2
  dsimp only at h
  cases there with
  | false =>
    rw [if_neg (by decide)] at h
    simp only [Option.some.injEq, Prod.mk.injEq] at h
    obtain ⟨rfl, rfl, rfl, rfl, rfl, rfl⟩ := h
    go_enter Try.func16, Try.ntmps16
    go_wp2_with (first
      | ((with_reducible refine gate_dst (N := 2) rfl ?_); refine bxb (bs := #[.int .i64 a0, .int .i64 a1, .slice A2 l2.length c2, .slice A3 l3.length c3, .slice A4 l4.length c4]) 2 rfl rfl rfl rfl ?_; intro gb w1 BX hb1 hle hlt; replace HB := Bw.sw w hb1; clear hb1 hle hlt; obtain ⟨hc0, hc1, hc2, hc3, hc4, hf0, hf1, hf2, hf3, hf4⟩ := blk5 BX.h; simp only [Act.put, List.setIfInBounds_toArray, List.set_cons_zero, List.set_cons_succ])
      | ((with_reducible refine gate_dst (N := 4) rfl ?_); refine alb (n := 5) (cs := #[.int .i64 0, .int .i64 0, .slice none 0 0, .slice none 0 0, .slice none 0 0]) 4 rfl rfl rfl (by kernel_rfl) ?_; intro gr w2 BR hb2 hle hlt; have NB := Aside0.mk (Nat.ne_of_lt (Nat.lt_of_lt_of_le BX.lt hle)); have GE := Aside0.mk (Nat.le_trans HB.out.size hle); replace BX := BX.b hb2; replace HB := Bw.sw w hb2; clear hb2 hle hlt; obtain ⟨hc0, hc1, hc2, hc3, hc4, hf0, hf1, hf2, hf3, hf4⟩ := blk5 BX.h; simp only [Act.put, List.setIfInBounds_toArray, List.set_cons_zero, List.set_cons_succ])
      | ((with_reducible refine gate_dst (N := 9) rfl ?_); refine gg (some 9) rfl rfl rfl frG1 ?_; refine onc (impl_isMap.calls k a0 a1 _ _ l2 _ _ l3 _ _ l4 true _ (cb G2) L2.out (cb G3) L3.out (cb G4) L4.out T1.out) rfl ?_; rintro e w3 ⟨rfl, hb⟩; refine ⟨_, rfl, ?_⟩; replace BX := BX.b hb; replace BR := BR.b hb; replace HB := Bw.sw w hb; clear hb; obtain ⟨hc0, hc1, hc2, hc3, hc4, hf0, hf1, hf2, hf3, hf4⟩ := blk5 BX.h; obtain ⟨gc0, gc1, gc2, gc3, gc4, gf0, gf1, gf2, gf3, gf4⟩ := blk5 BR.h; have hnb := NB.out; have hnc := NB.out.symm; simp only [Act.put, List.setIfInBounds_toArray, List.set_cons_zero, List.set_cons_succ])
      | ((with_reducible refine gate_dst (N := 15) rfl ?_); refine gg (some 15) rfl rfl rfl frG2 ?_; refine onc (impl_Value_keyAt.calls k a0 a1 _ _ l2 _ _ l3 _ _ l4 _ _ l1 at_ false _ (cb G2) L2.out (cb G3) L3.out (cb G4) L4.out (cb G1) L1.out T2.out) rfl ?_; rintro e w4 ⟨rfl, hb⟩; refine ⟨_, rfl, ?_⟩; replace BX := BX.b hb; replace BR := BR.b hb; replace HB := Bw.sw w hb; clear hb; obtain ⟨hc0, hc1, hc2, hc3, hc4, hf0, hf1, hf2, hf3, hf4⟩ := blk5 BX.h; obtain ⟨gc0, gc1, gc2, gc3, gc4, gf0, gf1, gf2, gf3, gf4⟩ := blk5 BR.h; simp only [Act.put, List.setIfInBounds_toArray, List.set_cons_zero, List.set_cons_succ]))
    refine bodyPost_ret (results_ct rfl _ _ gr 30 #[.int .i64 0, .int .i64 0, .slice none 0 0, .slice none 0 0, .slice none 0 0] (0, 0) _ rfl BR.sets5.h Try.underlying30 rfl (by kernel_rfl)) rfl ?_
    exact ⟨_, rfl, Own.of (dV_zero _ _ (fun _ => True)) (M.Below.sets5 HB.out GE.out).size, M.Below.sets5 HB.out GE.out⟩
  | true =>
  rw [if_pos rfl] at h
  have h9 := yesN h
  clear h
  obtain ⟨p0, h⟩ := h9
  have h9 := yesN h
  clear h
  obtain ⟨p1, h⟩ := h9
  have h9 := bnd h
  clear h
  obtain ⟨⟨t1, t2, t3, t4, t5⟩, T3, h⟩ := h9
  replace T3 := Aside0.mk T3
  simp only [Option.some.injEq, Prod.mk.injEq] at h
  obtain ⟨rfl, rfl, rfl, rfl, rfl, rfl⟩ := h
  obtain ⟨ad, D2, d2, D3, d3, D4, d4, e4, x0, x1, x2, x3, x4, y2, z2, y3, z3, y4, z4⟩ := at_T30 G4.out at_ p0 p1
  cases e4
  have Y2 := Aside0.mk y2
  have Z2 := Aside0.mk z2
  have Y3 := Aside0.mk y3
  have Z3 := Aside0.mk z3
  have Y4 := Aside0.mk y4
  have Z4 := Aside0.mk z4
  clear y2 z2 y3 z3 y4 z4
  have X5 := Aside0.mk (And.intro x0 (And.intro x1 (And.intro x2 (And.intro x3 x4))))
  clear x0 x1 x2 x3 x4
  have p2 := eq_true p0
  have p3 := eq_true p1
  clear p0 p1
  go_enter Try.func16, Try.ntmps16
  go_wp2_with (first
    | ((with_reducible refine gate_dst (N := 2) rfl ?_); refine bxb (bs := #[.int .i64 a0, .int .i64 a1, .slice A2 l2.length c2, .slice A3 l3.length c3, .slice (some ad) l4.length c4]) 2 rfl rfl rfl rfl ?_; intro gb w1 BX hb1 hle hlt; replace HB := Bw.sw w hb1; clear hb1 hle hlt; obtain ⟨hc0, hc1, hc2, hc3, hc4, hf0, hf1, hf2, hf3, hf4⟩ := blk5 BX.h; simp only [Act.put, List.setIfInBounds_toArray, List.set_cons_zero, List.set_cons_succ])
    | ((with_reducible refine gate_dst (N := 4) rfl ?_); refine alb (n := 5) (cs := #[.int .i64 0, .int .i64 0, .slice none 0 0, .slice none 0 0, .slice none 0 0]) 4 rfl rfl rfl (by kernel_rfl) ?_; intro gr w2 BR hb2 hle hlt; have NB := Aside0.mk (Nat.ne_of_lt (Nat.lt_of_lt_of_le BX.lt hle)); have GE := Aside0.mk (Nat.le_trans HB.out.size hle); replace BX := BX.b hb2; replace HB := Bw.sw w hb2; clear hb2 hle hlt; obtain ⟨hc0, hc1, hc2, hc3, hc4, hf0, hf1, hf2, hf3, hf4⟩ := blk5 BX.h; simp only [Act.put, List.setIfInBounds_toArray, List.set_cons_zero, List.set_cons_succ])
    | ((with_reducible refine gate_dst (N := 9) rfl ?_); refine gg (some 9) rfl rfl rfl frG1 ?_; refine onc (impl_isMap.calls k a0 a1 _ _ l2 _ _ l3 _ _ l4 true _ (cb G2) L2.out (cb G3) L3.out (cb G4) L4.out T1.out) rfl ?_; rintro e w3 ⟨rfl, hb⟩; refine ⟨_, rfl, ?_⟩; replace BX := BX.b hb; replace BR := BR.b hb; replace HB := Bw.sw w hb; clear hb; obtain ⟨hc0, hc1, hc2, hc3, hc4, hf0, hf1, hf2, hf3, hf4⟩ := blk5 BX.h; obtain ⟨gc0, gc1, gc2, gc3, gc4, gf0, gf1, gf2, gf3, gf4⟩ := blk5 BR.h; have hnb := NB.out; have hnc := NB.out.symm; simp only [Act.put, List.setIfInBounds_toArray, List.set_cons_zero, List.set_cons_succ])
    | ((with_reducible refine gate_dst (N := 15) rfl ?_); refine gg (some 15) rfl rfl rfl frG2 ?_; refine onc (impl_Value_keyAt.calls k a0 a1 _ _ l2 _ _ l3 _ _ l4 _ _ l1 at_ true _ (cb G2) L2.out (cb G3) L3.out (cb G4) L4.out (cb G1) L1.out T2.out) rfl ?_; rintro e w4 ⟨rfl, hb⟩; refine ⟨_, rfl, ?_⟩; replace BX := BX.b hb; replace BR := BR.b hb; replace HB := Bw.sw w hb; clear hb; obtain ⟨hc0, hc1, hc2, hc3, hc4, hf0, hf1, hf2, hf3, hf4⟩ := blk5 BX.h; obtain ⟨gc0, gc1, gc2, gc3, gc4, gf0, gf1, gf2, gf3, gf4⟩ := blk5 BR.h; have x0 := (HB.out.cell (World.block_lt_of_cell? w _ X5.out.1)).trans X5.out.1; have x1 := (HB.out.cell (World.block_lt_of_cell? w _ X5.out.2.1)).trans X5.out.2.1; have x2 := (HB.out.cell (World.block_lt_of_cell? w _ X5.out.2.2.1)).trans X5.out.2.2.1; have x3 := (HB.out.cell (World.block_lt_of_cell? w _ X5.out.2.2.2.1)).trans X5.out.2.2.2.1; have x4 := (HB.out.cell (World.block_lt_of_cell? w _ X5.out.2.2.2.2)).trans X5.out.2.2.2.2; simp only [Act.put, List.setIfInBounds_toArray, List.set_cons_zero, List.set_cons_succ])
    | ((with_reducible refine gate_dst (N := 26) rfl ?_); refine gg (some 26) rfl rfl rfl frG3 ?_; refine onc (impl_copyValue.dcalls k _ _ _ _ _ _ _ _ _ _ _ t1 t2 t3 t4 t5 _ (Kd.C_below Z2.out HB.out) Y2.out (Kd.C_below Z3.out HB.out) Y3.out (Kd.C_below Z4.out HB.out) Y4.out T3.out) rfl ?_; rintro e w5 ⟨v2, v3, v4, rfl, hD, hb⟩; obtain ⟨B2, f2, B3, f3, B4, f4, ec, -⟩ := k30_open (dV_toK (dV.K_of_M hD)); simp only [List.cons.injEq] at ec; obtain ⟨-, -, rfl, rfl, rfl, -⟩ := ec; refine ⟨_, rfl, ?_⟩; have NG := Aside0.mk BR.lt; replace BX := BX.b hb; replace BR := BR.b hb; have HD := Aside0.mk (dV.M_bound hD); have GL := Aside0.mk HB.out.size; have HBo := HB; replace HB := Bw.sw w hb; clear hb hD; obtain ⟨gc0, gc1, gc2, gc3, gc4, gf0, gf1, gf2, gf3, gf4⟩ := blk5 BR.h; simp only [Act.put, List.setIfInBounds_toArray, List.set_cons_zero, List.set_cons_succ]))
  refine bodyPost_ret (results_ct rfl _ _ gr 30 #[.int .i64 t1, .int .i64 t2, .slice B2 t3.length f2, .slice B3 t4.length f3, .slice B4 t5.length f4] (0, 0) _ rfl BR.sets5.h Try.underlying30 rfl (by kernel_rfl)) rfl ?_
  refine ⟨_, rfl, Own.of (ok := fun _ => True) (dV.M_lower GL.out (dV.M_mono (fun _ _ => trivial) (dV.M_move (fun z hz => ?_) HD.out))) (M.Below.sets5 HB.out GE.out).size, M.Below.sets5 HB.out GE.out⟩
  have hzg : z ≠ gr := fun e => by have := hz.2.1; rw [e] at this; exact Nat.not_lt.2 this NG.out
  exact heap_sets5 hzg
end Go.Proofs.Ytenpjddjmhjdoaa.PFnExactValGet
