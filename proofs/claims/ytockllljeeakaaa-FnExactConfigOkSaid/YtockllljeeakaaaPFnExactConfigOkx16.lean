/- What a function comes to, walked by hand. No condition. -/
import Derived.Test.YtockllljeeakaaaPFnExactConfigOkx0
import Derived.Test.YtockllljeeakaaaPFnExactConfigOkx14
import Derived.Test.YtockllljeeakaaaPFnExactConfigOkx15
import Derived.Test.YtockllljeeakaaaMlaw
import Derived.Test.YtockllljeeakaaaMcore
namespace Go.Proofs.Ytockllljeeakaaa.PFnExactConfigOk
open Go.RowKit Go.Proofs.YtockllljeeakaaaW.PrintWords Go.Proofs.YtockllljeeakaaaW.PrintLast Go.Proofs.YtockllljeeakaaaW.PrintMore Go.Proofs.Ytockllljeeakaaa.M
attribute [local go_sem] max2_int min2_int max_two min_two max_three min_three max_four min_four Go.Proofs.Ytockllljeeakaaa.M.str_gtr Go.Proofs.Ytockllljeeakaaa.M.str_leq Go.Proofs.Ytockllljeeakaaa.M.str_geq   -- for this text's walks alone
set_option linter.unusedVariables false
set_option linter.unusedSimpArgs false
theorem blk10e {w : World} {g t : Nat} {u0 u1 u2 u3 u4 u5 u6 u7 u8 u9 : Value} (h : w.heap[g]? = some (.cells #[u0, u1, u2, u3, u4, u5, u6, u7, u8, u9] t (0, 0))) : w.cell? ⟨g, 0, none⟩ = some u0 ∧ w.cell? ⟨g, 1, none⟩ = some u1 ∧ w.cell? ⟨g, 2, none⟩ = some u2 ∧ w.cell? ⟨g, 3, none⟩ = some u3 ∧ w.cell? ⟨g, 4, none⟩ = some u4 ∧ w.cell? ⟨g, 5, none⟩ = some u5 ∧ w.cell? ⟨g, 6, none⟩ = some u6 ∧ w.cell? ⟨g, 7, none⟩ = some u7 ∧ w.cell? ⟨g, 8, none⟩ = some u8 ∧ w.cell? ⟨g, 9, none⟩ = some u9 := ⟨(blk_cell h 0).trans rfl, (blk_cell h 1).trans rfl, (blk_cell h 2).trans rfl, (blk_cell h 3).trans rfl, (blk_cell h 4).trans rfl, (blk_cell h 5).trans rfl, (blk_cell h 6).trans rfl, (blk_cell h 7).trans rfl, (blk_cell h 8).trans rfl, (blk_cell h 9).trans rfl⟩
def laws_eqItem.g (k : Nat) (x y : S94) : Option Bool := (laws_eqByteS.f k x.f1 y.f1).bind fun a => (laws_eqExpr.f k x.f3.f0 x.f3.f1 x.f3.f2 x.f3.f3 x.f3.f4 y.f3.f0 y.f3.f1 y.f3.f2 y.f3.f3 y.f3.f4).bind fun b => (laws_eqByteSS.f k x.f4 y.f4).bind fun c => (laws_eqExprS.f k x.f5 y.f5).bind fun d => if a = true ∧ x.f0 = y.f0 ∧ b = true ∧ x.f2 = y.f2 ∧ c = true ∧ d = true then some true else none
theorem frIB : Fr Try.prog 50 := ⟨_, Try.func50, by kernel_rfl, rfl⟩
theorem frIBB : Fr Try.prog 14 := ⟨_, Try.func14, by kernel_rfl, rfl⟩
theorem frIX : Fr Try.prog 15 := ⟨_, Try.func15, by kernel_rfl, rfl⟩
theorem frIXS : Fr Try.prog 51 := ⟨_, Try.func51, by kernel_rfl, rfl⟩
set_option maxHeartbeats 4000000 in
set_option maxRecDepth 100000 in
theorem laws_eqItem.kc (k : Nat) (x y : S94) (b0 b1 : Array Value) (w : World) (h0 : Rd k94 w x b0.toList) (h1 : Rd k94 w y b1.toList) (h : laws_eqItem.g k x y = some true) :
    Calls Try.prog 71 #[.agg b0, .agg b1] w fun e w' => e = .returned (.bool true) ∧ Below w.heap.size w w' := by
  obtain ⟨A1, c1, A5, c5, A6, c6, A7, c7, A8, c8, A9, c9, e0, m1, g1, m5, g5, m6, g6, m7, g7, m8, g8, m9, g9⟩ := k94_open h0.k
  obtain ⟨B1, d1, B5, d5, B6, d6, B7, d7, B8, d8, B9, d9, e1, n1, q1, n5, q5, n6, q6, n7, q7, n8, q8, n9, q9⟩ := k94_open h1.k
  unfold laws_eqItem.g at h
  obtain ⟨p, hp⟩ : ∃ z, z = x.f0 := ⟨_, rfl⟩
  obtain ⟨s, hs⟩ : ∃ z, z = x.f2 := ⟨_, rfl⟩
  have h9 := bnd h
  clear h
  obtain ⟨a, ha, h⟩ := h9
  have h9 := bnd h
  clear h
  obtain ⟨b, hb, h⟩ := h9
  have h9 := bnd h
  clear h
  obtain ⟨c, hc, h⟩ := h9
  have h9 := bnd h
  clear h
  obtain ⟨d, hd, h⟩ := h9
  by_cases hh : a = true ∧ x.f0 = y.f0 ∧ b = true ∧ x.f2 = y.f2 ∧ c = true ∧ d = true
  case neg => rw [if_neg hh] at h; cases h
  obtain ⟨rfl, h2, rfl, h3, rfl, rfl⟩ := hh
  rw [← h2, ← h3, ← hp, ← hs] at e1
  rw [← hp, ← hs] at e0
  obtain rfl : b0 = #[.int .i64 p, .slice A1 x.f1.length c1, .int .i64 s, .int .i64 x.f3.f0, .int .i64 x.f3.f1, .slice A5 x.f3.f2.length c5, .slice A6 x.f3.f3.length c6, .slice A7 x.f3.f4.length c7, .slice A8 x.f4.length c8, .slice A9 x.f5.length c9] := by rw [← b0.toArray_toList, e0]
  obtain rfl : b1 = #[.int .i64 p, .slice B1 y.f1.length d1, .int .i64 s, .int .i64 y.f3.f0, .int .i64 y.f3.f1, .slice B5 y.f3.f2.length d5, .slice B6 y.f3.f3.length d6, .slice B7 y.f3.f4.length d7, .slice B8 y.f4.length d8, .slice B9 y.f5.length d9] := by rw [← b1.toArray_toList, e1]
  have A1' := Aside0.mk ha
  have A2' := Aside0.mk hb
  have A3' := Aside0.mk hc
  have A4' := Aside0.mk hd
  have G1 := Aside0.mk g1; have L1 := Aside0.mk m1; have G2_1 := Aside0.mk q1; have L2_1 := Aside0.mk n1
  have G5 := Aside0.mk g5; have L5 := Aside0.mk m5; have G2_5 := Aside0.mk q5; have L2_5 := Aside0.mk n5
  have G6 := Aside0.mk g6; have L6 := Aside0.mk m6; have G2_6 := Aside0.mk q6; have L2_6 := Aside0.mk n6
  have G7 := Aside0.mk g7; have L7 := Aside0.mk m7; have G2_7 := Aside0.mk q7; have L2_7 := Aside0.mk n7
  have G8 := Aside0.mk g8; have L8 := Aside0.mk m8; have G2_8 := Aside0.mk q8; have L2_8 := Aside0.mk n8
  have G9 := Aside0.mk g9; have L9 := Aside0.mk m9; have G2_9 := Aside0.mk q9; have L2_9 := Aside0.mk n9
  have pp : (p != p) = false := bne_eq_false_iff_eq.mpr rfl
  have ss : (s != s) = false := bne_eq_false_iff_eq.mpr rfl
  have HB := Bw.refl w
  clear h h0 h1 ha hb hc hd h2 h3 hp hs e0 e1 g1 m1 q1 n1 g5 m5 q5 n5 g6 m6 q6 n6 g7 m7 q7 n7 g8 m8 q8 n8 g9 m9 q9 n9
  go_enter Try.func71, Try.ntmps71
  go_wp2_with (first
    | ((with_reducible refine gate_dst (N := 2) rfl ?_); refine bxb (bs := #[.int .i64 p, .slice A1 x.f1.length c1, .int .i64 s, .int .i64 x.f3.f0, .int .i64 x.f3.f1, .slice A5 x.f3.f2.length c5, .slice A6 x.f3.f3.length c6, .slice A7 x.f3.f4.length c7, .slice A8 x.f4.length c8, .slice A9 x.f5.length c9]) 2 rfl rfl rfl rfl ?_; intro ga wa BX hb hge hlt; replace HB := Bw.sw w hb; clear hb hge hlt; simp only [Act.put, List.setIfInBounds_toArray, List.set_cons_zero, List.set_cons_succ])
    | ((with_reducible refine gate_dst (N := 3) rfl ?_); refine bxb (bs := #[.int .i64 p, .slice B1 y.f1.length d1, .int .i64 s, .int .i64 y.f3.f0, .int .i64 y.f3.f1, .slice B5 y.f3.f2.length d5, .slice B6 y.f3.f3.length d6, .slice B7 y.f3.f4.length d7, .slice B8 y.f4.length d8, .slice B9 y.f5.length d9]) 3 rfl rfl rfl rfl ?_; intro gb wb BZ hb hge hlt; replace BX := BX.b hb; replace HB := Bw.sw w hb; clear hb hge hlt; obtain ⟨gc0, gc1, gc2, gc3, gc4, gc5, gc6, gc7, gc8, gc9⟩ := blk10e BX.h; obtain ⟨gd0, gd1, gd2, gd3, gd4, gd5, gd6, gd7, gd8, gd9⟩ := blk10e BZ.h; simp only [Act.put, List.setIfInBounds_toArray, List.set_cons_zero, List.set_cons_succ])
    | ((with_reducible refine gate_dst (N := 14) rfl ?_); refine gg (some 14) rfl rfl rfl frIB ?_; refine onc (laws_eqByteS.calls k _ _ _ _ _ _ _ _ (cb G1) L1.out (cb G2_1) L2_1.out A1'.out) rfl ?_; rintro e9 w9 ⟨rfl, hb⟩; replace hb := hb.below; refine ⟨_, rfl, ?_⟩; replace BX := BX.b hb; replace BZ := BZ.b hb; replace HB := Bw.sw w hb; clear hb gc0 gc1 gc2 gc3 gc4 gc5 gc6 gc7 gc8 gc9 gd0 gd1 gd2 gd3 gd4 gd5 gd6 gd7 gd8 gd9; obtain ⟨gc0, gc1, gc2, gc3, gc4, gc5, gc6, gc7, gc8, gc9⟩ := blk10e BX.h; obtain ⟨gd0, gd1, gd2, gd3, gd4, gd5, gd6, gd7, gd8, gd9⟩ := blk10e BZ.h)
    | ((with_reducible refine gate_dst (N := 25) rfl ?_); refine gg (some 25) rfl rfl rfl frIX ?_; refine onc (laws_eqExpr.calls k _ _ _ _ _ _ _ _ _ _ _ _ _ _ _ _ _ _ _ _ _ _ _ _ (cb G5) L5.out (cb G6) L6.out (cb G7) L7.out (cb G2_5) L2_5.out (cb G2_6) L2_6.out (cb G2_7) L2_7.out A2'.out) rfl ?_; rintro e9 w9 ⟨rfl, hb⟩; refine ⟨_, rfl, ?_⟩; replace BX := BX.b hb; replace BZ := BZ.b hb; replace HB := Bw.sw w hb; clear hb gc0 gc1 gc2 gc3 gc4 gc5 gc6 gc7 gc8 gc9 gd0 gd1 gd2 gd3 gd4 gd5 gd6 gd7 gd8 gd9; obtain ⟨gc0, gc1, gc2, gc3, gc4, gc5, gc6, gc7, gc8, gc9⟩ := blk10e BX.h; obtain ⟨gd0, gd1, gd2, gd3, gd4, gd5, gd6, gd7, gd8, gd9⟩ := blk10e BZ.h)
    | ((with_reducible refine gate_dst (N := 31) rfl ?_); refine gg (some 31) rfl rfl rfl frIBB ?_; refine onc (laws_eqByteSS.calls k _ _ _ _ _ _ _ _ (cb G8) L8.out (cb G2_8) L2_8.out A3'.out) rfl ?_; rintro e9 w9 ⟨rfl, hb⟩; replace hb := hb.below; refine ⟨_, rfl, ?_⟩; replace BX := BX.b hb; replace BZ := BZ.b hb; replace HB := Bw.sw w hb; clear hb gc0 gc1 gc2 gc3 gc4 gc5 gc6 gc7 gc8 gc9 gd0 gd1 gd2 gd3 gd4 gd5 gd6 gd7 gd8 gd9; obtain ⟨gc0, gc1, gc2, gc3, gc4, gc5, gc6, gc7, gc8, gc9⟩ := blk10e BX.h; obtain ⟨gd0, gd1, gd2, gd3, gd4, gd5, gd6, gd7, gd8, gd9⟩ := blk10e BZ.h)
    | ((with_reducible refine gate_dst (N := 37) rfl ?_); refine gg (some 37) rfl rfl rfl frIXS ?_; refine onc (laws_eqExprS.calls k _ _ _ _ _ _ _ _ (cb G9) L9.out (cb G2_9) L2_9.out A4'.out) rfl ?_; rintro e9 w9 ⟨rfl, hb⟩; refine ⟨_, rfl, ?_⟩; replace BX := BX.b hb; replace BZ := BZ.b hb; replace HB := Bw.sw w hb; clear hb gc0 gc1 gc2 gc3 gc4 gc5 gc6 gc7 gc8 gc9 gd0 gd1 gd2 gd3 gd4 gd5 gd6 gd7 gd8 gd9; obtain ⟨gc0, gc1, gc2, gc3, gc4, gc5, gc6, gc7, gc8, gc9⟩ := blk10e BX.h; obtain ⟨gd0, gd1, gd2, gd3, gd4, gd5, gd6, gd7, gd8, gd9⟩ := blk10e BZ.h))
  go_ret
  exact ⟨rfl, bw⟩
def laws_eqItemS.r : Nat → List S94 → List S94 → Nat → Option Bool
  | 0, _, _, _ => none
  | k + 1, l, m, i => if i < l.length then (laws_eqItem.g k (rd_T94 l (i : Int)) (rd_T94 m (i : Int))).bind fun a => if a = true then laws_eqItemS.r k l m (i + 1) else none else some true
def laws_eqItemS.f (k : Nat) (l m : List S94) : Option Bool := if l.length = m.length then laws_eqItemS.r k l m 0 else none
structure Qw (w w' : World) : Prop where
  h : Below w.heap.size w w'
theorem Qw.b {w w1 w2 : World} (h : Qw w w1) (hb : Below w1.heap.size w1 w2) : Qw w w2 := ⟨below_step h.h hb⟩
set_option maxHeartbeats 4000000 in
set_option maxRecDepth 100000 in
theorem laws_eqItemS.calls (k : Nat) (A0 : Option Addr) (c0 : Nat) (l0 : List (S94)) (A1 : Option Addr) (c1 : Nat) (l1 : List (S94)) (r : Bool) (w : World) (hr0 : Kd.C k94 w A0 l0.length l0) (hc0 : l0.length ≤ c0) (hr1 : Kd.C k94 w A1 l1.length l1) (hc1 : l1.length ≤ c1) (h : laws_eqItemS.f k l0 l1 = some r) :
    Calls Try.prog 34 #[.slice A0 l0.length c0, .slice A1 l1.length c1] w fun e w' => e = .returned (.bool r) ∧ Below w.heap.size w w' := by
  have HR0 := Aside0.mk hr0
  have HR1 := Aside0.mk hr1
  clear hr0 hr1 hc0 hc1
  have HB := Bw.refl w
  unfold laws_eqItemS.f at h
  by_cases hln : l0.length = l1.length
  case neg => rw [if_neg hln] at h; cases h
  rw [if_pos hln] at h
  have HLN := Aside0.mk hln
  have hlb : ((l0.length : Int) != (l1.length : Int)) = false := bne_eq_false_iff_eq.mpr (by omega)
  have hlb2 : (l0.length != l1.length) = false := bne_eq_false_iff_eq.mpr hln
  have H' := Aside0.mk h
  clear h hln
  go_enter Try.func34, Try.ntmps34
  go_wp2
  go_loopg [5] k (fun kq v5 w' => ∃ i : Nat, i ≤ l0.length ∧ v5 = .int .i64 (i : Int) ∧ Aside0 (laws_eqItemS.r kq l0 l1 i = some r) ∧ Aside0 (kq ≤ k) ∧ Bw w w')
  case atStart => exact ⟨0, Nat.zero_le _, rfl, H', ⟨Nat.le_refl _⟩, ⟨bw⟩⟩
  case round =>
    clear H' hlb hlb2
    obtain ⟨i, hil, rfl, HA, HK1, HB⟩ := hrel
    cases gk with
    | zero => exact absurd HA.out (by simp [laws_eqItemS.r])
    | succ k1 =>
      have H := HA.out
      clear HA
      rw [laws_eqItemS.r] at H
      by_cases hlt : i < l0.length
      case neg =>
        rw [if_neg hlt] at H
        obtain rfl := Option.some.inj H
        have c2b0 : ((i : Int) < (l0.length : Int)) = False := eq_false (by omega)
        clear H
        go_wp2
        go_ret
        exact ⟨rfl, bw⟩
      rw [if_pos hlt] at H
      have h9 := bnd H
      clear H
      obtain ⟨a, ha, H⟩ := h9
      cases a with
      | false => rw [if_neg (by decide)] at H; cases H
      | true =>
      rw [if_pos rfl] at H
      have hlt1 : i < l1.length := by have := HLN.out; omega
      have hlm : l0.length ≤ 9223372036854775807 := HR0.out.2.1
      have c2b0 : ((i : Int) < (l0.length : Int)) = True := eq_true (by omega)
      have c2b1 : ((i : Int) < (l1.length : Int)) = True := eq_true (by omega)
      have p126 : (0 ≤ (i : Int)) = True := eq_true (by omega)
      have w3 : wrap64 ((i : Int) + 1) = (i : Int) + 1 := w64 (by omega) (by omega)
      clear hlm
      obtain ⟨ad, A1, c1, A5, c5, A6, c6, A7, c7, A8, c8, A9, c9, eA, x0_, x1_, x2_, x3_, x4_, x5_, x6_, x7_, x8_, x9_, m1, g1, m5, g5, m6, g6, m7, g7, m8, g8, m9, g9⟩ := at_T94 HR0.out (i : Int) (by omega) (by omega)
      obtain ⟨bd, B1, d1, B5, d5, B6, d6, B7, d7, B8, d8, B9, d9, eB, y0_, y1_, y2_, y3_, y4_, y5_, y6_, y7_, y8_, y9_, n1, q1, n5, q5, n6, q6, n7, q7, n8, q8, n9, q9⟩ := at_T94 HR1.out (i : Int) (by omega) (by omega)
      subst eA
      subst eB
      simp only [Int.toNat_natCast] at x0_ x1_ x2_ x3_ x4_ x5_ x6_ x7_ x8_ x9_ y0_ y1_ y2_ y3_ y4_ y5_ y6_ y7_ y8_ y9_
      have R0 := Aside0.mk (k94_mk w (rd_T94 l0 (i : Int)) m1 g1 m5 g5 m6 g6 m7 g7 m8 g8 m9 g9)
      have R1 := Aside0.mk (k94_mk w (rd_T94 l1 (i : Int)) n1 q1 n5 q5 n6 q6 n7 q7 n8 q8 n9 q9)
      obtain ⟨x, hx⟩ : ∃ z, z = rd_T94 l0 (i : Int) := ⟨_, rfl⟩
      obtain ⟨y, hy⟩ : ∃ z, z = rd_T94 l1 (i : Int) := ⟨_, rfl⟩
      rw [← hx] at R0 ha x0_ x1_ x2_ x3_ x4_ x5_ x6_ x7_ x8_ x9_
      rw [← hy] at R1 ha y0_ y1_ y2_ y3_ y4_ y5_ y6_ y7_ y8_ y9_
      have HA := Aside0.mk ha
      have H' := Aside0.mk H
      have HQ0 : Qw w wr := ⟨HB.out⟩
      clear hx hy ha H m1 g1 n1 q1 m5 g5 n5 q5 m6 g6 n6 q6 m7 g7 n7 q7 m8 g8 n8 q8 m9 g9 n9 q9
      try go_wp2
      have hdr : Below wr.heap.size wr wr.drew := below_drew1 (Below.refl _ _)
      refine start_ (n := 10) (S := fun w' => Qw w w') (ds := []) #[false, false, false, false, false, false, false, false, false, false] (by kernel_rfl) rfl rfl (HQ0.b hdr) (fun hH => ?_)
      generalize wr.drew = wd at hdr hH ⊢
      replace HQ0 := HQ0.b hdr
      replace HB := Bw.sw w hdr
      clear hdr
      refine pure_ (i := 0) (N := some 17) (v := ?_) (a' := ?_) #[true, false, false, false, false, false, false, false, false, false] rfl rfl (by kernel_rfl) (fun _ _ _ h => h) (Or.inl ⟨by rfl, ?_⟩) ?_ ?_
      rotate_left
      ·intro w'
       go_simp
       with_reducible rfl
      rotate_left
      ·simp only [Act.put, List.setIfInBounds_toArray, List.set_cons_zero, List.set_cons_succ, i64_w, i32_w]
       rfl
      refine pure_ (i := 1) (N := some 18) (v := ?_) (a' := ?_) #[true, true, false, false, false, false, false, false, false, false] rfl rfl (by kernel_rfl) (fun _ _ _ h => h) (Or.inl ⟨by rfl, ?_⟩) ?_ ?_
      rotate_left
      ·intro w'
       go_simp
       with_reducible rfl
      rotate_left
      ·simp only [Act.put, List.setIfInBounds_toArray, List.set_cons_zero, List.set_cons_succ, i64_w, i32_w]
       rfl
      refine pure_ (i := 2) (N := some 19) (v := ?_) (a' := ?_) #[true, true, true, false, false, false, false, false, false, false] rfl rfl (by kernel_rfl) (fun _ _ _ h => h) (Or.inl ⟨by rfl, ?_⟩) ?_ ?_
      rotate_left
      ·intro w'
       go_simp
       with_reducible rfl
      rotate_left
      ·simp only [Act.put, List.setIfInBounds_toArray, List.set_cons_zero, List.set_cons_succ, i64_w, i32_w]
       rfl
      refine take_ (i := 3) (N := some 20) (v := ?_) (a' := ?_) #[true, true, true, true, false, false, false, false, false, false] rfl rfl (by kernel_rfl) (fun _ _ _ h => h) (Or.inl ⟨by rfl, ?_⟩) hH ?_ ?_
      rotate_left
      ·rintro w' s0
       replace x0_ := (s0.h.cell (World.block_lt_of_cell? w _ x0_)).trans x0_
       replace x1_ := (s0.h.cell (World.block_lt_of_cell? w _ x1_)).trans x1_
       replace x2_ := (s0.h.cell (World.block_lt_of_cell? w _ x2_)).trans x2_
       replace x3_ := (s0.h.cell (World.block_lt_of_cell? w _ x3_)).trans x3_
       replace x4_ := (s0.h.cell (World.block_lt_of_cell? w _ x4_)).trans x4_
       replace x5_ := (s0.h.cell (World.block_lt_of_cell? w _ x5_)).trans x5_
       replace x6_ := (s0.h.cell (World.block_lt_of_cell? w _ x6_)).trans x6_
       replace x7_ := (s0.h.cell (World.block_lt_of_cell? w _ x7_)).trans x7_
       replace x8_ := (s0.h.cell (World.block_lt_of_cell? w _ x8_)).trans x8_
       replace x9_ := (s0.h.cell (World.block_lt_of_cell? w _ x9_)).trans x9_
       go_simp
       with_reducible rfl
      rotate_left
      ·simp only [Act.put, List.setIfInBounds_toArray, List.set_cons_zero, List.set_cons_succ, i64_w, i32_w]
       rfl
      refine pure_ (i := 4) (N := some 21) (v := ?_) (a' := ?_) #[true, true, true, true, true, false, false, false, false, false] rfl rfl (by kernel_rfl) (fun _ _ _ h => h) (Or.inl ⟨by rfl, ?_⟩) ?_ ?_
      rotate_left
      ·intro w'
       go_simp
       with_reducible rfl
      rotate_left
      ·simp only [Act.put, List.setIfInBounds_toArray, List.set_cons_zero, List.set_cons_succ, i64_w, i32_w]
       rfl
      refine pure_ (i := 5) (N := some 22) (v := ?_) (a' := ?_) #[true, true, true, true, true, true, false, false, false, false] rfl rfl (by kernel_rfl) (fun _ _ _ h => h) (Or.inl ⟨by rfl, ?_⟩) ?_ ?_
      rotate_left
      ·intro w'
       go_simp
       with_reducible rfl
      rotate_left
      ·simp only [Act.put, List.setIfInBounds_toArray, List.set_cons_zero, List.set_cons_succ, i64_w, i32_w]
       rfl
      refine pure_ (i := 6) (N := some 23) (v := ?_) (a' := ?_) #[true, true, true, true, true, true, true, false, false, false] rfl rfl (by kernel_rfl) (fun _ _ _ h => h) (Or.inl ⟨by rfl, ?_⟩) ?_ ?_
      rotate_left
      ·intro w'
       go_simp
       with_reducible rfl
      rotate_left
      ·simp only [Act.put, List.setIfInBounds_toArray, List.set_cons_zero, List.set_cons_succ, i64_w, i32_w]
       rfl
      refine take_ (i := 7) (N := some 24) (v := ?_) (a' := ?_) #[true, true, true, true, true, true, true, true, false, false] rfl rfl (by kernel_rfl) (fun _ _ _ h => h) (Or.inl ⟨by rfl, ?_⟩) hH ?_ ?_
      rotate_left
      ·rintro w' s0
       replace y0_ := (s0.h.cell (World.block_lt_of_cell? w _ y0_)).trans y0_
       replace y1_ := (s0.h.cell (World.block_lt_of_cell? w _ y1_)).trans y1_
       replace y2_ := (s0.h.cell (World.block_lt_of_cell? w _ y2_)).trans y2_
       replace y3_ := (s0.h.cell (World.block_lt_of_cell? w _ y3_)).trans y3_
       replace y4_ := (s0.h.cell (World.block_lt_of_cell? w _ y4_)).trans y4_
       replace y5_ := (s0.h.cell (World.block_lt_of_cell? w _ y5_)).trans y5_
       replace y6_ := (s0.h.cell (World.block_lt_of_cell? w _ y6_)).trans y6_
       replace y7_ := (s0.h.cell (World.block_lt_of_cell? w _ y7_)).trans y7_
       replace y8_ := (s0.h.cell (World.block_lt_of_cell? w _ y8_)).trans y8_
       replace y9_ := (s0.h.cell (World.block_lt_of_cell? w _ y9_)).trans y9_
       go_simp
       with_reducible rfl
      rotate_left
      ·simp only [Act.put, List.setIfInBounds_toArray, List.set_cons_zero, List.set_cons_succ, i64_w, i32_w]
       rfl
      refine one_ (i := 8) (N := some 25) #[true, true, true, true, true, true, true, true, true, false] rfl rfl (by kernel_rfl) (by decide) (fun K hK => ?_)
      refine goes_ Try.func71 (by kernel_rfl) rfl #[.agg #[.int .i64 x.f0, .slice A1 x.f1.length c1, .int .i64 x.f2, .int .i64 x.f3.f0, .int .i64 x.f3.f1, .slice A5 x.f3.f2.length c5, .slice A6 x.f3.f3.length c6, .slice A7 x.f3.f4.length c7, .slice A8 x.f4.length c8, .slice A9 x.f5.length c9], .agg #[.int .i64 y.f0, .slice B1 y.f1.length d1, .int .i64 y.f2, .int .i64 y.f3.f0, .int .i64 y.f3.f1, .slice B5 y.f3.f2.length d5, .slice B6 y.f3.f3.length d6, .slice B7 y.f3.f4.length d7, .slice B8 y.f4.length d8, .slice B9 y.f5.length d9]] (by rfl) rfl rfl (by (try simp only [List.map_toArray, List.map_cons, List.map_nil]); first | done | rfl) ?_
      refine (laws_eqItem.kc k1 x y #[.int .i64 x.f0, .slice A1 x.f1.length c1, .int .i64 x.f2, .int .i64 x.f3.f0, .int .i64 x.f3.f1, .slice A5 x.f3.f2.length c5, .slice A6 x.f3.f3.length c6, .slice A7 x.f3.f4.length c7, .slice A8 x.f4.length c8, .slice A9 x.f5.length c9] #[.int .i64 y.f0, .slice B1 y.f1.length d1, .int .i64 y.f2, .int .i64 y.f3.f0, .int .i64 y.f3.f1, .slice B5 y.f3.f2.length d5, .slice B6 y.f3.f3.length d6, .slice B7 y.f3.f4.length d7, .slice B8 y.f4.length d8, .slice B9 y.f5.length d9] _ ⟨k94.K_below HB.out R0.out⟩ ⟨k94.K_below HB.out R1.out⟩ HA.out).mono ?_
      rintro e9 we ⟨rfl, hb⟩
      refine ⟨_, rfl, ?_⟩
      replace HQ0 := HQ0.b hb
      replace HB := Bw.sw w hb
      clear hb
      refine hK.out _ _ HQ0 (fun hH => ?_)
      clear hK K
      refine norm_ (a' := ?_) ?_ ?_
      rotate_left
      ·show Act.put _ (some 25) _ = _
       simp only [Act.put, List.setIfInBounds_toArray, List.set_cons_zero, List.set_cons_succ, i64_w, i32_w]
       rfl
      refine pure_ (i := 9) (N := some 26) (v := ?_) (a' := ?_) #[true, true, true, true, true, true, true, true, true, true] rfl rfl (by kernel_rfl) (fun _ _ _ h => h) (Or.inl ⟨by rfl, ?_⟩) ?_ ?_
      rotate_left
      ·intro w'
       go_simp
       with_reducible rfl
      rotate_left
      ·simp only [Act.put, List.setIfInBounds_toArray, List.set_cons_zero, List.set_cons_succ, i64_w, i32_w]
       rfl
      refine done_ (by kernel_rfl) ?_
      try go_wp2
      go_roundg k1
      case rel => exact ⟨i + 1, by omega, by first | (rw [w3]; rfl) | go_num, H', ⟨by have := HK1.out; omega⟩, ⟨bw⟩⟩
      case measure => have := HK1.out; omega
end Go.Proofs.Ytockllljeeakaaa.PFnExactConfigOk
