/- What a function comes to, walked by hand. No condition. -/
import Derived.Test.YtenpjddjmhjdoaaDoorPFnExactValTextx0
import Derived.Test.YtenpjddjmhjdoaaDoorPFnExactValTextx3
import Derived.Test.YtenpjddjmhjdoaaDoorPFnExactValTextx9
import Derived.Test.YtenpjddjmhjdoaaDoorMtx
import Derived.Test.YtenpjddjmhjdoaaDoorMsb
import Derived.Test.YtenpjddjmhjdoaaDoorMkx
import Derived.Test.YtenpjddjmhjdoaaDoorMcore
import Derived.Test.YtenpjddjmhjdoaaDoorMnum
import Derived.Lib.SlBytesConst
namespace Go.Proofs.YtenpjddjmhjdoaaDoor.PFnExactValText
open Go.RowKit Go.Proofs.YtenpjddjmhjdoaaDoorW.PrintWords Go.Proofs.YtenpjddjmhjdoaaDoorW.PrintLast Go.Proofs.YtenpjddjmhjdoaaDoorW.PrintMore Go.Proofs.YtenpjddjmhjdoaaDoor.M
attribute [local go_sem] max2_int min2_int max_two min_two max_three min_three max_four min_four Go.Proofs.YtenpjddjmhjdoaaDoor.M.str_gtr Go.Proofs.YtenpjddjmhjdoaaDoor.M.str_leq Go.Proofs.YtenpjddjmhjdoaaDoor.M.str_geq   -- for this text's walks alone
set_option linter.unusedVariables false
set_option linter.unusedSimpArgs false
mutual
/-- The parts' texts, put behind b. -/
def spec_l2say.l0 : Nat → S31 → List Int → Nat → Option (List Int)
  | 0, _, _, _ => none
  | k + 1, x, b, i => if i < x.f4.length then (if b.length < 70368744177664 then (if x.f0 = 5 then (if i < x.f3.length then (if (rd_L1 x.f3 (i : Int)).length < 1099511627776 then some (b ++ sepL i ++ rd_L1 x.f3 (i : Int) ++ [32, 61, 32]) else none) else none) else some (b ++ sepL i)) else none).bind fun t => (spec_l2say.f k (rd_T31 x.f4 (i : Int))).bind fun u => if u.length < 35184372088832 then spec_l2say.l0 k x (t ++ u) (i + 1) else none else some b
/-- A value's text. -/
def spec_l2say.f : Nat → S31 → Option (List Int)
  | 0, _ => none
  | k + 1, x => if x.f0 = 0 then some [110, 117, 108, 108] else if x.f0 = 1 then (if x.f1 = 0 then some [102, 97, 108, 115, 101] else if x.f1 = 1 then some [116, 114, 117, 101] else none) else if x.f0 = 2 then spec_l2digits.f k x.f1 else if x.f0 = 3 then spec_l2quoted.f k x.f2 else if x.f0 = 6 then some [63] else (spec_l2say.l0 k x [if x.f0 = 5 then 123 else 91] 0).bind fun r => if r.length < 140737488355328 then some (r ++ [if x.f0 = 5 then 125 else 93]) else none
end
theorem frS : Fr Tryd.prog 36 := ⟨_, Tryd.func36, by kernel_rfl, rfl⟩
theorem frSd : Fr Tryd.prog 70 := ⟨_, Tryd.func70, by kernel_rfl, rfl⟩
theorem frSq : Fr Tryd.prog 71 := ⟨_, Tryd.func71, by kernel_rfl, rfl⟩
theorem lit_S {w W : World} {v : Value} {l : List Int} (h : (Kd.int .u8).R 5 W w.heap.size (fun _ => True) v l) (hb : Below w.heap.size w W) : Stp 5 w w l v W := ⟨h, hb, (Lib.OthersKept.refl _ _ w).below hb, hb.size⟩
set_option maxRecDepth 100000 in
set_option maxHeartbeats 8000000 in
theorem spec_l2say.ka (k : Nat) : ∀ (x : S31) (b0 : Array Value) (r : List Int) (w : World), Rd k31 w x b0.toList → spec_l2say.f k x = some r →
    Calls Tryd.prog 36 #[.agg b0] w fun e w' => ∃ v, e = .returned v ∧ OwnQ w' w.heap.size w'.heap.size r v ∧ Below w.heap.size w w' := by
  induction k using Nat.strongRecOn with
  | ind k ih =>
  intro x b0 r w hx h
  cases k with
  | zero => simp [spec_l2say.f] at h
  | succ kk =>
  obtain ⟨A2, c2, A3, c3, A4, c4, e0, lc2, g2, lc3, g3, lc4, g4⟩ := k31_open hx.k
  obtain ⟨a0, a1, l2, l3, l4⟩ := x
  obtain rfl : b0 = #[.int .i64 a0, .int .i64 a1, .slice A2 l2.length c2, .slice A3 l3.length c3, .slice A4 l4.length c4] := by rw [← b0.toArray_toList, e0]
  simp only at lc2 g2 lc3 g3 lc4 g4
  simp only [spec_l2say.f] at h
  have hcv4 := fun (w' : World) => Lib.run_convert_bytes_const (P := Tryd.prog) w' 22 5 #[.int .u8 110, .int .u8 117, .int .u8 108, .int .u8 108] 4 4 Tryd.underlying22 Tryd.underlying5
  have hcv1 := fun (w' : World) => Lib.run_convert_bytes_const (P := Tryd.prog) w' 22 5 #[.int .u8 63] 1 1 Tryd.underlying22 Tryd.underlying5
  have HCV4 := Aside0.mk hcv4
  have HCV1 := Aside0.mk hcv1
  have HB := Bw.refl w
  have G2 := Aside0.mk g2
  have G3 := Aside0.mk g3
  have G4 := Aside0.mk g4
  have LC2 := Aside0.mk lc2
  have hu := Tryd.underlying31
  clear g2 g3 g4 e0 hx
  by_cases n0 : a0 = 0
  · subst n0
    rw [if_pos rfl] at h
    obtain rfl := Option.some.inj h
    clear h
    go_enter Tryd.func36, Tryd.ntmps36
    go_wp2_with (first
      | ((with_reducible refine gate_dst (N := 1) rfl ?_); refine bxb (bs := #[.int .i64 0, .int .i64 a1, .slice A2 l2.length c2, .slice A3 l3.length c3, .slice A4 l4.length c4]) 1 rfl rfl rfl rfl ?_; intro gb w1 BX hb1 hle hlt; replace HB := Bw.sw w hb1; clear hb1; obtain ⟨hc0, hc1, hc2, hc3, hc4, hf0, hf1, hf2, hf3, hf4⟩ := blk5 BX.h; have hcv4 := HCV4.out; have hcv1 := HCV1.out; simp only [Act.put, List.setIfInBounds_toArray, List.set_cons_zero, List.set_cons_succ]))
    go_ret
    exact ⟨_, rfl, OwnQ.lit [110, 117, 108, 108] _ (Below.size bw) (by decide), bw⟩
  rw [if_neg n0] at h
  by_cases n1 : a0 = 1
  · subst n1
    rw [if_pos rfl] at h
    by_cases m0 : a1 = 0
    · subst m0
      rw [if_pos rfl] at h
      obtain rfl := Option.some.inj h
      clear h
      go_enter Tryd.func36, Tryd.ntmps36
      go_wp2_with (first
        | ((with_reducible refine gate_dst (N := 1) rfl ?_); refine bxb (bs := #[.int .i64 1, .int .i64 0, .slice A2 l2.length c2, .slice A3 l3.length c3, .slice A4 l4.length c4]) 1 rfl rfl rfl rfl ?_; intro gb w1 BX hb1 hle hlt; replace HB := Bw.sw w hb1; clear hb1; obtain ⟨hc0, hc1, hc2, hc3, hc4, hf0, hf1, hf2, hf3, hf4⟩ := blk5 BX.h; have hcv4 := HCV4.out; have hcv1 := HCV1.out; simp only [Act.put, List.setIfInBounds_toArray, List.set_cons_zero, List.set_cons_succ])
        | ((with_reducible refine gate_dst (N := 20) rfl ?_); refine csb 20 rfl rfl rfl rfl Tryd.underlying9 Tryd.underlying22 Tryd.underlying5 (by decide) ?_; intro bq v w2 hle2 hs hb2; have HL : w.heap.size ≤ bq := (by refine Nat.le_trans ?_ hle2; exact Below.size bw); replace HL := Aside0.mk HL; replace HB := Bw.sw w hb2; have SB := Aside0.mk hs; clear hs hb2; have hcv4 := HCV4.out; have hcv1 := HCV1.out; simp only [Act.put, List.setIfInBounds_toArray, List.set_cons_zero, List.set_cons_succ]))
      go_ret
      exact ⟨_, rfl, ⟨.inr ⟨_, HL.out, SB.out.lt, SB.out⟩, Nat.le_refl _⟩, HB.out⟩
    rw [if_neg m0] at h
    by_cases m1 : a1 = 1
    · subst m1
      rw [if_pos rfl] at h
      obtain rfl := Option.some.inj h
      clear h
      go_enter Tryd.func36, Tryd.ntmps36
      go_wp2_with (first
        | ((with_reducible refine gate_dst (N := 1) rfl ?_); refine bxb (bs := #[.int .i64 1, .int .i64 1, .slice A2 l2.length c2, .slice A3 l3.length c3, .slice A4 l4.length c4]) 1 rfl rfl rfl rfl ?_; intro gb w1 BX hb1 hle hlt; replace HB := Bw.sw w hb1; clear hb1; obtain ⟨hc0, hc1, hc2, hc3, hc4, hf0, hf1, hf2, hf3, hf4⟩ := blk5 BX.h; have hcv4 := HCV4.out; have hcv1 := HCV1.out; simp only [Act.put, List.setIfInBounds_toArray, List.set_cons_zero, List.set_cons_succ])
        | ((with_reducible refine gate_dst (N := 20) rfl ?_); refine csb 20 rfl rfl rfl rfl Tryd.underlying9 Tryd.underlying22 Tryd.underlying5 (by decide) ?_; intro bq v w2 hle2 hs hb2; have HL : w.heap.size ≤ bq := (by refine Nat.le_trans ?_ hle2; exact Below.size bw); replace HL := Aside0.mk HL; replace HB := Bw.sw w hb2; have SB := Aside0.mk hs; clear hs hb2; have hcv4 := HCV4.out; have hcv1 := HCV1.out; simp only [Act.put, List.setIfInBounds_toArray, List.set_cons_zero, List.set_cons_succ]))
      go_ret
      exact ⟨_, rfl, ⟨.inr ⟨_, HL.out, SB.out.lt, SB.out⟩, Nat.le_refl _⟩, HB.out⟩
    rw [if_neg m1] at h
    cases h
  rw [if_neg n1] at h
  by_cases n2 : a0 = 2
  · subst n2
    rw [if_pos rfl] at h
    have HF := Aside0.mk h
    clear h
    go_enter Tryd.func36, Tryd.ntmps36
    go_wp2_with (first
      | ((with_reducible refine gate_dst (N := 1) rfl ?_); refine bxb (bs := #[.int .i64 2, .int .i64 a1, .slice A2 l2.length c2, .slice A3 l3.length c3, .slice A4 l4.length c4]) 1 rfl rfl rfl rfl ?_; intro gb w1 BX hb1 hle hlt; replace HB := Bw.sw w hb1; clear hb1; obtain ⟨hc0, hc1, hc2, hc3, hc4, hf0, hf1, hf2, hf3, hf4⟩ := blk5 BX.h; have hcv4 := HCV4.out; have hcv1 := HCV1.out; simp only [Act.put, List.setIfInBounds_toArray, List.set_cons_zero, List.set_cons_succ])
      | ((with_reducible refine gate_dst (N := 25) rfl ?_); refine gg (some 25) rfl rfl rfl frSd ?_; refine onc (spec_l2digits.calls kk a1 r _ HF.out) rfl ?_; rintro e w2 ⟨v2, rfl, ho, hb⟩; refine ⟨_, rfl, ?_⟩; have HO := Aside0.mk (OwnQ.of_R (Kd.R_lower ho (bzz w))); replace HB := Bw.sw w hb; clear ho hb; have hcv4 := HCV4.out; have hcv1 := HCV1.out; simp only [Act.put, List.setIfInBounds_toArray, List.set_cons_zero, List.set_cons_succ]))
    go_ret
    exact ⟨_, rfl, HO.out, HB.out⟩
  rw [if_neg n2] at h
  by_cases n3 : a0 = 3
  · subst n3
    rw [if_pos rfl] at h
    have HF := Aside0.mk h
    clear h
    go_enter Tryd.func36, Tryd.ntmps36
    go_wp2_with (first
      | ((with_reducible refine gate_dst (N := 1) rfl ?_); refine bxb (bs := #[.int .i64 3, .int .i64 a1, .slice A2 l2.length c2, .slice A3 l3.length c3, .slice A4 l4.length c4]) 1 rfl rfl rfl rfl ?_; intro gb w1 BX hb1 hle hlt; replace HB := Bw.sw w hb1; clear hb1; obtain ⟨hc0, hc1, hc2, hc3, hc4, hf0, hf1, hf2, hf3, hf4⟩ := blk5 BX.h; have hcv4 := HCV4.out; have hcv1 := HCV1.out; simp only [Act.put, List.setIfInBounds_toArray, List.set_cons_zero, List.set_cons_succ])
      | ((with_reducible refine gate_dst (N := 30) rfl ?_); refine gg (some 30) rfl rfl rfl frSq ?_; refine onc (spec_l2quoted.calls kk _ _ l2 r _ (cb G2) LC2.out HF.out) rfl ?_; rintro e w2 ⟨v2, rfl, ho, hb⟩; refine ⟨_, rfl, ?_⟩; have HO := Aside0.mk (OwnQ.of_R (Kd.R_lower ho (bzz w))); replace HB := Bw.sw w hb; clear ho hb; have hcv4 := HCV4.out; have hcv1 := HCV1.out; simp only [Act.put, List.setIfInBounds_toArray, List.set_cons_zero, List.set_cons_succ]))
    go_ret
    exact ⟨_, rfl, HO.out, HB.out⟩
  rw [if_neg n3] at h
  by_cases n6 : a0 = 6
  · subst n6
    rw [if_pos rfl] at h
    obtain rfl := Option.some.inj h
    clear h
    go_enter Tryd.func36, Tryd.ntmps36
    go_wp2_with (first
      | ((with_reducible refine gate_dst (N := 1) rfl ?_); refine bxb (bs := #[.int .i64 6, .int .i64 a1, .slice A2 l2.length c2, .slice A3 l3.length c3, .slice A4 l4.length c4]) 1 rfl rfl rfl rfl ?_; intro gb w1 BX hb1 hle hlt; replace HB := Bw.sw w hb1; clear hb1; obtain ⟨hc0, hc1, hc2, hc3, hc4, hf0, hf1, hf2, hf3, hf4⟩ := blk5 BX.h; have hcv4 := HCV4.out; have hcv1 := HCV1.out; simp only [Act.put, List.setIfInBounds_toArray, List.set_cons_zero, List.set_cons_succ]))
    go_ret
    exact ⟨_, rfl, OwnQ.lit [63] _ (Below.size bw) (by decide), bw⟩
  rw [if_neg n6] at h
  obtain ⟨r1, A1, h⟩ := bnd h
  obtain ⟨hr1, h⟩ := yesN h
  obtain rfl := Option.some.inj h
  have R1 := Aside0.mk hr1
  replace A1 := Aside0.mk A1
  have hll : l4.length ≤ 9223372036854775807 := G4.out.2.1
  clear h hr1
  by_cases n5 : a0 = 5
  · subst n5
    clear n0 n1 n2 n6 n3
    go_enter Tryd.func36, Tryd.ntmps36
    go_wp2_with (first
      | ((with_reducible refine gate_dst (N := 1) rfl ?_); refine bxb (bs := #[.int .i64 5, .int .i64 a1, .slice A2 l2.length c2, .slice A3 l3.length c3, .slice A4 l4.length c4]) 1 rfl rfl rfl rfl ?_; intro gb w1 BX hb1 hle hlt; replace HB := Bw.sw w hb1; clear hb1; obtain ⟨hc0, hc1, hc2, hc3, hc4, hf0, hf1, hf2, hf3, hf4⟩ := blk5 BX.h; have hcv4 := HCV4.out; have hcv1 := HCV1.out; simp only [Act.put, List.setIfInBounds_toArray, List.set_cons_zero, List.set_cons_succ])
      | ((with_reducible refine gate_dst (N := 39) rfl ?_); refine Kd.R_lit (Kd.int .u8) _ 5 ?hg (N := 39) ?hd (xs := [123]) (inner := [.int .u8 123]) (ok := fun _ => True) (okp := fun _ => True) ?hr ?hp (fun _ hk => hk) trivial (Below.refl _ _) (Nat.le_refl _) (by simp) ?_; (case hd => rfl); (case hg => rfl); (case hr => first | (go_simp; done) | (go_simp; rfl)); (case hp => exact (Reps.one (show Kd.M (Kd.int .u8) _ _ _ 123 [.int .u8 123] from rfl) (Reps.none _ _))); intro v39 w39 ho4 hb hg_ hnew_; clear hg_ hnew_; replace ho4 := Kd.R_lower ho4 (bzz w); replace BX := BX.b hb; replace HB := Bw.sw w hb; have I := lit_S ho4 HB.out; clear hb ho4; obtain ⟨hc0, hc1, hc2, hc3, hc4, hf0, hf1, hf2, hf3, hf4⟩ := blk5 BX.h; have hcv4 := HCV4.out; have hcv1 := HCV1.out; simp only [Act.put, List.setIfInBounds_toArray, List.set_cons_zero, List.set_cons_succ]))
    go_loopw [5, 6] (fun v5 v6 wr => ∃ (i kq : Nat) (b : List Int), i ≤ l4.length ∧ v6 = .int .i64 i ∧ kq ≤ kk ∧ Aside0 (spec_l2say.l0 kq ⟨5, a1, l2, l3, l4⟩ b i = some r1) ∧ Stp 5 w w b v5 wr ∧ Bx wr gb 31 #[.int .i64 5, .int .i64 a1, .slice A2 l2.length c2, .slice A3 l3.length c3, .slice A4 l4.length c4]) (fun _ v6 _ => l4.length - (intOf v6).toNat)
    case atStart => exact ⟨0, kk, _, Nat.zero_le _, rfl, Nat.le_refl _, A1, I, BX⟩
    case round =>
      clear A1 I BX HB hc0 hc1 hc2 hc3 hc4 hf0 hf1 hf2 hf3 hf4
      obtain ⟨i, kq, b, hil, rfl, hkq, HL, I, BX⟩ := hrel
      have h := HL.out
      clear HL
      cases kq with
      | zero => simp [spec_l2say.l0] at h
      | succ kq =>
      simp only [spec_l2say.l0] at h
      obtain ⟨hc0, hc1, hc2, hc3, hc4, hf0, hf1, hf2, hf3, hf4⟩ := blk5 BX.h
      by_cases hlt : i < l4.length
      · rw [if_pos hlt] at h
        obtain ⟨t3, B1, h⟩ := bnd h
        obtain ⟨t4, B2, h⟩ := bnd h
        obtain ⟨ul, h⟩ := yesN h
        have HL := Aside0.mk h
        have UL := Aside0.mk ul
        replace B2 := Aside0.mk B2
        clear h ul
        obtain ⟨lb2, B1⟩ := yesN B1
        have LB2 := Aside0.mk lb2
        clear lb2
        obtain ⟨ad, D2, d2, D3, d3, D4, d4, rfl, x0, x1, x2, x3, x4, y2, z2, y3, z3, y4, z4⟩ := at_T31 G4.out (i : Int) (by omega) (by omega)
        rw [Int.toNat_natCast] at x0 x1 x2 x3 x4
        have C0 := Aside0.mk (k31_mk w (rd_T31 l4 (i : Int)) y2 z2 y3 z3 y4 z4)
        clear y2 z2 y3 z3 y4 z4
        have p1 : (0 ≤ (i : Int)) = True := eq_true (by omega)
        have p2 : ((i : Int) < (l4.length : Int)) = True := eq_true (by omega)
        obtain ⟨xx, hxx⟩ : ∃ y, y = rd_T31 l4 (i : Int) := ⟨_, rfl⟩
        rw [← hxx] at x0 x1 x2 x3 x4 C0 B2
        clear hxx
        have X0 := Aside0.mk x0
        have X1 := Aside0.mk x1
        have X2 := Aside0.mk x2
        have X3 := Aside0.mk x3
        have X4 := Aside0.mk x4
        clear x0 x1 x2 x3 x4
        have x0 := (I.hb.cell (World.block_lt_of_cell? w _ X0.out)).trans X0.out
        have x1 := (I.hb.cell (World.block_lt_of_cell? w _ X1.out)).trans X1.out
        have x2 := (I.hb.cell (World.block_lt_of_cell? w _ X2.out)).trans X2.out
        have x3 := (I.hb.cell (World.block_lt_of_cell? w _ X3.out)).trans X3.out
        have x4 := (I.hb.cell (World.block_lt_of_cell? w _ X4.out)).trans X4.out
        rw [if_pos trivial] at B1
        obtain ⟨h3, B1⟩ := yesN B1
        obtain ⟨kl, B1⟩ := yesN B1
        obtain rfl := Option.some.inj B1
        obtain ⟨ae, E0, f0_, rfl, s0, s1, s2⟩ := at_L1 G3.out (i : Int) (by omega) (by omega)
        rw [Int.toNat_natCast] at s0
        have S0 := Aside0.mk s0
        have S2 := Aside0.mk s2
        have KL := Aside0.mk kl
        have p3 : ((i : Int) < (l3.length : Int)) = True := eq_true (by omega)
        obtain ⟨te, hte⟩ : ∃ y, y = rd_L1 l3 (i : Int) := ⟨_, rfl⟩
        rw [← hte] at S0 S2 KL HL
        clear hte s0 s1 s2 kl B1
        have s0 := (I.hb.cell (World.block_lt_of_cell? w _ S0.out)).trans S0.out
        rcases Nat.eq_zero_or_pos i with hi0 | hi0
        · have p5 : (0 < (i : Int)) = False := eq_false (by omega)
          have p6 : (0 < i) = False := eq_false (by omega)
          rw [show sepL i = [] from if_neg (by omega), List.append_nil] at HL
          clear hi0
          have LK := Aside0.mk (show b.length + te.length ≤ 140737488355328 by have := LB2.out; have := KL.out; omega)
          have LK2 := Aside0.mk (show (b ++ te).length + 3 ≤ 140737488355328 by have := LB2.out; have := KL.out; simp; omega)
          have LU := Aside0.mk (show (b ++ te ++ [32, 61, 32]).length + t4.length ≤ 140737488355328 by have := LB2.out; have := UL.out; have := KL.out; simp; omega)
          go_wp2_with (first
            | ((with_reducible refine gate_dst (N := 60) rfl ?_); at_builtin; refine tx_rows (w0 := w) rfl (.tmp 54) (.tmp 59) 22 rfl Tryd.underlying22 info5 rfl rfl I.r I.hb (Kd.C_below S2.out I.hb) (by have := LK.out; (try simp only [List.length_append, List.length_cons, List.length_nil] at this ⊢); omega) ?_; intro v60 w60 p; replace BX := BX.stp p (by decide); replace I := I.then_ p; clear p; have s0 := (I.hb.cell (World.block_lt_of_cell? w _ S0.out)).trans S0.out; have x0 := (I.hb.cell (World.block_lt_of_cell? w _ X0.out)).trans X0.out; have x1 := (I.hb.cell (World.block_lt_of_cell? w _ X1.out)).trans X1.out; have x2 := (I.hb.cell (World.block_lt_of_cell? w _ X2.out)).trans X2.out; have x3 := (I.hb.cell (World.block_lt_of_cell? w _ X3.out)).trans X3.out; have x4 := (I.hb.cell (World.block_lt_of_cell? w _ X4.out)).trans X4.out; obtain ⟨hc0, hc1, hc2, hc3, hc4, hf0, hf1, hf2, hf3, hf4⟩ := blk5 BX.h; have hcv4 := HCV4.out; have hcv1 := HCV1.out; simp only [Act.put, List.setIfInBounds_toArray, List.set_cons_zero, List.set_cons_succ])
            | ((with_reducible refine gate_dst (N := 61) rfl ?_); at_builtin; refine tx_str (w0 := w) (ys := [32, 61, 32]) rfl (.tmp 60) _ 22 9 rfl Tryd.underlying22 Tryd.underlying9 info5 rfl rfl I.r I.hb rfl (by have := LK2.out; have hz_ : (⟨#[32, 61, 32]⟩ : ByteArray).size = 3 := rfl; omega) ?_; intro v61 w61 p; replace BX := BX.stp p (by decide); replace I := I.then_ p; clear p; have s0 := (I.hb.cell (World.block_lt_of_cell? w _ S0.out)).trans S0.out; have x0 := (I.hb.cell (World.block_lt_of_cell? w _ X0.out)).trans X0.out; have x1 := (I.hb.cell (World.block_lt_of_cell? w _ X1.out)).trans X1.out; have x2 := (I.hb.cell (World.block_lt_of_cell? w _ X2.out)).trans X2.out; have x3 := (I.hb.cell (World.block_lt_of_cell? w _ X3.out)).trans X3.out; have x4 := (I.hb.cell (World.block_lt_of_cell? w _ X4.out)).trans X4.out; obtain ⟨hc0, hc1, hc2, hc3, hc4, hf0, hf1, hf2, hf3, hf4⟩ := blk5 BX.h; have hcv4 := HCV4.out; have hcv1 := HCV1.out; simp only [Act.put, List.setIfInBounds_toArray, List.set_cons_zero, List.set_cons_succ])
            | ((with_reducible refine gate_dst (N := 68) rfl ?_); refine gg (some 68) rfl rfl rfl frS ?_; refine onc (ih kq (by omega) xx #[.int .i64 xx.f0, .int .i64 xx.f1, .slice D2 xx.f2.length d2, .slice D3 xx.f3.length d3, .slice D4 xx.f4.length d4] t4 _ ⟨k31.K_below I.hb C0.out⟩ B2.out) rfl ?_; rintro e w2 ⟨v2, rfl, p, hb⟩; refine ⟨_, rfl, ?_⟩; replace BX := BX.b hb; replace I := I.below hb; obtain ⟨Au, cu, eu, _, gu⟩ := p.rd.k; injection eu with eu; subst eu; have GU := Aside0.mk gu; clear p hb gu; obtain ⟨hc0, hc1, hc2, hc3, hc4, hf0, hf1, hf2, hf3, hf4⟩ := blk5 BX.h; have hcv4 := HCV4.out; have hcv1 := HCV1.out; simp only [Act.put, List.setIfInBounds_toArray, List.set_cons_zero, List.set_cons_succ])
            | ((with_reducible refine gate_dst (N := 69) rfl ?_); at_builtin; refine tx_rows (w0 := w) rfl (.tmp 62) (.tmp 68) 22 rfl Tryd.underlying22 info5 rfl rfl I.r I.hb GU.out (by have := LU.out; (try simp only [List.length_append, List.length_cons, List.length_nil] at this ⊢); omega) ?_; intro v69 w69 p; replace BX := BX.stp p (by decide); replace I := I.then_ p; clear p; have hcv4 := HCV4.out; have hcv1 := HCV1.out; simp only [Act.put, List.setIfInBounds_toArray, List.set_cons_zero, List.set_cons_succ]))
          go_roundw
          case rel => exact ⟨i + 1, kq, _, by omega, by go_num, by omega, HL, I, BX⟩
          case measure => simp [intOf]; omega
        · have p5 : (0 < (i : Int)) = True := eq_true (by omega)
          have p6 : (0 < i) = True := eq_true hi0
          rw [show sepL i = [44, 32] from if_pos hi0] at HL
          have LK := Aside0.mk (show (b ++ [44, 32]).length + te.length ≤ 140737488355328 by have := LB2.out; have := KL.out; simp; omega)
          have LK2 := Aside0.mk (show ((b ++ [44, 32]) ++ te).length + 3 ≤ 140737488355328 by have := LB2.out; have := KL.out; simp; omega)
          have LU := Aside0.mk (show ((b ++ [44, 32]) ++ te ++ [32, 61, 32]).length + t4.length ≤ 140737488355328 by have := LB2.out; have := UL.out; have := KL.out; simp; omega)
          go_wp2_with (first
            | ((with_reducible refine gate_dst (N := 50) rfl ?_); at_builtin; refine tx_str (w0 := w) (ys := [44, 32]) rfl (.tmp 49) _ 22 9 rfl Tryd.underlying22 Tryd.underlying9 info5 rfl rfl I.r I.hb rfl (by have := LB2.out; have hz_ : (⟨#[44, 32]⟩ : ByteArray).size = 2 := rfl; omega) ?_; intro v50 w50 p; replace BX := BX.stp p (by decide); replace I := I.then_ p; clear p; have s0 := (I.hb.cell (World.block_lt_of_cell? w _ S0.out)).trans S0.out; have x0 := (I.hb.cell (World.block_lt_of_cell? w _ X0.out)).trans X0.out; have x1 := (I.hb.cell (World.block_lt_of_cell? w _ X1.out)).trans X1.out; have x2 := (I.hb.cell (World.block_lt_of_cell? w _ X2.out)).trans X2.out; have x3 := (I.hb.cell (World.block_lt_of_cell? w _ X3.out)).trans X3.out; have x4 := (I.hb.cell (World.block_lt_of_cell? w _ X4.out)).trans X4.out; obtain ⟨hc0, hc1, hc2, hc3, hc4, hf0, hf1, hf2, hf3, hf4⟩ := blk5 BX.h; have hcv4 := HCV4.out; have hcv1 := HCV1.out; simp only [Act.put, List.setIfInBounds_toArray, List.set_cons_zero, List.set_cons_succ])
            | ((with_reducible refine gate_dst (N := 60) rfl ?_); at_builtin; refine tx_rows (w0 := w) rfl (.tmp 54) (.tmp 59) 22 rfl Tryd.underlying22 info5 rfl rfl I.r I.hb (Kd.C_below S2.out I.hb) (by have := LK.out; (try simp only [List.length_append, List.length_cons, List.length_nil] at this ⊢); omega) ?_; intro v60 w60 p; replace BX := BX.stp p (by decide); replace I := I.then_ p; clear p; have s0 := (I.hb.cell (World.block_lt_of_cell? w _ S0.out)).trans S0.out; have x0 := (I.hb.cell (World.block_lt_of_cell? w _ X0.out)).trans X0.out; have x1 := (I.hb.cell (World.block_lt_of_cell? w _ X1.out)).trans X1.out; have x2 := (I.hb.cell (World.block_lt_of_cell? w _ X2.out)).trans X2.out; have x3 := (I.hb.cell (World.block_lt_of_cell? w _ X3.out)).trans X3.out; have x4 := (I.hb.cell (World.block_lt_of_cell? w _ X4.out)).trans X4.out; obtain ⟨hc0, hc1, hc2, hc3, hc4, hf0, hf1, hf2, hf3, hf4⟩ := blk5 BX.h; have hcv4 := HCV4.out; have hcv1 := HCV1.out; simp only [Act.put, List.setIfInBounds_toArray, List.set_cons_zero, List.set_cons_succ])
            | ((with_reducible refine gate_dst (N := 61) rfl ?_); at_builtin; refine tx_str (w0 := w) (ys := [32, 61, 32]) rfl (.tmp 60) _ 22 9 rfl Tryd.underlying22 Tryd.underlying9 info5 rfl rfl I.r I.hb rfl (by have := LK2.out; have hz_ : (⟨#[32, 61, 32]⟩ : ByteArray).size = 3 := rfl; omega) ?_; intro v61 w61 p; replace BX := BX.stp p (by decide); replace I := I.then_ p; clear p; have s0 := (I.hb.cell (World.block_lt_of_cell? w _ S0.out)).trans S0.out; have x0 := (I.hb.cell (World.block_lt_of_cell? w _ X0.out)).trans X0.out; have x1 := (I.hb.cell (World.block_lt_of_cell? w _ X1.out)).trans X1.out; have x2 := (I.hb.cell (World.block_lt_of_cell? w _ X2.out)).trans X2.out; have x3 := (I.hb.cell (World.block_lt_of_cell? w _ X3.out)).trans X3.out; have x4 := (I.hb.cell (World.block_lt_of_cell? w _ X4.out)).trans X4.out; obtain ⟨hc0, hc1, hc2, hc3, hc4, hf0, hf1, hf2, hf3, hf4⟩ := blk5 BX.h; have hcv4 := HCV4.out; have hcv1 := HCV1.out; simp only [Act.put, List.setIfInBounds_toArray, List.set_cons_zero, List.set_cons_succ])
            | ((with_reducible refine gate_dst (N := 68) rfl ?_); refine gg (some 68) rfl rfl rfl frS ?_; refine onc (ih kq (by omega) xx #[.int .i64 xx.f0, .int .i64 xx.f1, .slice D2 xx.f2.length d2, .slice D3 xx.f3.length d3, .slice D4 xx.f4.length d4] t4 _ ⟨k31.K_below I.hb C0.out⟩ B2.out) rfl ?_; rintro e w2 ⟨v2, rfl, p, hb⟩; refine ⟨_, rfl, ?_⟩; replace BX := BX.b hb; replace I := I.below hb; obtain ⟨Au, cu, eu, _, gu⟩ := p.rd.k; injection eu with eu; subst eu; have GU := Aside0.mk gu; clear p hb gu; obtain ⟨hc0, hc1, hc2, hc3, hc4, hf0, hf1, hf2, hf3, hf4⟩ := blk5 BX.h; have hcv4 := HCV4.out; have hcv1 := HCV1.out; simp only [Act.put, List.setIfInBounds_toArray, List.set_cons_zero, List.set_cons_succ])
            | ((with_reducible refine gate_dst (N := 69) rfl ?_); at_builtin; refine tx_rows (w0 := w) rfl (.tmp 62) (.tmp 68) 22 rfl Tryd.underlying22 info5 rfl rfl I.r I.hb GU.out (by have := LU.out; (try simp only [List.length_append, List.length_cons, List.length_nil] at this ⊢); omega) ?_; intro v69 w69 p; replace BX := BX.stp p (by decide); replace I := I.then_ p; clear p; have hcv4 := HCV4.out; have hcv1 := HCV1.out; simp only [Act.put, List.setIfInBounds_toArray, List.set_cons_zero, List.set_cons_succ]))
          go_roundw
          case rel => exact ⟨i + 1, kq, _, by omega, by go_num, by omega, HL, I, BX⟩
          case measure => simp [intOf]; omega
      · rw [if_neg hlt] at h
        obtain rfl := Option.some.inj h
        have p2 : ((i : Int) < (l4.length : Int)) = False := eq_false (by omega)
        go_wp2_with (first
          | ((with_reducible refine gate_dst (N := 73) rfl ?_); at_builtin; refine tx_one (w0 := w) (p := 125) rfl (.tmp 70) (.tmp 72) 22 rfl Tryd.underlying22 info5 rfl rfl I.r I.hb (by have := R1.out; omega) ?_; intro v73 w73 p; replace BX := BX.stp p (by decide); replace I := I.then_ p; clear p; have hcv4 := HCV4.out; have hcv1 := HCV1.out; simp only [Act.put, List.setIfInBounds_toArray, List.set_cons_zero, List.set_cons_succ]))
        go_ret
        exact ⟨_, rfl, OwnQ.of_R I.r, I.hb⟩
  have o1 : (if a0 = 5 then (123 : Int) else 91) = 91 := if_neg n5
  have o2 : (if a0 = 5 then (125 : Int) else 93) = 93 := if_neg n5
  rw [o1] at A1
  rw [o2]
  clear o1 o2
  have e0 : (a0 == 0) = false := beq_eq_false_iff_ne.mpr n0
  have d0 : decide (a0 = 0) = false := decide_eq_false n0
  have e1 : (a0 == 1) = false := beq_eq_false_iff_ne.mpr n1
  have d1 : decide (a0 = 1) = false := decide_eq_false n1
  have e2 : (a0 == 2) = false := beq_eq_false_iff_ne.mpr n2
  have d2 : decide (a0 = 2) = false := decide_eq_false n2
  have e6 : (a0 == 6) = false := beq_eq_false_iff_ne.mpr n6
  have d6 : decide (a0 = 6) = false := decide_eq_false n6
  have e3 : (a0 == 3) = false := beq_eq_false_iff_ne.mpr n3
  have d3 : decide (a0 = 3) = false := decide_eq_false n3
  have e5 : (a0 == 5) = false := beq_eq_false_iff_ne.mpr n5
  have d5 : decide (a0 = 5) = false := decide_eq_false n5
  go_enter Tryd.func36, Tryd.ntmps36
  go_wp2_with (first
    | ((with_reducible refine gate_dst (N := 1) rfl ?_); refine bxb (bs := #[.int .i64 a0, .int .i64 a1, .slice A2 l2.length c2, .slice A3 l3.length c3, .slice A4 l4.length c4]) 1 rfl rfl rfl rfl ?_; intro gb w1 BX hb1 hle hlt; replace HB := Bw.sw w hb1; clear hb1; obtain ⟨hc0, hc1, hc2, hc3, hc4, hf0, hf1, hf2, hf3, hf4⟩ := blk5 BX.h; have hcv4 := HCV4.out; have hcv1 := HCV1.out; simp only [Act.put, List.setIfInBounds_toArray, List.set_cons_zero, List.set_cons_succ])
    | ((with_reducible refine gate_dst (N := 39) rfl ?_); refine Kd.R_lit (Kd.int .u8) _ 5 ?hg (N := 39) ?hd (xs := [91]) (inner := [.int .u8 91]) (ok := fun _ => True) (okp := fun _ => True) ?hr ?hp (fun _ hk => hk) trivial (Below.refl _ _) (Nat.le_refl _) (by simp) ?_; (case hd => rfl); (case hg => rfl); (case hr => first | (go_simp; done) | (go_simp; rfl)); (case hp => exact (Reps.one (show Kd.M (Kd.int .u8) _ _ _ 91 [.int .u8 91] from rfl) (Reps.none _ _))); intro v39 w39 ho4 hb hg_ hnew_; clear hg_ hnew_; replace ho4 := Kd.R_lower ho4 (bzz w); replace BX := BX.b hb; replace HB := Bw.sw w hb; have I := lit_S ho4 HB.out; clear hb ho4; obtain ⟨hc0, hc1, hc2, hc3, hc4, hf0, hf1, hf2, hf3, hf4⟩ := blk5 BX.h; have hcv4 := HCV4.out; have hcv1 := HCV1.out; simp only [Act.put, List.setIfInBounds_toArray, List.set_cons_zero, List.set_cons_succ]))
  go_loopw [5, 6] (fun v5 v6 wr => ∃ (i kq : Nat) (b : List Int), i ≤ l4.length ∧ v6 = .int .i64 i ∧ kq ≤ kk ∧ Aside0 (spec_l2say.l0 kq ⟨a0, a1, l2, l3, l4⟩ b i = some r1) ∧ Stp 5 w w b v5 wr ∧ Bx wr gb 31 #[.int .i64 a0, .int .i64 a1, .slice A2 l2.length c2, .slice A3 l3.length c3, .slice A4 l4.length c4]) (fun _ v6 _ => l4.length - (intOf v6).toNat)
  case atStart => exact ⟨0, kk, _, Nat.zero_le _, rfl, Nat.le_refl _, A1, I, BX⟩
  case round =>
    clear A1 I BX HB hc0 hc1 hc2 hc3 hc4 hf0 hf1 hf2 hf3 hf4
    obtain ⟨i, kq, b, hil, rfl, hkq, HL, I, BX⟩ := hrel
    have h := HL.out
    clear HL
    cases kq with
    | zero => simp [spec_l2say.l0] at h
    | succ kq =>
    simp only [spec_l2say.l0] at h
    obtain ⟨hc0, hc1, hc2, hc3, hc4, hf0, hf1, hf2, hf3, hf4⟩ := blk5 BX.h
    by_cases hlt : i < l4.length
    · rw [if_pos hlt] at h
      obtain ⟨t3, B1, h⟩ := bnd h
      obtain ⟨t4, B2, h⟩ := bnd h
      obtain ⟨ul, h⟩ := yesN h
      have HL := Aside0.mk h
      have UL := Aside0.mk ul
      replace B2 := Aside0.mk B2
      clear h ul
      obtain ⟨lb2, B1⟩ := yesN B1
      have LB2 := Aside0.mk lb2
      clear lb2
      obtain ⟨ad, D2, d2, D3, d3, D4, d4, rfl, x0, x1, x2, x3, x4, y2, z2, y3, z3, y4, z4⟩ := at_T31 G4.out (i : Int) (by omega) (by omega)
      rw [Int.toNat_natCast] at x0 x1 x2 x3 x4
      have C0 := Aside0.mk (k31_mk w (rd_T31 l4 (i : Int)) y2 z2 y3 z3 y4 z4)
      clear y2 z2 y3 z3 y4 z4
      have p1 : (0 ≤ (i : Int)) = True := eq_true (by omega)
      have p2 : ((i : Int) < (l4.length : Int)) = True := eq_true (by omega)
      obtain ⟨xx, hxx⟩ : ∃ y, y = rd_T31 l4 (i : Int) := ⟨_, rfl⟩
      rw [← hxx] at x0 x1 x2 x3 x4 C0 B2
      clear hxx
      have X0 := Aside0.mk x0
      have X1 := Aside0.mk x1
      have X2 := Aside0.mk x2
      have X3 := Aside0.mk x3
      have X4 := Aside0.mk x4
      clear x0 x1 x2 x3 x4
      have x0 := (I.hb.cell (World.block_lt_of_cell? w _ X0.out)).trans X0.out
      have x1 := (I.hb.cell (World.block_lt_of_cell? w _ X1.out)).trans X1.out
      have x2 := (I.hb.cell (World.block_lt_of_cell? w _ X2.out)).trans X2.out
      have x3 := (I.hb.cell (World.block_lt_of_cell? w _ X3.out)).trans X3.out
      have x4 := (I.hb.cell (World.block_lt_of_cell? w _ X4.out)).trans X4.out
      rw [if_neg (show ¬ a0 = 5 from n5)] at B1
      obtain rfl := Option.some.inj B1
      clear B1
      rcases Nat.eq_zero_or_pos i with hi0 | hi0
      · have p5 : (0 < (i : Int)) = False := eq_false (by omega)
        have p6 : (0 < i) = False := eq_false (by omega)
        rw [show sepL i = [] from if_neg (by omega), List.append_nil] at HL
        clear hi0
        have LU := Aside0.mk (show b.length + t4.length ≤ 140737488355328 by have := LB2.out; have := UL.out; omega)
        go_wp2_with (first
          | ((with_reducible refine gate_dst (N := 68) rfl ?_); refine gg (some 68) rfl rfl rfl frS ?_; refine onc (ih kq (by omega) xx #[.int .i64 xx.f0, .int .i64 xx.f1, .slice D2 xx.f2.length d2, .slice D3 xx.f3.length d3, .slice D4 xx.f4.length d4] t4 _ ⟨k31.K_below I.hb C0.out⟩ B2.out) rfl ?_; rintro e w2 ⟨v2, rfl, p, hb⟩; refine ⟨_, rfl, ?_⟩; replace BX := BX.b hb; replace I := I.below hb; obtain ⟨Au, cu, eu, _, gu⟩ := p.rd.k; injection eu with eu; subst eu; have GU := Aside0.mk gu; clear p hb gu; obtain ⟨hc0, hc1, hc2, hc3, hc4, hf0, hf1, hf2, hf3, hf4⟩ := blk5 BX.h; have hcv4 := HCV4.out; have hcv1 := HCV1.out; simp only [Act.put, List.setIfInBounds_toArray, List.set_cons_zero, List.set_cons_succ])
          | ((with_reducible refine gate_dst (N := 69) rfl ?_); at_builtin; refine tx_rows (w0 := w) rfl (.tmp 62) (.tmp 68) 22 rfl Tryd.underlying22 info5 rfl rfl I.r I.hb GU.out (by have := LU.out; (try simp only [List.length_append, List.length_cons, List.length_nil] at this ⊢); omega) ?_; intro v69 w69 p; replace BX := BX.stp p (by decide); replace I := I.then_ p; clear p; have hcv4 := HCV4.out; have hcv1 := HCV1.out; simp only [Act.put, List.setIfInBounds_toArray, List.set_cons_zero, List.set_cons_succ]))
        go_roundw
        case rel => exact ⟨i + 1, kq, _, by omega, by go_num, by omega, HL, I, BX⟩
        case measure => simp [intOf]; omega
      · have p5 : (0 < (i : Int)) = True := eq_true (by omega)
        have p6 : (0 < i) = True := eq_true hi0
        rw [show sepL i = [44, 32] from if_pos hi0] at HL
        have LU := Aside0.mk (show (b ++ [44, 32]).length + t4.length ≤ 140737488355328 by have := LB2.out; have := UL.out; simp; omega)
        go_wp2_with (first
          | ((with_reducible refine gate_dst (N := 50) rfl ?_); at_builtin; refine tx_str (w0 := w) (ys := [44, 32]) rfl (.tmp 49) _ 22 9 rfl Tryd.underlying22 Tryd.underlying9 info5 rfl rfl I.r I.hb rfl (by have := LB2.out; have hz_ : (⟨#[44, 32]⟩ : ByteArray).size = 2 := rfl; omega) ?_; intro v50 w50 p; replace BX := BX.stp p (by decide); replace I := I.then_ p; clear p; have x0 := (I.hb.cell (World.block_lt_of_cell? w _ X0.out)).trans X0.out; have x1 := (I.hb.cell (World.block_lt_of_cell? w _ X1.out)).trans X1.out; have x2 := (I.hb.cell (World.block_lt_of_cell? w _ X2.out)).trans X2.out; have x3 := (I.hb.cell (World.block_lt_of_cell? w _ X3.out)).trans X3.out; have x4 := (I.hb.cell (World.block_lt_of_cell? w _ X4.out)).trans X4.out; obtain ⟨hc0, hc1, hc2, hc3, hc4, hf0, hf1, hf2, hf3, hf4⟩ := blk5 BX.h; have hcv4 := HCV4.out; have hcv1 := HCV1.out; simp only [Act.put, List.setIfInBounds_toArray, List.set_cons_zero, List.set_cons_succ])
          | ((with_reducible refine gate_dst (N := 68) rfl ?_); refine gg (some 68) rfl rfl rfl frS ?_; refine onc (ih kq (by omega) xx #[.int .i64 xx.f0, .int .i64 xx.f1, .slice D2 xx.f2.length d2, .slice D3 xx.f3.length d3, .slice D4 xx.f4.length d4] t4 _ ⟨k31.K_below I.hb C0.out⟩ B2.out) rfl ?_; rintro e w2 ⟨v2, rfl, p, hb⟩; refine ⟨_, rfl, ?_⟩; replace BX := BX.b hb; replace I := I.below hb; obtain ⟨Au, cu, eu, _, gu⟩ := p.rd.k; injection eu with eu; subst eu; have GU := Aside0.mk gu; clear p hb gu; obtain ⟨hc0, hc1, hc2, hc3, hc4, hf0, hf1, hf2, hf3, hf4⟩ := blk5 BX.h; have hcv4 := HCV4.out; have hcv1 := HCV1.out; simp only [Act.put, List.setIfInBounds_toArray, List.set_cons_zero, List.set_cons_succ])
          | ((with_reducible refine gate_dst (N := 69) rfl ?_); at_builtin; refine tx_rows (w0 := w) rfl (.tmp 62) (.tmp 68) 22 rfl Tryd.underlying22 info5 rfl rfl I.r I.hb GU.out (by have := LU.out; (try simp only [List.length_append, List.length_cons, List.length_nil] at this ⊢); omega) ?_; intro v69 w69 p; replace BX := BX.stp p (by decide); replace I := I.then_ p; clear p; have hcv4 := HCV4.out; have hcv1 := HCV1.out; simp only [Act.put, List.setIfInBounds_toArray, List.set_cons_zero, List.set_cons_succ]))
        go_roundw
        case rel => exact ⟨i + 1, kq, _, by omega, by go_num, by omega, HL, I, BX⟩
        case measure => simp [intOf]; omega
    · rw [if_neg hlt] at h
      obtain rfl := Option.some.inj h
      have p2 : ((i : Int) < (l4.length : Int)) = False := eq_false (by omega)
      go_wp2_with (first
        | ((with_reducible refine gate_dst (N := 73) rfl ?_); at_builtin; refine tx_one (w0 := w) (p := 93) rfl (.tmp 70) (.tmp 72) 22 rfl Tryd.underlying22 info5 rfl rfl I.r I.hb (by have := R1.out; omega) ?_; intro v73 w73 p; replace BX := BX.stp p (by decide); replace I := I.then_ p; clear p; have hcv4 := HCV4.out; have hcv1 := HCV1.out; simp only [Act.put, List.setIfInBounds_toArray, List.set_cons_zero, List.set_cons_succ]))
      go_ret
      exact ⟨_, rfl, OwnQ.of_R I.r, I.hb⟩
-- KC spec_ValText {"params":[["agg",31,["f0","f1","f2","f3","f4"]]],"res":["slice","(Kd.int .u8)",5,"List Int","R"],"hasK":true,"fn":7}
def spec_ValText.f (k : Nat) (a0_0 : Int) (a0_1 : Int) (l0_2 : List Int) (l0_3 : List (List Int)) (l0_4 : List S31) : Option (List Int) := (spec_ValOk.f k a0_0 a0_1 l0_2 l0_3 l0_4).bind fun t => if t = true then spec_l2say.f k ⟨a0_0, a0_1, l0_2, l0_3, l0_4⟩ else some []
theorem frSv : Fr Tryd.prog 17 := ⟨_, Tryd.func17, by kernel_rfl, rfl⟩
set_option maxRecDepth 100000 in
set_option maxHeartbeats 8000000 in
theorem spec_ValText.kc (k : Nat) (x0 : S31) (b0 : Array Value) (r : List Int) (w : World) (h0 : Rd k31 w x0 b0.toList) (h : spec_ValText.f k x0.f0 x0.f1 x0.f2 x0.f3 x0.f4 = some r) :
    Calls Tryd.prog 7 #[.agg b0] w fun e w' => ∃ v, e = .returned v ∧ OwnQ w' w.heap.size w'.heap.size r v ∧ Below w.heap.size w w' := by
  have hx := h0
  obtain ⟨A2, c2, A3, c3, A4, c4, e0, lc2, g2, lc3, g3, lc4, g4⟩ := k31_open h0.k
  obtain ⟨a0, a1, l2, l3, l4⟩ := x0
  obtain rfl : b0 = #[.int .i64 a0, .int .i64 a1, .slice A2 l2.length c2, .slice A3 l3.length c3, .slice A4 l4.length c4] := by rw [← b0.toArray_toList, e0]
  simp only at lc2 g2 lc3 g3 lc4 g4
  have HX := Aside0.mk hx
  have G2 := Aside0.mk g2
  have G3 := Aside0.mk g3
  have G4 := Aside0.mk g4
  have L2 := Aside0.mk lc2
  have L3 := Aside0.mk lc3
  have L4 := Aside0.mk lc4
  have HB := Bw.refl w
  clear g2 g3 g4 lc2 lc3 lc4 e0 hx h0
  unfold spec_ValText.f at h
  obtain ⟨t, A1, h⟩ := bnd h
  replace A1 := Aside0.mk A1
  cases t with
  | false =>
    rw [if_neg (by decide)] at h
    obtain rfl := Option.some.inj h
    clear h
    go_enter Tryd.func7, Tryd.ntmps7
    go_wp2_with (first
      | ((with_reducible refine gate_dst (N := 1) rfl ?_); refine bxb (bs := #[.int .i64 a0, .int .i64 a1, .slice A2 l2.length c2, .slice A3 l3.length c3, .slice A4 l4.length c4]) 1 rfl rfl rfl rfl ?_; intro gb w1 BX hb1 hle hlt; replace HB := Bw.sw w hb1; clear hb1 hle hlt; obtain ⟨hc0, hc1, hc2, hc3, hc4, hf0, hf1, hf2, hf3, hf4⟩ := blk5 BX.h; simp only [Act.put, List.setIfInBounds_toArray, List.set_cons_zero, List.set_cons_succ])
      | ((with_reducible refine gate_dst (N := 4) rfl ?_); refine gg (some 4) rfl rfl rfl frSv ?_; refine onc (spec_ValOk.calls k a0 a1 _ _ l2 _ _ l3 _ _ l4 false _ (cb G2) L2.out (cb G3) L3.out (cb G4) L4.out A1.out) rfl ?_; rintro e w2 ⟨rfl, hb⟩; refine ⟨_, rfl, ?_⟩; replace HB := Bw.sw w hb; clear hb; simp only [Act.put, List.setIfInBounds_toArray, List.set_cons_zero, List.set_cons_succ]))
    go_ret
    exact ⟨_, rfl, OwnQ.nil (Nat.le_refl _), HB.out⟩
  | true =>
    rw [if_pos rfl] at h
    have A2_ := Aside0.mk h
    clear h
    go_enter Tryd.func7, Tryd.ntmps7
    go_wp2_with (first
      | ((with_reducible refine gate_dst (N := 1) rfl ?_); refine bxb (bs := #[.int .i64 a0, .int .i64 a1, .slice A2 l2.length c2, .slice A3 l3.length c3, .slice A4 l4.length c4]) 1 rfl rfl rfl rfl ?_; intro gb w1 BX hb1 hle hlt; replace HB := Bw.sw w hb1; clear hb1 hle hlt; obtain ⟨hc0, hc1, hc2, hc3, hc4, hf0, hf1, hf2, hf3, hf4⟩ := blk5 BX.h; simp only [Act.put, List.setIfInBounds_toArray, List.set_cons_zero, List.set_cons_succ])
      | ((with_reducible refine gate_dst (N := 4) rfl ?_); refine gg (some 4) rfl rfl rfl frSv ?_; refine onc (spec_ValOk.calls k a0 a1 _ _ l2 _ _ l3 _ _ l4 true _ (cb G2) L2.out (cb G3) L3.out (cb G4) L4.out A1.out) rfl ?_; rintro e w2 ⟨rfl, hb⟩; refine ⟨_, rfl, ?_⟩; replace HB := Bw.sw w hb; replace BX := BX.b hb; clear hb; obtain ⟨hc0, hc1, hc2, hc3, hc4, hf0, hf1, hf2, hf3, hf4⟩ := blk5 BX.h; simp only [Act.put, List.setIfInBounds_toArray, List.set_cons_zero, List.set_cons_succ])
      | ((with_reducible refine gate_dst (N := 7) rfl ?_); refine gg (some 7) rfl rfl rfl frS ?_; refine onc (spec_l2say.ka k ⟨a0, a1, l2, l3, l4⟩ #[.int .i64 a0, .int .i64 a1, .slice A2 l2.length c2, .slice A3 l3.length c3, .slice A4 l4.length c4] r _ (HX.out.b HB.out) A2_.out) rfl ?_; rintro e w3 ⟨v3, rfl, p, hb⟩; refine ⟨_, rfl, ?_⟩; have PP := Aside0.mk p.h; have HZ := Aside0.mk HB.out.size; replace HB := Bw.sw w hb; clear p hb; simp only [Act.put, List.setIfInBounds_toArray, List.set_cons_zero, List.set_cons_succ]))
    go_ret
    refine ⟨_, rfl, ⟨?_, Nat.le_refl _⟩, HB.out⟩
    rcases PP.out with q | ⟨b, q1, q2, q3⟩
    · exact .inl q
    · exact .inr ⟨b, Nat.le_trans HZ.out q1, q2, q3⟩
end Go.Proofs.YtenpjddjmhjdoaaDoor.PFnExactValText
