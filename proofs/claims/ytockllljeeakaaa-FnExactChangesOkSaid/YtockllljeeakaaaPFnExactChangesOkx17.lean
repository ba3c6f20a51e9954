/- What a function comes to, walked by hand. No condition. -/
import Derived.Test.YtockllljeeakaaaPFnExactChangesOkx0
import Derived.Test.YtockllljeeakaaaPFnExactChangesOkx12
import Derived.Test.YtockllljeeakaaaPFnExactChangesOkx13
import Derived.Test.YtockllljeeakaaaPFnExactChangesOkx15
import Derived.Test.YtockllljeeakaaaPFnExactChangesOkx16
import Derived.Test.YtockllljeeakaaaMlaw
import Derived.Test.YtockllljeeakaaaMcore
namespace Go.Proofs.Ytockllljeeakaaa.PFnExactChangesOk
open Go.RowKit Go.Proofs.YtockllljeeakaaaW.PrintWords Go.Proofs.YtockllljeeakaaaW.PrintLast Go.Proofs.YtockllljeeakaaaW.PrintMore Go.Proofs.Ytockllljeeakaaa.M
attribute [local go_sem] max2_int min2_int max_two min_two max_three min_three max_four min_four Go.Proofs.Ytockllljeeakaaa.M.str_gtr Go.Proofs.Ytockllljeeakaaa.M.str_leq Go.Proofs.Ytockllljeeakaaa.M.str_geq   -- for this text's walks alone
set_option linter.unusedVariables false
set_option linter.unusedSimpArgs false
theorem alst2 {P : Program} {ops : Array Oper} {Q : Exit → Act → World → Prop} {rest : List Oper} {oi o1 o2 : Oper} {a : Act} {w : World} {bs cs : Array Value} {t : Nat} {x y : Operand} {v : Value} (N M : Tmp) (hd : oi.dst = some N) (hg : oi.guard = none) (ho : oi.op = .alloc t) (hd1 : o1.dst = some M) (hg1 : o1.guard = none) (ho1 : o1.op = .assign y) (hy : ∀ p, (a.put (some N) p).eval y = v) (hd2 : o2.dst = none) (hg2 : o2.guard = none) (ho2 : o2.op = .store t (.tmp N) x)
    (hx0 : ∀ p, ((a.put (some N) p).put (some M) v).eval x = .agg bs) (hp0 : ∀ p, ((a.put (some N) p).put (some M) v).eval (.tmp N) = p)
    (hz : (P.info? t).map (fun i => (i.zero, i.size)) = some (some (.agg cs), bs.size)) (hl : cs.size = bs.size) (h1 : bs.all (·.oneCell') = true)
    (k : ∀ b w1, Bx w1 b t bs → Below w.heap.size w w1 → w.heap.size ≤ b → b < w1.heap.size → wpList P ops Q rest ((a.put (some N) (.pointer (some ⟨b, 0, none⟩))).put (some M) v) w1) : wpList P ops Q (oi :: o1 :: o2 :: rest) a w := by
  have hx := hx0 (.pointer (some ⟨w.heap.size, 0, none⟩))
  have hp := hp0 (.pointer (some ⟨w.heap.size, 0, none⟩))
  obtain ⟨z1, z2⟩ := zero_of_info hz
  refine wpList_plain hg fun K hK => ?_
  have hrun : (execOp a.eval oi).run P w = .ok (.value (.pointer (some ⟨w.heap.size, 0, none⟩))) (w.alloc (.cells cs t)) := by
    unfold execOp
    simp only [ho, Instr.alloc, Sem.run_bind, z1 w, Result.andThen_ok]
    rfl
  unfold Oper.wp
  rw [hrun, Oper.upon_value, hd]
  refine hK _ _ (wpList_plain hg1 fun K1 hK1 => ?_)
  have hrun1 : (execOp (a.put (some N) (.pointer (some ⟨w.heap.size, 0, none⟩))).eval o1).run P (w.alloc (.cells cs t)) = .ok (.value v) (w.alloc (.cells cs t)) := by
    unfold execOp
    simp only [ho1, hy]
    rfl
  unfold Oper.wp
  rw [hrun1, Oper.upon_value, hd1]
  refine hK1 _ _ (wpList_plain hg2 fun K2 hK2 => ?_)
  have hrun2 : (execOp ((a.put (some N) (.pointer (some ⟨w.heap.size, 0, none⟩))).put (some M) v).eval o2).run P (w.alloc (.cells cs t)) = .ok .skip (w.alloc (.cells bs t)) := by
    unfold execOp
    simp only [ho2, hx, hp, Sem.run_bind, run_storeAt_new w t cs bs z2 hl h1, Result.andThen_ok, Sem.run_pure]
  unfold Oper.wp
  rw [hrun2, Oper.upon_skip, hd2]
  exact hK2 _ _ (k _ _ ⟨blk_new w _⟩ (below_alloc (Below.refl _ _) _) (Nat.le_refl _) (by simp))
theorem stp_to (A : Option Addr) (n c : Nat) (j : Int) (h0 : 0 ≤ j) (hm : j ≤ n) (hc : n ≤ c) :
    ∀ W : World, (Instr.slice 76 (.slice A n c) none (some (.int .i64 j)) none).run Try.prog W = .ok (.slice A j.toNat c) W := by
  obtain ⟨i9, hi9, _⟩ := info_parts info100
  intro W
  have hel : Try.prog.elem 76 = 100 := by simp [Program.elem, Try.underlying76]
  have hu : Try.prog.underlying 76 = some (.slice (Try.prog.elem 76)) := by rw [hel]; exact Try.underlying76
  have ha : (A.map fun x => x.add 0) = A := by cases A <;> simp [Addr.add]
  rw [run_slice_h W 76 A n c hu .i64 j h0 (by omega), hel]
  simp [sizeOf, typeInfo, hi9, sliced, Result.andThen, ha]
theorem paths2 : ∀ p o1 o2 had z1 has z2 : Bool, (p = false) ∨ (p = true ∧ o1 = false) ∨ (p = true ∧ o1 = true ∧ o2 = false) ∨ (p = true ∧ o1 = true ∧ o2 = true ∧ had = false ∧ has = false) ∨ (p = true ∧ o1 = true ∧ o2 = true ∧ had = false ∧ has = true ∧ z1 = false) ∨ (p = true ∧ o1 = true ∧ o2 = true ∧ had = false ∧ has = true ∧ z1 = true) ∨ (p = true ∧ o1 = true ∧ o2 = true ∧ had = true ∧ has = false ∧ z2 = false) ∨ (p = true ∧ o1 = true ∧ o2 = true ∧ had = true ∧ has = false ∧ z2 = true) ∨ (p = true ∧ o1 = true ∧ o2 = true ∧ had = true ∧ has = true) := fun p o1 o2 had z1 has z2 => by cases p <;> cases o1 <;> cases o2 <;> cases had <;> cases z1 <;> cases has <;> cases z2 <;> simp
def impl_areChanges.r : Nat → List S81 → Nat → Option Bool
  | 0, _, _ => none
  | k + 1, l, i =>
    if i < l.length then
      (impl_isPath.f k (rd_T81 l (i : Int)).f0).bind fun p => (impl_isValue.f k (rd_T81 l (i : Int)).f2.f0 (rd_T81 l (i : Int)).f2.f1 (rd_T81 l (i : Int)).f2.f2 (rd_T81 l (i : Int)).f2.f3 (rd_T81 l (i : Int)).f2.f4).bind fun o1 => (impl_isValue.f k (rd_T81 l (i : Int)).f4.f0 (rd_T81 l (i : Int)).f4.f1 (rd_T81 l (i : Int)).f4.f2 (rd_T81 l (i : Int)).f4.f3 (rd_T81 l (i : Int)).f4.f4).bind fun o2 =>
      (impl_isZero.f (rd_T81 l (i : Int)).f2.f0 (rd_T81 l (i : Int)).f2.f1 (rd_T81 l (i : Int)).f2.f2 (rd_T81 l (i : Int)).f2.f3 (rd_T81 l (i : Int)).f2.f4).bind fun z1 => (impl_isZero.f (rd_T81 l (i : Int)).f4.f0 (rd_T81 l (i : Int)).f4.f1 (rd_T81 l (i : Int)).f4.f2 (rd_T81 l (i : Int)).f4.f3 (rd_T81 l (i : Int)).f4.f4).bind fun z2 =>
      if bad1 p o1 o2 (rd_T81 l (i : Int)).f1 z1 (rd_T81 l (i : Int)).f3 z2 = true then some false
      else if bad2 (rd_T81 l (i : Int)).f0 (rd_T81 l (i : Int)).f1 (rd_T81 l (i : Int)).f3 = true then some false
      else if i = 0 then impl_areChanges.r k l (i + 1)
      else (impl_comparePaths.f k (rd_T81 l ((i - 1 : Nat) : Int)).f0 (rd_T81 l (i : Int)).f0).bind fun c => (impl_comparePaths.f k (rd_T81 l ((i - 1 : Nat) : Int)).f0 ((rd_T81 l (i : Int)).f0.take (rd_T81 l ((i - 1 : Nat) : Int)).f0.length)).bind fun d => if 0 ≤ c then some false else if (rd_T81 l ((i - 1 : Nat) : Int)).f0.length ≤ (rd_T81 l (i : Int)).f0.length ∧ d = 0 then some false else impl_areChanges.r k l (i + 1)
    else some (decide (l.length ≤ 80))
def impl_areChanges.f (k : Nat) (l : List S81) : Option Bool := impl_areChanges.r k l 0
theorem fr94 : Fr Try.prog 94 := ⟨_, Try.func94, by kernel_rfl, rfl⟩
theorem fr95 : Fr Try.prog 95 := ⟨_, Try.func95, by kernel_rfl, rfl⟩
theorem fr96 : Fr Try.prog 96 := ⟨_, Try.func96, by kernel_rfl, rfl⟩
theorem cmp_b (k : Nat) (A0 : Option Addr) (c0 : Nat) (l0 : List S100) (A1 : Option Addr) (c1 : Nat) (l1 : List S100) (n : Nat) (r : Int) (w : World) (hn : l1.length = n) (hr0 : Kd.C k100 w A0 l0.length l0) (hc0 : l0.length ≤ c0) (hr1 : Kd.C k100 w A1 l1.length l1) (hc1 : l1.length ≤ c1) (h : impl_comparePaths.f k l0 l1 = some r) :
    Calls Try.prog 96 #[.slice A0 l0.length c0, .slice A1 n c1] w fun e w' => e = .returned (.int .i64 r) ∧ Below w.heap.size w w' := by
  subst hn
  exact impl_comparePaths.calls k A0 c0 l0 A1 c1 l1 r w hr0 hc0 hr1 hc1 h
set_option maxHeartbeats 8000000 in
set_option maxRecDepth 100000 in
theorem impl_areChanges.calls (k : Nat) (A0 : Option Addr) (c0 : Nat) (l0 : List (S81)) (r : Bool) (w : World) (hr0 : Kd.C k81 w A0 l0.length l0) (hc0 : l0.length ≤ c0) (h : impl_areChanges.f k l0 = some r) :
  Calls Try.prog 58 #[.slice A0 l0.length c0] w fun e w' => e = .returned (.bool r) ∧ Below w.heap.size w w' := by
 have HR0 := Aside0.mk hr0
 have HC0 := Aside0.mk hc0
 clear hr0 hc0
 have HB := Bw.refl w
 unfold impl_areChanges.f at h
 have H' := Aside0.mk h
 clear h
 go_enter Try.func58, Try.ntmps58
 go_wp2
 go_loopg [9] k (fun kq v9 w' => ∃ i : Nat, i ≤ l0.length ∧ v9 = .int .i64 (i : Int) ∧ Aside0 (impl_areChanges.r kq l0 i = some r) ∧ Aside0 (kq ≤ k) ∧ Bw w w')
 case atStart => exact ⟨0, Nat.zero_le _, rfl, H', ⟨Nat.le_refl _⟩, ⟨bw⟩⟩
 case round =>
  clear H'
  obtain ⟨i, hil, rfl, HA, HK1, HB⟩ := hrel
  cases gk with
  | zero => exact absurd HA.out (by simp [impl_areChanges.r])
  | succ k1 =>
   have H := HA.out
   clear HA
   rw [impl_areChanges.r] at H
   by_cases hlt : i < l0.length
   case neg =>
    rw [if_neg hlt] at H
    have c2b0 : ((i : Int) < (l0.length : Int)) = False := eq_false (by omega)
    by_cases h80 : l0.length ≤ 80
    · have d0 : ((l0.length : Int) ≤ 80) = True := eq_true (by omega)
      have d1 : decide (l0.length ≤ 80) = true := decide_eq_true h80
      rw [d1] at H
      obtain rfl := Option.some.inj H
      clear h80 d1 H
      go_wp2
      go_ret
      exact ⟨rfl, bw⟩
    · have d0 : ((l0.length : Int) ≤ 80) = False := eq_false (by omega)
      have d1 : decide (l0.length ≤ 80) = false := decide_eq_false h80
      rw [d1] at H
      obtain rfl := Option.some.inj H
      clear h80 d1 H
      go_wp2
      go_ret
      exact ⟨rfl, bw⟩
   rw [if_pos hlt] at H
   have HLM := Aside0.mk (show l0.length ≤ 9223372036854775807 from HR0.out.2.1)
   have h9 := bnd H
   clear H
   obtain ⟨p, a1, H⟩ := h9
   have h9 := bnd H
   clear H
   obtain ⟨o1, a2, H⟩ := h9
   have h9 := bnd H
   clear H
   obtain ⟨o2, a3, H⟩ := h9
   have h9 := bnd H
   clear H
   obtain ⟨z1, a4, H⟩ := h9
   have h9 := bnd H
   clear H
   obtain ⟨z2, a5, H⟩ := h9
   have c2b0 : ((i : Int) < (l0.length : Int)) = True := eq_true (by omega)
   have p126 : (0 ≤ (i : Int)) = True := eq_true (by omega)
   have w3 : wrap64 ((i : Int) + 1) = (i : Int) + 1 := w64 (by omega) (by have := HLM.out; omega)
   obtain ⟨ad, A0_, c0_, A4, c4, A5, c5, A6, c6, A10, c10, A11, c11, A12, c12, eA, x0_, x1_, x2_, x3_, x4_, x5_, x6_, x7_, x8_, x9_, x10_, x11_, x12_, m0, g0, m4, g4, m5, g5, m6, g6, m10, g10, m11, g11, m12, g12⟩ := at_T81 HR0.out (i : Int) (by omega) (by omega)
   subst eA
   replace x0_ := (HB.out.cell (World.block_lt_of_cell? w _ x0_)).trans x0_
   replace x1_ := (HB.out.cell (World.block_lt_of_cell? w _ x1_)).trans x1_
   replace x2_ := (HB.out.cell (World.block_lt_of_cell? w _ x2_)).trans x2_
   replace x3_ := (HB.out.cell (World.block_lt_of_cell? w _ x3_)).trans x3_
   replace x4_ := (HB.out.cell (World.block_lt_of_cell? w _ x4_)).trans x4_
   replace x5_ := (HB.out.cell (World.block_lt_of_cell? w _ x5_)).trans x5_
   replace x6_ := (HB.out.cell (World.block_lt_of_cell? w _ x6_)).trans x6_
   replace x7_ := (HB.out.cell (World.block_lt_of_cell? w _ x7_)).trans x7_
   replace x8_ := (HB.out.cell (World.block_lt_of_cell? w _ x8_)).trans x8_
   replace x9_ := (HB.out.cell (World.block_lt_of_cell? w _ x9_)).trans x9_
   replace x10_ := (HB.out.cell (World.block_lt_of_cell? w _ x10_)).trans x10_
   replace x11_ := (HB.out.cell (World.block_lt_of_cell? w _ x11_)).trans x11_
   replace x12_ := (HB.out.cell (World.block_lt_of_cell? w _ x12_)).trans x12_
   simp only [Int.toNat_natCast] at x0_ x1_ x2_ x3_ x4_ x5_ x6_ x7_ x8_ x9_ x10_ x11_ x12_
   obtain ⟨x, hx⟩ : ∃ y, y = rd_T81 l0 (i : Int) := ⟨_, rfl⟩
   rw [← hx] at x0_ x1_ x2_ x3_ x4_ x5_ x6_ x7_ x8_ x9_ x10_ x11_ x12_ m0 g0 m4 g4 m5 g5 m6 g6 m10 g10 m11 g11 m12 g12 a1 a2 a3 a4 a5 H
   obtain ⟨had, hhad⟩ : ∃ y, y = x.f1 := ⟨_, rfl⟩
   obtain ⟨has, hhas⟩ : ∃ y, y = x.f3 := ⟨_, rfl⟩
   rw [← hhad] at x1_ H
   rw [← hhas] at x7_ H
   clear hhad hhas hx
   have G0 := Aside0.mk g0
   have L0 := Aside0.mk m0
   have G4 := Aside0.mk g4
   have L4 := Aside0.mk m4
   have G5 := Aside0.mk g5
   have L5 := Aside0.mk m5
   have G6 := Aside0.mk g6
   have L6 := Aside0.mk m6
   have G10 := Aside0.mk g10
   have L10 := Aside0.mk m10
   have G11 := Aside0.mk g11
   have L11 := Aside0.mk m11
   have G12 := Aside0.mk g12
   have L12 := Aside0.mk m12
   have A1 := Aside0.mk a1
   have A2 := Aside0.mk a2
   have A3 := Aside0.mk a3
   have A4_ := Aside0.mk a4
   have A5_ := Aside0.mk a5
   have H' := Aside0.mk H
   clear g0 g4 g5 g6 g10 g11 g12 m0 m4 m5 m6 m10 m11 m12 a1 a2 a3 a4 a5 H
   go_upto_region 4 with ((with_reducible refine gate_dst (N := 4) rfl ?_); refine alst2 (bs := #[.slice A0_ x.f0.length c0_, .bool had, .int .i64 x.f2.f0, .int .i64 x.f2.f1, .slice A4 x.f2.f2.length c4, .slice A5 x.f2.f3.length c5, .slice A6 x.f2.f4.length c6, .bool has, .int .i64 x.f4.f0, .int .i64 x.f4.f1, .slice A10 x.f4.f2.length c10, .slice A11 x.f4.f3.length c11, .slice A12 x.f4.f4.length c12]) (cs := #[.slice none 0 0, .bool false, .int .i64 0, .int .i64 0, .slice none 0 0, .slice none 0 0, .slice none 0 0, .bool false, .int .i64 0, .int .i64 0, .slice none 0 0, .slice none 0 0, .slice none 0 0]) 4 3 rfl rfl rfl rfl rfl rfl (fun _ => rfl) rfl rfl rfl (fun _ => rfl) (fun _ => rfl) (by kernel_rfl) rfl (by simp [Value.oneCell']) ?_; intro gl wl BY hbl hle hlt2; replace HB := Bw.sw w hbl; clear hbl hle hlt2; simp only [Act.put, List.setIfInBounds_toArray, List.set_cons_zero, List.set_cons_succ])
   obtain ⟨gc0, gc1, gc2, gc3, gc4, gc5, gc6, gc7, gc8, gc9, gc10, gc11, gc12⟩ := blk13 BY.h
   clear x0_ x1_ x2_ x3_ x4_ x5_ x6_ x7_ x8_ x9_ x10_ x11_ x12_
   go_upto_region 5 with (fail)
   go_cut [59] (fun v59 wc => v59 = .bool (bad1 p o1 o2 had z1 has z2) ∧ Bx wc gl 81 #[.slice A0_ x.f0.length c0_, .bool had, .int .i64 x.f2.f0, .int .i64 x.f2.f1, .slice A4 x.f2.f2.length c4, .slice A5 x.f2.f3.length c5, .slice A6 x.f2.f4.length c6, .bool has, .int .i64 x.f4.f0, .int .i64 x.f4.f1, .slice A10 x.f4.f2.length c10, .slice A11 x.f4.f3.length c11, .slice A12 x.f4.f4.length c12] ∧ Bw w wc)
   case first =>
    as_aux_lemma =>
    clear H'
    rcases paths2 p o1 o2 had z1 has z2 with rfl | ⟨rfl, rfl⟩ | ⟨rfl, rfl, rfl⟩ | ⟨rfl, rfl, rfl, rfl, rfl⟩ | ⟨rfl, rfl, rfl, rfl, rfl, rfl⟩ | ⟨rfl, rfl, rfl, rfl, rfl, rfl⟩ | ⟨rfl, rfl, rfl, rfl, rfl, rfl⟩ | ⟨rfl, rfl, rfl, rfl, rfl, rfl⟩ | ⟨rfl, rfl, rfl, rfl, rfl⟩
    all_goals go_wp2_with (first
      | ((with_reducible refine gate_dst (N := 19) rfl ?_); refine gg (some 19) rfl rfl rfl fr93 ?_; refine onc (impl_isPath.calls k1 _ _ _ _ _ (cb G0) L0.out A1.out) rfl ?_; rintro e9 w9 ⟨rfl, hb⟩; refine ⟨_, rfl, ?_⟩; replace BY := BY.b hb; replace HB := Bw.sw w hb; clear hb gc0 gc1 gc2 gc3 gc4 gc5 gc6 gc7 gc8 gc9 gc10 gc11 gc12; obtain ⟨gc0, gc1, gc2, gc3, gc4, gc5, gc6, gc7, gc8, gc9, gc10, gc11, gc12⟩ := blk13 BY.h)
      | ((with_reducible refine gate_dst (N := 24) rfl ?_); refine ggw (some 24) rfl (by rfl) rfl fr94 ?_; refine onc (impl_isValue.calls k1 _ _ _ _ _ _ _ _ _ _ _ _ _ (cb G4) L4.out (cb G5) L5.out (cb G6) L6.out A2.out) rfl ?_; rintro e9 w9 ⟨rfl, hb⟩; refine ⟨_, rfl, ?_⟩; replace BY := BY.b hb; replace HB := Bw.sw w hb; clear hb gc0 gc1 gc2 gc3 gc4 gc5 gc6 gc7 gc8 gc9 gc10 gc11 gc12; obtain ⟨gc0, gc1, gc2, gc3, gc4, gc5, gc6, gc7, gc8, gc9, gc10, gc11, gc12⟩ := blk13 BY.h)
      | ((with_reducible refine gate_dst (N := 30) rfl ?_); refine ggw (some 30) rfl (by rfl) rfl fr94 ?_; refine onc (impl_isValue.calls k1 _ _ _ _ _ _ _ _ _ _ _ _ _ (cb G10) L10.out (cb G11) L11.out (cb G12) L12.out A3.out) rfl ?_; rintro e9 w9 ⟨rfl, hb⟩; refine ⟨_, rfl, ?_⟩; replace BY := BY.b hb; replace HB := Bw.sw w hb; clear hb gc0 gc1 gc2 gc3 gc4 gc5 gc6 gc7 gc8 gc9 gc10 gc11 gc12; obtain ⟨gc0, gc1, gc2, gc3, gc4, gc5, gc6, gc7, gc8, gc9, gc10, gc11, gc12⟩ := blk13 BY.h)
      | ((with_reducible refine gate_dst (N := 44) rfl ?_); refine ggw (some 44) rfl (by rfl) rfl fr95 ?_; refine onc (impl_isZero.calls _ _ _ _ _ _ _ _ _ _ _ _ _ (cb G4) L4.out (cb G5) L5.out (cb G6) L6.out A4_.out) rfl ?_; rintro e9 w9 ⟨rfl, hb⟩; refine ⟨_, rfl, ?_⟩; replace BY := BY.b hb; replace HB := Bw.sw w hb; clear hb gc0 gc1 gc2 gc3 gc4 gc5 gc6 gc7 gc8 gc9 gc10 gc11 gc12; obtain ⟨gc0, gc1, gc2, gc3, gc4, gc5, gc6, gc7, gc8, gc9, gc10, gc11, gc12⟩ := blk13 BY.h)
      | ((with_reducible refine gate_dst (N := 56) rfl ?_); refine ggw (some 56) rfl (by rfl) rfl fr95 ?_; refine onc (impl_isZero.calls _ _ _ _ _ _ _ _ _ _ _ _ _ (cb G10) L10.out (cb G11) L11.out (cb G12) L12.out A5_.out) rfl ?_; rintro e9 w9 ⟨rfl, hb⟩; refine ⟨_, rfl, ?_⟩; replace BY := BY.b hb; replace HB := Bw.sw w hb; clear hb gc0 gc1 gc2 gc3 gc4 gc5 gc6 gc7 gc8 gc9 gc10 gc11 gc12; obtain ⟨gc0, gc1, gc2, gc3, gc4, gc5, gc6, gc7, gc8, gc9, gc10, gc11, gc12⟩ := blk13 BY.h)
      )
    all_goals go_meet
    all_goals exact ⟨by first | rfl | (cases z1 <;> cases z2 <;> rfl) | (cases z1 <;> rfl) | (cases z2 <;> rfl), BY, HB⟩
   case rest =>
    as_aux_lemma =>
    clear BY HB gc0 gc1 gc2 gc3 gc4 gc5 gc6 gc7 gc8 gc9 gc10 gc11 gc12
    obtain ⟨rfl, BY, HB⟩ := hcut
    obtain ⟨gc0, gc1, gc2, gc3, gc4, gc5, gc6, gc7, gc8, gc9, gc10, gc11, gc12⟩ := blk13 BY.h
    have H := H'.out
    clear H'
    cases hb1 : bad1 p o1 o2 had z1 has z2 with
    | true =>
     rw [hb1, if_pos rfl] at H
     obtain rfl := Option.some.inj H
     clear H hb1
     go_wp2
     go_ret
     exact ⟨rfl, bw⟩
    | false =>
     rw [hb1, if_neg (by decide)] at H
     clear hb1
     go_upto_region 7 with (fail)
     go_cut [78] (fun v78 wc => v78 = .bool (bad2 x.f0 had has) ∧ Bx wc gl 81 #[.slice A0_ x.f0.length c0_, .bool had, .int .i64 x.f2.f0, .int .i64 x.f2.f1, .slice A4 x.f2.f2.length c4, .slice A5 x.f2.f3.length c5, .slice A6 x.f2.f4.length c6, .bool has, .int .i64 x.f4.f0, .int .i64 x.f4.f1, .slice A10 x.f4.f2.length c10, .slice A11 x.f4.f3.length c11, .slice A12 x.f4.f4.length c12] ∧ Bw w wc)
     case first =>
      as_aux_lemma =>
      by_cases hq : had = has
      · subst hq
        cases had
        all_goals go_wp2
        all_goals go_meet
        all_goals exact ⟨rfl, BY, HB⟩
      · have hne : (had != has) = true := bne_iff_ne.mpr hq
        by_cases n0 : x.f0.length = 0
        · have n1 : ((x.f0.length : Int) == 0) = true := beq_iff_eq.mpr (by omega)
          have HE := Aside0.mk (show bad2 x.f0 had has = true by rw [bad2, hne, n0]; rfl)
          clear n0
          cases had <;> cases has
          all_goals first | (exact absurd rfl hq) | skip
          all_goals (clear hq hne; go_wp2; go_meet; exact ⟨by rw [HE.out], BY, HB⟩)
        · obtain ⟨m, hm⟩ : ∃ m, m = x.f0.length - 1 := ⟨_, rfl⟩
          have n1 : ((x.f0.length : Int) == 0) = false := beq_eq_false_iff_ne.mpr (by omega)
          have hlx : x.f0.length ≤ 9223372036854775807 := (G0.out).2.1
          have w9 : wrap64 ((x.f0.length : Int) - 1) = (m : Int) := by rw [w64 (by omega) (by omega)]; omega
          have p9 : (0 ≤ (m : Int)) = True := eq_true (by omega)
          have q9 : ((m : Int) < (x.f0.length : Int)) = True := eq_true (by omega)
          obtain ⟨adp, A1p, c1p, eP, y0, _, _, _, _⟩ := at_T100 G0.out (m : Int) (by omega) (by omega)
          subst eP
          replace y0 := (HB.out.cell (World.block_lt_of_cell? w _ y0)).trans y0
          simp only [Int.toNat_natCast] at y0
          obtain ⟨z, hz⟩ : ∃ y, y = (rd_T100 x.f0 (m : Int)).f0 := ⟨_, rfl⟩
          rw [← hz] at y0
          have hz2 : (x.f0.getD (x.f0.length - 1) z100).f0 = z := by rw [hz, ← hm]; rfl
          have HE := Aside0.mk (show bad2 x.f0 had has = !decide (z = 0) by rw [bad2, hne, hz2, decide_eq_false n0]; rfl)
          clear hz hz2 n0 hm hlx
          by_cases hz0 : z = 0
          · have z1b : (z == 0) = true := beq_iff_eq.mpr hz0
            have z2b : (z != 0) = false := bne_eq_false_iff_eq.mpr hz0
            replace HE := Aside0.mk (show bad2 x.f0 had has = false by rw [HE.out, decide_eq_true hz0]; rfl)
            clear hz0
            cases had <;> cases has
            all_goals first | (exact absurd rfl hq) | skip
            all_goals (clear hq hne; go_wp2; go_meet; exact ⟨by rw [HE.out], BY, HB⟩)
          · have z1b : (z == 0) = false := beq_eq_false_iff_ne.mpr hz0
            have z2b : (z != 0) = true := bne_iff_ne.mpr hz0
            replace HE := Aside0.mk (show bad2 x.f0 had has = true by rw [HE.out, decide_eq_false hz0]; rfl)
            clear hz0
            cases had <;> cases has
            all_goals first | (exact absurd rfl hq) | skip
            all_goals (clear hq hne; go_wp2; go_meet; exact ⟨by rw [HE.out], BY, HB⟩)
     case rest =>
      as_aux_lemma =>
      clear BY HB gc0 gc1 gc2 gc3 gc4 gc5 gc6 gc7 gc8 gc9 gc10 gc11 gc12
      obtain ⟨rfl, BY, HB⟩ := hcut
      obtain ⟨gc0, gc1, gc2, gc3, gc4, gc5, gc6, gc7, gc8, gc9, gc10, gc11, gc12⟩ := blk13 BY.h
      cases hb2 : bad2 x.f0 had has with
      | true =>
       rw [hb2, if_pos rfl] at H
       obtain rfl := Option.some.inj H
       clear H hb2
       go_wp2
       go_ret
       exact ⟨rfl, bw⟩
      | false =>
       rw [hb2, if_neg (by decide)] at H
       clear hb2
       by_cases hi0 : i = 0
       · as_aux_lemma =>
         rw [if_pos hi0] at H
         have H' := Aside0.mk H
         clear H
         have i1 : ((i : Int) == 0) = true := beq_iff_eq.mpr (by omega)
         have HI := Aside0.mk hi0
         clear hi0
         go_wp2
         go_roundg k1
         case rel => exact ⟨i + 1, by omega, by first | (rw [w3]; rfl) | go_num, H', ⟨by have := HK1.out; omega⟩, ⟨bw⟩⟩
         case measure => have := HK1.out; omega
       · as_aux_lemma =>
         rw [if_neg hi0] at H
         have h9 := bnd H
         clear H
         obtain ⟨c, ac, H⟩ := h9
         have h9 := bnd H
         clear H
         obtain ⟨d, ad_, H⟩ := h9
         obtain ⟨j, hj⟩ : ∃ j, j = i - 1 := ⟨_, rfl⟩
         rw [← hj] at ac ad_ H
         have i1 : ((i : Int) == 0) = false := beq_eq_false_iff_ne.mpr (by omega)
         have w8 : wrap64 ((i : Int) - 1) = (j : Int) := by have := HLM.out; rw [w64 (by omega) (by omega)]; omega
         have p8 : (0 ≤ (j : Int)) = True := eq_true (by omega)
         have q8 : ((j : Int) < (l0.length : Int)) = True := eq_true (by omega)
         obtain ⟨adq, Aq, cq, B4, d4, B5, d5, B6, d6, B10, d10, B11, d11, B12, d12, eQ, y0, _, _, _, _, _, _, _, _, _, _, _, _, mq, gq, _⟩ := at_T81 HR0.out (j : Int) (by omega) (by omega)
         obtain rfl : ad = adq := by injection eQ
         replace y0 := (HB.out.cell (World.block_lt_of_cell? w _ y0)).trans y0
         simp only [Int.toNat_natCast] at y0
         obtain ⟨y, hy⟩ : ∃ y, y = (rd_T81 l0 (j : Int)).f0 := ⟨_, rfl⟩
         rw [← hy] at y0 mq gq ac ad_ H
         have GQ := Aside0.mk gq
         have LQ := Aside0.mk mq
         have AC := Aside0.mk ac
         have AD := Aside0.mk ad_
         clear mq gq ac ad_ hy hj
         have HI := Aside0.mk hi0
         clear hi0
         by_cases hc0 : 0 ≤ c
         · rw [if_pos hc0] at H
           obtain rfl := Option.some.inj H
           have c1 : (0 ≤ c) = True := eq_true hc0
           clear H hc0
           go_wp2_with ((with_reducible refine gate_dst (N := 90) rfl ?_); refine gg (some 90) rfl rfl rfl fr96 ?_; refine onc (impl_comparePaths.calls k1 _ _ _ _ _ _ c _ (cb GQ) LQ.out (cb G0) L0.out AC.out) rfl ?_; rintro e9 w9 ⟨rfl, hb⟩; refine ⟨_, rfl, ?_⟩; replace y0 := (hb.cell (World.block_lt_of_cell? _ _ y0)).trans y0; replace BY := BY.b hb; replace HB := Bw.sw w hb; clear hb gc0 gc1 gc2 gc3 gc4 gc5 gc6 gc7 gc8 gc9 gc10 gc11 gc12; obtain ⟨gc0, gc1, gc2, gc3, gc4, gc5, gc6, gc7, gc8, gc9, gc10, gc11, gc12⟩ := blk13 BY.h)
           go_ret
           exact ⟨rfl, bw⟩
         · rw [if_neg hc0] at H
           have c1 : (0 ≤ c) = False := eq_false hc0
           clear hc0
           by_cases hle : y.length ≤ x.f0.length
           · have l1 : ((y.length : Int) ≤ (x.f0.length : Int)) = True := eq_true (by omega)
             obtain ⟨sub, hsub⟩ : ∃ s, s = x.f0.take y.length := ⟨_, rfl⟩
             have hsl : sub.length = y.length := by rw [hsub, List.length_take]; omega
             have hst := stp_to A0_ x.f0.length c0_ (y.length : Int) (by omega) (by omega) L0.out
             rw [Int.toNat_natCast, ← hsl] at hst
             have GT := Aside0.mk (show k100.C w A0_ sub.length sub by rw [hsub]; exact Kd.C_take (m := y.length) G0.out hle)
             have LT := Aside0.mk (show sub.length ≤ c0_ by have := L0.out; omega)
             rw [← hsub] at AD
             by_cases hd0 : d = 0
             · rw [if_pos ⟨hle, hd0⟩] at H
               obtain rfl := Option.some.inj H
               have d1 : (d == 0) = true := beq_iff_eq.mpr hd0
               have d2 : (d != 0) = false := bne_eq_false_iff_eq.mpr hd0
               clear H hle hsub hd0
               rw [hsl] at hst
               have HSL := Aside0.mk hsl
               clear hsl
               go_wp2_with (first
                 | ((with_reducible refine gate_dst (N := 90) rfl ?_); refine gg (some 90) rfl rfl rfl fr96 ?_; refine onc (impl_comparePaths.calls k1 _ _ _ _ _ _ c _ (cb GQ) LQ.out (cb G0) L0.out AC.out) rfl ?_; rintro e9 w9 ⟨rfl, hb⟩; refine ⟨_, rfl, ?_⟩; replace y0 := (hb.cell (World.block_lt_of_cell? _ _ y0)).trans y0; replace BY := BY.b hb; replace HB := Bw.sw w hb; clear hb gc0 gc1 gc2 gc3 gc4 gc5 gc6 gc7 gc8 gc9 gc10 gc11 gc12; obtain ⟨gc0, gc1, gc2, gc3, gc4, gc5, gc6, gc7, gc8, gc9, gc10, gc11, gc12⟩ := blk13 BY.h)
                 | ((with_reducible refine gate_dst (N := 104) rfl ?_); refine ggw (some 104) rfl (by rfl) rfl fr96 ?_; refine onc (cmp_b k1 _ _ y _ _ sub _ d _ HSL.out (cb GQ) LQ.out (cb GT) LT.out AD.out) rfl ?_; rintro e9 w9 ⟨rfl, hb⟩; refine ⟨_, rfl, ?_⟩; replace y0 := (hb.cell (World.block_lt_of_cell? _ _ y0)).trans y0; replace BY := BY.b hb; replace HB := Bw.sw w hb; clear hb gc0 gc1 gc2 gc3 gc4 gc5 gc6 gc7 gc8 gc9 gc10 gc11 gc12; obtain ⟨gc0, gc1, gc2, gc3, gc4, gc5, gc6, gc7, gc8, gc9, gc10, gc11, gc12⟩ := blk13 BY.h))
               go_ret
               exact ⟨rfl, bw⟩
             · rw [if_neg (fun z => hd0 z.2)] at H
               have H' := Aside0.mk H
               have d1 : (d == 0) = false := beq_eq_false_iff_ne.mpr hd0
               have d2 : (d != 0) = true := bne_iff_ne.mpr hd0
               clear H hle hsub hd0
               rw [hsl] at hst
               have HSL := Aside0.mk hsl
               clear hsl
               go_wp2_with (first
                 | ((with_reducible refine gate_dst (N := 90) rfl ?_); refine gg (some 90) rfl rfl rfl fr96 ?_; refine onc (impl_comparePaths.calls k1 _ _ _ _ _ _ c _ (cb GQ) LQ.out (cb G0) L0.out AC.out) rfl ?_; rintro e9 w9 ⟨rfl, hb⟩; refine ⟨_, rfl, ?_⟩; replace y0 := (hb.cell (World.block_lt_of_cell? _ _ y0)).trans y0; replace BY := BY.b hb; replace HB := Bw.sw w hb; clear hb gc0 gc1 gc2 gc3 gc4 gc5 gc6 gc7 gc8 gc9 gc10 gc11 gc12; obtain ⟨gc0, gc1, gc2, gc3, gc4, gc5, gc6, gc7, gc8, gc9, gc10, gc11, gc12⟩ := blk13 BY.h)
                 | ((with_reducible refine gate_dst (N := 104) rfl ?_); refine ggw (some 104) rfl (by rfl) rfl fr96 ?_; refine onc (cmp_b k1 _ _ y _ _ sub _ d _ HSL.out (cb GQ) LQ.out (cb GT) LT.out AD.out) rfl ?_; rintro e9 w9 ⟨rfl, hb⟩; refine ⟨_, rfl, ?_⟩; replace y0 := (hb.cell (World.block_lt_of_cell? _ _ y0)).trans y0; replace BY := BY.b hb; replace HB := Bw.sw w hb; clear hb gc0 gc1 gc2 gc3 gc4 gc5 gc6 gc7 gc8 gc9 gc10 gc11 gc12; obtain ⟨gc0, gc1, gc2, gc3, gc4, gc5, gc6, gc7, gc8, gc9, gc10, gc11, gc12⟩ := blk13 BY.h))
               go_roundg k1
               case rel => exact ⟨i + 1, by omega, by first | (rw [w3]; rfl) | go_num, H', ⟨by have := HK1.out; omega⟩, ⟨bw⟩⟩
               case measure => have := HK1.out; omega
           · have l1 : ((y.length : Int) ≤ (x.f0.length : Int)) = False := eq_false (by omega)
             rw [if_neg (fun z => hle z.1)] at H
             have H' := Aside0.mk H
             clear H hle
             go_wp2_with ((with_reducible refine gate_dst (N := 90) rfl ?_); refine gg (some 90) rfl rfl rfl fr96 ?_; refine onc (impl_comparePaths.calls k1 _ _ _ _ _ _ c _ (cb GQ) LQ.out (cb G0) L0.out AC.out) rfl ?_; rintro e9 w9 ⟨rfl, hb⟩; refine ⟨_, rfl, ?_⟩; replace y0 := (hb.cell (World.block_lt_of_cell? _ _ y0)).trans y0; replace BY := BY.b hb; replace HB := Bw.sw w hb; clear hb gc0 gc1 gc2 gc3 gc4 gc5 gc6 gc7 gc8 gc9 gc10 gc11 gc12; obtain ⟨gc0, gc1, gc2, gc3, gc4, gc5, gc6, gc7, gc8, gc9, gc10, gc11, gc12⟩ := blk13 BY.h)
             go_roundg k1
             case rel => exact ⟨i + 1, by omega, by first | (rw [w3]; rfl) | go_num, H', ⟨by have := HK1.out; omega⟩, ⟨bw⟩⟩
             case measure => have := HK1.out; omega
end Go.Proofs.Ytockllljeeakaaa.PFnExactChangesOk
