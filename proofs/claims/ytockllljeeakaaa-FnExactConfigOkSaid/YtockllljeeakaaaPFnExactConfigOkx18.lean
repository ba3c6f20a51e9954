/- What a function comes to, walked by hand. No condition. -/
import Derived.Test.YtockllljeeakaaaPFnExactConfigOkx0
import Derived.Test.YtockllljeeakaaaPFnExactConfigOkx8
import Derived.Test.YtockllljeeakaaaMlaw
import Derived.Test.YtockllljeeakaaaMcore
import Derived.Test.YtockllljeeakaaaMshape
import Derived.Laws.CopyRow
namespace Go.Proofs.Ytockllljeeakaaa.PFnExactConfigOk
open Go.RowKit Go.Proofs.YtockllljeeakaaaW.PrintWords Go.Proofs.YtockllljeeakaaaW.PrintLast Go.Proofs.YtockllljeeakaaaW.PrintMore Go.Proofs.Ytockllljeeakaaa.M
attribute [local go_sem] max2_int min2_int max_two min_two max_three min_three max_four min_four Go.Proofs.Ytockllljeeakaaa.M.str_gtr Go.Proofs.Ytockllljeeakaaa.M.str_leq Go.Proofs.Ytockllljeeakaaa.M.str_geq   -- for this text's walks alone
set_option linter.unusedVariables false
set_option linter.unusedSimpArgs false
def laws_toItem.g (k : Nat) (x : S91) : Option S94 := (laws_toItem.f k x.f0 x.f1 x.f2 x.f3.f0 x.f3.f1 x.f3.f2 x.f3.f3 x.f3.f4 x.f4 x.f5).bind fun b => some ⟨b.1, b.2.1, b.2.2.1, ⟨b.2.2.2.1, b.2.2.2.2.1, b.2.2.2.2.2.1, b.2.2.2.2.2.2.1, b.2.2.2.2.2.2.2.1⟩, b.2.2.2.2.2.2.2.2.1, b.2.2.2.2.2.2.2.2.2⟩
theorem frTI : Fr Try.prog 69 := ⟨_, Try.func69, by kernel_rfl, rfl⟩
theorem laws_toItem.kc (k : Nat) (x : S91) (y : S94) (b0 : Array Value) (w : World) (h0 : Rd k91 w x b0.toList) (h : laws_toItem.g k x = some y) :
    Calls Try.prog 69 #[.agg b0] w fun e w' => ∃ b : Array Value, e = .returned (.agg b) ∧ Own k94 w' w.heap.size w'.heap.size y b.toList ∧ Below w.heap.size w w' := by
  obtain ⟨A1, c1, A5, c5, A6, c6, A7, c7, A8, c8, A9, c9, e0, m1, g1, m5, g5, m6, g6, m7, g7, m8, g8, m9, g9⟩ := k91_open h0.k
  obtain rfl : b0 = #[.int .i64 x.f0, .slice A1 x.f1.length c1, .int .i64 x.f2, .int .i64 x.f3.f0, .int .i64 x.f3.f1, .slice A5 x.f3.f2.length c5, .slice A6 x.f3.f3.length c6, .slice A7 x.f3.f4.length c7, .slice A8 x.f4.length c8, .slice A9 x.f5.length c9] := by rw [← b0.toArray_toList, e0]
  unfold laws_toItem.g at h
  have h9 := bnd h
  clear h
  obtain ⟨⟨r1, r2, r3, r4, r5, r6, r7, r8, r9, r10⟩, ha, h⟩ := h9
  obtain rfl := Option.some.inj h
  refine (laws_toItem.calls k _ _ _ _ _ _ _ _ _ _ _ _ _ _ _ _ _ _ _ _ _ _ r1 r2 r3 r4 r5 r6 r7 r8 r9 r10 w g1 m1 g5 m5 g6 m6 g7 m7 g8 m8 g9 m9 ha).mono ?_
  rintro e w' ⟨v1, v5, v6, v7, v8, v9, rfl, h1, h5, h6, h7, h8, h9, hb⟩
  exact ⟨_, rfl, Own.of (k94_mkM _ w.heap.size (fun _ => True) _ (Kd.R_mono h1 fun _ _ => trivial) (Kd.R_mono h5 fun _ _ => trivial) (Kd.R_mono (Kd.S_R h6) fun _ _ => trivial) (Kd.R_mono h7 fun _ _ => trivial) (Kd.R_mono (Kd.S_R h8) fun _ _ => trivial) (Kd.R_mono h9 fun _ _ => trivial)) hb.size, hb⟩
theorem stg {P : Program} {ops : Array Oper} {Q : Exit → Act → World → Prop} {rest : List Oper} {oi : Oper} {a : Act} {w : World} {bs : Array Value} {t g n0 : Nat} {p x : Operand} (hd : oi.dst = none) (hg : oi.guard = none) (ho : oi.op = .store t p x) (hp : a.eval p = .pointer (some ⟨g, n0, none⟩)) (hx : a.eval x = .agg bs)
    (hz : (P.info? t).map (·.size) = some bs.size) (h1 : ∀ v ∈ bs.toList, v.oneCell' = true) (hc : ∀ j, j < bs.size → (w.cell? ⟨g, n0 + j, none⟩).isSome = true) (hf : ∀ j, w.frozen? ⟨g, n0 + j, none⟩ = false)
    (k : wpList P ops Q rest a (w.setCells g n0 bs.toList)) : wpList P ops Q (oi :: rest) a w := by
  refine wpList_plain hg fun K hK => ?_
  have hs := run_storeCells_cells (P := P) g n0 bs.toList 0 w (fun j hj => by rw [Nat.add_zero]; exact hc j (by simpa using hj)) (fun j _ => by rw [Nat.add_zero]; exact hf j) h1
  rw [Nat.add_zero] at hs
  have hrun : (execOp a.eval oi).run P w = .ok .skip (w.setCells g n0 bs.toList) := by
    have hv : (storeVar t ⟨g, n0, none⟩ (.agg bs)).run P w = .ok () (w.setCells g n0 bs.toList) := by
      cases hq : P.info? t with
      | none => simp [hq] at hz
      | some i =>
        have hs2 : bs.size = i.size := by simp [hq] at hz; omega
        simp [storeVar, sizeOf, typeInfo, hq, Value.cells, hs2, hs]
    unfold execOp
    simp only [ho, hp, hx, Instr.storeAt, Instr.sureAddr, Sem.run_bind, Sem.run_pure, Result.andThen_ok, hv]
  unfold Oper.wp
  rw [hrun, Oper.upon_skip, hd]
  exact hK _ _ k
theorem out_setCells (w : World) (g o : Nat) (vs : List Value) : M.Outside g (g + 1) w (w.setCells g o vs) := by
  obtain ⟨s1, s2, s3, s4⟩ := setCells_same g vs o w
  exact ⟨s1, s2, s3, Nat.le_of_eq s4.symm, fun k hk ho => setCells_far vs o k (by omega)⟩
def laws_toItemS.r : Nat → List S91 → List S94 → Nat → Option (List S94)
  | 0, _, _, _ => none
  | k + 1, l, out, i => if i < l.length then (laws_toItem.g k (rd_T91 l (i : Int))).bind fun y => laws_toItemS.r k l (out.set i y) (i + 1) else some out
def laws_toItemS.f (k : Nat) (l : List S91) : Option (List S94) := if l.length ≤ 1048576 then laws_toItemS.r k l (List.replicate l.length z94) 0 else none
set_option maxHeartbeats 8000000 in
set_option maxRecDepth 100000 in
theorem laws_toItemS.calls (k : Nat) (A0 : Option Addr) (c0 : Nat) (l0 : List (S91)) (r : List (S94)) (w : World) (hr0 : Kd.C k91 w A0 l0.length l0) (hc0 : l0.length ≤ c0) (h : laws_toItemS.f k l0 = some r) :
    Calls Try.prog 32 #[.slice A0 l0.length c0] w fun e w' => ∃ v0_ : Value, e = .returned (v0_) ∧ Kd.R k94 94 w' w.heap.size (fun _ => True) v0_ r ∧ Below w.heap.size w w' := by
  have HR0 := Aside0.mk hr0
  clear hr0 hc0
  have HB := Bw.refl w
  unfold laws_toItemS.f at h
  by_cases hln : l0.length ≤ 1048576
  case neg => rw [if_neg hln] at h; cases h
  rw [if_pos hln] at h
  have H' := Aside0.mk h
  have HLN := Aside0.mk hln
  have c3b0 : decide (0 ≤ (l0.length : Int)) = true := decide_eq_true (by omega)
  clear h hln
  go_enter Try.func32, Try.ntmps32
  go_wp2_with ((with_reducible refine gate_dst (N := 7) rfl ?_); refine Kd.R_make k94 _ 94 rfl (N := 7) rfl 51 _ _ rfl (l0.length : Int) rfl rfl Try.underlying51 (.agg #[.int .i64 0, .slice none 0 0, .int .i64 0, .int .i64 0, .int .i64 0, .slice none 0 0, .slice none 0 0, .slice none 0 0, .slice none 0 0, .slice none 0 0]) 176 info94 rfl (by decide) (by omega) z94 (ok := fun _ => True) (okp := fun _ => True) (k94_mkM _ _ _ z94 (Kd.R_nil _ _ _ _ _) (Kd.R_nil _ _ _ _ _) (Kd.R_nil _ _ _ _ _) (Kd.R_nil _ _ _ _ _) (Kd.R_nil _ _ _ _ _) (Kd.R_nil _ _ _ _ _)) (fun _ hk => hk) trivial (by omega) (by have := HLN.out; rw [Int.toNat_natCast]; omega) (Below.refl _ _) (Nat.le_refl _) ?_; intro v7 w4 ho5 hb hg_ hnew_; clear hg_ hnew_; rw [Int.toNat_natCast] at ho5; have HO := Aside0.mk (Kd.R_lower ho5 (bzz w)); replace HB := Bw.sw w hb; clear hb ho5)
  go_loopg [4] k (fun kq v4 w' => ∃ (out : List S94) (i : Nat), i ≤ l0.length ∧ out.length = l0.length ∧ v4 = .int .i64 (i : Int) ∧ Aside0 (laws_toItemS.r kq l0 out i = some r) ∧ Aside0 (kq ≤ k) ∧ Aside0 (Kd.R k94 94 w' w.heap.size (fun _ => True) v7 out) ∧ Bw w w')
  case atStart => exact ⟨_, 0, Nat.zero_le _, List.length_replicate .., rfl, H', ⟨Nat.le_refl _⟩, HO, ⟨bw⟩⟩
  case round =>
    as_aux_lemma =>
    clear H' HO c3b0
    obtain ⟨out, i, hil, hol, rfl, HA, HK1, HO, HB⟩ := hrel
    cases gk with
    | zero => exact absurd HA.out (by simp [laws_toItemS.r])
    | succ k1 =>
      have H := HA.out
      clear HA
      rw [laws_toItemS.r] at H
      by_cases hlt : i < l0.length
      case neg =>
        rw [if_neg hlt] at H
        obtain rfl := Option.some.inj H
        have c2b0 : ((i : Int) < (l0.length : Int)) = False := eq_false (by omega)
        clear H
        go_wp2
        go_ret
        exact ⟨_, rfl, HO.out, bw⟩
      rw [if_pos hlt] at H
      have h9 := bnd H
      clear H
      obtain ⟨y, ha, H⟩ := h9
      have hlm := HLN.out
      have c2b0 : ((i : Int) < (l0.length : Int)) = True := eq_true (by omega)
      have c2b1 : ((i : Int) < (out.length : Int)) = True := eq_true (by omega)
      have p126 : (0 ≤ (i : Int)) = True := eq_true (by omega)
      have w3 : wrap64 ((i : Int) + 1) = (i : Int) + 1 := w64 (by omega) (by omega)
      obtain ⟨ad, A1, c1, A5, c5, A6, c6, A7, c7, A8, c8, A9, c9, eA, x0_, x1_, x2_, x3_, x4_, x5_, x6_, x7_, x8_, x9_, m1, g1, m5, g5, m6, g6, m7, g7, m8, g8, m9, g9⟩ := at_T91 HR0.out (i : Int) (by omega) (by omega)
      subst eA
      replace x0_ := (HB.out.cell (World.block_lt_of_cell? w _ x0_)).trans x0_
      replace x1_ := (HB.out.cell (World.block_lt_of_cell? w _ x1_)).trans x1_
      replace x2_ := (HB.out.cell (World.block_lt_of_cell? w _ x2_)).trans x2_
      replace x3_ := (HB.out.cell (World.block_lt_of_cell? w _ x3_)).trans x3_
      replace x4_ := (HB.out.cell (World.block_lt_of_cell? w _ x4_)).trans x4_
      replace x5_ := (HB.out.cell (World.block_lt_of_cell? w _ x5_)).trans x5_
      replace x6_ := (HB.out.cell (World.block_lt_of_cell? w _ x6_)).trans x6_
      replace x7_ := (HB.out.cell (World.block_lt_of_cell? w _ x7_)).trans x7_
      replace x8_ := (HB.out.cell (World.block_lt_of_cell? w _ x8_)).trans x8_
      replace x9_ := (HB.out.cell (World.block_lt_of_cell? w _ x9_)).trans x9_
      simp only [Int.toNat_natCast] at x0_ x1_ x2_ x3_ x4_ x5_ x6_ x7_ x8_ x9_
      have R0 := Aside0.mk (k91_mk w (rd_T91 l0 (i : Int)) m1 g1 m5 g5 m6 g6 m7 g7 m8 g8 m9 g9)
      obtain ⟨x, hx⟩ : ∃ z, z = rd_T91 l0 (i : Int) := ⟨_, rfl⟩
      rw [← hx] at R0 ha x0_ x1_ x2_ x3_ x4_ x5_ x6_ x7_ x8_ x9_
      have HA := Aside0.mk ha
      have H' := Aside0.mk H
      have HI := Aside0.mk hlt
      have HOL := Aside0.mk hol
      obtain ⟨g, cap, eg, hbg, hgl, cells, hg⟩ := Kd.R_form HO.out (by omega)
      subst eg
      have HBG := Aside0.mk hbg
      have HGL := Aside0.mk hgl
      clear hx ha H hlm hbg hgl hg hlt hol m1 g1 m5 g5 m6 g6 m7 g7 m8 g8 m9 g9
      go_wp2_with (first
        | ((with_reducible refine gg (f := 69) (some 20) rfl rfl rfl frTI ?_); refine onc (laws_toItem.kc k1 x y #[.int .i64 x.f0, .slice A1 x.f1.length c1, .int .i64 x.f2, .int .i64 x.f3.f0, .int .i64 x.f3.f1, .slice A5 x.f3.f2.length c5, .slice A6 x.f3.f3.length c6, .slice A7 x.f3.f4.length c7, .slice A8 x.f4.length c8, .slice A9 x.f5.length c9] _ ⟨k91.K_below HB.out R0.out⟩ HA.out) rfl ?_; rintro e9 w9 ⟨b20, rfl, ho, hb⟩; refine ⟨_, rfl, ?_⟩; have lo := HGL.out; have lw := HB.out.size; replace HO := Aside0.mk (Kd.R_below HO.out hb); have OY := ho; replace HB := Bw.sw w hb; clear hb ho x0_ x1_ x2_ x3_ x4_ x5_ x6_ x7_ x8_ x9_)
        | ((with_reducible refine gate_store (t := 94) (p := 21) (v := .tmp 20) rfl ?_); obtain ⟨ce, hcl, hM, hcc, hfr⟩ := Kd.R_elem HO.out z94 (i : Int) (by omega) (by have := HOL.out; have := HI.out; omega); have hsz : k94.sz = 10 := rfl; have hbl := k94.K_len (k94.K_of_M OY.m); rw [hsz] at hbl; have hcl2 := hcl; rw [hsz] at hcl2; refine stg (g := g) (n0 := i * 10) (bs := b20) rfl rfl rfl rfl rfl ?hz (k94.K_one (k94.K_of_M OY.m)) ?hc ?hf ?_; (case hz => rw [show b20.size = 10 by simpa using hbl]; kernel_rfl); (case hc => intro j hj; have hj2 : j < ce.length := (by rw [hcl2]; have : b20.size = 10 := (by simpa using hbl); omega); have h9 := hcc j ce[j] (List.getElem?_eq_getElem hj2); rw [hsz, Int.toNat_natCast] at h9; rw [h9]; rfl); (case hf => intro j; have h9 := hfr j; rw [hsz, Int.toNat_natCast] at h9; exact h9); have hR := (Kd.R_seg HO.out (i : Int) (by omega) (by have := HOL.out; have := HI.out; omega) (c := ce) (seg := b20.toList) (j := 0) (x' := y) (okp := fun z => w.heap.size ≤ z ∧ z ≠ g) hcl hcc (by rw [hsz, hbl]; omega) (by rw [List.take_zero, List.nil_append, List.drop_eq_nil_of_le (by omega), List.append_nil]; exact k94.M_mono (fun z hz => ⟨by have := hz.1; omega, by have := hz.1; omega⟩) (k94.M_lower (by omega) OY.m)) (fun z hz => ⟨trivial, hz.2⟩)).1; rw [hsz, Int.toNat_natCast, Nat.add_zero] at hR; have HOn := Aside0.mk hR; replace HB := Bw.mk (w := w) ((out_setCells _ g (i * 10) b20.toList).below HB.out HBG.out); clear hR hcl hM hcc hfr hcl2 hbl hsz))
      go_roundg k1
      case rel => exact ⟨out.set i y, i + 1, by have := HI.out; omega, by rw [List.length_set]; exact HOL.out, by first | (rw [w3]; rfl) | go_num, H', ⟨by have := HK1.out; omega⟩, HOn, ⟨bw⟩⟩
      case measure => have := HK1.out; omega
end Go.Proofs.Ytockllljeeakaaa.PFnExactConfigOk
