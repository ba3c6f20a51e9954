/- What a function comes to, walked by hand. No condition. -/
import Derived.Test.YtockllljeeakaaaPFnExactChangesOkx0
import Derived.Test.YtockllljeeakaaaPFnExactChangesOkx2
import Derived.Test.YtockllljeeakaaaPFnExactChangesOkx3
import Derived.Test.YtockllljeeakaaaMlaw
import Derived.Test.YtockllljeeakaaaMcore
import Derived.Test.YtockllljeeakaaaMshape
import Derived.Laws.CopyRow
namespace Go.Proofs.Ytockllljeeakaaa.PFnExactChangesOk
open Go.RowKit Go.Proofs.YtockllljeeakaaaW.PrintWords Go.Proofs.YtockllljeeakaaaW.PrintLast Go.Proofs.YtockllljeeakaaaW.PrintMore Go.Proofs.Ytockllljeeakaaa.M
attribute [local go_sem] max2_int min2_int max_two min_two max_three min_three max_four min_four Go.Proofs.Ytockllljeeakaaa.M.str_gtr Go.Proofs.Ytockllljeeakaaa.M.str_leq Go.Proofs.Ytockllljeeakaaa.M.str_geq   -- for this text's walks alone
set_option linter.unusedVariables false
set_option linter.unusedSimpArgs false
theorem blk13t {w : World} {g t : Nat} {u0 u1 u2 u3 u4 u5 u6 u7 u8 u9 u10 u11 u12 : Value} (h : w.heap[g]? = some (.cells #[u0, u1, u2, u3, u4, u5, u6, u7, u8, u9, u10, u11, u12] t (0, 0))) : w.cell? ⟨g, 0, none⟩ = some u0 ∧ w.cell? ⟨g, 1, none⟩ = some u1 ∧ w.cell? ⟨g, 2, none⟩ = some u2 ∧ w.cell? ⟨g, 3, none⟩ = some u3 ∧ w.cell? ⟨g, 4, none⟩ = some u4 ∧ w.cell? ⟨g, 5, none⟩ = some u5 ∧ w.cell? ⟨g, 6, none⟩ = some u6 ∧ w.cell? ⟨g, 7, none⟩ = some u7 ∧ w.cell? ⟨g, 8, none⟩ = some u8 ∧ w.cell? ⟨g, 9, none⟩ = some u9 ∧ w.cell? ⟨g, 10, none⟩ = some u10 ∧ w.cell? ⟨g, 11, none⟩ = some u11 ∧ w.cell? ⟨g, 12, none⟩ = some u12 := ⟨(blk_cell h 0).trans rfl, (blk_cell h 1).trans rfl, (blk_cell h 2).trans rfl, (blk_cell h 3).trans rfl, (blk_cell h 4).trans rfl, (blk_cell h 5).trans rfl, (blk_cell h 6).trans rfl, (blk_cell h 7).trans rfl, (blk_cell h 8).trans rfl, (blk_cell h 9).trans rfl, (blk_cell h 10).trans rfl, (blk_cell h 11).trans rfl, (blk_cell h 12).trans rfl⟩
def laws_toChange.g (k : Nat) (x : S74) : Option S81 := (laws_toStepS.f k x.f0).bind fun p => (laws_toValue.f k x.f2.f0 x.f2.f1 x.f2.f2 x.f2.f3 x.f2.f4).bind fun u => (laws_toValue.f k x.f4.f0 x.f4.f1 x.f4.f2 x.f4.f3 x.f4.f4).bind fun q => some ⟨p, x.f1, ⟨u.1, u.2.1, u.2.2.1, u.2.2.2.1, u.2.2.2.2⟩, x.f3, ⟨q.1, q.2.1, q.2.2.1, q.2.2.2.1, q.2.2.2.2⟩⟩
theorem _root_.Go.Proofs.Ytockllljeeakaaa.M.Bx.st {w : World} {b t g i : Nat} {cs : Array Value} {u : Value} (h : Bx w b t cs) (hn : b < g) : Bx (w.setCell ⟨g, i, none⟩ u) b t cs := ⟨blk_far h.h (by show b ≠ g; omega) u⟩
theorem _root_.Go.Proofs.Ytockllljeeakaaa.M.Own.st {α : Type} {d : Kd α} {w : World} {lo hi g i : Nat} {x : α} {cs : List Value} {u : Value} (h : Own d w lo hi x cs) (hg : g < lo) : Own d (w.setCell ⟨g, i, none⟩ u) lo hi x cs := h.mv (Outside.set (Nat.le_refl g) (Nat.lt_succ_self g)) (.inr hg)
theorem _root_.Go.Proofs.Ytockllljeeakaaa.M.Bw.st {W w : World} {g i : Nat} {u : Value} (h : Bw W w) (hg : W.heap.size ≤ g) : Bw W (w.setCell ⟨g, i, none⟩ u) := Bw.mk (Outside.below (Outside.set (Nat.le_refl g) (Nat.lt_succ_self g)) h.out hg)
theorem stf {P : Program} {ops : Array Oper} {Q : Exit → Act → World → Prop} {rest : List Oper} {oi : Oper} {a : Act} {w : World} {bs cs cs' : Array Value} {t T g n0 : Nat} {p x : Operand} (hd : oi.dst = none) (hg : oi.guard = none) (ho : oi.op = .store t p x) (hp : a.eval p = .pointer (some ⟨g, n0, none⟩)) (hx : a.eval x = .agg bs)
    (hz : (P.info? t).map (·.size) = some bs.size) (h1 : bs.all (·.oneCell') = true) (h : Bx w g T cs) (hn : n0 + bs.size ≤ cs.size) (hcs : (cs.toList.take n0 ++ bs.toList ++ cs.toList.drop (n0 + bs.size)).toArray = cs')
    (k : ∀ w1, Bx w1 g T cs' → M.Outside g (g + 1) w w1 → wpList P ops Q rest a w1) : wpList P ops Q (oi :: rest) a w := by
  refine wpList_plain hg fun K hK => ?_
  have hs := run_storeCells_at (P := P) g n0 T bs.toList 0 cs w h.h (by simpa using hn) (fun v hv => (Array.all_eq_true_iff_forall_mem.1 h1) v (by simpa using hv))
  rw [Nat.add_zero, Array.length_toList, hcs] at hs
  have hrun : (execOp a.eval oi).run P w = .ok .skip (w.setRow g cs') := by
    have hv : (storeVar t ⟨g, n0, none⟩ (.agg bs)).run P w = .ok () (w.setRow g cs') := by
      cases hq : P.info? t with
      | none => simp [hq] at hz
      | some i =>
        have hs2 : bs.size = i.size := by simp [hq] at hz; omega
        simp [storeVar, sizeOf, typeInfo, hq, Value.cells, hs2, hs]
    unfold execOp
    simp only [ho, hp, hx, Instr.storeAt, Instr.sureAddr, Sem.run_bind, Sem.run_pure, Result.andThen_ok, hv]
  unfold Oper.wp
  rw [hrun, Oper.upon_skip, hd]
  exact hK _ _ (k _ ⟨setRow_heap w g cs _ T _ h.h⟩ ⟨rfl, rfl, rfl, by rw [setRow_size]; exact Nat.le_refl _, fun k hk ho => setRow_other w g k _ (by omega)⟩)
theorem own_lo {α : Type} {d : Kd α} {e lo hi base : Nat} {W : World} {xs : List α} {v : Value} (h : Own (Kd.slice e d) W lo hi xs [v]) (hb : base ≤ lo) : d.R e W base (fun _ => True) v xs := by
  obtain ⟨v', e', h1⟩ := h.m
  injection e' with e'
  subst e'
  exact Kd.R_mono (Kd.R_lower h1 hb) (fun _ _ => trivial)
theorem own_sl {α : Type} {d : Kd α} {e lo hi : Nat} {W : World} {xs : List α} {v : Value} (h : Own (Kd.slice e d) W lo hi xs [v]) : ∃ A c, v = .slice A xs.length c := by
  obtain ⟨v', e', h1⟩ := h.m
  injection e' with e'
  subst e'
  exact Kd.R_slice h1
theorem own_R {α : Type} {d : Kd α} {e base : Nat} {ok : Nat → Prop} {W : World} {xs : List α} {v : Value} (h : d.R e W base ok v xs) (hb : base ≤ W.heap.size) : Own (Kd.slice e d) W base W.heap.size xs [v] := Own.of ⟨v, rfl, h⟩ hb
set_option maxHeartbeats 8000000 in
set_option maxRecDepth 100000 in
theorem laws_toChange.kc (k : Nat) (x : S74) (y : S81) (b0 : Array Value) (w : World) (h0 : Rd k74 w x b0.toList) (h : laws_toChange.g k x = some y) :
    Calls Try.prog 57 #[.agg b0] w fun e w' => ∃ b : Array Value, e = .returned (.agg b) ∧ Own k81 w' w.heap.size w'.heap.size y b.toList ∧ Below w.heap.size w w' := by
  obtain ⟨A0, c0, A4, c4, A5, c5, A6, c6, A10, c10, A11, c11, A12, c12, e0, m0, g0, m4, g4, m5, g5, m6, g6, m10, g10, m11, g11, m12, g12⟩ := k74_open h0.k
  obtain rfl : b0 = #[.slice A0 x.f0.length c0, .bool x.f1, .int .i64 x.f2.f0, .int .i64 x.f2.f1, .slice A4 x.f2.f2.length c4, .slice A5 x.f2.f3.length c5, .slice A6 x.f2.f4.length c6, .bool x.f3, .int .i64 x.f4.f0, .int .i64 x.f4.f1, .slice A10 x.f4.f2.length c10, .slice A11 x.f4.f3.length c11, .slice A12 x.f4.f4.length c12] := by rw [← b0.toArray_toList, e0]
  unfold laws_toChange.g at h
  have h9 := bnd h
  clear h
  obtain ⟨p, ha, h⟩ := h9
  have h9 := bnd h
  clear h
  obtain ⟨⟨t1, t2, t3, t4, t5⟩, hb, h⟩ := h9
  have h9 := bnd h
  clear h
  obtain ⟨⟨q1, q2, q3, q4, q5⟩, hc, h⟩ := h9
  obtain rfl := Option.some.inj h
  have A1 := Aside0.mk ha
  have A2 := Aside0.mk hb
  have A3 := Aside0.mk hc
  have G0 := Aside0.mk g0; have L0 := Aside0.mk m0
  have G4 := Aside0.mk g4; have L4 := Aside0.mk m4
  have G5 := Aside0.mk g5; have L5 := Aside0.mk m5
  have G6 := Aside0.mk g6; have L6 := Aside0.mk m6
  have G10 := Aside0.mk g10; have L10 := Aside0.mk m10
  have G11 := Aside0.mk g11; have L11 := Aside0.mk m11
  have G12 := Aside0.mk g12; have L12 := Aside0.mk m12
  have HB := Bw.refl w
  clear h h0 e0 ha hb hc g0 m0 g4 m4 g5 m5 g6 m6 g10 m10 g11 m11 g12 m12
  go_enter Try.func57, Try.ntmps57
  go_upto_region 2 with (first
    | ((with_reducible refine gate_dst (N := 1) rfl ?_); refine bxb (bs := #[.slice A0 x.f0.length c0, .bool x.f1, .int .i64 x.f2.f0, .int .i64 x.f2.f1, .slice A4 x.f2.f2.length c4, .slice A5 x.f2.f3.length c5, .slice A6 x.f2.f4.length c6, .bool x.f3, .int .i64 x.f4.f0, .int .i64 x.f4.f1, .slice A10 x.f4.f2.length c10, .slice A11 x.f4.f3.length c11, .slice A12 x.f4.f4.length c12]) 1 rfl rfl rfl rfl ?_; intro g1 wa B1 hb hge hlt; replace HB := Bw.sw w hb; have z1 := hge; clear hb hge hlt; simp only [Act.put, List.setIfInBounds_toArray, List.set_cons_zero, List.set_cons_succ])
    | ((with_reducible refine gate_dst (N := 2) rfl ?_); refine box_event rfl (N := 2) rfl (cs := #[.slice none 0 0, .bool false, .int .i64 0, .int .i64 0, .slice none 0 0, .slice none 0 0, .slice none 0 0, .bool false, .int .i64 0, .int .i64 0, .slice none 0 0, .slice none 0 0, .slice none 0 0]) (t := 81) (by go_simp <;> rfl) ?_; intro g2 hg wb hbox hb; have B2 : Bx wb g2 81 #[.slice none 0 0, .bool false, .int .i64 0, .int .i64 0, .slice none 0 0, .slice none 0 0, .slice none 0 0, .bool false, .int .i64 0, .int .i64 0, .slice none 0 0, .slice none 0 0, .slice none 0 0] := ⟨hbox⟩; have ge2 : w.heap.size ≤ g2 := (by have h_ := HB.out.size; omega); have lt12 := Nat.lt_of_lt_of_le B1.lt (Nat.le_of_eq hg.symm); replace B1 := B1.b hb; replace HB := Bw.sw w hb; clear hb hbox hg)
    | ((with_reducible refine gate_dst (N := 3) rfl ?_); refine box_event rfl (N := 3) rfl (cs := #[.slice none 0 0, .bool false, .int .i64 0, .int .i64 0, .slice none 0 0, .slice none 0 0, .slice none 0 0, .bool false, .int .i64 0, .int .i64 0, .slice none 0 0, .slice none 0 0, .slice none 0 0]) (t := 81) (by go_simp <;> rfl) ?_; intro g3 hg wd hbox hb; have B3 : Bx wd g3 81 #[.slice none 0 0, .bool false, .int .i64 0, .int .i64 0, .slice none 0 0, .slice none 0 0, .slice none 0 0, .bool false, .int .i64 0, .int .i64 0, .slice none 0 0, .slice none 0 0, .slice none 0 0] := ⟨hbox⟩; have lt23 := Nat.lt_of_lt_of_le B2.lt (Nat.le_of_eq hg.symm); have ge3 : w.heap.size ≤ g3 := (by have h_ := HB.out.size; omega); replace B1 := B1.b hb; replace B2 := B2.b hb; replace HB := Bw.sw w hb; clear hb hbox hg))
  (try simp only [Act.put, List.setIfInBounds_toArray, List.set_cons_zero, List.set_cons_succ])
  obtain ⟨gc0, gc1, gc2, gc3, gc4, gc5, gc6, gc7, gc8, gc9, gc10, gc11, gc12⟩ := blk13t B1.h
  go_cut [] (fun wc => ∃ (v0 : Value) (lo0 hi0 : Nat), g3 < lo0 ∧ Bx wc g1 74 #[.slice A0 x.f0.length c0, .bool x.f1, .int .i64 x.f2.f0, .int .i64 x.f2.f1, .slice A4 x.f2.f2.length c4, .slice A5 x.f2.f3.length c5, .slice A6 x.f2.f4.length c6, .bool x.f3, .int .i64 x.f4.f0, .int .i64 x.f4.f1, .slice A10 x.f4.f2.length c10, .slice A11 x.f4.f3.length c11, .slice A12 x.f4.f4.length c12] ∧ Bx wc g2 81 #[.slice none 0 0, .bool false, .int .i64 0, .int .i64 0, .slice none 0 0, .slice none 0 0, .slice none 0 0, .bool false, .int .i64 0, .int .i64 0, .slice none 0 0, .slice none 0 0, .slice none 0 0] ∧ Bx wc g3 81 #[v0, .bool false, .int .i64 0, .int .i64 0, .slice none 0 0, .slice none 0 0, .slice none 0 0, .bool false, .int .i64 0, .int .i64 0, .slice none 0 0, .slice none 0 0, .slice none 0 0] ∧ Bw w wc ∧ (Own (Kd.slice 100 k100) wc lo0 hi0 p [v0]))
  case first =>
    as_aux_lemma =>
    go_wp2_with ((with_reducible refine gate_dst (N := 6) rfl ?_); refine gg (some 6) rfl rfl rfl fr91 ?_; refine onc (laws_toStepS.calls k _ _ _ p _ (cb G0) L0.out A1.out) rfl ?_; rintro e9 w9 ⟨v0, rfl, ho, hb⟩; obtain ⟨Ao, co, eo⟩ := Kd.S_slice ho; subst eo; refine ⟨_, rfl, ?_⟩; have lo := B3.lt; have O0 := own_R (Kd.S_R ho) hb.size; replace B1 := B1.b hb; replace B2 := B2.b hb; replace B3 := B3.b hb; replace HB := Bw.sw w hb; clear hb ho gc0 gc1 gc2 gc3 gc4 gc5 gc6 gc7 gc8 gc9 gc10 gc11 gc12; have hf0 := blk_frozen B3.h 0; obtain ⟨gc0, gc1, gc2, gc3, gc4, gc5, gc6, gc7, gc8, gc9, gc10, gc11, gc12⟩ := blk13t B1.h; have zc := (blk_cell B3.h 0).trans rfl)
    go_meet
    exact ⟨_, _, _, lo, B1.st (by omega), B2.st (by omega), ⟨blk_put B3.h 0 _ rfl⟩, HB.st (by omega), O0.st lo⟩
  case rest =>
  as_aux_lemma =>
  clear B1 B2 B3 HB gc0 gc1 gc2 gc3 gc4 gc5 gc6 gc7 gc8 gc9 gc10 gc11 gc12
  obtain ⟨v0, lo0, hi0, llo0, B1, B2, B3, HB, O0⟩ := hcut
  obtain ⟨gc0, gc1, gc2, gc3, gc4, gc5, gc6, gc7, gc8, gc9, gc10, gc11, gc12⟩ := blk13t B1.h
  go_upto_region 3 with (fail)
  have hf0 := blk_frozen B3.h 1
  have zc : wc.cell? ⟨g3, 1, none⟩ = some (.bool false) := (blk_cell B3.h 1).trans rfl
  go_cut [] (fun wc => Bx wc g1 74 #[.slice A0 x.f0.length c0, .bool x.f1, .int .i64 x.f2.f0, .int .i64 x.f2.f1, .slice A4 x.f2.f2.length c4, .slice A5 x.f2.f3.length c5, .slice A6 x.f2.f4.length c6, .bool x.f3, .int .i64 x.f4.f0, .int .i64 x.f4.f1, .slice A10 x.f4.f2.length c10, .slice A11 x.f4.f3.length c11, .slice A12 x.f4.f4.length c12] ∧ Bx wc g2 81 #[.slice none 0 0, .bool false, .int .i64 0, .int .i64 0, .slice none 0 0, .slice none 0 0, .slice none 0 0, .bool false, .int .i64 0, .int .i64 0, .slice none 0 0, .slice none 0 0, .slice none 0 0] ∧ Bx wc g3 81 #[v0, .bool x.f1, .int .i64 0, .int .i64 0, .slice none 0 0, .slice none 0 0, .slice none 0 0, .bool false, .int .i64 0, .int .i64 0, .slice none 0 0, .slice none 0 0, .slice none 0 0] ∧ Bw w wc ∧ (Own (Kd.slice 100 k100) wc lo0 hi0 p [v0]))
  case first =>
    as_aux_lemma =>
    go_wp2
    go_meet
    exact ⟨B1.st (by omega), B2.st (by omega), ⟨blk_put B3.h 1 _ rfl⟩, HB.st (by omega), O0.st llo0⟩
  case rest =>
  as_aux_lemma =>
  clear B1 B2 B3 HB O0 hf0 zc gc0 gc1 gc2 gc3 gc4 gc5 gc6 gc7 gc8 gc9 gc10 gc11 gc12
  obtain ⟨B1, B2, B3, HB, O0⟩ := hcut
  obtain ⟨gc0, gc1, gc2, gc3, gc4, gc5, gc6, gc7, gc8, gc9, gc10, gc11, gc12⟩ := blk13t B1.h
  go_upto_region 4 with (fail)
  go_cut [] (fun wc => ∃ (v4 : Value) (v5 : Value) (v6 : Value) (lo1 hi1 : Nat), g3 < lo1 ∧ Bx wc g1 74 #[.slice A0 x.f0.length c0, .bool x.f1, .int .i64 x.f2.f0, .int .i64 x.f2.f1, .slice A4 x.f2.f2.length c4, .slice A5 x.f2.f3.length c5, .slice A6 x.f2.f4.length c6, .bool x.f3, .int .i64 x.f4.f0, .int .i64 x.f4.f1, .slice A10 x.f4.f2.length c10, .slice A11 x.f4.f3.length c11, .slice A12 x.f4.f4.length c12] ∧ Bx wc g2 81 #[.slice none 0 0, .bool false, .int .i64 0, .int .i64 0, .slice none 0 0, .slice none 0 0, .slice none 0 0, .bool false, .int .i64 0, .int .i64 0, .slice none 0 0, .slice none 0 0, .slice none 0 0] ∧ Bx wc g3 81 #[v0, .bool x.f1, .int .i64 t1, .int .i64 t2, v4, v5, v6, .bool false, .int .i64 0, .int .i64 0, .slice none 0 0, .slice none 0 0, .slice none 0 0] ∧ Bw w wc ∧ (Own (Kd.slice 100 k100) wc lo0 hi0 p [v0]) ∧ (Own (Kd.slice 5 (Kd.int .u8)) wc lo1 hi1 t3 [v4]) ∧ (Own (Kd.slice 22 (Kd.slice 5 (Kd.int .u8))) wc lo1 hi1 t4 [v5]) ∧ (Own (Kd.slice 79 k79) wc lo1 hi1 t5 [v6]))
  case first =>
    as_aux_lemma =>
    go_wp2_with (first
      | ((with_reducible refine gate_dst (N := 13) rfl ?_); refine gg (some 13) rfl rfl rfl fr92 ?_; refine onc (laws_toValue.calls k _ _ _ _ _ _ _ _ _ _ _ t1 t2 t3 t4 t5 _ (cb G4) L4.out (cb G5) L5.out (cb G6) L6.out A2.out) rfl ?_; rintro e9 w9 ⟨va, vb, vc, rfl, ho1, ho2, ho3, hb⟩; obtain ⟨Aa, ca, ea⟩ := Kd.R_slice ho1; subst ea; obtain ⟨Ab, cb_, eb⟩ := Kd.S_slice ho2; subst eb; obtain ⟨Ac, cc, ec⟩ := Kd.R_slice ho3; subst ec; refine ⟨_, rfl, ?_⟩; have lo := B3.lt; have N1 := own_R ho1 hb.size; have N2 := own_R (Kd.S_R ho2) hb.size; have N3 := own_R ho3 hb.size; replace O0 := O0.b hb; replace B1 := B1.b hb; replace B2 := B2.b hb; replace B3 := B3.b hb; replace HB := Bw.sw w hb; clear hb ho1 ho2 ho3 gc0 gc1 gc2 gc3 gc4 gc5 gc6 gc7 gc8 gc9 gc10 gc11 gc12; obtain ⟨gc0, gc1, gc2, gc3, gc4, gc5, gc6, gc7, gc8, gc9, gc10, gc11, gc12⟩ := blk13t B1.h)
      | ((with_reducible refine gate_store (t := 79) (p := 14) (v := .tmp 13) rfl ?_); refine stf (bs := #[.int .i64 t1, .int .i64 t2, .slice Aa t3.length ca, .slice Ab t4.length cb_, .slice Ac t5.length cc]) (cs' := #[v0, .bool x.f1, .int .i64 t1, .int .i64 t2, .slice Aa t3.length ca, .slice Ab t4.length cb_, .slice Ac t5.length cc, .bool false, .int .i64 0, .int .i64 0, .slice none 0 0, .slice none 0 0, .slice none 0 0]) rfl rfl rfl rfl rfl (by kernel_rfl) (by simp [Value.oneCell']) B3 (by simp) rfl ?_; intro w7 B3n ho_; replace B1 := B1.mv ho_ (.inl (by omega)); replace B2 := B2.mv ho_ (.inl (by omega)); replace O0 := O0.mv ho_ (.inr llo0); replace N1 := N1.mv ho_ (.inr lo); replace N2 := N2.mv ho_ (.inr lo); replace N3 := N3.mv ho_ (.inr lo); replace HB := Bw.mk (w := w) (ho_.below HB.out (by omega)); clear gc0 gc1 gc2 gc3 gc4 gc5 gc6 gc7 gc8 gc9 gc10 gc11 gc12; obtain ⟨gc0, gc1, gc2, gc3, gc4, gc5, gc6, gc7, gc8, gc9, gc10, gc11, gc12⟩ := blk13t B1.h; clear B3; have B3 := B3n; clear B3n))
    go_meet
    exact ⟨_, _, _, _, _, lo, B1, B2, B3, HB, O0, N1, N2, N3⟩
  case rest =>
  as_aux_lemma =>
  clear B1 B2 B3 HB O0 gc0 gc1 gc2 gc3 gc4 gc5 gc6 gc7 gc8 gc9 gc10 gc11 gc12
  obtain ⟨v4, v5, v6, lo1, hi1, llo1, B1, B2, B3, HB, O0, O1, O2, O3⟩ := hcut
  obtain ⟨gc0, gc1, gc2, gc3, gc4, gc5, gc6, gc7, gc8, gc9, gc10, gc11, gc12⟩ := blk13t B1.h
  go_upto_region 5 with (fail)
  have hf0 := blk_frozen B3.h 7
  have zc : wc.cell? ⟨g3, 7, none⟩ = some (.bool false) := (blk_cell B3.h 7).trans rfl
  go_cut [] (fun wc => Bx wc g1 74 #[.slice A0 x.f0.length c0, .bool x.f1, .int .i64 x.f2.f0, .int .i64 x.f2.f1, .slice A4 x.f2.f2.length c4, .slice A5 x.f2.f3.length c5, .slice A6 x.f2.f4.length c6, .bool x.f3, .int .i64 x.f4.f0, .int .i64 x.f4.f1, .slice A10 x.f4.f2.length c10, .slice A11 x.f4.f3.length c11, .slice A12 x.f4.f4.length c12] ∧ Bx wc g2 81 #[.slice none 0 0, .bool false, .int .i64 0, .int .i64 0, .slice none 0 0, .slice none 0 0, .slice none 0 0, .bool false, .int .i64 0, .int .i64 0, .slice none 0 0, .slice none 0 0, .slice none 0 0] ∧ Bx wc g3 81 #[v0, .bool x.f1, .int .i64 t1, .int .i64 t2, v4, v5, v6, .bool x.f3, .int .i64 0, .int .i64 0, .slice none 0 0, .slice none 0 0, .slice none 0 0] ∧ Bw w wc ∧ (Own (Kd.slice 100 k100) wc lo0 hi0 p [v0]) ∧ (Own (Kd.slice 5 (Kd.int .u8)) wc lo1 hi1 t3 [v4]) ∧ (Own (Kd.slice 22 (Kd.slice 5 (Kd.int .u8))) wc lo1 hi1 t4 [v5]) ∧ (Own (Kd.slice 79 k79) wc lo1 hi1 t5 [v6]))
  case first =>
    as_aux_lemma =>
    go_wp2
    go_meet
    exact ⟨B1.st (by omega), B2.st (by omega), ⟨blk_put B3.h 7 _ rfl⟩, HB.st (by omega), O0.st llo0, O1.st llo1, O2.st llo1, O3.st llo1⟩
  case rest =>
  as_aux_lemma =>
  clear B1 B2 B3 HB O0 O1 O2 O3 hf0 zc gc0 gc1 gc2 gc3 gc4 gc5 gc6 gc7 gc8 gc9 gc10 gc11 gc12
  obtain ⟨B1, B2, B3, HB, O0, O1, O2, O3⟩ := hcut
  obtain ⟨gc0, gc1, gc2, gc3, gc4, gc5, gc6, gc7, gc8, gc9, gc10, gc11, gc12⟩ := blk13t B1.h
  go_upto_region 6 with (fail)
  go_cut [] (fun wc => ∃ (v10 : Value) (v11 : Value) (v12 : Value) (lo2 hi2 : Nat), g3 < lo2 ∧ Bx wc g1 74 #[.slice A0 x.f0.length c0, .bool x.f1, .int .i64 x.f2.f0, .int .i64 x.f2.f1, .slice A4 x.f2.f2.length c4, .slice A5 x.f2.f3.length c5, .slice A6 x.f2.f4.length c6, .bool x.f3, .int .i64 x.f4.f0, .int .i64 x.f4.f1, .slice A10 x.f4.f2.length c10, .slice A11 x.f4.f3.length c11, .slice A12 x.f4.f4.length c12] ∧ Bx wc g2 81 #[.slice none 0 0, .bool false, .int .i64 0, .int .i64 0, .slice none 0 0, .slice none 0 0, .slice none 0 0, .bool false, .int .i64 0, .int .i64 0, .slice none 0 0, .slice none 0 0, .slice none 0 0] ∧ Bx wc g3 81 #[v0, .bool x.f1, .int .i64 t1, .int .i64 t2, v4, v5, v6, .bool x.f3, .int .i64 q1, .int .i64 q2, v10, v11, v12] ∧ Bw w wc ∧ (Own (Kd.slice 100 k100) wc lo0 hi0 p [v0]) ∧ (Own (Kd.slice 5 (Kd.int .u8)) wc lo1 hi1 t3 [v4]) ∧ (Own (Kd.slice 22 (Kd.slice 5 (Kd.int .u8))) wc lo1 hi1 t4 [v5]) ∧ (Own (Kd.slice 79 k79) wc lo1 hi1 t5 [v6]) ∧ (Own (Kd.slice 5 (Kd.int .u8)) wc lo2 hi2 q3 [v10]) ∧ (Own (Kd.slice 22 (Kd.slice 5 (Kd.int .u8))) wc lo2 hi2 q4 [v11]) ∧ (Own (Kd.slice 79 k79) wc lo2 hi2 q5 [v12]))
  case first =>
    as_aux_lemma =>
    go_wp2_with (first
      | ((with_reducible refine gate_dst (N := 20) rfl ?_); refine gg (some 20) rfl rfl rfl fr92 ?_; refine onc (laws_toValue.calls k _ _ _ _ _ _ _ _ _ _ _ q1 q2 q3 q4 q5 _ (cb G10) L10.out (cb G11) L11.out (cb G12) L12.out A3.out) rfl ?_; rintro e9 w9 ⟨va, vb, vc, rfl, ho1, ho2, ho3, hb⟩; obtain ⟨Aa, ca, ea⟩ := Kd.R_slice ho1; subst ea; obtain ⟨Ab, cb_, eb⟩ := Kd.S_slice ho2; subst eb; obtain ⟨Ac, cc, ec⟩ := Kd.R_slice ho3; subst ec; refine ⟨_, rfl, ?_⟩; have lo := B3.lt; have N1 := own_R ho1 hb.size; have N2 := own_R (Kd.S_R ho2) hb.size; have N3 := own_R ho3 hb.size; replace O0 := O0.b hb; replace O1 := O1.b hb; replace O2 := O2.b hb; replace O3 := O3.b hb; replace B1 := B1.b hb; replace B2 := B2.b hb; replace B3 := B3.b hb; replace HB := Bw.sw w hb; clear hb ho1 ho2 ho3 gc0 gc1 gc2 gc3 gc4 gc5 gc6 gc7 gc8 gc9 gc10 gc11 gc12; obtain ⟨gc0, gc1, gc2, gc3, gc4, gc5, gc6, gc7, gc8, gc9, gc10, gc11, gc12⟩ := blk13t B1.h)
      | ((with_reducible refine gate_store (t := 79) (p := 21) (v := .tmp 20) rfl ?_); refine stf (bs := #[.int .i64 q1, .int .i64 q2, .slice Aa q3.length ca, .slice Ab q4.length cb_, .slice Ac q5.length cc]) (cs' := #[v0, .bool x.f1, .int .i64 t1, .int .i64 t2, v4, v5, v6, .bool x.f3, .int .i64 q1, .int .i64 q2, .slice Aa q3.length ca, .slice Ab q4.length cb_, .slice Ac q5.length cc]) rfl rfl rfl rfl rfl (by kernel_rfl) (by simp [Value.oneCell']) B3 (by simp) rfl ?_; intro w7 B3n ho_; replace B1 := B1.mv ho_ (.inl (by omega)); replace B2 := B2.mv ho_ (.inl (by omega)); replace O0 := O0.mv ho_ (.inr llo0); replace O1 := O1.mv ho_ (.inr llo1); replace O2 := O2.mv ho_ (.inr llo1); replace O3 := O3.mv ho_ (.inr llo1); replace N1 := N1.mv ho_ (.inr lo); replace N2 := N2.mv ho_ (.inr lo); replace N3 := N3.mv ho_ (.inr lo); replace HB := Bw.mk (w := w) (ho_.below HB.out (by omega)); clear gc0 gc1 gc2 gc3 gc4 gc5 gc6 gc7 gc8 gc9 gc10 gc11 gc12; obtain ⟨gc0, gc1, gc2, gc3, gc4, gc5, gc6, gc7, gc8, gc9, gc10, gc11, gc12⟩ := blk13t B1.h; clear B3; have B3 := B3n; clear B3n))
    go_meet
    exact ⟨_, _, _, _, _, lo, B1, B2, B3, HB, O0, O1, O2, O3, N1, N2, N3⟩
  case rest =>
  as_aux_lemma =>
  clear B1 B2 B3 HB O0 O1 O2 O3 gc0 gc1 gc2 gc3 gc4 gc5 gc6 gc7 gc8 gc9 gc10 gc11 gc12
  obtain ⟨v10, v11, v12, lo2, hi2, llo2, B1, B2, B3, HB, O0, O1, O2, O3, O4, O5, O6⟩ := hcut
  obtain ⟨gc0, gc1, gc2, gc3, gc4, gc5, gc6, gc7, gc8, gc9, gc10, gc11, gc12⟩ := blk13t B1.h
  obtain ⟨a0A, a0c, a0e⟩ := own_sl O0; subst a0e
  obtain ⟨a4A, a4c, a4e⟩ := own_sl O1; subst a4e
  obtain ⟨a5A, a5c, a5e⟩ := own_sl O2; subst a5e
  obtain ⟨a6A, a6c, a6e⟩ := own_sl O3; subst a6e
  obtain ⟨a10A, a10c, a10e⟩ := own_sl O4; subst a10e
  obtain ⟨a11A, a11c, a11e⟩ := own_sl O5; subst a11e
  obtain ⟨a12A, a12c, a12e⟩ := own_sl O6; subst a12e
  clear gc0 gc1 gc2 gc3 gc4 gc5 gc6 gc7 gc8 gc9 gc10 gc11 gc12
  go_wp2_with (first
    | ((with_reducible refine gate_dst (N := 22) rfl ?_); refine ldb (bs := #[.slice a0A p.length a0c, .bool x.f1, .int .i64 t1, .int .i64 t2, .slice a4A t3.length a4c, .slice a5A t4.length a5c, .slice a6A t5.length a6c, .bool x.f3, .int .i64 q1, .int .i64 q2, .slice a10A q3.length a10c, .slice a11A q4.length a11c, .slice a12A q5.length a12c]) (some 22) rfl rfl rfl rfl B3 ⟨⟨_, Try.underlying81⟩, by kernel_rfl⟩ ?_; simp only [Act.put, List.setIfInBounds_toArray, List.set_cons_zero, List.set_cons_succ])
    | ((with_reducible refine gate_store (t := 81) (p := 2) (v := .tmp 22) rfl ?_); refine stf (bs := #[.slice a0A p.length a0c, .bool x.f1, .int .i64 t1, .int .i64 t2, .slice a4A t3.length a4c, .slice a5A t4.length a5c, .slice a6A t5.length a6c, .bool x.f3, .int .i64 q1, .int .i64 q2, .slice a10A q3.length a10c, .slice a11A q4.length a11c, .slice a12A q5.length a12c]) (cs' := #[.slice a0A p.length a0c, .bool x.f1, .int .i64 t1, .int .i64 t2, .slice a4A t3.length a4c, .slice a5A t4.length a5c, .slice a6A t5.length a6c, .bool x.f3, .int .i64 q1, .int .i64 q2, .slice a10A q3.length a10c, .slice a11A q4.length a11c, .slice a12A q5.length a12c]) rfl rfl rfl rfl rfl (by kernel_rfl) (by simp [Value.oneCell']) B2 (by simp) rfl ?_; intro w7 B2n ho_; replace O0 := O0.mv ho_ (.inr (by omega)); replace O1 := O1.mv ho_ (.inr (by omega)); replace O2 := O2.mv ho_ (.inr (by omega)); replace O3 := O3.mv ho_ (.inr (by omega)); replace O4 := O4.mv ho_ (.inr (by omega)); replace O5 := O5.mv ho_ (.inr (by omega)); replace O6 := O6.mv ho_ (.inr (by omega)); replace HB := Bw.mk (w := w) (ho_.below HB.out (by omega)); clear B1 B2 B3 ho_))
  refine bodyPost_ret (results_cell_row rfl _ _ g2 81 #[.slice a0A p.length a0c, .bool x.f1, .int .i64 t1, .int .i64 t2, .slice a4A t3.length a4c, .slice a5A t4.length a5c, .slice a6A t5.length a6c, .bool x.f3, .int .i64 q1, .int .i64 q2, .slice a10A q3.length a10c, .slice a11A q4.length a11c, .slice a12A q5.length a12c] (0, 0) _ rfl B2n.h Try.underlying81 rfl (by kernel_rfl)) rfl ?_
  exact ⟨_, rfl, Own.of (k81_mkM _ w.heap.size (fun _ => True) _ (own_lo O0 (by omega)) (own_lo O1 (by omega)) (own_lo O2 (by omega)) (own_lo O3 (by omega)) (own_lo O4 (by omega)) (own_lo O5 (by omega)) (own_lo O6 (by omega))) HB.out.size, bw⟩
theorem stg {P : Program} {ops : Array Oper} {Q : Exit → Act → World → Prop} {rest : List Oper} {oi : Oper} {a : Act} {w : World} {bs : Array Value} {t g n0 : Nat} {p x : Operand} (hd : oi.dst = none) (hg : oi.guard = none) (ho : oi.op = .store t p x) (hp : a.eval p = .pointer (some ⟨g, n0, none⟩)) (hx : a.eval x = .agg bs)
    (hz : (P.info? t).map (·.size) = some bs.size) (h1 : ∀ v ∈ bs.toList, v.oneCell' = true) (hc : ∀ j, j < bs.size → (w.cell? ⟨g, n0 + j, none⟩).isSome = true) (hf : ∀ j, w.frozen? ⟨g, n0 + j, none⟩ = false)
    (k : wpList P ops Q rest a (w.setCells g n0 bs.toList)) : wpList P ops Q (oi :: rest) a w := by
  refine wpList_plain hg fun K hK => ?_
  have hs := run_storeCells_cells (P := P) g n0 bs.toList 0 w (fun j hj => by rw [Nat.add_zero]; exact hc j (by simpa using hj)) (fun j _ => by rw [Nat.add_zero]; exact hf j) h1
  rw [Nat.add_zero] at hs
  have hrun : (execOp a.eval oi).run P w = .ok .skip (w.setCells g n0 bs.toList) := by
    have hv : (storeVar t ⟨g, n0, none⟩ (.agg bs)).run P w = .ok () (w.setCells g n0 bs.toList) := by
      cases hq : P.info? t with
      | none => simp [hq] at hz
      | some i =>
        have hs2 : bs.size = i.size := by simp [hq] at hz; omega
        simp [storeVar, sizeOf, typeInfo, hq, Value.cells, hs2, hs]
    unfold execOp
    simp only [ho, hp, hx, Instr.storeAt, Instr.sureAddr, Sem.run_bind, Sem.run_pure, Result.andThen_ok, hv]
  unfold Oper.wp
  rw [hrun, Oper.upon_skip, hd]
  exact hK _ _ k
theorem out_setCells (w : World) (g o : Nat) (vs : List Value) : M.Outside g (g + 1) w (w.setCells g o vs) := by
  obtain ⟨s1, s2, s3, s4⟩ := setCells_same g vs o w
  exact ⟨s1, s2, s3, Nat.le_of_eq s4.symm, fun k hk ho => setCells_far vs o k (by omega)⟩
def laws_toChangeS.r : Nat → List S74 → List S81 → Nat → Option (List S81)
  | 0, _, _, _ => none
  | k + 1, l, out, i => if i < l.length then (laws_toChange.g k (rd_T74 l (i : Int))).bind fun y => laws_toChangeS.r k l (out.set i y) (i + 1) else some out
def laws_toChangeS.f (k : Nat) (l : List S74) : Option (List S81) := if l.length ≤ 1048576 then laws_toChangeS.r k l (List.replicate l.length z81) 0 else none
set_option maxHeartbeats 8000000 in
set_option maxRecDepth 100000 in
theorem laws_toChangeS.calls (k : Nat) (A0 : Option Addr) (c0 : Nat) (l0 : List (S74)) (r : List (S81)) (w : World) (hr0 : Kd.C k74 w A0 l0.length l0) (hc0 : l0.length ≤ c0) (h : laws_toChangeS.f k l0 = some r) :
    Calls Try.prog 23 #[.slice A0 l0.length c0] w fun e w' => ∃ v0_ : Value, e = .returned (v0_) ∧ Kd.R k81 81 w' w.heap.size (fun _ => True) v0_ r ∧ Below w.heap.size w w' := by
  have HR0 := Aside0.mk hr0
  clear hr0 hc0
  have HB := Bw.refl w
  unfold laws_toChangeS.f at h
  by_cases hln : l0.length ≤ 1048576
  case neg => rw [if_neg hln] at h; cases h
  rw [if_pos hln] at h
  have H' := Aside0.mk h
  have HLN := Aside0.mk hln
  have c3b0 : decide (0 ≤ (l0.length : Int)) = true := decide_eq_true (by omega)
  clear h hln
  go_enter Try.func23, Try.ntmps23
  go_wp2_with ((with_reducible refine gate_dst (N := 7) rfl ?_); refine Kd.R_make k81 _ 81 rfl (N := 7) rfl 40 _ _ rfl (l0.length : Int) rfl rfl Try.underlying40 (.agg #[.slice none 0 0, .bool false, .int .i64 0, .int .i64 0, .slice none 0 0, .slice none 0 0, .slice none 0 0, .bool false, .int .i64 0, .int .i64 0, .slice none 0 0, .slice none 0 0, .slice none 0 0]) 216 info81 rfl (by decide) (by omega) z81 (ok := fun _ => True) (okp := fun _ => True) (k81_mkM _ _ _ z81 (Kd.R_nil _ _ _ _ _) (Kd.R_nil _ _ _ _ _) (Kd.R_nil _ _ _ _ _) (Kd.R_nil _ _ _ _ _) (Kd.R_nil _ _ _ _ _) (Kd.R_nil _ _ _ _ _) (Kd.R_nil _ _ _ _ _)) (fun _ hk => hk) trivial (by omega) (by have := HLN.out; rw [Int.toNat_natCast]; omega) (Below.refl _ _) (Nat.le_refl _) ?_; intro v7 w4 ho5 hb hg_ hnew_; clear hg_ hnew_; rw [Int.toNat_natCast] at ho5; have HO := Aside0.mk (Kd.R_lower ho5 (bzz w)); replace HB := Bw.sw w hb; clear hb ho5)
  go_loopg [4] k (fun kq v4 w' => ∃ (out : List S81) (i : Nat), i ≤ l0.length ∧ out.length = l0.length ∧ v4 = .int .i64 (i : Int) ∧ Aside0 (laws_toChangeS.r kq l0 out i = some r) ∧ Aside0 (kq ≤ k) ∧ Aside0 (Kd.R k81 81 w' w.heap.size (fun _ => True) v7 out) ∧ Bw w w')
  case atStart => exact ⟨_, 0, Nat.zero_le _, List.length_replicate .., rfl, H', ⟨Nat.le_refl _⟩, HO, ⟨bw⟩⟩
  case round =>
    as_aux_lemma =>
    clear H' HO c3b0
    obtain ⟨out, i, hil, hol, rfl, HA, HK1, HO, HB⟩ := hrel
    cases gk with
    | zero => exact absurd HA.out (by simp [laws_toChangeS.r])
    | succ k1 =>
      have H := HA.out
      clear HA
      rw [laws_toChangeS.r] at H
      by_cases hlt : i < l0.length
      case neg =>
        rw [if_neg hlt] at H
        obtain rfl := Option.some.inj H
        have c2b0 : ((i : Int) < (l0.length : Int)) = False := eq_false (by omega)
        clear H
        go_wp2
        go_ret
        exact ⟨_, rfl, HO.out, bw⟩
      rw [if_pos hlt] at H
      have h9 := bnd H
      clear H
      obtain ⟨y, ha, H⟩ := h9
      have hlm := HLN.out
      have c2b0 : ((i : Int) < (l0.length : Int)) = True := eq_true (by omega)
      have c2b1 : ((i : Int) < (out.length : Int)) = True := eq_true (by omega)
      have p126 : (0 ≤ (i : Int)) = True := eq_true (by omega)
      have w3 : wrap64 ((i : Int) + 1) = (i : Int) + 1 := w64 (by omega) (by omega)
      obtain ⟨ad, A0, c0, A4, c4, A5, c5, A6, c6, A10, c10, A11, c11, A12, c12, eA, x0_, x1_, x2_, x3_, x4_, x5_, x6_, x7_, x8_, x9_, x10_, x11_, x12_, m0, g0, m4, g4, m5, g5, m6, g6, m10, g10, m11, g11, m12, g12⟩ := at_T74 HR0.out (i : Int) (by omega) (by omega)
      subst eA
      replace x0_ := (HB.out.cell (World.block_lt_of_cell? w _ x0_)).trans x0_
      replace x1_ := (HB.out.cell (World.block_lt_of_cell? w _ x1_)).trans x1_
      replace x2_ := (HB.out.cell (World.block_lt_of_cell? w _ x2_)).trans x2_
      replace x3_ := (HB.out.cell (World.block_lt_of_cell? w _ x3_)).trans x3_
      replace x4_ := (HB.out.cell (World.block_lt_of_cell? w _ x4_)).trans x4_
      replace x5_ := (HB.out.cell (World.block_lt_of_cell? w _ x5_)).trans x5_
      replace x6_ := (HB.out.cell (World.block_lt_of_cell? w _ x6_)).trans x6_
      replace x7_ := (HB.out.cell (World.block_lt_of_cell? w _ x7_)).trans x7_
      replace x8_ := (HB.out.cell (World.block_lt_of_cell? w _ x8_)).trans x8_
      replace x9_ := (HB.out.cell (World.block_lt_of_cell? w _ x9_)).trans x9_
      replace x10_ := (HB.out.cell (World.block_lt_of_cell? w _ x10_)).trans x10_
      replace x11_ := (HB.out.cell (World.block_lt_of_cell? w _ x11_)).trans x11_
      replace x12_ := (HB.out.cell (World.block_lt_of_cell? w _ x12_)).trans x12_
      simp only [Int.toNat_natCast] at x0_ x1_ x2_ x3_ x4_ x5_ x6_ x7_ x8_ x9_ x10_ x11_ x12_
      have R0 := Aside0.mk (k74_mk w (rd_T74 l0 (i : Int)) m0 g0 m4 g4 m5 g5 m6 g6 m10 g10 m11 g11 m12 g12)
      obtain ⟨x, hx⟩ : ∃ z, z = rd_T74 l0 (i : Int) := ⟨_, rfl⟩
      rw [← hx] at R0 ha x0_ x1_ x2_ x3_ x4_ x5_ x6_ x7_ x8_ x9_ x10_ x11_ x12_
      have HA := Aside0.mk ha
      have H' := Aside0.mk H
      have HI := Aside0.mk hlt
      have HOL := Aside0.mk hol
      obtain ⟨g, cap, eg, hbg, hgl, cells, hg⟩ := Kd.R_form HO.out (by omega)
      subst eg
      have HBG := Aside0.mk hbg
      have HGL := Aside0.mk hgl
      clear hx ha H hlm hbg hgl hg hlt hol m0 g0 m4 g4 m5 g5 m6 g6 m10 g10 m11 g11 m12 g12
      go_wp2_with (first
        | ((with_reducible refine gg (f := 57) (some 20) rfl rfl rfl fr57 ?_); refine onc (laws_toChange.kc k1 x y #[.slice A0 x.f0.length c0, .bool x.f1, .int .i64 x.f2.f0, .int .i64 x.f2.f1, .slice A4 x.f2.f2.length c4, .slice A5 x.f2.f3.length c5, .slice A6 x.f2.f4.length c6, .bool x.f3, .int .i64 x.f4.f0, .int .i64 x.f4.f1, .slice A10 x.f4.f2.length c10, .slice A11 x.f4.f3.length c11, .slice A12 x.f4.f4.length c12] _ ⟨k74.K_below HB.out R0.out⟩ HA.out) rfl ?_; rintro e9 w9 ⟨b20, rfl, ho, hb⟩; refine ⟨_, rfl, ?_⟩; have lo := HGL.out; have lw := HB.out.size; replace HO := Aside0.mk (Kd.R_below HO.out hb); have OY := ho; replace HB := Bw.sw w hb; clear hb ho x0_ x1_ x2_ x3_ x4_ x5_ x6_ x7_ x8_ x9_ x10_ x11_ x12_)
        | ((with_reducible refine gate_store (t := 81) (p := 21) (v := .tmp 20) rfl ?_); obtain ⟨ce, hcl, hM, hcc, hfr⟩ := Kd.R_elem HO.out z81 (i : Int) (by omega) (by have := HOL.out; have := HI.out; omega); have hsz : k81.sz = 13 := rfl; have hbl := k81.K_len (k81.K_of_M OY.m); rw [hsz] at hbl; have hcl2 := hcl; rw [hsz] at hcl2; refine stg (g := g) (n0 := i * 13) (bs := b20) rfl rfl rfl rfl rfl ?hz (k81.K_one (k81.K_of_M OY.m)) ?hc ?hf ?_; (case hz => rw [show b20.size = 13 by simpa using hbl]; kernel_rfl); (case hc => intro j hj; have hj2 : j < ce.length := (by rw [hcl2]; have : b20.size = 13 := (by simpa using hbl); omega); have h9 := hcc j ce[j] (List.getElem?_eq_getElem hj2); rw [hsz, Int.toNat_natCast] at h9; rw [h9]; rfl); (case hf => intro j; have h9 := hfr j; rw [hsz, Int.toNat_natCast] at h9; exact h9); have hR := (Kd.R_seg HO.out (i : Int) (by omega) (by have := HOL.out; have := HI.out; omega) (c := ce) (seg := b20.toList) (j := 0) (x' := y) (okp := fun z => w.heap.size ≤ z ∧ z ≠ g) hcl hcc (by rw [hsz, hbl]; omega) (by rw [List.take_zero, List.nil_append, List.drop_eq_nil_of_le (by omega), List.append_nil]; exact k81.M_mono (fun z hz => ⟨by have := hz.1; omega, by have := hz.1; omega⟩) (k81.M_lower (by omega) OY.m)) (fun z hz => ⟨trivial, hz.2⟩)).1; rw [hsz, Int.toNat_natCast, Nat.add_zero] at hR; have HOn := Aside0.mk hR; replace HB := Bw.mk (w := w) ((out_setCells _ g (i * 13) b20.toList).below HB.out HBG.out); clear hR hcl hM hcc hfr hcl2 hbl hsz))
      go_roundg k1
      case rel => exact ⟨out.set i y, i + 1, by have := HI.out; omega, by rw [List.length_set]; exact HOL.out, by first | (rw [w3]; rfl) | go_num, H', ⟨by have := HK1.out; omega⟩, HOn, ⟨bw⟩⟩
      case measure => have := HK1.out; omega
end Go.Proofs.Ytockllljeeakaaa.PFnExactChangesOk
