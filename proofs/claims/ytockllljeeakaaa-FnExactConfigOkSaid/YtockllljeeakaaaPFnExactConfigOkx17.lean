/- What a function comes to, walked by hand. No condition. -/
import Derived.Test.YtockllljeeakaaaPFnExactConfigOkx0
import Derived.Test.YtockllljeeakaaaPFnExactConfigOkx9
import Derived.Test.YtockllljeeakaaaPFnExactConfigOkx13
import Derived.Test.YtockllljeeakaaaMlaw
import Derived.Test.YtockllljeeakaaaMcore
namespace Go.Proofs.Ytockllljeeakaaa.PFnExactConfigOk
open Go.RowKit Go.Proofs.YtockllljeeakaaaW.PrintWords Go.Proofs.YtockllljeeakaaaW.PrintLast Go.Proofs.YtockllljeeakaaaW.PrintMore Go.Proofs.Ytockllljeeakaaa.M
attribute [local go_sem] max2_int min2_int max_two min_two max_three min_three max_four min_four Go.Proofs.Ytockllljeeakaaa.M.str_gtr Go.Proofs.Ytockllljeeakaaa.M.str_leq Go.Proofs.Ytockllljeeakaaa.M.str_geq   -- for this text's walks alone
set_option linter.unusedVariables false
set_option linter.unusedSimpArgs false
def bytes_Equal.f (l0 : List Int) (l1 : List Int) : Option (Bool) := some ((strOfNums l0).toList == (strOfNums l1).toList)
set_option maxHeartbeats 8000000 in
set_option maxRecDepth 100000 in
theorem bytes_Equal.calls (A0 : Option Addr) (c0 : Nat) (l0 : List Int) (A1 : Option Addr) (c1 : Nat) (l1 : List Int) (r : Bool) (w : World) (hr0 : Kd.C (Kd.int .u8) w A0 l0.length l0) (hc0 : l0.length ≤ c0) (hr1 : Kd.C (Kd.int .u8) w A1 l1.length l1) (hc1 : l1.length ≤ c1) (h : bytes_Equal.f l0 l1 = some r) :
  Calls Try.prog 87 #[.slice A0 l0.length c0, .slice A1 l1.length c1] w fun e w' => e = .returned (.bool r) ∧ Drawn0 w w' := by
 have HR0 := Aside0.mk hr0
 have HC0 := Aside0.mk hc0
 clear hr0 hc0
 have HR1 := Aside0.mk hr1
 have HC1 := Aside0.mk hc1
 clear hr1 hc1
 have H : (some ((strOfNums l0).toList == (strOfNums l1).toList)) = some r := h
 clear h
 obtain rfl := Option.some.inj H
 have hcv3d := fun (a_ : Nat) => Kd.C_string (P := Try.prog) (A := A0) (c := c0) Try.underlying22 Try.underlying5 Try.underlying9 (Kd.C_drewN HR0.out a_)
 have hcv3 := Kd.C_string (P := Try.prog) (A := A0) (c := c0) Try.underlying22 Try.underlying5 Try.underlying9 HR0.out
 have hcv4d := fun (a_ : Nat) => Kd.C_string (P := Try.prog) (A := A1) (c := c1) Try.underlying22 Try.underlying5 Try.underlying9 (Kd.C_drewN HR1.out a_)
 have hcv4 := Kd.C_string (P := Try.prog) (A := A1) (c := c1) Try.underlying22 Try.underlying5 Try.underlying9 HR1.out
 go_enter Try.func87, Try.ntmps87
 go_wp2
 go_ret
 exact ⟨by first | rfl | (simp; done) | (simp [*]; done), by repeat (first | exact Drawn0.refl _ | apply Drawn0.step)⟩
theorem blk10 {w : World} {g t : Nat} {u0 u1 u2 u3 u4 u5 u6 u7 u8 u9 : Value} (h : w.heap[g]? = some (.cells #[u0, u1, u2, u3, u4, u5, u6, u7, u8, u9] t (0, 0))) : w.cell? ⟨g, 0, none⟩ = some u0 ∧ w.cell? ⟨g, 1, none⟩ = some u1 ∧ w.cell? ⟨g, 2, none⟩ = some u2 ∧ w.cell? ⟨g, 3, none⟩ = some u3 ∧ w.cell? ⟨g, 4, none⟩ = some u4 ∧ w.cell? ⟨g, 5, none⟩ = some u5 ∧ w.cell? ⟨g, 6, none⟩ = some u6 ∧ w.cell? ⟨g, 7, none⟩ = some u7 ∧ w.cell? ⟨g, 8, none⟩ = some u8 ∧ w.cell? ⟨g, 9, none⟩ = some u9 := ⟨(blk_cell h 0).trans rfl, (blk_cell h 1).trans rfl, (blk_cell h 2).trans rfl, (blk_cell h 3).trans rfl, (blk_cell h 4).trans rfl, (blk_cell h 5).trans rfl, (blk_cell h 6).trans rfl, (blk_cell h 7).trans rfl, (blk_cell h 8).trans rfl, (blk_cell h 9).trans rfl⟩
theorem run_mk (P : Program) (fn : Fn) (first cap : Array Value) (w : World) : (Instr.makeFunc fn first cap).run P w = .ok (.func fn first cap) w := rfl
theorem events_mk (P : Program) (fn : Fn) (first cap : Array Value) (w : World) (es : Array Event) : (Instr.makeFunc fn first cap).events P w es = es := rfl
attribute [local go_sem] run_mk events_mk
/-- Is one item called as the other? -/
def sameI (x o : S94) : Option Bool := if o.f0 = x.f0 then bytes_Equal.f o.f1 x.f1 else some false
def hasI (x : S94) : List S94 → Option Bool
  | [] => some false
  | o :: l => (sameI x o).bind fun t => if t = true then some true else hasI x l
theorem hasI_at (x : S94) (l : List S94) (i : Nat) (h : i < l.length) : hasI x (l.drop i) = (sameI x (rd_T94 l (i : Int))).bind fun t => if t = true then some true else hasI x (l.drop (i + 1)) := by
  have e : rd_T94 l (i : Int) = l[i] := by unfold rd_T94; rw [Int.toNat_natCast, List.getD_eq_getElem?_getD, List.getElem?_eq_getElem h]; rfl
  rw [e, List.drop_eq_getElem_cons h, hasI]
theorem frEq : Fr Try.prog 87 := ⟨_, Try.func87, by kernel_rfl, rfl⟩
theorem frCn : Fr Try.prog 106 := ⟨_, Try.func106, by kernel_rfl, rfl⟩
theorem frIt : Fr Try.prog 105 := ⟨_, Try.func105, by kernel_rfl, rfl⟩
theorem frPa : Fr Try.prog 82 := ⟨_, Try.func82, by kernel_rfl, rfl⟩
set_option maxHeartbeats 4000000 in
set_option maxRecDepth 100000 in
theorem isConfig1.calls (x y : S94) (p : Nat) (bx : Array Value) (by_ : Array Value) (r : Bool) (w : World) (hx : Bx w p 94 bx) (kx : k94.K w x bx.toList) (ky : k94.K w y by_.toList) (h : sameI x y = some r) :
    Calls Try.prog 107 #[.agg by_, .pointer (some ⟨p, 0, none⟩)] w fun e w' => e = .returned (.bool r) ∧ Below w.heap.size w w' := by
  obtain ⟨A1, c1, A5, c5, A6, c6, A7, c7, A8, c8, A9, c9, ex, m1, g1, m5, g5, m6, g6, m7, g7, m8, g8, m9, g9⟩ := k94_open kx
  obtain ⟨A1_, c1_, A5_, c5_, A6_, c6_, A7_, c7_, A8_, c8_, A9_, c9_, ey, m1_, g1_, m5_, g5_, m6_, g6_, m7_, g7_, m8_, g8_, m9_, g9_⟩ := k94_open ky
  obtain rfl : bx = #[.int .i64 x.f0, .slice A1 x.f1.length c1, .int .i64 x.f2, .int .i64 x.f3.f0, .int .i64 x.f3.f1, .slice A5 x.f3.f2.length c5, .slice A6 x.f3.f3.length c6, .slice A7 x.f3.f4.length c7, .slice A8 x.f4.length c8, .slice A9 x.f5.length c9] := by rw [← bx.toArray_toList, ex]
  obtain rfl : by_ = #[.int .i64 y.f0, .slice A1_ y.f1.length c1_, .int .i64 y.f2, .int .i64 y.f3.f0, .int .i64 y.f3.f1, .slice A5_ y.f3.f2.length c5_, .slice A6_ y.f3.f3.length c6_, .slice A7_ y.f3.f4.length c7_, .slice A8_ y.f4.length c8_, .slice A9_ y.f5.length c9_] := by rw [← by_.toArray_toList, ey]
  have BY := hx
  have HB := Bw.refl w
  have G1 := Aside0.mk g1
  have L1 := Aside0.mk m1
  have G1_ := Aside0.mk g1_
  have L1_ := Aside0.mk m1_
  clear hx kx ky ex ey m1 g1 m5 g5 m6 g6 m7 g7 m8 g8 m9 g9 m1_ g1_ m5_ g5_ m6_ g6_ m7_ g7_ m8_ g8_ m9_ g9_
  unfold sameI at h
  go_enter Try.func107, Try.ntmps107
  go_upto_region 1 with ((with_reducible refine gate_dst (N := 2) rfl ?_); refine bxb 2 rfl rfl rfl rfl ?_; intro gb wb BO hbl hle hlt; replace BY := BY.b hbl; replace HB := Bw.sw w hbl; clear hbl hle hlt; simp only [Act.put, List.setIfInBounds_toArray, List.set_cons_zero, List.set_cons_succ])
  obtain ⟨gc0, gc1, gc2, gc3, gc4, gc5, gc6, gc7, gc8, gc9⟩ := blk10 BY.h
  obtain ⟨hc0, hc1, hc2, hc3, hc4, hc5, hc6, hc7, hc8, hc9⟩ := blk10 BO.h
  by_cases hk : y.f0 = x.f0
  · rw [if_pos hk] at h
    have e0 : (y.f0 == x.f0) = true := beq_iff_eq.mpr hk
    have A := Aside0.mk h
    clear hk h
    go_wp2_with ((with_reducible refine gate_dst (N := 14) rfl ?_); refine ggw (some 14) rfl (by rfl) rfl frEq ?_; refine onc (bytes_Equal.calls _ _ _ _ _ _ _ _ (cb G1_) L1_.out (cb G1) L1.out A.out) rfl ?_; rintro e9 w9 ⟨rfl, hd⟩; have hb := hd.below; refine ⟨_, rfl, ?_⟩; replace HB := Bw.sw w hb; clear hb hd; simp only [Act.put, List.setIfInBounds_toArray, List.set_cons_zero, List.set_cons_succ])
    go_ret
    exact ⟨rfl, bw⟩
  · rw [if_neg hk] at h
    obtain rfl := Option.some.inj h
    have e0 : (y.f0 == x.f0) = false := beq_eq_false_iff_ne.mpr hk
    clear hk h
    go_wp2
    go_ret
    exact ⟨rfl, bw⟩
set_option maxHeartbeats 4000000 in
set_option maxRecDepth 100000 in
theorem idxItem.calls (x : S94) (p : Nat) (bx : Array Value) (A0 : Option Addr) (c0 : Nat) (l0 : List S94) (r : Bool) (w : World) (hx : Bx w p 94 bx) (kx : Rd k94 w x bx.toList) (hr0 : Kd.C k94 w A0 l0.length l0) (hc0 : l0.length ≤ c0) (h : hasI x l0 = some r) :
    Calls Try.prog 140 #[.slice A0 l0.length c0, .func (.func 107) #[] #[.pointer (some ⟨p, 0, none⟩)]] w fun e w' => ∃ n : Int, e = .returned (.int .i64 n) ∧ (0 ≤ n) = (r = true) ∧ Below w.heap.size w w' := by
 have HR0 := Aside0.mk hr0
 have HX := Aside0.mk hx
 have KX := Aside0.mk kx
 have HB := Bw.refl w
 have HLM := Aside0.mk (show l0.length ≤ 9223372036854775807 from hr0.2.1)
 have H' := Aside0.mk (show hasI x (l0.drop 0) = some r by rw [List.drop_zero]; exact h)
 clear hr0 hc0 h hx kx
 go_enter Try.func140, Try.ntmps140
 go_wp2
 go_loopw [8] (fun v8 w' => ∃ i : Nat, i ≤ l0.length ∧ v8 = .int .i64 (i : Int) ∧ Aside0 (hasI x (l0.drop i) = some r) ∧ Bw w w') (fun v8 _ => l0.length - (intOf v8).toNat)
 case atStart => exact ⟨0, Nat.zero_le _, rfl, H', ⟨bw⟩⟩
 case round =>
  clear H'
  obtain ⟨i, hil, rfl, HA, HB⟩ := hrel
  have H := HA.out
  clear HA
  by_cases hlt : i < l0.length
  · rw [hasI_at x l0 i hlt] at H
    have h9 := bnd H
    clear H
    obtain ⟨t, a1, H⟩ := h9
    have p2 : ((i : Int) < (l0.length : Int)) = True := eq_true (by omega)
    have p1 : (0 ≤ (i : Int)) = True := eq_true (by omega)
    have hlm := HLM.out
    obtain ⟨ad, A1, c1, A5, c5, A6, c6, A7, c7, A8, c8, A9, c9, eA, y0_, y1_, y2_, y3_, y4_, y5_, y6_, y7_, y8_, y9_, m1, g1, m5, g5, m6, g6, m7, g7, m8, g8, m9, g9⟩ := at_T94 HR0.out (i : Int) (by omega) (by omega)
    subst eA
    replace y0_ := (HB.out.cell (World.block_lt_of_cell? w _ y0_)).trans y0_
    replace y1_ := (HB.out.cell (World.block_lt_of_cell? w _ y1_)).trans y1_
    replace y2_ := (HB.out.cell (World.block_lt_of_cell? w _ y2_)).trans y2_
    replace y3_ := (HB.out.cell (World.block_lt_of_cell? w _ y3_)).trans y3_
    replace y4_ := (HB.out.cell (World.block_lt_of_cell? w _ y4_)).trans y4_
    replace y5_ := (HB.out.cell (World.block_lt_of_cell? w _ y5_)).trans y5_
    replace y6_ := (HB.out.cell (World.block_lt_of_cell? w _ y6_)).trans y6_
    replace y7_ := (HB.out.cell (World.block_lt_of_cell? w _ y7_)).trans y7_
    replace y8_ := (HB.out.cell (World.block_lt_of_cell? w _ y8_)).trans y8_
    replace y9_ := (HB.out.cell (World.block_lt_of_cell? w _ y9_)).trans y9_
    simp only [Int.toNat_natCast] at y0_ y1_ y2_ y3_ y4_ y5_ y6_ y7_ y8_ y9_
    obtain ⟨y, hy⟩ : ∃ y, y = rd_T94 l0 (i : Int) := ⟨_, rfl⟩
    rw [← hy] at y0_ y1_ y2_ y3_ y4_ y5_ y6_ y7_ y8_ y9_ m1 g1 m5 g5 m6 g6 m7 g7 m8 g8 m9 g9 a1
    have KY := Aside0.mk (show Rd k94 w y [.int .i64 y.f0, .slice A1 y.f1.length c1, .int .i64 y.f2, .int .i64 y.f3.f0, .int .i64 y.f3.f1, .slice A5 y.f3.f2.length c5, .slice A6 y.f3.f3.length c6, .slice A7 y.f3.f4.length c7, .slice A8 y.f4.length c8, .slice A9 y.f5.length c9] from ⟨k94_mk w y m1 g1 m5 g5 m6 g6 m7 g7 m8 g8 m9 g9⟩)
    have A := Aside0.mk a1
    clear m1 g1 m5 g5 m6 g6 m7 g7 m8 g8 m9 g9 a1 hy
    cases t with
    | true =>
      rw [if_pos rfl] at H
      obtain rfl := Option.some.inj H
      clear H
      go_wp2_with (go_at_call 107; refine (isConfig1.calls x y p bx _ true _ (HX.out.b HB.out) (KX.out.b HB.out).k (KY.out.b HB.out).k A.out).mono ?_; rintro e9 w9 ⟨rfl, hb⟩; replace HB := Bw.sw w hb; clear hb)
      go_ret
      exact ⟨(i : Int), rfl, by simp, bw⟩
    | false =>
      rw [if_neg (by decide)] at H
      have H' := Aside0.mk H
      clear H
      go_wp2_with (go_at_call 107; refine (isConfig1.calls x y p bx _ false _ (HX.out.b HB.out) (KX.out.b HB.out).k (KY.out.b HB.out).k A.out).mono ?_; rintro e9 w9 ⟨rfl, hb⟩; replace HB := Bw.sw w hb; clear hb)
      go_roundw
      case rel => exact ⟨i + 1, by omega, by go_num, H', ⟨bw⟩⟩
      case measure => simp [intOf]; omega
  · have hi : i = l0.length := by omega
    subst hi
    rw [List.drop_length, hasI] at H
    obtain rfl := Option.some.inj H
    have p2 : ((l0.length : Int) < (l0.length : Int)) = False := eq_false (by omega)
    clear H
    go_wp2
    go_ret
    exact ⟨-1, rfl, by simp, bw⟩
set_option maxHeartbeats 4000000 in
set_option maxRecDepth 100000 in
theorem hasItem.calls (x : S94) (p : Nat) (bx : Array Value) (A0 : Option Addr) (n c0 : Nat) (l0 : List S94) (r : Bool) (w : World) (hn : l0.length = n) (hx : Bx w p 94 bx) (kx : Rd k94 w x bx.toList) (hr0 : Kd.C k94 w A0 l0.length l0) (hc0 : l0.length ≤ c0) (h : hasI x l0 = some r) :
    Calls Try.prog 106 #[.slice A0 n c0, .func (.func 107) #[] #[.pointer (some ⟨p, 0, none⟩)]] w fun e w' => e = .returned (.bool r) ∧ Below w.heap.size w w' := by
 subst hn
 have HR0 := Aside0.mk hr0
 have HC0 := Aside0.mk hc0
 have HX := Aside0.mk hx
 have KX := Aside0.mk kx
 have HB := Bw.refl w
 have H := Aside0.mk h
 clear hr0 hc0 h hx kx
 go_enter Try.func106, Try.ntmps106
 go_wp2_with (go_at_call 140; refine (idxItem.calls x p bx _ _ l0 r _ (HX.out.b HB.out) (KX.out.b HB.out) (cb HR0) HC0.out H.out).mono ?_; rintro e9 w9 ⟨n, rfl, hq, hb⟩; replace HB := Bw.sw w hb; clear hb)
 go_ret
 exact ⟨by simp [hq], bw⟩
/-- The parts of a row of expressions, told up. -/
def impl_isConfig.p : Nat → List S31 → Int → Nat → Option Int
  | 0, _, _, _ => none
  | k + 1, es, t, j => if j < es.length then (impl_Expr_parts.f k (rd_T31 es (j : Int)).f0 (rd_T31 es (j : Int)).f1 (rd_T31 es (j : Int)).f2 (rd_T31 es (j : Int)).f3 (rd_T31 es (j : Int)).f4).bind fun u => impl_isConfig.p k es (wrap64 (t + u)) (j + 1) else some t
def impl_isConfig.q (k : Nat) (x : S94) (t : Int) : Option Int := (impl_isConfig.p k x.f5 t 0).bind fun u => if x.f2 = 0 then some u else (impl_Expr_parts.f k x.f3.f0 x.f3.f1 x.f3.f2 x.f3.f3 x.f3.f4).bind fun v => some (wrap64 (u + v))
def impl_isConfig.r : Nat → List S94 → Int → Nat → Option Bool
  | 0, _, _, _ => none
  | k + 1, l, t, i =>
    if i < l.length then
      (impl_isItem.f k (rd_T94 l (i : Int)).f0 (rd_T94 l (i : Int)).f1 (rd_T94 l (i : Int)).f2 (rd_T94 l (i : Int)).f3.f0 (rd_T94 l (i : Int)).f3.f1 (rd_T94 l (i : Int)).f3.f2 (rd_T94 l (i : Int)).f3.f3 (rd_T94 l (i : Int)).f3.f4 (rd_T94 l (i : Int)).f4 (rd_T94 l (i : Int)).f5).bind fun o => (hasI (rd_T94 l (i : Int)) (l.take i)).bind fun d =>
      if (!o || d) = true then some false else (impl_isConfig.q k (rd_T94 l (i : Int)) t).bind fun u => impl_isConfig.r k l u (i + 1)
    else some (decide (t ≤ 150))
def impl_isConfig.f (k : Nat) (l : List S94) : Option Bool := if 12 < l.length then some false else impl_isConfig.r k l 0 0
theorem itm_to (A : Option Addr) (n c : Nat) (j : Int) (h0 : 0 ≤ j) (hm : j ≤ n) (hc : n ≤ c) :
    ∀ W : World, (Instr.slice 51 (.slice A n c) none (some (.int .i64 j)) none).run Try.prog W = .ok (.slice A j.toNat c) W := by
  obtain ⟨i9, hi9, _⟩ := info_parts info94
  intro W
  have hel : Try.prog.elem 51 = 94 := by simp [Program.elem, Try.underlying51]
  have hu : Try.prog.underlying 51 = some (.slice (Try.prog.elem 51)) := by rw [hel]; exact Try.underlying51
  have ha : (A.map fun x => x.add 0) = A := by cases A <;> simp [Addr.add]
  rw [run_slice_h W 51 A n c hu .i64 j h0 (by omega), hel]
  simp [sizeOf, typeInfo, hi9, sliced, Result.andThen, ha]
theorem alst2 {P : Program} {ops : Array Oper} {Q : Exit → Act → World → Prop} {rest : List Oper} {oi o1 o2 : Oper} {a : Act} {w : World} {bs cs : Array Value} {t : Nat} {x y : Operand} {v : Value} (N M : Tmp) (hd : oi.dst = some N) (hg : oi.guard = none) (ho : oi.op = .alloc t) (hd1 : o1.dst = some M) (hg1 : o1.guard = none) (ho1 : o1.op = .assign y) (hy : ∀ p, (a.put (some N) p).eval y = v) (hd2 : o2.dst = none) (hg2 : o2.guard = none) (ho2 : o2.op = .store t (.tmp N) x)
    (hx0 : ∀ p, ((a.put (some N) p).put (some M) v).eval x = .agg bs) (hp0 : ∀ p, ((a.put (some N) p).put (some M) v).eval (.tmp N) = p)
    (hz : (P.info? t).map (fun i => (i.zero, i.size)) = some (some (.agg cs), bs.size)) (hl : cs.size = bs.size) (h1 : bs.all (·.oneCell') = true)
    (k : ∀ b w1, Bx w1 b t bs → Below w.heap.size w w1 → w.heap.size ≤ b → b < w1.heap.size → wpList P ops Q rest ((a.put (some N) (.pointer (some ⟨b, 0, none⟩))).put (some M) v) w1) : wpList P ops Q (oi :: o1 :: o2 :: rest) a w := by
  have hx := hx0 (.pointer (some ⟨w.heap.size, 0, none⟩))
  have hp := hp0 (.pointer (some ⟨w.heap.size, 0, none⟩))
  obtain ⟨z1, z2⟩ := zero_of_info hz
  refine wpList_plain hg fun K hK => ?_
  have hrun : (execOp a.eval oi).run P w = .ok (.value (.pointer (some ⟨w.heap.size, 0, none⟩))) (w.alloc (.cells cs t)) := by
    unfold execOp
    simp only [ho, Instr.alloc, Sem.run_bind, z1 w, Result.andThen_ok]
    rfl
  unfold Oper.wp
  rw [hrun, Oper.upon_value, hd]
  refine hK _ _ (wpList_plain hg1 fun K1 hK1 => ?_)
  have hrun1 : (execOp (a.put (some N) (.pointer (some ⟨w.heap.size, 0, none⟩))).eval o1).run P (w.alloc (.cells cs t)) = .ok (.value v) (w.alloc (.cells cs t)) := by
    unfold execOp
    simp only [ho1, hy]
    rfl
  unfold Oper.wp
  rw [hrun1, Oper.upon_value, hd1]
  refine hK1 _ _ (wpList_plain hg2 fun K2 hK2 => ?_)
  have hrun2 : (execOp ((a.put (some N) (.pointer (some ⟨w.heap.size, 0, none⟩))).put (some M) v).eval o2).run P (w.alloc (.cells cs t)) = .ok .skip (w.alloc (.cells bs t)) := by
    unfold execOp
    simp only [ho2, hx, hp, Sem.run_bind, run_storeAt_new w t cs bs z2 hl h1, Result.andThen_ok, Sem.run_pure]
  unfold Oper.wp
  rw [hrun2, Oper.upon_skip, hd2]
  exact hK2 _ _ (k _ _ ⟨blk_new w _⟩ (below_alloc (Below.refl _ _) _) (Nat.le_refl _) (by simp))
set_option maxHeartbeats 8000000 in
set_option maxRecDepth 100000 in
theorem impl_isConfig.calls (k : Nat) (A0 : Option Addr) (c0 : Nat) (l0 : List (S94)) (r : Bool) (w : World) (hr0 : Kd.C k94 w A0 l0.length l0) (hc0 : l0.length ≤ c0) (h : impl_isConfig.f k l0 = some r) :
  Calls Try.prog 70 #[.slice A0 l0.length c0] w fun e w' => e = .returned (.bool r) ∧ Below w.heap.size w w' := by
 have HR0 := Aside0.mk hr0
 have HC0 := Aside0.mk hc0
 clear hr0 hc0
 have HB := Bw.refl w
 unfold impl_isConfig.f at h
 by_cases hln : 12 < l0.length
 · rw [if_pos hln] at h
   obtain rfl := Option.some.inj h
   have p0 : ((l0.length : Int) > 12) = True := eq_true (by omega)
   have p1 : (12 < (l0.length : Int)) = True := eq_true (by omega)
   clear h
   go_enter Try.func70, Try.ntmps70
   go_wp2
   go_ret
   exact ⟨rfl, bw⟩
 rw [if_neg hln] at h
 have p0 : ((l0.length : Int) > 12) = False := eq_false (by omega)
 have p1 : (12 < (l0.length : Int)) = False := eq_false (by omega)
 have H' := Aside0.mk h
 clear h
 go_enter Try.func70, Try.ntmps70
 go_wp2
 go_loopg [3, 13] k (fun kq v3 v13 w' => ∃ (i : Nat) (t : Int), i ≤ l0.length ∧ v3 = .int .i64 t ∧ v13 = .int .i64 (i : Int) ∧ Aside0 (impl_isConfig.r kq l0 t i = some r) ∧ Aside0 (kq ≤ k) ∧ Bw w w')
 case atStart => exact ⟨0, 0, Nat.zero_le _, rfl, rfl, H', ⟨Nat.le_refl _⟩, ⟨bw⟩⟩
 case round =>
  clear H'
  obtain ⟨i, t, hil, rfl, rfl, HA, HK1, HB⟩ := hrel
  cases gk with
  | zero => exact absurd HA.out (by simp [impl_isConfig.r])
  | succ k1 =>
   have H := HA.out
   clear HA
   rw [impl_isConfig.r] at H
   by_cases hlt : i < l0.length
   case neg =>
    rw [if_neg hlt] at H
    obtain rfl := Option.some.inj H
    have c2b0 : ((i : Int) < (l0.length : Int)) = False := eq_false (by omega)
    clear H
    go_wp2
    go_ret
    exact ⟨rfl, bw⟩
   rw [if_pos hlt] at H
   have h9 := bnd H
   clear H
   obtain ⟨o, a1, H⟩ := h9
   have h9 := bnd H
   clear H
   obtain ⟨d, a2, H⟩ := h9
   have c2b0 : ((i : Int) < (l0.length : Int)) = True := eq_true (by omega)
   have p126 : (0 ≤ (i : Int)) = True := eq_true (by omega)
   have w3 : wrap64 ((i : Int) + 1) = (i : Int) + 1 := w64 (by omega) (by omega)
   obtain ⟨ad, A1, c1, A5, c5, A6, c6, A7, c7, A8, c8, A9, c9, eA, x0_, x1_, x2_, x3_, x4_, x5_, x6_, x7_, x8_, x9_, m1, g1, m5, g5, m6, g6, m7, g7, m8, g8, m9, g9⟩ := at_T94 HR0.out (i : Int) (by omega) (by omega)
   subst eA
   replace x0_ := (HB.out.cell (World.block_lt_of_cell? w _ x0_)).trans x0_
   replace x1_ := (HB.out.cell (World.block_lt_of_cell? w _ x1_)).trans x1_
   replace x2_ := (HB.out.cell (World.block_lt_of_cell? w _ x2_)).trans x2_
   replace x3_ := (HB.out.cell (World.block_lt_of_cell? w _ x3_)).trans x3_
   replace x4_ := (HB.out.cell (World.block_lt_of_cell? w _ x4_)).trans x4_
   replace x5_ := (HB.out.cell (World.block_lt_of_cell? w _ x5_)).trans x5_
   replace x6_ := (HB.out.cell (World.block_lt_of_cell? w _ x6_)).trans x6_
   replace x7_ := (HB.out.cell (World.block_lt_of_cell? w _ x7_)).trans x7_
   replace x8_ := (HB.out.cell (World.block_lt_of_cell? w _ x8_)).trans x8_
   replace x9_ := (HB.out.cell (World.block_lt_of_cell? w _ x9_)).trans x9_
   simp only [Int.toNat_natCast] at x0_ x1_ x2_ x3_ x4_ x5_ x6_ x7_ x8_ x9_
   obtain ⟨x, hx⟩ : ∃ y, y = rd_T94 l0 (i : Int) := ⟨_, rfl⟩
   rw [← hx] at x0_ x1_ x2_ x3_ x4_ x5_ x6_ x7_ x8_ x9_ m1 g1 m5 g5 m6 g6 m7 g7 m8 g8 m9 g9 a1 a2 H
   have KX := Aside0.mk (show Rd k94 w x (#[.int .i64 x.f0, .slice A1 x.f1.length c1, .int .i64 x.f2, .int .i64 x.f3.f0, .int .i64 x.f3.f1, .slice A5 x.f3.f2.length c5, .slice A6 x.f3.f3.length c6, .slice A7 x.f3.f4.length c7, .slice A8 x.f4.length c8, .slice A9 x.f5.length c9] : Array Value).toList from ⟨k94_mk w x m1 g1 m5 g5 m6 g6 m7 g7 m8 g8 m9 g9⟩)
   have hst := itm_to (some ad) l0.length c0 (i : Int) (by omega) (by omega) HC0.out
   rw [Int.toNat_natCast] at hst
   obtain ⟨pre, hpre⟩ : ∃ s, s = l0.take i := ⟨_, rfl⟩
   have HN := Aside0.mk (show pre.length = i by rw [hpre, List.length_take]; omega)
   have GT := Aside0.mk (show Kd.C k94 w (some ad) pre.length pre by rw [hpre]; exact Kd.C_take (m := i) HR0.out hil)
   have LT := Aside0.mk (show pre.length ≤ c0 by have := HN.out; have := HC0.out; omega)
   rw [← hpre] at a2
   clear hx hpre
   have G1 := Aside0.mk g1
   have L1 := Aside0.mk m1
   have G5 := Aside0.mk g5
   have L5 := Aside0.mk m5
   have G6 := Aside0.mk g6
   have L6 := Aside0.mk m6
   have G7 := Aside0.mk g7
   have L7 := Aside0.mk m7
   have G8 := Aside0.mk g8
   have L8 := Aside0.mk m8
   have G9 := Aside0.mk g9
   have L9 := Aside0.mk m9
   have A1' := Aside0.mk a1
   have A2' := Aside0.mk a2
   have H' := Aside0.mk H
   clear m1 g1 m5 g5 m6 g6 m7 g7 m8 g8 m9 g9 a1 a2 H
   go_upto_region 7 with ((with_reducible refine gate_dst (N := 5) rfl ?_); refine alst2 (bs := #[.int .i64 x.f0, .slice A1 x.f1.length c1, .int .i64 x.f2, .int .i64 x.f3.f0, .int .i64 x.f3.f1, .slice A5 x.f3.f2.length c5, .slice A6 x.f3.f3.length c6, .slice A7 x.f3.f4.length c7, .slice A8 x.f4.length c8, .slice A9 x.f5.length c9]) (cs := #[.int .i64 0, .slice none 0 0, .int .i64 0, .int .i64 0, .int .i64 0, .slice none 0 0, .slice none 0 0, .slice none 0 0, .slice none 0 0, .slice none 0 0]) 5 4 rfl rfl rfl rfl rfl rfl (fun _ => rfl) rfl rfl rfl (fun _ => rfl) (fun _ => rfl) (by kernel_rfl) rfl (by simp [Value.oneCell']) ?_; intro gl wl BY hbl hle hlt2; replace HB := Bw.sw w hbl; clear hbl hle hlt2; simp only [Act.put, List.setIfInBounds_toArray, List.set_cons_zero, List.set_cons_succ])
   obtain ⟨gc0, gc1, gc2, gc3, gc4, gc5, gc6, gc7, gc8, gc9⟩ := blk10 BY.h
   clear x0_ x1_ x2_ x3_ x4_ x5_ x6_ x7_ x8_ x9_
   go_cut [27] (fun v27 wc => v27 = .bool (!o || d) ∧ Bx wc gl 94 #[.int .i64 x.f0, .slice A1 x.f1.length c1, .int .i64 x.f2, .int .i64 x.f3.f0, .int .i64 x.f3.f1, .slice A5 x.f3.f2.length c5, .slice A6 x.f3.f3.length c6, .slice A7 x.f3.f4.length c7, .slice A8 x.f4.length c8, .slice A9 x.f5.length c9] ∧ Bw w wc)
   case first =>
    as_aux_lemma =>
    clear H'
    cases o
    all_goals go_wp2_with (first
      | ((with_reducible refine gate_dst (N := 19) rfl ?_); refine gg (some 19) rfl rfl rfl frIt ?_; refine onc (impl_isItem.calls k1 _ _ _ _ _ _ _ _ _ _ _ _ _ _ _ _ _ _ _ _ _ _ _ _ (cb G1) L1.out (cb G5) L5.out (cb G6) L6.out (cb G7) L7.out (cb G8) L8.out (cb G9) L9.out A1'.out) rfl ?_; rintro e9 w9 ⟨rfl, hb⟩; refine ⟨_, rfl, ?_⟩; replace BY := BY.b hb; replace HB := Bw.sw w hb; clear hb gc0 gc1 gc2 gc3 gc4 gc5 gc6 gc7 gc8 gc9; obtain ⟨gc0, gc1, gc2, gc3, gc4, gc5, gc6, gc7, gc8, gc9⟩ := blk10 BY.h)
      | ((with_reducible refine gate_dst (N := 26) rfl ?_); refine ggw (some 26) rfl (by rfl) rfl frCn ?_; refine onc (hasItem.calls x gl _ _ i _ pre _ _ HN.out BY (KX.out.b HB.out) (cb GT) LT.out A2'.out) rfl ?_; rintro e9 w9 ⟨rfl, hb⟩; refine ⟨_, rfl, ?_⟩; replace BY := BY.b hb; replace HB := Bw.sw w hb; clear hb gc0 gc1 gc2 gc3 gc4 gc5 gc6 gc7 gc8 gc9; obtain ⟨gc0, gc1, gc2, gc3, gc4, gc5, gc6, gc7, gc8, gc9⟩ := blk10 BY.h))
    all_goals go_meet
    all_goals exact ⟨rfl, BY, HB⟩
   case rest =>
    as_aux_lemma =>
    clear BY HB gc0 gc1 gc2 gc3 gc4 gc5 gc6 gc7 gc8 gc9
    obtain ⟨rfl, BY, HB⟩ := hcut
    obtain ⟨gc0, gc1, gc2, gc3, gc4, gc5, gc6, gc7, gc8, gc9⟩ := blk10 BY.h
    have H := H'.out
    clear H'
    cases hb1 : (!o || d) with
    | true =>
     rw [hb1, if_pos rfl] at H
     obtain rfl := Option.some.inj H
     clear H hb1
     go_wp2
     go_ret
     exact ⟨rfl, bw⟩
    | false =>
     rw [hb1, if_neg (by decide)] at H
     clear hb1
     have h9 := bnd H
     clear H
     obtain ⟨u, aq, H⟩ := h9
     have H' := Aside0.mk H
     clear H
     unfold impl_isConfig.q at aq
     have h9 := bnd aq
     clear aq
     obtain ⟨s, ap, aq⟩ := h9
     have AP := Aside0.mk ap
     have AQ := Aside0.mk aq
     clear ap aq
     go_wp2
     go_loopg [3, 31] k1 (fun kq v3 v31 w' => ∃ (j : Nat) (t2 : Int), j ≤ x.f5.length ∧ v3 = .int .i64 t2 ∧ v31 = .int .i64 (j : Int) ∧ Aside0 (impl_isConfig.p kq x.f5 t2 j = some s) ∧ Aside0 (kq ≤ k1) ∧ Bx w' gl 94 #[.int .i64 x.f0, .slice A1 x.f1.length c1, .int .i64 x.f2, .int .i64 x.f3.f0, .int .i64 x.f3.f1, .slice A5 x.f3.f2.length c5, .slice A6 x.f3.f3.length c6, .slice A7 x.f3.f4.length c7, .slice A8 x.f4.length c8, .slice A9 x.f5.length c9] ∧ Bw w w')
     case atStart => exact ⟨0, t, Nat.zero_le _, rfl, rfl, AP, ⟨Nat.le_refl _⟩, BY, ⟨bw⟩⟩
     case round =>
      clear AP BY HB gc0 gc1 gc2 gc3 gc4 gc5 gc6 gc7 gc8 gc9
      obtain ⟨j, t2, hjl, rfl, rfl, HA, HK2, BY, HB⟩ := hrel
      obtain ⟨gc0, gc1, gc2, gc3, gc4, gc5, gc6, gc7, gc8, gc9⟩ := blk10 BY.h
      cases gk with
      | zero => exact absurd HA.out (by simp [impl_isConfig.p])
      | succ k2 =>
       have Hp := HA.out
       clear HA
       rw [impl_isConfig.p] at Hp
       by_cases hj : j < x.f5.length
       · rw [if_pos hj] at Hp
         have h9 := bnd Hp
         clear Hp
         obtain ⟨v, av, Hp⟩ := h9
         have c3 : ((j : Int) < (x.f5.length : Int)) = True := eq_true (by omega)
         have p3 : (0 ≤ (j : Int)) = True := eq_true (by omega)
         have hlm : x.f5.length ≤ 9223372036854775807 := (G9.out).2.1
         have w4 : wrap64 ((j : Int) + 1) = (j : Int) + 1 := w64 (by omega) (by omega)
         obtain ⟨ae, B2, b2, B3, b3, B4, b4, eE, z0_, z1_, z2_, z3_, z4_, n2, q2, n3, q3, n4, q4⟩ := at_T31 G9.out (j : Int) (by omega) (by omega)
         subst eE
         replace z0_ := (HB.out.cell (World.block_lt_of_cell? w _ z0_)).trans z0_
         replace z1_ := (HB.out.cell (World.block_lt_of_cell? w _ z1_)).trans z1_
         replace z2_ := (HB.out.cell (World.block_lt_of_cell? w _ z2_)).trans z2_
         replace z3_ := (HB.out.cell (World.block_lt_of_cell? w _ z3_)).trans z3_
         replace z4_ := (HB.out.cell (World.block_lt_of_cell? w _ z4_)).trans z4_
         simp only [Int.toNat_natCast] at z0_ z1_ z2_ z3_ z4_
         obtain ⟨e, he⟩ : ∃ y, y = rd_T31 x.f5 (j : Int) := ⟨_, rfl⟩
         rw [← he] at z0_ z1_ z2_ z3_ z4_ n2 q2 n3 q3 n4 q4 av
         have P2 := Aside0.mk q2
         have P3 := Aside0.mk q3
         have P4 := Aside0.mk q4
         have Q2 := Aside0.mk n2
         have Q3 := Aside0.mk n3
         have Q4 := Aside0.mk n4
         have AE_ := Aside0.mk av
         have HP := Aside0.mk Hp
         clear q2 q3 q4 n2 n3 n4 av Hp he hlm
         go_wp2_with (first
           | ((with_reducible refine gate_dst (N := 7) rfl ?_); refine alst (bs := #[.int .i64 e.f0, .int .i64 e.f1, .slice B2 e.f2.length b2, .slice B3 e.f3.length b3, .slice B4 e.f4.length b4]) (cs := #[.int .i64 0, .int .i64 0, .slice none 0 0, .slice none 0 0, .slice none 0 0]) 7 rfl rfl rfl rfl rfl rfl (fun _ => rfl) (fun _ => rfl) (by kernel_rfl) rfl (by simp [Value.oneCell']) ?_; intro ge we BE hb hle hlt2; replace BY := BY.b hb; replace HB := Bw.sw w hb; clear hb gc0 gc1 gc2 gc3 gc4 gc5 gc6 gc7 gc8 gc9; obtain ⟨gc0, gc1, gc2, gc3, gc4, gc5, gc6, gc7, gc8, gc9⟩ := blk10 BY.h; clear hle hlt2; obtain ⟨ec0, ec1, ec2, ec3, ec4, -, -, -, -, -⟩ := blk5 BE.h; simp only [Act.put, List.setIfInBounds_toArray, List.set_cons_zero, List.set_cons_succ])
           | ((with_reducible refine gate_dst (N := 37) rfl ?_); refine gg (some 37) rfl rfl rfl frPa ?_; refine onc (impl_Expr_parts.calls k2 _ _ _ _ _ _ _ _ _ _ _ _ _ (cb P2) Q2.out (cb P3) Q3.out (cb P4) Q4.out AE_.out) rfl ?_; rintro e9 w9 ⟨rfl, hb⟩; refine ⟨_, rfl, ?_⟩; replace BY := BY.b hb; replace HB := Bw.sw w hb; clear hb gc0 gc1 gc2 gc3 gc4 gc5 gc6 gc7 gc8 gc9; obtain ⟨gc0, gc1, gc2, gc3, gc4, gc5, gc6, gc7, gc8, gc9⟩ := blk10 BY.h))
         go_roundg k2
         case rel => exact ⟨j + 1, _, by omega, rfl, by first | (rw [w4]; rfl) | go_num, HP, ⟨by have := HK2.out; omega⟩, BY, ⟨bw⟩⟩
         case measure => have := HK2.out; omega
       · rw [if_neg hj] at Hp
         obtain rfl := Option.some.inj Hp
         have c3 : ((j : Int) < (x.f5.length : Int)) = False := eq_false (by omega)
         clear Hp
         have Hq := AQ.out
         clear AQ
         by_cases hm : x.f2 = 0
         · rw [if_pos hm] at Hq
           obtain rfl := Option.some.inj Hq
           have m1_ : (x.f2 == 0) = true := beq_iff_eq.mpr hm
           have m2_ : (x.f2 != 0) = false := bne_eq_false_iff_eq.mpr hm
           clear hm Hq
           go_wp2
           go_roundg k1
           case rel => exact ⟨i + 1, _, by omega, rfl, by first | (rw [w3]; rfl) | go_num, H', ⟨by have := HK1.out; omega⟩, ⟨bw⟩⟩
           case measure => have := HK1.out; omega
         · rw [if_neg hm] at Hq
           have h9 := bnd Hq
           clear Hq
           obtain ⟨v, av, Hq⟩ := h9
           obtain rfl := Option.some.inj Hq
           have AE_ := Aside0.mk av
           have m1_ : (x.f2 == 0) = false := beq_eq_false_iff_ne.mpr hm
           have m2_ : (x.f2 != 0) = true := bne_iff_ne.mpr hm
           clear hm Hq av
           go_wp2_with ((with_reducible refine gate_dst (N := 46) rfl ?_); refine gg (some 46) rfl rfl rfl frPa ?_; refine onc (impl_Expr_parts.calls k1 _ _ _ _ _ _ _ _ _ _ _ _ _ (cb G5) L5.out (cb G6) L6.out (cb G7) L7.out AE_.out) rfl ?_; rintro e9 w9 ⟨rfl, hb⟩; refine ⟨_, rfl, ?_⟩; replace BY := BY.b hb; replace HB := Bw.sw w hb; clear hb gc0 gc1 gc2 gc3 gc4 gc5 gc6 gc7 gc8 gc9; obtain ⟨gc0, gc1, gc2, gc3, gc4, gc5, gc6, gc7, gc8, gc9⟩ := blk10 BY.h)
           go_roundg k1
           case rel => exact ⟨i + 1, _, by omega, rfl, by first | (rw [w3]; rfl) | go_num, H', ⟨by have := HK1.out; omega⟩, ⟨bw⟩⟩
           case measure => have := HK1.out; omega
def impl_ConfigOk.f (k : Nat) (l : List S94) : Option Bool := (impl_isConfig.f k l).bind fun t => some t
theorem impl_ConfigOk.calls (k : Nat) (A0 : Option Addr) (c0 : Nat) (l0 : List (S94)) (r : Bool) (w : World) (hr0 : Kd.C k94 w A0 l0.length l0) (hc0 : l0.length ≤ c0) (h : impl_ConfigOk.f k l0 = some r) :
  Calls Try.prog 33 #[.slice A0 l0.length c0] w fun e w' => e = .returned (.bool r) ∧ Below w.heap.size w w' := by
 have HR0 := Aside0.mk hr0
 have HC0 := Aside0.mk hc0
 have HB := Bw.refl w
 have h9 := bnd h
 clear hr0 hc0 h
 obtain ⟨t, a1, h2⟩ := h9
 obtain rfl := Option.some.inj h2
 have A := Aside0.mk a1
 clear a1 h2
 go_enter Try.func33, Try.ntmps33
 go_wp2_with (go_at_call 70; refine (impl_isConfig.calls k _ _ l0 t _ (cb HR0) HC0.out A.out).mono ?_; rintro e9 w9 ⟨rfl, hb⟩; replace HB := Bw.sw w hb; clear hb)
 go_ret
 exact ⟨rfl, bw⟩
end Go.Proofs.Ytockllljeeakaaa.PFnExactConfigOk
