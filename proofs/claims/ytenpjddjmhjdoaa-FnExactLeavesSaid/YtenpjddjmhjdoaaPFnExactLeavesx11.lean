/- What a function comes to, walked by hand. No condition. -/
import Derived.Test.YtenpjddjmhjdoaaPFnExactLeavesx0
import Derived.Test.YtenpjddjmhjdoaaPFnExactLeavesx8
import Derived.Test.YtenpjddjmhjdoaaPFnExactLeavesx10
import Derived.Test.YtenpjddjmhjdoaaMlaw
import Derived.Test.YtenpjddjmhjdoaaMcore
import Derived.Test.YtenpjddjmhjdoaaMkx
import Derived.Test.YtenpjddjmhjdoaaMrows
namespace Go.Proofs.Ytenpjddjmhjdoaa.PFnExactLeaves
open Go.RowKit Go.Proofs.YtenpjddjmhjdoaaW.PrintWords Go.Proofs.YtenpjddjmhjdoaaW.PrintLast Go.Proofs.YtenpjddjmhjdoaaW.PrintMore Go.Proofs.Ytenpjddjmhjdoaa.M
attribute [local go_sem] max2_int min2_int max_two min_two max_three min_three max_four min_four Go.Proofs.Ytenpjddjmhjdoaa.M.str_gtr Go.Proofs.Ytenpjddjmhjdoaa.M.str_leq Go.Proofs.Ytenpjddjmhjdoaa.M.str_geq   -- for this text's walks alone
set_option linter.unusedVariables false
set_option linter.unusedSimpArgs false
-- KC impl_Leaves {"params":[["agg",30,["f0","f1","f2","f3","f4"]]],"res":["slice","(Kx.sl 79 k79)",59,"List (List (S79))","S"],"hasK":true,"fn":23,"f":"impl_Leaves.g"}
/-- The step to part i. -/
def stepAt (x : S30) (i : Nat) : Option S79 := if x.f0 = 5 then (if i < x.f3.length then some ⟨0, rd_L1 x.f3 (i : Int), 0⟩ else none) else some ⟨1, [], (i : Int)⟩
def leavesG (f : List S79 → S30 → Option (List (List S79))) (cp : List S79 → Option (List S79)) (x : S30) (p : List S79) : Nat → Nat → List (List S79) → Option (List (List S79))
  | 0, _, out => some out
  | d + 1, i, out => (stepAt x i).bind fun s => (cp p).bind fun q => if q.length ≤ 1000000 then (f (q ++ [s]) (rd_T30 x.f4 (i : Int))).bind fun a => if out.length + a.length ≤ 1000000 then leavesG f cp x p d (i + 1) (out ++ a) else none else none
def leavesF : Nat → List S79 → S30 → Option (List (List S79))
  | 0, _, _ => none
  | k + 1, p, x => if x.f4.length = 0 then (impl_copyPath.f k p).bind fun q => some [q] else leavesG (fun q y => leavesF k q y) (impl_copyPath.f k) x p x.f4.length 0 []
theorem frLC : Fr Try.prog 104 := ⟨_, Try.func104, by kernel_rfl, rfl⟩
theorem frLL : Fr Try.prog 69 := ⟨_, Try.func69, by kernel_rfl, rfl⟩
theorem frLV : Fr Try.prog 68 := ⟨_, Try.func68, by kernel_rfl, rfl⟩
theorem S_own_ge {α : Type} {d : Kd α} {e base : Nat} {ok : Nat → Prop} {w : World} {v : Value} {xs : List α} (h : Kd.S d e w base ok v xs) (z : Nat) (hz : v.ownBlock = some z) : base ≤ z := Kd.N_base (Kd.S_N h) z hz
/-- A step whose key lies in elder memory. -/
theorem stepFK {w W : World} (s : S79) (A : Option Addr) (c : Nat) (hl : s.f1.length ≤ c) (h : (Kd.int .u8).C w A s.f1.length s.f1) (hb : Below w.heap.size w W) : Kd.FK k79 W (fun k => k < w.heap.size) s [.int .i64 s.f0, .slice A s.f1.length c, .int .i64 s.f2] :=
  fun W' hW => k79_mk W' s hl ((Kd.C_F (Kd.heap_int .u8) h) W' (fun k hk hlt => (hW k hk (Nat.lt_of_lt_of_le hlt hb.size)).trans (hb.block k hk)))
theorem stfl {P : Program} {ops : Array Oper} {Q : Exit → Act → World → Prop} {rest : List Oper} {oi : Oper} {a : Act} {w : World} {bs cs cs' : Array Value} {t T g n0 : Nat} {p x : Operand} (hd : oi.dst = none) (hg : oi.guard = none) (ho : oi.op = .store t p x) (hp : a.eval p = .pointer (some ⟨g, n0, none⟩)) (hx : a.eval x = .agg bs)
    (hz : (P.info? t).map (·.size) = some bs.size) (h1 : bs.all (·.oneCell') = true) (h : Bx w g T cs) (hn : n0 + bs.size ≤ cs.size) (hcs : (cs.toList.take n0 ++ bs.toList ++ cs.toList.drop (n0 + bs.size)).toArray = cs')
    (k : ∀ w1, Bx w1 g T cs' → M.Outside g (g + 1) w w1 → wpList P ops Q rest a w1) : wpList P ops Q (oi :: rest) a w := by
  refine wpList_plain hg fun K hK => ?_
  have hs := run_storeCells_at (P := P) g n0 T bs.toList 0 cs w h.h (by simpa using hn) (fun v hv => (Array.all_eq_true_iff_forall_mem.1 h1) v (by simpa using hv))
  rw [Nat.add_zero, Array.length_toList, hcs] at hs
  have hrun : (execOp a.eval oi).run P w = .ok .skip (w.setRow g cs') := by
    have hv : (storeVar t ⟨g, n0, none⟩ (.agg bs)).run P w = .ok () (w.setRow g cs') := by
      cases hq : P.info? t with
      | none => simp [hq] at hz
      | some i =>
        have hs2 : bs.size = i.size := by simp [hq] at hz; omega
        simp [storeVar, sizeOf, typeInfo, hq, Value.cells, hs2, hs]
    unfold execOp
    simp only [ho, hp, hx, Instr.storeAt, Instr.sureAddr, Sem.run_bind, Sem.run_pure, Result.andThen_ok, hv]
  unfold Oper.wp
  rw [hrun, Oper.upon_skip, hd]
  exact hK _ _ (k _ ⟨setRow_heap w g cs _ T _ h.h⟩ ⟨rfl, rfl, rfl, by rw [setRow_size]; exact Nat.le_refl _, fun k hk ho => setRow_other w g k _ (by omega)⟩)
theorem alst2l {P : Program} {ops : Array Oper} {Q : Exit → Act → World → Prop} {rest : List Oper} {oi o1 o2 : Oper} {a : Act} {w : World} {bs cs : Array Value} {t : Nat} {x y : Operand} {v : Value} (N M : Tmp) (hd : oi.dst = some N) (hg : oi.guard = none) (ho : oi.op = .alloc t) (hd1 : o1.dst = some M) (hg1 : o1.guard = none) (ho1 : o1.op = .assign y) (hy : ∀ p, (a.put (some N) p).eval y = v) (hd2 : o2.dst = none) (hg2 : o2.guard = none) (ho2 : o2.op = .store t (.tmp N) x)
    (hx0 : ∀ p, ((a.put (some N) p).put (some M) v).eval x = .agg bs) (hp0 : ∀ p, ((a.put (some N) p).put (some M) v).eval (.tmp N) = p)
    (hz : (P.info? t).map (fun i => (i.zero, i.size)) = some (some (.agg cs), bs.size)) (hl : cs.size = bs.size) (h1 : bs.all (·.oneCell') = true)
    (k : ∀ b w1, Bx w1 b t bs → Below w.heap.size w w1 → w.heap.size ≤ b → b < w1.heap.size → wpList P ops Q rest ((a.put (some N) (.pointer (some ⟨b, 0, none⟩))).put (some M) v) w1) : wpList P ops Q (oi :: o1 :: o2 :: rest) a w := by
  have hx := hx0 (.pointer (some ⟨w.heap.size, 0, none⟩))
  have hp := hp0 (.pointer (some ⟨w.heap.size, 0, none⟩))
  obtain ⟨z1, z2⟩ := zero_of_info hz
  refine wpList_plain hg fun K hK => ?_
  have hrun : (execOp a.eval oi).run P w = .ok (.value (.pointer (some ⟨w.heap.size, 0, none⟩))) (w.alloc (.cells cs t)) := by
    unfold execOp
    simp only [ho, Instr.alloc, Sem.run_bind, z1 w, Result.andThen_ok]
    rfl
  unfold Oper.wp
  rw [hrun, Oper.upon_value, hd]
  refine hK _ _ (wpList_plain hg1 fun K1 hK1 => ?_)
  have hrun1 : (execOp (a.put (some N) (.pointer (some ⟨w.heap.size, 0, none⟩))).eval o1).run P (w.alloc (.cells cs t)) = .ok (.value v) (w.alloc (.cells cs t)) := by
    unfold execOp
    simp only [ho1, hy]
    rfl
  unfold Oper.wp
  rw [hrun1, Oper.upon_value, hd1]
  refine hK1 _ _ (wpList_plain hg2 fun K2 hK2 => ?_)
  have hrun2 : (execOp ((a.put (some N) (.pointer (some ⟨w.heap.size, 0, none⟩))).put (some M) v).eval o2).run P (w.alloc (.cells cs t)) = .ok .skip (w.alloc (.cells bs t)) := by
    unfold execOp
    simp only [ho2, hx, hp, Sem.run_bind, run_storeAt_new w t cs bs z2 hl h1, Result.andThen_ok, Sem.run_pure]
  unfold Oper.wp
  rw [hrun2, Oper.upon_skip, hd2]
  exact hK2 _ _ (k _ _ ⟨blk_new w _⟩ (below_alloc (Below.refl _ _) _) (Nat.le_refl _) (by simp))
set_option maxHeartbeats 8000000 in
set_option maxRecDepth 100000 in
theorem impl_leaves.dcalls : ∀ (k : Nat) (p : List S79) (x : S30) (A : Option Addr) (c : Nat) (b0 : Array Value) (r : List (List S79)) (w : World) (hp : Kd.C k79 w A p.length p) (hc : p.length ≤ c) (h0 : Rd k30 w x b0.toList) (h : leavesF k p x = some r),
    Calls Try.prog 69 #[.slice A p.length c, .agg b0] w fun e w' => ∃ v : Value, e = .returned v ∧ Kd.S (Kx.sl 79 k79) 59 w' w.heap.size (fun _ => True) v r ∧ Below w.heap.size w w' := by
  intro k
  induction k with
  | zero => intro p x A c b0 r w hp hc h0 h; exact absurd h (by simp [leavesF])
  | succ k ih =>
  intro p x A c b0 r w hp hc h0 h
  obtain ⟨A2, c2, A3, c3, A4, c4, e0, m2, g2, m3, g3_, m4, g4⟩ := k30_open h0.k
  obtain rfl : b0 = #[.int .i64 x.f0, .int .i64 x.f1, .slice A2 x.f2.length c2, .slice A3 x.f3.length c3, .slice A4 x.f4.length c4] := by rw [← b0.toArray_toList, e0]
  have HB := Bw.refl w
  have HP := Aside0.mk hp
  have HC := Aside0.mk hc
  have G3 := Aside0.mk g3_
  have G4 := Aside0.mk g4
  rw [leavesF] at h
  by_cases hz : x.f4.length = 0
  · rw [if_pos hz] at h
    have h9 := bnd h
    clear h
    obtain ⟨q, aq, h⟩ := h9
    obtain rfl := Option.some.inj h
    have AQ := Aside0.mk aq
    have z1 : ((x.f4.length : Int) == 0) = true := beq_iff_eq.mpr (by omega)
    clear h aq hz hp hc h0 e0 m2 g2 m3 g3_ m4 g4 ih
    go_enter Try.func69, Try.ntmps69
    go_wp2_with (first
      | ((with_reducible refine gate_dst (N := 3) rfl ?_); refine bxb (bs := #[.int .i64 x.f0, .int .i64 x.f1, .slice A2 x.f2.length c2, .slice A3 x.f3.length c3, .slice A4 x.f4.length c4]) 3 rfl rfl rfl rfl ?_; intro g3 wa BX hb hge hlt; replace HB := Bw.sw w hb; clear hb hge hlt; obtain ⟨ga0, ga1, ga2, ga3, ga4, -, -, -, -, -⟩ := blk5 BX.h; simp only [Act.put, List.setIfInBounds_toArray, List.set_cons_zero, List.set_cons_succ])
      | ((with_reducible refine gate_dst (N := 14) rfl ?_); refine gg (some 14) rfl rfl rfl frLC ?_; refine onc (impl_copyPath.calls k _ _ p q _ (cb HP) HC.out AQ.out) rfl ?_; rintro e9 w9 ⟨v, rfl, ho, hb⟩; obtain ⟨Aq, cq, eq_⟩ := Kd.S_slice ho; subst eq_; refine ⟨_, rfl, ?_⟩; have HQ := Aside0.mk (Kd.S_lower (Kd.S_bound ho) HB.out.size); replace BX := BX.b hb; replace HB := Bw.sw w hb; clear hb ho ga0 ga1 ga2 ga3 ga4; simp only [Act.put, List.setIfInBounds_toArray, List.set_cons_zero, List.set_cons_succ])
      | ((with_reducible refine gate_dst (N := 15) rfl ?_); refine Kd.S_lits (Kx.sl 79 k79) (w0 := w) w.heap.size 59 rfl (N := 15) rfl (xs := [q]) (inner := [.slice Aq q.length cq]) (ok := fun _ => True) (fun j k => j = 0 ∧ k < w9.heap.size) ?lr ?ll ?lp ?la (fun _ _ _ => trivial) trivial HB.out HB.out.size (by simp) ?_; (case lr => first | (go_simp; done) | (go_simp; rfl)); (case ll => rfl); (case lp => intro j y hj; cases j with | zero => (obtain rfl := Option.some.inj hj; exact ⟨_, rfl, Kd.S_mono HQ.out (fun k hk => ⟨rfl, hk.2.2.1⟩)⟩) | succ j => simp at hj); (case la => intro i j k hi hj; exact hi.1.trans hj.1.symm); intro v15 w2 ho hb hg_ hn_; have HO := Aside0.mk ho; replace HB := Bw.mk (w := w) hb; clear hb hg_ hn_ ho HQ; simp only [Act.put, List.setIfInBounds_toArray, List.set_cons_zero, List.set_cons_succ]))
    go_ret
    exact ⟨_, rfl, HO.out, bw⟩
  · rw [if_neg hz] at h
    have z1 : ((x.f4.length : Int) == 0) = false := beq_eq_false_iff_ne.mpr (by omega)
    have hlm : x.f4.length ≤ 9223372036854775807 := g4.2.1
    have H' := Aside0.mk h
    clear h hz hp hc h0 e0 m2 g2 m3 g3_ m4 g4
    go_enter Try.func69, Try.ntmps69
    go_wp2_with (first
      | ((with_reducible refine gate_dst (N := 3) rfl ?_); refine bxb (bs := #[.int .i64 x.f0, .int .i64 x.f1, .slice A2 x.f2.length c2, .slice A3 x.f3.length c3, .slice A4 x.f4.length c4]) 3 rfl rfl rfl rfl ?_; intro g3 wa BX hb hge hlt; replace HB := Bw.sw w hb; clear hb hge hlt; obtain ⟨ga0, ga1, ga2, ga3, ga4, -, -, -, -, -⟩ := blk5 BX.h; simp only [Act.put, List.setIfInBounds_toArray, List.set_cons_zero, List.set_cons_succ])
      | ((with_reducible refine gate_dst (N := 16) rfl ?_); refine Kd.S_lit (Kx.sl 79 k79) (w0 := w) w.heap.size 59 rfl (N := 16) rfl (xs := ([] : List (List S79))) (inner := []) (ok := fun _ => True) (okp := fun _ => True) ?lr (Reps.none _ _) (fun _ hk => hk) trivial HB.out HB.out.size (by simp) ?_; (case lr => first | (go_simp; done) | (go_simp; rfl)); intro v16 w2 ho hb hg_ hn_; have HO := Aside0.mk ho; replace BX := BX.grown hg_ (by simp); replace HB := Bw.mk (w := w) hb; clear hb hg_ hn_ ho ga0 ga1 ga2 ga3 ga4; obtain ⟨ga0, ga1, ga2, ga3, ga4, -, -, -, -, -⟩ := blk5 BX.h; simp only [Act.put, List.setIfInBounds_toArray, List.set_cons_zero, List.set_cons_succ]))
    go_loopw [5, 20] (fun v5 v20 wr => ∃ (i : Nat) (out : List (List S79)), i ≤ x.f4.length ∧ v20 = .int .i64 (i : Int) ∧ Aside0 (leavesG (fun q y => leavesF k q y) (impl_copyPath.f k) x p (x.f4.length - i) i out = some r) ∧ Aside0 (Kd.S (Kx.sl 79 k79) 59 wr w.heap.size (fun _ => True) v5 out) ∧ Bx wr g3 30 #[.int .i64 x.f0, .int .i64 x.f1, .slice A2 x.f2.length c2, .slice A3 x.f3.length c3, .slice A4 x.f4.length c4] ∧ Bw w wr) (fun _ v20 _ => x.f4.length - (intOf v20).toNat)
    case atStart => exact ⟨0, [], Nat.zero_le _, rfl, H', HO, BX, ⟨bw⟩⟩
    case round =>
      as_aux_lemma =>
      clear H' HO BX HB ga0 ga1 ga2 ga3 ga4
      obtain ⟨i, out, hil, rfl, HA, HO, BX, HB⟩ := hrel
      obtain ⟨A5_, c5_, e5_⟩ := Kd.S_slice HO.out
      subst e5_
      have H := HA.out
      clear HA
      obtain ⟨ga0, ga1, ga2, ga3, ga4, -, -, -, -, -⟩ := blk5 BX.h
      by_cases hlt : i < x.f4.length
      case neg =>
        rw [show x.f4.length - i = 0 by omega, leavesG] at H
        obtain rfl := Option.some.inj H
        have ci : ((i : Int) < (x.f4.length : Int)) = False := eq_false (by omega)
        clear H
        go_wp2
        go_ret
        exact ⟨_, rfl, HO.out, bw⟩
      rw [show x.f4.length - i = (x.f4.length - (i + 1)) + 1 by omega, leavesG] at H
      have h9 := bnd H
      clear H
      obtain ⟨s, as_, H⟩ := h9
      have h9 := bnd H
      clear H
      obtain ⟨q, aq, H⟩ := h9
      have h9 := yesN H
      clear H
      obtain ⟨hql, H⟩ := h9
      have h9 := bnd H
      clear H
      obtain ⟨a, aa, H⟩ := h9
      have h9 := yesN H
      clear H
      obtain ⟨hol, H⟩ := h9
      have H' := Aside0.mk H
      have AQ := Aside0.mk aq
      have AA := Aside0.mk aa
      have HQL := Aside0.mk hql
      have HOL := Aside0.mk hol
      have ci : ((i : Int) < (x.f4.length : Int)) = True := eq_true (by omega)
      have p3 : (0 ≤ (i : Int)) = True := eq_true (by omega)
      obtain ⟨ad, B2, b2, B3, b3, B4, b4, eA, x0_, x1_, x2_, x3_, x4_, n2, q2, n3, q3, n4, q4⟩ := at_T30 G4.out (i : Int) (by omega) (by omega)
      subst eA
      replace x0_ := (HB.out.cell (World.block_lt_of_cell? w _ x0_)).trans x0_
      replace x1_ := (HB.out.cell (World.block_lt_of_cell? w _ x1_)).trans x1_
      replace x2_ := (HB.out.cell (World.block_lt_of_cell? w _ x2_)).trans x2_
      replace x3_ := (HB.out.cell (World.block_lt_of_cell? w _ x3_)).trans x3_
      replace x4_ := (HB.out.cell (World.block_lt_of_cell? w _ x4_)).trans x4_
      simp only [Int.toNat_natCast] at x0_ x1_ x2_ x3_ x4_
      obtain ⟨y, hy⟩ : ∃ y, y = rd_T30 x.f4 (i : Int) := ⟨_, rfl⟩
      rw [← hy] at x0_ x1_ x2_ x3_ x4_ n2 q2 n3 q3 n4 q4 AA
      have KY := Aside0.mk (show Rd k30 w y (#[.int .i64 y.f0, .int .i64 y.f1, .slice B2 y.f2.length b2, .slice B3 y.f3.length b3, .slice B4 y.f4.length b4] : Array Value).toList from ⟨k30_mk w y n2 q2 n3 q3 n4 q4⟩)
      clear H aq aa hql hol n2 q2 n3 q3 n4 q4 hy
      go_upto_region 8 with (first
        | ((with_reducible refine gate_dst (N := 7) rfl ?_); refine alst2l (bs := #[.int .i64 y.f0, .int .i64 y.f1, .slice B2 y.f2.length b2, .slice B3 y.f3.length b3, .slice B4 y.f4.length b4]) (cs := #[.int .i64 0, .int .i64 0, .slice none 0 0, .slice none 0 0, .slice none 0 0]) 7 6 rfl rfl rfl rfl rfl rfl (fun _ => rfl) rfl rfl rfl (fun _ => rfl) (fun _ => rfl) (by kernel_rfl) rfl (by simp [Value.oneCell']) ?_; intro g7 w7 BE hb hle hlt2; replace HO := Aside0.mk (Kd.S_below HO.out hb); replace BX := BX.b hb; replace HB := Bw.sw w hb; clear hb hle hlt2; simp only [Act.put, List.setIfInBounds_toArray, List.set_cons_zero, List.set_cons_succ])
        | ((with_reducible refine gate_dst (N := 8) rfl ?_); refine alst (bs := #[.int .i64 1, .slice none 0 0, .int .i64 (i : Int)]) (cs := #[.int .i64 0, .slice none 0 0, .int .i64 0]) 8 rfl rfl rfl rfl rfl rfl (fun _ => rfl) (fun _ => rfl) (by kernel_rfl) rfl (by simp [Value.oneCell']) ?_; intro g8 w8 BS hb hle hlt2; have ge8 := Nat.le_trans HB.out.size hle; have l38 := Nat.lt_of_lt_of_le BX.lt hle; have l78 := Nat.lt_of_lt_of_le BE.lt hle; replace HO := Aside0.mk (Kd.S_below (Kd.S_mono (ok' := fun z => z < g8) (Kd.S_bound HO.out) (fun z hz => Nat.lt_of_lt_of_le hz.2.2.1 hle)) hb); replace BX := BX.b hb; replace BE := BE.b hb; replace HB := Bw.sw w hb; clear hb hle hlt2; simp only [Act.put, List.setIfInBounds_toArray, List.set_cons_zero, List.set_cons_succ]))
      clear x0_ x1_ x2_ x3_ x4_ ga0 ga1 ga2 ga3 ga4
      obtain ⟨ga0, ga1, ga2, ga3, ga4, -, -, -, -, -⟩ := blk5 BX.h
      by_cases h5 : x.f0 = 5
      · as_aux_lemma =>
        unfold stepAt at as_
        rw [if_pos h5] at as_
        have h9 := yesN as_
        clear as_
        obtain ⟨hi3, as_⟩ := h9
        have hs := Option.some.inj as_
        have e5 : (x.f0 == 5) = true := beq_iff_eq.mpr h5
        have ck4 : ((i : Int) < (x.f3.length : Int)) = True := eq_true (by omega)
        obtain ⟨ak, As, cs, eK, xk, hls, hks⟩ := at_L1 G3.out (i : Int) (by omega) (by omega)
        subst eK
        replace xk := (HB.out.cell (World.block_lt_of_cell? w _ xk)).trans xk
        simp only [Int.toNat_natCast] at xk
        clear h5 as_
        go_upto_region 10 with ((with_reducible refine gate_store (t := 79) (p := 8) (v := .tmp 35) rfl ?_); refine stfl (bs := #[.int .i64 0, .slice As (rd_L1 x.f3 (i : Int)).length cs, .int .i64 0]) (cs' := #[.int .i64 0, .slice As (rd_L1 x.f3 (i : Int)).length cs, .int .i64 0]) rfl rfl rfl rfl rfl (by kernel_rfl) (by simp [Value.oneCell']) BS (by simp) rfl ?_; intro w9 BSn ho_; replace BX := BX.mv ho_ (.inl l38); replace BE := BE.mv ho_ (.inl l78); replace HO := Aside0.mk (Kd.S_step HO.out (fun z hz hl => ho_.block z hl (.inl hz))); replace HB := Bw.mk (w := w) (ho_.below HB.out ge8); clear ho_ ga0 ga1 ga2 ga3 ga4 BS)
        have BS : Bx w9 g8 79 #[.int .i64 s.f0, .slice As s.f1.length cs, .int .i64 s.f2] := by rw [← hs]; exact BSn
        replace hls : s.f1.length ≤ cs := by rw [← hs]; exact hls
        replace hks : Kd.C (Kd.int .u8) w As s.f1.length s.f1 := by rw [← hs]; exact hks
        clear BSn
        obtain ⟨wc, hwc⟩ : ∃ z, z = w9 := ⟨_, rfl⟩
        subst hwc
        replace HO := Aside0.mk (Kd.S_mono (ok' := fun _ => True) HO.out (fun _ _ => trivial))
        have HK := Aside0.mk hks
        have HL := Aside0.mk hls
        have BXq : ∃ z : Array Value, Bx wc g3 30 z ∧ z = _ := ⟨_, BX, rfl⟩
        clear BX
        obtain ⟨cx, BX, hcx⟩ := BXq
        clear hs hks hls l78 l38 ge8
        try clear ga0 ga1 ga2 ga3 ga4
        have hdr : Below wc.heap.size wc wc.drew := below_drew1 (Below.refl _ _)
        refine start_ (n := 10) (S := fun w' => Bx w' g8 79 #[.int .i64 s.f0, .slice As s.f1.length cs, .int .i64 s.f2] ∧ Bx w' g7 30 #[.int .i64 y.f0, .int .i64 y.f1, .slice B2 y.f2.length b2, .slice B3 y.f3.length b3, .slice B4 y.f4.length b4]) (ds := []) #[false, false, false, false, false, false, false, false, false, false] (by kernel_rfl) rfl rfl ⟨BS.b hdr, BE.b hdr⟩ (fun hH => ?_)
        generalize wc.drew = wd at hdr hH ⊢
        replace BS := BS.b hdr
        replace BE := BE.b hdr
        replace BX := BX.b hdr
        replace HO := Aside0.mk (Kd.S_below HO.out hdr)
        replace HB := Bw.sw w hdr
        clear hdr
        refine pure_ (i := 0) (N := some 36) (v := ?_) (a' := ?_) #[true, false, false, false, false, false, false, false, false, false] rfl rfl (by kernel_rfl) (fun _ _ _ h => h) (Or.inl ⟨by rfl, ?_⟩) ?_ ?_
        rotate_left
        ·intro w'
         go_simp
         with_reducible rfl
        rotate_left
        ·simp only [Act.put, List.setIfInBounds_toArray, List.set_cons_zero, List.set_cons_succ, i64_w, i32_w]
         rfl
        refine pure_ (i := 1) (N := some 37) (v := ?_) (a' := ?_) #[true, true, false, false, false, false, false, false, false, false] rfl rfl (by kernel_rfl) (fun _ _ _ h => h) (Or.inl ⟨by rfl, ?_⟩) ?_ ?_
        rotate_left
        ·intro w'
         go_simp
         with_reducible rfl
        rotate_left
        ·simp only [Act.put, List.setIfInBounds_toArray, List.set_cons_zero, List.set_cons_succ, i64_w, i32_w]
         rfl
        refine take_ (i := 3) (N := some 39) (v := .agg #[.int .i64 s.f0, .slice As s.f1.length cs, .int .i64 s.f2]) (a' := ?_) #[true, true, false, true, false, false, false, false, false, false] rfl rfl (by kernel_rfl) (fun _ _ _ h => h) (Or.inl ⟨by rfl, ?_⟩) hH ?_ ?_
        ·rintro w' ⟨s0, s1⟩
         exact ld_op rfl rfl s0 ⟨⟨_, Try.underlying79⟩, by kernel_rfl⟩
        rotate_left
        ·simp only [Act.put, List.setIfInBounds_toArray, List.set_cons_zero, List.set_cons_succ, i64_w, i32_w]
         rfl
        refine take_ (i := 6) (N := some 42) (v := .agg #[.int .i64 y.f0, .int .i64 y.f1, .slice B2 y.f2.length b2, .slice B3 y.f3.length b3, .slice B4 y.f4.length b4]) (a' := ?_) #[true, true, false, true, false, false, true, false, false, false] rfl rfl (by kernel_rfl) (fun _ _ _ h => h) (Or.inl ⟨by rfl, ?_⟩) hH ?_ ?_
        ·rintro w' ⟨s0, s1⟩
         exact ld_op rfl rfl s1 ⟨⟨_, Try.underlying30⟩, by kernel_rfl⟩
        rotate_left
        ·simp only [Act.put, List.setIfInBounds_toArray, List.set_cons_zero, List.set_cons_succ, i64_w, i32_w]
         rfl
        have HO2 := Aside0.mk (Kd.S_mono (ok' := fun z => z < wd.heap.size) (Kd.S_bound HO.out) (fun z hz => hz.2.2.1))
        have l8 := BS.lt
        have l7 := BE.lt
        have l3 := BX.lt
        refine join_ (σ := Value × Value) 4 #[true, true, true, true, true, false, true, false, false, false] (fun s_ => [(38, s_.1), (40, s_.2)]) (fun s_ w' => (Bx w' g8 79 #[.int .i64 s.f0, .slice As s.f1.length cs, .int .i64 s.f2] ∧ Bx w' g7 30 #[.int .i64 y.f0, .int .i64 y.f1, .slice B2 y.f2.length b2, .slice B3 y.f3.length b3, .slice B4 y.f4.length b4]) ∧ Bx w' g3 30 cx ∧ Kd.N k79 79 w' w.heap.size (fun _ => True) s_.1 q ∧ (∀ z, s_.1.ownBlock = some z → wd.heap.size ≤ z) ∧ (∃ (A2_ : Option Addr) (c2_ : Nat), s_.2 = .slice A2_ 1 c2_ ∧ Kd.F k79 w' (fun z => some z ≠ s_.1.ownBlock) A2_ 1 [s]) ∧ Kd.S (Kx.sl 79 k79) 59 w' w.heap.size (fun z => z < wd.heap.size) (.slice A5_ out.length c5_) out ∧ Below w.heap.size w w') ?_ ?_
        rotate_left
        ·as_aux_lemma =>
         intro hCont
         refine two_ (i := 2) (j := 4) (Ni := some 38) (Nj := some 40) #[true, true, true, true, false, false, true, false, false, false] #[true, true, false, true, true, false, true, false, false, false] rfl rfl rfl rfl (by kernel_rfl) (by decide) (by decide) (fun K hK => ?_) (fun K hK => ?_)
         ·as_aux_lemma =>
          refine goes_ Try.func104 (by kernel_rfl) rfl #[.slice A p.length c] (by rfl) rfl rfl (by (try simp only [List.map_toArray, List.map_cons, List.map_nil]); first | done | rfl) ?_
          refine (impl_copyPath.calls k _ _ p q _ (cb HP) HC.out AQ.out).mono ?_
          rintro e wq ⟨vq, rfl, hq, hb⟩
          refine ⟨_, rfl, ?_⟩
          replace BS := BS.b hb
          replace BE := BE.b hb
          replace BX := BX.b hb
          replace HO2 := Aside0.mk (Kd.S_below HO2.out hb)
          have hge := fun z hz => S_own_ge hq z hz
          have hlt_ := Kd.S_lt hq
          have HW := HB.out.size
          replace HB := Bw.sw w hb
          clear hb
          refine hK.out _ _ ⟨BS, BE⟩ (fun hH => ?_)
          clear hK K
          refine norm_ (a' := ?_) ?_ ?_
          rotate_left
          ·show Act.put _ (some 38) _ = _
           simp only [Act.put, List.setIfInBounds_toArray, List.set_cons_zero, List.set_cons_succ, i64_w, i32_w]
           rfl
          refine one_ (i := 4) (N := some 40) #[true, true, true, true, true, false, true, false, false, false] rfl rfl (by kernel_rfl) (by decide) (fun K hK => ?_)
          refine Kd.N_lit_step k79 _ 79 (by rfl) (N' := 40) rfl (xs := [s]) (inner := [.int .i64 s.f0, .slice As s.f1.length cs, .int .i64 s.f2]) (ok := fun z => some z ≠ vq.ownBlock) (okp := fun z => z < w.heap.size) ?hr ⟨rfl, fun j z hj => by cases j with | zero => (obtain rfl := Option.some.inj hj; exact stepFK s As cs HL.out HK.out HB.out) | succ j => simp at hj⟩ (fun z hz e => by have := hge z e.symm; omega) (fun e => Nat.lt_irrefl _ (hlt_ _ e.symm)) (Below.refl _ _) (Nat.le_refl _) (by simp) ?_
          (case hr => first | (go_simp; done) | (go_simp; rfl))
          intro v2 w2 hl hb hg_ hn_
          have hn := Kd.N_below (Kd.N_lower (Kd.S_N hq) HW) hb
          replace BS := BS.b hb
          replace BE := BE.b hb
          replace BX := BX.b hb
          replace HO2 := Aside0.mk (Kd.S_below HO2.out hb)
          replace HB := Bw.sw w hb
          obtain ⟨A2_, c2_, e2_⟩ := Kd.N_slice hl
          subst e2_
          have hF := Kd.N_F hl
          refine hK.out _ _ ⟨BS, BE⟩ (fun hH => ?_)
          clear hK K
          refine norm_ (a' := ?_) ?_ ?_
          rotate_left
          ·show Act.put _ (some 40) _ = _
           simp only [Act.put, List.setIfInBounds_toArray, List.set_cons_zero, List.set_cons_succ, i64_w, i32_w]
           rfl
          exact norm_ (by simp only [putAll, Act.put, List.setIfInBounds_toArray, List.set_cons_zero, List.set_cons_succ]; first | done | rfl) (hCont (vq, .slice A2_ 1 c2_) _ ⟨⟨BS, BE⟩, BX, hn, hge, ⟨A2_, c2_, rfl, hF⟩, HO2.out, HB.out⟩)
         ·as_aux_lemma =>
          refine Kd.N_lit_step k79 _ 79 (by rfl) (N' := 40) rfl (xs := [s]) (inner := [.int .i64 s.f0, .slice As s.f1.length cs, .int .i64 s.f2]) (ok := fun _ => True) (okp := fun z => z < w.heap.size) ?hr ⟨rfl, fun j z hj => by cases j with | zero => (obtain rfl := Option.some.inj hj; exact stepFK s As cs HL.out HK.out HB.out) | succ j => simp at hj⟩ (fun _ _ => trivial) trivial (Below.refl _ _) (Nat.le_refl _) (by simp) ?_
          (case hr => first | (go_simp; done) | (go_simp; rfl))
          intro v2 w2 hl hb hg_ hn_
          replace BS := BS.b hb
          replace BE := BE.b hb
          replace BX := BX.b hb
          replace HO2 := Aside0.mk (Kd.S_below HO2.out hb)
          have HW := Nat.le_trans HB.out.size hb.size
          have HD := hb.size
          replace HB := Bw.sw w hb
          obtain ⟨A2_, c2_, e2_⟩ := Kd.N_slice hl
          subst e2_
          have hF := Kd.F_bound (Kd.N_F hl)
          clear hb
          refine hK.out _ _ ⟨BS, BE⟩ (fun hH => ?_)
          clear hK K
          refine norm_ (a' := ?_) ?_ ?_
          rotate_left
          ·show Act.put _ (some 40) _ = _
           simp only [Act.put, List.setIfInBounds_toArray, List.set_cons_zero, List.set_cons_succ, i64_w, i32_w]
           rfl
          refine one_ (i := 2) (N := some 38) #[true, true, true, true, true, false, true, false, false, false] rfl rfl (by kernel_rfl) (by decide) (fun K hK => ?_)
          refine goes_ Try.func104 (by kernel_rfl) rfl #[.slice A p.length c] (by rfl) rfl rfl (by (try simp only [List.map_toArray, List.map_cons, List.map_nil]); first | done | rfl) ?_
          refine (impl_copyPath.calls k _ _ p q _ (cb HP) HC.out AQ.out).mono ?_
          rintro e wq ⟨vq, rfl, hq, hb⟩
          refine ⟨_, rfl, ?_⟩
          have hge := fun z hz => S_own_ge hq z hz
          replace BS := BS.b hb
          replace BE := BE.b hb
          replace BX := BX.b hb
          replace HO2 := Aside0.mk (Kd.S_below HO2.out hb)
          replace hF := Kd.F_mono (ok' := fun z => some z ≠ vq.ownBlock) (Kd.F_below hF hb) (fun z hz e => Nat.not_lt.2 (hge z e.symm) hz.2)
          replace HB := Bw.sw w hb
          have hn := Kd.N_lower (Kd.S_N hq) HW
          clear hb
          refine hK.out _ _ ⟨BS, BE⟩ (fun hH => ?_)
          clear hK K
          refine norm_ (a' := ?_) ?_ ?_
          rotate_left
          ·show Act.put _ (some 38) _ = _
           simp only [Act.put, List.setIfInBounds_toArray, List.set_cons_zero, List.set_cons_succ, i64_w, i32_w]
           rfl
          exact norm_ (by simp only [putAll, Act.put, List.setIfInBounds_toArray, List.set_cons_zero, List.set_cons_succ]; first | done | rfl) (hCont (vq, .slice A2_ 1 c2_) _ ⟨⟨BS, BE⟩, BX, hn, fun z hz => Nat.le_trans HD (hge z hz), ⟨A2_, c2_, rfl, hF⟩, HO2.out, HB.out⟩)
        clear BS BE BX HO HO2 HB
        rintro ⟨vq, v2⟩ wj ⟨⟨BS, BE⟩, BX, hn, hown, ⟨A2_, c2_, e2_, hF⟩, ho2, hbj⟩
        replace hown : ∀ z, vq.ownBlock = some z → wd.heap.size ≤ z := hown
        replace hn : Kd.N k79 79 wj w.heap.size (fun _ => True) vq q := hn
        replace hF : Kd.F k79 wj (fun z => some z ≠ vq.ownBlock) A2_ 1 [s] := hF
        obtain rfl : v2 = .slice A2_ 1 c2_ := e2_
        have HB := Bw.mk (w := w) hbj
        clear hbj
        refine norm_ (a' := ?_) ?_ ?_
        rotate_left
        ·simp only [putAll, Act.put, List.setIfInBounds_toArray, List.set_cons_zero, List.set_cons_succ]
         rfl
        refine one_ (i := 5) (N := some 41) #[true, true, true, true, true, true, true, false, false, false] rfl rfl (by kernel_rfl) (by decide) (fun K hK => ?_)
        refine Kd.N_append_rows_step k79 (w0 := w) w.heap.size (by rfl) (.tmp 38) (.tmp 40) 59 79 (.agg #[.int .i64 0, .slice none 0 0, .int .i64 0]) 40 rfl Try.underlying59 info79 rfl (by decide) (by omega) vq q [s] A2_ 1 c2_ (fun _ => True) (fun z => some z ≠ vq.ownBlock) rfl rfl hn hF (fun z hz => ⟨trivial, hz⟩) (fun _ _ => trivial) HB.out HB.out.size (by have := HQL.out; omega) ?_
        intro v41 w5 hn5 hb5 hg5 hat5
        replace BS := BS.grown hg5 (fun e => by have := hown _ e.symm; omega)
        replace BE := BE.grown hg5 (fun e => by have := hown _ e.symm; omega)
        replace BX := BX.grown hg5 (fun e => by have := hown _ e.symm; omega)
        have HO3 := Aside0.mk (Kd.S_step ho2 (fun z hz hl => hg5.block z hl (fun e => Nat.not_lt.2 (hown _ e.symm) hz)))
        clear hn hF ho2
        replace HB := Bw.mk (w := w) hb5
        clear hb5 hg5 hat5
        refine hK.out _ _ ⟨BS, BE⟩ (fun hH => ?_)
        clear hK K
        refine norm_ (a' := ?_) ?_ ?_
        rotate_left
        ·show Act.put _ (some 41) _ = _
         simp only [Act.put, List.setIfInBounds_toArray, List.set_cons_zero, List.set_cons_succ, i64_w, i32_w]
         rfl
        obtain ⟨A5, c5, e5_, hl5, hC5⟩ := Kd.N_reads hn5
        subst e5_
        refine one_ (i := 7) (N := some 43) #[true, true, true, true, true, true, true, true, false, false] rfl rfl (by kernel_rfl) (by decide) (fun K hK => ?_)
        refine goes_ Try.func69 (by kernel_rfl) rfl #[.slice A5 (q ++ [s]).length c5, .agg #[.int .i64 y.f0, .int .i64 y.f1, .slice B2 y.f2.length b2, .slice B3 y.f3.length b3, .slice B4 y.f4.length b4]] (by rfl) rfl rfl (by (try simp only [List.map_toArray, List.map_cons, List.map_nil]); first | done | rfl) ?_
        refine (ih (q ++ [s]) y A5 c5 #[.int .i64 y.f0, .int .i64 y.f1, .slice B2 y.f2.length b2, .slice B3 y.f3.length b3, .slice B4 y.f4.length b4] a _ hC5 hl5 (KY.out.b HB.out) AA.out).mono ?_
        rintro e w7_ ⟨v43, rfl, hr, hb⟩
        refine ⟨_, rfl, ?_⟩
        replace BS := BS.b hb
        replace BE := BE.b hb
        replace BX := BX.b hb
        have hul := Kd.S_lt HO3.out
        replace HO3 := Aside0.mk (Kd.S_mono (ok' := fun z => z < w5.heap.size) (Kd.S_below (Kd.S_bound HO3.out) hb) (fun z hz => hz.2.2.1))
        have HW5 := HB.out.size
        replace HB := Bw.sw w hb
        clear hb hn5 hC5 hl5
        refine hK.out _ _ ⟨BS, BE⟩ (fun hH => ?_)
        clear hK K
        refine norm_ (a' := ?_) ?_ ?_
        rotate_left
        ·show Act.put _ (some 43) _ = _
         simp only [Act.put, List.setIfInBounds_toArray, List.set_cons_zero, List.set_cons_succ, i64_w, i32_w]
         rfl
        obtain ⟨A6, c6, e6_⟩ := Kd.S_slice hr
        subst e6_
        refine one_ (i := 8) (N := some 44) #[true, true, true, true, true, true, true, true, true, false] rfl rfl (by kernel_rfl) (by decide) (fun K hK => ?_)
        refine S_append_rows_step (Kx.sl 79 k79) (w0 := w) w.heap.size (by rfl) (.tmp 36) (.tmp 43) 40 59 (.slice none 0 0) 24 rfl Try.underlying40 info59 rfl (by decide) (by omega) (.slice A5_ out.length c5_) out a A6 a.length c6 (fun _ => True) (fun z => w5.heap.size ≤ z) rfl rfl (fun z hz => ⟨trivial, fun e => Nat.not_lt.2 hz (hul z e.symm)⟩) (fun _ _ => trivial) (Kd.S_mono HO3.out (fun z hz => ⟨trivial, Nat.not_le.2 hz⟩)) (Kd.S_lower (Kd.S_mono (Kd.S_bound hr) (fun z hz => hz.2.1)) HW5) HB.out HB.out.size (by have := HOL.out; omega) ?_
        intro v44 w9 hs9 hb9 hg9 hat9
        replace BS := BS.grown hg9 (Kd.S_ne HO3.out BS.h (by decide))
        replace BE := BE.grown hg9 (Kd.S_ne HO3.out BE.h (by decide))
        replace BX := BX.grown hg9 (Kd.S_ne HO3.out BX.h (by decide))
        replace HB := Bw.mk (w := w) hb9
        clear hb9 hg9 hat9 hr HO3 hul
        refine hK.out _ _ ⟨BS, BE⟩ (fun hH => ?_)
        clear hK K
        refine norm_ (a' := ?_) ?_ ?_
        rotate_left
        ·show Act.put _ (some 44) _ = _
         simp only [Act.put, List.setIfInBounds_toArray, List.set_cons_zero, List.set_cons_succ, i64_w, i32_w]
         rfl
        refine pure_ (i := 9) (N := some 5) (v := ?_) (a' := ?_) #[true, true, true, true, true, true, true, true, true, true] rfl rfl (by kernel_rfl) (fun _ _ _ h => h) (Or.inl ⟨by rfl, ?_⟩) ?_ ?_
        rotate_left
        ·intro w'
         go_simp
         with_reducible rfl
        rotate_left
        ·simp only [Act.put, List.setIfInBounds_toArray, List.set_cons_zero, List.set_cons_succ, i64_w, i32_w]
         rfl
        refine done_ (by kernel_rfl) ?_
        try go_wp2
        go_roundw
        case rel => exact ⟨i + 1, out ++ a, by omega, by go_num, H', ⟨hs9⟩, (by rw [← hcx]; exact BX), ⟨bw⟩⟩
        case measure => simp [intOf]; omega
      · as_aux_lemma =>
        unfold stepAt at as_
        rw [if_neg h5] at as_
        have hs := Option.some.inj as_
        have e5 : (x.f0 == 5) = false := beq_eq_false_iff_ne.mpr h5
        clear h5 as_
        go_upto_region 10 with (fail)
        obtain ⟨As, cs, hls, hks, BS⟩ : ∃ (As : Option Addr) (cs : Nat), s.f1.length ≤ cs ∧ Kd.C (Kd.int .u8) w As s.f1.length s.f1 ∧ Bx w8 g8 79 #[.int .i64 s.f0, .slice As s.f1.length cs, .int .i64 s.f2] := ⟨none, 0, by rw [← hs]; exact Nat.le_refl _, by rw [← hs]; exact Kd.C_nil _ _, by rw [← hs]; exact BS⟩
        obtain ⟨wc, hwc⟩ : ∃ z, z = w8 := ⟨_, rfl⟩
        subst hwc
        replace HO := Aside0.mk (Kd.S_mono (ok' := fun _ => True) HO.out (fun _ _ => trivial))
        have HK := Aside0.mk hks
        have HL := Aside0.mk hls
        have BXq : ∃ z : Array Value, Bx wc g3 30 z ∧ z = _ := ⟨_, BX, rfl⟩
        clear BX
        obtain ⟨cx, BX, hcx⟩ := BXq
        clear hs hks hls l78 l38 ge8
        try clear ga0 ga1 ga2 ga3 ga4
        have hdr : Below wc.heap.size wc wc.drew := below_drew1 (Below.refl _ _)
        refine start_ (n := 10) (S := fun w' => Bx w' g8 79 #[.int .i64 s.f0, .slice As s.f1.length cs, .int .i64 s.f2] ∧ Bx w' g7 30 #[.int .i64 y.f0, .int .i64 y.f1, .slice B2 y.f2.length b2, .slice B3 y.f3.length b3, .slice B4 y.f4.length b4]) (ds := []) #[false, false, false, false, false, false, false, false, false, false] (by kernel_rfl) rfl rfl ⟨BS.b hdr, BE.b hdr⟩ (fun hH => ?_)
        generalize wc.drew = wd at hdr hH ⊢
        replace BS := BS.b hdr
        replace BE := BE.b hdr
        replace BX := BX.b hdr
        replace HO := Aside0.mk (Kd.S_below HO.out hdr)
        replace HB := Bw.sw w hdr
        clear hdr
        refine pure_ (i := 0) (N := some 36) (v := ?_) (a' := ?_) #[true, false, false, false, false, false, false, false, false, false] rfl rfl (by kernel_rfl) (fun _ _ _ h => h) (Or.inl ⟨by rfl, ?_⟩) ?_ ?_
        rotate_left
        ·intro w'
         go_simp
         with_reducible rfl
        rotate_left
        ·simp only [Act.put, List.setIfInBounds_toArray, List.set_cons_zero, List.set_cons_succ, i64_w, i32_w]
         rfl
        refine pure_ (i := 1) (N := some 37) (v := ?_) (a' := ?_) #[true, true, false, false, false, false, false, false, false, false] rfl rfl (by kernel_rfl) (fun _ _ _ h => h) (Or.inl ⟨by rfl, ?_⟩) ?_ ?_
        rotate_left
        ·intro w'
         go_simp
         with_reducible rfl
        rotate_left
        ·simp only [Act.put, List.setIfInBounds_toArray, List.set_cons_zero, List.set_cons_succ, i64_w, i32_w]
         rfl
        refine take_ (i := 3) (N := some 39) (v := .agg #[.int .i64 s.f0, .slice As s.f1.length cs, .int .i64 s.f2]) (a' := ?_) #[true, true, false, true, false, false, false, false, false, false] rfl rfl (by kernel_rfl) (fun _ _ _ h => h) (Or.inl ⟨by rfl, ?_⟩) hH ?_ ?_
        ·rintro w' ⟨s0, s1⟩
         exact ld_op rfl rfl s0 ⟨⟨_, Try.underlying79⟩, by kernel_rfl⟩
        rotate_left
        ·simp only [Act.put, List.setIfInBounds_toArray, List.set_cons_zero, List.set_cons_succ, i64_w, i32_w]
         rfl
        refine take_ (i := 6) (N := some 42) (v := .agg #[.int .i64 y.f0, .int .i64 y.f1, .slice B2 y.f2.length b2, .slice B3 y.f3.length b3, .slice B4 y.f4.length b4]) (a' := ?_) #[true, true, false, true, false, false, true, false, false, false] rfl rfl (by kernel_rfl) (fun _ _ _ h => h) (Or.inl ⟨by rfl, ?_⟩) hH ?_ ?_
        ·rintro w' ⟨s0, s1⟩
         exact ld_op rfl rfl s1 ⟨⟨_, Try.underlying30⟩, by kernel_rfl⟩
        rotate_left
        ·simp only [Act.put, List.setIfInBounds_toArray, List.set_cons_zero, List.set_cons_succ, i64_w, i32_w]
         rfl
        have HO2 := Aside0.mk (Kd.S_mono (ok' := fun z => z < wd.heap.size) (Kd.S_bound HO.out) (fun z hz => hz.2.2.1))
        have l8 := BS.lt
        have l7 := BE.lt
        have l3 := BX.lt
        refine join_ (σ := Value × Value) 4 #[true, true, true, true, true, false, true, false, false, false] (fun s_ => [(38, s_.1), (40, s_.2)]) (fun s_ w' => (Bx w' g8 79 #[.int .i64 s.f0, .slice As s.f1.length cs, .int .i64 s.f2] ∧ Bx w' g7 30 #[.int .i64 y.f0, .int .i64 y.f1, .slice B2 y.f2.length b2, .slice B3 y.f3.length b3, .slice B4 y.f4.length b4]) ∧ Bx w' g3 30 cx ∧ Kd.N k79 79 w' w.heap.size (fun _ => True) s_.1 q ∧ (∀ z, s_.1.ownBlock = some z → wd.heap.size ≤ z) ∧ (∃ (A2_ : Option Addr) (c2_ : Nat), s_.2 = .slice A2_ 1 c2_ ∧ Kd.F k79 w' (fun z => some z ≠ s_.1.ownBlock) A2_ 1 [s]) ∧ Kd.S (Kx.sl 79 k79) 59 w' w.heap.size (fun z => z < wd.heap.size) (.slice A5_ out.length c5_) out ∧ Below w.heap.size w w') ?_ ?_
        rotate_left
        ·as_aux_lemma =>
         intro hCont
         refine two_ (i := 2) (j := 4) (Ni := some 38) (Nj := some 40) #[true, true, true, true, false, false, true, false, false, false] #[true, true, false, true, true, false, true, false, false, false] rfl rfl rfl rfl (by kernel_rfl) (by decide) (by decide) (fun K hK => ?_) (fun K hK => ?_)
         ·as_aux_lemma =>
          refine goes_ Try.func104 (by kernel_rfl) rfl #[.slice A p.length c] (by rfl) rfl rfl (by (try simp only [List.map_toArray, List.map_cons, List.map_nil]); first | done | rfl) ?_
          refine (impl_copyPath.calls k _ _ p q _ (cb HP) HC.out AQ.out).mono ?_
          rintro e wq ⟨vq, rfl, hq, hb⟩
          refine ⟨_, rfl, ?_⟩
          replace BS := BS.b hb
          replace BE := BE.b hb
          replace BX := BX.b hb
          replace HO2 := Aside0.mk (Kd.S_below HO2.out hb)
          have hge := fun z hz => S_own_ge hq z hz
          have hlt_ := Kd.S_lt hq
          have HW := HB.out.size
          replace HB := Bw.sw w hb
          clear hb
          refine hK.out _ _ ⟨BS, BE⟩ (fun hH => ?_)
          clear hK K
          refine norm_ (a' := ?_) ?_ ?_
          rotate_left
          ·show Act.put _ (some 38) _ = _
           simp only [Act.put, List.setIfInBounds_toArray, List.set_cons_zero, List.set_cons_succ, i64_w, i32_w]
           rfl
          refine one_ (i := 4) (N := some 40) #[true, true, true, true, true, false, true, false, false, false] rfl rfl (by kernel_rfl) (by decide) (fun K hK => ?_)
          refine Kd.N_lit_step k79 _ 79 (by rfl) (N' := 40) rfl (xs := [s]) (inner := [.int .i64 s.f0, .slice As s.f1.length cs, .int .i64 s.f2]) (ok := fun z => some z ≠ vq.ownBlock) (okp := fun z => z < w.heap.size) ?hr ⟨rfl, fun j z hj => by cases j with | zero => (obtain rfl := Option.some.inj hj; exact stepFK s As cs HL.out HK.out HB.out) | succ j => simp at hj⟩ (fun z hz e => by have := hge z e.symm; omega) (fun e => Nat.lt_irrefl _ (hlt_ _ e.symm)) (Below.refl _ _) (Nat.le_refl _) (by simp) ?_
          (case hr => first | (go_simp; done) | (go_simp; rfl))
          intro v2 w2 hl hb hg_ hn_
          have hn := Kd.N_below (Kd.N_lower (Kd.S_N hq) HW) hb
          replace BS := BS.b hb
          replace BE := BE.b hb
          replace BX := BX.b hb
          replace HO2 := Aside0.mk (Kd.S_below HO2.out hb)
          replace HB := Bw.sw w hb
          obtain ⟨A2_, c2_, e2_⟩ := Kd.N_slice hl
          subst e2_
          have hF := Kd.N_F hl
          refine hK.out _ _ ⟨BS, BE⟩ (fun hH => ?_)
          clear hK K
          refine norm_ (a' := ?_) ?_ ?_
          rotate_left
          ·show Act.put _ (some 40) _ = _
           simp only [Act.put, List.setIfInBounds_toArray, List.set_cons_zero, List.set_cons_succ, i64_w, i32_w]
           rfl
          exact norm_ (by simp only [putAll, Act.put, List.setIfInBounds_toArray, List.set_cons_zero, List.set_cons_succ]; first | done | rfl) (hCont (vq, .slice A2_ 1 c2_) _ ⟨⟨BS, BE⟩, BX, hn, hge, ⟨A2_, c2_, rfl, hF⟩, HO2.out, HB.out⟩)
         ·as_aux_lemma =>
          refine Kd.N_lit_step k79 _ 79 (by rfl) (N' := 40) rfl (xs := [s]) (inner := [.int .i64 s.f0, .slice As s.f1.length cs, .int .i64 s.f2]) (ok := fun _ => True) (okp := fun z => z < w.heap.size) ?hr ⟨rfl, fun j z hj => by cases j with | zero => (obtain rfl := Option.some.inj hj; exact stepFK s As cs HL.out HK.out HB.out) | succ j => simp at hj⟩ (fun _ _ => trivial) trivial (Below.refl _ _) (Nat.le_refl _) (by simp) ?_
          (case hr => first | (go_simp; done) | (go_simp; rfl))
          intro v2 w2 hl hb hg_ hn_
          replace BS := BS.b hb
          replace BE := BE.b hb
          replace BX := BX.b hb
          replace HO2 := Aside0.mk (Kd.S_below HO2.out hb)
          have HW := Nat.le_trans HB.out.size hb.size
          have HD := hb.size
          replace HB := Bw.sw w hb
          obtain ⟨A2_, c2_, e2_⟩ := Kd.N_slice hl
          subst e2_
          have hF := Kd.F_bound (Kd.N_F hl)
          clear hb
          refine hK.out _ _ ⟨BS, BE⟩ (fun hH => ?_)
          clear hK K
          refine norm_ (a' := ?_) ?_ ?_
          rotate_left
          ·show Act.put _ (some 40) _ = _
           simp only [Act.put, List.setIfInBounds_toArray, List.set_cons_zero, List.set_cons_succ, i64_w, i32_w]
           rfl
          refine one_ (i := 2) (N := some 38) #[true, true, true, true, true, false, true, false, false, false] rfl rfl (by kernel_rfl) (by decide) (fun K hK => ?_)
          refine goes_ Try.func104 (by kernel_rfl) rfl #[.slice A p.length c] (by rfl) rfl rfl (by (try simp only [List.map_toArray, List.map_cons, List.map_nil]); first | done | rfl) ?_
          refine (impl_copyPath.calls k _ _ p q _ (cb HP) HC.out AQ.out).mono ?_
          rintro e wq ⟨vq, rfl, hq, hb⟩
          refine ⟨_, rfl, ?_⟩
          have hge := fun z hz => S_own_ge hq z hz
          replace BS := BS.b hb
          replace BE := BE.b hb
          replace BX := BX.b hb
          replace HO2 := Aside0.mk (Kd.S_below HO2.out hb)
          replace hF := Kd.F_mono (ok' := fun z => some z ≠ vq.ownBlock) (Kd.F_below hF hb) (fun z hz e => Nat.not_lt.2 (hge z e.symm) hz.2)
          replace HB := Bw.sw w hb
          have hn := Kd.N_lower (Kd.S_N hq) HW
          clear hb
          refine hK.out _ _ ⟨BS, BE⟩ (fun hH => ?_)
          clear hK K
          refine norm_ (a' := ?_) ?_ ?_
          rotate_left
          ·show Act.put _ (some 38) _ = _
           simp only [Act.put, List.setIfInBounds_toArray, List.set_cons_zero, List.set_cons_succ, i64_w, i32_w]
           rfl
          exact norm_ (by simp only [putAll, Act.put, List.setIfInBounds_toArray, List.set_cons_zero, List.set_cons_succ]; first | done | rfl) (hCont (vq, .slice A2_ 1 c2_) _ ⟨⟨BS, BE⟩, BX, hn, fun z hz => Nat.le_trans HD (hge z hz), ⟨A2_, c2_, rfl, hF⟩, HO2.out, HB.out⟩)
        clear BS BE BX HO HO2 HB
        rintro ⟨vq, v2⟩ wj ⟨⟨BS, BE⟩, BX, hn, hown, ⟨A2_, c2_, e2_, hF⟩, ho2, hbj⟩
        replace hown : ∀ z, vq.ownBlock = some z → wd.heap.size ≤ z := hown
        replace hn : Kd.N k79 79 wj w.heap.size (fun _ => True) vq q := hn
        replace hF : Kd.F k79 wj (fun z => some z ≠ vq.ownBlock) A2_ 1 [s] := hF
        obtain rfl : v2 = .slice A2_ 1 c2_ := e2_
        have HB := Bw.mk (w := w) hbj
        clear hbj
        refine norm_ (a' := ?_) ?_ ?_
        rotate_left
        ·simp only [putAll, Act.put, List.setIfInBounds_toArray, List.set_cons_zero, List.set_cons_succ]
         rfl
        refine one_ (i := 5) (N := some 41) #[true, true, true, true, true, true, true, false, false, false] rfl rfl (by kernel_rfl) (by decide) (fun K hK => ?_)
        refine Kd.N_append_rows_step k79 (w0 := w) w.heap.size (by rfl) (.tmp 38) (.tmp 40) 59 79 (.agg #[.int .i64 0, .slice none 0 0, .int .i64 0]) 40 rfl Try.underlying59 info79 rfl (by decide) (by omega) vq q [s] A2_ 1 c2_ (fun _ => True) (fun z => some z ≠ vq.ownBlock) rfl rfl hn hF (fun z hz => ⟨trivial, hz⟩) (fun _ _ => trivial) HB.out HB.out.size (by have := HQL.out; omega) ?_
        intro v41 w5 hn5 hb5 hg5 hat5
        replace BS := BS.grown hg5 (fun e => by have := hown _ e.symm; omega)
        replace BE := BE.grown hg5 (fun e => by have := hown _ e.symm; omega)
        replace BX := BX.grown hg5 (fun e => by have := hown _ e.symm; omega)
        have HO3 := Aside0.mk (Kd.S_step ho2 (fun z hz hl => hg5.block z hl (fun e => Nat.not_lt.2 (hown _ e.symm) hz)))
        clear hn hF ho2
        replace HB := Bw.mk (w := w) hb5
        clear hb5 hg5 hat5
        refine hK.out _ _ ⟨BS, BE⟩ (fun hH => ?_)
        clear hK K
        refine norm_ (a' := ?_) ?_ ?_
        rotate_left
        ·show Act.put _ (some 41) _ = _
         simp only [Act.put, List.setIfInBounds_toArray, List.set_cons_zero, List.set_cons_succ, i64_w, i32_w]
         rfl
        obtain ⟨A5, c5, e5_, hl5, hC5⟩ := Kd.N_reads hn5
        subst e5_
        refine one_ (i := 7) (N := some 43) #[true, true, true, true, true, true, true, true, false, false] rfl rfl (by kernel_rfl) (by decide) (fun K hK => ?_)
        refine goes_ Try.func69 (by kernel_rfl) rfl #[.slice A5 (q ++ [s]).length c5, .agg #[.int .i64 y.f0, .int .i64 y.f1, .slice B2 y.f2.length b2, .slice B3 y.f3.length b3, .slice B4 y.f4.length b4]] (by rfl) rfl rfl (by (try simp only [List.map_toArray, List.map_cons, List.map_nil]); first | done | rfl) ?_
        refine (ih (q ++ [s]) y A5 c5 #[.int .i64 y.f0, .int .i64 y.f1, .slice B2 y.f2.length b2, .slice B3 y.f3.length b3, .slice B4 y.f4.length b4] a _ hC5 hl5 (KY.out.b HB.out) AA.out).mono ?_
        rintro e w7_ ⟨v43, rfl, hr, hb⟩
        refine ⟨_, rfl, ?_⟩
        replace BS := BS.b hb
        replace BE := BE.b hb
        replace BX := BX.b hb
        have hul := Kd.S_lt HO3.out
        replace HO3 := Aside0.mk (Kd.S_mono (ok' := fun z => z < w5.heap.size) (Kd.S_below (Kd.S_bound HO3.out) hb) (fun z hz => hz.2.2.1))
        have HW5 := HB.out.size
        replace HB := Bw.sw w hb
        clear hb hn5 hC5 hl5
        refine hK.out _ _ ⟨BS, BE⟩ (fun hH => ?_)
        clear hK K
        refine norm_ (a' := ?_) ?_ ?_
        rotate_left
        ·show Act.put _ (some 43) _ = _
         simp only [Act.put, List.setIfInBounds_toArray, List.set_cons_zero, List.set_cons_succ, i64_w, i32_w]
         rfl
        obtain ⟨A6, c6, e6_⟩ := Kd.S_slice hr
        subst e6_
        refine one_ (i := 8) (N := some 44) #[true, true, true, true, true, true, true, true, true, false] rfl rfl (by kernel_rfl) (by decide) (fun K hK => ?_)
        refine S_append_rows_step (Kx.sl 79 k79) (w0 := w) w.heap.size (by rfl) (.tmp 36) (.tmp 43) 40 59 (.slice none 0 0) 24 rfl Try.underlying40 info59 rfl (by decide) (by omega) (.slice A5_ out.length c5_) out a A6 a.length c6 (fun _ => True) (fun z => w5.heap.size ≤ z) rfl rfl (fun z hz => ⟨trivial, fun e => Nat.not_lt.2 hz (hul z e.symm)⟩) (fun _ _ => trivial) (Kd.S_mono HO3.out (fun z hz => ⟨trivial, Nat.not_le.2 hz⟩)) (Kd.S_lower (Kd.S_mono (Kd.S_bound hr) (fun z hz => hz.2.1)) HW5) HB.out HB.out.size (by have := HOL.out; omega) ?_
        intro v44 w9 hs9 hb9 hg9 hat9
        replace BS := BS.grown hg9 (Kd.S_ne HO3.out BS.h (by decide))
        replace BE := BE.grown hg9 (Kd.S_ne HO3.out BE.h (by decide))
        replace BX := BX.grown hg9 (Kd.S_ne HO3.out BX.h (by decide))
        replace HB := Bw.mk (w := w) hb9
        clear hb9 hg9 hat9 hr HO3 hul
        refine hK.out _ _ ⟨BS, BE⟩ (fun hH => ?_)
        clear hK K
        refine norm_ (a' := ?_) ?_ ?_
        rotate_left
        ·show Act.put _ (some 44) _ = _
         simp only [Act.put, List.setIfInBounds_toArray, List.set_cons_zero, List.set_cons_succ, i64_w, i32_w]
         rfl
        refine pure_ (i := 9) (N := some 5) (v := ?_) (a' := ?_) #[true, true, true, true, true, true, true, true, true, true] rfl rfl (by kernel_rfl) (fun _ _ _ h => h) (Or.inl ⟨by rfl, ?_⟩) ?_ ?_
        rotate_left
        ·intro w'
         go_simp
         with_reducible rfl
        rotate_left
        ·simp only [Act.put, List.setIfInBounds_toArray, List.set_cons_zero, List.set_cons_succ, i64_w, i32_w]
         rfl
        refine done_ (by kernel_rfl) ?_
        try go_wp2
        go_roundw
        case rel => exact ⟨i + 1, out ++ a, by omega, by go_num, H', ⟨hs9⟩, (by rw [← hcx]; exact BX), ⟨bw⟩⟩
        case measure => simp [intOf]; omega
def impl_Leaves.g (k : Nat) (a b : Int) (c : List Int) (d : List (List Int)) (e : List S30) : Option (List (List S79)) := (impl_isValue.f k a b c d e).bind fun o => if o = true then leavesF k [] ⟨a, b, c, d, e⟩ else some []
set_option maxHeartbeats 4000000 in
theorem impl_Leaves.kc (k : Nat) (x0 : S30) (b0 : Array Value) (r : List (List S79)) (w : World) (h0 : Rd k30 w x0 b0.toList) (h : impl_Leaves.g k x0.f0 x0.f1 x0.f2 x0.f3 x0.f4 = some r) :
    Calls Try.prog 23 #[.agg b0] w fun e w' => ∃ v : Value, e = .returned v ∧ OwnS (Kx.sl 79 k79) 59 w' w.heap.size w'.heap.size r v ∧ Below w.heap.size w w' := by
  obtain ⟨A2, c2, A3, c3, A4, c4, e0, m2, g2, m3, g3, m4, g4⟩ := k30_open h0.k
  obtain rfl : b0 = #[.int .i64 x0.f0, .int .i64 x0.f1, .slice A2 x0.f2.length c2, .slice A3 x0.f3.length c3, .slice A4 x0.f4.length c4] := by rw [← b0.toArray_toList, e0]
  have HB := Bw.refl w
  have H0 := Aside0.mk h0
  have hx : (⟨x0.f0, x0.f1, x0.f2, x0.f3, x0.f4⟩ : S30) = x0 := by cases x0; rfl
  unfold impl_Leaves.g at h
  rw [hx] at h
  have h9 := bnd h
  clear h
  obtain ⟨o, ao, h⟩ := h9
  have AO := Aside0.mk ao
  have H := Aside0.mk h
  have G2 := Aside0.mk g2
  have G3 := Aside0.mk g3
  have G4 := Aside0.mk g4
  have M2 := Aside0.mk m2
  have M3 := Aside0.mk m3
  have M4 := Aside0.mk m4
  clear h ao h0 e0 g2 g3 g4 m2 m3 m4
  go_enter Try.func23, Try.ntmps23
  cases o with
  | false =>
    have hh := H.out
    rw [if_neg (by decide)] at hh
    obtain rfl := Option.some.inj hh
    clear hh H
    go_wp2_with (first
      | ((with_reducible refine gate_dst (N := 1) rfl ?_); refine bxb (bs := #[.int .i64 x0.f0, .int .i64 x0.f1, .slice A2 x0.f2.length c2, .slice A3 x0.f3.length c3, .slice A4 x0.f4.length c4]) 1 rfl rfl rfl rfl ?_; intro g1 wa BX hb hge hlt; replace HB := Bw.sw w hb; clear hb hge hlt; obtain ⟨ga0, ga1, ga2, ga3, ga4, -, -, -, -, -⟩ := blk5 BX.h; simp only [Act.put, List.setIfInBounds_toArray, List.set_cons_zero, List.set_cons_succ])
      | ((with_reducible refine gate_dst (N := 4) rfl ?_); refine gg (some 4) rfl rfl rfl frLV ?_; refine onc (impl_isValue.calls k _ _ _ _ _ _ _ _ _ _ _ _ _ (cb G2) M2.out (cb G3) M3.out (cb G4) M4.out AO.out) rfl ?_; rintro e9 w9 ⟨rfl, hb⟩; refine ⟨_, rfl, ?_⟩; replace BX := BX.b hb; replace HB := Bw.sw w hb; clear hb ga0 ga1 ga2 ga3 ga4; obtain ⟨ga0, ga1, ga2, ga3, ga4, -, -, -, -, -⟩ := blk5 BX.h; simp only [Act.put, List.setIfInBounds_toArray, List.set_cons_zero, List.set_cons_succ]))
    go_ret
    exact ⟨_, rfl, OwnS.of (Kd.S_nil _ _ _ _ (fun _ => True)) HB.out.size, bw⟩
  | true =>
    have hh := H.out
    rw [if_pos rfl] at hh
    have AL := Aside0.mk hh
    clear hh H
    go_wp2_with (first
      | ((with_reducible refine gate_dst (N := 1) rfl ?_); refine bxb (bs := #[.int .i64 x0.f0, .int .i64 x0.f1, .slice A2 x0.f2.length c2, .slice A3 x0.f3.length c3, .slice A4 x0.f4.length c4]) 1 rfl rfl rfl rfl ?_; intro g1 wa BX hb hge hlt; replace HB := Bw.sw w hb; clear hb hge hlt; obtain ⟨ga0, ga1, ga2, ga3, ga4, -, -, -, -, -⟩ := blk5 BX.h; simp only [Act.put, List.setIfInBounds_toArray, List.set_cons_zero, List.set_cons_succ])
      | ((with_reducible refine gate_dst (N := 4) rfl ?_); refine gg (some 4) rfl rfl rfl frLV ?_; refine onc (impl_isValue.calls k _ _ _ _ _ _ _ _ _ _ _ _ _ (cb G2) M2.out (cb G3) M3.out (cb G4) M4.out AO.out) rfl ?_; rintro e9 w9 ⟨rfl, hb⟩; refine ⟨_, rfl, ?_⟩; replace BX := BX.b hb; replace HB := Bw.sw w hb; clear hb ga0 ga1 ga2 ga3 ga4; obtain ⟨ga0, ga1, ga2, ga3, ga4, -, -, -, -, -⟩ := blk5 BX.h; simp only [Act.put, List.setIfInBounds_toArray, List.set_cons_zero, List.set_cons_succ])
      | ((with_reducible refine gate_dst (N := 7) rfl ?_); refine gg (some 7) rfl rfl rfl frLL ?_; refine onc (impl_leaves.dcalls k [] x0 none 0 _ r _ (Kd.C_nil _ _) (Nat.le_refl _) (H0.out.b HB.out) AL.out) rfl ?_; rintro e9 w9 ⟨v, rfl, ho, hb⟩; refine ⟨_, rfl, ?_⟩; have HO := Aside0.mk (Kd.S_lower ho HB.out.size); replace HB := Bw.sw w hb; clear hb ho; simp only [Act.put, List.setIfInBounds_toArray, List.set_cons_zero, List.set_cons_succ]))
    go_ret
    exact ⟨_, rfl, OwnS.of HO.out HB.out.size, bw⟩
-- KC spec_Leaves {"params":[["agg",30,["f0","f1","f2","f3","f4"]]],"res":["slice","(Kd.slice 79 k79)",59,"List (List (S79))","R"],"hasK":true,"fn":22}
/-- Made between block lo and block hi, to be read. -/
structure OwnF {α : Type} (d : Kd α) (e : Nat) (w : World) (lo hi : Nat) (xs : List α) (v : Value) : Prop where
  n : Kd.N d e w lo (fun k => lo ≤ k ∧ k < hi) v xs
  le : hi ≤ w.heap.size
theorem OwnF.rd {α : Type} {d : Kd α} {e lo hi : Nat} {w : World} {xs : List α} {v : Value} (h : OwnF d e w lo hi xs v) : Rd (Kd.slice e d) w xs [v] := by
  obtain ⟨A, c, rfl, hl, hc⟩ := Kd.N_reads h.n
  exact ⟨⟨A, c, rfl, hl, hc⟩⟩
theorem OwnF.mv {α : Type} {d : Kd α} {e lo hi a c : Nat} {w w' : World} {xs : List α} {v : Value} (h : OwnF d e w lo hi xs v) (ho : M.Outside a c w w') (hd : hi ≤ a ∨ c ≤ lo) : OwnF d e w' lo hi xs v :=
  ⟨Kd.N_step h.n (fun k hk hl => ho.block k hl (by have := hk.1; have := hk.2; omega)), Nat.le_trans h.le ho.size⟩
theorem OwnF.b {α : Type} {d : Kd α} {e lo hi : Nat} {w w' : World} {xs : List α} {v : Value} (h : OwnF d e w lo hi xs v) (hb : Below w.heap.size w w') : OwnF d e w' lo hi xs v := ⟨Kd.N_below h.n hb, Nat.le_trans h.le hb.size⟩
theorem spec_Leaves.kc (k : Nat) (x0 : S30) (b0 : Array Value) (r : List (List S79)) (w : World) (h0 : Rd k30 w x0 b0.toList) (h : spec_Leaves.f k x0.f0 x0.f1 x0.f2 x0.f3 x0.f4 = some r) :
    Calls Try.prog 22 #[.agg b0] w fun e w' => ∃ v : Value, e = .returned v ∧ OwnF (Kd.slice 79 k79) 59 w' w.heap.size w'.heap.size r v ∧ Below w.heap.size w w' := by
  obtain ⟨A2, c2, A3, c3, A4, c4, e0, m2, g2, m3, g3, m4, g4⟩ := k30_open h0.k
  obtain rfl : b0 = #[.int .i64 x0.f0, .int .i64 x0.f1, .slice A2 x0.f2.length c2, .slice A3 x0.f3.length c3, .slice A4 x0.f4.length c4] := by rw [← b0.toArray_toList, e0]
  refine (spec_Leaves.calls k _ _ _ _ _ _ _ _ _ _ _ r w g2 m2 g3 m3 g4 m4 h).mono ?_
  rintro e w' ⟨v, rfl, hn, hb⟩
  exact ⟨v, rfl, ⟨Kd.N_bound hn, Nat.le_refl _⟩, hb⟩
end Go.Proofs.Ytenpjddjmhjdoaa.PFnExactLeaves
