/- What a function comes to, walked by hand. No condition. -/
import Derived.Test.YtockllljeeakaaaPFnExactLocalsx0
import Derived.Test.YtockllljeeakaaaPFnExactLocalsx8
import Derived.Test.YtockllljeeakaaaMrow
import Derived.Test.YtockllljeeakaaaMcore
import Derived.Test.YtockllljeeakaaaMdel
import Derived.Lib.BufferKept
namespace Go.Proofs.Ytockllljeeakaaa.PFnExactLocals
open Go.RowKit Go.Proofs.YtockllljeeakaaaW.PrintWords Go.Proofs.YtockllljeeakaaaW.PrintLast Go.Proofs.YtockllljeeakaaaW.PrintMore Go.Proofs.Ytockllljeeakaaa.M
attribute [local go_sem] max2_int min2_int max_two min_two max_three min_three max_four min_four Go.Proofs.Ytockllljeeakaaa.M.str_gtr Go.Proofs.Ytockllljeeakaaa.M.str_leq Go.Proofs.Ytockllljeeakaaa.M.str_geq   -- for this text's walks alone
set_option linter.unusedVariables false
set_option linter.unusedSimpArgs false
open Go.Lib
/-- Of neighbours that are alike the first. -/
def cp : Option (List Int) → List Pe → List Pe
  | _, [] => []
  | o, p :: r => if o = some p.1 then cp (some p.1) r else p :: cp (some p.1) r
theorem cp_sub : ∀ (o : Option (List Int)) (l : List Pe), (cp o l).Sublist l
  | _, [] => List.Sublist.refl _
  | o, p :: r => by
    rw [cp]
    split
    · exact (cp_sub _ r).cons _
    · exact (cp_sub _ r).cons_cons _
theorem cp_snoc : ∀ (l : List Pe) (o : Option (List Int)) (z q : Pe), l.getLast? = some z → cp o (l ++ [q]) = cp o l ++ (if z.1 = q.1 then [] else [q])
  | [], _, _, _, h => by simp at h
  | [x], o, z, q, h => by
    obtain rfl : x = z := by simpa using h
    simp only [List.cons_append, List.nil_append, cp]
    by_cases e : x.1 = q.1
    · rw [if_pos e, if_pos (congrArg some e)]; split <;> simp
    · rw [if_neg e, if_neg (fun h => e (Option.some.inj h))]; split <;> simp
  | x :: y :: r, o, z, q, h => by
    have ih := cp_snoc (y :: r) (some x.1) z q (by simpa [List.getLast?_cons_cons] using h)
    rw [List.cons_append, cp, cp, ih]
    split <;> simp
theorem cp_take (ps : List Pe) (i : Nat) (h1 : 1 ≤ i) (hi : i < ps.length) : cp none (ps.take (i + 1)) = cp none (ps.take i) ++ (if ps[i - 1].1 = ps[i].1 then [] else [ps[i]]) := by
  have e : ps.take (i + 1) = ps.take i ++ [ps[i]] := by rw [List.take_add_one, List.getElem?_eq_getElem hi]; rfl
  have hl : (ps.take i).length = i := by rw [List.length_take]; omega
  rw [e]
  refine cp_snoc _ _ _ _ ?_
  rw [List.getLast?_eq_getElem?, hl, List.getElem?_take, if_pos (by omega), List.getElem?_eq_getElem]
theorem cp_len (o : Option (List Int)) (l : List Pe) : (cp o l).length ≤ l.length := (cp_sub o l).length_le
/-- The row's block has these cells; all else is as it was. -/
structure Cw (W : World) (g cap : Nat) (cur : Array Value) (w : World) : Prop where
  h : w.heap[g]? = some (.cells cur 22 (0, 0))
  z : cur.size = cap
  o : ∀ j, j < W.heap.size → j ≠ g → w.heap[j]? = W.heap[j]?
  os : w.os = W.os
  tape : w.tape = W.tape
  output : w.output = W.output
  sz : W.heap.size ≤ w.heap.size
theorem Cw.drewN {W w : World} {g cap : Nat} {cur : Array Value} (h : Cw W g cap cur w) (n : Nat) : Cw W g cap cur (w.drewN n) := ⟨h.h, h.z, h.o, h.os, h.tape, h.output, h.sz⟩
theorem Cw.drew {W w : World} {g cap : Nat} {cur : Array Value} (h : Cw W g cap cur w) : Cw W g cap cur w.drew := ⟨h.h, h.z, h.o, h.os, h.tape, h.output, h.sz⟩
theorem Cw.set {W w : World} {g cap : Nat} {cur : Array Value} (h : Cw W g cap cur w) (k : Nat) (v : Value) : Cw W g cap (cur.setIfInBounds k v) (w.setCell ⟨g, k, none⟩ v) :=
  ⟨blk_set h.h k v, by rw [Array.size_setIfInBounds]; exact h.z, fun j hl hj => (Below.heap_setCell _ _ _ _ (fun e => hj e)).trans (h.o j hl hj), h.os, h.tape, h.output, by rw [World.size_setCell]; exact h.sz⟩
theorem Cw.C {W w : World} {g cap : Nat} {cur : Array Value} (h : Cw W g cap cur w) {A : Option Addr} {xs : List Int} (hC : (Kd.int .u8).C W A xs.length xs) (hg : ∀ ad, A = some ad → 0 < xs.length → ad.block ≠ g) : (Kd.int .u8).C w A xs.length xs := by
  refine ⟨hC.1, hC.2.1, fun hn => ?_⟩
  obtain ⟨ad, e, hc⟩ := hC.2.2 hn
  refine ⟨ad, e, fun j p hj => ?_⟩
  obtain ⟨c, h1, h2, h3⟩ := hc j p hj
  refine ⟨c, h1, h2, fun i u hu => ?_⟩
  have h4 := h3 i u hu
  have he := h.o (ad.add (j * (Kd.int .u8).sz + i)).block (World.block_lt_of_cell? W _ h4) (by rw [add_block]; exact hg ad e hn)
  unfold World.cell? at h4 ⊢
  rw [he]
  exact h4
theorem Cw.bel {W w w0 : World} {g cap : Nat} {cur : Array Value} (h : Cw W g cap cur w) (hb : Below w0.heap.size w0 W) (hg : w0.heap.size ≤ g) : Below w0.heap.size w0 w :=
  ⟨h.os.trans hb.os, h.tape.trans hb.tape, h.output.trans hb.output, Nat.le_trans hb.size h.sz, fun k hk => (h.o k (Nat.lt_of_lt_of_le hk hb.size) (by omega)).trans (hb.block k hk)⟩
theorem Cw.b {W w w' : World} {g cap : Nat} {cur : Array Value} (h : Cw W g cap cur w) (hb : Below w.heap.size w w') : Cw W g cap cur w' :=
  ⟨(hb.block g (blk_lt h.h)).trans h.h, h.z, fun j hl hj => (hb.block j (Nat.lt_of_lt_of_le hl h.sz)).trans (h.o j hl hj), hb.os.trans h.os, hb.tape.trans h.tape, hb.output.trans h.output, Nat.le_trans h.sz hb.size⟩
theorem Cw.kept {W w : World} {g cap : Nat} {cur cur0 : Array Value} (h : Cw W g cap cur w) (hg : W.heap[g]? = some (.cells cur0 22 (0, 0))) : OthersKept 22 none W w := fun k o hk _ hne => by
  refine (h.o k (blk_lt hk) fun e => ?_).trans hk
  rw [e, hg] at hk
  injection hk with hk
  exact hne _ _ hk.symm
/-- The row whose block has these cells. -/
theorem Cw.rw {W w : World} {g cap base n : Nat} {cur : Array Value} {ps qs : List Pe} (h : Cw W g cap cur w) (hr : Rw W base (.slice (some ⟨g, 0, none⟩) n cap) ps) (hq : qs.Sublist ps) (hl : qs.length ≤ cap) (hm : cap ≤ maxLen) (hb : base ≤ g) (hc : ∀ (j : Nat) (p : Pe), qs[j]? = some p → cur[j]? = some p.2.1) : Rw w base (.slice (some ⟨g, 0, none⟩) qs.length cap) qs := by
  refine ⟨Kd.R_of_own (h1 := fun x : OC => x.2) (ok := fun _ => True) ?_ (fun _ _ => trivial), fun p hp => ?_, (hq.filterMap own1).nodup hr.nd⟩
  · have e : encs (fun x : OC => x.1) (qs.map (·.2)) = qs.map fun p => p.2.1 := by simp [encs]
    rw [e, List.length_map]
    refine ⟨by simp, .inr ⟨g, cap, cur, rfl, hb, h.h, hl, hm, by rw [h.z, Nat.mul_one], ?_⟩⟩
    apply List.ext_getElem?
    intro j
    rw [List.getElem?_take, Array.getElem?_toList, Nat.mul_one, List.getElem?_map]
    by_cases hj : j < qs.length
    · rw [if_pos hj, hc j qs[j] (List.getElem?_eq_getElem hj), List.getElem?_eq_getElem hj]; rfl
    · rw [if_neg hj, List.getElem?_eq_none (by omega)]; rfl
  · have hel := hr.el p (hq.mem hp)
    refine Kd.R_mono (Kd.R_step (ok := fun k => k ≠ g) (Kd.R_mono (Kd.R_bound hel) fun k hk e => ?_) fun k hk hlt => h.o k hlt hk) (fun _ _ => trivial)
    obtain ⟨_, _, _, q, hq1, cells, hq2⟩ := hk
    obtain ⟨c2, hg⟩ := Kd.R_typed hr.o g (by simp [Value.ownBlock])
    rw [e, hg] at hq2
    injection hq2 with hq2
    injection hq2 with _ hq2
    rw [← hq2] at hq1
    exact absurd hq1 (by decide)
theorem cp_one : ∀ (l : List Pe), l.length ≤ 1 → cp none l = l
  | [], _ => rfl
  | [p], _ => by rw [cp, if_neg (by simp), cp]
  | _ :: _ :: _, h => by simp at h
theorem bytes_eq (a b : List Int) (ha : By a) (hb : By b) : bytes_Equal.f a b = some (decide (a = b)) := by
  unfold bytes_Equal.f
  rw [str_inj ha hb]
/-- Whatever lies in the row leads to bytes that lie elsewhere. -/
theorem rw_at {W : World} {base g n cap : Nat} {ps : List Pe} (h : Rw W base (.slice (some ⟨g, 0, none⟩) n cap) ps) (p : Pe) (hp : p ∈ ps) : ∃ (A : Option Addr) (c : Nat), p.2.1 = .slice A p.1.length c ∧ p.1.length ≤ c ∧ (Kd.int .u8).C W A p.1.length p.1 ∧ ∀ ad, A = some ad → 0 < p.1.length → ad.block ≠ g := by
  have hel := h.el p hp
  obtain ⟨A, c, e1, h1, h2⟩ := (Kd.slice 5 (Kd.int .u8)).K_of_M (w := W) (base := base) (ok := fun _ => True) (x := p.1) (cs := [p.2.1]) ⟨p.2.1, rfl, hel⟩
  injection e1 with e1
  refine ⟨A, c, e1, h1, h2, fun ad ea hl => ?_⟩
  subst ea
  obtain ⟨g2, eg⟩ := Kd.R_head (show (Kd.int .u8).R 5 W base (fun _ => True) (.slice (some ad) p.1.length c) p.1 from e1 ▸ hel)
  obtain ⟨cells, hc⟩ := Kd.R_typed hel g2 (by rw [e1, eg]; simp [Value.ownBlock])
  obtain ⟨c2, hg⟩ := Kd.R_typed h.o g (by simp [Value.ownBlock])
  intro e2
  rw [eg] at e2
  have e3 : g2 = g := e2
  rw [e3, hg] at hc
  injection hc with hc
  injection hc with _ hc
  exact absurd hc (by decide)
theorem cp_set {xs : List Pe} {p0 : Pe} {cur : Array Value} {q : Nat} {x : Value} (hq : q < cur.size) (hl : q = xs.length) (h : ∀ (j : Nat) (p : Pe), xs[j]? = some p → cur[j]? = some p.2.1) (e : p0.2.1 = x) (j : Nat) (p : Pe) (hj : (xs ++ [p0])[j]? = some p) : (cur.setIfInBounds q x)[j]? = some p.2.1 := by
  rw [Array.getElem?_setIfInBounds]
  by_cases ej : q = j
  · subst ej
    rw [if_pos rfl, if_pos hq]
    rw [List.getElem?_append_right (by omega), ← hl, Nat.sub_self] at hj
    obtain rfl : p0 = p := by simpa using hj
    rw [e]
  · rw [if_neg ej]
    have hjl := (List.getElem?_eq_some_iff.1 hj).1
    rw [List.length_append] at hjl
    simp at hjl
    exact h j p (by rwa [List.getElem?_append_left (by omega)] at hj)
section
variable {P : Program} {md : Region.Mode} {ops : Array Oper} {Q : Exit → Act → World → Prop}
/-- A call of a function value. -/
theorem goesD_ {oi : Oper} {N : Option Tmp} {a : Act} {w : World} {K : Act → World → Prop} {f : FuncId} {fn : Func} {p : Tmp} {asx : Array Operand} {ts : Array TypeId} (hf : P.funcs[f]? = some fn) (hname : (fn.name == "runtime.NumGoroutine") = false) (hb : fn.body.isSome = true) (args : Array Value)
    (hw : Region.wanted oi (yielded ops a.tmps) = true) (hN : oi.dst = N) (hop : oi.op = .call { callee := .value (.tmp p), args := asx, argTypes := ts }) (hp : a.eval (.tmp p) = .func (.func f) #[] #[]) (hargs : asx.map a.eval = args)
    (h : Calls P f args w fun e w' => ∃ v, e = .returned v ∧ K (a.put N v) w') : if Region.wanted oi (yielded ops a.tmps) = true then Oper.wp P oi a w K Q else K (a.put N undef) w := by
  refine call_ f args hw hN ?_ h
  have he := enters_ hf hname hb args w
  unfold execOp
  simp [hop, hp, resolve, Deferred.ofValue, invoke, hargs, he]
end
/-- The cells behind place q are cleared. -/
theorem Cw.clear {W w : World} {g cap : Nat} {cur : Array Value} (h : Cw W g cap cur w) (t ty : TypeId) (ht : Try.prog.underlying t = some (.slice 22)) (hz : ∀ w, (zeroValue 22).run Try.prog w = .ok (.slice none 0 0) w) (q m cc : Nat) (hm : q + m ≤ cap) :
    ∃ (w1 : World) (cur1 : Array Value), (Builtin.clear_ #[t] ty #[.slice (some ⟨g, q, none⟩) m cc]).run Try.prog w = .ok (.tuple #[]) w1 ∧ Cw W g cap cur1 w1 ∧ ∀ j, j < q → cur1[j]? = cur[j]? := by
  obtain ⟨zs, hzs⟩ : ∃ zs, (Builtin.zeroCells #[.slice none 0 0] m).toList = zs := ⟨_, rfl⟩
  have hzl : zs.length = m := by rw [← hzs]; simp [Builtin.zeroCells]
  have hz1 : ∀ v ∈ zs, v.oneCell' = true := fun v hv => by
    rw [← hzs] at hv
    simp [Builtin.zeroCells] at hv
    obtain ⟨i, _, rfl⟩ := hv
    simp [Nat.mod_one, Value.oneCell']
  have hfit : q + zs.length ≤ cur.size := by rw [hzl, h.z]; exact hm
  have hst := run_storeCells_cells (P := Try.prog) g q zs 0 w (fun j hj => by rw [cell_of_row w g _ cur 22 (0, 0) h.h]; simp; omega) (fun j _ => blk_frozen h.h _) hz1
  rw [Nat.add_zero] at hst
  have hrun : (Builtin.clear_ #[t] ty #[.slice (some ⟨g, q, none⟩) m cc]).run Try.prog w = .ok (.tuple #[]) (w.setCells g q zs) := by
    rcases m with _ | m
    · have : zs = [] := List.eq_nil_of_length_eq_zero hzl
      subst this
      simp [Builtin.clear_, run_underlying ht, World.setCells]
    · simp [Builtin.clear_, run_underlying ht, hz, Value.cells, hzs, hst]
  obtain ⟨cur', h3, h4, h5⟩ := setCells_row zs q w cur h.h hfit
  obtain ⟨s1, s2, s3, s4⟩ := setCells_same g zs q w
  refine ⟨_, cur', hrun, ⟨h3, h4.trans h.z, fun j hl hj => (setCells_far zs q j hj).trans (h.o j hl hj), s1.trans h.os, s2.trans h.tape, s3.trans h.output, by rw [s4]; exact h.sz⟩, fun j hj => ?_⟩
  rw [← Array.getElem?_toList, h5, List.append_assoc, List.getElem?_append_left (by rw [List.length_take, Array.length_toList]; omega), List.getElem?_take, if_pos hj, Array.getElem?_toList]
set_option maxRecDepth 100000 in
set_option maxHeartbeats 8000000 in
theorem compact_c (w0 W : World) (v : Value) (ps : List Pe) (h : Rw W w0.heap.size v ps) (hb : Below w0.heap.size w0 W) (hby : ∀ p ∈ ps, By p.1) (hsz : ps.length ≤ 4611686018427387903) :
    Calls Try.prog 86 #[v, .func (.func 87) #[] #[]] W fun e w' => ∃ v', e = .returned v' ∧ Rw w' w0.heap.size v' (cp none ps) ∧ Below w0.heap.size w0 w' ∧ OthersKept 22 none W w' := by
  obtain ⟨A, cap, rfl⟩ := Kd.R_slice h.o
  rw [List.length_map] at *
  by_cases hn : ps.length < 2
  · have p0 : ((ps.length : Int) < 2) = True := eq_true (by omega)
    have H := Aside0.mk h
    have HBB := Aside0.mk hb
    clear h hb
    go_enter Try.func86, Try.ntmps86
    go_wp2
    go_ret
    exact ⟨_, rfl, by rw [cp_one ps (by omega)]; exact H.out, HBB.out, OthersKept.refl _ _ _⟩
  · have ho := Kd.own_of_R (h1 := fun x : OC => x.2) (show (Kd.scalar (fun x : OC => x.1) (fun x => x.2)).R 22 W w0.heap.size (fun _ => True) (.slice A ps.length cap) (ps.map (·.2)) from h.o)
    have e0 : encs (fun x : OC => x.1) (ps.map (·.2)) = ps.map fun p => p.2.1 := by simp [encs]
    rw [e0, List.length_map] at ho
    rcases ho.2 with ⟨hv, hn'⟩ | ⟨g, cap', cur, hv, hbg, hh, hcl, hcm, hcs, htake⟩
    · exact absurd hn' (by omega)
    injection hv with hv1 hv2 hv3
    subst hv1 hv3
    have hcell : ∀ (j : Nat) (p : Pe), ps[j]? = some p → cur[j]? = some p.2.1 := fun j p hj => by
      have hjl := (List.getElem?_eq_some_iff.1 hj).1
      have h5 : (cur.toList.take (ps.length * 1))[j]? = (ps.map fun p => p.2.1)[j]? := by rw [htake]
      rw [List.getElem?_take, if_pos (by omega), Array.getElem?_toList, List.getElem?_map, hj] at h5
      exact h5
    have HW : Cw W g cap cur W := ⟨hh, by rw [hcs, Nat.mul_one], fun _ _ _ => rfl, rfl, rfl, rfl, Nat.le_refl _⟩
    have hn2 : 2 ≤ ps.length := by omega
    have p0 : ((ps.length : Int) < 2) = False := eq_false (by omega)
    have H := Aside0.mk h
    have HBB := Aside0.mk hb
    have HH := Aside0.mk hh
    have HCC := Aside0.mk hcell
    have H1 := Aside0.mk (cp_one (ps.take 1) (by rw [List.length_take]; omega))
    clear ho htake e0 hb hn hh hcell
    go_enter Try.func86, Try.ntmps86
    go_wp2
    go_loopw [5] (fun v5 wr => ∃ k : Nat, 1 ≤ k ∧ k ≤ ps.length ∧ v5 = .int .i64 k ∧ Aside0 (cp none (ps.take k) = ps.take k) ∧ Cw W g cap cur wr) (fun v5 _ => ps.length - (intOf v5).toNat)
    case atStart => exact ⟨1, Nat.le_refl _, by omega, rfl, H1, HW⟩
    case round =>
      clear H1 HW p0
      obtain ⟨k, hk1, hkn, rfl, HK, HW⟩ := hrel
      by_cases hlt : k < ps.length
      ·
        obtain ⟨Ak, ck, ek, lk, gk, nk⟩ := rw_at h _ (List.getElem_mem (show k < ps.length by omega))
        obtain ⟨xk, hxk⟩ : ∃ x, x = ps[k].1 := ⟨_, rfl⟩
        have bk : By xk := by rw [hxk]; exact hby _ (List.getElem_mem _)
        rw [← hxk] at ek lk gk nk
        have Gk := Aside0.mk gk
        have Lk := Aside0.mk lk
        have Nk := Aside0.mk nk
        clear gk lk nk
        obtain ⟨Aj, cj, ej, lj, gj, nj⟩ := rw_at h _ (List.getElem_mem (show k - 1 < ps.length by omega))
        obtain ⟨xj, hxj⟩ : ∃ x, x = ps[k - 1].1 := ⟨_, rfl⟩
        have bj : By xj := by rw [hxj]; exact hby _ (List.getElem_mem _)
        rw [← hxj] at ej lj gj nj
        have Gj := Aside0.mk gj
        have Lj := Aside0.mk lj
        have Nj := Aside0.mk nj
        clear gj lj nj
        have CK := Aside0.mk (show cur[k]? = some (.slice Ak xk.length ck) from (HCC.out k _ (List.getElem?_eq_getElem hlt)).trans (congrArg some ek))
        have CJ := Aside0.mk (show cur[k - 1]? = some (.slice Aj xj.length cj) from (HCC.out (k - 1) _ (List.getElem?_eq_getElem (by omega))).trans (congrArg some ej))
        have EQ := Aside0.mk (bytes_eq xk xj bk bj)
        have ST := Aside0.mk (cp_take ps k hk1 hlt)
        rw [← hxk, ← hxj] at ST
        have p1 : ((k : Int) < (ps.length : Int)) = True := eq_true (by omega)
        have p2 : (0 ≤ (k : Int)) = True := eq_true (by omega)
        have p3 : (0 ≤ (k : Int) - 1) = True := eq_true (by omega)
        have p4 : ((k : Int) - 1 < (ps.length : Int)) = True := eq_true (by omega)
        have p5 : ((k : Int) - 1).toNat = k - 1 := by omega
        have p6 : wrap64 ((k : Int) - 1) = (k : Int) - 1 := w64 (by omega) (by omega)
        clear ek ej hxk hxj bk bj h
        try go_wp2
        have hdr : Below wr.heap.size wr wr.drew := below_drew1 (Below.refl _ _)
        refine start_ (n := 11) (S := fun w' => Cw W g cap cur w') (ds := []) #[false, false, false, false, false, false, false, false, false, false, false] (by kernel_rfl) rfl rfl (HW.b hdr) (fun hH => ?_)
        generalize wr.drew = wd at hdr hH ⊢
        replace HW := HW.b hdr
        clear hdr
        refine pure_ (i := 0) (N := some 18) (v := ?_) (a' := ?_) #[true, false, false, false, false, false, false, false, false, false, false] rfl rfl (by kernel_rfl) (fun _ _ _ h => h) (Or.inl ⟨by rfl, ?_⟩) ?_ ?_
        rotate_left
        ·intro w'
         go_simp
         with_reducible rfl
        rotate_left
        ·simp only [Act.put, List.setIfInBounds_toArray, List.set_cons_zero, List.set_cons_succ, i64_w, i32_w]
         rfl
        refine pure_ (i := 1) (N := some 19) (v := ?_) (a' := ?_) #[true, true, false, false, false, false, false, false, false, false, false] rfl rfl (by kernel_rfl) (fun _ _ _ h => h) (Or.inl ⟨by rfl, ?_⟩) ?_ ?_
        rotate_left
        ·intro w'
         go_simp
         with_reducible rfl
        rotate_left
        ·simp only [Act.put, List.setIfInBounds_toArray, List.set_cons_zero, List.set_cons_succ, i64_w, i32_w]
         rfl
        refine pure_ (i := 2) (N := some 20) (v := ?_) (a' := ?_) #[true, true, true, false, false, false, false, false, false, false, false] rfl rfl (by kernel_rfl) (fun _ _ _ h => h) (Or.inl ⟨by rfl, ?_⟩) ?_ ?_
        rotate_left
        ·intro w'
         go_simp
         with_reducible rfl
        rotate_left
        ·simp only [Act.put, List.setIfInBounds_toArray, List.set_cons_zero, List.set_cons_succ, i64_w, i32_w]
         rfl
        refine pure_ (i := 3) (N := some 21) (v := ?_) (a' := ?_) #[true, true, true, true, false, false, false, false, false, false, false] rfl rfl (by kernel_rfl) (fun _ _ _ h => h) (Or.inl ⟨by rfl, ?_⟩) ?_ ?_
        rotate_left
        ·intro w'
         go_simp
         with_reducible rfl
        rotate_left
        ·simp only [Act.put, List.setIfInBounds_toArray, List.set_cons_zero, List.set_cons_succ, i64_w, i32_w]
         rfl
        refine take_ (i := 4) (N := some 22) (v := ?_) (a' := ?_) #[true, true, true, true, true, false, false, false, false, false, false] rfl rfl (by kernel_rfl) (fun _ _ _ h => h) (Or.inl ⟨by rfl, ?_⟩) hH ?_ ?_
        rotate_left
        ·rintro w' s0
         have hc := (blk_cell s0.h _).trans CK.out
         go_simp
         with_reducible rfl
        rotate_left
        ·simp only [Act.put, List.setIfInBounds_toArray, List.set_cons_zero, List.set_cons_succ, i64_w, i32_w]
         rfl
        refine pure_ (i := 5) (N := some 23) (v := ?_) (a' := ?_) #[true, true, true, true, true, true, false, false, false, false, false] rfl rfl (by kernel_rfl) (fun _ _ _ h => h) (Or.inl ⟨by rfl, ?_⟩) ?_ ?_
        rotate_left
        ·intro w'
         go_simp
         with_reducible rfl
        rotate_left
        ·simp only [Act.put, List.setIfInBounds_toArray, List.set_cons_zero, List.set_cons_succ, i64_w, i32_w]
         rfl
        refine pure_ (i := 6) (N := some 24) (v := ?_) (a' := ?_) #[true, true, true, true, true, true, true, false, false, false, false] rfl rfl (by kernel_rfl) (fun _ _ _ h => h) (Or.inl ⟨by rfl, ?_⟩) ?_ ?_
        rotate_left
        ·intro w'
         go_simp
         with_reducible rfl
        rotate_left
        ·simp only [Act.put, List.setIfInBounds_toArray, List.set_cons_zero, List.set_cons_succ, i64_w, i32_w]
         rfl
        refine pure_ (i := 7) (N := some 25) (v := ?_) (a' := ?_) #[true, true, true, true, true, true, true, true, false, false, false] rfl rfl (by kernel_rfl) (fun _ _ _ h => h) (Or.inl ⟨by rfl, ?_⟩) ?_ ?_
        rotate_left
        ·intro w'
         go_simp
         with_reducible rfl
        rotate_left
        ·simp only [Act.put, List.setIfInBounds_toArray, List.set_cons_zero, List.set_cons_succ, i64_w, i32_w]
         rfl
        refine pure_ (i := 8) (N := some 26) (v := ?_) (a' := ?_) #[true, true, true, true, true, true, true, true, true, false, false] rfl rfl (by kernel_rfl) (fun _ _ _ h => h) (Or.inl ⟨by rfl, ?_⟩) ?_ ?_
        rotate_left
        ·intro w'
         go_simp
         rw [if_pos (by omega)]
        rotate_left
        ·simp only [Act.put, List.setIfInBounds_toArray, List.set_cons_zero, List.set_cons_succ, i64_w, i32_w]
         rfl
        refine take_ (i := 9) (N := some 27) (v := ?_) (a' := ?_) #[true, true, true, true, true, true, true, true, true, true, false] rfl rfl (by kernel_rfl) (fun _ _ _ h => h) (Or.inl ⟨by rfl, ?_⟩) hH ?_ ?_
        rotate_left
        ·rintro w' s0
         have hc := (blk_cell s0.h _).trans CJ.out
         go_simp
         with_reducible rfl
        rotate_left
        ·simp only [Act.put, List.setIfInBounds_toArray, List.set_cons_zero, List.set_cons_succ, i64_w, i32_w]
         rfl
        refine one_ (i := 10) (N := some 28) #[true, true, true, true, true, true, true, true, true, true, true] rfl rfl (by kernel_rfl) (by decide) (fun K hK => ?_)
        refine goesD_ Try.func87 (by kernel_rfl) rfl #[.slice Ak xk.length ck, .slice Aj xj.length cj] (by rfl) rfl rfl rfl (by (try simp only [List.map_toArray, List.map_cons, List.map_nil]); first | done | rfl) ?_
        refine (bytes_Equal.calls Ak ck xk Aj cj xj (decide (xk = xj)) _ (HW.C Gk.out Nk.out) Lk.out (HW.C Gj.out Nj.out) Lj.out EQ.out).mono ?_
        rintro e we ⟨rfl, nd, rfl⟩
        refine ⟨_, rfl, ?_⟩
        replace HW := HW.drewN nd
        refine hK.out _ _ HW (fun hH => ?_)
        clear hK K
        refine norm_ (a' := ?_) ?_ ?_
        rotate_left
        ·show Act.put _ (some 28) _ = _
         simp only [Act.put, List.setIfInBounds_toArray, List.set_cons_zero, List.set_cons_succ, i64_w, i32_w]
         rfl
        refine done_ (by kernel_rfl) ?_
        by_cases ct : xk = xj
        · have cb : decide (xk = xj) = true := decide_eq_true ct
          have ST2 := ST.out
          rw [if_pos ct.symm, List.append_nil, HK.out] at ST2
          replace ST2 := Aside0.mk ST2
          try go_wp2
          clear ct cb CK CJ EQ ST Gk Lk Nk Gj Lj Nj p3 p4 p5 p6
          have hkl : (ps.take k).length = k := by rw [List.length_take]; omega
          have HKL := Aside0.mk hkl
          go_loopw [5, 7] (fun v5 v7 wr => ∃ (q m : Nat) (cur2 : Array Value), 1 ≤ m ∧ m ≤ ps.length - k ∧ v5 = .int .i64 q ∧ v7 = .int .i64 m ∧ q + 1 ≤ k + m ∧ Aside0 (q = (cp none (ps.take (k + m))).length) ∧ Aside0 (∀ (j : Nat) (p : Pe), (cp none (ps.take (k + m)))[j]? = some p → cur2[j]? = some p.2.1) ∧ Aside0 (∀ (j : Nat) (p : Pe), k + m ≤ j + 1 → ps[j]? = some p → cur2[j]? = some p.2.1) ∧ Cw W g cap cur2 wr) (fun _ v7 _ => ps.length - k - (intOf v7).toNat)
          case atStart => exact ⟨k, 1, cur, Nat.le_refl _, by omega, rfl, rfl, Nat.le_refl _, ⟨by rw [ST2.out]; exact HKL.out.symm⟩, ⟨fun j p hj => HCC.out j p (by rw [ST2.out, List.getElem?_take] at hj; split at hj; exact hj; cases hj)⟩, ⟨fun j p _ hj => HCC.out j p hj⟩, HW⟩
          case round =>
            clear HW hkl
            obtain ⟨q, m, cur2, hm1, hmn, rfl, rfl, hqm, HQ, HA, HT, HW⟩ := hrel
            by_cases hlm : m < ps.length - k
            ·
              have h := H.out
              obtain ⟨Ak, ck, ek, lk, gk, nk⟩ := rw_at h _ (List.getElem_mem (show k + m < ps.length by omega))
              obtain ⟨xk, hxk⟩ : ∃ x, x = ps[k + m].1 := ⟨_, rfl⟩
              have bk : By xk := by rw [hxk]; exact hby _ (List.getElem_mem _)
              rw [← hxk] at ek lk gk nk
              have Gk := Aside0.mk gk
              have Lk := Aside0.mk lk
              have Nk := Aside0.mk nk
              clear gk lk nk
              obtain ⟨Aj, cj, ej, lj, gj, nj⟩ := rw_at h _ (List.getElem_mem (show k + (m - 1) < ps.length by omega))
              obtain ⟨xj, hxj⟩ : ∃ x, x = ps[k + (m - 1)].1 := ⟨_, rfl⟩
              have bj : By xj := by rw [hxj]; exact hby _ (List.getElem_mem _)
              rw [← hxj] at ej lj gj nj
              have Gj := Aside0.mk gj
              have Lj := Aside0.mk lj
              have Nj := Aside0.mk nj
              clear gj lj nj
              have CK := Aside0.mk (show cur2[k + m]? = some (.slice Ak xk.length ck) from (HT.out (k + m) _ (by omega) (List.getElem?_eq_getElem (by omega))).trans (congrArg some ek))
              have CJ := Aside0.mk (show cur2[k + (m - 1)]? = some (.slice Aj xj.length cj) from (HT.out (k + (m - 1)) _ (by omega) (List.getElem?_eq_getElem (by omega))).trans (congrArg some ej))
              have EQ := Aside0.mk (bytes_eq xk xj bk bj)
              have ST := Aside0.mk (cp_take ps (k + m) (by omega) (by omega))
              have hsw : ps[k + m - 1]'(by omega) = ps[k + (m - 1)]'(by omega) := by congr 1; omega
              rw [hsw, ← hxk, ← hxj] at ST
              have EK := Aside0.mk ek
              have p7 : ((m : Int) < ((ps.length - k : Nat) : Int)) = True := eq_true (by omega)
              have p8 : (0 ≤ (m : Int)) = True := eq_true (by omega)
              have p9 : ((m : Int) - 1).toNat = m - 1 := by omega
              have p6 : wrap64 ((m : Int) - 1) = (m : Int) - 1 := w64 (by omega) (by omega)
              clear ek ej hxk hxj bk bj h hsw
              try go_wp2
              have hdr : Below wr.heap.size wr wr.drew := below_drew1 (Below.refl _ _)
              refine start_ (n := 12) (S := fun w' => Cw W g cap cur2 w') (ds := []) #[false, false, false, false, false, false, false, false, false, false, false, false] (by kernel_rfl) rfl rfl (HW.b hdr) (fun hH => ?_)
              generalize wr.drew = wd at hdr hH ⊢
              replace HW := HW.b hdr
              clear hdr
              refine pure_ (i := 0) (N := some 38) (v := ?_) (a' := ?_) #[true, false, false, false, false, false, false, false, false, false, false, false] rfl rfl (by kernel_rfl) (fun _ _ _ h => h) (Or.inl ⟨by rfl, ?_⟩) ?_ ?_
              rotate_left
              ·intro w'
               go_simp
               with_reducible rfl
              rotate_left
              ·simp only [Act.put, List.setIfInBounds_toArray, List.set_cons_zero, List.set_cons_succ, i64_w, i32_w]
               rfl
              refine pure_ (i := 1) (N := some 39) (v := ?_) (a' := ?_) #[true, true, false, false, false, false, false, false, false, false, false, false] rfl rfl (by kernel_rfl) (fun _ _ _ h => h) (Or.inl ⟨by rfl, ?_⟩) ?_ ?_
              rotate_left
              ·intro w'
               go_simp
               with_reducible rfl
              rotate_left
              ·simp only [Act.put, List.setIfInBounds_toArray, List.set_cons_zero, List.set_cons_succ, i64_w, i32_w]
               rfl
              refine pure_ (i := 2) (N := some 40) (v := ?_) (a' := ?_) #[true, true, true, false, false, false, false, false, false, false, false, false] rfl rfl (by kernel_rfl) (fun _ _ _ h => h) (Or.inl ⟨by rfl, ?_⟩) ?_ ?_
              rotate_left
              ·intro w'
               go_simp
               with_reducible rfl
              rotate_left
              ·simp only [Act.put, List.setIfInBounds_toArray, List.set_cons_zero, List.set_cons_succ, i64_w, i32_w]
               rfl
              refine pure_ (i := 3) (N := some 41) (v := ?_) (a' := ?_) #[true, true, true, true, false, false, false, false, false, false, false, false] rfl rfl (by kernel_rfl) (fun _ _ _ h => h) (Or.inl ⟨by rfl, ?_⟩) ?_ ?_
              rotate_left
              ·intro w'
               go_simp
               with_reducible rfl
              rotate_left
              ·simp only [Act.put, List.setIfInBounds_toArray, List.set_cons_zero, List.set_cons_succ, i64_w, i32_w]
               rfl
              refine take_ (i := 4) (N := some 42) (v := ?_) (a' := ?_) #[true, true, true, true, true, false, false, false, false, false, false, false] rfl rfl (by kernel_rfl) (fun _ _ _ h => h) (Or.inl ⟨by rfl, ?_⟩) hH ?_ ?_
              rotate_left
              ·rintro w' s0
               have hc := (blk_cell s0.h _).trans CK.out
               go_simp
               with_reducible rfl
              rotate_left
              ·simp only [Act.put, List.setIfInBounds_toArray, List.set_cons_zero, List.set_cons_succ, i64_w, i32_w]
               rfl
              refine pure_ (i := 5) (N := some 43) (v := ?_) (a' := ?_) #[true, true, true, true, true, true, false, false, false, false, false, false] rfl rfl (by kernel_rfl) (fun _ _ _ h => h) (Or.inl ⟨by rfl, ?_⟩) ?_ ?_
              rotate_left
              ·intro w'
               go_simp
               with_reducible rfl
              rotate_left
              ·simp only [Act.put, List.setIfInBounds_toArray, List.set_cons_zero, List.set_cons_succ, i64_w, i32_w]
               rfl
              refine pure_ (i := 6) (N := some 44) (v := ?_) (a' := ?_) #[true, true, true, true, true, true, true, false, false, false, false, false] rfl rfl (by kernel_rfl) (fun _ _ _ h => h) (Or.inl ⟨by rfl, ?_⟩) ?_ ?_
              rotate_left
              ·intro w'
               go_simp
               with_reducible rfl
              rotate_left
              ·simp only [Act.put, List.setIfInBounds_toArray, List.set_cons_zero, List.set_cons_succ, i64_w, i32_w]
               rfl
              refine pure_ (i := 7) (N := some 45) (v := ?_) (a' := ?_) #[true, true, true, true, true, true, true, true, false, false, false, false] rfl rfl (by kernel_rfl) (fun _ _ _ h => h) (Or.inl ⟨by rfl, ?_⟩) ?_ ?_
              rotate_left
              ·intro w'
               go_simp
               with_reducible rfl
              rotate_left
              ·simp only [Act.put, List.setIfInBounds_toArray, List.set_cons_zero, List.set_cons_succ, i64_w, i32_w]
               rfl
              refine pure_ (i := 8) (N := some 46) (v := ?_) (a' := ?_) #[true, true, true, true, true, true, true, true, true, false, false, false] rfl rfl (by kernel_rfl) (fun _ _ _ h => h) (Or.inl ⟨by rfl, ?_⟩) ?_ ?_
              rotate_left
              ·intro w'
               go_simp
               rw [if_pos (by omega)]
              rotate_left
              ·simp only [Act.put, List.setIfInBounds_toArray, List.set_cons_zero, List.set_cons_succ, i64_w, i32_w]
               rfl
              refine take_ (i := 9) (N := some 47) (v := ?_) (a' := ?_) #[true, true, true, true, true, true, true, true, true, true, false, false] rfl rfl (by kernel_rfl) (fun _ _ _ h => h) (Or.inl ⟨by rfl, ?_⟩) hH ?_ ?_
              rotate_left
              ·rintro w' s0
               have hc := (blk_cell s0.h _).trans CJ.out
               go_simp
               with_reducible rfl
              rotate_left
              ·simp only [Act.put, List.setIfInBounds_toArray, List.set_cons_zero, List.set_cons_succ, i64_w, i32_w]
               rfl
              refine one_ (i := 10) (N := some 48) #[true, true, true, true, true, true, true, true, true, true, true, false] rfl rfl (by kernel_rfl) (by decide) (fun K hK => ?_)
              refine goesD_ Try.func87 (by kernel_rfl) rfl #[.slice Ak xk.length ck, .slice Aj xj.length cj] (by rfl) rfl rfl rfl (by (try simp only [List.map_toArray, List.map_cons, List.map_nil]); first | done | rfl) ?_
              refine (bytes_Equal.calls Ak ck xk Aj cj xj (decide (xk = xj)) _ (HW.C Gk.out Nk.out) Lk.out (HW.C Gj.out Nj.out) Lj.out EQ.out).mono ?_
              rintro e we ⟨rfl, nd, rfl⟩
              refine ⟨_, rfl, ?_⟩
              replace HW := HW.drewN nd
              refine hK.out _ _ HW (fun hH => ?_)
              clear hK K
              refine norm_ (a' := ?_) ?_ ?_
              rotate_left
              ·show Act.put _ (some 48) _ = _
               simp only [Act.put, List.setIfInBounds_toArray, List.set_cons_zero, List.set_cons_succ, i64_w, i32_w]
               rfl
              obtain ⟨nb, hnb⟩ : ∃ b, b = !decide (xk = xj) := ⟨_, rfl⟩
              refine pure_ (i := 11) (N := some 49) (v := .bool nb) (a' := ?_) #[true, true, true, true, true, true, true, true, true, true, true, true] rfl rfl (by kernel_rfl) (fun _ _ _ h => h) (Or.inl ⟨by rfl, ?_⟩) ?_ ?_
              ·intro w'
               go_simp
               try simp [hnb]
              rotate_left
              ·simp only [Act.put, List.setIfInBounds_toArray, List.set_cons_zero, List.set_cons_succ, i64_w, i32_w]
               rfl
              refine done_ (by kernel_rfl) ?_
              rcases nb with _ | _
              · have ct : xk = xj := by simpa using hnb
                clear hnb
                have ST2 := ST.out
                rw [if_pos ct.symm, List.append_nil] at ST2
                replace ST2 := Aside0.mk ST2
                go_wp2
                go_roundw
                case rel => exact ⟨q, m + 1, cur2, by omega, by omega, rfl, by go_num, by omega, ⟨by rw [← Nat.add_assoc, ST2.out]; exact HQ.out⟩, ⟨fun j p hj => HA.out j p (by rw [← Nat.add_assoc, ST2.out] at hj; exact hj)⟩, ⟨fun j p hl hj => HT.out j p (by omega) hj⟩, HW⟩
                case measure => simp [intOf]; omega
              · have ct : ¬ xk = xj := by simpa using hnb
                clear hnb
                have ST2 := ST.out
                rw [if_neg (fun e => ct e.symm)] at ST2
                replace ST2 := Aside0.mk ST2
                have hqc : q < cur2.size := by rw [HW.z]; omega
                have hcq := (blk_cell HW.h q).trans (Array.getElem?_eq_getElem hqc)
                have hfq := blk_frozen HW.h q
                have hck := (blk_cell HW.h (k + m)).trans CK.out
                have QC := Aside0.mk hqc
                go_wp2
                go_roundw
                case rel => exact ⟨q + 1, m + 1, cur2.setIfInBounds q (.slice Ak xk.length ck), by omega, by omega, by go_num, by go_num, by omega, ⟨by rw [← Nat.add_assoc, ST2.out, List.length_append, ← HQ.out]; rfl⟩, ⟨by rw [← Nat.add_assoc, ST2.out]; exact cp_set QC.out HQ.out HA.out EK.out⟩, ⟨fun j p hl hj => by rw [Array.getElem?_setIfInBounds, if_neg (by omega)]; exact HT.out j p (by omega) hj⟩, HW.set q _⟩
                case measure => simp [intOf]; omega
            · obtain rfl : m = ps.length - k := by omega
              have hall : k + (ps.length - k) = ps.length := by omega
              rw [hall, List.take_length] at HQ HA
              have hql : q ≤ ps.length := by have := cp_len none ps; have := HQ.out; omega
              obtain ⟨w1, cur1, hrun, HW1, hkeep⟩ := HW.clear 23 0 Try.underlying23 Try.zeroValue22 q (ps.length - q) (cap - q) (by omega)
              have HW1' := Aside0.mk HW1
              have KP := Aside0.mk hkeep
              clear HW1 hkeep
              have p7 : (((ps.length - k : Nat) : Int) < ((ps.length - k : Nat) : Int)) = False := eq_false (by omega)
              go_wp2
              go_ret
              refine ⟨_, rfl, ?_, HW1'.out.bel HBB.out hbg, HW1'.out.kept HH.out⟩
              have hz := HQ.out
              rw [hz]
              exact HW1'.out.rw H.out (cp_sub _ _) (by rw [← hz]; omega) hcm hbg (fun j p hj => (KP.out j (by rw [hz]; exact (List.getElem?_eq_some_iff.1 hj).1)).trans (HA.out j p hj))
        · have cb : decide (xk = xj) = false := decide_eq_false ct
          have ST2 := ST.out
          rw [if_neg (fun e => ct e.symm), HK.out] at ST2
          have ST3 := Aside0.mk (show cp none (ps.take (k + 1)) = ps.take (k + 1) by rw [ST2, List.take_add_one, List.getElem?_eq_getElem hlt]; rfl)
          clear ST2
          go_wp2
          go_roundw
          case rel => exact ⟨k + 1, by omega, by omega, by go_num, ST3, HW⟩
          case measure => simp [intOf]; omega
      · obtain rfl : k = ps.length := by omega
        rw [List.take_length] at HK
        have p1 : ((ps.length : Int) < (ps.length : Int)) = False := eq_false (by omega)
        go_wp2
        go_ret
        refine ⟨_, rfl, ?_, HW.bel HBB.out hbg, HW.kept HH.out⟩
        rw [HK.out]
        exact HW.rw H.out (List.Sublist.refl _) hcl hcm hbg HCC.out
end Go.Proofs.Ytockllljeeakaaa.PFnExactLocals
