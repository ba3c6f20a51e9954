/- Words for the walk of a law: what a call has made, and where it lies; boxes of structs that are whole. -/
import Derived.Test.YtenpjddjmhjdoaaMz
import Derived.Laws.Tables
import Derived.Deep.WholeRow
namespace Go.Proofs.Ytenpjddjmhjdoaa.M
open Go.RowKit Go.Proofs.YtenpjddjmhjdoaaW.PrintWords Go.Proofs.YtenpjddjmhjdoaaW.PrintLast Go.Proofs.YtenpjddjmhjdoaaW.PrintMore
set_option linter.unusedVariables false
set_option linter.unusedSimpArgs false
/-- Made between block lo and block hi: it reads as x. -/
structure Own {α : Type} (d : Kd α) (w : World) (lo hi : Nat) (x : α) (cs : List Value) : Prop where
  m : d.M w lo (fun k => lo ≤ k ∧ k < hi) x cs
  le : hi ≤ w.heap.size
/-- A row made there whose elements are apart. -/
structure OwnS {α : Type} (d : Kd α) (e : Nat) (w : World) (lo hi : Nat) (xs : List α) (v : Value) : Prop where
  m : d.S e w lo (fun k => lo ≤ k ∧ k < hi) v xs
  le : hi ≤ w.heap.size
/-- Block b, whole: a variable. -/
structure Bx (w : World) (b t : Nat) (cs : Array Value) : Prop where
  h : w.heap[b]? = some (.cells cs t (0, 0))
/-- What lies outside blocks lo to hi stays; nothing goes. -/
structure Outside (lo hi : Nat) (w w' : World) : Prop where
  os : w'.os = w.os
  tape : w'.tape = w.tape
  output : w'.output = w.output
  size : w.heap.size ≤ w'.heap.size
  block : ∀ k, k < w.heap.size → (k < lo ∨ hi ≤ k) → w'.heap[k]? = w.heap[k]?
theorem Below.out {w w' : World} (h : Below w.heap.size w w') (n : Nat) : Outside n n w w' := ⟨h.os, h.tape, h.output, h.size, fun k hk _ => h.block k hk⟩
theorem Below.outs {w w' : World} (h : Below w.heap.size w w') (lo hi : Nat) : Outside lo hi w w' := ⟨h.os, h.tape, h.output, h.size, fun k hk _ => h.block k hk⟩
theorem Outside.below {W w w' : World} {lo hi : Nat} (h : Outside lo hi w w') (hb : Below W.heap.size W w) (hl : W.heap.size ≤ lo) : Below W.heap.size W w' :=
  ⟨h.os.trans hb.os, h.tape.trans hb.tape, h.output.trans hb.output, Nat.le_trans hb.size h.size, fun k hk => (h.block k (Nat.lt_of_lt_of_le hk hb.size) (.inl (Nat.lt_of_lt_of_le hk hl))).trans (hb.block k hk)⟩
theorem Outside.trans {w w1 w2 : World} {lo hi : Nat} (h : Outside lo hi w w1) (h2 : Outside lo hi w1 w2) : Outside lo hi w w2 :=
  ⟨h2.os.trans h.os, h2.tape.trans h.tape, h2.output.trans h.output, Nat.le_trans h.size h2.size, fun k hk ho => (h2.block k (Nat.lt_of_lt_of_le hk h.size) ho).trans (h.block k hk ho)⟩
theorem Outside.refl (lo hi : Nat) (w : World) : Outside lo hi w w := ⟨rfl, rfl, rfl, Nat.le_refl _, fun _ _ _ => rfl⟩
theorem Outside.wide {w w1 : World} {lo hi lo' hi' : Nat} (h : Outside lo hi w w1) (h1 : lo' ≤ lo) (h2 : hi ≤ hi') : Outside lo' hi' w w1 :=
  ⟨h.os, h.tape, h.output, h.size, fun k hk ho => h.block k hk (by omega)⟩
section
variable {α : Type} {d : Kd α} {w w' : World} {lo hi e bn t : Nat} {x : α} {xs : List α} {cs : List Value} {v : Value} {bs : Array Value}
theorem Own.of {ok : Nat → Prop} {base : Nat} (h : d.M w' base ok x cs) (hb : base ≤ w'.heap.size) : Own d w' base w'.heap.size x cs :=
  ⟨d.M_mono (fun k hk => ⟨hk.2.1, hk.2.2.1⟩) (d.M_bound h), Nat.le_refl _⟩
theorem OwnS.of {ok : Nat → Prop} {base : Nat} (h : d.S e w' base ok v xs) (hb : base ≤ w'.heap.size) : OwnS d e w' base w'.heap.size xs v :=
  ⟨Kd.S_mono (Kd.S_bound h) (fun k hk => ⟨hk.2.1, hk.2.2.1⟩), Nat.le_refl _⟩
theorem OwnS.own (h : OwnS d e w lo hi xs v) : Own (Kd.slice e d) w lo hi xs [v] := ⟨⟨v, rfl, Kd.S_R h.m⟩, h.le⟩
theorem Own.k (h : Own d w lo hi x cs) : d.K w x cs := d.K_of_M h.m
theorem Own.mv {a c : Nat} (h : Own d w lo hi x cs) (ho : Outside a c w w') (hd : hi ≤ a ∨ c ≤ lo) : Own d w' lo hi x cs :=
  ⟨d.M_move (fun k hk => ho.block k (Nat.lt_of_lt_of_le hk.2 h.le) (by have := hk.1; have := hk.2; omega)) h.m, Nat.le_trans h.le ho.size⟩
theorem OwnS.mv {a c : Nat} (h : OwnS d e w lo hi xs v) (ho : Outside a c w w') (hd : hi ≤ a ∨ c ≤ lo) : OwnS d e w' lo hi xs v :=
  ⟨Kd.S_move h.m (fun k hk => ho.block k (Nat.lt_of_lt_of_le hk.2 h.le) (by have := hk.1; have := hk.2; omega)), Nat.le_trans h.le ho.size⟩
theorem Bx.mv {a c : Nat} (h : Bx w bn t bs) (ho : Outside a c w w') (hd : bn < a ∨ c ≤ bn) : Bx w' bn t bs := ⟨(ho.block bn (blk_lt h.h) hd).trans h.h⟩
theorem Own.b (h : Own d w lo hi x cs) (hb : Below w.heap.size w w') : Own d w' lo hi x cs := h.mv (Below.out hb lo) (.inr (Nat.le_refl _))
theorem OwnS.b (h : OwnS d e w lo hi xs v) (hb : Below w.heap.size w w') : OwnS d e w' lo hi xs v := h.mv (Below.out hb lo) (.inr (Nat.le_refl _))
theorem Bx.b (h : Bx w bn t bs) (hb : Below w.heap.size w w') : Bx w' bn t bs := ⟨(hb.block bn (blk_lt h.h)).trans h.h⟩
theorem Bx.lt (h : Bx w bn t bs) : bn < w.heap.size := blk_lt h.h
end
/-- A struct type of so many cells. -/
def St (P : Program) (t n : Nat) : Prop := (∃ fs, P.underlying t = some (.struct fs)) ∧ (P.info? t).map (·.size) = some n
section
variable {P : Program} {ops : Array Oper} {Q : Exit → Act → World → Prop} {rest : List Oper} {oi o2 : Oper} {a : Act} {w : World} {bs cs : Array Value}
theorem ld_run {t b : Nat} (h : Bx w b t bs) (hs : St P t bs.size) : (Instr.loadAt t (.pointer (some ⟨b, 0, none⟩))).run P w = .ok (.agg bs) w := by
  obtain ⟨⟨fs, hu⟩, hz⟩ := hs
  simp only [Instr.loadAt, Instr.sureAddr, Sem.run_bind, Sem.run_pure, Result.andThen_ok]
  exact run_loadVar_row w b t t bs (0, 0) _ h.h hu rfl hz
theorem ld_op {t p b : Nat} (ho : oi.op = .load t (.tmp p)) (hx : a.eval (.tmp p) = .pointer (some ⟨b, 0, none⟩)) (h : Bx w b t bs) (hs : St P t bs.size) : (execOp a.eval oi).run P w = .ok (.value (.agg bs)) w := by
  unfold execOp
  simp only [ho, hx, Sem.run_bind, ld_run h hs, Result.andThen_ok, Sem.run_pure]
/-- A whole struct read out of its variable. -/
theorem ldb {t p b : Nat} (N : Option Tmp) (hd : oi.dst = N) (hg : oi.guard = none) (ho : oi.op = .load t (.tmp p)) (hx : a.eval (.tmp p) = .pointer (some ⟨b, 0, none⟩)) (h : Bx w b t bs) (hs : St P t bs.size)
    (k : wpList P ops Q rest (a.put N (.agg bs)) w) : wpList P ops Q (oi :: rest) a w := by
  subst hd
  exact wpList_plain hg fun K hK => by
    unfold Oper.wp
    rw [ld_op ho hx h hs]
    exact hK _ _ k
/-- A variable for a struct that came in. -/
theorem bxb {t : Nat} {x : Operand} (N : Tmp) (hd : oi.dst = some N) (hg : oi.guard = none) (ho : oi.op = .box t x) (hx : a.eval x = .agg bs)
    (k : ∀ b w1, Bx w1 b t bs → Below w.heap.size w w1 → w.heap.size ≤ b → b < w1.heap.size → wpList P ops Q rest (a.put (some N) (.pointer (some ⟨b, 0, none⟩))) w1) : wpList P ops Q (oi :: rest) a w := by
  refine wpList_plain hg fun K hK => ?_
  have hrun : (execOp a.eval oi).run P w = .ok (.value (.pointer (some ⟨w.heap.size, 0, none⟩))) (w.alloc (.cells bs t)) := by
    unfold execOp
    simp only [ho, hx]
    rfl
  unfold Oper.wp
  rw [hrun, Oper.upon_value, hd]
  exact hK _ _ (k _ _ ⟨blk_new w _⟩ (below_alloc (Below.refl _ _) _) (Nat.le_refl _) (by simp))
/-- A variable that is made, and a struct stored into it at once. -/
theorem alst {t : Nat} {x : Operand} (N : Tmp) (hd : oi.dst = some N) (hg : oi.guard = none) (ho : oi.op = .alloc t) (hd2 : o2.dst = none) (hg2 : o2.guard = none) (ho2 : o2.op = .store t (.tmp N) x)
    (hx0 : ∀ p, (a.put (some N) p).eval x = .agg bs) (hp0 : ∀ p, (a.put (some N) p).eval (.tmp N) = p)
    (hz : (P.info? t).map (fun i => (i.zero, i.size)) = some (some (.agg cs), bs.size)) (hl : cs.size = bs.size) (h1 : bs.all (·.oneCell') = true)
    (k : ∀ b w1, Bx w1 b t bs → Below w.heap.size w w1 → w.heap.size ≤ b → b < w1.heap.size → wpList P ops Q rest (a.put (some N) (.pointer (some ⟨b, 0, none⟩))) w1) : wpList P ops Q (oi :: o2 :: rest) a w := by
  have hx := hx0 (.pointer (some ⟨w.heap.size, 0, none⟩))
  have hp := hp0 (.pointer (some ⟨w.heap.size, 0, none⟩))
  obtain ⟨z1, z2⟩ := zero_of_info hz
  refine wpList_plain hg fun K hK => ?_
  have hrun : (execOp a.eval oi).run P w = .ok (.value (.pointer (some ⟨w.heap.size, 0, none⟩))) (w.alloc (.cells cs t)) := by
    unfold execOp
    simp only [ho, Instr.alloc, Sem.run_bind, z1 w, Result.andThen_ok]
    rfl
  unfold Oper.wp
  rw [hrun, Oper.upon_value, hd]
  refine hK _ _ (wpList_plain hg2 fun K2 hK2 => ?_)
  have hrun2 : (execOp (a.put (some N) (.pointer (some ⟨w.heap.size, 0, none⟩))).eval o2).run P (w.alloc (.cells cs t)) = .ok .skip (w.alloc (.cells bs t)) := by
    unfold execOp
    simp only [ho2, hx, hp, Sem.run_bind, run_storeAt_new w t cs bs z2 hl h1, Result.andThen_ok, Sem.run_pure]
  unfold Oper.wp
  rw [hrun2, Oper.upon_skip, hd2]
  exact hK2 _ _ (k _ _ ⟨blk_new w _⟩ (below_alloc (Below.refl _ _) _) (Nat.le_refl _) (by simp))
/-- A call that is guarded, its guard being met. -/
theorem ggw {f : FuncId} (N : Option Tmp) (hd : oi.dst = N) (hw : Region.wanted oi (yielded ops a.tmps) = true) {as : Array Operand} {ts : Array TypeId} (hop : oi.op = .call { callee := .value (.func f), args := as, argTypes := ts }) (hf : Fr P f)
    (h : Calls P f (as.toList.map a.eval).toArray w fun e w' => ∃ v, e = .returned v ∧ wpList P ops Q rest (a.put N v) w') : wpList P ops Q (oi :: rest) a w := by
  obtain ⟨fn, hf, hn, hb⟩ := hf
  refine wpList_step fun K hK => ?_
  rw [if_pos hw]
  have he := enters_ hf hn hb (as.toList.map a.eval).toArray w
  have hrun : (execOp a.eval oi).run P w = .ok (.enter f (as.toList.map a.eval).toArray) w := by
    have e : as.map a.eval = (as.toList.map a.eval).toArray := by rw [← Array.toList_map, Array.toArray_toList]
    unfold execOp
    simp only [hop, resolve, Deferred.ofValue, invoke, Act.eval]
    simp [e]
    simpa using he
  unfold Oper.wp
  rw [hrun, Oper.upon_enter]
  refine h.mono fun e w'' hh => ?_
  obtain ⟨v, rfl, hk⟩ := hh
  subst hd
  exact hK _ _ hk
end
/-- It reads as x. -/
structure Rd {α : Type} (d : Kd α) (w : World) (x : α) (cs : List Value) : Prop where
  k : d.K w x cs
theorem Rd.b {α : Type} {d : Kd α} {w w' : World} {x : α} {cs : List Value} (h : Rd d w x cs) (hb : Below w.heap.size w w') : Rd d w' x cs := ⟨d.K_below hb h.k⟩
theorem Own.rd {α : Type} {d : Kd α} {w : World} {lo hi : Nat} {x : α} {cs : List Value} (h : Own d w lo hi x cs) : Rd d w x cs := ⟨h.k⟩
theorem OwnS.rd {α : Type} {d : Kd α} {w : World} {e lo hi : Nat} {xs : List α} {v : Value} (h : OwnS d e w lo hi xs v) : Rd (Kd.slice e d) w xs [v] := h.own.rd
/-- Cells that a variable of struct type t may hold. -/
structure Cel (P : Program) (t : Nat) (zs bs : Array Value) : Prop where
  st : St P t bs.size
  hz : (P.info? t).map (fun i => (i.zero, i.size)) = some (some (.agg zs), bs.size)
  hl : zs.size = bs.size
  h1 : bs.all (·.oneCell') = true
theorem bnd {α β : Type} {o : Option α} {f : α → Option β} {y : β} (h : o.bind f = some y) : ∃ x, o = some x ∧ f x = some y := Option.bind_eq_some_iff.mp h
theorem yes {c : Prop} [Decidable c] {o : Option Bool} (h : (if c then o else some false) = some true) : c ∧ o = some true := by
  by_cases hc : c
  · rw [if_pos hc] at h; exact ⟨hc, h⟩
  · rw [if_neg hc] at h; cases h
theorem nope {c : Prop} [Decidable c] {o : Option Bool} (h : (if c then some false else o) = some true) : ¬ c ∧ o = some true := by
  by_cases hc : c
  · rw [if_pos hc] at h; cases h
  · rw [if_neg hc] at h; exact ⟨hc, h⟩
end Go.Proofs.Ytenpjddjmhjdoaa.M
