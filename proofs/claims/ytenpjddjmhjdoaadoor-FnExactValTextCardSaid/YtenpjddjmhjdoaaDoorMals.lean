/- A loop's variable: made, its number set, its struct stored, as one event. -/
import Derived.Test.YtenpjddjmhjdoaaDoorMlaw
namespace Go.Proofs.YtenpjddjmhjdoaaDoor.M
open Go.RowKit Go.Proofs.YtenpjddjmhjdoaaDoorW.PrintWords Go.Proofs.YtenpjddjmhjdoaaDoorW.PrintLast Go.Proofs.YtenpjddjmhjdoaaDoorW.PrintMore
set_option linter.unusedVariables false
set_option linter.unusedSimpArgs false
section
variable {P : Program} {ops : Array Oper} {Q : Exit → Act → World → Prop} {rest : List Oper} {oi oj ok : Oper} {a : Act} {w : World} {bs cs : Array Value} {v : Value}
theorem alas {t : Nat} {x y : Operand} (N M : Tmp) (hd : oi.dst = some N) (hg : oi.guard = none) (ho : oi.op = .alloc t) (hdj : oj.dst = some M) (hgj : oj.guard = none) (hoj : oj.op = .assign y) (hd2 : ok.dst = none) (hg2 : ok.guard = none) (ho2 : ok.op = .store t (.tmp N) x)
    (hy1 : a.eval y = v) (hy2 : ∀ p, (a.put (some N) p).eval y = a.eval y) (hx0 : ∀ p, ((a.put (some N) p).put (some M) v).eval x = .agg bs) (hp0 : ∀ p, ((a.put (some N) p).put (some M) v).eval (.tmp N) = p)
    (hz : (P.info? t).map (fun i => (i.zero, i.size)) = some (some (.agg cs), bs.size)) (hl : cs.size = bs.size) (h1 : bs.all (·.oneCell') = true)
    (k : ∀ g, g = w.heap.size → ∀ w1, w1.heap[g]? = some (.cells bs t (0, 0)) → Below w.heap.size w w1 → wpList P ops Q rest ((a.put (some N) (.pointer (some ⟨g, 0, none⟩))).put (some M) v) w1) : wpList P ops Q (oi :: oj :: ok :: rest) a w := by
  have hy := (hy2 (.pointer (some ⟨w.heap.size, 0, none⟩))).trans hy1
  have hx := hx0 (.pointer (some ⟨w.heap.size, 0, none⟩))
  have hp := hp0 (.pointer (some ⟨w.heap.size, 0, none⟩))
  obtain ⟨z1, z2⟩ := zero_of_info hz
  refine wpList_plain hg fun K hK => ?_
  have hrun : (execOp a.eval oi).run P w = .ok (.value (.pointer (some ⟨w.heap.size, 0, none⟩))) (w.alloc (.cells cs t)) := by
    unfold execOp
    simp only [ho, Instr.alloc, Sem.run_bind, z1 w, Result.andThen_ok]
    rfl
  unfold Oper.wp
  rw [hrun, Oper.upon_value, hd]
  refine hK _ _ (wpList_plain hgj fun K1 hK1 => ?_)
  have hrun1 : (execOp (a.put (some N) (.pointer (some ⟨w.heap.size, 0, none⟩))).eval oj).run P (w.alloc (.cells cs t)) = .ok (.value v) (w.alloc (.cells cs t)) := by
    unfold execOp
    simp only [hoj, hy]
    rfl
  unfold Oper.wp
  rw [hrun1, Oper.upon_value, hdj]
  refine hK1 _ _ (wpList_plain hg2 fun K2 hK2 => ?_)
  have hrun2 : (execOp ((a.put (some N) (.pointer (some ⟨w.heap.size, 0, none⟩))).put (some M) v).eval ok).run P (w.alloc (.cells cs t)) = .ok .skip (w.alloc (.cells bs t)) := by
    unfold execOp
    simp only [ho2, hx, hp, Sem.run_bind, run_storeAt_new w t cs bs z2 hl h1, Result.andThen_ok, Sem.run_pure]
  unfold Oper.wp
  rw [hrun2, Oper.upon_skip, hd2]
  exact hK2 _ _ (k _ rfl _ (blk_new w _) (below_alloc (Below.refl _ _) _))
end
end Go.Proofs.YtenpjddjmhjdoaaDoor.M
