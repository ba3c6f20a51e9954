/- Words that shorten the walks: what lies below a call's first block stays, found by instances; a call's arm in one word. -/
import Derived.Test.YtenpjddjmhjdoaaVMore
import Derived.Test.YtenpjddjmhjdoaaVAt
import Derived.KernelRfl
namespace Go.Proofs.Ytenpjddjmhjdoaa.M
open Go.RowKit Go.Proofs.YtenpjddjmhjdoaaW.PrintWords Go.Proofs.YtenpjddjmhjdoaaW.PrintLast Go.Proofs.YtenpjddjmhjdoaaW.PrintMore
set_option linter.unusedVariables false
set_option linter.unusedSimpArgs false
/-- Below the blocks of w the world W is as w was; found by instances. -/
class Bw (w W : World) : Prop where mk :: (out : Below w.heap.size w W)
/-- A block's number is at least n; found by instances. -/
class Ge (n g : Nat) : Prop where mk :: (out : n ≤ g)
instance Bw.refl (w : World) : Bw w w := ⟨Below.refl _ _⟩
instance Bw.alloc {w W : World} {o : Obj} [h : Bw w W] : Bw w (W.alloc o) := ⟨below_alloc h.out o⟩
instance Bw.drewN {w W : World} {n : Nat} [h : Bw w W] : Bw w (W.drewN n) := ⟨pw_below_drewN h.out n⟩
instance Bw.drew {w W : World} [h : Bw w W] : Bw w W.drew := ⟨below_drew1 h.out⟩
instance Bw.set {w W : World} {g j : Nat} {v : Value} [h : Bw w W] [k : Ge w.heap.size g] : Bw w (W.setCell ⟨g, j, none⟩ v) := ⟨below_set h.out k.out⟩
theorem bw {w W : World} [h : Bw w W] : Below w.heap.size w W := h.out
theorem bz {w W : World} [h : Bw w W] : w.heap.size ≤ W.heap.size := h.out.size
theorem Bw.step {w W W2 : World} [h : Bw w W] (k : Below W.heap.size W W2) : Bw w W2 := ⟨below_step h.out k⟩
theorem bzz (w : World) {W : World} [h : Bw w W] : w.heap.size ≤ W.heap.size := h.out.size
theorem Bw.sw (w : World) {W W2 : World} (k : Below W.heap.size W W2) [h : Bw w W] : Bw w W2 := ⟨below_step h.out k⟩
theorem Ge.of {w W : World} {g : Nat} (h : g = W.heap.size) [k : Bw w W] : Ge w.heap.size g := ⟨h ▸ k.out.size⟩
section
variable {α : Type} {d : Kd α} {w W : World} {A : Option Addr} {n c e base : Nat} {ok : Nat → Prop} {v : Value} {xs : List α}
theorem cb (h : Aside0 (d.C w A n xs)) [k : Bw w W] : d.C W A n xs := Kd.C_below h.out k.out
theorem cr (h : Aside0 (d.R e w base ok (.slice A n c) xs)) [k : Bw w W] : d.C W A xs.length xs := Kd.C_below (Kd.R_reads' h.out).2.2 k.out
theorem cs (h : Aside0 (d.S e w base ok (.slice A n c) xs)) [k : Bw w W] : d.C W A xs.length xs := Kd.C_below (Kd.S_reads' h.out).2.2 k.out
theorem sb (h : Aside0 (d.S e w base ok v xs)) [k : Bw w W] : d.S e W base ok v xs := Kd.S_below h.out k.out
theorem rb (h : Aside0 (d.R e w base ok v xs)) [k : Bw w W] : d.R e W base ok v xs := Kd.R_below h.out k.out
end
section
variable {w : World} {g : Nat} {t : TypeId} {a b c d e : Value}
theorem blk1 (h : w.heap[g]? = some (.cells #[a] t (0, 0))) : w.cell? ⟨g, 0, none⟩ = some a ∧ w.frozen? ⟨g, 0, none⟩ = false := ⟨(blk_cell h 0).trans rfl, blk_frozen h 0⟩
theorem blk2 (h : w.heap[g]? = some (.cells #[a, b] t (0, 0))) : w.cell? ⟨g, 0, none⟩ = some a ∧ w.cell? ⟨g, 1, none⟩ = some b ∧ w.frozen? ⟨g, 0, none⟩ = false ∧ w.frozen? ⟨g, 1, none⟩ = false := ⟨(blk_cell h 0).trans rfl, (blk_cell h 1).trans rfl, blk_frozen h 0, blk_frozen h 1⟩
theorem blk3 (h : w.heap[g]? = some (.cells #[a, b, c] t (0, 0))) : w.cell? ⟨g, 0, none⟩ = some a ∧ w.cell? ⟨g, 1, none⟩ = some b ∧ w.cell? ⟨g, 2, none⟩ = some c ∧ w.frozen? ⟨g, 0, none⟩ = false ∧ w.frozen? ⟨g, 1, none⟩ = false ∧ w.frozen? ⟨g, 2, none⟩ = false := ⟨(blk_cell h 0).trans rfl, (blk_cell h 1).trans rfl, (blk_cell h 2).trans rfl, blk_frozen h 0, blk_frozen h 1, blk_frozen h 2⟩
theorem blk4 (h : w.heap[g]? = some (.cells #[a, b, c, d] t (0, 0))) : w.cell? ⟨g, 0, none⟩ = some a ∧ w.cell? ⟨g, 1, none⟩ = some b ∧ w.cell? ⟨g, 2, none⟩ = some c ∧ w.cell? ⟨g, 3, none⟩ = some d ∧ w.frozen? ⟨g, 0, none⟩ = false ∧ w.frozen? ⟨g, 1, none⟩ = false ∧ w.frozen? ⟨g, 2, none⟩ = false ∧ w.frozen? ⟨g, 3, none⟩ = false := ⟨(blk_cell h 0).trans rfl, (blk_cell h 1).trans rfl, (blk_cell h 2).trans rfl, (blk_cell h 3).trans rfl, blk_frozen h 0, blk_frozen h 1, blk_frozen h 2, blk_frozen h 3⟩
theorem blk5 (h : w.heap[g]? = some (.cells #[a, b, c, d, e] t (0, 0))) : w.cell? ⟨g, 0, none⟩ = some a ∧ w.cell? ⟨g, 1, none⟩ = some b ∧ w.cell? ⟨g, 2, none⟩ = some c ∧ w.cell? ⟨g, 3, none⟩ = some d ∧ w.cell? ⟨g, 4, none⟩ = some e ∧ w.frozen? ⟨g, 0, none⟩ = false ∧ w.frozen? ⟨g, 1, none⟩ = false ∧ w.frozen? ⟨g, 2, none⟩ = false ∧ w.frozen? ⟨g, 3, none⟩ = false ∧ w.frozen? ⟨g, 4, none⟩ = false := ⟨(blk_cell h 0).trans rfl, (blk_cell h 1).trans rfl, (blk_cell h 2).trans rfl, (blk_cell h 3).trans rfl, (blk_cell h 4).trans rfl, blk_frozen h 0, blk_frozen h 1, blk_frozen h 2, blk_frozen h 3, blk_frozen h 4⟩
end
/-- Function f has a body and may be called. -/
def Fr (P : Program) (f : FuncId) : Prop := ∃ fn, P.funcs[f]? = some fn ∧ (fn.name == "runtime.NumGoroutine") = false ∧ fn.body.isSome = true
section
variable {P : Program} {ops : Array Oper} {Q : Exit → Act → World → Prop} {rest : List Oper} {oi : Oper} {a : Act} {w : World}
theorem onc {f : FuncId} {args : Array Value} {as : List Value} {R : Ending → World → Prop} {K : Ending → World → Prop} (hc : Calls P f args w R) (ha : as = args.toList) (hk : ∀ e w', R e w' → K e w') : Calls P f as.toArray w K := by
  subst ha
  rw [Array.toArray_toList]
  exact hc.mono hk
theorem gg {f : FuncId} (N : Option Tmp) (hd : oi.dst = N) (hg : oi.guard = none) {as : Array Operand} {ts : Array TypeId} (hop : oi.op = .call { callee := .value (.func f), args := as, argTypes := ts }) (hf : Fr P f)
    (h : Calls P f (as.toList.map a.eval).toArray w fun e w' => ∃ v, e = .returned v ∧ wpList P ops Q rest (a.put N v) w') : wpList P ops Q (oi :: rest) a w := by
  obtain ⟨fn, hf, hn, hb⟩ := hf
  refine goesL_ N hd hg hf hn hb _ hop ?_ h
  rw [← Array.toList_map, Array.toArray_toList]
end
end Go.Proofs.Ytenpjddjmhjdoaa.M
