/- A row of bytes that is put to: it may be moved; what is of another type stays. -/
import Derived.Test.YtenpjddjmhjdoaaDoorMals
import Derived.Test.YtenpjddjmhjdoaaDoorMappstr
import Derived.Lib.BufferKept
namespace Go.Proofs.YtenpjddjmhjdoaaDoor.M
open Go.RowKit Go.Lib Go.Proofs.YtenpjddjmhjdoaaDoorW.PrintWords Go.Proofs.YtenpjddjmhjdoaaDoorW.PrintLast Go.Proofs.YtenpjddjmhjdoaaDoorW.PrintMore
set_option linter.unusedVariables false
set_option linter.unusedSimpArgs false
/-- One step from w: the row reads as r. -/
structure Stp (e : Nat) (w0 w : World) (r : List Int) (v : Value) (w' : World) : Prop where
  r : (Kd.int .u8).R e w' w0.heap.size (fun _ => True) v r
  hb : Below w0.heap.size w0 w'
  hk : OthersKept e none w w'
  sz : w.heap.size ≤ w'.heap.size
theorem Stp.refl {e : Nat} {w0 w : World} {l : List Int} {v : Value} (h : (Kd.int .u8).R e w w0.heap.size (fun _ => True) v l) (hb : Below w0.heap.size w0 w) : Stp e w0 w l v w := ⟨h, hb, OthersKept.refl _ _ _, Nat.le_refl _⟩
theorem Stp.then_ {e : Nat} {w0 W w w' : World} {l r : List Int} {v v' : Value} (h : Stp e w0 W l v w) (k : Stp e w0 w r v' w') : Stp e w0 W r v' w' := ⟨k.r, k.hb, h.hk.trans k.hk, Nat.le_trans h.sz k.sz⟩
theorem Stp.below {e : Nat} {w0 W w w' : World} {l : List Int} {v : Value} (h : Stp e w0 W l v w) (hb : Below w.heap.size w w') : Stp e w0 W l v w' := ⟨Kd.R_below h.r hb, below_step h.hb hb, h.hk.below hb, Nat.le_trans h.sz hb.size⟩
theorem Bx.stp {e t g : Nat} {w0 w w' : World} {r : List Int} {v : Value} {bs : Array Value} (h : Bx w g t bs) (k : Stp e w0 w r v w') (ht : t ≠ e) : Bx w' g t bs :=
  ⟨k.hk g _ h.h (by simp) (fun c fz q => by injection q with _ q2; exact ht q2)⟩
theorem others_grown {e base : Nat} {w w1 : World} {ok : Nat → Prop} {v : Value} {l : List Int} (hr : (Kd.int .u8).R e w base ok v l) (hg : w.grownBy w1 v.ownBlock) : OthersKept e none w w1 := fun k o hk _ hne => by
  refine (hg.block k (blk_lt hk) fun he => ?_).trans hk
  obtain ⟨cells, hc⟩ := Kd.R_typed hr k he.symm
  rw [hk] at hc
  exact hne _ _ (Option.some.inj hc)
section
variable {P : Program} {ops : Array Oper} {Q : Exit → Act → World → Prop} {rest : List Oper} {o : Oper} {a : Act} {e : Nat} {w0 w : World} {l ys : List Int} {v : Value}
/-- A row's bytes put to it. -/
theorem tx_rows (hgd : o.guard = none) (s x : Operand) (t : TypeId) (ho : o.op = .call { callee := .builtin .append, args := #[s, x], argTypes := #[t, t] }) (ht : P.underlying t = some (.slice e)) (hinfo : (P.info? e).map (fun i => (i.zero, i.size, i.bytes)) = some (some (.int .u8 0), 1, 1))
    {A : Option Addr} {m c : Nat} (hs : a.eval s = v) (hx : a.eval x = .slice A m c) (hr : (Kd.int .u8).R e w w0.heap.size (fun _ => True) v l) (hb : Below w0.heap.size w0 w) (hy : (Kd.int .u8).C w A m ys) (hl : l.length + m ≤ 140737488355328)
    (k : ∀ v1 w1, Stp e w0 w (l ++ ys) v1 w1 → wpList P ops Q rest (a.put o.dst v1) w1) : wpList P ops Q (o :: rest) a w := by
  refine Kd.R_append_rows (Kd.int .u8) (w0 := w0) w0.heap.size hgd s x t e (.int .u8 0) 1 ho ht hinfo rfl (by decide) (by omega) v l ys A m c (fun _ => True) (fun _ => False) hs hx hr hy (fun _ _ h => h) (fun _ h => h.elim) (fun _ _ => trivial) hb hb.size (by omega) ?_
  intro v1 w1 h1 h2 hg hat
  exact k v1 w1 ⟨h1, h2, others_grown hr hg, hg.size⟩
/-- A string put to it. -/
theorem tx_str (hgd : o.guard = none) (s x : Operand) (t u : TypeId) (ho : o.op = .call { callee := .builtin .append, args := #[s, x], argTypes := #[t, u] }) (ht : P.underlying t = some (.slice e)) (hu : P.underlying u = some .string) (hinfo : (P.info? e).map (fun i => (i.zero, i.size, i.bytes)) = some (some (.int .u8 0), 1, 1))
    {y : ByteArray} (hs : a.eval s = v) (hx : a.eval x = .string y) (hr : (Kd.int .u8).R e w w0.heap.size (fun _ => True) v l) (hb : Below w0.heap.size w0 w) (hy : bytesOf y = ys) (hl : l.length + y.size ≤ 140737488355328)
    (k : ∀ v1 w1, Stp e w0 w (l ++ ys) v1 w1 → wpList P ops Q rest (a.put o.dst v1) w1) : wpList P ops Q (o :: rest) a w := by
  subst hy
  refine append_str_at (w0 := w0) w0.heap.size hgd s x t u e ho ht hu hinfo v l y hs hx (Kd.own_of_R hr) hb hb.size hl ?_
  intro v1 w1 h1 h2 hg hat
  exact k v1 w1 ⟨Kd.R_of_own (h1 := fun _ => rfl) (ok := fun _ => True) h1 (fun _ _ => trivial), h2, others_grown hr hg, hg.size⟩
/-- One byte put to it. -/
theorem tx_one (hgd : o.guard = none) (s x : Operand) (t : TypeId) (ho : o.op = .call { callee := .builtin .append, args := #[s, x], argTypes := #[t, t] }) (ht : P.underlying t = some (.slice e)) (hinfo : (P.info? e).map (fun i => (i.zero, i.size, i.bytes)) = some (some (.int .u8 0), 1, 1))
    {p : Int} (hs : a.eval s = v) (hx : a.eval x = .slice (some ⟨w.heap.size, 0, none⟩) 1 1) (hr : (Kd.int .u8).R e w w0.heap.size (fun _ => True) v l) (hb : Below w0.heap.size w0 w) (hl : l.length + 1 ≤ 140737488355328)
    (k : ∀ v1 w1, Stp e w0 w (l ++ [p]) v1 w1 → wpList P ops Q rest (a.put o.dst v1) w1) : wpList P ops Q (o :: rest) a (w.alloc (.cells #[.int .u8 p] e)) := by
  refine Kd.R_append (Kd.int .u8) (w0 := w0) w0.heap.size hgd s x t e (.int .u8 0) 1 ho ht hinfo rfl (by decide) (by omega) v l p [.int .u8 p] (fun _ => True) (fun _ => False) hs hx rfl (fun _ h => h.elim) (fun _ _ => trivial) hr hb hb.size (by omega) ?_
  intro v1 w1 h1 h2 hg hat
  exact k v1 w1 ⟨h1, h2, others_grown hr hg, hg.size⟩
end
end Go.Proofs.YtenpjddjmhjdoaaDoor.M
