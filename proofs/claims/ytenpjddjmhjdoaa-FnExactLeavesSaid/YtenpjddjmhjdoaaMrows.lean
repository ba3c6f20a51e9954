/- A row of elements that lie apart, put to the end of another one. No condition. -/
import Derived.Test.YtenpjddjmhjdoaaMkx
namespace Go.Proofs.Ytenpjddjmhjdoaa.M
open Go.RowKit Go.Proofs.YtenpjddjmhjdoaaW.PrintWords Go.Proofs.YtenpjddjmhjdoaaW.PrintLast Go.Proofs.YtenpjddjmhjdoaaW.PrintMore
set_option linter.unusedVariables false
set_option linter.unusedSimpArgs false
/-- A row of one's own, element by element. -/
theorem R_rows {α : Type} {d : Kd α} {e base : Nat} {ok : Nat → Prop} {w : World} {A : Option Addr} {m c : Nat} {ys : List α} (hx : d.R e w base ok (.slice A m c) ys) : ReadsRow (d.M w base ok) d.sz w A m ys := by
  obtain ⟨A', c', e', _, hr⟩ := Kd.R_reads hx
  injection e' with e1 e2 e3
  subst e1 e2
  obtain ⟨h1, h2, h3⟩ := hr
  refine ⟨rfl, h2, fun hp => ?_⟩
  obtain ⟨ad, rfl, -⟩ := h3 hp
  refine ⟨ad, rfl, fun j p hj => ?_⟩
  have hjl := (List.getElem?_eq_some_iff.1 hj).1
  obtain ⟨c2, hcl, hM, hcc⟩ := Kd.R_getA hx p (j : Int) (by omega) (by omega)
  rw [Int.toNat_natCast, List.getD_eq_getElem?_getD, hj] at hM
  rw [Int.toNat_natCast] at hcc
  exact ⟨c2, hcl, d.M_mono (fun k hk => hk.1) hM, hcc⟩
open Classical in
theorem S_tag2 {α : Type} {d : Kd α} {e base : Nat} {okv okx : Nat → Prop} {w : World} {v : Value} {A : Option Addr} {m c : Nat} {xs ys : List α} (h : Kd.S d e w base okv v xs) (hx : Kd.S d e w base okx (.slice A m c) ys) (hd : ∀ k, okx k → ¬ okv k) :
    ∃ f, (Kd.tag f d).R e w base okv v xs.zipIdx ∧ ReadsRow ((Kd.tag f d).M w base okx) d.sz w A m (ys.zipIdx xs.length) := by
  obtain ⟨f, h⟩ := h
  obtain ⟨f', hx⟩ := hx
  refine ⟨fun k => if okx k then f' k + xs.length else f k, Kd.R_tag h (fun k hk _ => if_neg (fun h2 => hd k h2 hk)), ?_⟩
  obtain ⟨h1, h2, h3⟩ := R_rows hx
  rw [List.length_zipIdx] at h1
  refine ⟨by rw [List.length_zipIdx]; exact h1, h2, fun hp => ?_⟩
  obtain ⟨ad, ha, h4⟩ := h3 hp
  refine ⟨ad, ha, fun j p hj => ?_⟩
  rw [List.getElem?_zipIdx] at hj
  obtain ⟨y, hy, rfl⟩ := Option.map_eq_some_iff.1 hj
  obtain ⟨c2, hcl, hM, hcc⟩ := h4 j (y, j) (by rw [List.getElem?_zipIdx, hy, Nat.zero_add]; rfl)
  refine ⟨c2, hcl, ?_, hcc⟩
  exact d.M_mono (fun k hk => ⟨hk.1, by show (if okx k then f' k + xs.length else f k) = xs.length + j; rw [if_pos hk.1, show f' k = j from hk.2]; omega⟩) hM
section
variable {P : Program} {ops : Array Oper} {rest : List Oper} {o : Oper} {a : Act} {Q : Exit → Act → World → Prop} {Kc : Act → World → Prop} {α : Type}
/-- append(v, ys...): the elements of both are apart from one another. -/
theorem S_append_rows (d : Kd α) {w0 W : World} (base : Nat) (hgd : o.guard = none) (s x : Operand) (t e : TypeId) (z : Value) (bytes : Nat)
    (ho : o.op = .call { callee := .builtin .append, args := #[s, x], argTypes := #[t, t] })
    (ht : P.underlying t = some (.slice e)) (hinfo : (P.info? e).map (fun i => (i.zero, i.size, i.bytes)) = some (some z, d.sz, bytes)) (hz : z.cells.size = d.sz) (hs0 : 0 < d.sz) (hb0 : 0 < bytes)
    (v : Value) (xs ys : List α) (A : Option Addr) (m c : Nat) (ok okp : Nat → Prop) (hs : a.eval s = v) (hx : a.eval x = .slice A m c) (hokp : ∀ k, okp k → ok k ∧ some k ≠ v.ownBlock) (hfresh : ∀ k, W.heap.size ≤ k → ok k)
    (HO : Kd.S d e W base (fun k => ok k ∧ ¬ okp k) v xs) (HX : Kd.S d e W base okp (.slice A m c) ys) (HB : Below base w0 W) (hbase : base ≤ W.heap.size) (hl : (xs.length + m) * bytes ≤ 140737488355328)
    (h : ∀ v1 w1, Kd.S d e w1 base ok v1 (xs ++ ys) → Below base w0 w1 → W.grownBy w1 v.ownBlock → (v1.ownBlock = v.ownBlock ∨ ∃ b, v1.ownBlock = some b ∧ W.heap.size ≤ b) → wpList P ops Q rest (a.put o.dst v1) w1) :
    wpList P ops Q (o :: rest) a W := by
  obtain ⟨f, hR, hN⟩ := S_tag2 HO HX (fun k hk h2 => h2.2 hk)
  refine Kd.R_append_rows (Kd.tag f d) base hgd s x t e z bytes ho ht hinfo hz hs0 hb0 v xs.zipIdx (ys.zipIdx xs.length) A m c ok okp hs hx (Kd.R_mono hR (fun _ hk => hk.1)) hN (fun _ _ hk => hk) hokp hfresh HB hbase (by rw [List.length_zipIdx]; exact hl) ?_
  intro v1 w1 hr
  rw [show xs.zipIdx ++ ys.zipIdx xs.length = (xs ++ ys).zipIdx by rw [List.zipIdx_append, Nat.zero_add]] at hr
  exact h v1 w1 ⟨f, hr⟩
theorem S_append_rows_step (d : Kd α) {w0 W : World} (base : Nat) (hw : Region.wanted o (yielded ops a.tmps) = true) (s x : Operand) (t e : TypeId) (z : Value) (bytes : Nat)
    (ho : o.op = .call { callee := .builtin .append, args := #[s, x], argTypes := #[t, t] })
    (ht : P.underlying t = some (.slice e)) (hinfo : (P.info? e).map (fun i => (i.zero, i.size, i.bytes)) = some (some z, d.sz, bytes)) (hz : z.cells.size = d.sz) (hs0 : 0 < d.sz) (hb0 : 0 < bytes)
    (v : Value) (xs ys : List α) (A : Option Addr) (m c : Nat) (ok okp : Nat → Prop) (hs : a.eval s = v) (hx : a.eval x = .slice A m c) (hokp : ∀ k, okp k → ok k ∧ some k ≠ v.ownBlock) (hfresh : ∀ k, W.heap.size ≤ k → ok k)
    (HO : Kd.S d e W base (fun k => ok k ∧ ¬ okp k) v xs) (HX : Kd.S d e W base okp (.slice A m c) ys) (HB : Below base w0 W) (hbase : base ≤ W.heap.size) (hl : (xs.length + m) * bytes ≤ 140737488355328)
    (h : ∀ v1 w1, Kd.S d e w1 base ok v1 (xs ++ ys) → Below base w0 w1 → W.grownBy w1 v.ownBlock → (v1.ownBlock = v.ownBlock ∨ ∃ b, v1.ownBlock = some b ∧ W.heap.size ≤ b) → Kc (a.put o.dst v1) w1) :
    if Region.wanted o (yielded ops a.tmps) = true then Oper.wp P o a W Kc Q else Kc (a.put o.dst undef) W := by
  obtain ⟨f, hR, hN⟩ := S_tag2 HO HX (fun k hk h2 => h2.2 hk)
  refine Kd.R_append_rows_step (Kd.tag f d) base hw s x t e z bytes ho ht hinfo hz hs0 hb0 v xs.zipIdx (ys.zipIdx xs.length) A m c ok okp hs hx (Kd.R_mono hR (fun _ hk => hk.1)) hN (fun _ _ hk => hk) hokp hfresh HB hbase (by rw [List.length_zipIdx]; exact hl) ?_
  intro v1 w1 hr
  rw [show xs.zipIdx ++ ys.zipIdx xs.length = (xs ++ ys).zipIdx by rw [List.zipIdx_append, Nat.zero_add]] at hr
  exact h v1 w1 ⟨f, hr⟩
end
end Go.Proofs.Ytenpjddjmhjdoaa.M
