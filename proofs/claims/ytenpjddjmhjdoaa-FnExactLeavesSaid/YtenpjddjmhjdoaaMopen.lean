/- Arguments that are rows or trees of structs, laid open: out of the row's reading of memory the value that it reads, kind by kind. No condition. -/
import Derived.Test.YtenpjddjmhjdoaaMcore
import Derived.ChangeArms
import Derived.Deep.Slices
import Derived.Deep.Fields
import Derived.DataReads
import Derived.WideShapes
set_option linter.unusedVariables false
namespace Go.Proofs.Ytenpjddjmhjdoaa.M
open Go.RowKit Go.Deep Go.WideShapes Go.ChangeShapes Go.Proofs.YtenpjddjmhjdoaaW.PrintWords Go.Proofs.YtenpjddjmhjdoaaW.PrintLast Go.Proofs.YtenpjddjmhjdoaaW.PrintMore
section
variable {H : Type} {enc : TypeId × Value → H} {P : Program} {W : World}
/-- What a type's reading tells: the value, and what is known of it. -/
def Opn {α : Type} (enc : TypeId × Value → H) (P : Program) (W : World) (t : TypeId) (d : Kd α) (Q : α → Prop) (n : Nat) : Prop :=
  ∀ cs x, DataW.trod enc P W 0 (fun _ => true) true n t cs = some x → ∃ v, d.K W v cs ∧ Q v
theorem opn_int {t : TypeId} {k : IntKind} (n : Nat) (ht : P.underlying t = some (.int k)) : Opn enc P W t (Kd.int k) (fun v => (Lit.int k v).wf = true) n := by
  intro cs x h
  obtain ⟨v, rfl, _, hw⟩ := DataW.trod_int ht h
  exact ⟨v, rfl, hw⟩
theorem opn_bool {t : TypeId} (n : Nat) (ht : P.underlying t = some .bool) : Opn enc P W t Kd.bool (fun _ => True) n := by
  intro cs x h
  obtain ⟨v, rfl, _⟩ := DataW.trod_bool ht h
  exact ⟨v, rfl, trivial⟩
theorem list_of {α : Type} {S : Nat → α → Prop} : ∀ n, (∀ i, i < n → ∃ v, S i v) → ∃ xs : List α, xs.length = n ∧ ∀ j p, xs[j]? = some p → S j p
  | 0, _ => ⟨[], rfl, fun j p h => by simp at h⟩
  | n + 1, h => by
    obtain ⟨xs, hl, hx⟩ := list_of n (fun i hi => h i (by omega))
    obtain ⟨v, hv⟩ := h n (by omega)
    refine ⟨xs ++ [v], by simp [hl], fun j p hj => ?_⟩
    by_cases hjn : j < n
    · rw [List.getElem?_append_left (by omega)] at hj
      exact hx j p hj
    · rw [List.getElem?_append_right (by omega)] at hj
      rcases hq : j - xs.length with _ | q
      · rw [hq, List.getElem?_cons_zero] at hj
        injection hj with hj
        rw [← hj, show j = n by omega]
        exact hv
      · rw [hq] at hj
        simp at hj
theorem opn_slice {α : Type} {t e : TypeId} (e' : Nat) {d : Kd α} {Q : α → Prop} (n : Nat) (ht : P.underlying t = some (.slice e)) (hc : P.cellsOf e = d.sz) (he : ∀ m, m < n → Opn enc P W e d Q m) :
    Opn enc P W t (Kd.slice e' d) (fun v => v.length ≤ 9223372036854775807 ∧ ∀ y ∈ v, Q y) n := by
  intro cs x h
  rcases DataW.trod_slice ht h with ⟨rfl, _⟩ | ⟨a, len, cap, elems, rest, m, rfl, rfl, _, _, hl, hm, hlen, hel, _, _⟩
  · exact ⟨[], ⟨none, 0, rfl, by simp, Kd.C_nil d W⟩, by simp, fun y hy => by cases hy⟩
  · have hv : ∀ i, i < len → ∃ v, ∃ c, (c.length = d.sz ∧ d.K W v c ∧ ∀ j u, c[j]? = some u → W.cell? (a.add (i * d.sz + j)) = some u) ∧ Q v := by
      intro i hi
      have h1 := hel i hi
      rw [List.getElem?_eq_getElem (by omega)] at h1
      obtain ⟨c, hc1, hc2⟩ := Option.bind_eq_some_iff.1 h1
      obtain ⟨v, hk, hq⟩ := he m (by omega) c _ hc2
      obtain ⟨_, hcl, hat⟩ := World.cells?_some hc1
      rw [hc] at hcl hat
      refine ⟨v, c, ⟨hcl, hk, fun j u hu => ?_⟩, hq⟩
      have hj : j < d.sz := by rw [← hcl]; exact (List.getElem?_eq_some_iff.1 hu).1
      rw [← Go.Deep.add_add, hat j hj, hu]
    obtain ⟨xs, hxl, hx⟩ := list_of len hv
    have hmx : maxLen = 9223372036854775807 := rfl
    subst hxl
    refine ⟨xs, ⟨some a, cap, rfl, hl, rfl, by omega, fun _ => ⟨a, rfl, fun j p hj => ?_⟩⟩, by omega, fun y hy => ?_⟩
    · obtain ⟨c, ⟨h1, h2, h3⟩, _⟩ := hx j p hj
      exact ⟨c, h1, h2, h3⟩
    · obtain ⟨j, hj, rfl⟩ := List.getElem_of_mem hy
      obtain ⟨_, _, hq⟩ := hx j _ (List.getElem?_eq_getElem hj)
      exact hq
theorem list3 {α : Type} {l : List α} {a b c : α} (h : l.length = 3) (h0 : l[0]? = some a) (h1 : l[1]? = some b) (h2 : l[2]? = some c) : l = [a, b, c] := by
  rcases l with _ | ⟨x, _ | ⟨y, _ | ⟨z, _ | ⟨u, l⟩⟩⟩⟩ <;> simp_all
theorem list5 {α : Type} {l : List α} {a b c d e : α} (h : l.length = 5) (h0 : l[0]? = some a) (h1 : l[1]? = some b) (h2 : l[2]? = some c) (h3 : l[3]? = some d) (h4 : l[4]? = some e) : l = [a, b, c, d, e] := by
  rcases l with _ | ⟨x, _ | ⟨y, _ | ⟨z, _ | ⟨u, _ | ⟨v, _ | ⟨q, l⟩⟩⟩⟩⟩⟩ <;> simp_all
/-- A struct of one-cell fields: each field's reading. -/
theorem opn_fields {t : TypeId} {fs : Array Field} {n : Nat} {cs : List Value} {x : DataW H × List MemPlace} (hs : P.underlying t = some (.struct fs)) (hone : oneCellFields P fs = true) (hC : P.cellsOf t = fs.size)
    (h : DataW.trod enc P W 0 (fun _ => true) true n t cs = some x) : ∃ m, n = m + 1 ∧ cs.length = fs.size ∧ ∀ (i : Nat) (f : Field), fs[i]? = some f → ∃ c y, cs[i]? = some c ∧ DataW.trod enc P W 0 (fun _ => true) true m f.type [c] = some y := by
  obtain ⟨xs, m, hn, _, hcl, hlen, hg⟩ := DataW.trod_struct hs h
  refine ⟨m, hn, hcl.trans hC, fun i f hf => ?_⟩
  obtain ⟨ho, hk⟩ := hone_of hone i f hf
  have hi : i < fs.size := (Array.getElem?_eq_some_iff.1 hf).1
  have h1 := hg i f hf
  rw [ho, hk] at h1
  have hic : i < cs.length := by omega
  have h2 : (cs.drop i).take 1 = [cs[i]] := by
    rw [List.drop_eq_getElem_cons hic]
    rfl
  rw [h2, List.getElem?_eq_getElem (by omega)] at h1
  exact ⟨_, _, List.getElem?_eq_getElem hic, h1⟩
end
end Go.Proofs.Ytenpjddjmhjdoaa.M
