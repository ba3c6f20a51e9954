/- Rows of byte slices told by their cells: each cell's bytes, and that no two cells share a block. No condition. -/
import Derived.Test.YtockllljeeakaaaMown
namespace Go.Proofs.Ytockllljeeakaaa.M
open Go.RowKit Go.Proofs.YtockllljeeakaaaW.PrintWords Go.Proofs.YtockllljeeakaaaW.PrintLast Go.Proofs.YtockllljeeakaaaW.PrintMore
set_option linter.unusedVariables false
set_option linter.unusedSimpArgs false
/-- A value of one cell. -/
abbrev OC := {v : Value // v.oneCell' = true}
/-- Rows of cells, as they are. -/
def kc : Kd OC := Kd.scalar (fun x => x.1) (fun x => x.2)
/-- Bytes, and the cell that leads to them. -/
abbrev Pe := List Int × OC
def own1 (p : Pe) : Option Nat := p.2.1.ownBlock
theorem own_uni : ∀ (ps : List Pe), (ps.filterMap own1).Nodup → ∀ (i j : Nat) (p q : Pe) (k : Nat), ps[i]? = some p → ps[j]? = some q → own1 p = some k → own1 q = some k → i = j
  | [], _, i, j, p, q, k, hi, _, _, _ => by simp at hi
  | x :: ps, nd, i, j, p, q, k, hi, hj, hp, hq => by
    have mem : ∀ (n : Nat) (r : Pe), ps[n]? = some r → own1 r = some k → k ∈ ps.filterMap own1 := fun n r hn hr => List.mem_filterMap.2 ⟨r, List.mem_of_getElem? hn, hr⟩
    have nd2 : (ps.filterMap own1).Nodup := by
      cases e : own1 x with
      | none => rwa [List.filterMap_cons_none e] at nd
      | some b => rw [List.filterMap_cons_some e] at nd; exact (List.nodup_cons.1 nd).2
    cases i with
    | zero =>
      cases j with
      | zero => rfl
      | succ j =>
        obtain rfl : x = p := by simpa using hi
        rw [List.filterMap_cons_some hp] at nd
        exact absurd (mem j q (by simpa using hj) hq) (List.nodup_cons.1 nd).1
    | succ i =>
      cases j with
      | zero =>
        obtain rfl : x = q := by simpa using hj
        rw [List.filterMap_cons_some hq] at nd
        exact absurd (mem i p (by simpa using hi) hp) (List.nodup_cons.1 nd).1
      | succ j => exact congrArg (· + 1) (own_uni ps nd2 i j p q k (by simpa using hi) (by simpa using hj) hp hq)
/-- A row of byte slices, each of its own. -/
structure Rw (w : World) (base : Nat) (v : Value) (ps : List Pe) : Prop where
  o : kc.R 22 w base (fun _ => True) v (ps.map (·.2))
  el : ∀ p ∈ ps, (Kd.int .u8).R 5 w base (fun _ => True) p.2.1 p.1
  nd : (ps.filterMap own1).Nodup
theorem Rw.below {w w' : World} {base : Nat} {v : Value} {ps : List Pe} (h : Rw w base v ps) (hb : Below w.heap.size w w') : Rw w' base v ps :=
  ⟨Kd.R_below h.o hb, fun p hp => Kd.R_below (h.el p hp) hb, h.nd⟩
theorem Rw.lower {w : World} {base b2 : Nat} {v : Value} {ps : List Pe} (h : Rw w base v ps) (hb : b2 ≤ base) : Rw w b2 v ps :=
  ⟨Kd.R_lower h.o hb, fun p hp => Kd.R_lower (h.el p hp) hb, h.nd⟩
theorem Rw.nil (w : World) (base : Nat) : Rw w base (.slice none 0 0) [] := ⟨Kd.R_nil _ _ _ _ _, fun p hp => by simp at hp, by simp⟩
theorem el_lt {w : World} {base : Nat} {p : Pe} (h : (Kd.int .u8).R 5 w base (fun _ => True) p.2.1 p.1) {k : Nat} (hk : own1 p = some k) : base ≤ k ∧ k < w.heap.size := by
  have := (Kd.R_bound h).1 k hk
  exact ⟨this.2.1, this.2.2.1⟩
theorem el_ty {w : World} {base : Nat} {p : Pe} (h : (Kd.int .u8).R 5 w base (fun _ => True) p.2.1 p.1) {k : Nat} (hk : own1 p = some k) : ∃ cells, w.heap[k]? = some (.cells cells 5 (0, 0)) := Kd.R_typed h k hk
open Classical in
/-- It is a row whose elements lie apart. -/
theorem Rw.S {w : World} {base : Nat} {v : Value} {ps : List Pe} (h : Rw w base v ps) : Kd.S (Kd.slice 5 (Kd.int .u8)) 22 w base (fun _ => True) v (ps.map (·.1)) := by
  have U := own_uni ps h.nd
  refine ⟨fun k => if e : ∃ j p, ps[j]? = some p ∧ own1 p = some k then e.choose else 0, fun _ _ => trivial, ?_⟩
  have ho := Kd.own_of_R (h1 := fun x => x.2) (show (Kd.scalar (fun x : OC => x.1) (fun x => x.2)).R 22 w base (fun _ => True) v (ps.map (·.2)) from h.o)
  refine ⟨ps.map (fun p => p.2.1), ?_, ?_, fun j q hj => ?_⟩
  · have e1 : encs (fun x : OC => x.1) (ps.map (·.2)) = ps.map fun p => p.2.1 := by simp [encs]
    rw [e1] at ho
    rw [List.length_zipIdx, List.length_map]
    rw [List.length_map] at ho
    exact ho
  · show (ps.map _).length = (List.zipIdx _).length * 1
    simp
  · rw [List.getElem?_zipIdx, List.getElem?_map] at hj
    cases hp : ps[j]? with
    | none => rw [hp] at hj; simp at hj
    | some p =>
      rw [hp] at hj
      obtain rfl : (p.1, j) = q := by simpa using hj
      have hm : p ∈ ps := List.mem_of_getElem? hp
      have hel := h.el p hm
      have hc : ((ps.map fun p => p.2.1).drop (j * (Kd.slice 5 (Kd.int .u8)).sz)).take (Kd.slice 5 (Kd.int .u8)).sz = [p.2.1] := by
        show ((ps.map _).drop (j * 1)).take 1 = _
        have hlt := (List.getElem?_eq_some_iff.1 hp).1
        rw [Nat.mul_one, List.drop_eq_getElem_cons (by rw [List.length_map]; exact hlt)]
        simp only [List.take_succ_cons, List.take_zero, List.getElem_map]
        rw [(List.getElem?_eq_some_iff.1 hp).2]
      show (Kd.slice 5 (Kd.int .u8)).M w base _ p.1 _
      refine ⟨p.2.1, hc, ⟨fun k hk => ⟨⟨trivial, fun he => ?_⟩, ?_⟩, hel.2⟩⟩
      · obtain ⟨c1, h1⟩ := el_ty hel hk
        obtain ⟨c2, h2⟩ := Kd.R_typed h.o k he.symm
        rw [h1] at h2
        injection h2 with h2
        injection h2 with _ h2
        exact absurd h2 (by decide)
      · have ex : ∃ j p, ps[j]? = some p ∧ own1 p = some k := ⟨j, p, hp, hk⟩
        show (if e : ∃ j p, ps[j]? = some p ∧ own1 p = some k then e.choose else 0) = j
        rw [dif_pos ex]
        obtain ⟨q, hq1, hq2⟩ := ex.choose_spec
        exact U _ _ _ _ _ hq1 hp hq2 hk
/-- The same cells in another order, or some of them. -/
theorem Rw.perm {w : World} {base : Nat} {v v' : Value} {ps qs : List Pe} (h : Rw w base v ps) (hp : qs.Perm ps) (o : kc.R 22 w base (fun _ => True) v' (qs.map (·.2))) : Rw w base v' qs :=
  ⟨o, fun p hm => h.el p (hp.mem_iff.1 hm), (hp.filterMap own1).nodup_iff.2 h.nd⟩
theorem Rw.sub {w : World} {base : Nat} {v v' : Value} {ps qs : List Pe} (h : Rw w base v ps) (hp : qs.Sublist ps) (o : kc.R 22 w base (fun _ => True) v' (qs.map (·.2))) : Rw w base v' qs :=
  ⟨o, fun p hm => h.el p (hp.mem hm), (hp.filterMap own1).nodup h.nd⟩
end Go.Proofs.Ytockllljeeakaaa.M
