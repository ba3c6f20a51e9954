/- Rows that lie apart: an element taken out, the last place cleared. No condition. -/
import Derived.Test.YtockllljeeakaaaMkx
import Derived.Lib.SliceRun
namespace Go.Proofs.Ytockllljeeakaaa.M
open Go.RowKit Go.Proofs.YtockllljeeakaaaW.PrintWords Go.Proofs.YtockllljeeakaaaW.PrintLast Go.Proofs.YtockllljeeakaaaW.PrintMore
set_option linter.unusedVariables false
set_option linter.unusedSimpArgs false
theorem zeroCells_one (cs : Array Value) : (Builtin.zeroCells cs 1).toList = cs.toList := by
  unfold Builtin.zeroCells
  apply List.ext_getElem?
  intro i
  by_cases h : i < cs.size
  · simp [h, Nat.mod_eq_of_lt h]
  · simp [h]
theorem grown3 {w w0 w1 w2 : World} {r : Option Nat} (h0 : Below w.heap.size w w0) (h1 : w0.grownBy w1 r) (h2 : w1.grownBy w2 r) : w.grownBy w2 r :=
  ⟨h2.os.trans (h1.os.trans h0.os), h2.tape.trans (h1.tape.trans h0.tape), h2.output.trans (h1.output.trans h0.output), Nat.le_trans h0.size (Nat.le_trans h1.size h2.size), fun k hk hne => (h2.block k (Nat.lt_of_lt_of_le hk (Nat.le_trans h0.size h1.size)) hne).trans ((h1.block k (Nat.lt_of_lt_of_le hk h0.size) hne).trans (h0.block k hk))⟩
section
variable {P : Program} {α : Type}
theorem R_clear_run (d : Kd α) {W : World} (base : Nat) (t ty e : TypeId) (ht : P.underlying t = some (.slice e)) {z : Value} (hz : ∀ w, (zeroValue e).run P w = .ok z w) (hzs : z.cells.size = d.sz) (h1 : ∀ u ∈ z.cells.toList, u.oneCell' = true)
    {g n c cc o : Nat} {xs : List α} {ok : Nat → Prop} (HO : d.R e W base ok (.slice (some ⟨g, 0, none⟩) n c) xs) (hm : n + 1 ≤ c) (ho : o = n * d.sz) :
    ∃ w1, (Builtin.clear_ #[t] ty #[.slice (some ⟨g, o, none⟩) 1 cc]).run P W = .ok (.tuple #[]) w1 ∧ d.R e w1 base ok (.slice (some ⟨g, 0, none⟩) n c) xs ∧ W.grownBy w1 (some g) := by
  subst ho
  obtain ⟨hn, hnc, _⟩ := Kd.R_reads' HO
  obtain ⟨hok, inner, hown, hr⟩ := HO
  have hin : inner.length = n * d.sz := by rw [hr.1, hn]
  rcases hown.2 with ⟨hv, _⟩ | ⟨g', cap', cur, hv, hb, hh, hcl, hcm, hcs, htake⟩
  · cases hv
  injection hv with ha _ hc
  injection ha with ha
  injection ha with hg
  subst hg; subst hc
  have hle : (n + 1) * d.sz ≤ c * d.sz := Nat.mul_le_mul_right _ hm
  have hks : (n + 1) * d.sz = n * d.sz + d.sz := Nat.succ_mul _ _
  have hfit : n * d.sz + z.cells.toList.length ≤ cur.size := by rw [Array.length_toList]; omega
  have hst := run_storeCells_cells (P := P) g (n * d.sz) z.cells.toList 0 W (fun j hj => by rw [cell_of_row W g _ cur e (0, 0) hh]; simp; omega) (fun j _ => blk_frozen hh _) h1
  rw [Nat.add_zero] at hst
  have hrun : (Builtin.clear_ #[t] ty #[.slice (some ⟨g, n * d.sz, none⟩) 1 cc]).run P W = .ok (.tuple #[]) (W.setCells g (n * d.sz) z.cells.toList) := by
    simp [Builtin.clear_, run_underlying ht, hz, zeroCells_one, hst]
  obtain ⟨cur', h3, h4, h5⟩ := setCells_row z.cells.toList (n * d.sz) W cur hh hfit
  obtain ⟨s1, s2, s3, s4⟩ := setCells_same g z.cells.toList (n * d.sz) W
  have hfar : ∀ k', k' ≠ g → (W.setCells g (n * d.sz) z.cells.toList).heap[k']? = W.heap[k']? := fun k' hk' => setCells_far _ _ k' hk'
  have hgo : some g = (Value.slice (some ⟨g, 0, none⟩) n c).ownBlock := by simp [Value.ownBlock]
  refine ⟨_, hrun, ⟨hok, inner, ⟨hown.1, .inr ⟨g, c, cur', by rw [hn], hb, h3, hcl, hcm, by rw [h4, hcs], ?_⟩⟩, ?_⟩, ⟨s1, s2, s3, by rw [s4]; exact Nat.le_refl _, fun k' _ hk' => hfar k' (fun he => hk' (by rw [he]))⟩⟩
  · rw [← hn] at htake ⊢
    rw [h5, List.append_assoc, List.take_append_of_le_length (by rw [List.length_take, Array.length_toList]; omega), List.take_take, Nat.min_self]
    exact htake
  · exact hr.imp_ fun p q hp => d.M_move (fun k' hk' => hfar k' (fun he => hk'.2 (by rw [← hgo, he]))) hp
theorem S_clear_run (d : Kd α) {W : World} (base : Nat) (t ty e : TypeId) (ht : P.underlying t = some (.slice e)) {z : Value} (hz : ∀ w, (zeroValue e).run P w = .ok z w) (hzs : z.cells.size = d.sz) (h1 : ∀ u ∈ z.cells.toList, u.oneCell' = true)
    {g n c : Nat} (m1 cc o : Nat) {xs : List α} {ok : Nat → Prop} (HO : Kd.S d e W base ok (.slice (some ⟨g, 0, none⟩) n c) xs) (hm : n + 1 ≤ c) (hm1 : m1 = 1) (ho : o = n * d.sz) :
    ∃ w1, (Builtin.clear_ #[t] ty #[.slice (some ⟨g, o, none⟩) m1 cc]).run P W = .ok (.tuple #[]) w1 ∧ Kd.S d e w1 base ok (.slice (some ⟨g, 0, none⟩) n c) xs ∧ W.grownBy w1 (some g) := by
  subst hm1
  obtain ⟨f, h⟩ := HO
  obtain ⟨w1, h2, h3, h4⟩ := R_clear_run (P := P) (Kd.tag f d) base t ty e ht hz hzs h1 h hm ho
  exact ⟨w1, h2, ⟨f, h3⟩, h4⟩
end
end Go.Proofs.Ytockllljeeakaaa.M
