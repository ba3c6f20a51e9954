/- The pure statement of FnExactHasPrefix: both tell whether one row of bytes begins with another, and tell the same. No condition. -/
import Derived.Test.YtakpbfpdmkjccaaPFnExactHasPrefixx1
import Derived.Test.YtakpbfpdmkjccaaMcore
import Derived.Test.YtakpbfpdmkjccaaMnum
namespace Go.Proofs.Ytakpbfpdmkjccaa.Pure
open Go.RowKit Go.Proofs.Ytakpbfpdmkjccaa.PFnExactHasPrefix Go.Proofs.YtakpbfpdmkjccaaW.PrintWords Go.Proofs.YtakpbfpdmkjccaaW.PrintLast Go.Proofs.YtakpbfpdmkjccaaW.PrintMore Go.Proofs.Ytakpbfpdmkjccaa.M
set_option linter.unusedVariables false
set_option linter.unusedSimpArgs false
/-! spec_HasPrefix -/
theorem spec_HasPrefix_eq (a b : List Int) (ha : By a) (hb : By b) : spec_HasPrefix.f a b = some (hasPre a b) := by
  unfold spec_HasPrefix.f hasPre
  by_cases h : b.length ≤ a.length
  · rw [if_pos (by omega), if_pos (by omega), if_pos (by omega), Int.toNat_natCast, str_inj (By_take _ ha) hb]
    simp [h]
  · rw [if_neg (by omega)]
    simp [h]
/-! laws_toByteS -/
theorem toByteS_l0 (l : List Int) (hl : l.length ≤ 4611686018427387903) : ∀ (d i : Nat) (out : List Int), i + d = l.length → out.length = l.length → out.take i = l.take i → Ev (fun k => laws_toByteS.l0 k l out i) l := by
  intro d
  induction d with
  | zero =>
    intro i out hd ho ht
    refine Ev.step (fun _ => laws_toByteS.l0.eq_2 ..) ?_
    refine ev_neg (by omega) ?_
    refine ev_is ?_
    rwa [List.take_of_length_le (by omega), List.take_of_length_le (by omega)] at ht
  | succ d ih =>
    intro i out hd ho ht
    refine Ev.step (fun _ => laws_toByteS.l0.eq_2 ..) ?_
    refine ev_pos (by omega) ?_
    refine ev_pos (by omega) ?_
    refine ev_pos (by omega) ?_
    rw [w64s i (by omega), Int.toNat_natCast]
    refine ih (i + 1) _ (by omega) (by rw [List.length_set]; exact ho) ?_
    rw [List.take_succ_eq_append_getElem (by rw [List.length_set]; omega), List.take_succ_eq_append_getElem (by omega), List.take_set_of_le (by omega), ht, List.getElem_set_self, rd_nat _ _ (by omega)]
theorem toByteS_ev (l : List Int) (hl : l.length ≤ 281474976710656) : Ev (fun k => laws_toByteS.f k l) l := by
  unfold laws_toByteS.f
  refine ev_pos (by omega) ?_
  refine ev_pos (by omega) ?_
  exact toByteS_l0 l (by omega) l.length 0 _ (by omega) (by simp) (by simp)
/-! bytes_Equal -/
theorem bytes_Equal_eq (a b : List Int) (ha : By a) (hb : By b) : bytes_Equal.f a b = some (decide (a = b)) := by
  unfold bytes_Equal.f
  rw [str_inj ha hb]
/-! bytes_HasPrefix -/
theorem bytes_HasPrefix_eq (a b : List Int) (ha : By a) (hb : By b) : bytes_HasPrefix.f a b = some (hasPre a b) := by
  unfold bytes_HasPrefix.f hasPre
  by_cases h : b.length ≤ a.length
  · rw [if_pos (by omega), if_pos (by omega), if_pos (by omega), Int.toNat_natCast, bytes_Equal_eq _ _ (By_take _ ha) hb]
    simp [h]
  · rw [if_neg (by omega)]
    simp [h]
/-! impl_HasPrefix -/
theorem impl_HasPrefix_eq (a b : List Int) (ha : By a) (hb : By b) : impl_HasPrefix.f a b = some (hasPre a b) := by
  unfold impl_HasPrefix.f
  rw [bytes_HasPrefix_eq a b ha hb]
  rfl
/-! laws_eqByteS -/
theorem eqByteS_l0 (l : List Int) (hl : l.length ≤ 4611686018427387903) : ∀ (d i : Nat), i + d = l.length → Ev (fun k => laws_eqByteS.l0 k l l i) true := by
  intro d
  induction d with
  | zero =>
    intro i hd
    refine Ev.step (fun _ => laws_eqByteS.l0.eq_2 ..) ?_
    exact ev_neg (by omega) (Ev.now _)
  | succ d ih =>
    intro i hd
    refine Ev.step (fun _ => laws_eqByteS.l0.eq_2 ..) ?_
    refine ev_pos (by omega) (ev_pos (by omega) (ev_pos (by omega) (ev_pos rfl ?_)))
    rw [w64s i (by omega)]
    exact ih (i + 1) (by omega)
theorem eqByteS_ev (l : List Int) (hl : l.length ≤ 281474976710656) : Ev (fun k => laws_eqByteS.f k l l) true := by
  unfold laws_eqByteS.f
  exact ev_pos rfl (eqByteS_l0 l (by omega) l.length 0 (by omega))
theorem FnExactHasPrefix : laws_FnExactHasPrefix.Pure := by
  intro l0 l1 hm0 hl0 hb0 hm1 hl1 hb1
  refine Ev.rounds (g := fun k => laws_FnExactHasPrefix.f k l0 l1) ?_
  unfold laws_FnExactHasPrefix.f
  have hb0 := By_of hb0
  have hb1 := By_of hb1
  refine ev_ite (fun _ => Ev.now _) fun h0 => ev_ite (fun _ => Ev.now _) fun h1 => ?_
  repeat (first
    | with_reducible exact Ev.now _
    | ((with_reducible refine Ev.bind (ev_const (spec_HasPrefix_eq _ _ hb0 hb1)) ?_); try dsimp only)
    | ((with_reducible refine Ev.bind (ev_const (impl_HasPrefix_eq _ _ hb0 hb1)) ?_); try dsimp only)
    | ((with_reducible refine Ev.bind (toByteS_ev _ (by omega)) ?_); try dsimp only)
    | ((with_reducible refine Ev.bind (eqByteS_ev _ (by omega)) ?_); try dsimp only)
    | refine ev_pos (by with_reducible rfl) ?_
    | refine ev_neg (by decide) ?_
    | refine ev_neg (by omega) ?_
    | refine ev_neg (by simp; done) ?_
    | refine ev_pos (by omega) ?_
    | refine ev_pos (by simp; done) ?_)
end Go.Proofs.Ytakpbfpdmkjccaa.Pure
