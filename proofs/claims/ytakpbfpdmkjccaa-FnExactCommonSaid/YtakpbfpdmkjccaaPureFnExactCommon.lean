/- The pure statement of FnExactCommon: both tell how far two rows of bytes are alike, and tell the same. No condition. -/
import Derived.Test.YtakpbfpdmkjccaaPFnExactCommonx1
import Derived.Test.YtakpbfpdmkjccaaMcore
import Derived.Test.YtakpbfpdmkjccaaMnum
namespace Go.Proofs.Ytakpbfpdmkjccaa.Pure
open Go.RowKit Go.Proofs.Ytakpbfpdmkjccaa.PFnExactCommon Go.Proofs.YtakpbfpdmkjccaaW.PrintWords Go.Proofs.YtakpbfpdmkjccaaW.PrintLast Go.Proofs.YtakpbfpdmkjccaaW.PrintMore Go.Proofs.Ytakpbfpdmkjccaa.M
set_option linter.unusedVariables false
set_option linter.unusedSimpArgs false
/-! laws_toByteS -/
theorem toByteS_l0 (l : List Int) (hl : l.length ≤ 4611686018427387903) : ∀ (d i : Nat) (out : List Int), i + d = l.length → out.length = l.length → out.take i = l.take i → Ev (fun k => laws_toByteS.l0 k l out i) l := by
  intro d
  induction d with
  | zero =>
    intro i out hd ho ht
    refine Ev.step (fun _ => laws_toByteS.l0.eq_2 ..) ?_
    refine ev_neg (by omega) ?_
    refine ev_is ?_
    rwa [List.take_of_length_le (by omega), List.take_of_length_le (by omega)] at ht
  | succ d ih =>
    intro i out hd ho ht
    refine Ev.step (fun _ => laws_toByteS.l0.eq_2 ..) ?_
    refine ev_pos (by omega) ?_
    refine ev_pos (by omega) ?_
    refine ev_pos (by omega) ?_
    rw [w64s i (by omega), Int.toNat_natCast]
    refine ih (i + 1) _ (by omega) (by rw [List.length_set]; exact ho) ?_
    rw [List.take_succ_eq_append_getElem (by rw [List.length_set]; omega), List.take_succ_eq_append_getElem (by omega), List.take_set_of_le (by omega), ht, List.getElem_set_self, rd_nat _ _ (by omega)]
theorem toByteS_ev (l : List Int) (hl : l.length ≤ 281474976710656) : Ev (fun k => laws_toByteS.f k l) l := by
  unfold laws_toByteS.f
  refine ev_pos (by omega) ?_
  refine ev_pos (by omega) ?_
  exact toByteS_l0 l (by omega) l.length 0 _ (by omega) (by simp) (by simp)
/-! laws_eqByteS -/
theorem eqByteS_l0 (l : List Int) (hl : l.length ≤ 4611686018427387903) : ∀ (d i : Nat), i + d = l.length → Ev (fun k => laws_eqByteS.l0 k l l i) true := by
  intro d
  induction d with
  | zero =>
    intro i hd
    refine Ev.step (fun _ => laws_eqByteS.l0.eq_2 ..) ?_
    exact ev_neg (by omega) (Ev.now _)
  | succ d ih =>
    intro i hd
    refine Ev.step (fun _ => laws_eqByteS.l0.eq_2 ..) ?_
    refine ev_pos (by omega) (ev_pos (by omega) (ev_pos (by omega) (ev_pos rfl ?_)))
    rw [w64s i (by omega)]
    exact ih (i + 1) (by omega)
theorem eqByteS_ev (l : List Int) (hl : l.length ≤ 281474976710656) : Ev (fun k => laws_eqByteS.f k l l) true := by
  unfold laws_eqByteS.f
  exact ev_pos rfl (eqByteS_l0 l (by omega) l.length 0 (by omega))
/-! spec_Common -/
theorem spec_Common_l0 (a b : List Int) (hl : a.length ≤ 4611686018427387903) : ∀ (d i : Nat), i + d = a.length → Ev (fun k => spec_Common.l0 k a b (i : Int)) (((i + common (a.drop i) (b.drop i) : Nat) : Int)) := by
  intro d
  induction d with
  | zero =>
    intro i hd
    refine Ev.step (fun _ => spec_Common.l0.eq_2 ..) (ev_neg (by omega) (ev_is ?_))
    rw [List.drop_eq_nil_of_le (by omega)]; rfl
  | succ d ih =>
    intro i hd
    refine Ev.step (fun _ => spec_Common.l0.eq_2 ..) (ev_pos (by omega) ?_)
    rw [drop_rd a i (by omega)]
    by_cases hb : i < b.length
    · refine ev_pos (by omega) (ev_pos (by omega) ?_)
      rw [drop_rd b i hb]
      by_cases he : rd a (i : Int) = rd b (i : Int)
      · refine ev_pos he ?_
        rw [w64s i (by omega)]
        refine ev_eq (ih (i + 1) (by omega)) ?_
        rw [common_cons, if_pos he]; omega
      · refine ev_neg he (ev_is ?_)
        rw [common_cons, if_neg he]; rfl
    · refine ev_neg (by omega) (ev_is ?_)
      rw [show b.drop i = [] from List.drop_eq_nil_of_le (by omega)]; rw [common_nil]; rfl
theorem spec_Common_ev (a b : List Int) (hl : a.length ≤ 4611686018427387903) : Ev (fun k => spec_Common.f k a b) ((common a b : Nat) : Int) := by
  unfold spec_Common.f
  have := spec_Common_l0 a b hl a.length 0 (by omega)
  simpa using this
/-! impl_Common -/
theorem impl_Common_l0 (a b : List Int) (hl : a.length ≤ 4611686018427387903) : ∀ (d i : Nat), i + d = a.length → Ev (fun k => impl_Common.l0 k a b (i : Int)) (((i + common (a.drop i) (b.drop i) : Nat) : Int)) := by
  have hm : mn (a.length : Int) (b.length : Int) = min (a.length : Int) (b.length : Int) := by unfold mn; split <;> omega
  intro d
  induction d with
  | zero =>
    intro i hd
    refine Ev.step (fun _ => impl_Common.l0.eq_2 ..) (ev_neg (by omega) (ev_is ?_))
    rw [List.drop_eq_nil_of_le (by omega)]; rfl
  | succ d ih =>
    intro i hd
    refine Ev.step (fun _ => impl_Common.l0.eq_2 ..) ?_
    rw [drop_rd a i (by omega)]
    by_cases hb : i < b.length
    · refine ev_pos (by omega) (ev_pos (by omega) (ev_pos (by omega) (ev_pos (by omega) ?_)))
      rw [drop_rd b i hb]
      by_cases he : rd a (i : Int) = rd b (i : Int)
      · refine ev_pos he ?_
        rw [w64s i (by omega)]
        refine ev_eq (ih (i + 1) (by omega)) ?_
        rw [common_cons, if_pos he]; omega
      · refine ev_neg he (ev_is ?_)
        rw [common_cons, if_neg he]; rfl
    · refine ev_neg (by omega) (ev_is ?_)
      rw [show b.drop i = [] from List.drop_eq_nil_of_le (by omega)]; rw [common_nil]; rfl
theorem impl_Common_ev (a b : List Int) (hl : a.length ≤ 4611686018427387903) : Ev (fun k => impl_Common.f k a b) ((common a b : Nat) : Int) := by
  unfold impl_Common.f
  have := impl_Common_l0 a b hl a.length 0 (by omega)
  simpa using this
theorem FnExactCommon : laws_FnExactCommon.Pure := by
  intro l0 l1 hm0 hl0 hb0 hm1 hl1 hb1
  refine Ev.rounds (g := fun k => laws_FnExactCommon.f k l0 l1) ?_
  unfold laws_FnExactCommon.f
  refine ev_ite (fun _ => Ev.now _) fun h0 => ev_ite (fun _ => Ev.now _) fun h1 => ?_
  repeat (first
    | with_reducible exact Ev.now _
    | ((with_reducible refine Ev.bind (spec_Common_ev _ _ (by omega)) ?_); try dsimp only)
    | ((with_reducible refine Ev.bind (impl_Common_ev _ _ (by omega)) ?_); try dsimp only)
    | ((with_reducible refine Ev.bind (toByteS_ev _ (by omega)) ?_); try dsimp only)
    | ((with_reducible refine Ev.bind (eqByteS_ev _ (by omega)) ?_); try dsimp only)
    | refine ev_pos (by with_reducible rfl) ?_
    | refine ev_neg (by decide) ?_
    | refine ev_neg (by omega) ?_
    | refine ev_neg (by simp; done) ?_
    | refine ev_pos (by omega) ?_
    | refine ev_pos (by simp; done) ?_)
end Go.Proofs.Ytakpbfpdmkjccaa.Pure
