/- The pure statement of FnExactNameOk: both tell whether a row of bytes is a name, and tell the same. No condition. -/
import Derived.Test.YtakpbfpdmkjccaaPFnExactNameOkx1
import Derived.Test.YtakpbfpdmkjccaaMcore
import Derived.Test.YtakpbfpdmkjccaaMnum
namespace Go.Proofs.Ytakpbfpdmkjccaa.Pure
open Go.RowKit Go.Proofs.Ytakpbfpdmkjccaa.PFnExactNameOk Go.Proofs.YtakpbfpdmkjccaaW.PrintWords Go.Proofs.YtakpbfpdmkjccaaW.PrintLast Go.Proofs.YtakpbfpdmkjccaaW.PrintMore Go.Proofs.Ytakpbfpdmkjccaa.M
set_option linter.unusedVariables false
set_option linter.unusedSimpArgs false
/-! laws_toByteS -/
theorem toByteS_l0 (l : List Int) (hl : l.length ≤ 4611686018427387903) : ∀ (d i : Nat) (out : List Int), i + d = l.length → out.length = l.length → out.take i = l.take i → Ev (fun k => laws_toByteS.l0 k l out i) l := by
  intro d
  induction d with
  | zero =>
    intro i out hd ho ht
    refine Ev.step (fun _ => laws_toByteS.l0.eq_2 ..) ?_
    refine ev_neg (by omega) ?_
    refine ev_is ?_
    rwa [List.take_of_length_le (by omega), List.take_of_length_le (by omega)] at ht
  | succ d ih =>
    intro i out hd ho ht
    refine Ev.step (fun _ => laws_toByteS.l0.eq_2 ..) ?_
    refine ev_pos (by omega) ?_
    refine ev_pos (by omega) ?_
    refine ev_pos (by omega) ?_
    rw [w64s i (by omega), Int.toNat_natCast]
    refine ih (i + 1) _ (by omega) (by rw [List.length_set]; exact ho) ?_
    rw [List.take_succ_eq_append_getElem (by rw [List.length_set]; omega), List.take_succ_eq_append_getElem (by omega), List.take_set_of_le (by omega), ht, List.getElem_set_self, rd_nat _ _ (by omega)]
theorem toByteS_ev (l : List Int) (hl : l.length ≤ 281474976710656) : Ev (fun k => laws_toByteS.f k l) l := by
  unfold laws_toByteS.f
  refine ev_pos (by omega) ?_
  refine ev_pos (by omega) ?_
  exact toByteS_l0 l (by omega) l.length 0 _ (by omega) (by simp) (by simp)
/-! laws_eqByteS -/
theorem eqByteS_l0 (l : List Int) (hl : l.length ≤ 4611686018427387903) : ∀ (d i : Nat), i + d = l.length → Ev (fun k => laws_eqByteS.l0 k l l i) true := by
  intro d
  induction d with
  | zero =>
    intro i hd
    refine Ev.step (fun _ => laws_eqByteS.l0.eq_2 ..) ?_
    exact ev_neg (by omega) (Ev.now _)
  | succ d ih =>
    intro i hd
    refine Ev.step (fun _ => laws_eqByteS.l0.eq_2 ..) ?_
    refine ev_pos (by omega) (ev_pos (by omega) (ev_pos (by omega) (ev_pos rfl ?_)))
    rw [w64s i (by omega)]
    exact ih (i + 1) (by omega)
theorem eqByteS_ev (l : List Int) (hl : l.length ≤ 281474976710656) : Ev (fun k => laws_eqByteS.f k l l) true := by
  unfold laws_eqByteS.f
  exact ev_pos rfl (eqByteS_l0 l (by omega) l.length 0 (by omega))
/-! spec_NameOk -/
theorem spec_NameOk_l0 (b : List Int) (hl : b.length ≤ 4611686018427387903) : ∀ (d i : Nat), i + d = b.length → Ev (fun k => spec_NameOk.l0 k b (i : Int)) ((b.drop i).all fun x => decide (97 ≤ x ∧ x ≤ 122)) := by
  intro d
  induction d with
  | zero =>
    intro i hd
    refine Ev.step (fun _ => spec_NameOk.l0.eq_2 ..) (ev_neg (by omega) (ev_is ?_))
    rw [List.drop_eq_nil_of_le (by omega)]; rfl
  | succ d ih =>
    intro i hd
    refine Ev.step (fun _ => spec_NameOk.l0.eq_2 ..) (ev_pos (by omega) (ev_pos (by omega) ?_))
    rw [drop_rd b i (by omega), List.all_cons, w64s i (by omega)]
    by_cases h1 : rd b (i : Int) < 97
    · refine ev_pos h1 (ev_is ?_)
      simp; omega
    · refine ev_neg h1 ?_
      by_cases h2 : rd b (i : Int) > 122
      · refine ev_pos h2 (ev_is ?_)
        simp; omega
      · refine ev_neg h2 (ev_eq (ih (i + 1) (by omega)) ?_)
        rw [decide_eq_true (show 97 ≤ rd b (i : Int) ∧ rd b (i : Int) ≤ 122 by omega)]; rfl
theorem spec_NameOk_ev (b : List Int) (hl : b.length ≤ 4611686018427387903) : Ev (fun k => spec_NameOk.f k b) (isName b) := by
  unfold spec_NameOk.f isName
  by_cases h1 : b.length < 1
  · refine ev_pos (by omega) (Ev.step (fun _ => spec_NameOk.j0.eq_2 ..) (ev_pos rfl (ev_is ?_)))
    rw [decide_eq_false (by omega)]; rfl
  · refine ev_neg (by omega) (Ev.step (fun _ => spec_NameOk.j0.eq_2 ..) ?_)
    by_cases h2 : b.length > 8
    · refine ev_pos (decide_eq_true (by omega)) (ev_is ?_)
      rw [decide_eq_false (by omega)]; rfl
    · refine ev_neg (by simp; omega) (ev_eq (spec_NameOk_l0 b hl b.length 0 (by omega)) ?_)
      rw [decide_eq_true (by omega)]; rfl
/-! impl_in -/
theorem in_eq (n lo hi : Int) : impl_in.f n lo hi = some (decide (lo ≤ n ∧ n ≤ hi)) := by
  unfold impl_in.f
  by_cases h : n ≥ lo
  · rw [if_pos h]; simp [h]
  · rw [if_neg h]; simp; omega
/-! impl_isName -/
theorem impl_isName_l0 (b : List Int) (hl : b.length ≤ 4611686018427387903) : ∀ (d i : Nat), i + d = b.length → Ev (fun k => impl_isName.l0 k b b (b.length : Int) (i : Int)) (((b.drop i).all fun x => decide (97 ≤ x ∧ x ≤ 122)) && decide (1 ≤ b.length ∧ b.length ≤ 8)) := by
  intro d
  induction d with
  | zero =>
    intro i hd
    refine Ev.step (fun _ => impl_isName.l0.eq_2 ..) (ev_neg (by omega) (ev_ret (ev_const ?_)))
    rw [in_eq, List.drop_eq_nil_of_le (by omega)]
    congr 1
    rw [List.all_nil, Bool.true_and]
    exact decide_eq_decide.2 (by omega)
  | succ d ih =>
    intro i hd
    refine Ev.step (fun _ => impl_isName.l0.eq_2 ..) (ev_pos (by omega) (ev_pos (by omega) (ev_pos (by omega) ?_)))
    rw [drop_rd b i (by omega), List.all_cons, w64s i (by omega)]
    by_cases h1 : rd b (i : Int) < 97
    · refine ev_pos h1 (ev_is ?_)
      rw [decide_eq_false (by omega)]; rfl
    · refine ev_neg h1 ?_
      by_cases h2 : rd b (i : Int) > 122
      · refine ev_pos h2 (ev_is ?_)
        rw [decide_eq_false (by omega)]; rfl
      · refine ev_neg h2 (ev_eq (ih (i + 1) (by omega)) ?_)
        rw [decide_eq_true (show 97 ≤ rd b (i : Int) ∧ rd b (i : Int) ≤ 122 by omega), Bool.true_and]
theorem impl_isName_ev (b : List Int) (hl : b.length ≤ 4611686018427387903) : Ev (fun k => impl_isName.f k b) (isName b) := by
  unfold impl_isName.f isName
  refine ev_eq (impl_isName_l0 b hl b.length 0 (by omega)) ?_
  rw [List.drop_zero, Bool.and_comm]
/-! impl_NameOk -/
theorem impl_NameOk_ev (b : List Int) (hl : b.length ≤ 4611686018427387903) : Ev (fun k => impl_NameOk.f k b) (isName b) := by
  unfold impl_NameOk.f
  exact ev_ret (impl_isName_ev b hl)
theorem FnExactNameOk : laws_FnExactNameOk.Pure := by
  intro l0 hm0 hl0 hb0
  refine Ev.rounds (g := fun k => laws_FnExactNameOk.f k l0) ?_
  unfold laws_FnExactNameOk.f
  refine ev_ite (fun _ => Ev.now _) fun h0 => ?_
  repeat (first
    | with_reducible exact Ev.now _
    | ((with_reducible refine Ev.bind (spec_NameOk_ev _ (by omega)) ?_); try dsimp only)
    | ((with_reducible refine Ev.bind (impl_NameOk_ev _ (by omega)) ?_); try dsimp only)
    | ((with_reducible refine Ev.bind (toByteS_ev _ (by omega)) ?_); try dsimp only)
    | ((with_reducible refine Ev.bind (eqByteS_ev _ (by omega)) ?_); try dsimp only)
    | refine ev_pos (by with_reducible rfl) ?_
    | refine ev_neg (by decide) ?_
    | refine ev_neg (by omega) ?_
    | refine ev_neg (by simp; done) ?_
    | refine ev_pos (by omega) ?_
    | refine ev_pos (by simp; done) ?_)
end Go.Proofs.Ytakpbfpdmkjccaa.Pure
