/- The pure statement of FnExactPathCmp: both put two paths in order, and tell the same. No condition. -/
import Derived.Test.YtmigpeaiepdmbaaPFnExactPathCmpx6
import Derived.Test.YtmigpeaiepdmbaaMcore
import Derived.Test.YtmigpeaiepdmbaaMnum
import Derived.Test.YtmigpeaiepdmbaaMopen
import Derived.Test.YtmigpeaiepdmbaaMcmp
namespace Go.Proofs.Ytmigpeaiepdmbaa.Pure
open Go.RowKit Go.Proofs.Ytmigpeaiepdmbaa.PFnExactPathCmp Go.Proofs.YtmigpeaiepdmbaaW.PrintWords Go.Proofs.YtmigpeaiepdmbaaW.PrintLast Go.Proofs.YtmigpeaiepdmbaaW.PrintMore Go.Proofs.Ytmigpeaiepdmbaa.M
set_option linter.unusedVariables false
set_option linter.unusedSimpArgs false
/-! steps -/
theorem rdLS (xs : List S62) (i : Nat) (h : i < xs.length) : rd_T62 xs (i : Int) = xs[i] := getDI xs _ i h
theorem rdS (xs : List S63) (i : Nat) (h : i < xs.length) : rd_T63 xs (i : Int) = xs[i] := getDI xs _ i h
def stepTo (s : S62) : S63 := ⟨s.f0, s.f1, s.f2⟩
def szKeys : List S62 → Nat
  | [] => 0
  | s :: l => s.f1.length + szKeys l
theorem szKeys_mem {l : List S62} {s : S62} (h : s ∈ l) : s.f1.length ≤ szKeys l := by
  induction l with
  | nil => cases h
  | cons a l ih =>
    rcases List.mem_cons.1 h with rfl | h
    · simp only [szKeys]; omega
    · have := ih h; simp only [szKeys]; omega
def stepOk (s : S63) : Bool := if s.f0 = 0 then isName s.f1 && decide (s.f2 = 0) else decide (s.f0 = 1) && decide (s.f1.length = 0) && decide (0 ≤ s.f2 ∧ s.f2 ≤ 39)
def pathOk (l : List S63) : Bool := decide (l.length ≤ 6) && l.all stepOk
/-- Rows of steps as they come in. -/
def WfStep (s : S62) : Prop := ((Lit.int .i64 s.f0).wf = true ∧ s.f1.length ≤ 9223372036854775807 ∧ By s.f1 ∧ (Lit.int .i64 s.f2).wf = true)
def WfSteps (l : List S62) : Prop := l.length ≤ 9223372036854775807 ∧ ∀ s ∈ l, WfStep s
/-! steps in order -/
def stepC (s t : S63) : Int := if s.f0 = t.f0 then (if s.f0 = 1 then numC s.f2 t.f2 else cmpB s.f1 t.f1) else numC s.f0 t.f0
def cmpP : List S63 → List S63 → Int
  | [], [] => 0
  | [], _ :: _ => -1
  | _ :: _, [] => 1
  | x :: a, y :: b => if stepC x y = 0 then cmpP a b else stepC x y
theorem cmpP_cons (x y : S63) (a b : List S63) : cmpP (x :: a) (y :: b) = if stepC x y = 0 then cmpP a b else stepC x y := rfl
theorem cmpP_len {a b : List S63} (h : a = [] ∨ b = []) : cmpP a b = numC a.length b.length := by
  rcases a with _ | ⟨x, a⟩
  · rcases b with _ | ⟨y, b⟩
    · rfl
    · show (-1 : Int) = _
      unfold numC; rw [if_pos (by simp only [List.length_nil, List.length_cons]; omega)]
  · rcases b with _ | ⟨y, b⟩
    · show (1 : Int) = _
      unfold numC; rw [if_neg (by simp only [List.length_nil, List.length_cons]; omega), if_pos (by simp only [List.length_nil, List.length_cons]; omega)]
    · simp at h
/-! laws_szByteS -/
theorem szByteS_eq (l : List Int) (a : Int) (h0 : 0 ≤ a) (h1 : a ≤ 1048576) (hl : l.length ≤ 9223372036854775807) : laws_szByteS.f l a = some (sub a l.length) := by
  unfold laws_szByteS.f sub
  rw [w64 (by omega) (by omega)]
  by_cases h : (l.length : Int) ≤ a
  · rw [if_neg (by omega), if_pos h]
  · rw [if_pos (by omega), if_neg h]
/-! laws_szStep -/
theorem szStep_eq (x : Int) (l : List Int) (y a : Int) (h0 : 0 ≤ a) (h1 : a ≤ 1048576) (hl : l.length ≤ 9223372036854775807) : laws_szStep.f x l y a = some (sub a l.length) := by
  unfold laws_szStep.f
  rw [szByteS_eq l a h0 h1 hl]
  simp only [Option.bind_some]
  by_cases h : sub a l.length < 0
  · rw [if_pos h, (sub_neg h h0).1]
  · rw [if_neg h]
/-! laws_szStepS -/
theorem szStepS_l0 (l : List S62) (hw : WfSteps l) : ∀ (d i : Nat) (a : Int), i + d = l.length → 0 ≤ a → a ≤ 1048576 → Ev (fun k => laws_szStepS.l0 k l a (i : Int)) (sub a (szKeys (l.drop i))) := by
  intro d
  induction d with
  | zero =>
    intro i a hd h0 h1
    refine Ev.step (fun _ => laws_szStepS.l0.eq_2 ..) (ev_neg (by omega) (ev_is ?_))
    rw [List.drop_eq_nil_of_le (by omega)]
    exact (sub_zero h0).symm
  | succ d ih =>
    intro i a hd h0 h1
    have hi : i < l.length := by omega
    refine Ev.step (fun _ => laws_szStepS.l0.eq_2 ..) (ev_pos (by omega) (ev_pos (by omega) ?_))
    rw [rdLS l i hi, drop_at l i hi]
    have hs := hw.2 _ (List.getElem_mem hi)
    refine Ev.bind (ev_const (szStep_eq _ _ _ a h0 h1 hs.2.1)) ?_
    rw [w64s i (by have := hw.1; omega)]
    have hr := sub_range l[i].f1.length h0
    by_cases h : sub a l[i].f1.length < 0
    · refine ev_pos h (ev_is ?_)
      exact ((sub_neg h h0).2 _).symm
    · refine ev_neg h (ev_eq (ih (i + 1) _ (by omega) (by omega) (by omega)) ?_)
      exact sub_sub h
theorem szStepS_ev (l : List S62) (a : Int) (hw : WfSteps l) (h0 : 0 ≤ a) (h1 : a ≤ 1048576) : Ev (fun k => laws_szStepS.f k l a) (sub a (l.length + szKeys l)) := by
  unfold laws_szStepS.f
  have hl := hw.1
  rw [w64 (x := a - (l.length : Int)) (by omega) (by omega)]
  by_cases h : a - (l.length : Int) < 0
  · refine ev_pos h (ev_is ?_)
    unfold sub; rw [if_neg (by omega)]
  · refine ev_neg h (ev_eq (szStepS_l0 l hw l.length 0 _ (by omega) (by omega) (by omega)) ?_)
    have e : sub a l.length = a - l.length := by unfold sub; rw [if_pos (by omega)]
    rw [← e, List.drop_zero]
    exact sub_sub (by omega)
/-! laws_toByteS -/
theorem toByteS_l0 (l : List Int) (hl : l.length ≤ 4611686018427387903) : ∀ (d i : Nat) (out : List Int), i + d = l.length → out.length = l.length → out.take i = l.take i → Ev (fun k => laws_toByteS.l0 k l out i) l := by
  intro d
  induction d with
  | zero =>
    intro i out hd ho ht
    refine Ev.step (fun _ => laws_toByteS.l0.eq_2 ..) ?_
    refine ev_neg (by omega) ?_
    refine ev_is ?_
    rwa [List.take_of_length_le (by omega), List.take_of_length_le (by omega)] at ht
  | succ d ih =>
    intro i out hd ho ht
    refine Ev.step (fun _ => laws_toByteS.l0.eq_2 ..) ?_
    refine ev_pos (by omega) ?_
    refine ev_pos (by omega) ?_
    refine ev_pos (by omega) ?_
    rw [w64s i (by omega), Int.toNat_natCast]
    refine ih (i + 1) _ (by omega) (by rw [List.length_set]; exact ho) ?_
    rw [List.take_succ_eq_append_getElem (by rw [List.length_set]; omega), List.take_succ_eq_append_getElem (by omega), List.take_set_of_le (by omega), ht, List.getElem_set_self, rd_nat _ _ (by omega)]
theorem toByteS_ev (l : List Int) (hl : l.length ≤ 281474976710656) : Ev (fun k => laws_toByteS.f k l) l := by
  unfold laws_toByteS.f
  refine ev_pos (by omega) ?_
  refine ev_pos (by omega) ?_
  exact toByteS_l0 l (by omega) l.length 0 _ (by omega) (by simp) (by simp)
/-! laws_toStep -/
theorem toStep_ev (x : Int) (l : List Int) (y : Int) (hl : l.length ≤ 281474976710656) : Ev (fun k => laws_toStep.f k x l y) (x, l, y) := by
  unfold laws_toStep.f
  exact Ev.bind (toByteS_ev l hl) (Ev.now _)
/-! laws_toStepS -/
theorem toStepS_l0 (l : List S62) (hl : l.length ≤ 1048576) (hk : ∀ s ∈ l, s.f1.length ≤ 1048576) : ∀ (d i : Nat) (out : List S63), i + d = l.length → out.length = l.length → out.take i = (l.map stepTo).take i → Ev (fun k => laws_toStepS.l0 k l out (i : Int)) (l.map stepTo) := by
  intro d
  induction d with
  | zero =>
    intro i out hd ho ht
    refine Ev.step (fun _ => laws_toStepS.l0.eq_2 ..) (ev_neg (by omega) (ev_is ?_))
    rwa [List.take_of_length_le (by omega), List.take_of_length_le (by rw [List.length_map]; omega)] at ht
  | succ d ih =>
    intro i out hd ho ht
    have hi : i < l.length := by omega
    refine Ev.step (fun _ => laws_toStepS.l0.eq_2 ..) (ev_pos (by omega) (ev_pos (by omega) ?_))
    rw [rdLS l i hi]
    have hs := hk _ (List.getElem_mem hi)
    refine Ev.bind (toStep_ev _ _ _ (by omega)) (ev_pos (by omega) ?_)
    rw [w64s i (by omega), Int.toNat_natCast]
    refine ih (i + 1) _ (by omega) (by rw [List.length_set]; exact ho) ?_
    rw [List.take_succ_eq_append_getElem (by rw [List.length_set]; omega), List.take_succ_eq_append_getElem (by rw [List.length_map]; omega), List.take_set_of_le (by omega), ht, List.getElem_set_self, List.getElem_map]
    rfl
theorem toStepS_ev (l : List S62) (hl : l.length ≤ 1048576) (hk : ∀ s ∈ l, s.f1.length ≤ 1048576) : Ev (fun k => laws_toStepS.f k l) (l.map stepTo) := by
  unfold laws_toStepS.f
  exact ev_pos (by omega) (ev_pos (by omega) (toStepS_l0 l hl hk l.length 0 _ (by omega) (by simp) (by simp)))
/-! laws_eqByteS -/
theorem eqByteS_l0 (l : List Int) (hl : l.length ≤ 4611686018427387903) : ∀ (d i : Nat), i + d = l.length → Ev (fun k => laws_eqByteS.l0 k l l i) true := by
  intro d
  induction d with
  | zero =>
    intro i hd
    refine Ev.step (fun _ => laws_eqByteS.l0.eq_2 ..) ?_
    exact ev_neg (by omega) (Ev.now _)
  | succ d ih =>
    intro i hd
    refine Ev.step (fun _ => laws_eqByteS.l0.eq_2 ..) ?_
    refine ev_pos (by omega) (ev_pos (by omega) (ev_pos (by omega) (ev_pos rfl ?_)))
    rw [w64s i (by omega)]
    exact ih (i + 1) (by omega)
theorem eqByteS_ev (l : List Int) (hl : l.length ≤ 281474976710656) : Ev (fun k => laws_eqByteS.f k l l) true := by
  unfold laws_eqByteS.f
  exact ev_pos rfl (eqByteS_l0 l (by omega) l.length 0 (by omega))
/-! laws_eqStep -/
theorem eqStep_ev (x : Int) (l : List Int) (y : Int) (hl : l.length ≤ 281474976710656) : Ev (fun k => laws_eqStep.f k x l y x l y) true := by
  unfold laws_eqStep.f
  exact ev_pos rfl (Ev.bind (eqByteS_ev l hl) (ev_pos rfl (ev_pos rfl (Ev.now _))))
/-! laws_eqStepS -/
theorem eqStepS_l0 (l : List S63) (hl : l.length ≤ 1048576) (hk : ∀ s ∈ l, s.f1.length ≤ 1048576) : ∀ (d i : Nat), i + d = l.length → Ev (fun k => laws_eqStepS.l0 k l l (i : Int)) true := by
  intro d
  induction d with
  | zero =>
    intro i hd
    exact Ev.step (fun _ => laws_eqStepS.l0.eq_2 ..) (ev_neg (by omega) (Ev.now _))
  | succ d ih =>
    intro i hd
    have hi : i < l.length := by omega
    refine Ev.step (fun _ => laws_eqStepS.l0.eq_2 ..) (ev_pos (by omega) (ev_pos (by omega) (ev_pos (by omega) ?_)))
    rw [rdS l i hi]
    have hs := hk _ (List.getElem_mem hi)
    refine Ev.bind (eqStep_ev _ _ _ (by omega)) (ev_pos rfl ?_)
    rw [w64s i (by omega)]
    exact ih (i + 1) (by omega)
theorem eqStepS_ev (l : List S63) (hl : l.length ≤ 1048576) (hk : ∀ s ∈ l, s.f1.length ≤ 1048576) : Ev (fun k => laws_eqStepS.f k l l) true := by
  unfold laws_eqStepS.f
  exact ev_pos rfl (eqStepS_l0 l hl hk l.length 0 (by omega))
/-! spec_NameOk -/
theorem spec_NameOk_l0 (b : List Int) (hl : b.length ≤ 4611686018427387903) : ∀ (d i : Nat), i + d = b.length → Ev (fun k => spec_NameOk.l0 k b (i : Int)) ((b.drop i).all fun x => decide (97 ≤ x ∧ x ≤ 122)) := by
  intro d
  induction d with
  | zero =>
    intro i hd
    refine Ev.step (fun _ => spec_NameOk.l0.eq_2 ..) (ev_neg (by omega) (ev_is ?_))
    rw [List.drop_eq_nil_of_le (by omega)]; rfl
  | succ d ih =>
    intro i hd
    refine Ev.step (fun _ => spec_NameOk.l0.eq_2 ..) (ev_pos (by omega) (ev_pos (by omega) ?_))
    rw [drop_rd b i (by omega), List.all_cons, w64s i (by omega)]
    by_cases h1 : rd b (i : Int) < 97
    · refine ev_pos h1 (ev_is ?_)
      simp; omega
    · refine ev_neg h1 ?_
      by_cases h2 : rd b (i : Int) > 122
      · refine ev_pos h2 (ev_is ?_)
        simp; omega
      · refine ev_neg h2 (ev_eq (ih (i + 1) (by omega)) ?_)
        rw [decide_eq_true (show 97 ≤ rd b (i : Int) ∧ rd b (i : Int) ≤ 122 by omega)]; rfl
theorem spec_NameOk_ev (b : List Int) (hl : b.length ≤ 4611686018427387903) : Ev (fun k => spec_NameOk.f k b) (isName b) := by
  unfold spec_NameOk.f isName
  by_cases h1 : b.length < 1
  · refine ev_pos (by omega) (Ev.step (fun _ => spec_NameOk.j0.eq_2 ..) (ev_pos rfl (ev_is ?_)))
    rw [decide_eq_false (by omega)]; rfl
  · refine ev_neg (by omega) (Ev.step (fun _ => spec_NameOk.j0.eq_2 ..) ?_)
    by_cases h2 : b.length > 8
    · refine ev_pos (decide_eq_true (by omega)) (ev_is ?_)
      rw [decide_eq_false (by omega)]; rfl
    · refine ev_neg (by simp; omega) (ev_eq (spec_NameOk_l0 b hl b.length 0 (by omega)) ?_)
      rw [decide_eq_true (by omega)]; rfl
/-! spec_PathOk -/
theorem spec_PathOk_l0 (l : List S63) (hl : l.length ≤ 1048576) (hk : ∀ s ∈ l, s.f1.length ≤ 1048576) : ∀ (d i : Nat), i + d = l.length → Ev (fun k => spec_PathOk.l0 k l (i : Int)) ((l.drop i).all stepOk) := by
  intro d
  induction d with
  | zero =>
    intro i hd
    refine Ev.step (fun _ => spec_PathOk.l0.eq_2 ..) (ev_neg (by omega) (ev_is ?_))
    rw [List.drop_eq_nil_of_le (by omega)]; rfl
  | succ d ih =>
    intro i hd
    have hi : i < l.length := by omega
    refine Ev.step (fun _ => spec_PathOk.l0.eq_2 ..) (ev_pos (by omega) (ev_pos (by omega) ?_))
    rw [rdS l i hi, drop_at l i hi, List.all_cons, w64s i (by omega)]
    have hs := hk _ (List.getElem_mem hi)
    generalize l[i] = s at hs
    have ih := ih (i + 1) (by omega)
    rw [stepOk]
    by_cases h0 : s.f0 = 0
    · refine ev_pos h0 (Ev.bind (spec_NameOk_ev _ (by omega)) ?_)
      rw [if_pos h0]
      by_cases h1 : isName s.f1 = true
      · refine ev_pos h1 ?_
        by_cases h2 : s.f2 = 0
        · refine ev_pos h2 (ev_eq ih ?_)
          rw [h1, decide_eq_true h2]; rfl
        · refine ev_neg h2 (ev_is ?_)
          simp [h2]
      · refine ev_neg h1 (ev_is ?_)
        simp [h1]
    · refine ev_neg h0 ?_
      rw [if_neg h0]
      by_cases h1 : s.f0 = 1
      · refine ev_pos h1 ?_
        by_cases h2 : s.f1.length = 0
        · refine ev_neg (by omega) ?_
          by_cases h3 : s.f2 < 0
          · refine ev_pos h3 (ev_is ?_)
            rw [decide_eq_false (show ¬ (0 ≤ s.f2 ∧ s.f2 ≤ 39) by omega)]; simp
          · refine ev_neg h3 ?_
            by_cases h4 : s.f2 ≥ 40
            · refine ev_pos h4 (ev_is ?_)
              rw [decide_eq_false (show ¬ (0 ≤ s.f2 ∧ s.f2 ≤ 39) by omega)]; simp
            · refine ev_neg h4 (ev_eq ih ?_)
              rw [decide_eq_true h1, decide_eq_true h2, decide_eq_true (show 0 ≤ s.f2 ∧ s.f2 ≤ 39 by omega)]; rfl
        · refine ev_pos (by omega) (ev_is ?_)
          rw [decide_eq_false h2]; simp
      · refine ev_neg h1 (ev_is ?_)
        rw [decide_eq_false h1]; simp
theorem spec_PathOk_ev (l : List S63) (hl : l.length ≤ 1048576) (hk : ∀ s ∈ l, s.f1.length ≤ 1048576) : Ev (fun k => spec_PathOk.f k l) (pathOk l) := by
  unfold spec_PathOk.f pathOk
  by_cases h : l.length ≤ 6
  · refine ev_neg (by omega) (ev_eq (spec_PathOk_l0 l hl hk l.length 0 (by omega)) ?_)
    rw [decide_eq_true h]; rfl
  · refine ev_pos (by omega) (ev_is ?_)
    rw [decide_eq_false h]; rfl
/-! spec_l2num -/
theorem l2num_eq (a b : Int) : spec_l2num.f a b = some (numC a b) := by
  unfold spec_l2num.f numC
  by_cases h : a < b
  · rw [if_pos h, if_pos h]
  · rw [if_neg h, if_neg h]
    by_cases h2 : a > b
    · rw [if_pos h2, if_pos h2]
    · rw [if_neg h2, if_neg h2]
/-! spec_l2bytes -/
theorem l2bytes_eq (a b : List Int) (ha : By a) (hb : By b) : spec_l2bytes.f a b = some (cmpB a b) := by
  unfold spec_l2bytes.f
  rw [str_less ha hb, str_less hb ha, cmpB_swap a b]
  rcases cmpB_range a b with h | h | h <;> rw [h] <;> rfl
/-! spec_l3step -/
theorem l3step_eq (s t : S63) (hs : By s.f1) (ht : By t.f1) : spec_l3step.f s.f0 s.f1 s.f2 t.f0 t.f1 t.f2 = some (stepC s t) := by
  unfold spec_l3step.f stepC
  rw [l2num_eq, l2num_eq, l2bytes_eq _ _ hs ht]
  by_cases h : s.f0 = t.f0
  · rw [if_pos h, if_pos h]
    by_cases h1 : s.f0 = 1
    · rw [if_pos h1, if_pos h1]; rfl
    · rw [if_neg h1, if_neg h1]; rfl
  · rw [if_neg h, if_neg h]; rfl
/-! spec_l3cmp -/
theorem l3cmp_l0 (a b : List S63) (hl : a.length ≤ 1048576) (hl2 : b.length ≤ 1048576) (ha : ∀ s ∈ a, By s.f1) (hb : ∀ s ∈ b, By s.f1) : ∀ (d i : Nat), i + d = a.length → i ≤ b.length → Ev (fun k => spec_l3cmp.l0 k a b (i : Int)) (cmpP (a.drop i) (b.drop i)) := by
  intro d
  induction d with
  | zero =>
    intro i hd hi
    refine Ev.step (fun _ => spec_l3cmp.l0.eq_2 ..) (ev_neg (by omega) (Ev.step (fun _ => spec_l3cmp.j1.eq_2 ..) (ev_neg (by decide) (ev_ret (ev_const ?_)))))
    rw [l2num_eq, cmpP_len (Or.inl (List.drop_eq_nil_of_le (by omega))), List.length_drop, List.length_drop]
    congr 1
    unfold numC
    split <;> split <;> (first | rfl | omega | (split <;> split <;> (first | rfl | omega)))
  | succ d ih =>
    intro i hd hi
    have hia : i < a.length := by omega
    refine Ev.step (fun _ => spec_l3cmp.l0.eq_2 ..) (ev_pos (by omega) (Ev.step (fun _ => spec_l3cmp.j1.eq_2 ..) ?_))
    by_cases hib : i < b.length
    · refine ev_pos (decide_eq_true (by omega)) (ev_pos (by omega) (ev_pos (by omega) (ev_pos (by omega) ?_)))
      rw [rdS a i hia, rdS b i hib, drop_at a i hia, drop_at b i hib, cmpP_cons, w64s i (by omega)]
      refine Ev.bind (ev_const (l3step_eq _ _ (ha _ (List.getElem_mem hia)) (hb _ (List.getElem_mem hib)))) ?_
      refine ev_ite (fun h => ?_) (fun h => ?_)
      · rw [if_pos h]; exact ih (i + 1) (by omega) (by omega)
      · rw [if_neg h]; exact Ev.now _
    · refine ev_neg (by simp; omega) (ev_ret (ev_const ?_))
      rw [l2num_eq, cmpP_len (Or.inr (List.drop_eq_nil_of_le (by omega))), List.length_drop, List.length_drop]
      congr 1
      unfold numC
      split <;> split <;> (first | rfl | omega | (split <;> split <;> (first | rfl | omega)))
theorem l3cmp_ev (a b : List S63) (hl : a.length ≤ 1048576) (hl2 : b.length ≤ 1048576) (ha : ∀ s ∈ a, By s.f1) (hb : ∀ s ∈ b, By s.f1) : Ev (fun k => spec_l3cmp.f k a b) (cmpP a b) := by
  unfold spec_l3cmp.f
  exact l3cmp_l0 a b hl hl2 ha hb a.length 0 (by omega) (by omega)
/-! spec_PathCmp -/
theorem spec_PathCmp_ev (a b : List S63) (hl : a.length ≤ 1048576) (hl2 : b.length ≤ 1048576) (hk : ∀ s ∈ a, s.f1.length ≤ 1048576) (hk2 : ∀ s ∈ b, s.f1.length ≤ 1048576) (ha : ∀ s ∈ a, By s.f1) (hb : ∀ s ∈ b, By s.f1) :
    Ev (fun k => spec_PathCmp.f k a b) (if pathOk a = true ∧ pathOk b = true then cmpP a b else 0) := by
  unfold spec_PathCmp.f
  refine Ev.bind (spec_PathOk_ev a hl hk) ?_
  by_cases h : pathOk a = true
  · refine ev_pos h (Ev.bind (spec_PathOk_ev b hl2 hk2) ?_)
    by_cases h2 : pathOk b = true
    · refine ev_pos h2 (ev_ret (ev_eq (l3cmp_ev a b hl hl2 ha hb) ?_))
      rw [if_pos ⟨h, h2⟩]
    · refine ev_neg h2 (ev_is ?_)
      rw [if_neg (fun e => h2 e.2)]
  · refine ev_neg h (ev_is ?_)
    rw [if_neg (fun e => h e.1)]
/-! impl_in -/
theorem in_eq (n lo hi : Int) : impl_in.f n lo hi = some (decide (lo ≤ n ∧ n ≤ hi)) := by
  unfold impl_in.f
  by_cases h : n ≥ lo
  · rw [if_pos h]; simp [h]
  · rw [if_neg h]; simp; omega
/-! impl_isName -/
theorem impl_isName_l0 (b : List Int) (hl : b.length ≤ 4611686018427387903) : ∀ (d i : Nat), i + d = b.length → Ev (fun k => impl_isName.l0 k b b (b.length : Int) (i : Int)) (((b.drop i).all fun x => decide (97 ≤ x ∧ x ≤ 122)) && decide (1 ≤ b.length ∧ b.length ≤ 8)) := by
  intro d
  induction d with
  | zero =>
    intro i hd
    refine Ev.step (fun _ => impl_isName.l0.eq_2 ..) (ev_neg (by omega) (ev_ret (ev_const ?_)))
    rw [in_eq, List.drop_eq_nil_of_le (by omega)]
    congr 1
    rw [List.all_nil, Bool.true_and]
    exact decide_eq_decide.2 (by omega)
  | succ d ih =>
    intro i hd
    refine Ev.step (fun _ => impl_isName.l0.eq_2 ..) (ev_pos (by omega) (ev_pos (by omega) (ev_pos (by omega) ?_)))
    rw [drop_rd b i (by omega), List.all_cons, w64s i (by omega)]
    by_cases h1 : rd b (i : Int) < 97
    · refine ev_pos h1 (ev_is ?_)
      rw [decide_eq_false (by omega)]; rfl
    · refine ev_neg h1 ?_
      by_cases h2 : rd b (i : Int) > 122
      · refine ev_pos h2 (ev_is ?_)
        rw [decide_eq_false (by omega)]; rfl
      · refine ev_neg h2 (ev_eq (ih (i + 1) (by omega)) ?_)
        rw [decide_eq_true (show 97 ≤ rd b (i : Int) ∧ rd b (i : Int) ≤ 122 by omega), Bool.true_and]
theorem impl_isName_ev (b : List Int) (hl : b.length ≤ 4611686018427387903) : Ev (fun k => impl_isName.f k b) (isName b) := by
  unfold impl_isName.f isName
  refine ev_eq (impl_isName_l0 b hl b.length 0 (by omega)) ?_
  rw [List.drop_zero, Bool.and_comm]
/-! impl_isPath_1 -/
theorem impl_isPath_1_ev (s : S63) (hs : s.f1.length ≤ 1048576) : Ev (fun k => impl_isPath_1.f k s.f0 s.f1 s.f2) (!stepOk s) := by
  unfold impl_isPath_1.f stepOk
  by_cases h0 : s.f0 = 0
  · refine ev_pos h0 (Ev.bind (impl_isName_ev _ (by omega)) ?_)
    rw [if_pos h0]
    by_cases h1 : isName s.f1 = true
    · refine ev_pos h1 (ev_is ?_)
      rw [h1]
      by_cases h2 : s.f2 = 0 <;> simp [h2]
    · refine ev_neg h1 (ev_is ?_)
      simp [h1]
  · refine ev_neg h0 ?_
    rw [if_neg h0]
    by_cases h1 : s.f0 = 1
    · refine ev_pos h1 ?_
      by_cases h2 : s.f1.length = 0
      · refine ev_neg (by omega) (Ev.bind (ev_const (in_eq ..)) (ev_is ?_))
        rw [decide_eq_true h1, decide_eq_true h2]; rfl
      · refine ev_pos (by omega) (ev_is ?_)
        rw [decide_eq_false h2]; simp
    · refine ev_neg h1 (ev_is ?_)
      rw [decide_eq_false h1]; simp
/-! x_IndexFunc_at_impl_isPath_1 -/
theorem indexPath_l0 (l : List S63) (hl : l.length ≤ 1048576) (hk : ∀ s ∈ l, s.f1.length ≤ 1048576) : ∀ (d i : Nat), i + d = l.length → ∃ r, Ev (fun k => x_IndexFunc_at_impl_isPath_1.l0 k l (l.length : Int) (i : Int)) r ∧ decide (r ≥ 0) = !(l.drop i).all stepOk := by
  intro d
  induction d with
  | zero =>
    intro i hd
    refine ⟨-1, Ev.step (fun _ => x_IndexFunc_at_impl_isPath_1.l0.eq_2 ..) (ev_neg (by omega) (Ev.now _)), ?_⟩
    rw [List.drop_eq_nil_of_le (by omega)]; rfl
  | succ d ih =>
    intro i hd
    have hi : i < l.length := by omega
    have hs := hk _ (List.getElem_mem hi)
    obtain ⟨r, hr, hd2⟩ := ih (i + 1) (by omega)
    rw [drop_at l i hi, List.all_cons]
    by_cases h : stepOk l[i] = true
    · refine ⟨r, Ev.step (fun _ => x_IndexFunc_at_impl_isPath_1.l0.eq_2 ..) (ev_pos (by omega) (ev_pos (by omega) (ev_pos (by omega) ?_))), by rw [hd2, h]; rfl⟩
      rw [rdS l i hi, w64s i (by omega)]
      refine Ev.bind (impl_isPath_1_ev _ hs) (ev_neg (by rw [h]; decide) hr)
    · refine ⟨i, Ev.step (fun _ => x_IndexFunc_at_impl_isPath_1.l0.eq_2 ..) (ev_pos (by omega) (ev_pos (by omega) (ev_pos (by omega) ?_))), by simp [h]⟩
      rw [rdS l i hi]
      refine Ev.bind (impl_isPath_1_ev _ hs) (ev_pos (by simp [h]) (Ev.now _))
/-! x_ContainsFunc_at_impl_isPath_1 -/
theorem containsPath_ev (l : List S63) (hl : l.length ≤ 1048576) (hk : ∀ s ∈ l, s.f1.length ≤ 1048576) : Ev (fun k => x_ContainsFunc_at_impl_isPath_1.f k l) (!l.all stepOk) := by
  unfold x_ContainsFunc_at_impl_isPath_1.f x_IndexFunc_at_impl_isPath_1.f
  obtain ⟨r, hr, hd⟩ := indexPath_l0 l hl hk l.length 0 (by omega)
  exact Ev.bind hr (ev_is (by rw [hd, List.drop_zero]))
/-! impl_isPath -/
theorem impl_isPath_ev (l : List S63) (hl : l.length ≤ 1048576) (hk : ∀ s ∈ l, s.f1.length ≤ 1048576) : Ev (fun k => impl_isPath.f k l) (pathOk l) := by
  unfold impl_isPath.f pathOk
  by_cases h : l.length ≤ 6
  · refine ev_pos (by omega) (Ev.bind (containsPath_ev l hl hk) (ev_is ?_))
    rw [decide_eq_true h]; simp
  · refine ev_neg (by omega) (ev_is ?_)
    rw [decide_eq_false h]; rfl
/-! cmp_Or_int -/
theorem cmp_Or_ev (a b c : Int) : Ev (fun k => cmp_Or_int.f k [a, b, c]) (if a = 0 then (if b = 0 then c else b) else a) := by
  unfold cmp_Or_int.f
  refine Ev.step (fun _ => cmp_Or_int.l0.eq_2 ..) (ev_pos (by simp) (ev_pos (by simp) (ev_pos (by simp) ?_)))
  by_cases ha : a = 0
  · refine ev_pos ha ?_
    rw [if_pos ha, show wrap64 ((0 : Int) + 1) = 1 from w64 (by omega) (by omega)]
    refine Ev.step (fun _ => cmp_Or_int.l0.eq_2 ..) (ev_pos (by simp) (ev_pos (by simp) (ev_pos (by simp) ?_)))
    by_cases hb : b = 0
    · refine ev_pos hb ?_
      rw [if_pos hb, show wrap64 ((1 : Int) + 1) = 2 from w64 (by omega) (by omega)]
      refine Ev.step (fun _ => cmp_Or_int.l0.eq_2 ..) (ev_pos (by simp) (ev_pos (by simp) (ev_pos (by simp) ?_)))
      by_cases hc : c = 0
      · refine ev_pos hc ?_
        rw [show wrap64 ((2 : Int) + 1) = 3 from w64 (by omega) (by omega)]
        exact Ev.step (fun _ => cmp_Or_int.l0.eq_2 ..) (ev_neg (by simp) (ev_is hc.symm))
      · exact ev_neg hc (Ev.now _)
    · refine ev_neg hb (ev_is ?_)
      rw [if_neg hb]; rfl
  · refine ev_neg ha (ev_is ?_)
    rw [if_neg ha]; rfl
/-! cmp_Compare_int -/
theorem cmp_int_eq (a b : Int) : cmp_Compare_int.f a b = some (numC a b) := by
  unfold cmp_Compare_int.f cmp_isNaN_int.f numC
  simp only [Option.bind_some, bne_self_eq_false]
  rw [if_neg (by decide), if_neg (by decide)]
  by_cases h : a < b
  · rw [if_pos h, if_pos h]
  · rw [if_neg h, if_neg h]
    by_cases h2 : a > b
    · rw [if_pos h2, if_pos h2]
    · rw [if_neg h2, if_neg h2]
/-! bytes_Compare -/
theorem bytes_Compare_eq (a b : List Int) (ha : By a) (hb : By b) : bytes_Compare.f a b = some (cmpB a b) := by
  unfold bytes_Compare.f
  rw [bytes_cmp ha hb]
/-! impl_compareSteps -/
theorem compareSteps_ev (s t : S63) (hs : By s.f1) (ht : By t.f1) (os : stepOk s = true) (ot : stepOk t = true) : Ev (fun k => impl_compareSteps.f k s.f0 s.f1 s.f2 t.f0 t.f1 t.f2) (stepC s t) := by
  unfold impl_compareSteps.f
  refine Ev.bind (ev_const (cmp_int_eq _ _)) (Ev.bind (ev_const (bytes_Compare_eq _ _ hs ht)) (Ev.bind (ev_const (cmp_int_eq _ _)) (ev_ret (ev_eq (cmp_Or_ev _ _ _) ?_))))
  have hn : ∀ x : Int, numC x x = 0 := fun x => by unfold numC; rw [if_neg (by omega), if_neg (by omega)]
  unfold stepC
  by_cases h : s.f0 = t.f0
  · rw [if_pos h, h, hn, if_pos rfl]
    rw [stepOk] at os ot
    by_cases h1 : t.f0 = 1
    · rw [if_pos h1]
      rw [if_neg (by omega)] at os ot
      simp only [Bool.and_eq_true, decide_eq_true_eq] at os ot
      rw [List.eq_nil_of_length_eq_zero os.1.2, List.eq_nil_of_length_eq_zero ot.1.2]
      rfl
    · rw [if_neg h1]
      have h0 : t.f0 = 0 := by
        by_cases h0 : t.f0 = 0
        · exact h0
        · rw [if_neg h0] at ot
          simp only [Bool.and_eq_true, decide_eq_true_eq] at ot
          exact absurd ot.1.1 h1
      rw [if_pos (by omega)] at os ot
      simp only [Bool.and_eq_true, decide_eq_true_eq] at os ot
      rw [os.2, ot.2, hn]
      split
      · rename_i e; exact e.symm
      · rfl
  · rw [if_neg h, if_neg]
    unfold numC
    split
    · decide
    · split
      · decide
      · omega
/-! x_CompareFunc_at_impl_compareSteps -/
theorem compareFunc_l0 (a b : List S63) (hl : a.length ≤ 1048576) (hl2 : b.length ≤ 1048576) (ha : ∀ s ∈ a, By s.f1) (hb : ∀ s ∈ b, By s.f1) (oa : ∀ s ∈ a, stepOk s = true) (ob : ∀ s ∈ b, stepOk s = true) : ∀ (d i : Nat), i + d = a.length → i ≤ b.length →
    Ev (fun k => x_CompareFunc_at_impl_compareSteps.l0 k a b a (a.length : Int) (i : Int)) (cmpP (a.drop i) (b.drop i)) := by
  intro d
  induction d with
  | zero =>
    intro i hd hi
    refine Ev.step (fun _ => x_CompareFunc_at_impl_compareSteps.l0.eq_2 ..) (ev_neg (by omega) ?_)
    rw [cmpP_len (Or.inl (List.drop_eq_nil_of_le (by omega))), List.length_drop, List.length_drop]
    unfold numC
    by_cases h : (a.length : Int) < b.length
    · refine ev_pos h (ev_is ?_)
      rw [if_pos (by omega)]
    · refine ev_neg h (ev_is ?_)
      rw [if_neg (by omega), if_neg (by omega)]
  | succ d ih =>
    intro i hd hi
    have hia : i < a.length := by omega
    refine Ev.step (fun _ => x_CompareFunc_at_impl_compareSteps.l0.eq_2 ..) (ev_pos (by omega) (ev_pos (by omega) (ev_pos (by omega) ?_)))
    by_cases hib : i < b.length
    · refine ev_neg (by omega) (ev_pos (by omega) ?_)
      rw [rdS a i hia, rdS b i hib, drop_at a i hia, drop_at b i hib, cmpP_cons, w64s i (by omega)]
      refine Ev.bind (compareSteps_ev _ _ (ha _ (List.getElem_mem hia)) (hb _ (List.getElem_mem hib)) (oa _ (List.getElem_mem hia)) (ob _ (List.getElem_mem hib))) ?_
      refine ev_ite (fun h => ?_) (fun h => ?_)
      · rw [if_pos h]; exact ih (i + 1) (by omega) (by omega)
      · rw [if_neg h]; exact Ev.now _
    · refine ev_pos (by omega) (ev_is ?_)
      rw [cmpP_len (Or.inr (List.drop_eq_nil_of_le (by omega))), List.length_drop, List.length_drop]
      unfold numC
      rw [if_neg (by omega), if_pos (by omega)]
/-! impl_comparePaths -/
theorem comparePaths_ev (a b : List S63) (hl : a.length ≤ 1048576) (hl2 : b.length ≤ 1048576) (ha : ∀ s ∈ a, By s.f1) (hb : ∀ s ∈ b, By s.f1) (oa : pathOk a = true) (ob : pathOk b = true) : Ev (fun k => impl_comparePaths.f k a b) (cmpP a b) := by
  unfold impl_comparePaths.f x_CompareFunc_at_impl_compareSteps.f
  unfold pathOk at oa ob
  simp only [Bool.and_eq_true, List.all_eq_true] at oa ob
  exact ev_ret (compareFunc_l0 a b hl hl2 ha hb oa.2 ob.2 a.length 0 (by omega) (by omega))
/-! impl_PathCmp -/
theorem impl_PathCmp_ev (a b : List S63) (hl : a.length ≤ 1048576) (hl2 : b.length ≤ 1048576) (hk : ∀ s ∈ a, s.f1.length ≤ 1048576) (hk2 : ∀ s ∈ b, s.f1.length ≤ 1048576) (ha : ∀ s ∈ a, By s.f1) (hb : ∀ s ∈ b, By s.f1) :
    Ev (fun k => impl_PathCmp.f k a b) (if pathOk a = true ∧ pathOk b = true then cmpP a b else 0) := by
  unfold impl_PathCmp.f
  refine Ev.bind (impl_isPath_ev a hl hk) ?_
  by_cases h : pathOk a = true
  · refine ev_pos h (Ev.bind (impl_isPath_ev b hl2 hk2) ?_)
    by_cases h2 : pathOk b = true
    · refine ev_pos h2 (ev_ret (ev_eq (comparePaths_ev a b hl hl2 ha hb h h2) ?_))
      rw [if_pos ⟨h, h2⟩]
    · refine ev_neg h2 (ev_is ?_)
      rw [if_neg (fun e => h2 e.2)]
  · refine ev_neg h (ev_is ?_)
    rw [if_neg (fun e => h e.1)]
theorem room {l : List S62} {a : Int} (hw : WfSteps l) (h1 : a ≤ 1048576) (h : ¬ sub a (l.length + szKeys l) < 0) : l.length ≤ 1048576 ∧ (∀ s ∈ l, s.f1.length ≤ 1048576) ∧ (l.map stepTo).length ≤ 1048576 ∧ (∀ s ∈ l.map stepTo, s.f1.length ≤ 1048576) ∧ (∀ s ∈ l.map stepTo, By s.f1) ∧ 0 ≤ sub a (l.length + szKeys l) ∧ sub a (l.length + szKeys l) ≤ 1048576 := by
  have hs := sub_pos h
  have hk : ∀ s ∈ l, s.f1.length ≤ 1048576 := fun s m => by have := szKeys_mem m; omega
  refine ⟨by omega, hk, by rw [List.length_map]; omega, fun s m => ?_, fun s m => ?_, by omega, by omega⟩
  · obtain ⟨t, ht, rfl⟩ := List.mem_map.1 m
    exact hk t ht
  · obtain ⟨t, ht, rfl⟩ := List.mem_map.1 m
    exact (hw.2 t ht).2.2.1
theorem FnExactPathCmp (l0 : List S62) (hw0 : WfSteps l0) (l1 : List S62) (hw1 : WfSteps l1) : ∃ k, laws_FnExactPathCmp.f k l0 l1 = some true := by
  refine Ev.rounds (g := fun k => laws_FnExactPathCmp.f k l0 l1) ?_
  unfold laws_FnExactPathCmp.f
  refine Ev.bind (szStepS_ev l0 1048576 hw0 (by omega) (by omega)) ?_
  refine ev_ite (fun _ => Ev.now _) fun h => ?_
  obtain ⟨hl, hk, hl2, hk2, hb2, r0, r1⟩ := room hw0 (by omega) h
  refine Ev.bind (szStepS_ev l1 _ hw1 r0 r1) ?_
  refine ev_ite (fun _ => Ev.now _) fun h1 => ?_
  obtain ⟨hl1, hk1, hl3, hk3, hb3, _, _⟩ := room hw1 r1 h1
  repeat (first
    | with_reducible exact Ev.now _
    | ((with_reducible refine Ev.bind (toStepS_ev l0 hl hk) ?_); try dsimp only)
    | ((with_reducible refine Ev.bind (toStepS_ev l1 hl1 hk1) ?_); try dsimp only)
    | ((with_reducible refine Ev.bind (spec_PathCmp_ev _ _ hl2 hl3 hk2 hk3 hb2 hb3) ?_); try dsimp only)
    | ((with_reducible refine Ev.bind (impl_PathCmp_ev _ _ hl2 hl3 hk2 hk3 hb2 hb3) ?_); try dsimp only)
    | ((with_reducible refine Ev.bind (eqStepS_ev _ hl2 hk2) ?_); try dsimp only)
    | ((with_reducible refine Ev.bind (eqStepS_ev _ hl3 hk3) ?_); try dsimp only)
    | ((with_reducible refine Ev.bind (toByteS_ev _ (by omega)) ?_); try dsimp only)
    | ((with_reducible refine Ev.bind (eqByteS_ev _ (by omega)) ?_); try dsimp only)
    | refine ev_pos (by with_reducible rfl) ?_
    | refine ev_neg (by decide) ?_
    | refine ev_neg (by omega) ?_
    | refine ev_neg (by simp; done) ?_
    | refine ev_pos (by omega) ?_
    | refine ev_pos (by simp; done) ?_)
end Go.Proofs.Ytmigpeaiepdmbaa.Pure
