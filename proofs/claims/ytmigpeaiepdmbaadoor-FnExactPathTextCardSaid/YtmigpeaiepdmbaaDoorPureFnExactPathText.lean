/- The pure statement of FnExactPathText: both make a path's text, and make the same. No condition. -/
import Derived.Test.YtmigpeaiepdmbaaDoorPFnExactPathTextx8
import Derived.Test.YtmigpeaiepdmbaaDoorMcore
import Derived.Test.YtmigpeaiepdmbaaDoorMnum
import Derived.Test.YtmigpeaiepdmbaaDoorMopen
namespace Go.Proofs.YtmigpeaiepdmbaaDoor.Pure
open Go.RowKit Go.Proofs.YtmigpeaiepdmbaaDoor.PFnExactPathText Go.Proofs.YtmigpeaiepdmbaaDoorW.PrintWords Go.Proofs.YtmigpeaiepdmbaaDoorW.PrintLast Go.Proofs.YtmigpeaiepdmbaaDoorW.PrintMore Go.Proofs.YtmigpeaiepdmbaaDoor.M
set_option linter.unusedVariables false
set_option linter.unusedSimpArgs false
/-! steps -/
theorem rdLS (xs : List S41) (i : Nat) (h : i < xs.length) : rd_T41 xs (i : Int) = xs[i] := getDI xs _ i h
theorem rdS (xs : List S43) (i : Nat) (h : i < xs.length) : rd_T43 xs (i : Int) = xs[i] := getDI xs _ i h
def stepTo (s : S41) : S43 := ⟨s.f0, s.f1, s.f2⟩
def szKeys : List S41 → Nat
  | [] => 0
  | s :: l => s.f1.length + szKeys l
theorem szKeys_mem {l : List S41} {s : S41} (h : s ∈ l) : s.f1.length ≤ szKeys l := by
  induction l with
  | nil => cases h
  | cons a l ih =>
    rcases List.mem_cons.1 h with rfl | h
    · simp only [szKeys]; omega
    · have := ih h; simp only [szKeys]; omega
def stepOk (s : S43) : Bool := if s.f0 = 0 then isName s.f1 && decide (s.f2 = 0) else decide (s.f0 = 1) && decide (s.f1.length = 0) && decide (0 ≤ s.f2 ∧ s.f2 ≤ 39)
def pathOk (l : List S43) : Bool := decide (l.length ≤ 6) && l.all stepOk
/-- Rows of steps as they come in. -/
def WfStep (s : S41) : Prop := ((Lit.int .i64 s.f0).wf = true ∧ s.f1.length ≤ 9223372036854775807 ∧ By s.f1 ∧ (Lit.int .i64 s.f2).wf = true)
def WfSteps (l : List S41) : Prop := l.length ≤ 9223372036854775807 ∧ ∀ s ∈ l, WfStep s
/-- A number below a hundred, in decimals. -/
def dec (i : Int) : List Int := if i < 10 then [48 + i] else [48 + i / 10, 48 + i % 10]
theorem dec_len (i : Int) : (dec i).length ≤ 2 := by unfold dec; split <;> simp
/-- A path's text, put behind b. -/
def ptext : List S43 → List Int → List Int
  | [], b => b
  | s :: l, b => ptext l (if s.f0 = 0 then b ++ [46] ++ s.f1 else b ++ [91] ++ dec s.f2 ++ [93])
theorem ptext_len (l : List S43) (b : List Int) (hk : ∀ s ∈ l, s.f1.length ≤ 1048576) : (ptext l b).length ≤ b.length + l.length * 1048580 := by
  induction l generalizing b with
  | nil => simp [ptext]
  | cons s l ih =>
    rw [ptext]
    have h1 := ih (if s.f0 = 0 then b ++ [46] ++ s.f1 else b ++ [91] ++ dec s.f2 ++ [93]) (fun t ht => hk t (List.mem_cons_of_mem _ ht))
    have h2 := hk s List.mem_cons_self
    have h3 := dec_len s.f2
    have h4 : (if s.f0 = 0 then b ++ [46] ++ s.f1 else b ++ [91] ++ dec s.f2 ++ [93]).length ≤ b.length + 1048580 := by
      split <;> simp <;> omega
    simp only [List.length_cons]
    omega
/-! laws_eqByteS -/
theorem eqByteS_l0 (l : List Int) (hl : l.length ≤ 4611686018427387903) : ∀ (d i : Nat), i + d = l.length → Ev (fun k => laws_eqByteS.l0 k l l i) true := by
  intro d
  induction d with
  | zero =>
    intro i hd
    refine Ev.step (fun _ => laws_eqByteS.l0.eq_2 ..) ?_
    exact ev_neg (by omega) (Ev.now _)
  | succ d ih =>
    intro i hd
    refine Ev.step (fun _ => laws_eqByteS.l0.eq_2 ..) ?_
    refine ev_pos (by omega) (ev_pos (by omega) (ev_pos (by omega) (ev_pos rfl ?_)))
    rw [w64s i (by omega)]
    exact ih (i + 1) (by omega)
theorem eqByteS_ev (l : List Int) (hl : l.length ≤ 281474976710656) : Ev (fun k => laws_eqByteS.f k l l) true := by
  unfold laws_eqByteS.f
  exact ev_pos rfl (eqByteS_l0 l (by omega) l.length 0 (by omega))
/-! laws_markByteS -/
theorem markByteS_l0 (n : Nat) (a : Int) (hn : n ≤ 281474976710656) (h0 : 0 ≤ a) (h1 : a ≤ 281474976710656) : ∀ (d i : Nat) (l : List Int), i + d = n → l.length = n → l.take i = (markL n a).take i →
    Ev (fun k => laws_markByteS.l0 k l (a + (i : Int)) i) (a + (n : Int), markL n a) := by
  intro d
  induction d with
  | zero =>
    intro i l hd hl ht
    refine Ev.step (fun _ => laws_markByteS.l0.eq_2 ..) ?_
    refine ev_neg (by omega) ?_
    refine ev_is ?_
    rw [List.take_of_length_le (by omega), List.take_of_length_le (by rw [markL_length]; omega)] at ht
    rw [ht, show (i : Int) = n by omega]
  | succ d ih =>
    intro i l hd hl ht
    refine Ev.step (fun _ => laws_markByteS.l0.eq_2 ..) ?_
    refine ev_pos (by omega) (ev_pos (by omega) ?_)
    rw [w64s i (by omega), Int.toNat_natCast, w64 (x := a + (i : Int) + 1) (by omega) (by omega), show a + (i : Int) + 1 = a + ((i + 1 : Nat) : Int) by omega]
    refine ih (i + 1) _ (by omega) (by rw [List.length_set]; exact hl) ?_
    have e := rd_markL n a i (by omega)
    rw [take_succ_rd (markL n a) i (by rw [markL_length]; omega), e, List.take_succ_eq_append_getElem (by rw [List.length_set]; omega), List.take_set_of_le (by omega), ht, List.getElem_set_self]
theorem markByteS_ev (l : List Int) (a : Int) (hl : l.length ≤ 281474976710656) (h0 : 0 ≤ a) (h1 : a ≤ 281474976710656) : Ev (fun k => laws_markByteS.f k l a) (a + (l.length : Int), markL l.length a) := by
  unfold laws_markByteS.f
  have := markByteS_l0 l.length a hl h0 h1 l.length 0 l (by omega) rfl (by simp)
  simpa using this
/-! laws_heldByteS -/
theorem heldByteS_l0 (n : Nat) (a : Int) (hn : n ≤ 281474976710656) (h0 : 0 ≤ a) (h1 : a ≤ 281474976710656) : ∀ (d i : Nat), i + d = n →
    Ev (fun k => laws_heldByteS.l0 k (markL n a) (a + (i : Int)) i) (a + (n : Int)) := by
  intro d
  induction d with
  | zero =>
    intro i hd
    refine Ev.step (fun _ => laws_heldByteS.l0.eq_2 ..) ?_
    refine ev_neg (by rw [markL_length]; omega) ?_
    refine ev_is ?_
    rw [show (i : Int) = n by omega]
  | succ d ih =>
    intro i hd
    refine Ev.step (fun _ => laws_heldByteS.l0.eq_2 ..) ?_
    refine ev_pos (by rw [markL_length]; omega) (ev_pos (by omega) (ev_pos (rd_markL n a i (by omega)) ?_))
    rw [w64s i (by omega), w64 (x := a + (i : Int) + 1) (by omega) (by omega), show a + (i : Int) + 1 = a + ((i + 1 : Nat) : Int) by omega]
    exact ih (i + 1) (by omega)
theorem heldByteS_ev (n : Nat) (a : Int) (hn : n ≤ 281474976710656) (h0 : 0 ≤ a) (h1 : a ≤ 281474976710656) : Ev (fun k => laws_heldByteS.f k (markL n a) a) (a + (n : Int)) := by
  unfold laws_heldByteS.f
  have := heldByteS_l0 n a hn h0 h1 n 0 (by omega)
  simpa using this
/-! laws_szByteS -/
theorem szByteS_eq (l : List Int) (a : Int) (h0 : 0 ≤ a) (h1 : a ≤ 1048576) (hl : l.length ≤ 9223372036854775807) : laws_szByteS.f l a = some (sub a l.length) := by
  unfold laws_szByteS.f sub
  rw [w64 (by omega) (by omega)]
  by_cases h : (l.length : Int) ≤ a
  · rw [if_neg (by omega), if_pos h]
  · rw [if_pos (by omega), if_neg h]
/-! laws_szStep -/
theorem szStep_eq (x : Int) (l : List Int) (y a : Int) (h0 : 0 ≤ a) (h1 : a ≤ 1048576) (hl : l.length ≤ 9223372036854775807) : laws_szStep.f x l y a = some (sub a l.length) := by
  unfold laws_szStep.f
  rw [szByteS_eq l a h0 h1 hl]
  simp only [Option.bind_some]
  by_cases h : sub a l.length < 0
  · rw [if_pos h, (sub_neg h h0).1]
  · rw [if_neg h]
/-! laws_szStepS -/
theorem szStepS_l0 (l : List S41) (hw : WfSteps l) : ∀ (d i : Nat) (a : Int), i + d = l.length → 0 ≤ a → a ≤ 1048576 → Ev (fun k => laws_szStepS.l0 k l a (i : Int)) (sub a (szKeys (l.drop i))) := by
  intro d
  induction d with
  | zero =>
    intro i a hd h0 h1
    refine Ev.step (fun _ => laws_szStepS.l0.eq_2 ..) (ev_neg (by omega) (ev_is ?_))
    rw [List.drop_eq_nil_of_le (by omega)]
    exact (sub_zero h0).symm
  | succ d ih =>
    intro i a hd h0 h1
    have hi : i < l.length := by omega
    refine Ev.step (fun _ => laws_szStepS.l0.eq_2 ..) (ev_pos (by omega) (ev_pos (by omega) ?_))
    rw [rdLS l i hi, drop_at l i hi]
    have hs := hw.2 _ (List.getElem_mem hi)
    refine Ev.bind (ev_const (szStep_eq _ _ _ a h0 h1 hs.2.1)) ?_
    rw [w64s i (by have := hw.1; omega)]
    have hr := sub_range l[i].f1.length h0
    by_cases h : sub a l[i].f1.length < 0
    · refine ev_pos h (ev_is ?_)
      exact ((sub_neg h h0).2 _).symm
    · refine ev_neg h (ev_eq (ih (i + 1) _ (by omega) (by omega) (by omega)) ?_)
      exact sub_sub h
theorem szStepS_ev (l : List S41) (a : Int) (hw : WfSteps l) (h0 : 0 ≤ a) (h1 : a ≤ 1048576) : Ev (fun k => laws_szStepS.f k l a) (sub a (l.length + szKeys l)) := by
  unfold laws_szStepS.f
  have hl := hw.1
  rw [w64 (x := a - (l.length : Int)) (by omega) (by omega)]
  by_cases h : a - (l.length : Int) < 0
  · refine ev_pos h (ev_is ?_)
    unfold sub; rw [if_neg (by omega)]
  · refine ev_neg h (ev_eq (szStepS_l0 l hw l.length 0 _ (by omega) (by omega) (by omega)) ?_)
    have e : sub a l.length = a - l.length := by unfold sub; rw [if_pos (by omega)]
    rw [← e, List.drop_zero]
    exact sub_sub (by omega)
/-! spec_NameOk -/
theorem spec_NameOk_l0 (b : List Int) (hl : b.length ≤ 4611686018427387903) : ∀ (d i : Nat), i + d = b.length → Ev (fun k => spec_NameOk.l0 k b (i : Int)) ((b.drop i).all fun x => decide (97 ≤ x ∧ x ≤ 122)) := by
  intro d
  induction d with
  | zero =>
    intro i hd
    refine Ev.step (fun _ => spec_NameOk.l0.eq_2 ..) (ev_neg (by omega) (ev_is ?_))
    rw [List.drop_eq_nil_of_le (by omega)]; rfl
  | succ d ih =>
    intro i hd
    refine Ev.step (fun _ => spec_NameOk.l0.eq_2 ..) (ev_pos (by omega) (ev_pos (by omega) ?_))
    rw [drop_rd b i (by omega), List.all_cons, w64s i (by omega)]
    by_cases h1 : rd b (i : Int) < 97
    · refine ev_pos h1 (ev_is ?_)
      simp; omega
    · refine ev_neg h1 ?_
      by_cases h2 : rd b (i : Int) > 122
      · refine ev_pos h2 (ev_is ?_)
        simp; omega
      · refine ev_neg h2 (ev_eq (ih (i + 1) (by omega)) ?_)
        rw [decide_eq_true (show 97 ≤ rd b (i : Int) ∧ rd b (i : Int) ≤ 122 by omega)]; rfl
theorem spec_NameOk_ev (b : List Int) (hl : b.length ≤ 4611686018427387903) : Ev (fun k => spec_NameOk.f k b) (isName b) := by
  unfold spec_NameOk.f isName
  by_cases h1 : b.length < 1
  · refine ev_pos (by omega) (Ev.step (fun _ => spec_NameOk.j0.eq_2 ..) (ev_pos rfl (ev_is ?_)))
    rw [decide_eq_false (by omega)]; rfl
  · refine ev_neg (by omega) (Ev.step (fun _ => spec_NameOk.j0.eq_2 ..) ?_)
    by_cases h2 : b.length > 8
    · refine ev_pos (decide_eq_true (by omega)) (ev_is ?_)
      rw [decide_eq_false (by omega)]; rfl
    · refine ev_neg (by simp; omega) (ev_eq (spec_NameOk_l0 b hl b.length 0 (by omega)) ?_)
      rw [decide_eq_true (by omega)]; rfl
/-! spec_PathOk -/
theorem spec_PathOk_l0 (l : List S43) (hl : l.length ≤ 1048576) (hk : ∀ s ∈ l, s.f1.length ≤ 1048576) : ∀ (d i : Nat), i + d = l.length → Ev (fun k => spec_PathOk.l0 k l (i : Int)) ((l.drop i).all stepOk) := by
  intro d
  induction d with
  | zero =>
    intro i hd
    refine Ev.step (fun _ => spec_PathOk.l0.eq_2 ..) (ev_neg (by omega) (ev_is ?_))
    rw [List.drop_eq_nil_of_le (by omega)]; rfl
  | succ d ih =>
    intro i hd
    have hi : i < l.length := by omega
    refine Ev.step (fun _ => spec_PathOk.l0.eq_2 ..) (ev_pos (by omega) (ev_pos (by omega) ?_))
    rw [rdS l i hi, drop_at l i hi, List.all_cons, w64s i (by omega)]
    have hs := hk _ (List.getElem_mem hi)
    generalize l[i] = s at hs
    have ih := ih (i + 1) (by omega)
    rw [stepOk]
    by_cases h0 : s.f0 = 0
    · refine ev_pos h0 (Ev.bind (spec_NameOk_ev _ (by omega)) ?_)
      rw [if_pos h0]
      by_cases h1 : isName s.f1 = true
      · refine ev_pos h1 ?_
        by_cases h2 : s.f2 = 0
        · refine ev_pos h2 (ev_eq ih ?_)
          rw [h1, decide_eq_true h2]; rfl
        · refine ev_neg h2 (ev_is ?_)
          simp [h2]
      · refine ev_neg h1 (ev_is ?_)
        simp [h1]
    · refine ev_neg h0 ?_
      rw [if_neg h0]
      by_cases h1 : s.f0 = 1
      · refine ev_pos h1 ?_
        by_cases h2 : s.f1.length = 0
        · refine ev_neg (by omega) ?_
          by_cases h3 : s.f2 < 0
          · refine ev_pos h3 (ev_is ?_)
            rw [decide_eq_false (show ¬ (0 ≤ s.f2 ∧ s.f2 ≤ 39) by omega)]; simp
          · refine ev_neg h3 ?_
            by_cases h4 : s.f2 ≥ 40
            · refine ev_pos h4 (ev_is ?_)
              rw [decide_eq_false (show ¬ (0 ≤ s.f2 ∧ s.f2 ≤ 39) by omega)]; simp
            · refine ev_neg h4 (ev_eq ih ?_)
              rw [decide_eq_true h1, decide_eq_true h2, decide_eq_true (show 0 ≤ s.f2 ∧ s.f2 ≤ 39 by omega)]; rfl
        · refine ev_pos (by omega) (ev_is ?_)
          rw [decide_eq_false h2]; simp
      · refine ev_neg h1 (ev_is ?_)
        rw [decide_eq_false h1]; simp
theorem spec_PathOk_ev (l : List S43) (hl : l.length ≤ 1048576) (hk : ∀ s ∈ l, s.f1.length ≤ 1048576) : Ev (fun k => spec_PathOk.f k l) (pathOk l) := by
  unfold spec_PathOk.f pathOk
  by_cases h : l.length ≤ 6
  · refine ev_neg (by omega) (ev_eq (spec_PathOk_l0 l hl hk l.length 0 (by omega)) ?_)
    rw [decide_eq_true h]; rfl
  · refine ev_pos (by omega) (ev_is ?_)
    rw [decide_eq_false h]; rfl
/-! spec_l3text -/
theorem l2d_ten (i : Int) (h0 : 0 ≤ i) (h1 : i < 10) : Ev (fun k => spec_l2digits.f k i) [48 + i] := by
  refine Ev.step (fun _ => spec_l2digits.f.eq_2 ..) (ev_neg (by omega) (ev_pos h1 (ev_is ?_)))
  rw [w64 (x := 48 + i) (by omega) (by omega), show (48 + i) % 256 = 48 + i by omega]
theorem l2d_dec (i : Int) (h0 : 0 ≤ i) (h1 : i ≤ 99) : Ev (fun k => spec_l2digits.f k i) (dec i) := by
  unfold dec
  by_cases h : i < 10
  · rw [if_pos h]; exact l2d_ten i h0 h
  · rw [if_neg h]
    refine Ev.step (fun _ => spec_l2digits.f.eq_2 ..) (ev_neg (by omega) (ev_neg h ?_))
    rw [Int.tdiv_eq_ediv_of_nonneg h0, Int.tmod_eq_emod_of_nonneg h0, w64 (x := i / 10) (by omega) (by omega), w64 (x := 48 + i % 10) (by omega) (by omega), show (48 + i % 10) % 256 = 48 + i % 10 by omega]
    exact Ev.bind (l2d_ten (i / 10) (by omega) (by omega)) (ev_pos (by simp) (Ev.now _))
theorem l3text_l0 (l : List S43) (hl : l.length ≤ 6) (hk : ∀ s ∈ l, s.f1.length ≤ 1048576) (hn : ∀ s ∈ l, s.f0 = 0 ∨ (0 ≤ s.f2 ∧ s.f2 ≤ 39)) : ∀ (d i : Nat) (b : List Int), i + d = l.length → b.length ≤ i * 1048580 → Ev (fun k => spec_l3text.l0 k l b (i : Int)) (ptext (l.drop i) b) := by
  intro d
  induction d with
  | zero =>
    intro i b hd hb
    refine Ev.step (fun _ => spec_l3text.l0.eq_2 ..) (ev_neg (by omega) (ev_is ?_))
    rw [List.drop_of_length_le (by omega), ptext]
  | succ d ih =>
    intro i b hd hb
    have hi : i < l.length := by omega
    have h1 := hk _ (List.getElem_mem hi)
    have h2 := hn _ (List.getElem_mem hi)
    rw [drop_at l i hi, ptext]
    refine Ev.step (fun _ => spec_l3text.l0.eq_2 ..) (ev_pos (by omega) (ev_pos (by omega) ?_))
    rw [show rd_T43 l (i : Int) = l[i] from getDI l _ i hi, w64s i (by omega)]
    by_cases h0 : l[i].f0 = 0
    · rw [if_pos h0]
      exact ev_pos h0 (Ev.bind (Ev.now _) (ev_pos (by simp; omega) (Ev.bind (Ev.now _) (ev_pos (by simp; omega) (ih (i + 1) _ (by omega) (by simp; omega))))))
    · have h3 : 0 ≤ l[i].f2 ∧ l[i].f2 ≤ 39 := h2.resolve_left h0
      have h4 := dec_len l[i].f2
      rw [if_neg h0]
      exact ev_neg h0 (Ev.bind (Ev.now _) (ev_pos (by simp; omega) (Ev.bind (Ev.now _) (Ev.bind (l2d_dec _ h3.1 (by omega)) (ev_pos (by simp; omega) (Ev.bind (Ev.now _) (Ev.bind (Ev.now _) (ev_pos (by simp; omega) (ih (i + 1) _ (by omega) (by simp; omega))))))))))
/-! spec_PathText -/
theorem path_says {l : List S43} (h : pathOk l = true) : l.length ≤ 6 ∧ ∀ s ∈ l, s.f0 = 0 ∨ (0 ≤ s.f2 ∧ s.f2 ≤ 39) := by
  unfold pathOk at h
  rw [Bool.and_eq_true] at h
  refine ⟨of_decide_eq_true h.1, fun s hs => ?_⟩
  have h2 := List.all_eq_true.1 h.2 s hs
  unfold stepOk at h2
  by_cases h0 : s.f0 = 0
  · exact .inl h0
  · rw [if_neg h0, Bool.and_eq_true] at h2
    exact .inr (of_decide_eq_true h2.2)
theorem spec_PathText_ev (l : List S43) (hl : l.length ≤ 1048576) (hk : ∀ s ∈ l, s.f1.length ≤ 1048576) : Ev (fun k => spec_PathText.f k l) (if pathOk l then ptext l [] else []) := by
  unfold spec_PathText.f
  refine Ev.bind (spec_PathOk_ev l hl hk) (ev_ite (fun h => ?_) (fun h => ?_))
  · rw [if_pos h]
    have := l3text_l0 l (path_says h).1 hk (path_says h).2 l.length 0 [] (by omega) (by simp)
    unfold spec_l3text.f
    exact Ev.bind (by simpa using this) (Ev.now _)
  · rw [if_neg h]; exact Ev.now _
/-! laws_toByteS -/
theorem toByteS_l0 (l : List Int) (hl : l.length ≤ 4611686018427387903) : ∀ (d i : Nat) (out : List Int), i + d = l.length → out.length = l.length → out.take i = l.take i → Ev (fun k => laws_toByteS.l0 k l out i) l := by
  intro d
  induction d with
  | zero =>
    intro i out hd ho ht
    refine Ev.step (fun _ => laws_toByteS.l0.eq_2 ..) ?_
    refine ev_neg (by omega) ?_
    refine ev_is ?_
    rwa [List.take_of_length_le (by omega), List.take_of_length_le (by omega)] at ht
  | succ d ih =>
    intro i out hd ho ht
    refine Ev.step (fun _ => laws_toByteS.l0.eq_2 ..) ?_
    refine ev_pos (by omega) ?_
    refine ev_pos (by omega) ?_
    refine ev_pos (by omega) ?_
    rw [w64s i (by omega), Int.toNat_natCast]
    refine ih (i + 1) _ (by omega) (by rw [List.length_set]; exact ho) ?_
    rw [List.take_succ_eq_append_getElem (by rw [List.length_set]; omega), List.take_succ_eq_append_getElem (by omega), List.take_set_of_le (by omega), ht, List.getElem_set_self, rd_nat _ _ (by omega)]
theorem toByteS_ev (l : List Int) (hl : l.length ≤ 281474976710656) : Ev (fun k => laws_toByteS.f k l) l := by
  unfold laws_toByteS.f
  refine ev_pos (by omega) ?_
  refine ev_pos (by omega) ?_
  exact toByteS_l0 l (by omega) l.length 0 _ (by omega) (by simp) (by simp)
/-! laws_toStep -/
theorem toStep_ev (x : Int) (l : List Int) (y : Int) (hl : l.length ≤ 281474976710656) : Ev (fun k => laws_toStep.f k x l y) (x, l, y) := by
  unfold laws_toStep.f
  exact Ev.bind (toByteS_ev l hl) (Ev.now _)
/-! laws_toStepS -/
theorem toStepS_l0 (l : List S41) (hl : l.length ≤ 1048576) (hk : ∀ s ∈ l, s.f1.length ≤ 1048576) : ∀ (d i : Nat) (out : List S43), i + d = l.length → out.length = l.length → out.take i = (l.map stepTo).take i → Ev (fun k => laws_toStepS.l0 k l out (i : Int)) (l.map stepTo) := by
  intro d
  induction d with
  | zero =>
    intro i out hd ho ht
    refine Ev.step (fun _ => laws_toStepS.l0.eq_2 ..) (ev_neg (by omega) (ev_is ?_))
    rwa [List.take_of_length_le (by omega), List.take_of_length_le (by rw [List.length_map]; omega)] at ht
  | succ d ih =>
    intro i out hd ho ht
    have hi : i < l.length := by omega
    refine Ev.step (fun _ => laws_toStepS.l0.eq_2 ..) (ev_pos (by omega) (ev_pos (by omega) ?_))
    rw [rdLS l i hi]
    have hs := hk _ (List.getElem_mem hi)
    refine Ev.bind (toStep_ev _ _ _ (by omega)) (ev_pos (by omega) ?_)
    rw [w64s i (by omega), Int.toNat_natCast]
    refine ih (i + 1) _ (by omega) (by rw [List.length_set]; exact ho) ?_
    rw [List.take_succ_eq_append_getElem (by rw [List.length_set]; omega), List.take_succ_eq_append_getElem (by rw [List.length_map]; omega), List.take_set_of_le (by omega), ht, List.getElem_set_self, List.getElem_map]
    rfl
theorem toStepS_ev (l : List S41) (hl : l.length ≤ 1048576) (hk : ∀ s ∈ l, s.f1.length ≤ 1048576) : Ev (fun k => laws_toStepS.f k l) (l.map stepTo) := by
  unfold laws_toStepS.f
  exact ev_pos (by omega) (ev_pos (by omega) (toStepS_l0 l hl hk l.length 0 _ (by omega) (by simp) (by simp)))
/-! impl_in -/
theorem in_eq (n lo hi : Int) : impl_in.f n lo hi = some (decide (lo ≤ n ∧ n ≤ hi)) := by
  unfold impl_in.f
  by_cases h : n ≥ lo
  · rw [if_pos h]; simp [h]
  · rw [if_neg h]; simp; omega
/-! impl_isName -/
theorem impl_isName_l0 (b : List Int) (hl : b.length ≤ 4611686018427387903) : ∀ (d i : Nat), i + d = b.length → Ev (fun k => impl_isName.l0 k b b (b.length : Int) (i : Int)) (((b.drop i).all fun x => decide (97 ≤ x ∧ x ≤ 122)) && decide (1 ≤ b.length ∧ b.length ≤ 8)) := by
  intro d
  induction d with
  | zero =>
    intro i hd
    refine Ev.step (fun _ => impl_isName.l0.eq_2 ..) (ev_neg (by omega) (ev_ret (ev_const ?_)))
    rw [in_eq, List.drop_eq_nil_of_le (by omega)]
    congr 1
    rw [List.all_nil, Bool.true_and]
    exact decide_eq_decide.2 (by omega)
  | succ d ih =>
    intro i hd
    refine Ev.step (fun _ => impl_isName.l0.eq_2 ..) (ev_pos (by omega) (ev_pos (by omega) (ev_pos (by omega) ?_)))
    rw [drop_rd b i (by omega), List.all_cons, w64s i (by omega)]
    by_cases h1 : rd b (i : Int) < 97
    · refine ev_pos h1 (ev_is ?_)
      rw [decide_eq_false (by omega)]; rfl
    · refine ev_neg h1 ?_
      by_cases h2 : rd b (i : Int) > 122
      · refine ev_pos h2 (ev_is ?_)
        rw [decide_eq_false (by omega)]; rfl
      · refine ev_neg h2 (ev_eq (ih (i + 1) (by omega)) ?_)
        rw [decide_eq_true (show 97 ≤ rd b (i : Int) ∧ rd b (i : Int) ≤ 122 by omega), Bool.true_and]
theorem impl_isName_ev (b : List Int) (hl : b.length ≤ 4611686018427387903) : Ev (fun k => impl_isName.f k b) (isName b) := by
  unfold impl_isName.f isName
  refine ev_eq (impl_isName_l0 b hl b.length 0 (by omega)) ?_
  rw [List.drop_zero, Bool.and_comm]
/-! impl_isPath_1 -/
theorem impl_isPath_1_ev (s : S43) (hs : s.f1.length ≤ 1048576) : Ev (fun k => impl_isPath_1.f k s.f0 s.f1 s.f2) (!stepOk s) := by
  unfold impl_isPath_1.f stepOk
  by_cases h0 : s.f0 = 0
  · refine ev_pos h0 (Ev.bind (impl_isName_ev _ (by omega)) ?_)
    rw [if_pos h0]
    by_cases h1 : isName s.f1 = true
    · refine ev_pos h1 (ev_is ?_)
      rw [h1]
      by_cases h2 : s.f2 = 0 <;> simp [h2]
    · refine ev_neg h1 (ev_is ?_)
      simp [h1]
  · refine ev_neg h0 ?_
    rw [if_neg h0]
    by_cases h1 : s.f0 = 1
    · refine ev_pos h1 ?_
      by_cases h2 : s.f1.length = 0
      · refine ev_neg (by omega) (Ev.bind (ev_const (in_eq ..)) (ev_is ?_))
        rw [decide_eq_true h1, decide_eq_true h2]; rfl
      · refine ev_pos (by omega) (ev_is ?_)
        rw [decide_eq_false h2]; simp
    · refine ev_neg h1 (ev_is ?_)
      rw [decide_eq_false h1]; simp
/-! x_IndexFunc_at_impl_isPath_1 -/
theorem indexPath_l0 (l : List S43) (hl : l.length ≤ 1048576) (hk : ∀ s ∈ l, s.f1.length ≤ 1048576) : ∀ (d i : Nat), i + d = l.length → ∃ r, Ev (fun k => x_IndexFunc_at_impl_isPath_1.l0 k l (l.length : Int) (i : Int)) r ∧ decide (r ≥ 0) = !(l.drop i).all stepOk := by
  intro d
  induction d with
  | zero =>
    intro i hd
    refine ⟨-1, Ev.step (fun _ => x_IndexFunc_at_impl_isPath_1.l0.eq_2 ..) (ev_neg (by omega) (Ev.now _)), ?_⟩
    rw [List.drop_eq_nil_of_le (by omega)]; rfl
  | succ d ih =>
    intro i hd
    have hi : i < l.length := by omega
    have hs := hk _ (List.getElem_mem hi)
    obtain ⟨r, hr, hd2⟩ := ih (i + 1) (by omega)
    rw [drop_at l i hi, List.all_cons]
    by_cases h : stepOk l[i] = true
    · refine ⟨r, Ev.step (fun _ => x_IndexFunc_at_impl_isPath_1.l0.eq_2 ..) (ev_pos (by omega) (ev_pos (by omega) (ev_pos (by omega) ?_))), by rw [hd2, h]; rfl⟩
      rw [rdS l i hi, w64s i (by omega)]
      refine Ev.bind (impl_isPath_1_ev _ hs) (ev_neg (by rw [h]; decide) hr)
    · refine ⟨i, Ev.step (fun _ => x_IndexFunc_at_impl_isPath_1.l0.eq_2 ..) (ev_pos (by omega) (ev_pos (by omega) (ev_pos (by omega) ?_))), by simp [h]⟩
      rw [rdS l i hi]
      refine Ev.bind (impl_isPath_1_ev _ hs) (ev_pos (by simp [h]) (Ev.now _))
/-! x_ContainsFunc_at_impl_isPath_1 -/
theorem containsPath_ev (l : List S43) (hl : l.length ≤ 1048576) (hk : ∀ s ∈ l, s.f1.length ≤ 1048576) : Ev (fun k => x_ContainsFunc_at_impl_isPath_1.f k l) (!l.all stepOk) := by
  unfold x_ContainsFunc_at_impl_isPath_1.f x_IndexFunc_at_impl_isPath_1.f
  obtain ⟨r, hr, hd⟩ := indexPath_l0 l hl hk l.length 0 (by omega)
  exact Ev.bind hr (ev_is (by rw [hd, List.drop_zero]))
/-! impl_isPath -/
theorem impl_isPath_ev (l : List S43) (hl : l.length ≤ 1048576) (hk : ∀ s ∈ l, s.f1.length ≤ 1048576) : Ev (fun k => impl_isPath.f k l) (pathOk l) := by
  unfold impl_isPath.f pathOk
  by_cases h : l.length ≤ 6
  · refine ev_pos (by omega) (Ev.bind (containsPath_ev l hl hk) (ev_is ?_))
    rw [decide_eq_true h]; simp
  · refine ev_neg (by omega) (ev_is ?_)
    rw [decide_eq_false h]; rfl
/-! impl_pathText -/
theorem small_dec (n : Nat) (h : n ≤ 99) : (strconv_small.f (n : Int)).map bytesOf = some (dec (n : Int)) := by
  have h2 : ∀ n : Nat, n ≤ 99 → (strconv_small.f (n : Int)).map bytesOf = some (dec (n : Int)) := by decide +kernel
  exact h2 n h
theorem appendInt_dec (l : List Int) (i : Int) (h0 : 0 ≤ i) (h1 : i ≤ 99) (hl : l.length ≤ 100000000) : strconv_AppendInt_21.f l i 10 = some (l ++ dec i) := by
  obtain ⟨n, rfl⟩ := Int.eq_ofNat_of_zero_le h0
  obtain ⟨s, hs, hb⟩ := Option.map_eq_some_iff.1 (small_dec n (by omega))
  have hw : IntKind.u64.wrap (n : Int) = (n : Int) := by simp [IntKind.wrap, IntKind.bits, IntKind.signed]; omega
  have hz : s.size ≤ 2 := by
    have h3 := dec_len (n : Int)
    rw [← hb] at h3
    have h4 : (bytesOf s).length = s.size := by rw [bytesOf, List.length_map]; exact Array.length_toList
    omega
  unfold strconv_AppendInt_21.f strconv_AppendInt_31.f strconv_AppendUint.f
  rw [if_neg (by omega), hw, if_pos rfl, if_pos (by omega), w64 (x := (n : Int)) (by omega) (by omega), hs]
  simp only [Option.bind_some]
  rw [if_pos (by omega), hb]
  rfl
theorem impl_pathText_l0 (l : List S43) (hl : l.length ≤ 6) (hk : ∀ s ∈ l, s.f1.length ≤ 1048576) (hn : ∀ s ∈ l, s.f0 = 0 ∨ (0 ≤ s.f2 ∧ s.f2 ≤ 39)) : ∀ (d i : Nat) (b : List Int), i + d = l.length → b.length ≤ i * 1048580 → Ev (fun k => impl_pathText.l0 k b l (l.length : Int) (i : Int)) (ptext (l.drop i) b) := by
  intro d
  induction d with
  | zero =>
    intro i b hd hb
    refine Ev.step (fun _ => impl_pathText.l0.eq_2 ..) (ev_neg (by omega) (ev_is ?_))
    rw [List.drop_of_length_le (by omega), ptext]
  | succ d ih =>
    intro i b hd hb
    have hi : i < l.length := by omega
    have h1 := hk _ (List.getElem_mem hi)
    have h2 := hn _ (List.getElem_mem hi)
    rw [drop_at l i hi, ptext]
    refine Ev.step (fun _ => impl_pathText.l0.eq_2 ..) (ev_pos (by omega) (ev_pos (by omega) (ev_pos (by omega) ?_)))
    rw [show rd_T43 l (i : Int) = l[i] from getDI l _ i hi, w64s i (by omega)]
    by_cases h0 : l[i].f0 = 0
    · rw [if_pos h0]
      exact ev_pos h0 (Ev.bind (Ev.now _) (ev_pos (by simp; omega) (Ev.bind (Ev.now _) (ev_pos (by simp; omega) (ih (i + 1) _ (by omega) (by simp; omega))))))
    · have h3 : 0 ≤ l[i].f2 ∧ l[i].f2 ≤ 39 := h2.resolve_left h0
      have h4 := dec_len l[i].f2
      rw [if_neg h0]
      exact ev_neg h0 (Ev.bind (Ev.now _) (ev_pos (by simp; omega) (Ev.bind (ev_const (appendInt_dec _ _ h3.1 (by omega) (by simp; omega))) (Ev.bind (Ev.now _) (ev_pos (by simp; omega) (ih (i + 1) _ (by omega) (by simp; omega)))))))
/-! impl_PathText -/
theorem impl_PathText_ev (l : List S43) (hl : l.length ≤ 1048576) (hk : ∀ s ∈ l, s.f1.length ≤ 1048576) : Ev (fun k => impl_PathText.f k l) (if pathOk l then ptext l [] else []) := by
  unfold impl_PathText.f
  refine Ev.bind (impl_isPath_ev l hl hk) (ev_ite (fun h => ?_) (fun h => ?_))
  · rw [if_pos h]
    have := impl_pathText_l0 l (path_says h).1 hk (path_says h).2 l.length 0 [] (by omega) (by simp)
    unfold impl_pathText.f
    exact Ev.bind (by simpa using this) (Ev.now _)
  · rw [if_neg h]; exact Ev.now _
/-! laws_eqStep -/
theorem eqStep_ev (x : Int) (l : List Int) (y : Int) (hl : l.length ≤ 281474976710656) : Ev (fun k => laws_eqStep.f k x l y x l y) true := by
  unfold laws_eqStep.f
  exact ev_pos rfl (Ev.bind (eqByteS_ev l hl) (ev_pos rfl (ev_pos rfl (Ev.now _))))
/-! laws_eqStepS -/
theorem eqStepS_l0 (l : List S43) (hl : l.length ≤ 1048576) (hk : ∀ s ∈ l, s.f1.length ≤ 1048576) : ∀ (d i : Nat), i + d = l.length → Ev (fun k => laws_eqStepS.l0 k l l (i : Int)) true := by
  intro d
  induction d with
  | zero =>
    intro i hd
    exact Ev.step (fun _ => laws_eqStepS.l0.eq_2 ..) (ev_neg (by omega) (Ev.now _))
  | succ d ih =>
    intro i hd
    have hi : i < l.length := by omega
    refine Ev.step (fun _ => laws_eqStepS.l0.eq_2 ..) (ev_pos (by omega) (ev_pos (by omega) (ev_pos (by omega) ?_)))
    rw [rdS l i hi]
    have hs := hk _ (List.getElem_mem hi)
    refine Ev.bind (eqStep_ev _ _ _ (by omega)) (ev_pos rfl ?_)
    rw [w64s i (by omega)]
    exact ih (i + 1) (by omega)
theorem eqStepS_ev (l : List S43) (hl : l.length ≤ 1048576) (hk : ∀ s ∈ l, s.f1.length ≤ 1048576) : Ev (fun k => laws_eqStepS.f k l l) true := by
  unfold laws_eqStepS.f
  exact ev_pos rfl (eqStepS_l0 l hl hk l.length 0 (by omega))
theorem cSs_keys (l : List S41) : cSs ((l.map stepTo).map fun x => x.f1.length) ≤ 2 * l.length + szKeys l := by
  induction l with
  | nil => simp [cSs]
  | cons s l ih =>
    simp only [List.map_cons, cSs, szKeys, List.length_cons]
    have : (stepTo s).f1 = s.f1 := rfl
    rw [this]
    omega
theorem FnExactPathText (l0 : List S41) (hw : WfSteps l0) : ∃ k, laws_FnExactPathText.f k l0 = some true := by
  refine Ev.rounds (g := fun k => laws_FnExactPathText.f k l0) ?_
  unfold laws_FnExactPathText.f
  refine Ev.bind (szStepS_ev l0 1048576 hw (by omega) (by omega)) ?_
  refine ev_ite (fun _ => Ev.now _) fun h => ?_
  have hs := (sub_pos h).1
  have hl : l0.length ≤ 1048576 := by omega
  have hk : ∀ s ∈ l0, s.f1.length ≤ 1048576 := fun s m => by have := szKeys_mem m; omega
  have hl2 : (l0.map stepTo).length ≤ 1048576 := by rw [List.length_map]; exact hl
  have hk2 : ∀ s ∈ l0.map stepTo, s.f1.length ≤ 1048576 := fun s m => by
    obtain ⟨t, ht, rfl⟩ := List.mem_map.1 m
    exact hk t ht
  have hc := cSs_keys l0
  obtain ⟨r, hr⟩ : ∃ r : List Int, r = (if pathOk (l0.map stepTo) then ptext (l0.map stepTo) [] else []) := ⟨_, rfl⟩
  have hrl : r.length ≤ 6291480 := by
    rw [hr]
    split
    · rename_i h
      have h1 := ptext_len (l0.map stepTo) [] hk2
      have h2 := (path_says h).1
      simp only [List.length_nil] at h1
      omega
    · simp
  have e1 := spec_PathText_ev _ hl2 hk2
  have e2 := impl_PathText_ev _ hl2 hk2
  rw [← hr] at e1 e2
  have hh := heldByteS_ev r.length 1 (by omega) (by omega) (by omega)
  refine Ev.bind (toStepS_ev l0 hl hk) (Ev.bind e1 (Ev.bind e2 (Ev.bind (eqByteS_ev r (by omega)) (ev_pos rfl (Ev.bind (eqStepS_ev _ hl2 hk2) (ev_pos rfl (ev_pos (by omega) (ev_pos (by omega) (Ev.bind (Ev.now _) (Ev.bind hh (ev_neg (by omega) (ev_pos rfl (Ev.now _)))))))))))))
end Go.Proofs.YtmigpeaiepdmbaaDoor.Pure
