/- The pure statement of FnExactChangesOk: both tell whether changes are ok, and tell the same. No condition. -/
import Derived.Test.YtockllljeeakaaaPFnExactChangesOkx0
import Derived.Test.YtockllljeeakaaaPFnExactChangesOkx1
import Derived.Test.YtockllljeeakaaaPFnExactChangesOkx2
import Derived.Test.YtockllljeeakaaaPFnExactChangesOkx3
import Derived.Test.YtockllljeeakaaaPFnExactChangesOkx4
import Derived.Test.YtockllljeeakaaaPFnExactChangesOkx5
import Derived.Test.YtockllljeeakaaaPFnExactChangesOkx6
import Derived.Test.YtockllljeeakaaaPFnExactChangesOkx7
import Derived.Test.YtockllljeeakaaaPFnExactChangesOkx8
import Derived.Test.YtockllljeeakaaaPFnExactChangesOkx9
import Derived.Test.YtockllljeeakaaaPFnExactChangesOkx10
import Derived.Test.YtockllljeeakaaaPFnExactChangesOkx11
import Derived.Test.YtockllljeeakaaaPFnExactChangesOkx12
import Derived.Test.YtockllljeeakaaaPFnExactChangesOkx13
import Derived.Test.YtockllljeeakaaaPFnExactChangesOkx14
import Derived.Test.YtockllljeeakaaaPFnExactChangesOkx15
import Derived.Test.YtockllljeeakaaaPFnExactChangesOkx16
import Derived.Test.YtockllljeeakaaaPFnExactChangesOkx17
import Derived.Test.YtockllljeeakaaaPFnExactChangesOkx18
import Derived.Test.YtockllljeeakaaaPFnExactChangesOkx19
import Derived.Test.YtockllljeeakaaaPFnExactChangesOkx20
import Derived.Test.YtockllljeeakaaaPFnExactChangesOkx21
import Derived.Test.YtockllljeeakaaaMcore
import Derived.Test.YtockllljeeakaaaMnum
import Derived.Test.YtockllljeeakaaaMopen
import Derived.Test.YtockllljeeakaaaMcmp
namespace Go.Proofs.Ytockllljeeakaaa.Pure
open Go.RowKit Go.Proofs.Ytockllljeeakaaa.PFnExactChangesOk Go.Proofs.YtockllljeeakaaaW.PrintWords Go.Proofs.YtockllljeeakaaaW.PrintLast Go.Proofs.YtockllljeeakaaaW.PrintMore Go.Proofs.Ytockllljeeakaaa.M
set_option linter.unusedVariables false
set_option linter.unusedSimpArgs false
/-! values -/
theorem rdLV (xs : List S72) (i : Nat) (h : i < xs.length) : rd_T72 xs (i : Int) = xs[i] := getDI xs _ i h
theorem rdV (xs : List S79) (i : Nat) (h : i < xs.length) : rd_T79 xs (i : Int) = xs[i] := getDI xs _ i h
theorem rdR (xs : List (List Int)) (i : Nat) (h : i < xs.length) : rd_L2 xs (i : Int) = xs[i] := getDI xs _ i h
theorem lvind {P : S72 → Prop} (h : ∀ v : S72, (∀ x ∈ v.f4, P x) → P v) (v : S72) : P v :=
  h v fun x hx => lvind h x
termination_by SizeOf.sizeOf v
decreasing_by
  obtain ⟨a, b, c, d, l⟩ := v
  have := List.sizeOf_lt_of_mem hx
  simp only [S72.mk.sizeOf_spec]
  dsimp only at this
  omega
theorem vind {P : S79 → Prop} (h : ∀ v : S79, (∀ x ∈ v.f4, P x) → P v) (v : S79) : P v :=
  h v fun x hx => vind h x
termination_by SizeOf.sizeOf v
decreasing_by
  obtain ⟨a, b, c, d, l⟩ := v
  have := List.sizeOf_lt_of_mem hx
  simp only [S79.mk.sizeOf_spec]
  dsimp only at this
  omega
mutual
def toV : S72 → S79
  | ⟨a, b, c, d, l⟩ => ⟨a, b, c, d, toVs l⟩
def toVs : List S72 → List S79
  | [] => []
  | x :: l => toV x :: toVs l
end
theorem toVs_map : ∀ l, toVs l = l.map toV
  | [] => rfl
  | x :: l => by rw [toVs, List.map_cons, toVs_map l]
theorem toV_f0 : ∀ v, (toV v).f0 = v.f0 := fun ⟨_, _, _, _, _⟩ => by rw [toV]
theorem toV_f1 : ∀ v, (toV v).f1 = v.f1 := fun ⟨_, _, _, _, _⟩ => by rw [toV]
theorem toV_f2 : ∀ v, (toV v).f2 = v.f2 := fun ⟨_, _, _, _, _⟩ => by rw [toV]
theorem toV_f3 : ∀ v, (toV v).f3 = v.f3 := fun ⟨_, _, _, _, _⟩ => by rw [toV]
theorem toV_f4 : ∀ v, (toV v).f4 = v.f4.map toV := fun ⟨_, _, _, _, l⟩ => by rw [toV]; exact toVs_map l
def szL : List (List Int) → Nat
  | [] => 0
  | x :: l => x.length + szL l
theorem szL_mem {l : List (List Int)} {x : List Int} (h : x ∈ l) : x.length ≤ szL l := by
  induction l with
  | nil => cases h
  | cons a l ih =>
    rcases List.mem_cons.1 h with rfl | h
    · simp only [szL]; omega
    · have := ih h; simp only [szL]; omega
mutual
def szV : S72 → Nat
  | ⟨_, _, c, d, l⟩ => c.length + (d.length + szL d + (l.length + szVs l))
def szVs : List S72 → Nat
  | [] => 0
  | x :: l => szV x + szVs l
end
theorem szV_eq : ∀ v, szV v = v.f2.length + (v.f3.length + szL v.f3 + (v.f4.length + szVs v.f4)) := fun ⟨_, _, _, _, _⟩ => by rw [szV]
theorem szVs_mem {l : List S72} {x : S72} (h : x ∈ l) : szV x ≤ szVs l := by
  induction l with
  | nil => cases h
  | cons a l ih =>
    rcases List.mem_cons.1 h with rfl | h
    · rw [szVs]; omega
    · have := ih h; rw [szVs]; omega
/-- Values as they come in. -/
inductive WfV : S72 → Prop
  | mk (v : S72) (h0 : (Lit.int .i64 v.f0).wf = true) (h1 : (Lit.int .i64 v.f1).wf = true) (h2 : v.f2.length ≤ 9223372036854775807) (h3 : By v.f2) (h4 : v.f3.length ≤ 9223372036854775807)
      (h5 : ∀ y ∈ v.f3, y.length ≤ 9223372036854775807 ∧ By y) (h6 : v.f4.length ≤ 9223372036854775807) (h7 : ∀ x ∈ v.f4, WfV x) : WfV v
/-- Values of a size that is held. -/
inductive SmV : S79 → Prop
  | mk (v : S79) (h0 : (Lit.int .i64 v.f0).wf = true) (h1 : (Lit.int .i64 v.f1).wf = true) (h2 : v.f2.length ≤ 1048576) (h3 : By v.f2) (h4 : v.f3.length ≤ 1048576)
      (h5 : ∀ y ∈ v.f3, y.length ≤ 1048576 ∧ By y) (h6 : v.f4.length ≤ 1048576) (h7 : ∀ x ∈ v.f4, SmV x) : SmV v
theorem smV_child {v : S79} (h : SmV v) : ∀ x ∈ v.f4, SmV x := by obtain ⟨_, w0, w1, w2, w3, w4, w5, w6, w7⟩ := h; exact w7
theorem smV_of : ∀ v, WfV v → szV v ≤ 1048576 → SmV (toV v) := by
  refine lvind fun v ih hw hs => ?_
  obtain ⟨_, h0, h1, h2, h3, h4, h5, h6, h7⟩ := hw
  rw [szV_eq] at hs
  refine .mk _ ?_ ?_ ?_ ?_ ?_ ?_ ?_ ?_
  · rw [toV_f0]; exact h0
  · rw [toV_f1]; exact h1
  · rw [toV_f2]; omega
  · rw [toV_f2]; exact h3
  · rw [toV_f3]; omega
  · rw [toV_f3]; exact fun y hy => ⟨by have := szL_mem hy; omega, (h5 y hy).2⟩
  · rw [toV_f4, List.length_map]; omega
  · rw [toV_f4]
    intro x hx
    obtain ⟨y, hy, rfl⟩ := List.mem_map.1 hx
    exact ih y hy (h7 y hy) (by have := szVs_mem hy; omega)
mutual
def nV : S79 → Nat
  | ⟨_, _, _, _, l⟩ => 1 + nVs l
def nVs : List S79 → Nat
  | [] => 0
  | x :: l => nV x + nVs l
end
theorem nV_eq : ∀ v, nV v = 1 + nVs v.f4 := fun ⟨_, _, _, _, _⟩ => by rw [nV]
theorem nVs_mem {l : List S79} {x : S79} (h : x ∈ l) : nV x ≤ nVs l := by
  induction l with
  | nil => cases h
  | cons a l ih =>
    rcases List.mem_cons.1 h with rfl | h
    · rw [nVs]; omega
    · have := ih h; rw [nVs]; omega
theorem nVs_len : ∀ l : List S79, l.length ≤ nVs l
  | [] => Nat.zero_le _
  | x :: l => by
    have := nVs_len l
    have h := nV_eq x
    rw [nVs, List.length_cons]; omega
theorem nVs_toV (l : List S72) (ih : ∀ x ∈ l, nV (toV x) ≤ 1 + szV x) : nVs (l.map toV) ≤ l.length + szVs l := by
  induction l with
  | nil => rw [List.map_nil, nVs]; omega
  | cons a l ih2 =>
    have h1 := ih a List.mem_cons_self
    have h2 := ih2 fun x hx => ih x (List.mem_cons_of_mem _ hx)
    rw [List.map_cons, nVs, szVs, List.length_cons]; omega
theorem nV_toV : ∀ v, nV (toV v) ≤ 1 + szV v := by
  refine lvind fun v ih => ?_
  rw [nV_eq, toV_f4, szV_eq]
  have := nVs_toV v.f4 ih
  omega
def isText (b : List Int) : Bool := decide (b.length ≤ 20) && b.all (fun x => decide (32 ≤ x ∧ x ≤ 126))
def keyAt (k : List (List Int)) (i : Nat) : Bool := isName (k.getD i []) && (decide (i = 0) || decide (cmpB (k.getD (i - 1) []) (k.getD i []) = -1))
def keysFrom (k : List (List Int)) : Nat → Nat → Bool
  | 0, _ => true
  | d + 1, i => keyAt k i && keysFrom k d (i + 1)
def keysOk (k : List (List Int)) : Bool := keysFrom k k.length 0
theorem getDN {α : Type} (xs : List α) (d : α) (i : Nat) (h : i < xs.length) : xs.getD i d = xs[i] := by simp [List.getD_eq_getElem?_getD, h]
theorem keyAt_0 (k : List (List Int)) (h : 0 < k.length) : keyAt k 0 = isName k[0] := by
  unfold keyAt; rw [getDN k [] 0 h]; simp
theorem keyAt_s (k : List (List Int)) (i : Nat) (h : i + 1 < k.length) : keyAt k (i + 1) = (isName k[i + 1] && decide (cmpB k[i] k[i + 1] = -1)) := by
  unfold keyAt; rw [getDN k [] (i + 1) h, Nat.add_sub_cancel, getDN k [] i (by omega)]; simp
def formOk (v : S79) : Bool :=
  if v.f0 = 0 ∨ v.f0 = 6 then decide (v.f1 = 0) && (decide (v.f2.length = 0) && (decide (v.f3.length = 0) && decide (v.f4.length = 0)))
  else if v.f0 = 1 then decide (0 ≤ v.f1 ∧ v.f1 ≤ 1) && (decide (v.f2.length = 0) && (decide (v.f3.length = 0) && decide (v.f4.length = 0)))
  else if v.f0 = 2 then decide (-1000000000000 ≤ v.f1 ∧ v.f1 ≤ 1000000000000) && (decide (v.f2.length = 0) && (decide (v.f3.length = 0) && decide (v.f4.length = 0)))
  else if v.f0 = 3 then isText v.f2 && (decide (v.f1 = 0) && (decide (v.f3.length = 0) && decide (v.f4.length = 0)))
  else if v.f0 = 4 then decide (v.f3.length = 0) && (decide (v.f1 = 0) && (decide (v.f2.length = 0) && decide (v.f4.length ≤ 40)))
  else if v.f0 = 5 then decide (v.f3.length = v.f4.length) && (keysOk v.f3 && (decide (v.f1 = 0) && (decide (v.f2.length = 0) && decide (v.f4.length ≤ 40))))
  else false
mutual
/-- Of its form, no deeper than so many more. -/
def shaped : S79 → Nat → Bool
  | ⟨_, _, _, _, _⟩, 0 => false
  | ⟨a, b, c, d, l⟩, n + 1 => formOk ⟨a, b, c, d, l⟩ && allShaped l n
def allShaped : List S79 → Nat → Bool
  | [], _ => true
  | x :: l, n => shaped x n && allShaped l n
end
theorem shaped_0 : ∀ v, shaped v 0 = false := fun ⟨_, _, _, _, _⟩ => by rw [shaped]
theorem shaped_s (n : Nat) : ∀ v, shaped v (n + 1) = (formOk v && allShaped v.f4 n) := fun ⟨_, _, _, _, _⟩ => by rw [shaped]
theorem shaped_none {v : S79} (h : v.f4.length = 0) (n : Nat) : allShaped v.f4 n = true := by rw [List.eq_nil_of_length_eq_zero h, allShaped]
def valOk (v : S79) : Bool := shaped v 5 && decide (nV v ≤ 40)
theorem ev_and {g : Nat → Option Bool} {b r : Bool} (h : b = true → Ev g r) : Ev (fun n => if b = true then g n else some false) (b && r) := by
  cases b
  · exact ev_neg (by decide) (Ev.now _)
  · exact ev_pos rfl (h rfl)
theorem ev_andP {g : Nat → Option Bool} {c : Prop} [Decidable c] {r : Bool} (h : c → Ev g r) : Ev (fun n => if c then g n else some false) (decide c && r) := by
  by_cases hc : c
  · rw [decide_eq_true hc, Bool.true_and]; exact ev_pos hc (h hc)
  · rw [decide_eq_false hc, Bool.false_and]; exact ev_neg hc (Ev.now _)
theorem beq0 (n : Nat) : ((n : Int) == 0) = decide (n = 0) := by
  by_cases h : n = 0
  · subst h; rfl
  · rw [decide_eq_false h, beq_eq_false_iff_ne]; omega
theorem beqI (n : Int) : (n == 0) = decide (n = 0) := by
  by_cases h : n = 0
  · subst h; rfl
  · rw [decide_eq_false h, beq_eq_false_iff_ne]; exact h
def bad_ (v : S79) : Prop := (v.f0 ≠ 3 ∧ 0 < v.f2.length) ∨ (v.f0 ≠ 5 ∧ 0 < v.f3.length) ∨ (v.f0 ≠ 1 ∧ v.f0 ≠ 2 ∧ v.f1 ≠ 0) ∨ (v.f0 ≠ 4 ∧ v.f0 ≠ 5 ∧ 0 < v.f4.length)
theorem form_bad_ {v : S79} (h : bad_ v) : formOk v = false := by
  unfold bad_ at h
  unfold formOk
  by_cases c0 : v.f0 = 0 ∨ v.f0 = 6
  · rw [if_pos c0, ← Bool.decide_and, ← Bool.decide_and, ← Bool.decide_and]; exact decide_eq_false (by omega)
  · rw [if_neg c0]
    by_cases c1 : v.f0 = 1
    · rw [if_pos c1, ← Bool.decide_and, ← Bool.decide_and, ← Bool.decide_and]; exact decide_eq_false (by omega)
    · rw [if_neg c1]
      by_cases c2 : v.f0 = 2
      · rw [if_pos c2, ← Bool.decide_and, ← Bool.decide_and, ← Bool.decide_and]; exact decide_eq_false (by omega)
      · rw [if_neg c2]
        by_cases c3 : v.f0 = 3
        · rw [if_pos c3, ← Bool.decide_and, ← Bool.decide_and, decide_eq_false (p := v.f1 = 0 ∧ v.f3.length = 0 ∧ v.f4.length = 0) (by omega), Bool.and_false]
        · rw [if_neg c3]
          by_cases c4 : v.f0 = 4
          · rw [if_pos c4, ← Bool.decide_and, ← Bool.decide_and, ← Bool.decide_and]; exact decide_eq_false (by omega)
          · rw [if_neg c4]
            by_cases c5 : v.f0 = 5
            · rw [if_pos c5, ← Bool.decide_and, ← Bool.decide_and, decide_eq_false (p := v.f1 = 0 ∧ v.f2.length = 0 ∧ v.f4.length ≤ 40) (by omega), Bool.and_false, Bool.and_false]
            · rw [if_neg c5]
/-! steps -/
theorem rdLS (xs : List S138) (i : Nat) (h : i < xs.length) : rd_T138 xs (i : Int) = xs[i] := getDI xs _ i h
theorem rdS (xs : List S100) (i : Nat) (h : i < xs.length) : rd_T100 xs (i : Int) = xs[i] := getDI xs _ i h
def stepTo (s : S138) : S100 := ⟨s.f0, s.f1, s.f2⟩
def szKeys : List S138 → Nat
  | [] => 0
  | s :: l => s.f1.length + szKeys l
theorem szKeys_mem {l : List S138} {s : S138} (h : s ∈ l) : s.f1.length ≤ szKeys l := by
  induction l with
  | nil => cases h
  | cons a l ih =>
    rcases List.mem_cons.1 h with rfl | h
    · simp only [szKeys]; omega
    · have := ih h; simp only [szKeys]; omega
def stepOk (s : S100) : Bool := if s.f0 = 0 then isName s.f1 && decide (s.f2 = 0) else decide (s.f0 = 1) && decide (s.f1.length = 0) && decide (0 ≤ s.f2 ∧ s.f2 ≤ 39)
def pathOk (l : List S100) : Bool := decide (l.length ≤ 6) && l.all stepOk
/-- Rows of steps as they come in. -/
def WfStep (s : S138) : Prop := ((Lit.int .i64 s.f0).wf = true ∧ s.f1.length ≤ 9223372036854775807 ∧ By s.f1 ∧ (Lit.int .i64 s.f2).wf = true)
def WfSteps (l : List S138) : Prop := l.length ≤ 9223372036854775807 ∧ ∀ s ∈ l, WfStep s
/-! steps in order -/
def stepC (s t : S100) : Int := if s.f0 = t.f0 then (if s.f0 = 1 then numC s.f2 t.f2 else cmpB s.f1 t.f1) else numC s.f0 t.f0
def cmpP : List S100 → List S100 → Int
  | [], [] => 0
  | [], _ :: _ => -1
  | _ :: _, [] => 1
  | x :: a, y :: b => if stepC x y = 0 then cmpP a b else stepC x y
theorem cmpP_cons (x y : S100) (a b : List S100) : cmpP (x :: a) (y :: b) = if stepC x y = 0 then cmpP a b else stepC x y := rfl
theorem cmpP_len {a b : List S100} (h : a = [] ∨ b = []) : cmpP a b = numC a.length b.length := by
  rcases a with _ | ⟨x, a⟩
  · rcases b with _ | ⟨y, b⟩
    · rfl
    · show (-1 : Int) = _
      unfold numC; rw [if_pos (by simp only [List.length_nil, List.length_cons]; omega)]
  · rcases b with _ | ⟨y, b⟩
    · show (1 : Int) = _
      unfold numC; rw [if_neg (by simp only [List.length_nil, List.length_cons]; omega), if_pos (by simp only [List.length_nil, List.length_cons]; omega)]
    · simp at h
/-! laws_szByteS -/
theorem szByteS_eq (l : List Int) (a : Int) (h0 : 0 ≤ a) (h1 : a ≤ 1048576) (hl : l.length ≤ 9223372036854775807) : laws_szByteS.f l a = some (sub a l.length) := by
  unfold laws_szByteS.f sub
  rw [w64 (by omega) (by omega)]
  by_cases h : (l.length : Int) ≤ a
  · rw [if_neg (by omega), if_pos h]
  · rw [if_pos (by omega), if_neg h]
/-! laws_szStep -/
theorem szStep_eq (x : Int) (l : List Int) (y a : Int) (h0 : 0 ≤ a) (h1 : a ≤ 1048576) (hl : l.length ≤ 9223372036854775807) : laws_szStep.f x l y a = some (sub a l.length) := by
  unfold laws_szStep.f
  rw [szByteS_eq l a h0 h1 hl]
  simp only [Option.bind_some]
  by_cases h : sub a l.length < 0
  · rw [if_pos h, (sub_neg h h0).1]
  · rw [if_neg h]
/-! laws_szStepS -/
theorem szStepS_l0 (l : List S138) (hw : WfSteps l) : ∀ (d i : Nat) (a : Int), i + d = l.length → 0 ≤ a → a ≤ 1048576 → Ev (fun k => laws_szStepS.l0 k l a (i : Int)) (sub a (szKeys (l.drop i))) := by
  intro d
  induction d with
  | zero =>
    intro i a hd h0 h1
    refine Ev.step (fun _ => laws_szStepS.l0.eq_2 ..) (ev_neg (by omega) (ev_is ?_))
    rw [List.drop_eq_nil_of_le (by omega)]
    exact (sub_zero h0).symm
  | succ d ih =>
    intro i a hd h0 h1
    have hi : i < l.length := by omega
    refine Ev.step (fun _ => laws_szStepS.l0.eq_2 ..) (ev_pos (by omega) (ev_pos (by omega) ?_))
    rw [rdLS l i hi, drop_at l i hi]
    have hs := hw.2 _ (List.getElem_mem hi)
    refine Ev.bind (ev_const (szStep_eq _ _ _ a h0 h1 hs.2.1)) ?_
    rw [w64s i (by have := hw.1; omega)]
    have hr := sub_range l[i].f1.length h0
    by_cases h : sub a l[i].f1.length < 0
    · refine ev_pos h (ev_is ?_)
      exact ((sub_neg h h0).2 _).symm
    · refine ev_neg h (ev_eq (ih (i + 1) _ (by omega) (by omega) (by omega)) ?_)
      exact sub_sub h
theorem szStepS_ev (l : List S138) (a : Int) (hw : WfSteps l) (h0 : 0 ≤ a) (h1 : a ≤ 1048576) : Ev (fun k => laws_szStepS.f k l a) (sub a (l.length + szKeys l)) := by
  unfold laws_szStepS.f
  have hl := hw.1
  rw [w64 (x := a - (l.length : Int)) (by omega) (by omega)]
  by_cases h : a - (l.length : Int) < 0
  · refine ev_pos h (ev_is ?_)
    unfold sub; rw [if_neg (by omega)]
  · refine ev_neg h (ev_eq (szStepS_l0 l hw l.length 0 _ (by omega) (by omega) (by omega)) ?_)
    have e : sub a l.length = a - l.length := by unfold sub; rw [if_pos (by omega)]
    rw [← e, List.drop_zero]
    exact sub_sub (by omega)
/-! laws_szByteSS -/
theorem szByteSS_l0 (l : List (List Int)) (hl : l.length ≤ 9223372036854775807) (hk : ∀ x ∈ l, x.length ≤ 9223372036854775807) : ∀ (d i : Nat) (a : Int), i + d = l.length → 0 ≤ a → a ≤ 1048576 → Ev (fun k => laws_szByteSS.l0 k l a (i : Int)) (sub a (szL (l.drop i))) := by
  intro d
  induction d with
  | zero =>
    intro i a hd h0 h1
    refine Ev.step (fun _ => laws_szByteSS.l0.eq_2 ..) (ev_neg (by omega) (ev_is ?_))
    rw [List.drop_eq_nil_of_le (by omega)]
    exact (sub_zero h0).symm
  | succ d ih =>
    intro i a hd h0 h1
    have hi : i < l.length := by omega
    refine Ev.step (fun _ => laws_szByteSS.l0.eq_2 ..) (ev_pos (by omega) (ev_pos (by omega) ?_))
    rw [rdR l i hi, drop_at l i hi]
    refine Ev.bind (ev_const (szByteS_eq _ a h0 h1 (hk _ (List.getElem_mem hi)))) ?_
    rw [w64s i (by omega)]
    have hr := sub_range l[i].length h0
    by_cases h : sub a l[i].length < 0
    · refine ev_pos h (ev_is ?_)
      exact ((sub_neg h h0).2 _).symm
    · refine ev_neg h (ev_eq (ih (i + 1) _ (by omega) (by omega) (by omega)) ?_)
      exact sub_sub h
theorem szByteSS_ev (l : List (List Int)) (a : Int) (hl : l.length ≤ 9223372036854775807) (hk : ∀ x ∈ l, x.length ≤ 9223372036854775807) (h0 : 0 ≤ a) (h1 : a ≤ 1048576) : Ev (fun k => laws_szByteSS.f k l a) (sub a (l.length + szL l)) := by
  unfold laws_szByteSS.f
  rw [w64 (x := a - (l.length : Int)) (by omega) (by omega)]
  by_cases h : a - (l.length : Int) < 0
  · refine ev_pos h (ev_is ?_)
    unfold sub; rw [if_neg (by omega)]
  · refine ev_neg h (ev_eq (szByteSS_l0 l hl hk l.length 0 _ (by omega) (by omega) (by omega)) ?_)
    have e : sub a l.length = a - l.length := by unfold sub; rw [if_pos (by omega)]
    rw [← e, List.drop_zero]
    exact sub_sub (by omega)
/-! laws_szValue -/
theorem szValueS_l0 (l : List S72) (hl : l.length ≤ 9223372036854775807) (hx : ∀ v ∈ l, ∀ a : Int, 0 ≤ a → a ≤ 1048576 → Ev (fun k => laws_szValue.f k v.f0 v.f1 v.f2 v.f3 v.f4 a) (sub a (szV v))) :
    ∀ (d i : Nat) (a : Int), i + d = l.length → 0 ≤ a → a ≤ 1048576 → Ev (fun k => laws_szValueS.l0 k l a (i : Int)) (sub a (szVs (l.drop i))) := by
  intro d
  induction d with
  | zero =>
    intro i a hd h0 h1
    refine Ev.step (fun _ => laws_szValueS.l0.eq_2 ..) (ev_neg (by omega) (ev_is ?_))
    rw [List.drop_eq_nil_of_le (by omega), szVs]
    exact (sub_zero h0).symm
  | succ d ih =>
    intro i a hd h0 h1
    have hi : i < l.length := by omega
    refine Ev.step (fun _ => laws_szValueS.l0.eq_2 ..) (ev_pos (by omega) (ev_pos (by omega) ?_))
    rw [rdLV l i hi, drop_at l i hi, szVs]
    refine Ev.bind (hx _ (List.getElem_mem hi) a h0 h1) ?_
    rw [w64s i (by omega)]
    have hr := sub_range (szV l[i]) h0
    by_cases h : sub a (szV l[i]) < 0
    · refine ev_pos h (ev_is ?_)
      exact ((sub_neg h h0).2 _).symm
    · refine ev_neg h (ev_eq (ih (i + 1) _ (by omega) (by omega) (by omega)) ?_)
      exact sub_sub h
theorem szValueS_ev (l : List S72) (hl : l.length ≤ 9223372036854775807) (hx : ∀ v ∈ l, ∀ a : Int, 0 ≤ a → a ≤ 1048576 → Ev (fun k => laws_szValue.f k v.f0 v.f1 v.f2 v.f3 v.f4 a) (sub a (szV v))) (a : Int) (h0 : 0 ≤ a) (h1 : a ≤ 1048576) :
    Ev (fun k => laws_szValueS.f k l a) (sub a (l.length + szVs l)) := by
  refine Ev.step (fun _ => laws_szValueS.f.eq_2 ..) ?_
  rw [w64 (x := a - (l.length : Int)) (by omega) (by omega)]
  by_cases h : a - (l.length : Int) < 0
  · refine ev_pos h (ev_is ?_)
    unfold sub; rw [if_neg (by omega)]
  · refine ev_neg h (ev_eq (szValueS_l0 l hl hx l.length 0 _ (by omega) (by omega) (by omega)) ?_)
    have e : sub a l.length = a - l.length := by unfold sub; rw [if_pos (by omega)]
    rw [← e, List.drop_zero]
    exact sub_sub (by omega)
theorem szValue_ev : ∀ v : S72, WfV v → ∀ a : Int, 0 ≤ a → a ≤ 1048576 → Ev (fun k => laws_szValue.f k v.f0 v.f1 v.f2 v.f3 v.f4 a) (sub a (szV v)) := by
  refine lvind fun v ih hw a h0 h1 => ?_
  obtain ⟨_, w0, w1, w2, w3, w4, w5, w6, w7⟩ := hw
  refine Ev.step (fun _ => laws_szValue.f.eq_2 ..) ?_
  rw [szV_eq]
  refine Ev.bind (ev_const (szByteS_eq v.f2 a h0 h1 w2)) ?_
  have hr := sub_range v.f2.length h0
  by_cases h : sub a v.f2.length < 0
  · refine ev_pos h (ev_is ?_)
    exact ((sub_neg h h0).2 _).symm
  · refine ev_neg h ?_
    rw [← sub_sub h]
    generalize sub a v.f2.length = b at h hr ⊢
    refine Ev.bind (szByteSS_ev v.f3 b w4 (fun y hy => (w5 y hy).1) (by omega) (by omega)) ?_
    have hr2 := sub_range (a := b) (v.f3.length + szL v.f3) (by omega)
    by_cases h2 : sub b (v.f3.length + szL v.f3) < 0
    · refine ev_pos h2 (ev_is ?_)
      exact ((sub_neg h2 (by omega)).2 _).symm
    · refine ev_neg h2 ?_
      rw [← sub_sub h2]
      generalize sub b (v.f3.length + szL v.f3) = c at h2 hr2 ⊢
      refine Ev.bind (szValueS_ev v.f4 w6 (fun x hx => ih x hx (w7 x hx)) c (by omega) (by omega)) ?_
      by_cases h3 : sub c (v.f4.length + szVs v.f4) < 0
      · refine ev_pos h3 (ev_is ?_)
        exact (sub_neg h3 (by omega)).1.symm
      · exact ev_neg h3 (Ev.now _)
/-! laws_toByteS -/
theorem toByteS_l0 (l : List Int) (hl : l.length ≤ 4611686018427387903) : ∀ (d i : Nat) (out : List Int), i + d = l.length → out.length = l.length → out.take i = l.take i → Ev (fun k => laws_toByteS.l0 k l out i) l := by
  intro d
  induction d with
  | zero =>
    intro i out hd ho ht
    refine Ev.step (fun _ => laws_toByteS.l0.eq_2 ..) ?_
    refine ev_neg (by omega) ?_
    refine ev_is ?_
    rwa [List.take_of_length_le (by omega), List.take_of_length_le (by omega)] at ht
  | succ d ih =>
    intro i out hd ho ht
    refine Ev.step (fun _ => laws_toByteS.l0.eq_2 ..) ?_
    refine ev_pos (by omega) ?_
    refine ev_pos (by omega) ?_
    refine ev_pos (by omega) ?_
    rw [w64s i (by omega), Int.toNat_natCast]
    refine ih (i + 1) _ (by omega) (by rw [List.length_set]; exact ho) ?_
    rw [List.take_succ_eq_append_getElem (by rw [List.length_set]; omega), List.take_succ_eq_append_getElem (by omega), List.take_set_of_le (by omega), ht, List.getElem_set_self, rd_nat _ _ (by omega)]
theorem toByteS_ev (l : List Int) (hl : l.length ≤ 281474976710656) : Ev (fun k => laws_toByteS.f k l) l := by
  unfold laws_toByteS.f
  refine ev_pos (by omega) ?_
  refine ev_pos (by omega) ?_
  exact toByteS_l0 l (by omega) l.length 0 _ (by omega) (by simp) (by simp)
/-! laws_toStep -/
theorem toStep_ev (x : Int) (l : List Int) (y : Int) (hl : l.length ≤ 281474976710656) : Ev (fun k => laws_toStep.f k x l y) (x, l, y) := by
  unfold laws_toStep.f
  exact Ev.bind (toByteS_ev l hl) (Ev.now _)
/-! laws_toStepS -/
theorem toStepS_l0 (l : List S138) (hl : l.length ≤ 1048576) (hk : ∀ s ∈ l, s.f1.length ≤ 1048576) : ∀ (d i : Nat) (out : List S100), i + d = l.length → out.length = l.length → out.take i = (l.map stepTo).take i → Ev (fun k => laws_toStepS.l0 k l out (i : Int)) (l.map stepTo) := by
  intro d
  induction d with
  | zero =>
    intro i out hd ho ht
    refine Ev.step (fun _ => laws_toStepS.l0.eq_2 ..) (ev_neg (by omega) (ev_is ?_))
    rwa [List.take_of_length_le (by omega), List.take_of_length_le (by rw [List.length_map]; omega)] at ht
  | succ d ih =>
    intro i out hd ho ht
    have hi : i < l.length := by omega
    refine Ev.step (fun _ => laws_toStepS.l0.eq_2 ..) (ev_pos (by omega) (ev_pos (by omega) ?_))
    rw [rdLS l i hi]
    have hs := hk _ (List.getElem_mem hi)
    refine Ev.bind (toStep_ev _ _ _ (by omega)) (ev_pos (by omega) ?_)
    rw [w64s i (by omega), Int.toNat_natCast]
    refine ih (i + 1) _ (by omega) (by rw [List.length_set]; exact ho) ?_
    rw [List.take_succ_eq_append_getElem (by rw [List.length_set]; omega), List.take_succ_eq_append_getElem (by rw [List.length_map]; omega), List.take_set_of_le (by omega), ht, List.getElem_set_self, List.getElem_map]
    rfl
theorem toStepS_ev (l : List S138) (hl : l.length ≤ 1048576) (hk : ∀ s ∈ l, s.f1.length ≤ 1048576) : Ev (fun k => laws_toStepS.f k l) (l.map stepTo) := by
  unfold laws_toStepS.f
  exact ev_pos (by omega) (ev_pos (by omega) (toStepS_l0 l hl hk l.length 0 _ (by omega) (by simp) (by simp)))
/-! laws_toByteSS -/
theorem toByteSS_l0 (l : List (List Int)) (hl : l.length ≤ 1048576) (hk : ∀ x ∈ l, x.length ≤ 1048576) : ∀ (d i : Nat) (out : List (List Int)), i + d = l.length → out.length = l.length → out.take i = l.take i → Ev (fun k => laws_toByteSS.l0 k l out (i : Int)) l := by
  intro d
  induction d with
  | zero =>
    intro i out hd ho ht
    refine Ev.step (fun _ => laws_toByteSS.l0.eq_2 ..) (ev_neg (by omega) (ev_is ?_))
    rwa [List.take_of_length_le (by omega), List.take_of_length_le (by omega)] at ht
  | succ d ih =>
    intro i out hd ho ht
    have hi : i < l.length := by omega
    refine Ev.step (fun _ => laws_toByteSS.l0.eq_2 ..) (ev_pos (by omega) (ev_pos (by omega) ?_))
    rw [rdR l i hi]
    have hs := hk _ (List.getElem_mem hi)
    refine Ev.bind (toByteS_ev _ (by omega)) (ev_pos (by omega) ?_)
    rw [w64s i (by omega), Int.toNat_natCast]
    refine ih (i + 1) _ (by omega) (by rw [List.length_set]; exact ho) ?_
    rw [List.take_succ_eq_append_getElem (by rw [List.length_set]; omega), List.take_succ_eq_append_getElem hi, List.take_set_of_le (by omega), ht, List.getElem_set_self]
theorem toByteSS_ev (l : List (List Int)) (hl : l.length ≤ 1048576) (hk : ∀ x ∈ l, x.length ≤ 1048576) : Ev (fun k => laws_toByteSS.f k l) l := by
  unfold laws_toByteSS.f
  exact ev_pos (by omega) (ev_pos (by omega) (toByteSS_l0 l hl hk l.length 0 _ (by omega) (by simp) (by simp)))
/-! laws_toValue -/
theorem toValueS_l0 (l : List S72) (hl : l.length ≤ 1048576) (hx : ∀ v ∈ l, Ev (fun k => laws_toValue.f k v.f0 v.f1 v.f2 v.f3 v.f4) ((toV v).f0, (toV v).f1, (toV v).f2, (toV v).f3, (toV v).f4)) :
    ∀ (d i : Nat) (out : List S79), i + d = l.length → out.length = l.length → out.take i = (l.map toV).take i → Ev (fun k => laws_toValueS.l0 k l out (i : Int)) (l.map toV) := by
  intro d
  induction d with
  | zero =>
    intro i out hd ho ht
    refine Ev.step (fun _ => laws_toValueS.l0.eq_2 ..) (ev_neg (by omega) (ev_is ?_))
    rwa [List.take_of_length_le (by omega), List.take_of_length_le (by rw [List.length_map]; omega)] at ht
  | succ d ih =>
    intro i out hd ho ht
    have hi : i < l.length := by omega
    refine Ev.step (fun _ => laws_toValueS.l0.eq_2 ..) (ev_pos (by omega) (ev_pos (by omega) ?_))
    rw [rdLV l i hi]
    refine Ev.bind (hx _ (List.getElem_mem hi)) (ev_pos (by omega) ?_)
    rw [w64s i (by omega), Int.toNat_natCast]
    refine ih (i + 1) _ (by omega) (by rw [List.length_set]; exact ho) ?_
    rw [List.take_succ_eq_append_getElem (by rw [List.length_set]; omega), List.take_succ_eq_append_getElem (by rw [List.length_map]; omega), List.take_set_of_le (by omega), ht, List.getElem_set_self, List.getElem_map]
    generalize toV l[i] = y
    cases y
    rfl
theorem toValue_ev : ∀ v : S72, SmV (toV v) → Ev (fun k => laws_toValue.f k v.f0 v.f1 v.f2 v.f3 v.f4) ((toV v).f0, (toV v).f1, (toV v).f2, (toV v).f3, (toV v).f4) := by
  refine lvind fun v ih hw => ?_
  obtain ⟨_, w0, w1, w2, w3, w4, w5, w6, w7⟩ := hw
  rw [toV_f2] at w2; rw [toV_f3] at w4 w5; rw [toV_f4, List.length_map] at w6; rw [toV_f4] at w7
  refine Ev.step (fun _ => laws_toValue.f.eq_2 ..) ?_
  rw [toV_f0, toV_f1, toV_f2, toV_f3, toV_f4]
  refine Ev.bind (toByteS_ev v.f2 (by omega)) (Ev.bind (toByteSS_ev v.f3 w4 (fun y hy => (w5 y hy).1)) (Ev.bind (a := v.f4.map toV) ?_ (Ev.now _)))
  refine Ev.step (fun _ => laws_toValueS.f.eq_2 ..) (ev_pos (by omega) (ev_pos (by omega) ?_))
  exact toValueS_l0 v.f4 w6 (fun x hx => ih x hx (w7 _ (List.mem_map_of_mem hx))) v.f4.length 0 _ (by omega) (by simp) (by simp)
/-! laws_eqByteS -/
theorem eqByteS_l0 (l : List Int) (hl : l.length ≤ 4611686018427387903) : ∀ (d i : Nat), i + d = l.length → Ev (fun k => laws_eqByteS.l0 k l l i) true := by
  intro d
  induction d with
  | zero =>
    intro i hd
    refine Ev.step (fun _ => laws_eqByteS.l0.eq_2 ..) ?_
    exact ev_neg (by omega) (Ev.now _)
  | succ d ih =>
    intro i hd
    refine Ev.step (fun _ => laws_eqByteS.l0.eq_2 ..) ?_
    refine ev_pos (by omega) (ev_pos (by omega) (ev_pos (by omega) (ev_pos rfl ?_)))
    rw [w64s i (by omega)]
    exact ih (i + 1) (by omega)
theorem eqByteS_ev (l : List Int) (hl : l.length ≤ 281474976710656) : Ev (fun k => laws_eqByteS.f k l l) true := by
  unfold laws_eqByteS.f
  exact ev_pos rfl (eqByteS_l0 l (by omega) l.length 0 (by omega))
/-! laws_eqStep -/
theorem eqStep_ev (x : Int) (l : List Int) (y : Int) (hl : l.length ≤ 281474976710656) : Ev (fun k => laws_eqStep.f k x l y x l y) true := by
  unfold laws_eqStep.f
  exact ev_pos rfl (Ev.bind (eqByteS_ev l hl) (ev_pos rfl (ev_pos rfl (Ev.now _))))
/-! laws_eqStepS -/
theorem eqStepS_l0 (l : List S100) (hl : l.length ≤ 1048576) (hk : ∀ s ∈ l, s.f1.length ≤ 1048576) : ∀ (d i : Nat), i + d = l.length → Ev (fun k => laws_eqStepS.l0 k l l (i : Int)) true := by
  intro d
  induction d with
  | zero =>
    intro i hd
    exact Ev.step (fun _ => laws_eqStepS.l0.eq_2 ..) (ev_neg (by omega) (Ev.now _))
  | succ d ih =>
    intro i hd
    have hi : i < l.length := by omega
    refine Ev.step (fun _ => laws_eqStepS.l0.eq_2 ..) (ev_pos (by omega) (ev_pos (by omega) (ev_pos (by omega) ?_)))
    rw [rdS l i hi]
    have hs := hk _ (List.getElem_mem hi)
    refine Ev.bind (eqStep_ev _ _ _ (by omega)) (ev_pos rfl ?_)
    rw [w64s i (by omega)]
    exact ih (i + 1) (by omega)
theorem eqStepS_ev (l : List S100) (hl : l.length ≤ 1048576) (hk : ∀ s ∈ l, s.f1.length ≤ 1048576) : Ev (fun k => laws_eqStepS.f k l l) true := by
  unfold laws_eqStepS.f
  exact ev_pos rfl (eqStepS_l0 l hl hk l.length 0 (by omega))
/-! laws_eqByteSS -/
theorem eqByteSS_l0 (l : List (List Int)) (hl : l.length ≤ 1048576) (hk : ∀ x ∈ l, x.length ≤ 1048576) : ∀ (d i : Nat), i + d = l.length → Ev (fun k => laws_eqByteSS.l0 k l l (i : Int)) true := by
  intro d
  induction d with
  | zero =>
    intro i hd
    exact Ev.step (fun _ => laws_eqByteSS.l0.eq_2 ..) (ev_neg (by omega) (Ev.now _))
  | succ d ih =>
    intro i hd
    have hi : i < l.length := by omega
    refine Ev.step (fun _ => laws_eqByteSS.l0.eq_2 ..) (ev_pos (by omega) (ev_pos (by omega) (ev_pos (by omega) ?_)))
    rw [rdR l i hi]
    have hs := hk _ (List.getElem_mem hi)
    refine Ev.bind (eqByteS_ev _ (by omega)) (ev_pos rfl ?_)
    rw [w64s i (by omega)]
    exact ih (i + 1) (by omega)
theorem eqByteSS_ev (l : List (List Int)) (hl : l.length ≤ 1048576) (hk : ∀ x ∈ l, x.length ≤ 1048576) : Ev (fun k => laws_eqByteSS.f k l l) true := by
  unfold laws_eqByteSS.f
  exact ev_pos rfl (eqByteSS_l0 l hl hk l.length 0 (by omega))
/-! laws_eqValue -/
theorem eqValueS_l0 (l : List S79) (hl : l.length ≤ 1048576) (hx : ∀ v ∈ l, Ev (fun k => laws_eqValue.f k v.f0 v.f1 v.f2 v.f3 v.f4 v.f0 v.f1 v.f2 v.f3 v.f4) true) : ∀ (d i : Nat), i + d = l.length → Ev (fun k => laws_eqValueS.l0 k l l (i : Int)) true := by
  intro d
  induction d with
  | zero =>
    intro i hd
    exact Ev.step (fun _ => laws_eqValueS.l0.eq_2 ..) (ev_neg (by omega) (Ev.now _))
  | succ d ih =>
    intro i hd
    have hi : i < l.length := by omega
    refine Ev.step (fun _ => laws_eqValueS.l0.eq_2 ..) (ev_pos (by omega) (ev_pos (by omega) (ev_pos (by omega) ?_)))
    rw [rdV l i hi]
    refine Ev.bind (hx _ (List.getElem_mem hi)) (ev_pos rfl ?_)
    rw [w64s i (by omega)]
    exact ih (i + 1) (by omega)
theorem eqValue_ev : ∀ v : S79, SmV v → Ev (fun k => laws_eqValue.f k v.f0 v.f1 v.f2 v.f3 v.f4 v.f0 v.f1 v.f2 v.f3 v.f4) true := by
  refine vind fun v ih hw => ?_
  obtain ⟨_, w0, w1, w2, w3, w4, w5, w6, w7⟩ := hw
  refine Ev.step (fun _ => laws_eqValue.f.eq_2 ..) (ev_pos rfl (ev_pos rfl ?_))
  refine Ev.bind (eqByteS_ev v.f2 (by omega)) (ev_pos rfl (Ev.bind (eqByteSS_ev v.f3 w4 (fun y hy => (w5 y hy).1)) (ev_pos rfl (Ev.bind (a := true) ?_ (ev_pos rfl (Ev.now _))))))
  refine Ev.step (fun _ => laws_eqValueS.f.eq_2 ..) (ev_pos rfl ?_)
  exact eqValueS_l0 v.f4 w6 (fun x hx => ih x hx (w7 x hx)) v.f4.length 0 (by omega)
/-! spec_NameOk -/
theorem spec_NameOk_l0 (b : List Int) (hl : b.length ≤ 4611686018427387903) : ∀ (d i : Nat), i + d = b.length → Ev (fun k => spec_NameOk.l0 k b (i : Int)) ((b.drop i).all fun x => decide (97 ≤ x ∧ x ≤ 122)) := by
  intro d
  induction d with
  | zero =>
    intro i hd
    refine Ev.step (fun _ => spec_NameOk.l0.eq_2 ..) (ev_neg (by omega) (ev_is ?_))
    rw [List.drop_eq_nil_of_le (by omega)]; rfl
  | succ d ih =>
    intro i hd
    refine Ev.step (fun _ => spec_NameOk.l0.eq_2 ..) (ev_pos (by omega) (ev_pos (by omega) ?_))
    rw [M.drop_rd b i (by omega), List.all_cons, w64s i (by omega)]
    by_cases h1 : rd b (i : Int) < 97
    · refine ev_pos h1 (ev_is ?_)
      simp; omega
    · refine ev_neg h1 ?_
      by_cases h2 : rd b (i : Int) > 122
      · refine ev_pos h2 (ev_is ?_)
        simp; omega
      · refine ev_neg h2 (ev_eq (ih (i + 1) (by omega)) ?_)
        rw [decide_eq_true (show 97 ≤ rd b (i : Int) ∧ rd b (i : Int) ≤ 122 by omega)]; rfl
theorem spec_NameOk_ev (b : List Int) (hl : b.length ≤ 4611686018427387903) : Ev (fun k => spec_NameOk.f k b) (isName b) := by
  unfold spec_NameOk.f isName
  by_cases h1 : b.length < 1
  · refine ev_pos (by omega) (Ev.step (fun _ => spec_NameOk.j0.eq_2 ..) (ev_pos rfl (ev_is ?_)))
    rw [decide_eq_false (by omega)]; rfl
  · refine ev_neg (by omega) (Ev.step (fun _ => spec_NameOk.j0.eq_2 ..) ?_)
    by_cases h2 : b.length > 8
    · refine ev_pos (decide_eq_true (by omega)) (ev_is ?_)
      rw [decide_eq_false (by omega)]; rfl
    · refine ev_neg (by simp; omega) (ev_eq (spec_NameOk_l0 b hl b.length 0 (by omega)) ?_)
      rw [decide_eq_true (by omega)]; rfl
/-! spec_PathOk -/
theorem spec_PathOk_l0 (l : List S100) (hl : l.length ≤ 1048576) (hk : ∀ s ∈ l, s.f1.length ≤ 1048576) : ∀ (d i : Nat), i + d = l.length → Ev (fun k => spec_PathOk.l0 k l (i : Int)) ((l.drop i).all stepOk) := by
  intro d
  induction d with
  | zero =>
    intro i hd
    refine Ev.step (fun _ => spec_PathOk.l0.eq_2 ..) (ev_neg (by omega) (ev_is ?_))
    rw [List.drop_eq_nil_of_le (by omega)]; rfl
  | succ d ih =>
    intro i hd
    have hi : i < l.length := by omega
    refine Ev.step (fun _ => spec_PathOk.l0.eq_2 ..) (ev_pos (by omega) (ev_pos (by omega) ?_))
    rw [rdS l i hi, drop_at l i hi, List.all_cons, w64s i (by omega)]
    have hs := hk _ (List.getElem_mem hi)
    generalize l[i] = s at hs
    have ih := ih (i + 1) (by omega)
    rw [stepOk]
    by_cases h0 : s.f0 = 0
    · refine ev_pos h0 (Ev.bind (spec_NameOk_ev _ (by omega)) ?_)
      rw [if_pos h0]
      by_cases h1 : isName s.f1 = true
      · refine ev_pos h1 ?_
        by_cases h2 : s.f2 = 0
        · refine ev_pos h2 (ev_eq ih ?_)
          rw [h1, decide_eq_true h2]; rfl
        · refine ev_neg h2 (ev_is ?_)
          simp [h2]
      · refine ev_neg h1 (ev_is ?_)
        simp [h1]
    · refine ev_neg h0 ?_
      rw [if_neg h0]
      by_cases h1 : s.f0 = 1
      · refine ev_pos h1 ?_
        by_cases h2 : s.f1.length = 0
        · refine ev_neg (by omega) ?_
          by_cases h3 : s.f2 < 0
          · refine ev_pos h3 (ev_is ?_)
            rw [decide_eq_false (show ¬ (0 ≤ s.f2 ∧ s.f2 ≤ 39) by omega)]; simp
          · refine ev_neg h3 ?_
            by_cases h4 : s.f2 ≥ 40
            · refine ev_pos h4 (ev_is ?_)
              rw [decide_eq_false (show ¬ (0 ≤ s.f2 ∧ s.f2 ≤ 39) by omega)]; simp
            · refine ev_neg h4 (ev_eq ih ?_)
              rw [decide_eq_true h1, decide_eq_true h2, decide_eq_true (show 0 ≤ s.f2 ∧ s.f2 ≤ 39 by omega)]; rfl
        · refine ev_pos (by omega) (ev_is ?_)
          rw [decide_eq_false h2]; simp
      · refine ev_neg h1 (ev_is ?_)
        rw [decide_eq_false h1]; simp
theorem spec_PathOk_ev (l : List S100) (hl : l.length ≤ 1048576) (hk : ∀ s ∈ l, s.f1.length ≤ 1048576) : Ev (fun k => spec_PathOk.f k l) (pathOk l) := by
  unfold spec_PathOk.f pathOk
  by_cases h : l.length ≤ 6
  · refine ev_neg (by omega) (ev_eq (spec_PathOk_l0 l hl hk l.length 0 (by omega)) ?_)
    rw [decide_eq_true h]; rfl
  · refine ev_pos (by omega) (ev_is ?_)
    rw [decide_eq_false h]; rfl
/-! spec_l2text -/
theorem spec_l2text_l0 (b : List Int) (hl : b.length ≤ 4611686018427387903) : ∀ (d i : Nat), i + d = b.length → Ev (fun k => spec_l2text.l0 k b (i : Int)) ((b.drop i).all fun x => decide (32 ≤ x ∧ x ≤ 126)) := by
  intro d
  induction d with
  | zero =>
    intro i hd
    refine Ev.step (fun _ => spec_l2text.l0.eq_2 ..) (ev_neg (by omega) (ev_is ?_))
    rw [List.drop_eq_nil_of_le (by omega)]; rfl
  | succ d ih =>
    intro i hd
    refine Ev.step (fun _ => spec_l2text.l0.eq_2 ..) (ev_pos (by omega) (ev_pos (by omega) ?_))
    rw [M.drop_rd b i (by omega), List.all_cons, w64s i (by omega)]
    by_cases h1 : rd b (i : Int) < 32
    · refine ev_pos h1 (ev_is ?_)
      simp; omega
    · refine ev_neg h1 ?_
      by_cases h2 : rd b (i : Int) > 126
      · refine ev_pos h2 (ev_is ?_)
        simp; omega
      · refine ev_neg h2 (ev_eq (ih (i + 1) (by omega)) ?_)
        rw [decide_eq_true (show 32 ≤ rd b (i : Int) ∧ rd b (i : Int) ≤ 126 by omega)]; rfl
theorem spec_l2text_ev (b : List Int) (hl : b.length ≤ 4611686018427387903) : Ev (fun k => spec_l2text.f k b) (isText b) := by
  unfold spec_l2text.f isText
  by_cases h1 : b.length > 20
  · refine ev_pos (by omega) (ev_is ?_)
    rw [decide_eq_false (by omega)]; rfl
  · refine ev_neg (by omega) (ev_eq (spec_l2text_l0 b hl b.length 0 (by omega)) ?_)
    rw [decide_eq_true (by omega)]; rfl
/-! spec_l2int -/
theorem l2int_eq (n : Int) : spec_l2int.f n = some (decide (-1000000000000 ≤ n ∧ n ≤ 1000000000000)) := by
  unfold spec_l2int.f
  by_cases h : n ≥ -1000000000000
  · rw [if_pos h]; congr 1; exact decide_eq_decide.2 (by omega)
  · rw [if_neg h, decide_eq_false (by omega)]
/-! spec_l2ok -/
/-- What is left of a room, if all is as it must be; -1: it isn't. -/
def left_ (b : Bool) (n : Nat) (m : Int) : Int := if b = true ∧ (n : Int) ≤ m then m - n else -1
theorem left_f (n : Nat) (m : Int) : left_ false n m = -1 := by unfold left_; rw [if_neg (fun h => by simp at h)]
theorem left_0 {m : Int} (h : 0 ≤ m) : left_ true 0 m = m := by unfold left_; rw [if_pos ⟨rfl, by omega⟩]; omega
theorem left_range (b : Bool) (n : Nat) (m : Int) (h : 0 ≤ m) : -1 ≤ left_ b n m ∧ left_ b n m ≤ m := by unfold left_; split <;> omega
theorem left_neg {b : Bool} {n : Nat} {m : Int} (h : left_ b n m < 0) (c : Bool) (p : Nat) : left_ (b && c) (n + p) m = -1 := by
  unfold left_ at *
  split at h
  · omega
  · rename_i h1
    rw [if_neg]
    rintro ⟨h2, h3⟩
    rw [Bool.and_eq_true] at h2
    exact h1 ⟨h2.1, by omega⟩
theorem left_pos {b : Bool} {n : Nat} {m : Int} (h : ¬ left_ b n m < 0) (c : Bool) (p : Nat) : left_ c p (left_ b n m) = left_ (b && c) (n + p) m := by
  unfold left_ at *
  split at h
  · rename_i h1
    obtain ⟨hb, h1⟩ := h1
    subst hb
    have e : (if true = true ∧ (n : Int) ≤ m then m - n else -1) = m - n := if_pos ⟨rfl, h1⟩
    rw [e, Bool.true_and]
    by_cases h2 : c = true ∧ (p : Int) ≤ m - n
    · rw [if_pos h2, if_pos ⟨h2.1, by omega⟩]; omega
    · rw [if_neg h2, if_neg (fun h3 => h2 ⟨h3.1, by omega⟩)]
  · omega
theorem left_s (b : Bool) (n : Nat) (m : Int) : left_ b (1 + n) m = left_ b n (m - 1) := by
  unfold left_
  by_cases h : b = true ∧ (n : Int) ≤ m - 1
  · rw [if_pos h, if_pos ⟨h.1, by omega⟩]; omega
  · rw [if_neg h, if_neg (fun h2 => h ⟨h2.1, by omega⟩)]
theorem l2ok_j6 (v : S79) (deep i : Nat) (m : Int) (hi : i < v.f4.length) (hd : deep ≤ 5) (hm : 0 ≤ m) (hm2 : m ≤ 40) (hl : v.f4.length ≤ 1048576) (b : Bool) (C : Bool) (p : Nat)
    (hx : Ev (fun k => spec_l2ok.f k v.f4[i].f0 v.f4[i].f1 v.f4[i].f2 v.f4[i].f3 v.f4[i].f4 ((deep + 1 : Nat) : Int) m) (left_ (shaped v.f4[i] (5 - deep)) (nV v.f4[i]) m))
    (hn : ∀ m' : Int, 0 ≤ m' → m' ≤ 40 → Ev (fun k => spec_l2ok.l0 k deep m' ((i + 1 : Nat) : Int) v.f0 v.f1 v.f2 v.f3 v.f4) (left_ C p m')) :
    Ev (fun k => spec_l2ok.j6 k deep m (i : Int) b v.f0 v.f1 v.f2 v.f3 v.f4) (if b = true then -1 else left_ (shaped v.f4[i] (5 - deep) && C) (nV v.f4[i] + p) m) := by
  refine Ev.step (fun _ => spec_l2ok.j6.eq_2 ..) ?_
  have hr := left_range (shaped v.f4[i] (5 - deep)) (nV v.f4[i]) m hm
  cases b
  · refine ev_neg (by decide) (ev_pos (by omega) (ev_pos (by omega) ?_))
    rw [rdV v.f4 i hi, w64s i (by omega), w64s deep (by omega), if_neg (by decide)]
    refine Ev.bind hx ?_
    refine ev_ite (fun h => ?_) (fun h => ?_)
    · exact ev_is (left_neg h C p).symm
    · exact ev_eq (hn _ (by omega) (by omega)) (left_pos h C p)
  · exact ev_pos rfl (Ev.now _)
theorem l2ok_l0 (v : S79) (hv : SmV v) (deep : Nat) (hd : deep ≤ 5) (hk : v.f0 = 5 → v.f3.length = v.f4.length)
    (hx : ∀ x ∈ v.f4, ∀ m : Int, 0 ≤ m → m ≤ 40 → Ev (fun k => spec_l2ok.f k x.f0 x.f1 x.f2 x.f3 x.f4 ((deep + 1 : Nat) : Int) m) (left_ (shaped x (5 - deep)) (nV x) m)) :
    ∀ (d i : Nat) (m : Int), i + d = v.f4.length → 0 ≤ m → m ≤ 40 → Ev (fun k => spec_l2ok.l0 k deep m (i : Int) v.f0 v.f1 v.f2 v.f3 v.f4)
      (left_ ((!decide (v.f0 = 5) || keysFrom v.f3 d i) && allShaped (v.f4.drop i) (5 - deep)) (nVs (v.f4.drop i)) m) := by
  obtain ⟨_, w0, w1, w2, w3, w4, w5, w6, w7⟩ := hv
  intro d
  induction d with
  | zero =>
    intro i m hd2 h0 h1
    refine Ev.step (fun _ => spec_l2ok.l0.eq_2 ..) (ev_neg (by omega) (ev_is ?_))
    rw [List.drop_eq_nil_of_le (by omega), nVs, allShaped, keysFrom, Bool.or_true, Bool.true_and, left_0 h0]
  | succ d ih =>
    intro i m hd2 h0 h1
    have hi : i < v.f4.length := by omega
    have J := fun b => l2ok_j6 v deep i m hi hd h0 h1 w6 b _ _ (hx _ (List.getElem_mem hi) m h0 h1) (fun m' h0' h1' => ih (i + 1) m' (by omega) h0' h1')
    rw [drop_at v.f4 i hi, nVs, allShaped]
    generalize shaped v.f4[i] (5 - deep) = S at J ⊢
    generalize nV v.f4[i] = n at J ⊢
    generalize allShaped (v.f4.drop (i + 1)) (5 - deep) = B at J ⊢
    generalize nVs (v.f4.drop (i + 1)) = q at J ⊢
    refine Ev.step (fun _ => spec_l2ok.l0.eq_2 ..) (ev_pos (by omega) ?_)
    by_cases h5 : v.f0 = 5
    · have hk5 := hk h5
      have hi3 : i < v.f3.length := by omega
      rw [decide_eq_true h5] at J ⊢
      refine ev_pos h5 (ev_pos (by omega) (ev_pos (by omega) ?_))
      rw [rdR v.f3 i hi3, keysFrom]
      generalize keysFrom v.f3 d (i + 1) = K at J ⊢
      have key : ∀ b : Bool, b = !keyAt v.f3 i → Ev (fun k => spec_l2ok.j6 k deep m (i : Int) b v.f0 v.f1 v.f2 v.f3 v.f4) (left_ ((!true || (keyAt v.f3 i && K)) && (S && B)) (n + q) m) := by
        intro b hb
        refine ev_eq (J b) ?_
        rw [hb]
        cases keyAt v.f3 i
        · exact (if_pos rfl).trans (left_f _ _).symm
        · refine (if_neg (by decide)).trans ?_
          cases S <;> cases K <;> rfl
      have hln := (w5 _ (List.getElem_mem hi3)).1
      refine Ev.bind (spec_NameOk_ev _ (by omega)) ?_
      refine ev_ite (fun hnm => ?_) (fun hnm => key true (by
        rw [Bool.not_eq_true] at hnm
        unfold keyAt; rw [getDN _ _ _ hi3, hnm]; rfl))
      rcases Nat.eq_zero_or_pos i with hz | hz
      · subst hz
        refine ev_neg (by omega) (key false ?_)
        rw [keyAt_0 _ hi3, hnm]; rfl
      · refine ev_pos (by omega) ?_
        rw [w64 (by omega) (by omega)]
        refine ev_pos (by omega) (ev_pos (by omega) ?_)
        obtain ⟨j, rfl⟩ : ∃ j, i = j + 1 := ⟨i - 1, by omega⟩
        have e : (((j + 1 : Nat) : Int) - 1) = (j : Int) := by omega
        rw [e, rdR v.f3 j (by omega)]
        refine key _ ?_
        rw [keyAt_s _ _ hi3, hnm, Bool.true_and, str_less (w5 _ (List.getElem_mem _)).2 (w5 _ (List.getElem_mem _)).2]
    · rw [decide_eq_false h5] at J ⊢
      refine ev_neg h5 (ev_eq (J false) ?_)
      rw [if_neg (by decide)]
      cases S <;> cases B <;> rfl
def bad (v : S79) : Bool := decide ((v.f0 ≠ 3 ∧ 0 < v.f2.length) ∨ (v.f0 ≠ 5 ∧ 0 < v.f3.length) ∨ (v.f0 ≠ 1 ∧ v.f0 ≠ 2 ∧ v.f1 ≠ 0) ∨ (v.f0 ≠ 4 ∧ v.f0 ≠ 5 ∧ 0 < v.f4.length))
theorem ev_flag {g : Nat → Bool → Option Int} {b b' : Bool} {r : Int} (h : Ev (fun k => g k b) r) (e : b' = b) : Ev (fun k => g k b') r := by subst e; exact h
theorem l2ok_j0 (v : S79) (deep m r : Int) (h : Ev (fun k => spec_l2ok.j1 k deep m (bad v) v.f0 v.f1 v.f2 v.f3 v.f4) r) : Ev (fun k => spec_l2ok.j0 k deep m false v.f0 v.f1 v.f2 v.f3 v.f4) r := by
  refine Ev.step (fun _ => spec_l2ok.j0.eq_2 ..) (ev_neg (by decide) ?_)
  have F : ∀ b, b = bad v → Ev (fun k => spec_l2ok.j1 k deep m b v.f0 v.f1 v.f2 v.f3 v.f4) r := fun b hb => ev_flag (g := fun k b => spec_l2ok.j1 k deep m b v.f0 v.f1 v.f2 v.f3 v.f4) h hb
  unfold bad at F
  repeat' (first
    | (exfalso; omega)
    | (refine F true (decide_eq_true ?_).symm; omega)
    | (refine F false (decide_eq_false ?_).symm; omega)
    | (refine F (decide _) (decide_eq_decide.2 ?_); omega)
    | (refine ev_ite (fun _ => ?_) (fun _ => ?_)))
theorem form_bad {v : S79} (h : bad v = true) : formOk v = false := by
  unfold bad at h
  have h := of_decide_eq_true h
  exact form_bad_ h
theorem left_none {v : S79} (h : v.f4.length = 0) (b : Bool) (n : Nat) {m : Int} (hm : 0 ≤ m) : left_ (b && allShaped v.f4 n) (nVs v.f4) m = if b = true then m else -1 := by
  rw [shaped_none h, Bool.and_true, List.eq_nil_of_length_eq_zero h, nVs]
  cases b
  · exact left_f _ _
  · rw [left_0 hm]; rfl
/-- More than fits is not there. -/
theorem left_more {v : S79} (b : Bool) (n : Nat) {m : Int} (hm : m ≤ 40) : left_ (b && allShaped v.f4 n) (nVs v.f4) m = left_ ((b && decide (v.f4.length ≤ 40)) && allShaped v.f4 n) (nVs v.f4) m := by
  by_cases h : v.f4.length ≤ 40
  · rw [decide_eq_true h, Bool.and_true]
  · rw [decide_eq_false h, Bool.and_false, Bool.false_and, left_f]
    have := nVs_len v.f4
    unfold left_
    rw [if_neg (fun q => by omega)]
theorem l2ok_j1 (v : S79) (hv : SmV v) (deep : Nat) (hd : deep ≤ 5) (m : Int) (hm : 0 ≤ m) (hm2 : m ≤ 40)
    (hx : ∀ x ∈ v.f4, ∀ m : Int, 0 ≤ m → m ≤ 40 → Ev (fun k => spec_l2ok.f k x.f0 x.f1 x.f2 x.f3 x.f4 ((deep + 1 : Nat) : Int) m) (left_ (shaped x (5 - deep)) (nV x) m)) :
    Ev (fun k => spec_l2ok.j1 k deep m (bad v) v.f0 v.f1 v.f2 v.f3 v.f4) (left_ (formOk v && allShaped v.f4 (5 - deep)) (nVs v.f4) m) := by
  have L := l2ok_l0 v hv deep hd
  obtain ⟨_, w0, w1, w2, w3, w4, w5, w6, w7⟩ := hv
  refine Ev.step (fun _ => spec_l2ok.j1.eq_2 ..) (ev_ite (fun hb => ?_) (fun hb => ?_))
  · refine ev_is ?_
    rw [form_bad hb, Bool.false_and, left_f]
  unfold bad at hb
  have hb : ¬ _ := fun q => hb (decide_eq_true q)
  have G : Ev (fun k => spec_l2ok.j2 k deep m v.f0 (decide (v.f0 = 0 ∨ v.f0 = 6)) v.f0 v.f1 v.f2 v.f3 v.f4) (left_ (formOk v && allShaped v.f4 (5 - deep)) (nVs v.f4) m) := by
    refine Ev.step (fun _ => spec_l2ok.j2.eq_2 ..) ?_
    by_cases c0 : v.f0 = 0 ∨ v.f0 = 6
    · refine ev_pos (decide_eq_true c0) (ev_is ?_)
      rw [left_none (by omega) _ _ hm]
      unfold formOk
      rw [if_pos c0, ← Bool.decide_and, ← Bool.decide_and, ← Bool.decide_and, decide_eq_true (by omega), if_pos rfl]
    refine ev_neg (by simpa using c0) ?_
    by_cases c1 : v.f0 = 1
    · rw [left_none (by omega) _ _ hm]
      unfold formOk
      rw [if_neg c0, if_pos c1, ← Bool.decide_and, ← Bool.decide_and, ← Bool.decide_and]
      refine ev_pos c1 (ev_ite (fun h => ev_is ?_) (fun h => ev_ite (fun h2 => ev_is ?_) (fun h2 => ev_is ?_)))
      · rw [decide_eq_false (by omega), if_neg (by decide)]
      · rw [decide_eq_false (by omega), if_neg (by decide)]
      · rw [decide_eq_true (by omega), if_pos rfl]
    refine ev_neg c1 ?_
    by_cases c2 : v.f0 = 2
    · rw [left_none (by omega) _ _ hm]
      unfold formOk
      rw [if_neg c0, if_neg c1, if_pos c2, ← Bool.decide_and, ← Bool.decide_and, ← Bool.decide_and]
      refine ev_pos c2 (Ev.bind (ev_const (l2int_eq v.f1)) (ev_ite (fun h => ev_is ?_) (fun h => ev_is ?_)))
      · have h := of_decide_eq_true h
        rw [decide_eq_true (by omega), if_pos rfl]
      · have h := of_decide_eq_false (Bool.not_eq_true _ ▸ h)
        rw [decide_eq_false (by omega), if_neg (by decide)]
    refine ev_neg c2 ?_
    by_cases c3 : v.f0 = 3
    · rw [left_none (by omega) _ _ hm]
      unfold formOk
      rw [if_neg c0, if_neg c1, if_neg c2, if_pos c3, ← Bool.decide_and, ← Bool.decide_and, decide_eq_true (p := v.f1 = 0 ∧ v.f3.length = 0 ∧ v.f4.length = 0) (by omega), Bool.and_true]
      refine ev_pos c3 (Ev.bind (spec_l2text_ev _ (by omega)) (ev_ite (fun h => ev_is ?_) (fun h => ev_is ?_)))
      · rw [if_pos h]
      · rw [if_neg h]
    refine ev_neg c3 ?_
    by_cases c4 : v.f0 = 4
    · have c5 : ¬ v.f0 = 5 := by omega
      refine ev_pos c4 (Ev.step (fun _ => spec_l2ok.j3.eq_2 ..) (ev_pos (by rw [c4]; rfl) (ev_neg c5 (Ev.step (fun _ => spec_l2ok.j4.eq_2 ..) (ev_neg (by decide) ?_)))))
      refine ev_eq (L (fun q => absurd q c5) hx v.f4.length 0 m (by omega) hm hm2) ?_
      rw [List.drop_zero, decide_eq_false c5, left_more _ _ hm2]
      unfold formOk
      rw [if_neg c0, if_neg c1, if_neg c2, if_neg c3, if_pos c4, decide_eq_true (p := v.f3.length = 0) (by omega), decide_eq_true (p := v.f1 = 0) (by omega), decide_eq_true (p := v.f2.length = 0) (by omega)]
      simp
    refine ev_neg c4 (Ev.step (fun _ => spec_l2ok.j3.eq_2 ..) ?_)
    by_cases c5 : v.f0 = 5
    · refine ev_pos (by rw [c5]; rfl) (ev_pos c5 (Ev.step (fun _ => spec_l2ok.j4.eq_2 ..) ?_))
      by_cases hl : v.f3.length = v.f4.length
      · refine ev_neg (by simp; omega) (ev_eq (L (fun _ => hl) hx v.f4.length 0 m (by omega) hm hm2) ?_)
        rw [List.drop_zero, decide_eq_true c5, left_more _ _ hm2]
        unfold formOk keysOk
        rw [if_neg c0, if_neg c1, if_neg c2, if_neg c3, if_neg c4, if_pos c5, hl, decide_eq_true (p := v.f1 = 0) (by omega), decide_eq_true (p := v.f2.length = 0) (by omega)]
        simp
      · refine ev_pos (by simp; omega) (ev_is ?_)
        unfold formOk
        rw [if_neg c0, if_neg c1, if_neg c2, if_neg c3, if_neg c4, if_pos c5, decide_eq_false hl, Bool.false_and, Bool.false_and, left_f]
    · refine ev_neg (by simpa using c5) (ev_is ?_)
      unfold formOk
      rw [if_neg c0, if_neg c1, if_neg c2, if_neg c3, if_neg c4, if_neg c5, Bool.false_and, left_f]
  have F : ∀ b, b = decide (v.f0 = 0 ∨ v.f0 = 6) → Ev (fun k => spec_l2ok.j2 k deep m v.f0 b v.f0 v.f1 v.f2 v.f3 v.f4) (left_ (formOk v && allShaped v.f4 (5 - deep)) (nVs v.f4) m) := fun b e => ev_flag (g := fun k b => spec_l2ok.j2 k deep m v.f0 b v.f0 v.f1 v.f2 v.f3 v.f4) G e
  refine ev_ite (fun h => F _ ?_) (fun h => F _ ?_)
  · rw [h]; rfl
  · by_cases h6 : v.f0 = 6
    · rw [h6]; rfl
    · rw [decide_eq_false (by omega), beq_eq_false_iff_ne]; exact h6
theorem l2ok_ev : ∀ v : S79, SmV v → ∀ (deep : Nat) (m : Int), 1 ≤ deep → deep ≤ 6 → 0 ≤ m → m ≤ 40 → Ev (fun k => spec_l2ok.f k v.f0 v.f1 v.f2 v.f3 v.f4 (deep : Int) m) (left_ (shaped v (6 - deep)) (nV v) m) := by
  refine vind fun v ih hv deep m hd hd2 hm hm2 => ?_
  have hc : ∀ x ∈ v.f4, SmV x := by obtain ⟨_, w0, w1, w2, w3, w4, w5, w6, w7⟩ := hv; exact w7
  refine Ev.step (fun _ => spec_l2ok.f.eq_2 ..) ?_
  rw [w64 (x := m - 1) (by omega) (by omega), nV_eq, left_s]
  refine ev_ite (fun h => ?_) (fun h => ?_)
  · refine Ev.step (fun _ => spec_l2ok.j0.eq_2 ..) (ev_pos rfl (ev_is ?_))
    unfold left_; rw [if_neg (fun q => by omega)]
  · by_cases h6 : deep = 6
    · subst h6
      rw [decide_eq_true (by decide), shaped_0, left_f]
      exact Ev.step (fun _ => spec_l2ok.j0.eq_2 ..) (ev_pos rfl (Ev.now _))
    · rw [decide_eq_false (by omega), show 6 - deep = (5 - deep) + 1 by omega, shaped_s]
      refine l2ok_j0 v _ _ _ (l2ok_j1 v hv deep (by omega) (m - 1) (by omega) (by omega) fun x hx m' h0 h1 => ?_)
      have := ih x hx (hc x hx) (deep + 1) m' (by omega) (by omega) h0 h1
      rwa [show 6 - (deep + 1) = 5 - deep by omega] at this
/-! spec_ValOk -/
theorem spec_ValOk_ev (v : S79) (hv : SmV v) : Ev (fun k => spec_ValOk.f k v.f0 v.f1 v.f2 v.f3 v.f4) (valOk v) := by
  unfold spec_ValOk.f valOk
  refine Ev.bind (l2ok_ev v hv 1 40 (by omega) (by omega) (by omega) (by omega)) (ev_is ?_)
  unfold left_
  by_cases h : shaped v 5 = true ∧ (nV v : Int) ≤ 40
  · rw [if_pos h, h.1, decide_eq_true (by omega), decide_eq_true (by omega)]; rfl
  · rw [if_neg h, decide_eq_false (by omega)]
    by_cases h2 : shaped v 5 = true
    · rw [h2, decide_eq_false (fun q => h ⟨h2, by omega⟩)]; rfl
    · rw [Bool.not_eq_true] at h2
      rw [h2]; rfl
/-! spec_l2num -/
theorem l2num_eq (a b : Int) : spec_l2num.f a b = some (numC a b) := by
  unfold spec_l2num.f numC
  by_cases h : a < b
  · rw [if_pos h, if_pos h]
  · rw [if_neg h, if_neg h]
    by_cases h2 : a > b
    · rw [if_pos h2, if_pos h2]
    · rw [if_neg h2, if_neg h2]
/-! spec_l2bytes -/
theorem l2bytes_eq (a b : List Int) (ha : By a) (hb : By b) : spec_l2bytes.f a b = some (cmpB a b) := by
  unfold spec_l2bytes.f
  rw [str_less ha hb, str_less hb ha, cmpB_swap a b]
  rcases cmpB_range a b with h | h | h <;> rw [h] <;> rfl
/-! spec_l3step -/
theorem l3step_eq (s t : S100) (hs : By s.f1) (ht : By t.f1) : spec_l3step.f s.f0 s.f1 s.f2 t.f0 t.f1 t.f2 = some (stepC s t) := by
  unfold spec_l3step.f stepC
  rw [l2num_eq, l2num_eq, l2bytes_eq _ _ hs ht]
  by_cases h : s.f0 = t.f0
  · rw [if_pos h, if_pos h]
    by_cases h1 : s.f0 = 1
    · rw [if_pos h1, if_pos h1]; rfl
    · rw [if_neg h1, if_neg h1]; rfl
  · rw [if_neg h, if_neg h]; rfl
/-! spec_l3cmp -/
theorem l3cmp_l0 (a b : List S100) (hl : a.length ≤ 1048576) (hl2 : b.length ≤ 1048576) (ha : ∀ s ∈ a, By s.f1) (hb : ∀ s ∈ b, By s.f1) : ∀ (d i : Nat), i + d = a.length → i ≤ b.length → Ev (fun k => spec_l3cmp.l0 k a b (i : Int)) (cmpP (a.drop i) (b.drop i)) := by
  intro d
  induction d with
  | zero =>
    intro i hd hi
    refine Ev.step (fun _ => spec_l3cmp.l0.eq_2 ..) (ev_neg (by omega) (Ev.step (fun _ => spec_l3cmp.j1.eq_2 ..) (ev_neg (by decide) (ev_ret (ev_const ?_)))))
    rw [l2num_eq, cmpP_len (Or.inl (List.drop_eq_nil_of_le (by omega))), List.length_drop, List.length_drop]
    congr 1
    unfold numC
    split <;> split <;> (first | rfl | omega | (split <;> split <;> (first | rfl | omega)))
  | succ d ih =>
    intro i hd hi
    have hia : i < a.length := by omega
    refine Ev.step (fun _ => spec_l3cmp.l0.eq_2 ..) (ev_pos (by omega) (Ev.step (fun _ => spec_l3cmp.j1.eq_2 ..) ?_))
    by_cases hib : i < b.length
    · refine ev_pos (decide_eq_true (by omega)) (ev_pos (by omega) (ev_pos (by omega) (ev_pos (by omega) ?_)))
      rw [rdS a i hia, rdS b i hib, drop_at a i hia, drop_at b i hib, cmpP_cons, w64s i (by omega)]
      refine Ev.bind (ev_const (l3step_eq _ _ (ha _ (List.getElem_mem hia)) (hb _ (List.getElem_mem hib)))) ?_
      refine ev_ite (fun h => ?_) (fun h => ?_)
      · rw [if_pos h]; exact ih (i + 1) (by omega) (by omega)
      · rw [if_neg h]; exact Ev.now _
    · refine ev_neg (by simp; omega) (ev_ret (ev_const ?_))
      rw [l2num_eq, cmpP_len (Or.inr (List.drop_eq_nil_of_le (by omega))), List.length_drop, List.length_drop]
      congr 1
      unfold numC
      split <;> split <;> (first | rfl | omega | (split <;> split <;> (first | rfl | omega)))
theorem l3cmp_ev (a b : List S100) (hl : a.length ≤ 1048576) (hl2 : b.length ≤ 1048576) (ha : ∀ s ∈ a, By s.f1) (hb : ∀ s ∈ b, By s.f1) : Ev (fun k => spec_l3cmp.f k a b) (cmpP a b) := by
  unfold spec_l3cmp.f
  exact l3cmp_l0 a b hl hl2 ha hb a.length 0 (by omega) (by omega)
/-! impl_in -/
theorem in_eq (n lo hi : Int) : impl_in.f n lo hi = some (decide (lo ≤ n ∧ n ≤ hi)) := by
  unfold impl_in.f
  by_cases h : n ≥ lo
  · rw [if_pos h]; simp [h]
  · rw [if_neg h]; simp; omega
/-! impl_isName -/
theorem impl_isName_l0 (b : List Int) (hl : b.length ≤ 4611686018427387903) : ∀ (d i : Nat), i + d = b.length → Ev (fun k => impl_isName.l0 k b b (b.length : Int) (i : Int)) (((b.drop i).all fun x => decide (97 ≤ x ∧ x ≤ 122)) && decide (1 ≤ b.length ∧ b.length ≤ 8)) := by
  intro d
  induction d with
  | zero =>
    intro i hd
    refine Ev.step (fun _ => impl_isName.l0.eq_2 ..) (ev_neg (by omega) (ev_ret (ev_const ?_)))
    rw [in_eq, List.drop_eq_nil_of_le (by omega)]
    congr 1
    rw [List.all_nil, Bool.true_and]
    exact decide_eq_decide.2 (by omega)
  | succ d ih =>
    intro i hd
    refine Ev.step (fun _ => impl_isName.l0.eq_2 ..) (ev_pos (by omega) (ev_pos (by omega) (ev_pos (by omega) ?_)))
    rw [M.drop_rd b i (by omega), List.all_cons, w64s i (by omega)]
    by_cases h1 : rd b (i : Int) < 97
    · refine ev_pos h1 (ev_is ?_)
      rw [decide_eq_false (by omega)]; rfl
    · refine ev_neg h1 ?_
      by_cases h2 : rd b (i : Int) > 122
      · refine ev_pos h2 (ev_is ?_)
        rw [decide_eq_false (by omega)]; rfl
      · refine ev_neg h2 (ev_eq (ih (i + 1) (by omega)) ?_)
        rw [decide_eq_true (show 97 ≤ rd b (i : Int) ∧ rd b (i : Int) ≤ 122 by omega), Bool.true_and]
theorem impl_isName_ev (b : List Int) (hl : b.length ≤ 4611686018427387903) : Ev (fun k => impl_isName.f k b) (isName b) := by
  unfold impl_isName.f isName
  refine ev_eq (impl_isName_l0 b hl b.length 0 (by omega)) ?_
  rw [List.drop_zero, Bool.and_comm]
/-! impl_isPath_1 -/
theorem impl_isPath_1_ev (s : S100) (hs : s.f1.length ≤ 1048576) : Ev (fun k => impl_isPath_1.f k s.f0 s.f1 s.f2) (!stepOk s) := by
  unfold impl_isPath_1.f stepOk
  by_cases h0 : s.f0 = 0
  · refine ev_pos h0 (Ev.bind (impl_isName_ev _ (by omega)) ?_)
    rw [if_pos h0]
    by_cases h1 : isName s.f1 = true
    · refine ev_pos h1 (ev_is ?_)
      rw [h1]
      by_cases h2 : s.f2 = 0 <;> simp [h2]
    · refine ev_neg h1 (ev_is ?_)
      simp [h1]
  · refine ev_neg h0 ?_
    rw [if_neg h0]
    by_cases h1 : s.f0 = 1
    · refine ev_pos h1 ?_
      by_cases h2 : s.f1.length = 0
      · refine ev_neg (by omega) (Ev.bind (ev_const (in_eq ..)) (ev_is ?_))
        rw [decide_eq_true h1, decide_eq_true h2]; rfl
      · refine ev_pos (by omega) (ev_is ?_)
        rw [decide_eq_false h2]; simp
    · refine ev_neg h1 (ev_is ?_)
      rw [decide_eq_false h1]; simp
/-! x_IndexFunc_at_impl_isPath_1 -/
theorem indexPath_l0 (l : List S100) (hl : l.length ≤ 1048576) (hk : ∀ s ∈ l, s.f1.length ≤ 1048576) : ∀ (d i : Nat), i + d = l.length → ∃ r, Ev (fun k => x_IndexFunc_at_impl_isPath_1.l0 k l (l.length : Int) (i : Int)) r ∧ decide (r ≥ 0) = !(l.drop i).all stepOk := by
  intro d
  induction d with
  | zero =>
    intro i hd
    refine ⟨-1, Ev.step (fun _ => x_IndexFunc_at_impl_isPath_1.l0.eq_2 ..) (ev_neg (by omega) (Ev.now _)), ?_⟩
    rw [List.drop_eq_nil_of_le (by omega)]; rfl
  | succ d ih =>
    intro i hd
    have hi : i < l.length := by omega
    have hs := hk _ (List.getElem_mem hi)
    obtain ⟨r, hr, hd2⟩ := ih (i + 1) (by omega)
    rw [drop_at l i hi, List.all_cons]
    by_cases h : stepOk l[i] = true
    · refine ⟨r, Ev.step (fun _ => x_IndexFunc_at_impl_isPath_1.l0.eq_2 ..) (ev_pos (by omega) (ev_pos (by omega) (ev_pos (by omega) ?_))), by rw [hd2, h]; rfl⟩
      rw [rdS l i hi, w64s i (by omega)]
      refine Ev.bind (impl_isPath_1_ev _ hs) (ev_neg (by rw [h]; decide) hr)
    · refine ⟨i, Ev.step (fun _ => x_IndexFunc_at_impl_isPath_1.l0.eq_2 ..) (ev_pos (by omega) (ev_pos (by omega) (ev_pos (by omega) ?_))), by simp [h]⟩
      rw [rdS l i hi]
      refine Ev.bind (impl_isPath_1_ev _ hs) (ev_pos (by simp [h]) (Ev.now _))
/-! x_ContainsFunc_at_impl_isPath_1 -/
theorem containsPath_ev (l : List S100) (hl : l.length ≤ 1048576) (hk : ∀ s ∈ l, s.f1.length ≤ 1048576) : Ev (fun k => x_ContainsFunc_at_impl_isPath_1.f k l) (!l.all stepOk) := by
  unfold x_ContainsFunc_at_impl_isPath_1.f x_IndexFunc_at_impl_isPath_1.f
  obtain ⟨r, hr, hd⟩ := indexPath_l0 l hl hk l.length 0 (by omega)
  exact Ev.bind hr (ev_is (by rw [hd, List.drop_zero]))
/-! impl_isPath -/
theorem impl_isPath_ev (l : List S100) (hl : l.length ≤ 1048576) (hk : ∀ s ∈ l, s.f1.length ≤ 1048576) : Ev (fun k => impl_isPath.f k l) (pathOk l) := by
  unfold impl_isPath.f pathOk
  by_cases h : l.length ≤ 6
  · refine ev_pos (by omega) (Ev.bind (containsPath_ev l hl hk) (ev_is ?_))
    rw [decide_eq_true h]; simp
  · refine ev_neg (by omega) (ev_is ?_)
    rw [decide_eq_false h]; rfl
/-! bytes_Compare -/
theorem bytes_Compare_eq (a b : List Int) (ha : By a) (hb : By b) : bytes_Compare.f a b = some (cmpB a b) := by
  unfold bytes_Compare.f
  rw [bytes_cmp ha hb]
/-! impl_isText -/
theorem impl_isText_l0 (b : List Int) (hl : b.length ≤ 4611686018427387903) : ∀ (d i : Nat), i + d = b.length → Ev (fun k => impl_isText.l0 k b b (b.length : Int) (i : Int)) (((b.drop i).all fun x => decide (32 ≤ x ∧ x ≤ 126)) && decide (b.length ≤ 20)) := by
  intro d
  induction d with
  | zero =>
    intro i hd
    refine Ev.step (fun _ => impl_isText.l0.eq_2 ..) (ev_neg (by omega) (ev_is ?_))
    rw [List.drop_eq_nil_of_le (by omega), List.all_nil, Bool.true_and]
    exact decide_eq_decide.2 (by omega)
  | succ d ih =>
    intro i hd
    refine Ev.step (fun _ => impl_isText.l0.eq_2 ..) (ev_pos (by omega) (ev_pos (by omega) (ev_pos (by omega) ?_)))
    rw [M.drop_rd b i (by omega), List.all_cons, w64s i (by omega)]
    by_cases h1 : rd b (i : Int) < 32
    · refine ev_pos h1 (ev_is ?_)
      rw [decide_eq_false (by omega)]; rfl
    · refine ev_neg h1 ?_
      by_cases h2 : rd b (i : Int) > 126
      · refine ev_pos h2 (ev_is ?_)
        rw [decide_eq_false (by omega)]; rfl
      · refine ev_neg h2 (ev_eq (ih (i + 1) (by omega)) ?_)
        rw [decide_eq_true (show 32 ≤ rd b (i : Int) ∧ rd b (i : Int) ≤ 126 by omega), Bool.true_and]
theorem impl_isText_ev (b : List Int) (hl : b.length ≤ 4611686018427387903) : Ev (fun k => impl_isText.f k b) (isText b) := by
  unfold impl_isText.f isText
  refine ev_eq (impl_isText_l0 b hl b.length 0 (by omega)) ?_
  rw [List.drop_zero, Bool.and_comm]
/-! impl_isShaped -/
theorem indexShaped_l0 (l : List S79) (hl : l.length ≤ 1048576) (n : Nat) (hn : n ≤ 10) (hx : ∀ x ∈ l, Ev (fun k => impl_isShaped.f k x.f0 x.f1 x.f2 x.f3 x.f4 (n : Int)) (shaped x n)) :
    ∀ (d i : Nat), i + d = l.length → ∃ r : Int, Ev (fun k => x_IndexFunc_at_impl_isShaped_1.l0 k l ((n + 1 : Nat) : Int) (l.length : Int) (i : Int)) r ∧ decide (r ≥ 0) = !allShaped (l.drop i) n := by
  intro d
  induction d with
  | zero =>
    intro i hd
    refine ⟨-1, Ev.step (fun _ => x_IndexFunc_at_impl_isShaped_1.l0.eq_2 ..) (ev_neg (by omega) (Ev.now _)), ?_⟩
    rw [List.drop_eq_nil_of_le (by omega), allShaped]; rfl
  | succ d ih =>
    intro i hd
    have hi : i < l.length := by omega
    obtain ⟨r, hr, hd2⟩ := ih (i + 1) (by omega)
    have hs : Ev (fun k => impl_isShaped_1.f k l[i].f0 l[i].f1 l[i].f2 l[i].f3 l[i].f4 ((n + 1 : Nat) : Int)) (!shaped l[i] n) := by
      refine Ev.step (fun _ => impl_isShaped_1.f.eq_2 ..) ?_
      rw [w64 (by omega) (by omega), show ((n + 1 : Nat) : Int) - 1 = (n : Int) by omega]
      exact Ev.bind (hx _ (List.getElem_mem hi)) (Ev.now _)
    rw [drop_at l i hi, allShaped]
    by_cases h : shaped l[i] n = true
    · refine ⟨r, Ev.step (fun _ => x_IndexFunc_at_impl_isShaped_1.l0.eq_2 ..) (ev_pos (by omega) (ev_pos (by omega) (ev_pos (by omega) ?_))), by rw [hd2, h]; rfl⟩
      rw [rdV l i hi, w64s i (by omega)]
      exact Ev.bind hs (ev_neg (by rw [h]; decide) hr)
    · refine ⟨i, Ev.step (fun _ => x_IndexFunc_at_impl_isShaped_1.l0.eq_2 ..) (ev_pos (by omega) (ev_pos (by omega) (ev_pos (by omega) ?_))), by simp [h]⟩
      rw [rdV l i hi]
      exact Ev.bind hs (ev_pos (by simp [h]) (Ev.now _))
theorem containsShaped_ev (l : List S79) (hl : l.length ≤ 1048576) (n : Nat) (hn : n ≤ 10) (hx : ∀ x ∈ l, Ev (fun k => impl_isShaped.f k x.f0 x.f1 x.f2 x.f3 x.f4 (n : Int)) (shaped x n)) :
    Ev (fun k => x_ContainsFunc_at_impl_isShaped_1.f k l ((n + 1 : Nat) : Int)) (!allShaped l n) := by
  obtain ⟨r, hr, hd⟩ := indexShaped_l0 l hl n hn hx l.length 0 (by omega)
  refine Ev.step (fun _ => x_ContainsFunc_at_impl_isShaped_1.f.eq_2 ..) (Ev.bind (a := r) (Ev.step (fun _ => x_IndexFunc_at_impl_isShaped_1.f.eq_2 ..) hr) (ev_is ?_))
  rw [hd, List.drop_zero]
theorem isShaped_l0 (v : S79) (hv : SmV v) (n : Nat) (hn : n ≤ 10) (hx : ∀ x ∈ v.f4, Ev (fun k => impl_isShaped.f k x.f0 x.f1 x.f2 x.f3 x.f4 (n : Int)) (shaped x n)) (p q : Bool) :
    ∀ (d i : Nat), i + d = v.f3.length → Ev (fun k => impl_isShaped.l0 k p q v.f3 (v.f3.length : Int) (i : Int) v.f0 v.f1 v.f2 v.f3 v.f4 ((n + 1 : Nat) : Int)) (keysFrom v.f3 d i && (p && (q && (decide (v.f4.length ≤ 40) && allShaped v.f4 n)))) := by
  obtain ⟨_, w0, w1, w2, w3, w4, w5, w6, w7⟩ := hv
  intro d
  induction d with
  | zero =>
    intro i hd
    refine Ev.step (fun _ => impl_isShaped.l0.eq_2 ..) (ev_neg (by omega) ?_)
    rw [keysFrom, Bool.true_and]
    refine ev_and fun _ => ev_and fun _ => ?_
    rw [show decide (v.f4.length ≤ 40) = decide ((v.f4.length : Int) ≤ 40) from decide_eq_decide.2 (by omega)]
    refine ev_andP fun _ => Ev.bind (containsShaped_ev v.f4 w6 n hn hx) (ev_is ?_)
    rw [Bool.not_not]
  | succ d ih =>
    intro i hd
    have hi3 : i < v.f3.length := by omega
    refine Ev.step (fun _ => impl_isShaped.l0.eq_2 ..) (ev_pos (by omega) (ev_pos (by omega) (ev_pos (by omega) ?_)))
    rw [rdR v.f3 i hi3, w64s i (by omega), keysFrom]
    have hln := (w5 _ (List.getElem_mem hi3)).1
    refine Ev.bind (impl_isName_ev _ (by omega)) (ev_ite (fun hnm => ?_) (fun hnm => ev_is ?_))
    · rcases Nat.eq_zero_or_pos i with hz | hz
      · subst hz
        refine ev_neg (by omega) ?_
        rw [keyAt_0 _ hi3, hnm, Bool.true_and]
        exact ih 1 (by omega)
      · refine ev_pos (by omega) ?_
        rw [w64 (by omega) (by omega)]
        refine ev_pos (by omega) (ev_pos (by omega) ?_)
        obtain ⟨j, rfl⟩ : ∃ j, i = j + 1 := ⟨i - 1, by omega⟩
        have e : (((j + 1 : Nat) : Int) - 1) = (j : Int) := by omega
        rw [e, rdR v.f3 j (by omega), keyAt_s _ _ hi3, hnm, Bool.true_and]
        have hr := cmpB_range v.f3[j] v.f3[j + 1]
        refine Ev.bind (ev_const (bytes_Compare_eq _ _ (w5 _ (List.getElem_mem _)).2 (w5 _ (List.getElem_mem _)).2)) (ev_ite (fun h => ev_is ?_) (fun h => ?_))
        · rw [decide_eq_false (by omega)]; rfl
        · rw [decide_eq_true (by omega), Bool.true_and]
          exact ih (j + 1 + 1) (by omega)
    · rw [Bool.not_eq_true] at hnm
      unfold keyAt; rw [getDN _ _ _ hi3, hnm]; rfl
theorem isShaped_j0 (v : S79) (hv : SmV v) (n : Nat) (hn : n ≤ 10) (hx : ∀ x ∈ v.f4, Ev (fun k => impl_isShaped.f k x.f0 x.f1 x.f2 x.f3 x.f4 (n : Int)) (shaped x n)) (b : Bool) (hb : b = decide (v.f0 = 0 ∨ v.f0 = 6)) :
    Ev (fun k => impl_isShaped.j0 k (v.f1 == 0) ((v.f2.length : Int) == 0) ((v.f3.length : Int) == 0) ((v.f4.length : Int) == 0) v.f0 b v.f0 v.f1 v.f2 v.f3 v.f4 ((n + 1 : Nat) : Int)) (formOk v && allShaped v.f4 n) := by
  have L := isShaped_l0 v hv n hn hx
  obtain ⟨_, w0, w1, w2, w3, w4, w5, w6, w7⟩ := hv
  have N4 : ∀ c : Bool, (c && decide (v.f4.length = 0)) = ((c && decide (v.f4.length = 0)) && allShaped v.f4 n) := by
    intro c
    by_cases h : v.f4.length = 0
    · rw [shaped_none h, Bool.and_true]
    · rw [decide_eq_false h, Bool.and_false, Bool.false_and]
  subst hb
  rw [beqI, beq0, beq0, beq0]
  refine Ev.step (fun _ => impl_isShaped.j0.eq_2 ..) ?_
  unfold formOk
  by_cases c0 : v.f0 = 0 ∨ v.f0 = 6
  · refine ev_pos (decide_eq_true c0) ?_
    rw [if_pos c0, ← Bool.and_assoc (decide (v.f1 = 0)), ← Bool.and_assoc _ (decide (v.f3.length = 0)), ← N4, Bool.and_assoc, Bool.and_assoc]
    exact ev_and fun _ => ev_and fun _ => ev_and fun _ => Ev.now _
  refine ev_neg (by simpa using c0) ?_
  rw [if_neg c0]
  by_cases c1 : v.f0 = 1
  · refine ev_pos c1 ?_
    rw [if_pos c1, ← Bool.and_assoc (decide _) (decide (v.f2.length = 0)), ← Bool.and_assoc _ (decide (v.f3.length = 0)), ← N4, Bool.and_assoc, Bool.and_assoc]
    exact Ev.bind (ev_const (in_eq _ _ _)) (ev_and fun _ => ev_and fun _ => ev_and fun _ => Ev.now _)
  refine ev_neg c1 ?_
  rw [if_neg c1]
  by_cases c2 : v.f0 = 2
  · refine ev_pos c2 ?_
    rw [if_pos c2, ← Bool.and_assoc (decide _) (decide (v.f2.length = 0)), ← Bool.and_assoc _ (decide (v.f3.length = 0)), ← N4, Bool.and_assoc, Bool.and_assoc]
    exact Ev.bind (ev_const (in_eq _ _ _)) (ev_and fun _ => ev_and fun _ => ev_and fun _ => Ev.now _)
  refine ev_neg c2 ?_
  rw [if_neg c2]
  by_cases c3 : v.f0 = 3
  · refine ev_pos c3 ?_
    rw [if_pos c3, ← Bool.and_assoc (isText _) (decide (v.f1 = 0)), ← Bool.and_assoc _ (decide (v.f3.length = 0)), ← N4, Bool.and_assoc, Bool.and_assoc]
    exact Ev.bind (impl_isText_ev _ (by omega)) (ev_and fun _ => ev_and fun _ => ev_and fun _ => Ev.now _)
  refine ev_neg c3 ?_
  rw [if_neg c3]
  have e40 : decide (v.f4.length ≤ 40) = decide ((v.f4.length : Int) ≤ 40) := decide_eq_decide.2 (by omega)
  by_cases c4 : v.f0 = 4
  · refine ev_pos c4 ?_
    rw [if_pos c4, e40]
    simp only [Bool.and_assoc]
    refine ev_and fun _ => ev_and fun _ => ev_and fun _ => ev_andP fun _ => Ev.bind (containsShaped_ev v.f4 w6 n hn hx) (ev_is ?_)
    rw [Bool.not_not]
  refine ev_neg c4 ?_
  rw [if_neg c4]
  by_cases c5 : v.f0 = 5
  · refine ev_pos c5 ?_
    rw [if_pos c5, show decide (v.f3.length = v.f4.length) = decide ((v.f3.length : Int) = (v.f4.length : Int)) from decide_eq_decide.2 (by omega)]
    simp only [Bool.and_assoc]
    refine ev_andP fun _ => ?_
    exact L _ _ v.f3.length 0 (by omega)
  · refine ev_neg c5 (ev_is ?_)
    rw [if_neg c5, Bool.false_and]
theorem isShaped_ev : ∀ v : S79, SmV v → ∀ n : Nat, n ≤ 10 → Ev (fun k => impl_isShaped.f k v.f0 v.f1 v.f2 v.f3 v.f4 (n : Int)) (shaped v n) := by
  refine vind fun v ih hv n hn => ?_
  have hc : ∀ x ∈ v.f4, SmV x := by obtain ⟨_, w0, w1, w2, w3, w4, w5, w6, w7⟩ := hv; exact w7
  refine Ev.step (fun _ => impl_isShaped.f.eq_2 ..) ?_
  cases n with
  | zero => exact ev_pos rfl (ev_is (shaped_0 v).symm)
  | succ n =>
    rw [shaped_s]
    have J := isShaped_j0 v hv n (by omega) (fun x hx => ih x hx (hc x hx) n (by omega))
    refine ev_neg (by omega) (ev_ite (fun h => J _ ?_) (fun h => J _ ?_))
    · rw [h]; rfl
    · by_cases h6 : v.f0 = 6
      · rw [h6]; rfl
      · rw [decide_eq_false (by omega), beq_eq_false_iff_ne]; exact h6
/-! impl_Value_parts -/
theorem parts_l0 (l : List S79) (hl : l.length ≤ 1048576) (hx : ∀ v ∈ l, Ev (fun k => impl_Value_parts.f k v.f0 v.f1 v.f2 v.f3 v.f4) (nV v : Int)) : ∀ (d i : Nat) (a : Nat), i + d = l.length → a + nVs (l.drop i) ≤ 4611686018427387903 →
    Ev (fun k => impl_Value_parts.l0 k (a : Int) l (l.length : Int) (i : Int)) ((a + nVs (l.drop i) : Nat) : Int) := by
  intro d
  induction d with
  | zero =>
    intro i a hd ha
    refine Ev.step (fun _ => impl_Value_parts.l0.eq_2 ..) (ev_neg (by omega) (ev_is ?_))
    rw [List.drop_eq_nil_of_le (by omega), nVs, Nat.add_zero]
  | succ d ih =>
    intro i a hd ha
    have hi : i < l.length := by omega
    rw [drop_at l i hi, nVs] at ha ⊢
    refine Ev.step (fun _ => impl_Value_parts.l0.eq_2 ..) (ev_pos (by omega) (ev_pos (by omega) (ev_pos (by omega) ?_)))
    rw [rdV l i hi]
    refine Ev.bind (hx _ (List.getElem_mem hi)) ?_
    rw [w64s i (by omega), w64 (by omega) (by omega), ← Int.natCast_add, ← Nat.add_assoc]
    exact ih (i + 1) (a + nV l[i]) (by omega) (by omega)
theorem parts_ev : ∀ v : S79, SmV v → nV v ≤ 4611686018427387903 → Ev (fun k => impl_Value_parts.f k v.f0 v.f1 v.f2 v.f3 v.f4) (nV v : Int) := by
  refine vind fun v ih hw hn => ?_
  obtain ⟨_, w0, w1, w2, w3, w4, w5, w6, w7⟩ := hw
  rw [nV_eq] at hn ⊢
  refine Ev.step (fun _ => impl_Value_parts.f.eq_2 ..) (ev_eq (parts_l0 v.f4 w6 (fun x hx => ih x hx (w7 x hx) (by have := nVs_mem hx; omega)) v.f4.length 0 1 (by omega) (by rw [List.drop_zero]; omega)) ?_)
  rw [List.drop_zero]
/-! impl_isValue -/
theorem isValue_ev (v : S79) (hv : SmV v) (hn : nV v ≤ 4611686018427387903) : Ev (fun k => impl_isValue.f k v.f0 v.f1 v.f2 v.f3 v.f4) (valOk v) := by
  unfold impl_isValue.f valOk
  refine Ev.bind (isShaped_ev v hv 5 (by omega)) (ev_and fun _ => Ev.bind (parts_ev v hv hn) (ev_is ?_))
  exact decide_eq_decide.2 (by omega)
/-! cmp_Or_int -/
theorem cmp_Or_ev (a b c : Int) : Ev (fun k => cmp_Or_int.f k [a, b, c]) (if a = 0 then (if b = 0 then c else b) else a) := by
  unfold cmp_Or_int.f
  refine Ev.step (fun _ => cmp_Or_int.l0.eq_2 ..) (ev_pos (by simp) (ev_pos (by simp) (ev_pos (by simp) ?_)))
  by_cases ha : a = 0
  · refine ev_pos ha ?_
    rw [if_pos ha, show wrap64 ((0 : Int) + 1) = 1 from w64 (by omega) (by omega)]
    refine Ev.step (fun _ => cmp_Or_int.l0.eq_2 ..) (ev_pos (by simp) (ev_pos (by simp) (ev_pos (by simp) ?_)))
    by_cases hb : b = 0
    · refine ev_pos hb ?_
      rw [if_pos hb, show wrap64 ((1 : Int) + 1) = 2 from w64 (by omega) (by omega)]
      refine Ev.step (fun _ => cmp_Or_int.l0.eq_2 ..) (ev_pos (by simp) (ev_pos (by simp) (ev_pos (by simp) ?_)))
      by_cases hc : c = 0
      · refine ev_pos hc ?_
        rw [show wrap64 ((2 : Int) + 1) = 3 from w64 (by omega) (by omega)]
        exact Ev.step (fun _ => cmp_Or_int.l0.eq_2 ..) (ev_neg (by simp) (ev_is hc.symm))
      · exact ev_neg hc (Ev.now _)
    · refine ev_neg hb (ev_is ?_)
      rw [if_neg hb]; rfl
  · refine ev_neg ha (ev_is ?_)
    rw [if_neg ha]; rfl
/-! cmp_Compare_int -/
theorem cmp_int_eq (a b : Int) : cmp_Compare_int.f a b = some (numC a b) := by
  unfold cmp_Compare_int.f cmp_isNaN_int.f numC
  simp only [Option.bind_some, bne_self_eq_false]
  rw [if_neg (by decide), if_neg (by decide)]
  by_cases h : a < b
  · rw [if_pos h, if_pos h]
  · rw [if_neg h, if_neg h]
    by_cases h2 : a > b
    · rw [if_pos h2, if_pos h2]
    · rw [if_neg h2, if_neg h2]
/-! impl_compareSteps -/
theorem compareSteps_ev (s t : S100) (hs : By s.f1) (ht : By t.f1) (os : stepOk s = true) (ot : stepOk t = true) : Ev (fun k => impl_compareSteps.f k s.f0 s.f1 s.f2 t.f0 t.f1 t.f2) (stepC s t) := by
  unfold impl_compareSteps.f
  refine Ev.bind (ev_const (cmp_int_eq _ _)) (Ev.bind (ev_const (bytes_Compare_eq _ _ hs ht)) (Ev.bind (ev_const (cmp_int_eq _ _)) (ev_ret (ev_eq (cmp_Or_ev _ _ _) ?_))))
  have hn : ∀ x : Int, numC x x = 0 := fun x => by unfold numC; rw [if_neg (by omega), if_neg (by omega)]
  unfold stepC
  by_cases h : s.f0 = t.f0
  · rw [if_pos h, h, hn, if_pos rfl]
    rw [stepOk] at os ot
    by_cases h1 : t.f0 = 1
    · rw [if_pos h1]
      rw [if_neg (by omega)] at os ot
      simp only [Bool.and_eq_true, decide_eq_true_eq] at os ot
      rw [List.eq_nil_of_length_eq_zero os.1.2, List.eq_nil_of_length_eq_zero ot.1.2]
      rfl
    · rw [if_neg h1]
      have h0 : t.f0 = 0 := by
        by_cases h0 : t.f0 = 0
        · exact h0
        · rw [if_neg h0] at ot
          simp only [Bool.and_eq_true, decide_eq_true_eq] at ot
          exact absurd ot.1.1 h1
      rw [if_pos (by omega)] at os ot
      simp only [Bool.and_eq_true, decide_eq_true_eq] at os ot
      rw [os.2, ot.2, hn]
      split
      · rename_i e; exact e.symm
      · rfl
  · rw [if_neg h, if_neg]
    unfold numC
    split
    · decide
    · split
      · decide
      · omega
/-! x_CompareFunc_at_impl_compareSteps -/
theorem compareFunc_l0 (a b : List S100) (hl : a.length ≤ 1048576) (hl2 : b.length ≤ 1048576) (ha : ∀ s ∈ a, By s.f1) (hb : ∀ s ∈ b, By s.f1) (oa : ∀ s ∈ a, stepOk s = true) (ob : ∀ s ∈ b, stepOk s = true) : ∀ (d i : Nat), i + d = a.length → i ≤ b.length →
    Ev (fun k => x_CompareFunc_at_impl_compareSteps.l0 k a b a (a.length : Int) (i : Int)) (cmpP (a.drop i) (b.drop i)) := by
  intro d
  induction d with
  | zero =>
    intro i hd hi
    refine Ev.step (fun _ => x_CompareFunc_at_impl_compareSteps.l0.eq_2 ..) (ev_neg (by omega) ?_)
    rw [cmpP_len (Or.inl (List.drop_eq_nil_of_le (by omega))), List.length_drop, List.length_drop]
    unfold numC
    by_cases h : (a.length : Int) < b.length
    · refine ev_pos h (ev_is ?_)
      rw [if_pos (by omega)]
    · refine ev_neg h (ev_is ?_)
      rw [if_neg (by omega), if_neg (by omega)]
  | succ d ih =>
    intro i hd hi
    have hia : i < a.length := by omega
    refine Ev.step (fun _ => x_CompareFunc_at_impl_compareSteps.l0.eq_2 ..) (ev_pos (by omega) (ev_pos (by omega) (ev_pos (by omega) ?_)))
    by_cases hib : i < b.length
    · refine ev_neg (by omega) (ev_pos (by omega) ?_)
      rw [rdS a i hia, rdS b i hib, drop_at a i hia, drop_at b i hib, cmpP_cons, w64s i (by omega)]
      refine Ev.bind (compareSteps_ev _ _ (ha _ (List.getElem_mem hia)) (hb _ (List.getElem_mem hib)) (oa _ (List.getElem_mem hia)) (ob _ (List.getElem_mem hib))) ?_
      refine ev_ite (fun h => ?_) (fun h => ?_)
      · rw [if_pos h]; exact ih (i + 1) (by omega) (by omega)
      · rw [if_neg h]; exact Ev.now _
    · refine ev_pos (by omega) (ev_is ?_)
      rw [cmpP_len (Or.inr (List.drop_eq_nil_of_le (by omega))), List.length_drop, List.length_drop]
      unfold numC
      rw [if_neg (by omega), if_pos (by omega)]
/-! impl_comparePaths -/
theorem comparePaths_ev (a b : List S100) (hl : a.length ≤ 1048576) (hl2 : b.length ≤ 1048576) (ha : ∀ s ∈ a, By s.f1) (hb : ∀ s ∈ b, By s.f1) (oa : pathOk a = true) (ob : pathOk b = true) : Ev (fun k => impl_comparePaths.f k a b) (cmpP a b) := by
  unfold impl_comparePaths.f x_CompareFunc_at_impl_compareSteps.f
  unfold pathOk at oa ob
  simp only [Bool.and_eq_true, List.all_eq_true] at oa ob
  exact ev_ret (compareFunc_l0 a b hl hl2 ha hb oa.2 ob.2 a.length 0 (by omega) (by omega))
theorem rdLC (xs : List S74) (i : Nat) (h : i < xs.length) : rd_T74 xs (i : Int) = xs[i] := getDI xs _ i h
theorem rdC (xs : List S81) (i : Nat) (h : i < xs.length) : rd_T81 xs (i : Int) = xs[i] := getDI xs _ i h
def WfChange (x : S74) : Prop := WfSteps x.f0 ∧ WfV x.f2 ∧ WfV x.f4
def WfChanges (l : List S74) : Prop := l.length ≤ 9223372036854775807 ∧ ∀ x ∈ l, WfChange x
def toC (x : S74) : S81 := ⟨x.f0.map stepTo, x.f1, toV x.f2, x.f3, toV x.f4⟩
def szC (x : S74) : Nat := (x.f0.length + szKeys x.f0) + szV x.f2 + szV x.f4
def szCs : List S74 → Nat
  | [] => 0
  | x :: l => szC x + szCs l
theorem szCs_mem {l : List S74} {x : S74} (h : x ∈ l) : szC x ≤ szCs l := by
  induction l with
  | nil => cases h
  | cons a l ih =>
    rcases List.mem_cons.1 h with rfl | h
    · rw [szCs]; omega
    · have := ih h; rw [szCs]; omega
/-- A change of a size that is held. -/
structure SmC (x : S81) : Prop where
  a : x.f0.length ≤ 1048576
  b : ∀ s ∈ x.f0, s.f1.length ≤ 1048576
  c : ∀ s ∈ x.f0, By s.f1
  d : SmV x.f2
  e : SmV x.f4
  f : nV x.f2 ≤ 4611686018427387903
  g : nV x.f4 ≤ 4611686018427387903
structure SmL (x : S74) : Prop where
  a : x.f0.length ≤ 1048576
  b : ∀ s ∈ x.f0, s.f1.length ≤ 1048576
  d : SmV (toV x.f2)
  e : SmV (toV x.f4)
theorem smL_of {x : S74} (hw : WfChange x) (h : szC x ≤ 1048576) : SmL x := by
  unfold szC at h
  exact ⟨by omega, fun s m => by have := szKeys_mem m; omega, smV_of _ hw.2.1 (by omega), smV_of _ hw.2.2 (by omega)⟩
theorem smC_of {x : S74} (hw : WfChange x) (h : szC x ≤ 1048576) : SmC (toC x) := by
  have k := smL_of hw h
  unfold szC at h
  refine ⟨by show (x.f0.map stepTo).length ≤ _; rw [List.length_map]; exact k.a, fun s m => ?_, fun s m => ?_, k.d, k.e, ?_, ?_⟩
  · obtain ⟨t, ht, rfl⟩ := List.mem_map.1 m
    exact k.b t ht
  · obtain ⟨t, ht, rfl⟩ := List.mem_map.1 m
    exact (hw.1.2 t ht).2.2.1
  · have := nV_toV x.f2
    show nV (toV x.f2) ≤ _
    omega
  · have := nV_toV x.f4
    show nV (toV x.f4) ≤ _
    omega
/-! What a change comes to. -/
def zS (v : S79) : Bool := decide (v.f0 = 0) && (decide (v.f1 = 0) && decide (v.f4.length = 0))
def zI (v : S79) : Bool := decide (v.f0 = 0) && (decide (v.f1 = 0) && (decide (v.f2.length = 0) && (decide (v.f3.length = 0) && decide (v.f4.length = 0))))
theorem zero_eq {v : S79} (h : valOk v = true) : zS v = zI v := by
  have hf : formOk v = true := by
    unfold valOk at h
    rw [shaped_s] at h
    simp only [Bool.and_eq_true] at h
    exact h.1.1
  unfold zS zI
  by_cases h0 : v.f0 = 0
  · unfold formOk at hf
    rw [if_pos (.inl h0)] at hf
    simp only [Bool.and_eq_true, decide_eq_true_eq] at hf
    obtain ⟨h1, h2, h3, h4⟩ := hf
    simp [h0, h1, h2, h3, h4]
  · simp [h0]
theorem bad1_eq {p o1 o2 had z1 z1' has z2 z2' : Bool} (h1 : o1 = true → z1 = z1') (h2 : o2 = true → z2 = z2') : bad1 p o1 o2 had z1 has z2 = bad1 p o1 o2 had z1' has z2' := by
  unfold bad1
  cases o1 <;> cases o2 <;> simp_all
theorem numC0 (a : Int) : (numC a 0 == 0) = decide (a = 0) := by
  unfold numC
  by_cases h : a < 0
  · rw [if_pos h, decide_eq_false (by omega)]; rfl
  · rw [if_neg h]
    by_cases h2 : a > 0
    · rw [if_pos h2, decide_eq_false (by omega)]; rfl
    · rw [if_neg h2, decide_eq_true (by omega)]; rfl
theorem l3zero_ev (v : S79) : Ev (fun k => spec_l3zero.f k v.f0 v.f1 v.f2 v.f3 v.f4) (zS v) := by
  have e : ∀ k, spec_l3zero.f k v.f0 v.f1 v.f2 v.f3 v.f4 = some (zS v) := by
   intro k
   unfold spec_l3zero.f spec_l2cmp.z zS
   by_cases h : v.f0 = 0
   · rw [if_pos h]
     by_cases h2 : v.f1 = 0
     · rw [if_pos h2, l2num_eq]
       simp only [Option.bind_some, numC0, h, h2, decide_true, Bool.true_and]
       congr 1
       exact decide_eq_decide.2 (by omega)
     · rw [if_neg h2, l2num_eq]
       simp only [Option.bind_some, numC0, h, h2, decide_true, decide_false, Bool.true_and, Bool.false_and]
   · rw [if_neg h, l2num_eq]
     simp only [Option.bind_some, numC0, h, decide_false, Bool.false_and]
  exact ⟨0, fun k _ => e k⟩
def chk (x : S81) : Bool := !bad1 (pathOk x.f0) (valOk x.f2) (valOk x.f4) x.f1 (zI x.f2) x.f3 (zI x.f4) && !bad2 x.f0 x.f1 x.f3
def within (a b : S81) : Bool := decide (a.f0.length ≤ b.f0.length) && decide (cmpP a.f0 (b.f0.take a.f0.length) = 0)
def sep (a b : S81) : Bool := !decide (0 ≤ cmpP a.f0 b.f0) && !within a b
def chFrom (l : List S81) : Nat → Nat → Bool
  | 0, _ => true
  | d + 1, i => chk (rd_T81 l (i : Int)) && ((decide (i = 0) || sep (rd_T81 l ((i - 1 : Nat) : Int)) (rd_T81 l (i : Int))) && chFrom l d (i + 1))
def changesOk (l : List S81) : Bool := decide (l.length ≤ 80) && chFrom l l.length 0
theorem chk_path {x : S81} (h : chk x = true) : pathOk x.f0 = true := by
  unfold chk bad1 at h
  cases hp : pathOk x.f0
  · rw [hp] at h; simp at h
  · rfl
theorem pathOk_take {l : List S100} (h : pathOk l = true) (n : Nat) : pathOk (l.take n) = true := by
  unfold pathOk at *
  simp only [Bool.and_eq_true, decide_eq_true_eq, List.all_eq_true] at *
  exact ⟨by rw [List.length_take]; omega, fun s m => h.2 s (List.mem_of_mem_take m)⟩
theorem not_chk1 {x : S81} (h : bad1 (pathOk x.f0) (valOk x.f2) (valOk x.f4) x.f1 (zI x.f2) x.f3 (zI x.f4) = true) : chk x = false := by unfold chk; rw [h]; rfl
theorem not_chk2 {x : S81} (h : bad2 x.f0 x.f1 x.f3 = true) : chk x = false := by unfold chk; rw [h]; simp
theorem is_chk {x : S81} (h : ¬ bad1 (pathOk x.f0) (valOk x.f2) (valOk x.f4) x.f1 (zI x.f2) x.f3 (zI x.f4) = true) (h2 : ¬ bad2 x.f0 x.f1 x.f3 = true) : chk x = true := by
  unfold chk
  rw [Bool.not_eq_true] at h h2
  rw [h, h2]; rfl
theorem sep_no {a b : S81} (h : 0 ≤ cmpP a.f0 b.f0 ∨ within a b = true) : sep a b = false := by
  unfold sep
  rcases h with h | h
  · rw [decide_eq_true h]; rfl
  · rw [h]; simp
theorem sep_yes {a b : S81} (h : ¬ (0 ≤ cmpP a.f0 b.f0 ∨ within a b = true)) : sep a b = true := by
  unfold sep
  have h2 : within a b = false := Bool.eq_false_iff.mpr (fun e => h (.inr e))
  rw [decide_eq_false (fun e => h (.inl e)), h2]; rfl
theorem l3within_ev (a b : S81) (ha : SmC a) (hb : SmC b) : Ev (fun k => spec_l3within.f k a.f0 b.f0) (within a b) := by
  unfold spec_l3within.f within
  by_cases h : a.f0.length ≤ b.f0.length
  · refine ev_pos (by omega) (ev_pos (by omega) ?_)
    rw [decide_eq_true h, Bool.true_and, Int.toNat_natCast]
    refine Ev.bind (l3cmp_ev a.f0 (b.f0.take a.f0.length) ha.a (by have := hb.a; rw [List.length_take]; omega) ha.c (fun s m => hb.c s (List.mem_of_mem_take m))) ?_
    exact ev_is (by rw [beqI])
  · refine ev_neg (by omega) (ev_is ?_)
    rw [decide_eq_false h, Bool.false_and]
theorem isZero_ev (v : S79) : Ev (fun _ => impl_isZero.f v.f0 v.f1 v.f2 v.f3 v.f4) (zI v) := by
  unfold impl_isZero.f zI
  refine ev_andP fun h0 => ev_andP fun h1 => ?_
  by_cases h2 : v.f2.length = 0
  · refine ev_pos (by omega) ?_
    rw [decide_eq_true h2, Bool.true_and]
    by_cases h3 : v.f3.length = 0
    · refine ev_pos (by omega) ?_
      rw [decide_eq_true h3, Bool.true_and]
      exact ev_is (by rw [beq0])
    · refine ev_neg (by omega) (ev_is ?_)
      rw [decide_eq_false h3, Bool.false_and]
  · refine ev_neg (by omega) (ev_is ?_)
    rw [decide_eq_false h2, Bool.false_and]
theorem spec_r_ev (l : List S81) (hl : l.length ≤ 1048576) (hx : ∀ x ∈ l, SmC x) : ∀ (d i : Nat), i + d = l.length → Ev (fun k => spec_ChangesOk.r k l i) (chFrom l d i) := by
  intro d
  induction d with
  | zero =>
    intro i hd
    exact Ev.step (fun _ => spec_ChangesOk.r.eq_2 ..) (ev_neg (by omega) (Ev.now _))
  | succ d ih =>
    intro i hd
    have hi : i < l.length := by omega
    refine Ev.step (fun _ => spec_ChangesOk.r.eq_2 ..) (ev_pos hi ?_)
    have hs := hx _ (List.getElem_mem hi)
    rw [← rdC l i hi] at hs
    rw [chFrom]
    generalize rd_T81 l (i : Int) = x at hs ⊢
    refine Ev.bind (spec_PathOk_ev x.f0 hs.a hs.b) ?_
    refine Ev.bind (spec_ValOk_ev x.f2 hs.d) ?_
    refine Ev.bind (spec_ValOk_ev x.f4 hs.e) ?_
    refine Ev.bind (l3zero_ev x.f2) ?_
    refine Ev.bind (l3zero_ev x.f4) ?_
    try dsimp only
    rw [bad1_eq (p := pathOk x.f0) (had := x.f1) (has := x.f3) (z1' := zI x.f2) (z2' := zI x.f4) (fun h => zero_eq h) (fun h => zero_eq h)]
    refine ev_ite (fun h => ev_is (by rw [not_chk1 h]; rfl)) fun h => ?_
    refine ev_ite (fun h2 => ev_is (by rw [not_chk2 h2]; rfl)) fun h2 => ?_
    rw [is_chk h h2, Bool.true_and]
    refine ev_ite (fun h0 => ?_) fun h0 => ?_
    · rw [decide_eq_true h0, Bool.true_or, Bool.true_and]
      exact ih (i + 1) (by omega)
    · rw [decide_eq_false h0, Bool.false_or]
      have hp := hx _ (List.getElem_mem (n := i - 1) (l := l) (by omega))
      rw [← rdC l (i - 1) (by omega)] at hp
      generalize rd_T81 l ((i - 1 : Nat) : Int) = y at hp ⊢
      refine Ev.bind (l3cmp_ev y.f0 x.f0 hp.a hs.a hp.c hs.c) ?_
      refine Ev.bind (l3within_ev y x hp hs) ?_
      try dsimp only
      refine ev_ite (fun h3 => ev_is ?_) fun h3 => ev_eq (ih (i + 1) (by omega)) ?_
      · rw [sep_no h3]; rfl
      · rw [sep_yes h3]; rfl
theorem spec_ChangesOk_ev (l : List S81) (hl : l.length ≤ 1048576) (hx : ∀ x ∈ l, SmC x) : Ev (fun k => spec_ChangesOk.f k l) (changesOk l) := by
  unfold spec_ChangesOk.f changesOk
  refine ev_ite (fun h => ev_is ?_) fun h => ev_eq (spec_r_ev l hl hx l.length 0 (by omega)) ?_
  · rw [decide_eq_false (by omega)]; rfl
  · rw [decide_eq_true (by omega)]; rfl
theorem impl_r_ev (l : List S81) (hl : l.length ≤ 1048576) (hx : ∀ x ∈ l, SmC x) : ∀ (d i : Nat), i + d = l.length → (0 < i → pathOk (rd_T81 l ((i - 1 : Nat) : Int)).f0 = true) → Ev (fun k => impl_areChanges.r k l i) (decide (l.length ≤ 80) && chFrom l d i) := by
  intro d
  induction d with
  | zero =>
    intro i hd _
    refine Ev.step (fun _ => impl_areChanges.r.eq_2 ..) (ev_neg (by omega) (ev_is ?_))
    rw [chFrom, Bool.and_true]
  | succ d ih =>
    intro i hd ho
    have hi : i < l.length := by omega
    refine Ev.step (fun _ => impl_areChanges.r.eq_2 ..) (ev_pos hi ?_)
    have hs := hx _ (List.getElem_mem hi)
    rw [← rdC l i hi] at hs
    have ih' := ih (i + 1) (by omega)
    rw [Nat.add_sub_cancel] at ih'
    rw [chFrom]
    generalize rd_T81 l (i : Int) = x at hs ih' ⊢
    refine Ev.bind (impl_isPath_ev x.f0 hs.a hs.b) ?_
    refine Ev.bind (isValue_ev x.f2 hs.d hs.f) ?_
    refine Ev.bind (isValue_ev x.f4 hs.e hs.g) ?_
    refine Ev.bind (isZero_ev x.f2) ?_
    refine Ev.bind (isZero_ev x.f4) ?_
    try dsimp only
    refine ev_ite (fun h => ev_is (by rw [not_chk1 h, Bool.false_and, Bool.and_false])) fun h => ?_
    refine ev_ite (fun h2 => ev_is (by rw [not_chk2 h2, Bool.false_and, Bool.and_false])) fun h2 => ?_
    have hc := is_chk h h2
    have ih2 := ih' fun _ => chk_path hc
    rw [hc, Bool.true_and]
    refine ev_ite (fun h0 => ?_) fun h0 => ?_
    · rw [decide_eq_true h0, Bool.true_or, Bool.true_and]
      exact ih2
    · rw [decide_eq_false h0, Bool.false_or]
      have hp := hx _ (List.getElem_mem (n := i - 1) (l := l) (by omega))
      rw [← rdC l (i - 1) (by omega)] at hp
      have ho := ho (by omega)
      generalize rd_T81 l ((i - 1 : Nat) : Int) = y at hp ho ⊢
      refine Ev.bind (comparePaths_ev y.f0 x.f0 hp.a hs.a hp.c hs.c ho (chk_path hc)) ?_
      refine Ev.bind (comparePaths_ev y.f0 (x.f0.take y.f0.length) hp.a (by have := hs.a; rw [List.length_take]; omega) hp.c (fun s m => hs.c s (List.mem_of_mem_take m)) ho (pathOk_take (chk_path hc) _)) ?_
      try dsimp only
      refine ev_ite (fun h3 => ev_is ?_) fun h3 => ev_ite (fun h4 => ev_is ?_) fun h4 => ev_eq ih2 ?_
      · rw [sep_no (.inl h3), Bool.false_and, Bool.and_false]
      · rw [sep_no (.inr (by unfold within; rw [decide_eq_true h4.1, decide_eq_true h4.2]; rfl)), Bool.false_and, Bool.and_false]
      · rw [sep_yes (fun e => e.elim h3 fun e => h4 (by unfold within at e; simpa using e)), Bool.true_and]
theorem areChanges_ev (l : List S81) (hl : l.length ≤ 1048576) (hx : ∀ x ∈ l, SmC x) : Ev (fun k => impl_areChanges.f k l) (changesOk l) := by
  unfold impl_areChanges.f changesOk
  exact impl_r_ev l hl hx l.length 0 (by omega) (fun h => absurd h (by omega))
theorem toChange_ev (x : S74) (h : SmL x) : Ev (fun k => laws_toChange.g k x) (toC x) := by
  unfold laws_toChange.g
  refine Ev.bind (toStepS_ev x.f0 h.a h.b) ?_
  refine Ev.bind (toValue_ev x.f2 h.d) ?_
  refine Ev.bind (toValue_ev x.f4 h.e) ?_
  refine ev_is ?_
  unfold toC
  generalize toV x.f2 = a
  generalize toV x.f4 = b
  cases a
  cases b
  rfl
theorem toChangeS_r (l : List S74) (hx : ∀ x ∈ l, SmL x) : ∀ (d i : Nat) (out : List S81), i + d = l.length → out.length = l.length → out.take i = (l.map toC).take i → Ev (fun k => laws_toChangeS.r k l out i) (l.map toC) := by
  intro d
  induction d with
  | zero =>
    intro i out hd ho ht
    refine Ev.step (fun _ => laws_toChangeS.r.eq_2 ..) (ev_neg (by omega) (ev_is ?_))
    rwa [List.take_of_length_le (by omega), List.take_of_length_le (by rw [List.length_map]; omega)] at ht
  | succ d ih =>
    intro i out hd ho ht
    have hi : i < l.length := by omega
    refine Ev.step (fun _ => laws_toChangeS.r.eq_2 ..) (ev_pos hi ?_)
    rw [rdLC l i hi]
    refine Ev.bind (toChange_ev _ (hx _ (List.getElem_mem hi))) ?_
    refine ih (i + 1) _ (by omega) (by rw [List.length_set]; exact ho) ?_
    rw [List.take_succ_eq_append_getElem (by rw [List.length_set]; omega), List.take_succ_eq_append_getElem (by rw [List.length_map]; omega), List.take_set_of_le (by omega), ht, List.getElem_set_self, List.getElem_map]
theorem toChangeS_ev (l : List S74) (hl : l.length ≤ 1048576) (hx : ∀ x ∈ l, SmL x) : Ev (fun k => laws_toChangeS.f k l) (l.map toC) := by
  unfold laws_toChangeS.f
  exact ev_pos hl (toChangeS_r l hx l.length 0 _ (by omega) (by simp) (by simp))
theorem eqChange_ev (x : S81) (h : SmC x) : Ev (fun k => laws_eqChange.g k x x) true := by
  unfold laws_eqChange.g
  refine Ev.bind (eqStepS_ev x.f0 h.a h.b) ?_
  refine Ev.bind (eqValue_ev x.f2 h.d) ?_
  refine Ev.bind (eqValue_ev x.f4 h.e) ?_
  exact ev_pos ⟨rfl, rfl, rfl, rfl, rfl⟩ (Ev.now _)
theorem eqChangeS_r (l : List S81) (hx : ∀ x ∈ l, SmC x) : ∀ (d i : Nat), i + d = l.length → Ev (fun k => laws_eqChangeS.r k l l i) true := by
  intro d
  induction d with
  | zero =>
    intro i hd
    exact Ev.step (fun _ => laws_eqChangeS.r.eq_2 ..) (ev_neg (by omega) (Ev.now _))
  | succ d ih =>
    intro i hd
    have hi : i < l.length := by omega
    refine Ev.step (fun _ => laws_eqChangeS.r.eq_2 ..) (ev_pos hi ?_)
    rw [rdC l i hi]
    refine Ev.bind (eqChange_ev _ (hx _ (List.getElem_mem hi))) (ev_pos rfl ?_)
    exact ih (i + 1) (by omega)
theorem eqChangeS_ev (l : List S81) (hx : ∀ x ∈ l, SmC x) : Ev (fun k => laws_eqChangeS.f k l l) true := by
  unfold laws_eqChangeS.f
  exact ev_pos rfl (eqChangeS_r l hx l.length 0 (by omega))
theorem szChange_ev (x : S74) (hw : WfChange x) (a : Int) (h0 : 0 ≤ a) (h1 : a ≤ 1048576) : Ev (fun k => laws_szChange.f k x.f0 x.f1 x.f2.f0 x.f2.f1 x.f2.f2 x.f2.f3 x.f2.f4 x.f3 x.f4.f0 x.f4.f1 x.f4.f2 x.f4.f3 x.f4.f4 a) (sub a (szC x)) := by
  unfold laws_szChange.f szC
  refine Ev.bind (szStepS_ev x.f0 a hw.1 h0 h1) ?_
  have hr := sub_range (x.f0.length + szKeys x.f0) h0
  by_cases h : sub a (x.f0.length + szKeys x.f0) < 0
  · refine ev_pos h (ev_is ?_)
    rw [Nat.add_assoc]
    exact ((sub_neg h h0).2 _).symm
  · refine ev_neg h ?_
    rw [Nat.add_assoc, ← sub_sub h]
    generalize sub a (x.f0.length + szKeys x.f0) = b at h hr ⊢
    refine Ev.bind (szValue_ev x.f2 hw.2.1 b (by omega) (by omega)) ?_
    have hr2 := sub_range (a := b) (szV x.f2) (by omega)
    by_cases h2 : sub b (szV x.f2) < 0
    · refine ev_pos h2 (ev_is ?_)
      exact ((sub_neg h2 (by omega)).2 _).symm
    · refine ev_neg h2 ?_
      rw [← sub_sub h2]
      generalize sub b (szV x.f2) = c at h2 hr2 ⊢
      refine Ev.bind (szValue_ev x.f4 hw.2.2 c (by omega) (by omega)) ?_
      by_cases h3 : sub c (szV x.f4) < 0
      · refine ev_pos h3 (ev_is ?_)
        exact (sub_neg h3 (by omega)).1.symm
      · exact ev_neg h3 (Ev.now _)
theorem szChangeS_l0 (l : List S74) (hw : WfChanges l) : ∀ (d i : Nat) (a : Int), i + d = l.length → 0 ≤ a → a ≤ 1048576 → Ev (fun k => laws_szChangeS.l0 k l a (i : Int)) (sub a (szCs (l.drop i))) := by
  intro d
  induction d with
  | zero =>
    intro i a hd h0 h1
    refine Ev.step (fun _ => laws_szChangeS.l0.eq_2 ..) (ev_neg (by omega) (ev_is ?_))
    rw [List.drop_eq_nil_of_le (by omega)]
    exact (sub_zero h0).symm
  | succ d ih =>
    intro i a hd h0 h1
    have hi : i < l.length := by omega
    refine Ev.step (fun _ => laws_szChangeS.l0.eq_2 ..) (ev_pos (by omega) (ev_pos (by omega) ?_))
    rw [rdLC l i hi, drop_at l i hi, szCs]
    refine Ev.bind (szChange_ev l[i] (hw.2 _ (List.getElem_mem hi)) a h0 h1) ?_
    rw [w64s i (by have := hw.1; omega)]
    have hr := sub_range (szC l[i]) h0
    by_cases h : sub a (szC l[i]) < 0
    · refine ev_pos h (ev_is ?_)
      exact ((sub_neg h h0).2 _).symm
    · refine ev_neg h (ev_eq (ih (i + 1) _ (by omega) (by omega) (by omega)) ?_)
      exact sub_sub h
theorem szChangeS_ev (l : List S74) (hw : WfChanges l) (a : Int) (h0 : 0 ≤ a) (h1 : a ≤ 1048576) : Ev (fun k => laws_szChangeS.f k l a) (sub a (l.length + szCs l)) := by
  unfold laws_szChangeS.f
  have hl := hw.1
  rw [w64 (x := a - (l.length : Int)) (by omega) (by omega)]
  by_cases h : a - (l.length : Int) < 0
  · refine ev_pos h (ev_is ?_)
    unfold sub; rw [if_neg (by omega)]
  · refine ev_neg h (ev_eq (szChangeS_l0 l hw l.length 0 _ (by omega) (by omega) (by omega)) ?_)
    have e : sub a l.length = a - l.length := by unfold sub; rw [if_pos (by omega)]
    rw [← e, List.drop_zero]
    exact sub_sub (by omega)
theorem FnExactChangesOk (l0 : List S74) (hw : WfChanges l0) : ∃ k, laws_FnExactChangesOk.f k l0 = some true := by
  refine Ev.rounds (g := fun k => laws_FnExactChangesOk.f k l0) ?_
  unfold laws_FnExactChangesOk.f
  refine Ev.bind (szChangeS_ev l0 hw 1048576 (by omega) (by omega)) ?_
  refine ev_ite (fun _ => Ev.now _) fun h => ?_
  have hs := (sub_pos h).1
  have hz : ∀ x ∈ l0, szC x ≤ 1048576 := fun x m => by have := szCs_mem m; omega
  have hx : ∀ x ∈ l0.map toC, SmC x := fun x m => by
    obtain ⟨y, hy, rfl⟩ := List.mem_map.1 m
    exact smC_of (hw.2 y hy) (hz y hy)
  have hl : (l0.map toC).length ≤ 1048576 := by rw [List.length_map]; omega
  refine Ev.bind (toChangeS_ev l0 (by omega) fun x m => smL_of (hw.2 x m) (hz x m)) ?_
  refine Ev.bind (spec_ChangesOk_ev _ hl hx) ?_
  refine Ev.bind (ev_ret (areChanges_ev _ hl hx)) ?_
  refine ev_pos rfl ?_
  refine Ev.bind (eqChangeS_ev _ hx) ?_
  exact ev_pos rfl (Ev.now _)
end Go.Proofs.Ytockllljeeakaaa.Pure
