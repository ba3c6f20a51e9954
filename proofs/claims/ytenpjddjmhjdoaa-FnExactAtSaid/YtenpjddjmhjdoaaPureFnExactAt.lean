/- The pure statement of FnExactAt: both answer what lies at a path, and answer the same; and the answer lies apart. No condition. -/
import Derived.Test.YtenpjddjmhjdoaaPFnExactAtx20
import Derived.Test.YtenpjddjmhjdoaaMcore
import Derived.Test.YtenpjddjmhjdoaaMnum
import Derived.Test.YtenpjddjmhjdoaaMopen
import Derived.Test.YtenpjddjmhjdoaaMcmp
import Derived.Test.YtenpjddjmhjdoaaMstepm
namespace Go.Proofs.Ytenpjddjmhjdoaa.Pure
open Go.RowKit Go.Proofs.Ytenpjddjmhjdoaa.PFnExactAt Go.Proofs.YtenpjddjmhjdoaaW.PrintWords Go.Proofs.YtenpjddjmhjdoaaW.PrintLast Go.Proofs.YtenpjddjmhjdoaaW.PrintMore Go.Proofs.Ytenpjddjmhjdoaa.M
set_option linter.unusedVariables false
set_option linter.unusedSimpArgs false
/-! values -/
theorem rdLV (xs : List S26) (i : Nat) (h : i < xs.length) : rd_T26 xs (i : Int) = xs[i] := getDI xs _ i h
theorem rdV (xs : List S30) (i : Nat) (h : i < xs.length) : rd_T30 xs (i : Int) = xs[i] := getDI xs _ i h
theorem rdR (xs : List (List Int)) (i : Nat) (h : i < xs.length) : rd_L1 xs (i : Int) = xs[i] := getDI xs _ i h
theorem lvind {P : S26 → Prop} (h : ∀ v : S26, (∀ x ∈ v.f4, P x) → P v) (v : S26) : P v :=
  h v fun x hx => lvind h x
termination_by SizeOf.sizeOf v
decreasing_by
  obtain ⟨a, b, c, d, l⟩ := v
  have := List.sizeOf_lt_of_mem hx
  simp only [S26.mk.sizeOf_spec]
  dsimp only at this
  omega
theorem vind {P : S30 → Prop} (h : ∀ v : S30, (∀ x ∈ v.f4, P x) → P v) (v : S30) : P v :=
  h v fun x hx => vind h x
termination_by SizeOf.sizeOf v
decreasing_by
  obtain ⟨a, b, c, d, l⟩ := v
  have := List.sizeOf_lt_of_mem hx
  simp only [S30.mk.sizeOf_spec]
  dsimp only at this
  omega
mutual
def toV : S26 → S30
  | ⟨a, b, c, d, l⟩ => ⟨a, b, c, d, toVs l⟩
def toVs : List S26 → List S30
  | [] => []
  | x :: l => toV x :: toVs l
end
theorem toVs_map : ∀ l, toVs l = l.map toV
  | [] => rfl
  | x :: l => by rw [toVs, List.map_cons, toVs_map l]
theorem toV_f0 : ∀ v, (toV v).f0 = v.f0 := fun ⟨_, _, _, _, _⟩ => by rw [toV]
theorem toV_f1 : ∀ v, (toV v).f1 = v.f1 := fun ⟨_, _, _, _, _⟩ => by rw [toV]
theorem toV_f2 : ∀ v, (toV v).f2 = v.f2 := fun ⟨_, _, _, _, _⟩ => by rw [toV]
theorem toV_f3 : ∀ v, (toV v).f3 = v.f3 := fun ⟨_, _, _, _, _⟩ => by rw [toV]
theorem toV_f4 : ∀ v, (toV v).f4 = v.f4.map toV := fun ⟨_, _, _, _, l⟩ => by rw [toV]; exact toVs_map l
def szL : List (List Int) → Nat
  | [] => 0
  | x :: l => x.length + szL l
theorem szL_mem {l : List (List Int)} {x : List Int} (h : x ∈ l) : x.length ≤ szL l := by
  induction l with
  | nil => cases h
  | cons a l ih =>
    rcases List.mem_cons.1 h with rfl | h
    · simp only [szL]; omega
    · have := ih h; simp only [szL]; omega
mutual
def szV : S26 → Nat
  | ⟨_, _, c, d, l⟩ => c.length + (d.length + szL d + (l.length + szVs l))
def szVs : List S26 → Nat
  | [] => 0
  | x :: l => szV x + szVs l
end
theorem szV_eq : ∀ v, szV v = v.f2.length + (v.f3.length + szL v.f3 + (v.f4.length + szVs v.f4)) := fun ⟨_, _, _, _, _⟩ => by rw [szV]
theorem szVs_mem {l : List S26} {x : S26} (h : x ∈ l) : szV x ≤ szVs l := by
  induction l with
  | nil => cases h
  | cons a l ih =>
    rcases List.mem_cons.1 h with rfl | h
    · rw [szVs]; omega
    · have := ih h; rw [szVs]; omega
/-- Values as they come in. -/
inductive WfV : S26 → Prop
  | mk (v : S26) (h0 : (Lit.int .i64 v.f0).wf = true) (h1 : (Lit.int .i64 v.f1).wf = true) (h2 : v.f2.length ≤ 9223372036854775807) (h3 : By v.f2) (h4 : v.f3.length ≤ 9223372036854775807)
      (h5 : ∀ y ∈ v.f3, y.length ≤ 9223372036854775807 ∧ By y) (h6 : v.f4.length ≤ 9223372036854775807) (h7 : ∀ x ∈ v.f4, WfV x) : WfV v
/-- Values of a size that is held. -/
inductive SmV : S30 → Prop
  | mk (v : S30) (h0 : (Lit.int .i64 v.f0).wf = true) (h1 : (Lit.int .i64 v.f1).wf = true) (h2 : v.f2.length ≤ 1048576) (h3 : By v.f2) (h4 : v.f3.length ≤ 1048576)
      (h5 : ∀ y ∈ v.f3, y.length ≤ 1048576 ∧ By y) (h6 : v.f4.length ≤ 1048576) (h7 : ∀ x ∈ v.f4, SmV x) : SmV v
theorem smV_child {v : S30} (h : SmV v) : ∀ x ∈ v.f4, SmV x := by obtain ⟨_, w0, w1, w2, w3, w4, w5, w6, w7⟩ := h; exact w7
theorem smV_of : ∀ v, WfV v → szV v ≤ 1048576 → SmV (toV v) := by
  refine lvind fun v ih hw hs => ?_
  obtain ⟨_, h0, h1, h2, h3, h4, h5, h6, h7⟩ := hw
  rw [szV_eq] at hs
  refine .mk _ ?_ ?_ ?_ ?_ ?_ ?_ ?_ ?_
  · rw [toV_f0]; exact h0
  · rw [toV_f1]; exact h1
  · rw [toV_f2]; omega
  · rw [toV_f2]; exact h3
  · rw [toV_f3]; omega
  · rw [toV_f3]; exact fun y hy => ⟨by have := szL_mem hy; omega, (h5 y hy).2⟩
  · rw [toV_f4, List.length_map]; omega
  · rw [toV_f4]
    intro x hx
    obtain ⟨y, hy, rfl⟩ := List.mem_map.1 hx
    exact ih y hy (h7 y hy) (by have := szVs_mem hy; omega)
mutual
def nV : S30 → Nat
  | ⟨_, _, _, _, l⟩ => 1 + nVs l
def nVs : List S30 → Nat
  | [] => 0
  | x :: l => nV x + nVs l
end
theorem nV_eq : ∀ v, nV v = 1 + nVs v.f4 := fun ⟨_, _, _, _, _⟩ => by rw [nV]
theorem nVs_mem {l : List S30} {x : S30} (h : x ∈ l) : nV x ≤ nVs l := by
  induction l with
  | nil => cases h
  | cons a l ih =>
    rcases List.mem_cons.1 h with rfl | h
    · rw [nVs]; omega
    · have := ih h; rw [nVs]; omega
theorem nVs_len : ∀ l : List S30, l.length ≤ nVs l
  | [] => Nat.zero_le _
  | x :: l => by
    have := nVs_len l
    have h := nV_eq x
    rw [nVs, List.length_cons]; omega
theorem nVs_toV (l : List S26) (ih : ∀ x ∈ l, nV (toV x) ≤ 1 + szV x) : nVs (l.map toV) ≤ l.length + szVs l := by
  induction l with
  | nil => rw [List.map_nil, nVs]; omega
  | cons a l ih2 =>
    have h1 := ih a List.mem_cons_self
    have h2 := ih2 fun x hx => ih x (List.mem_cons_of_mem _ hx)
    rw [List.map_cons, nVs, szVs, List.length_cons]; omega
theorem nV_toV : ∀ v, nV (toV v) ≤ 1 + szV v := by
  refine lvind fun v ih => ?_
  rw [nV_eq, toV_f4, szV_eq]
  have := nVs_toV v.f4 ih
  omega
def isText (b : List Int) : Bool := decide (b.length ≤ 20) && b.all (fun x => decide (32 ≤ x ∧ x ≤ 126))
def keyAt (k : List (List Int)) (i : Nat) : Bool := isName (k.getD i []) && (decide (i = 0) || decide (cmpB (k.getD (i - 1) []) (k.getD i []) = -1))
def keysFrom (k : List (List Int)) : Nat → Nat → Bool
  | 0, _ => true
  | d + 1, i => keyAt k i && keysFrom k d (i + 1)
def keysOk (k : List (List Int)) : Bool := keysFrom k k.length 0
theorem getDN {α : Type} (xs : List α) (d : α) (i : Nat) (h : i < xs.length) : xs.getD i d = xs[i] := by simp [List.getD_eq_getElem?_getD, h]
theorem keyAt_0 (k : List (List Int)) (h : 0 < k.length) : keyAt k 0 = isName k[0] := by
  unfold keyAt; rw [getDN k [] 0 h]; simp
theorem keyAt_s (k : List (List Int)) (i : Nat) (h : i + 1 < k.length) : keyAt k (i + 1) = (isName k[i + 1] && decide (cmpB k[i] k[i + 1] = -1)) := by
  unfold keyAt; rw [getDN k [] (i + 1) h, Nat.add_sub_cancel, getDN k [] i (by omega)]; simp
def formOk (v : S30) : Bool :=
  if v.f0 = 0 ∨ v.f0 = 6 then decide (v.f1 = 0) && (decide (v.f2.length = 0) && (decide (v.f3.length = 0) && decide (v.f4.length = 0)))
  else if v.f0 = 1 then decide (0 ≤ v.f1 ∧ v.f1 ≤ 1) && (decide (v.f2.length = 0) && (decide (v.f3.length = 0) && decide (v.f4.length = 0)))
  else if v.f0 = 2 then decide (-1000000000000 ≤ v.f1 ∧ v.f1 ≤ 1000000000000) && (decide (v.f2.length = 0) && (decide (v.f3.length = 0) && decide (v.f4.length = 0)))
  else if v.f0 = 3 then isText v.f2 && (decide (v.f1 = 0) && (decide (v.f3.length = 0) && decide (v.f4.length = 0)))
  else if v.f0 = 4 then decide (v.f3.length = 0) && (decide (v.f1 = 0) && (decide (v.f2.length = 0) && decide (v.f4.length ≤ 40)))
  else if v.f0 = 5 then decide (v.f3.length = v.f4.length) && (keysOk v.f3 && (decide (v.f1 = 0) && (decide (v.f2.length = 0) && decide (v.f4.length ≤ 40))))
  else false
mutual
/-- Of its form, no deeper than so many more. -/
def shaped : S30 → Nat → Bool
  | ⟨_, _, _, _, _⟩, 0 => false
  | ⟨a, b, c, d, l⟩, n + 1 => formOk ⟨a, b, c, d, l⟩ && allShaped l n
def allShaped : List S30 → Nat → Bool
  | [], _ => true
  | x :: l, n => shaped x n && allShaped l n
end
theorem shaped_0 : ∀ v, shaped v 0 = false := fun ⟨_, _, _, _, _⟩ => by rw [shaped]
theorem shaped_s (n : Nat) : ∀ v, shaped v (n + 1) = (formOk v && allShaped v.f4 n) := fun ⟨_, _, _, _, _⟩ => by rw [shaped]
theorem shaped_none {v : S30} (h : v.f4.length = 0) (n : Nat) : allShaped v.f4 n = true := by rw [List.eq_nil_of_length_eq_zero h, allShaped]
def valOk (v : S30) : Bool := shaped v 5 && decide (nV v ≤ 40)
theorem ev_and {g : Nat → Option Bool} {b r : Bool} (h : b = true → Ev g r) : Ev (fun n => if b = true then g n else some false) (b && r) := by
  cases b
  · exact ev_neg (by decide) (Ev.now _)
  · exact ev_pos rfl (h rfl)
theorem ev_andP {g : Nat → Option Bool} {c : Prop} [Decidable c] {r : Bool} (h : c → Ev g r) : Ev (fun n => if c then g n else some false) (decide c && r) := by
  by_cases hc : c
  · rw [decide_eq_true hc, Bool.true_and]; exact ev_pos hc (h hc)
  · rw [decide_eq_false hc, Bool.false_and]; exact ev_neg hc (Ev.now _)
theorem beq0 (n : Nat) : ((n : Int) == 0) = decide (n = 0) := by
  by_cases h : n = 0
  · subst h; rfl
  · rw [decide_eq_false h, beq_eq_false_iff_ne]; omega
theorem beqI (n : Int) : (n == 0) = decide (n = 0) := by
  by_cases h : n = 0
  · subst h; rfl
  · rw [decide_eq_false h, beq_eq_false_iff_ne]; exact h
def bad_ (v : S30) : Prop := (v.f0 ≠ 3 ∧ 0 < v.f2.length) ∨ (v.f0 ≠ 5 ∧ 0 < v.f3.length) ∨ (v.f0 ≠ 1 ∧ v.f0 ≠ 2 ∧ v.f1 ≠ 0) ∨ (v.f0 ≠ 4 ∧ v.f0 ≠ 5 ∧ 0 < v.f4.length)
theorem form_bad_ {v : S30} (h : bad_ v) : formOk v = false := by
  unfold bad_ at h
  unfold formOk
  by_cases c0 : v.f0 = 0 ∨ v.f0 = 6
  · rw [if_pos c0, ← Bool.decide_and, ← Bool.decide_and, ← Bool.decide_and]; exact decide_eq_false (by omega)
  · rw [if_neg c0]
    by_cases c1 : v.f0 = 1
    · rw [if_pos c1, ← Bool.decide_and, ← Bool.decide_and, ← Bool.decide_and]; exact decide_eq_false (by omega)
    · rw [if_neg c1]
      by_cases c2 : v.f0 = 2
      · rw [if_pos c2, ← Bool.decide_and, ← Bool.decide_and, ← Bool.decide_and]; exact decide_eq_false (by omega)
      · rw [if_neg c2]
        by_cases c3 : v.f0 = 3
        · rw [if_pos c3, ← Bool.decide_and, ← Bool.decide_and, decide_eq_false (p := v.f1 = 0 ∧ v.f3.length = 0 ∧ v.f4.length = 0) (by omega), Bool.and_false]
        · rw [if_neg c3]
          by_cases c4 : v.f0 = 4
          · rw [if_pos c4, ← Bool.decide_and, ← Bool.decide_and, ← Bool.decide_and]; exact decide_eq_false (by omega)
          · rw [if_neg c4]
            by_cases c5 : v.f0 = 5
            · rw [if_pos c5, ← Bool.decide_and, ← Bool.decide_and, decide_eq_false (p := v.f1 = 0 ∧ v.f2.length = 0 ∧ v.f4.length ≤ 40) (by omega), Bool.and_false, Bool.and_false]
            · rw [if_neg c5]
/-! steps -/
theorem rdLS (xs : List S102) (i : Nat) (h : i < xs.length) : rd_T102 xs (i : Int) = xs[i] := getDI xs _ i h
theorem rdS (xs : List S79) (i : Nat) (h : i < xs.length) : rd_T79 xs (i : Int) = xs[i] := getDI xs _ i h
def stepTo (s : S102) : S79 := ⟨s.f0, s.f1, s.f2⟩
def szKeys : List S102 → Nat
  | [] => 0
  | s :: l => s.f1.length + szKeys l
theorem szKeys_mem {l : List S102} {s : S102} (h : s ∈ l) : s.f1.length ≤ szKeys l := by
  induction l with
  | nil => cases h
  | cons a l ih =>
    rcases List.mem_cons.1 h with rfl | h
    · simp only [szKeys]; omega
    · have := ih h; simp only [szKeys]; omega
def stepOk (s : S79) : Bool := if s.f0 = 0 then isName s.f1 && decide (s.f2 = 0) else decide (s.f0 = 1) && decide (s.f1.length = 0) && decide (0 ≤ s.f2 ∧ s.f2 ≤ 39)
def pathOk (l : List S79) : Bool := decide (l.length ≤ 6) && l.all stepOk
/-- Rows of steps as they come in. -/
def WfStep (s : S102) : Prop := ((Lit.int .i64 s.f0).wf = true ∧ s.f1.length ≤ 9223372036854775807 ∧ By s.f1 ∧ (Lit.int .i64 s.f2).wf = true)
def WfSteps (l : List S102) : Prop := l.length ≤ 9223372036854775807 ∧ ∀ s ∈ l, WfStep s
theorem mL_szL (l : List (List Int)) : mL l = szL l := by
  induction l with
  | nil => rfl
  | cons x l ih => simp only [mL, szL, ih]
theorem mVs_toV (l : List S26) (ih : ∀ x ∈ l, m30 (toV x) = szV x) : ms30 (l.map toV) = szVs l := by
  induction l with
  | nil => rfl
  | cons x l ih2 => simp only [List.map_cons, ms30, szVs, ih x List.mem_cons_self, ih2 (fun y hy => ih y (List.mem_cons_of_mem _ hy))]
theorem mV_eq (v : S30) : m30 v = v.f2.length + (v.f3.length + mL v.f3 + (v.f4.length + ms30 v.f4)) := by obtain ⟨_, _, _, _, _⟩ := v; rw [m30]
theorem mV_toV : ∀ v, m30 (toV v) = szV v := by
  refine lvind fun v ih => ?_
  rw [mV_eq, szV_eq, toV_f2, toV_f3, toV_f4, List.length_map, mVs_toV _ ih, mL_szL]
theorem mV_eta : ∀ v : S30, m30 ⟨v.f0, v.f1, v.f2, v.f3, v.f4⟩ = m30 v := fun ⟨_, _, _, _, _⟩ => rfl
/-! keys, sorted -/
theorem V_eta : ∀ y : S30, (⟨y.f0, y.f1, y.f2, y.f3, y.f4⟩ : S30) = y := fun ⟨_, _, _, _, _⟩ => rfl
theorem cmpB_trans : ∀ {a b c : List Int}, cmpB a b = -1 → cmpB b c = -1 → cmpB a c = -1
  | [], _, [], h, h2 => by
    rename_i b
    cases b with
    | nil => exact h
    | cons x b => rw [cmpB] at h2; simp at h2
  | [], _, _ :: _, _, _ => by rw [cmpB]
  | x :: a, [], c, h, _ => by rw [cmpB] at h; simp at h
  | x :: a, y :: b, [], _, h2 => by rw [cmpB] at h2; simp at h2
  | x :: a, y :: b, z :: c, h, h2 => by
    rw [cmpB_cons] at h h2 ⊢
    by_cases c1 : x < y
    · by_cases c2 : y < z
      · rw [if_pos (by omega)]
      · rw [if_neg c2] at h2
        by_cases c3 : z < y
        · rw [if_pos c3] at h2; omega
        · rw [if_pos (by omega)]
    · rw [if_neg c1] at h
      by_cases c2 : y < x
      · rw [if_pos c2] at h; omega
      · rw [if_neg c2] at h
        by_cases c3 : y < z
        · rw [if_pos (by omega)]
        · rw [if_neg c3] at h2
          by_cases c4 : z < y
          · rw [if_pos c4] at h2; omega
          · rw [if_neg c4] at h2
            rw [if_neg (by omega), if_neg (by omega)]
            exact cmpB_trans h h2
theorem keysFrom_at {k : List (List Int)} : ∀ (d i : Nat), keysFrom k d i = true → ∀ j, i ≤ j → j < i + d → keyAt k j = true
  | 0, i, _, j, h1, h2 => by omega
  | d + 1, i, h, j, h1, h2 => by
    rw [keysFrom, Bool.and_eq_true] at h
    by_cases c : j = i
    · subst c; exact h.1
    · exact keysFrom_at d (i + 1) h.2 j (by omega) (by omega)
theorem keys_next {k : List (List Int)} (h : keysOk k = true) (i : Nat) (hi : i + 1 < k.length) : cmpB k[i] k[i + 1] = -1 := by
  have := keysFrom_at _ _ h (i + 1) (by omega) (by omega)
  rw [keyAt_s k i hi, Bool.and_eq_true] at this
  exact of_decide_eq_true this.2
theorem keys_less {k : List (List Int)} (h : keysOk k = true) (i : Nat) : ∀ (d : Nat) (hj : i + d + 1 < k.length), cmpB k[i] k[i + d + 1] = -1
  | 0, hj => keys_next h i hj
  | d + 1, hj => cmpB_trans (keys_less h i d (by omega)) (keys_next h (i + d + 1) hj)
theorem keys_lt {k : List (List Int)} (h : keysOk k = true) (i j : Nat) (hij : i < j) (hj : j < k.length) : cmpB k[i] k[j] = -1 := by
  obtain ⟨d, rfl⟩ : ∃ d, j = i + d + 1 := ⟨j - i - 1, by omega⟩
  exact keys_less h i d hj
/-- Where a key lies: the first place, or the row's length. -/
def ixOf (k : List (List Int)) (n : List Int) : Nat := k.findIdx fun x => decide (x = n)
theorem ixOf_le (k : List (List Int)) (n : List Int) : ixOf k n ≤ k.length := List.findIdx_le_length
theorem ixOf_at {k : List (List Int)} {n : List Int} (h : ixOf k n < k.length) : k[ixOf k n] = n := by
  have := List.findIdx_getElem (w := h)
  exact of_decide_eq_true this
theorem ixOf_ne {k : List (List Int)} {n : List Int} {j : Nat} (h : j < ixOf k n) : k[j]'(Nat.lt_of_lt_of_le h (ixOf_le k n)) ≠ n := by
  have := List.not_of_lt_findIdx h
  simpa using this
theorem ixOf_none {k : List (List Int)} {n : List Int} (h : ∀ j (hj : j < k.length), k[j] ≠ n) : ixOf k n = k.length := by
  refine Nat.le_antisymm (ixOf_le k n) (Nat.le_of_not_lt fun c => h _ c (ixOf_at c))
theorem ixOf_eq {k : List (List Int)} {n : List Int} (i : Nat) (hi : i < k.length) (h : k[i] = n) (hb : ∀ j (hj : j < i), k[j] ≠ n) : ixOf k n = i := by
  rcases Nat.lt_trichotomy (ixOf k n) i with c | c | c
  · exact absurd (ixOf_at (by omega)) (hb _ c)
  · exact c
  · exact absurd h (ixOf_ne c)
theorem dsV_eq : ∀ v : S30, dsV v = v.f2.length + (v.f3.length + mL v.f3 + (v.f4.length + dsVs v.f4)) := fun ⟨_, _, _, _, _⟩ => by rw [dsV]
theorem dsVs_toV (l : List S26) (ih : ∀ x ∈ l, dsV (toV x) = szV x) : dsVs (l.map toV) = szVs l := by
  induction l with
  | nil => rw [List.map_nil, dsVs, szVs]
  | cons a l ih2 =>
    rw [List.map_cons, dsVs, szVs, ih a List.mem_cons_self, ih2 fun x hx => ih x (List.mem_cons_of_mem _ hx)]
theorem dsV_toV : ∀ v : S26, dsV (toV v) = szV v := by
  refine lvind fun v ih => ?_
  rw [dsV_eq, toV_f4, toV_f2, toV_f3, szV_eq, dsVs_toV v.f4 ih, List.length_map, mL_szL]
theorem dsV_in {l : List S30} {x : S30} (h : x ∈ l) : dsV x ≤ dsVs l := by
  induction l with
  | nil => cases h
  | cons y l ih =>
    rw [dsVs]
    rcases List.mem_cons.1 h with rfl | h
    · omega
    · have := ih h; omega
/-! laws_szByteS -/
theorem szByteS_eq (l : List Int) (a : Int) (h0 : 0 ≤ a) (h1 : a ≤ 1048576) (hl : l.length ≤ 9223372036854775807) : laws_szByteS.f l a = some (sub a l.length) := by
  unfold laws_szByteS.f sub
  rw [w64 (by omega) (by omega)]
  by_cases h : (l.length : Int) ≤ a
  · rw [if_neg (by omega), if_pos h]
  · rw [if_pos (by omega), if_neg h]
/-! laws_szByteSS -/
theorem szByteSS_l0 (l : List (List Int)) (hl : l.length ≤ 9223372036854775807) (hk : ∀ x ∈ l, x.length ≤ 9223372036854775807) : ∀ (d i : Nat) (a : Int), i + d = l.length → 0 ≤ a → a ≤ 1048576 → Ev (fun k => laws_szByteSS.l0 k l a (i : Int)) (sub a (szL (l.drop i))) := by
  intro d
  induction d with
  | zero =>
    intro i a hd h0 h1
    refine Ev.step (fun _ => laws_szByteSS.l0.eq_2 ..) (ev_neg (by omega) (ev_is ?_))
    rw [List.drop_eq_nil_of_le (by omega)]
    exact (sub_zero h0).symm
  | succ d ih =>
    intro i a hd h0 h1
    have hi : i < l.length := by omega
    refine Ev.step (fun _ => laws_szByteSS.l0.eq_2 ..) (ev_pos (by omega) (ev_pos (by omega) ?_))
    rw [rdR l i hi, drop_at l i hi]
    refine Ev.bind (ev_const (szByteS_eq _ a h0 h1 (hk _ (List.getElem_mem hi)))) ?_
    rw [w64s i (by omega)]
    have hr := sub_range l[i].length h0
    by_cases h : sub a l[i].length < 0
    · refine ev_pos h (ev_is ?_)
      exact ((sub_neg h h0).2 _).symm
    · refine ev_neg h (ev_eq (ih (i + 1) _ (by omega) (by omega) (by omega)) ?_)
      exact sub_sub h
theorem szByteSS_ev (l : List (List Int)) (a : Int) (hl : l.length ≤ 9223372036854775807) (hk : ∀ x ∈ l, x.length ≤ 9223372036854775807) (h0 : 0 ≤ a) (h1 : a ≤ 1048576) : Ev (fun k => laws_szByteSS.f k l a) (sub a (l.length + szL l)) := by
  unfold laws_szByteSS.f
  rw [w64 (x := a - (l.length : Int)) (by omega) (by omega)]
  by_cases h : a - (l.length : Int) < 0
  · refine ev_pos h (ev_is ?_)
    unfold sub; rw [if_neg (by omega)]
  · refine ev_neg h (ev_eq (szByteSS_l0 l hl hk l.length 0 _ (by omega) (by omega) (by omega)) ?_)
    have e : sub a l.length = a - l.length := by unfold sub; rw [if_pos (by omega)]
    rw [← e, List.drop_zero]
    exact sub_sub (by omega)
/-! laws_szValue -/
theorem szValueS_l0 (l : List S26) (hl : l.length ≤ 9223372036854775807) (hx : ∀ v ∈ l, ∀ a : Int, 0 ≤ a → a ≤ 1048576 → Ev (fun k => laws_szValue.f k v.f0 v.f1 v.f2 v.f3 v.f4 a) (sub a (szV v))) :
    ∀ (d i : Nat) (a : Int), i + d = l.length → 0 ≤ a → a ≤ 1048576 → Ev (fun k => laws_szValueS.l0 k l a (i : Int)) (sub a (szVs (l.drop i))) := by
  intro d
  induction d with
  | zero =>
    intro i a hd h0 h1
    refine Ev.step (fun _ => laws_szValueS.l0.eq_2 ..) (ev_neg (by omega) (ev_is ?_))
    rw [List.drop_eq_nil_of_le (by omega), szVs]
    exact (sub_zero h0).symm
  | succ d ih =>
    intro i a hd h0 h1
    have hi : i < l.length := by omega
    refine Ev.step (fun _ => laws_szValueS.l0.eq_2 ..) (ev_pos (by omega) (ev_pos (by omega) ?_))
    rw [rdLV l i hi, drop_at l i hi, szVs]
    refine Ev.bind (hx _ (List.getElem_mem hi) a h0 h1) ?_
    rw [w64s i (by omega)]
    have hr := sub_range (szV l[i]) h0
    by_cases h : sub a (szV l[i]) < 0
    · refine ev_pos h (ev_is ?_)
      exact ((sub_neg h h0).2 _).symm
    · refine ev_neg h (ev_eq (ih (i + 1) _ (by omega) (by omega) (by omega)) ?_)
      exact sub_sub h
theorem szValueS_ev (l : List S26) (hl : l.length ≤ 9223372036854775807) (hx : ∀ v ∈ l, ∀ a : Int, 0 ≤ a → a ≤ 1048576 → Ev (fun k => laws_szValue.f k v.f0 v.f1 v.f2 v.f3 v.f4 a) (sub a (szV v))) (a : Int) (h0 : 0 ≤ a) (h1 : a ≤ 1048576) :
    Ev (fun k => laws_szValueS.f k l a) (sub a (l.length + szVs l)) := by
  refine Ev.step (fun _ => laws_szValueS.f.eq_2 ..) ?_
  rw [w64 (x := a - (l.length : Int)) (by omega) (by omega)]
  by_cases h : a - (l.length : Int) < 0
  · refine ev_pos h (ev_is ?_)
    unfold sub; rw [if_neg (by omega)]
  · refine ev_neg h (ev_eq (szValueS_l0 l hl hx l.length 0 _ (by omega) (by omega) (by omega)) ?_)
    have e : sub a l.length = a - l.length := by unfold sub; rw [if_pos (by omega)]
    rw [← e, List.drop_zero]
    exact sub_sub (by omega)
theorem szValue_ev : ∀ v : S26, WfV v → ∀ a : Int, 0 ≤ a → a ≤ 1048576 → Ev (fun k => laws_szValue.f k v.f0 v.f1 v.f2 v.f3 v.f4 a) (sub a (szV v)) := by
  refine lvind fun v ih hw a h0 h1 => ?_
  obtain ⟨_, w0, w1, w2, w3, w4, w5, w6, w7⟩ := hw
  refine Ev.step (fun _ => laws_szValue.f.eq_2 ..) ?_
  rw [szV_eq]
  refine Ev.bind (ev_const (szByteS_eq v.f2 a h0 h1 w2)) ?_
  have hr := sub_range v.f2.length h0
  by_cases h : sub a v.f2.length < 0
  · refine ev_pos h (ev_is ?_)
    exact ((sub_neg h h0).2 _).symm
  · refine ev_neg h ?_
    rw [← sub_sub h]
    generalize sub a v.f2.length = b at h hr ⊢
    refine Ev.bind (szByteSS_ev v.f3 b w4 (fun y hy => (w5 y hy).1) (by omega) (by omega)) ?_
    have hr2 := sub_range (a := b) (v.f3.length + szL v.f3) (by omega)
    by_cases h2 : sub b (v.f3.length + szL v.f3) < 0
    · refine ev_pos h2 (ev_is ?_)
      exact ((sub_neg h2 (by omega)).2 _).symm
    · refine ev_neg h2 ?_
      rw [← sub_sub h2]
      generalize sub b (v.f3.length + szL v.f3) = c at h2 hr2 ⊢
      refine Ev.bind (szValueS_ev v.f4 w6 (fun x hx => ih x hx (w7 x hx)) c (by omega) (by omega)) ?_
      by_cases h3 : sub c (v.f4.length + szVs v.f4) < 0
      · refine ev_pos h3 (ev_is ?_)
        exact (sub_neg h3 (by omega)).1.symm
      · exact ev_neg h3 (Ev.now _)
/-! laws_toByteS -/
theorem toByteS_l0 (l : List Int) (hl : l.length ≤ 4611686018427387903) : ∀ (d i : Nat) (out : List Int), i + d = l.length → out.length = l.length → out.take i = l.take i → Ev (fun k => laws_toByteS.l0 k l out i) l := by
  intro d
  induction d with
  | zero =>
    intro i out hd ho ht
    refine Ev.step (fun _ => laws_toByteS.l0.eq_2 ..) ?_
    refine ev_neg (by omega) ?_
    refine ev_is ?_
    rwa [List.take_of_length_le (by omega), List.take_of_length_le (by omega)] at ht
  | succ d ih =>
    intro i out hd ho ht
    refine Ev.step (fun _ => laws_toByteS.l0.eq_2 ..) ?_
    refine ev_pos (by omega) ?_
    refine ev_pos (by omega) ?_
    refine ev_pos (by omega) ?_
    rw [w64s i (by omega), Int.toNat_natCast]
    refine ih (i + 1) _ (by omega) (by rw [List.length_set]; exact ho) ?_
    rw [List.take_succ_eq_append_getElem (by rw [List.length_set]; omega), List.take_succ_eq_append_getElem (by omega), List.take_set_of_le (by omega), ht, List.getElem_set_self, rd_nat _ _ (by omega)]
theorem toByteS_ev (l : List Int) (hl : l.length ≤ 281474976710656) : Ev (fun k => laws_toByteS.f k l) l := by
  unfold laws_toByteS.f
  refine ev_pos (by omega) ?_
  refine ev_pos (by omega) ?_
  exact toByteS_l0 l (by omega) l.length 0 _ (by omega) (by simp) (by simp)
/-! laws_toByteSS -/
theorem toByteSS_l0 (l : List (List Int)) (hl : l.length ≤ 1048576) (hk : ∀ x ∈ l, x.length ≤ 1048576) : ∀ (d i : Nat) (out : List (List Int)), i + d = l.length → out.length = l.length → out.take i = l.take i → Ev (fun k => laws_toByteSS.l0 k l out (i : Int)) l := by
  intro d
  induction d with
  | zero =>
    intro i out hd ho ht
    refine Ev.step (fun _ => laws_toByteSS.l0.eq_2 ..) (ev_neg (by omega) (ev_is ?_))
    rwa [List.take_of_length_le (by omega), List.take_of_length_le (by omega)] at ht
  | succ d ih =>
    intro i out hd ho ht
    have hi : i < l.length := by omega
    refine Ev.step (fun _ => laws_toByteSS.l0.eq_2 ..) (ev_pos (by omega) (ev_pos (by omega) ?_))
    rw [rdR l i hi]
    have hs := hk _ (List.getElem_mem hi)
    refine Ev.bind (toByteS_ev _ (by omega)) (ev_pos (by omega) ?_)
    rw [w64s i (by omega), Int.toNat_natCast]
    refine ih (i + 1) _ (by omega) (by rw [List.length_set]; exact ho) ?_
    rw [List.take_succ_eq_append_getElem (by rw [List.length_set]; omega), List.take_succ_eq_append_getElem hi, List.take_set_of_le (by omega), ht, List.getElem_set_self]
theorem toByteSS_ev (l : List (List Int)) (hl : l.length ≤ 1048576) (hk : ∀ x ∈ l, x.length ≤ 1048576) : Ev (fun k => laws_toByteSS.f k l) l := by
  unfold laws_toByteSS.f
  exact ev_pos (by omega) (ev_pos (by omega) (toByteSS_l0 l hl hk l.length 0 _ (by omega) (by simp) (by simp)))
/-! laws_toValue -/
theorem toValueS_l0 (l : List S26) (hl : l.length ≤ 1048576) (hx : ∀ v ∈ l, Ev (fun k => laws_toValue.f k v.f0 v.f1 v.f2 v.f3 v.f4) ((toV v).f0, (toV v).f1, (toV v).f2, (toV v).f3, (toV v).f4)) :
    ∀ (d i : Nat) (out : List S30), i + d = l.length → out.length = l.length → out.take i = (l.map toV).take i → Ev (fun k => laws_toValueS.l0 k l out (i : Int)) (l.map toV) := by
  intro d
  induction d with
  | zero =>
    intro i out hd ho ht
    refine Ev.step (fun _ => laws_toValueS.l0.eq_2 ..) (ev_neg (by omega) (ev_is ?_))
    rwa [List.take_of_length_le (by omega), List.take_of_length_le (by rw [List.length_map]; omega)] at ht
  | succ d ih =>
    intro i out hd ho ht
    have hi : i < l.length := by omega
    refine Ev.step (fun _ => laws_toValueS.l0.eq_2 ..) (ev_pos (by omega) (ev_pos (by omega) ?_))
    rw [rdLV l i hi]
    refine Ev.bind (hx _ (List.getElem_mem hi)) (ev_pos (by omega) ?_)
    rw [w64s i (by omega), Int.toNat_natCast]
    refine ih (i + 1) _ (by omega) (by rw [List.length_set]; exact ho) ?_
    rw [List.take_succ_eq_append_getElem (by rw [List.length_set]; omega), List.take_succ_eq_append_getElem (by rw [List.length_map]; omega), List.take_set_of_le (by omega), ht, List.getElem_set_self, List.getElem_map]
    generalize toV l[i] = y
    cases y
    rfl
theorem toValue_ev : ∀ v : S26, SmV (toV v) → Ev (fun k => laws_toValue.f k v.f0 v.f1 v.f2 v.f3 v.f4) ((toV v).f0, (toV v).f1, (toV v).f2, (toV v).f3, (toV v).f4) := by
  refine lvind fun v ih hw => ?_
  obtain ⟨_, w0, w1, w2, w3, w4, w5, w6, w7⟩ := hw
  rw [toV_f2] at w2; rw [toV_f3] at w4 w5; rw [toV_f4, List.length_map] at w6; rw [toV_f4] at w7
  refine Ev.step (fun _ => laws_toValue.f.eq_2 ..) ?_
  rw [toV_f0, toV_f1, toV_f2, toV_f3, toV_f4]
  refine Ev.bind (toByteS_ev v.f2 (by omega)) (Ev.bind (toByteSS_ev v.f3 w4 (fun y hy => (w5 y hy).1)) (Ev.bind (a := v.f4.map toV) ?_ (Ev.now _)))
  refine Ev.step (fun _ => laws_toValueS.f.eq_2 ..) (ev_pos (by omega) (ev_pos (by omega) ?_))
  exact toValueS_l0 v.f4 w6 (fun x hx => ih x hx (w7 _ (List.mem_map_of_mem hx))) v.f4.length 0 _ (by omega) (by simp) (by simp)
/-! laws_eqByteS -/
theorem eqByteS_l0 (l : List Int) (hl : l.length ≤ 4611686018427387903) : ∀ (d i : Nat), i + d = l.length → Ev (fun k => laws_eqByteS.l0 k l l i) true := by
  intro d
  induction d with
  | zero =>
    intro i hd
    refine Ev.step (fun _ => laws_eqByteS.l0.eq_2 ..) ?_
    exact ev_neg (by omega) (Ev.now _)
  | succ d ih =>
    intro i hd
    refine Ev.step (fun _ => laws_eqByteS.l0.eq_2 ..) ?_
    refine ev_pos (by omega) (ev_pos (by omega) (ev_pos (by omega) (ev_pos rfl ?_)))
    rw [w64s i (by omega)]
    exact ih (i + 1) (by omega)
theorem eqByteS_ev (l : List Int) (hl : l.length ≤ 281474976710656) : Ev (fun k => laws_eqByteS.f k l l) true := by
  unfold laws_eqByteS.f
  exact ev_pos rfl (eqByteS_l0 l (by omega) l.length 0 (by omega))
/-! laws_eqByteSS -/
theorem eqByteSS_l0 (l : List (List Int)) (hl : l.length ≤ 1048576) (hk : ∀ x ∈ l, x.length ≤ 1048576) : ∀ (d i : Nat), i + d = l.length → Ev (fun k => laws_eqByteSS.l0 k l l (i : Int)) true := by
  intro d
  induction d with
  | zero =>
    intro i hd
    exact Ev.step (fun _ => laws_eqByteSS.l0.eq_2 ..) (ev_neg (by omega) (Ev.now _))
  | succ d ih =>
    intro i hd
    have hi : i < l.length := by omega
    refine Ev.step (fun _ => laws_eqByteSS.l0.eq_2 ..) (ev_pos (by omega) (ev_pos (by omega) (ev_pos (by omega) ?_)))
    rw [rdR l i hi]
    have hs := hk _ (List.getElem_mem hi)
    refine Ev.bind (eqByteS_ev _ (by omega)) (ev_pos rfl ?_)
    rw [w64s i (by omega)]
    exact ih (i + 1) (by omega)
theorem eqByteSS_ev (l : List (List Int)) (hl : l.length ≤ 1048576) (hk : ∀ x ∈ l, x.length ≤ 1048576) : Ev (fun k => laws_eqByteSS.f k l l) true := by
  unfold laws_eqByteSS.f
  exact ev_pos rfl (eqByteSS_l0 l hl hk l.length 0 (by omega))
/-! laws_eqValue -/
theorem eqValueS_l0 (l : List S30) (hl : l.length ≤ 1048576) (hx : ∀ v ∈ l, Ev (fun k => laws_eqValue.f k v.f0 v.f1 v.f2 v.f3 v.f4 v.f0 v.f1 v.f2 v.f3 v.f4) true) : ∀ (d i : Nat), i + d = l.length → Ev (fun k => laws_eqValueS.l0 k l l (i : Int)) true := by
  intro d
  induction d with
  | zero =>
    intro i hd
    exact Ev.step (fun _ => laws_eqValueS.l0.eq_2 ..) (ev_neg (by omega) (Ev.now _))
  | succ d ih =>
    intro i hd
    have hi : i < l.length := by omega
    refine Ev.step (fun _ => laws_eqValueS.l0.eq_2 ..) (ev_pos (by omega) (ev_pos (by omega) (ev_pos (by omega) ?_)))
    rw [rdV l i hi]
    refine Ev.bind (hx _ (List.getElem_mem hi)) (ev_pos rfl ?_)
    rw [w64s i (by omega)]
    exact ih (i + 1) (by omega)
theorem eqValue_ev : ∀ v : S30, SmV v → Ev (fun k => laws_eqValue.f k v.f0 v.f1 v.f2 v.f3 v.f4 v.f0 v.f1 v.f2 v.f3 v.f4) true := by
  refine vind fun v ih hw => ?_
  obtain ⟨_, w0, w1, w2, w3, w4, w5, w6, w7⟩ := hw
  refine Ev.step (fun _ => laws_eqValue.f.eq_2 ..) (ev_pos rfl (ev_pos rfl ?_))
  refine Ev.bind (eqByteS_ev v.f2 (by omega)) (ev_pos rfl (Ev.bind (eqByteSS_ev v.f3 w4 (fun y hy => (w5 y hy).1)) (ev_pos rfl (Ev.bind (a := true) ?_ (ev_pos rfl (Ev.now _))))))
  refine Ev.step (fun _ => laws_eqValueS.f.eq_2 ..) (ev_pos rfl ?_)
  exact eqValueS_l0 v.f4 w6 (fun x hx => ih x hx (w7 x hx)) v.f4.length 0 (by omega)
/-! laws_heldByteS -/
theorem heldByteS_l0 (n : Nat) (a : Int) (hn : n ≤ 281474976710656) (h0 : 0 ≤ a) (h1 : a ≤ 281474976710656) : ∀ (d i : Nat), i + d = n →
    Ev (fun k => laws_heldByteS.l0 k (markL n a) (a + (i : Int)) i) (a + (n : Int)) := by
  intro d
  induction d with
  | zero =>
    intro i hd
    refine Ev.step (fun _ => laws_heldByteS.l0.eq_2 ..) ?_
    refine ev_neg (by rw [markL_length]; omega) ?_
    refine ev_is ?_
    rw [show (i : Int) = n by omega]
  | succ d ih =>
    intro i hd
    refine Ev.step (fun _ => laws_heldByteS.l0.eq_2 ..) ?_
    refine ev_pos (by rw [markL_length]; omega) (ev_pos (by omega) (ev_pos (rd_markL n a i (by omega)) ?_))
    rw [w64s i (by omega), w64 (x := a + (i : Int) + 1) (by omega) (by omega), show a + (i : Int) + 1 = a + ((i + 1 : Nat) : Int) by omega]
    exact ih (i + 1) (by omega)
theorem heldByteS_ev (n : Nat) (a : Int) (hn : n ≤ 281474976710656) (h0 : 0 ≤ a) (h1 : a ≤ 281474976710656) : Ev (fun k => laws_heldByteS.f k (markL n a) a) (a + (n : Int)) := by
  unfold laws_heldByteS.f
  have := heldByteS_l0 n a hn h0 h1 n 0 (by omega)
  simpa using this
/-! laws_heldByteSS -/
theorem mks_at : ∀ (l : List (List Int)) (a : Int) (i : Nat) (h : i < l.length), (mks a l)[i]'(by rw [mks_len]; exact h) = markL l[i].length (a + (mL (l.take i) : Nat))
  | [], a, i, h => by simp at h
  | x :: l, a, 0, h => by simp [mks, mL, mk, markL]
  | x :: l, a, i + 1, h => by
    have := mks_at l (a + x.length) i (by simpa using h)
    simp only [mks, List.getElem_cons_succ, List.take_succ_cons, mL, this]
    rw [show a + (x.length : Nat) + (mL (l.take i) : Nat) = a + ((x.length + mL (l.take i) : Nat) : Int) by omega]
theorem heldByteSS_l0 (l : List (List Int)) (a : Int) (hl : l.length ≤ 281474976710656) (h0 : 0 ≤ a) (h1 : a + mL l ≤ 281474976710656) : ∀ (d i : Nat), i + d = l.length → Ev (fun k => laws_heldByteSS.l0 k (mks a l) (a + (mL (l.take i) : Nat)) (i : Int)) (a + mL l) := by
  intro d
  induction d with
  | zero =>
    intro i hd
    refine Ev.step (fun _ => laws_heldByteSS.l0.eq_2 ..) (ev_neg (by rw [mks_len]; omega) (ev_is ?_))
    rw [List.take_of_length_le (by omega)]
  | succ d ih =>
    intro i hd
    have hi : i < l.length := by omega
    have ht := mL_take l i hi
    have hle := mL_le l (i + 1)
    refine Ev.step (fun _ => laws_heldByteSS.l0.eq_2 ..) (ev_pos (by rw [mks_len]; omega) (ev_pos (by omega) ?_))
    rw [rdR _ i (by rw [mks_len]; exact hi), mks_at l a i hi]
    refine Ev.bind (heldByteS_ev _ _ (by omega) (by omega) (by omega)) (ev_neg (by omega) ?_)
    rw [w64s i (by omega), show a + (mL (l.take i) : Nat) + (l[i].length : Nat) = a + ((mL (l.take (i + 1)) : Nat) : Int) by omega]
    exact ih (i + 1) (by omega)
theorem heldByteSS_ev (l : List (List Int)) (a : Int) (hl : l.length ≤ 281474976710656) (h0 : 0 ≤ a) (h1 : a + mL l ≤ 281474976710656) : Ev (fun k => laws_heldByteSS.f k (mks a l) a) (a + mL l) := by
  unfold laws_heldByteSS.f
  have := heldByteSS_l0 l a hl h0 h1 l.length 0 (by omega)
  simpa [mL] using this
/-! laws_heldValueS -/
theorem dnV_eq : ∀ v : S30, dnV v = v.f2.length + mL v.f3 + dnVs v.f4 := fun ⟨_, _, _, _, _⟩ => by rw [dnV]
theorem dmkV_f2 : ∀ (v : S30) (a : Int), (dmkV a v).f2 = mk a v.f2.length := fun ⟨_, _, _, _, _⟩ _ => by rw [dmkV]
theorem dmkV_f3 : ∀ (v : S30) (a : Int), (dmkV a v).f3 = mks (a + v.f2.length) v.f3 := fun ⟨_, _, _, _, _⟩ _ => by rw [dmkV]
theorem dmkV_f4 : ∀ (v : S30) (a : Int), (dmkV a v).f4 = dmkVs (a + v.f2.length + mL v.f3) v.f4 := fun ⟨_, _, _, _, _⟩ _ => by rw [dmkV]
theorem dmkVs_cons : ∀ (x : S30) (l : List S30) (a : Int), dmkVs a (x :: l) = ⟨a, a + 1, mk (a + 2) x.f2.length, mks (a + 2 + x.f2.length) x.f3, dmkVs (a + 2 + x.f2.length + mL x.f3) x.f4⟩ :: dmkVs (a + (2 + dnV x : Nat)) l := fun ⟨_, _, _, _, _⟩ l a => by
  rw [dmkVs, dnV]
  congr 2
  simp only [Int.natCast_add]
  omega
theorem dmkVs_len : ∀ (l : List S30) (a : Int), (dmkVs a l).length = l.length
  | [], _ => by rw [dmkVs]
  | x :: l, a => by rw [dmkVs_cons, List.length_cons, List.length_cons, dmkVs_len l]
theorem dnVs_take : ∀ (l : List S30) (i : Nat) (h : i < l.length), dnVs (l.take (i + 1)) = dnVs (l.take i) + (2 + dnV l[i])
  | x :: l, 0, h => by simp [dnVs]
  | x :: l, i + 1, h => by
    have := dnVs_take l i (by simpa using h)
    simp only [List.take_succ_cons, dnVs, List.getElem_cons_succ]
    rw [this]; omega
theorem dnVs_le : ∀ (l : List S30) (i : Nat), dnVs (l.take i) ≤ dnVs l
  | [], i => by simp [dnVs]
  | x :: l, 0 => by simp [dnVs]
  | x :: l, i + 1 => by
    have := dnVs_le l i
    simp only [List.take_succ_cons, dnVs]; omega
theorem dmkVs_at : ∀ (l : List S30) (a : Int) (i : Nat) (h : i < l.length), (dmkVs a l)[i]'(by rw [dmkVs_len]; exact h) = ⟨a + (dnVs (l.take i) : Nat), a + (dnVs (l.take i) : Nat) + 1, mk (a + (dnVs (l.take i) : Nat) + 2) l[i].f2.length, mks (a + (dnVs (l.take i) : Nat) + 2 + l[i].f2.length) l[i].f3, dmkVs (a + (dnVs (l.take i) : Nat) + 2 + l[i].f2.length + mL l[i].f3) l[i].f4⟩
  | x :: l, a, 0, h => by simp [dmkVs_cons, dnVs]
  | x :: l, a, i + 1, h => by
    have := dmkVs_at l (a + (2 + dnV x : Nat)) i (by simpa using h)
    have e : a + ((2 + dnV x : Nat) : Int) + (dnVs (l.take i) : Nat) = a + (dnVs ((x :: l).take (i + 1)) : Nat) := by
      simp only [List.take_succ_cons, dnVs, Int.natCast_add]; omega
    rw [e] at this
    simp only [dmkVs_cons, List.getElem_cons_succ]
    rw [this]
theorem mk_markL (a : Int) (n : Nat) : mk a n = markL n a := by simp [mk, markL]
theorem heldS_l0 (l : List S30) (a : Int) (h0 : 0 ≤ a) (h1 : a + (dnVs l : Nat) ≤ 281474976710656) (hl : l.length ≤ 1048576) (hk : ∀ x ∈ l, x.f3.length ≤ 1048576)
    (hx : ∀ x ∈ l, ∀ a : Int, 0 ≤ a → a + (dnVs x.f4 : Nat) ≤ 281474976710656 → Ev (fun k => laws_heldValueS.f k (dmkVs a x.f4) a) (a + (dnVs x.f4 : Nat))) :
    ∀ (d i : Nat), i + d = l.length → Ev (fun k => laws_heldValueS.l0 k (dmkVs a l) (a + (dnVs (l.take i) : Nat)) (i : Int)) (a + (dnVs l : Nat)) := by
  intro d
  induction d with
  | zero =>
    intro i hd
    refine Ev.step (fun _ => laws_heldValueS.l0.eq_2 ..) (ev_neg (by rw [dmkVs_len]; omega) (ev_is ?_))
    rw [List.take_of_length_le (by omega)]
  | succ d ih =>
    intro i hd
    have hi : i < l.length := by omega
    have ht := dnVs_take l i hi
    have hle := dnVs_le l (i + 1)
    have hm := List.getElem_mem hi
    have hk' := hk _ hm
    have hv := dnV_eq l[i]
    refine Ev.step (fun _ => laws_heldValueS.l0.eq_2 ..) (ev_pos (by rw [dmkVs_len]; omega) (ev_pos (by omega) ?_))
    rw [rdV _ i (by rw [dmkVs_len]; exact hi), dmkVs_at l a i hi]
    obtain ⟨c, hc⟩ : ∃ c, c = a + (dnVs (l.take i) : Nat) := ⟨_, rfl⟩
    rw [← hc]
    rw [w64 (x := c + 1) (by omega) (by omega)]
    dsimp only
    rw [w64 (x := c + 1 + 1) (by omega) (by omega), w64s i (by omega), show c + 1 + 1 = c + 2 by omega, mk_markL]
    refine ev_pos rfl (ev_pos rfl (Ev.bind (heldByteS_ev _ _ (by omega) (by omega) (by omega)) (ev_neg (by omega) ?_)))
    refine Ev.bind (heldByteSS_ev _ _ (by omega) (by omega) (by omega)) (ev_neg (by omega) ?_)
    refine Ev.bind (hx _ hm _ (by omega) (by omega)) (ev_neg (by omega) ?_)
    rw [show c + 2 + (l[i].f2.length : Nat) + (mL l[i].f3 : Nat) + (dnVs l[i].f4 : Nat) = a + ((dnVs (l.take (i + 1)) : Nat) : Int) by omega]
    exact ih (i + 1) (by omega)
theorem heldS_ev : ∀ v : S30, SmV v → ∀ a : Int, 0 ≤ a → a + (dnVs v.f4 : Nat) ≤ 281474976710656 → Ev (fun k => laws_heldValueS.f k (dmkVs a v.f4) a) (a + (dnVs v.f4 : Nat)) := by
  refine vind fun v ih hv a h0 h1 => ?_
  obtain ⟨_, w0, w1, w2, w3, w4, w5, w6, w7⟩ := hv
  refine Ev.step (fun _ => laws_heldValueS.f.eq_2 ..) ?_
  have := heldS_l0 v.f4 a h0 h1 w6 (fun x hx => by obtain ⟨_, _, _, _, _, h, _⟩ := w7 x hx; exact h) (fun x hx a' h0' h1' => ih x hx (w7 x hx) a' h0' h1') v.f4.length 0 (by omega)
  simpa [dnVs] using this
/-! laws_heldValue -/
theorem heldValue_ev (v : S30) (hv : SmV v) (a : Int) (h0 : 0 ≤ a) (h1 : a + (dnV v : Nat) ≤ 281474976710656) : Ev (fun k => laws_heldValue.f k (dmkV a v).f0 (dmkV a v).f1 (dmkV a v).f2 (dmkV a v).f3 (dmkV a v).f4 a) (a + (dnV v : Nat)) := by
  have hw := hv
  obtain ⟨_, w0, w1, w2, w3, w4, w5, w6, w7⟩ := hw
  have hd := dnV_eq v
  unfold laws_heldValue.f
  rw [dmkV_f2, dmkV_f3, dmkV_f4, mk_markL]
  refine Ev.bind (heldByteS_ev _ _ (by omega) (by omega) (by omega)) (ev_neg (by omega) ?_)
  refine Ev.bind (heldByteSS_ev _ _ (by omega) (by omega) (by omega)) (ev_neg (by omega) ?_)
  refine Ev.bind (heldS_ev v hv _ (by omega) (by omega)) (ev_neg (by omega) (ev_is ?_))
  omega
/-! laws_szStep -/
theorem szStep_eq (x : Int) (l : List Int) (y a : Int) (h0 : 0 ≤ a) (h1 : a ≤ 1048576) (hl : l.length ≤ 9223372036854775807) : laws_szStep.f x l y a = some (sub a l.length) := by
  unfold laws_szStep.f
  rw [szByteS_eq l a h0 h1 hl]
  simp only [Option.bind_some]
  by_cases h : sub a l.length < 0
  · rw [if_pos h, (sub_neg h h0).1]
  · rw [if_neg h]
/-! laws_szStepS -/
theorem szStepS_l0 (l : List S102) (hw : WfSteps l) : ∀ (d i : Nat) (a : Int), i + d = l.length → 0 ≤ a → a ≤ 1048576 → Ev (fun k => laws_szStepS.l0 k l a (i : Int)) (sub a (szKeys (l.drop i))) := by
  intro d
  induction d with
  | zero =>
    intro i a hd h0 h1
    refine Ev.step (fun _ => laws_szStepS.l0.eq_2 ..) (ev_neg (by omega) (ev_is ?_))
    rw [List.drop_eq_nil_of_le (by omega)]
    exact (sub_zero h0).symm
  | succ d ih =>
    intro i a hd h0 h1
    have hi : i < l.length := by omega
    refine Ev.step (fun _ => laws_szStepS.l0.eq_2 ..) (ev_pos (by omega) (ev_pos (by omega) ?_))
    rw [rdLS l i hi, drop_at l i hi]
    have hs := hw.2 _ (List.getElem_mem hi)
    refine Ev.bind (ev_const (szStep_eq _ _ _ a h0 h1 hs.2.1)) ?_
    rw [w64s i (by have := hw.1; omega)]
    have hr := sub_range l[i].f1.length h0
    by_cases h : sub a l[i].f1.length < 0
    · refine ev_pos h (ev_is ?_)
      exact ((sub_neg h h0).2 _).symm
    · refine ev_neg h (ev_eq (ih (i + 1) _ (by omega) (by omega) (by omega)) ?_)
      exact sub_sub h
theorem szStepS_ev (l : List S102) (a : Int) (hw : WfSteps l) (h0 : 0 ≤ a) (h1 : a ≤ 1048576) : Ev (fun k => laws_szStepS.f k l a) (sub a (l.length + szKeys l)) := by
  unfold laws_szStepS.f
  have hl := hw.1
  rw [w64 (x := a - (l.length : Int)) (by omega) (by omega)]
  by_cases h : a - (l.length : Int) < 0
  · refine ev_pos h (ev_is ?_)
    unfold sub; rw [if_neg (by omega)]
  · refine ev_neg h (ev_eq (szStepS_l0 l hw l.length 0 _ (by omega) (by omega) (by omega)) ?_)
    have e : sub a l.length = a - l.length := by unfold sub; rw [if_pos (by omega)]
    rw [← e, List.drop_zero]
    exact sub_sub (by omega)
/-! spec_NameOk -/
theorem spec_NameOk_l0 (b : List Int) (hl : b.length ≤ 4611686018427387903) : ∀ (d i : Nat), i + d = b.length → Ev (fun k => spec_NameOk.l0 k b (i : Int)) ((b.drop i).all fun x => decide (97 ≤ x ∧ x ≤ 122)) := by
  intro d
  induction d with
  | zero =>
    intro i hd
    refine Ev.step (fun _ => spec_NameOk.l0.eq_2 ..) (ev_neg (by omega) (ev_is ?_))
    rw [List.drop_eq_nil_of_le (by omega)]; rfl
  | succ d ih =>
    intro i hd
    refine Ev.step (fun _ => spec_NameOk.l0.eq_2 ..) (ev_pos (by omega) (ev_pos (by omega) ?_))
    rw [drop_rd b i (by omega), List.all_cons, w64s i (by omega)]
    by_cases h1 : rd b (i : Int) < 97
    · refine ev_pos h1 (ev_is ?_)
      simp; omega
    · refine ev_neg h1 ?_
      by_cases h2 : rd b (i : Int) > 122
      · refine ev_pos h2 (ev_is ?_)
        simp; omega
      · refine ev_neg h2 (ev_eq (ih (i + 1) (by omega)) ?_)
        rw [decide_eq_true (show 97 ≤ rd b (i : Int) ∧ rd b (i : Int) ≤ 122 by omega)]; rfl
theorem spec_NameOk_ev (b : List Int) (hl : b.length ≤ 4611686018427387903) : Ev (fun k => spec_NameOk.f k b) (isName b) := by
  unfold spec_NameOk.f isName
  by_cases h1 : b.length < 1
  · refine ev_pos (by omega) (Ev.step (fun _ => spec_NameOk.j0.eq_2 ..) (ev_pos rfl (ev_is ?_)))
    rw [decide_eq_false (by omega)]; rfl
  · refine ev_neg (by omega) (Ev.step (fun _ => spec_NameOk.j0.eq_2 ..) ?_)
    by_cases h2 : b.length > 8
    · refine ev_pos (decide_eq_true (by omega)) (ev_is ?_)
      rw [decide_eq_false (by omega)]; rfl
    · refine ev_neg (by simp; omega) (ev_eq (spec_NameOk_l0 b hl b.length 0 (by omega)) ?_)
      rw [decide_eq_true (by omega)]; rfl
/-! spec_l2int -/
theorem l2int_eq (n : Int) : spec_l2int.f n = some (decide (-1000000000000 ≤ n ∧ n ≤ 1000000000000)) := by
  unfold spec_l2int.f
  by_cases h : n ≥ -1000000000000
  · rw [if_pos h]; congr 1; exact decide_eq_decide.2 (by omega)
  · rw [if_neg h, decide_eq_false (by omega)]
/-! spec_l2text -/
theorem spec_l2text_l0 (b : List Int) (hl : b.length ≤ 4611686018427387903) : ∀ (d i : Nat), i + d = b.length → Ev (fun k => spec_l2text.l0 k b (i : Int)) ((b.drop i).all fun x => decide (32 ≤ x ∧ x ≤ 126)) := by
  intro d
  induction d with
  | zero =>
    intro i hd
    refine Ev.step (fun _ => spec_l2text.l0.eq_2 ..) (ev_neg (by omega) (ev_is ?_))
    rw [List.drop_eq_nil_of_le (by omega)]; rfl
  | succ d ih =>
    intro i hd
    refine Ev.step (fun _ => spec_l2text.l0.eq_2 ..) (ev_pos (by omega) (ev_pos (by omega) ?_))
    rw [drop_rd b i (by omega), List.all_cons, w64s i (by omega)]
    by_cases h1 : rd b (i : Int) < 32
    · refine ev_pos h1 (ev_is ?_)
      simp; omega
    · refine ev_neg h1 ?_
      by_cases h2 : rd b (i : Int) > 126
      · refine ev_pos h2 (ev_is ?_)
        simp; omega
      · refine ev_neg h2 (ev_eq (ih (i + 1) (by omega)) ?_)
        rw [decide_eq_true (show 32 ≤ rd b (i : Int) ∧ rd b (i : Int) ≤ 126 by omega)]; rfl
theorem spec_l2text_ev (b : List Int) (hl : b.length ≤ 4611686018427387903) : Ev (fun k => spec_l2text.f k b) (isText b) := by
  unfold spec_l2text.f isText
  by_cases h1 : b.length > 20
  · refine ev_pos (by omega) (ev_is ?_)
    rw [decide_eq_false (by omega)]; rfl
  · refine ev_neg (by omega) (ev_eq (spec_l2text_l0 b hl b.length 0 (by omega)) ?_)
    rw [decide_eq_true (by omega)]; rfl
/-! spec_l2ok -/
/-- What is left of a room, if all is as it must be; -1: it isn't. -/
def left_ (b : Bool) (n : Nat) (m : Int) : Int := if b = true ∧ (n : Int) ≤ m then m - n else -1
theorem left_f (n : Nat) (m : Int) : left_ false n m = -1 := by unfold left_; rw [if_neg (fun h => by simp at h)]
theorem left_0 {m : Int} (h : 0 ≤ m) : left_ true 0 m = m := by unfold left_; rw [if_pos ⟨rfl, by omega⟩]; omega
theorem left_range (b : Bool) (n : Nat) (m : Int) (h : 0 ≤ m) : -1 ≤ left_ b n m ∧ left_ b n m ≤ m := by unfold left_; split <;> omega
theorem left_neg {b : Bool} {n : Nat} {m : Int} (h : left_ b n m < 0) (c : Bool) (p : Nat) : left_ (b && c) (n + p) m = -1 := by
  unfold left_ at *
  split at h
  · omega
  · rename_i h1
    rw [if_neg]
    rintro ⟨h2, h3⟩
    rw [Bool.and_eq_true] at h2
    exact h1 ⟨h2.1, by omega⟩
theorem left_pos {b : Bool} {n : Nat} {m : Int} (h : ¬ left_ b n m < 0) (c : Bool) (p : Nat) : left_ c p (left_ b n m) = left_ (b && c) (n + p) m := by
  unfold left_ at *
  split at h
  · rename_i h1
    obtain ⟨hb, h1⟩ := h1
    subst hb
    have e : (if true = true ∧ (n : Int) ≤ m then m - n else -1) = m - n := if_pos ⟨rfl, h1⟩
    rw [e, Bool.true_and]
    by_cases h2 : c = true ∧ (p : Int) ≤ m - n
    · rw [if_pos h2, if_pos ⟨h2.1, by omega⟩]; omega
    · rw [if_neg h2, if_neg (fun h3 => h2 ⟨h3.1, by omega⟩)]
  · omega
theorem left_s (b : Bool) (n : Nat) (m : Int) : left_ b (1 + n) m = left_ b n (m - 1) := by
  unfold left_
  by_cases h : b = true ∧ (n : Int) ≤ m - 1
  · rw [if_pos h, if_pos ⟨h.1, by omega⟩]; omega
  · rw [if_neg h, if_neg (fun h2 => h ⟨h2.1, by omega⟩)]
theorem l2ok_j6 (v : S30) (deep i : Nat) (m : Int) (hi : i < v.f4.length) (hd : deep ≤ 5) (hm : 0 ≤ m) (hm2 : m ≤ 40) (hl : v.f4.length ≤ 1048576) (b : Bool) (C : Bool) (p : Nat)
    (hx : Ev (fun k => spec_l2ok.f k v.f4[i].f0 v.f4[i].f1 v.f4[i].f2 v.f4[i].f3 v.f4[i].f4 ((deep + 1 : Nat) : Int) m) (left_ (shaped v.f4[i] (5 - deep)) (nV v.f4[i]) m))
    (hn : ∀ m' : Int, 0 ≤ m' → m' ≤ 40 → Ev (fun k => spec_l2ok.l0 k deep m' ((i + 1 : Nat) : Int) v.f0 v.f1 v.f2 v.f3 v.f4) (left_ C p m')) :
    Ev (fun k => spec_l2ok.j6 k deep m (i : Int) b v.f0 v.f1 v.f2 v.f3 v.f4) (if b = true then -1 else left_ (shaped v.f4[i] (5 - deep) && C) (nV v.f4[i] + p) m) := by
  refine Ev.step (fun _ => spec_l2ok.j6.eq_2 ..) ?_
  have hr := left_range (shaped v.f4[i] (5 - deep)) (nV v.f4[i]) m hm
  cases b
  · refine ev_neg (by decide) (ev_pos (by omega) (ev_pos (by omega) ?_))
    rw [rdV v.f4 i hi, w64s i (by omega), w64s deep (by omega), if_neg (by decide)]
    refine Ev.bind hx ?_
    refine ev_ite (fun h => ?_) (fun h => ?_)
    · exact ev_is (left_neg h C p).symm
    · exact ev_eq (hn _ (by omega) (by omega)) (left_pos h C p)
  · exact ev_pos rfl (Ev.now _)
theorem l2ok_l0 (v : S30) (hv : SmV v) (deep : Nat) (hd : deep ≤ 5) (hk : v.f0 = 5 → v.f3.length = v.f4.length)
    (hx : ∀ x ∈ v.f4, ∀ m : Int, 0 ≤ m → m ≤ 40 → Ev (fun k => spec_l2ok.f k x.f0 x.f1 x.f2 x.f3 x.f4 ((deep + 1 : Nat) : Int) m) (left_ (shaped x (5 - deep)) (nV x) m)) :
    ∀ (d i : Nat) (m : Int), i + d = v.f4.length → 0 ≤ m → m ≤ 40 → Ev (fun k => spec_l2ok.l0 k deep m (i : Int) v.f0 v.f1 v.f2 v.f3 v.f4)
      (left_ ((!decide (v.f0 = 5) || keysFrom v.f3 d i) && allShaped (v.f4.drop i) (5 - deep)) (nVs (v.f4.drop i)) m) := by
  obtain ⟨_, w0, w1, w2, w3, w4, w5, w6, w7⟩ := hv
  intro d
  induction d with
  | zero =>
    intro i m hd2 h0 h1
    refine Ev.step (fun _ => spec_l2ok.l0.eq_2 ..) (ev_neg (by omega) (ev_is ?_))
    rw [List.drop_eq_nil_of_le (by omega), nVs, allShaped, keysFrom, Bool.or_true, Bool.true_and, left_0 h0]
  | succ d ih =>
    intro i m hd2 h0 h1
    have hi : i < v.f4.length := by omega
    have J := fun b => l2ok_j6 v deep i m hi hd h0 h1 w6 b _ _ (hx _ (List.getElem_mem hi) m h0 h1) (fun m' h0' h1' => ih (i + 1) m' (by omega) h0' h1')
    rw [drop_at v.f4 i hi, nVs, allShaped]
    generalize shaped v.f4[i] (5 - deep) = S at J ⊢
    generalize nV v.f4[i] = n at J ⊢
    generalize allShaped (v.f4.drop (i + 1)) (5 - deep) = B at J ⊢
    generalize nVs (v.f4.drop (i + 1)) = q at J ⊢
    refine Ev.step (fun _ => spec_l2ok.l0.eq_2 ..) (ev_pos (by omega) ?_)
    by_cases h5 : v.f0 = 5
    · have hk5 := hk h5
      have hi3 : i < v.f3.length := by omega
      rw [decide_eq_true h5] at J ⊢
      refine ev_pos h5 (ev_pos (by omega) (ev_pos (by omega) ?_))
      rw [rdR v.f3 i hi3, keysFrom]
      generalize keysFrom v.f3 d (i + 1) = K at J ⊢
      have key : ∀ b : Bool, b = !keyAt v.f3 i → Ev (fun k => spec_l2ok.j6 k deep m (i : Int) b v.f0 v.f1 v.f2 v.f3 v.f4) (left_ ((!true || (keyAt v.f3 i && K)) && (S && B)) (n + q) m) := by
        intro b hb
        refine ev_eq (J b) ?_
        rw [hb]
        cases keyAt v.f3 i
        · exact (if_pos rfl).trans (left_f _ _).symm
        · refine (if_neg (by decide)).trans ?_
          cases S <;> cases K <;> rfl
      have hln := (w5 _ (List.getElem_mem hi3)).1
      refine Ev.bind (spec_NameOk_ev _ (by omega)) ?_
      refine ev_ite (fun hnm => ?_) (fun hnm => key true (by
        rw [Bool.not_eq_true] at hnm
        unfold keyAt; rw [getDN _ _ _ hi3, hnm]; rfl))
      rcases Nat.eq_zero_or_pos i with hz | hz
      · subst hz
        refine ev_neg (by omega) (key false ?_)
        rw [keyAt_0 _ hi3, hnm]; rfl
      · refine ev_pos (by omega) ?_
        rw [w64 (by omega) (by omega)]
        refine ev_pos (by omega) (ev_pos (by omega) ?_)
        obtain ⟨j, rfl⟩ : ∃ j, i = j + 1 := ⟨i - 1, by omega⟩
        have e : (((j + 1 : Nat) : Int) - 1) = (j : Int) := by omega
        rw [e, rdR v.f3 j (by omega)]
        refine key _ ?_
        rw [keyAt_s _ _ hi3, hnm, Bool.true_and, str_less (w5 _ (List.getElem_mem _)).2 (w5 _ (List.getElem_mem _)).2]
    · rw [decide_eq_false h5] at J ⊢
      refine ev_neg h5 (ev_eq (J false) ?_)
      rw [if_neg (by decide)]
      cases S <;> cases B <;> rfl
def bad (v : S30) : Bool := decide ((v.f0 ≠ 3 ∧ 0 < v.f2.length) ∨ (v.f0 ≠ 5 ∧ 0 < v.f3.length) ∨ (v.f0 ≠ 1 ∧ v.f0 ≠ 2 ∧ v.f1 ≠ 0) ∨ (v.f0 ≠ 4 ∧ v.f0 ≠ 5 ∧ 0 < v.f4.length))
theorem ev_flag {g : Nat → Bool → Option Int} {b b' : Bool} {r : Int} (h : Ev (fun k => g k b) r) (e : b' = b) : Ev (fun k => g k b') r := by subst e; exact h
theorem l2ok_j0 (v : S30) (deep m r : Int) (h : Ev (fun k => spec_l2ok.j1 k deep m (bad v) v.f0 v.f1 v.f2 v.f3 v.f4) r) : Ev (fun k => spec_l2ok.j0 k deep m false v.f0 v.f1 v.f2 v.f3 v.f4) r := by
  refine Ev.step (fun _ => spec_l2ok.j0.eq_2 ..) (ev_neg (by decide) ?_)
  have F : ∀ b, b = bad v → Ev (fun k => spec_l2ok.j1 k deep m b v.f0 v.f1 v.f2 v.f3 v.f4) r := fun b hb => ev_flag (g := fun k b => spec_l2ok.j1 k deep m b v.f0 v.f1 v.f2 v.f3 v.f4) h hb
  unfold bad at F
  repeat' (first
    | (exfalso; omega)
    | (refine F true (decide_eq_true ?_).symm; omega)
    | (refine F false (decide_eq_false ?_).symm; omega)
    | (refine F (decide _) (decide_eq_decide.2 ?_); omega)
    | (refine ev_ite (fun _ => ?_) (fun _ => ?_)))
theorem form_bad {v : S30} (h : bad v = true) : formOk v = false := by
  unfold bad at h
  have h := of_decide_eq_true h
  exact form_bad_ h
theorem left_none {v : S30} (h : v.f4.length = 0) (b : Bool) (n : Nat) {m : Int} (hm : 0 ≤ m) : left_ (b && allShaped v.f4 n) (nVs v.f4) m = if b = true then m else -1 := by
  rw [shaped_none h, Bool.and_true, List.eq_nil_of_length_eq_zero h, nVs]
  cases b
  · exact left_f _ _
  · rw [left_0 hm]; rfl
/-- More than fits is not there. -/
theorem left_more {v : S30} (b : Bool) (n : Nat) {m : Int} (hm : m ≤ 40) : left_ (b && allShaped v.f4 n) (nVs v.f4) m = left_ ((b && decide (v.f4.length ≤ 40)) && allShaped v.f4 n) (nVs v.f4) m := by
  by_cases h : v.f4.length ≤ 40
  · rw [decide_eq_true h, Bool.and_true]
  · rw [decide_eq_false h, Bool.and_false, Bool.false_and, left_f]
    have := nVs_len v.f4
    unfold left_
    rw [if_neg (fun q => by omega)]
theorem l2ok_j1 (v : S30) (hv : SmV v) (deep : Nat) (hd : deep ≤ 5) (m : Int) (hm : 0 ≤ m) (hm2 : m ≤ 40)
    (hx : ∀ x ∈ v.f4, ∀ m : Int, 0 ≤ m → m ≤ 40 → Ev (fun k => spec_l2ok.f k x.f0 x.f1 x.f2 x.f3 x.f4 ((deep + 1 : Nat) : Int) m) (left_ (shaped x (5 - deep)) (nV x) m)) :
    Ev (fun k => spec_l2ok.j1 k deep m (bad v) v.f0 v.f1 v.f2 v.f3 v.f4) (left_ (formOk v && allShaped v.f4 (5 - deep)) (nVs v.f4) m) := by
  have L := l2ok_l0 v hv deep hd
  obtain ⟨_, w0, w1, w2, w3, w4, w5, w6, w7⟩ := hv
  refine Ev.step (fun _ => spec_l2ok.j1.eq_2 ..) (ev_ite (fun hb => ?_) (fun hb => ?_))
  · refine ev_is ?_
    rw [form_bad hb, Bool.false_and, left_f]
  unfold bad at hb
  have hb : ¬ _ := fun q => hb (decide_eq_true q)
  have G : Ev (fun k => spec_l2ok.j2 k deep m v.f0 (decide (v.f0 = 0 ∨ v.f0 = 6)) v.f0 v.f1 v.f2 v.f3 v.f4) (left_ (formOk v && allShaped v.f4 (5 - deep)) (nVs v.f4) m) := by
    refine Ev.step (fun _ => spec_l2ok.j2.eq_2 ..) ?_
    by_cases c0 : v.f0 = 0 ∨ v.f0 = 6
    · refine ev_pos (decide_eq_true c0) (ev_is ?_)
      rw [left_none (by omega) _ _ hm]
      unfold formOk
      rw [if_pos c0, ← Bool.decide_and, ← Bool.decide_and, ← Bool.decide_and, decide_eq_true (by omega), if_pos rfl]
    refine ev_neg (by simpa using c0) ?_
    by_cases c1 : v.f0 = 1
    · rw [left_none (by omega) _ _ hm]
      unfold formOk
      rw [if_neg c0, if_pos c1, ← Bool.decide_and, ← Bool.decide_and, ← Bool.decide_and]
      refine ev_pos c1 (ev_ite (fun h => ev_is ?_) (fun h => ev_ite (fun h2 => ev_is ?_) (fun h2 => ev_is ?_)))
      · rw [decide_eq_false (by omega), if_neg (by decide)]
      · rw [decide_eq_false (by omega), if_neg (by decide)]
      · rw [decide_eq_true (by omega), if_pos rfl]
    refine ev_neg c1 ?_
    by_cases c2 : v.f0 = 2
    · rw [left_none (by omega) _ _ hm]
      unfold formOk
      rw [if_neg c0, if_neg c1, if_pos c2, ← Bool.decide_and, ← Bool.decide_and, ← Bool.decide_and]
      refine ev_pos c2 (Ev.bind (ev_const (l2int_eq v.f1)) (ev_ite (fun h => ev_is ?_) (fun h => ev_is ?_)))
      · have h := of_decide_eq_true h
        rw [decide_eq_true (by omega), if_pos rfl]
      · have h := of_decide_eq_false (Bool.not_eq_true _ ▸ h)
        rw [decide_eq_false (by omega), if_neg (by decide)]
    refine ev_neg c2 ?_
    by_cases c3 : v.f0 = 3
    · rw [left_none (by omega) _ _ hm]
      unfold formOk
      rw [if_neg c0, if_neg c1, if_neg c2, if_pos c3, ← Bool.decide_and, ← Bool.decide_and, decide_eq_true (p := v.f1 = 0 ∧ v.f3.length = 0 ∧ v.f4.length = 0) (by omega), Bool.and_true]
      refine ev_pos c3 (Ev.bind (spec_l2text_ev _ (by omega)) (ev_ite (fun h => ev_is ?_) (fun h => ev_is ?_)))
      · rw [if_pos h]
      · rw [if_neg h]
    refine ev_neg c3 ?_
    by_cases c4 : v.f0 = 4
    · have c5 : ¬ v.f0 = 5 := by omega
      refine ev_pos c4 (Ev.step (fun _ => spec_l2ok.j3.eq_2 ..) (ev_pos (by rw [c4]; rfl) (ev_neg c5 (Ev.step (fun _ => spec_l2ok.j4.eq_2 ..) (ev_neg (by decide) ?_)))))
      refine ev_eq (L (fun q => absurd q c5) hx v.f4.length 0 m (by omega) hm hm2) ?_
      rw [List.drop_zero, decide_eq_false c5, left_more _ _ hm2]
      unfold formOk
      rw [if_neg c0, if_neg c1, if_neg c2, if_neg c3, if_pos c4, decide_eq_true (p := v.f3.length = 0) (by omega), decide_eq_true (p := v.f1 = 0) (by omega), decide_eq_true (p := v.f2.length = 0) (by omega)]
      simp
    refine ev_neg c4 (Ev.step (fun _ => spec_l2ok.j3.eq_2 ..) ?_)
    by_cases c5 : v.f0 = 5
    · refine ev_pos (by rw [c5]; rfl) (ev_pos c5 (Ev.step (fun _ => spec_l2ok.j4.eq_2 ..) ?_))
      by_cases hl : v.f3.length = v.f4.length
      · refine ev_neg (by simp; omega) (ev_eq (L (fun _ => hl) hx v.f4.length 0 m (by omega) hm hm2) ?_)
        rw [List.drop_zero, decide_eq_true c5, left_more _ _ hm2]
        unfold formOk keysOk
        rw [if_neg c0, if_neg c1, if_neg c2, if_neg c3, if_neg c4, if_pos c5, hl, decide_eq_true (p := v.f1 = 0) (by omega), decide_eq_true (p := v.f2.length = 0) (by omega)]
        simp
      · refine ev_pos (by simp; omega) (ev_is ?_)
        unfold formOk
        rw [if_neg c0, if_neg c1, if_neg c2, if_neg c3, if_neg c4, if_pos c5, decide_eq_false hl, Bool.false_and, Bool.false_and, left_f]
    · refine ev_neg (by simpa using c5) (ev_is ?_)
      unfold formOk
      rw [if_neg c0, if_neg c1, if_neg c2, if_neg c3, if_neg c4, if_neg c5, Bool.false_and, left_f]
  have F : ∀ b, b = decide (v.f0 = 0 ∨ v.f0 = 6) → Ev (fun k => spec_l2ok.j2 k deep m v.f0 b v.f0 v.f1 v.f2 v.f3 v.f4) (left_ (formOk v && allShaped v.f4 (5 - deep)) (nVs v.f4) m) := fun b e => ev_flag (g := fun k b => spec_l2ok.j2 k deep m v.f0 b v.f0 v.f1 v.f2 v.f3 v.f4) G e
  refine ev_ite (fun h => F _ ?_) (fun h => F _ ?_)
  · rw [h]; rfl
  · by_cases h6 : v.f0 = 6
    · rw [h6]; rfl
    · rw [decide_eq_false (by omega), beq_eq_false_iff_ne]; exact h6
theorem l2ok_ev : ∀ v : S30, SmV v → ∀ (deep : Nat) (m : Int), 1 ≤ deep → deep ≤ 6 → 0 ≤ m → m ≤ 40 → Ev (fun k => spec_l2ok.f k v.f0 v.f1 v.f2 v.f3 v.f4 (deep : Int) m) (left_ (shaped v (6 - deep)) (nV v) m) := by
  refine vind fun v ih hv deep m hd hd2 hm hm2 => ?_
  have hc : ∀ x ∈ v.f4, SmV x := by obtain ⟨_, w0, w1, w2, w3, w4, w5, w6, w7⟩ := hv; exact w7
  refine Ev.step (fun _ => spec_l2ok.f.eq_2 ..) ?_
  rw [w64 (x := m - 1) (by omega) (by omega), nV_eq, left_s]
  refine ev_ite (fun h => ?_) (fun h => ?_)
  · refine Ev.step (fun _ => spec_l2ok.j0.eq_2 ..) (ev_pos rfl (ev_is ?_))
    unfold left_; rw [if_neg (fun q => by omega)]
  · by_cases h6 : deep = 6
    · subst h6
      rw [decide_eq_true (by decide), shaped_0, left_f]
      exact Ev.step (fun _ => spec_l2ok.j0.eq_2 ..) (ev_pos rfl (Ev.now _))
    · rw [decide_eq_false (by omega), show 6 - deep = (5 - deep) + 1 by omega, shaped_s]
      refine l2ok_j0 v _ _ _ (l2ok_j1 v hv deep (by omega) (m - 1) (by omega) (by omega) fun x hx m' h0 h1 => ?_)
      have := ih x hx (hc x hx) (deep + 1) m' (by omega) (by omega) h0 h1
      rwa [show 6 - (deep + 1) = 5 - deep by omega] at this
/-! spec_ValOk -/
theorem spec_ValOk_ev (v : S30) (hv : SmV v) : Ev (fun k => spec_ValOk.f k v.f0 v.f1 v.f2 v.f3 v.f4) (valOk v) := by
  unfold spec_ValOk.f valOk
  refine Ev.bind (l2ok_ev v hv 1 40 (by omega) (by omega) (by omega) (by omega)) (ev_is ?_)
  unfold left_
  by_cases h : shaped v 5 = true ∧ (nV v : Int) ≤ 40
  · rw [if_pos h, h.1, decide_eq_true (by omega), decide_eq_true (by omega)]; rfl
  · rw [if_neg h, decide_eq_false (by omega)]
    by_cases h2 : shaped v 5 = true
    · rw [h2, decide_eq_false (fun q => h ⟨h2, by omega⟩)]; rfl
    · rw [Bool.not_eq_true] at h2
      rw [h2]; rfl
/-! spec_l2own -/
theorem l2own_l1 (v : S30) (a b : Int) (s : List Int) (ks : List (List Int)) (hl : v.f4.length ≤ 1048576) (hx : ∀ x ∈ v.f4, Ev (fun k => spec_l2own.f k x.f0 x.f1 x.f2 x.f3 x.f4) (x.f0, x.f1, x.f2, x.f3, x.f4)) : ∀ (d i : Nat), i + d = v.f4.length →
    Ev (fun k => spec_l2own.l1 k (i : Int) v.f0 v.f1 v.f2 v.f3 v.f4 a b s ks (v.f4.take i)) (a, b, s, ks, v.f4) := by
  intro d
  induction d with
  | zero =>
    intro i hd
    refine Ev.step (fun _ => spec_l2own.l1.eq_2 ..) (ev_neg (by omega) (ev_is ?_))
    rw [List.take_of_length_le (by omega)]
  | succ d ih =>
    intro i hd
    have hi : i < v.f4.length := by omega
    refine Ev.step (fun _ => spec_l2own.l1.eq_2 ..) (ev_pos (by omega) (ev_pos (by omega) ?_))
    rw [rdV v.f4 i hi]
    refine Ev.bind (hx _ (List.getElem_mem hi)) (ev_pos (by rw [List.length_take]; omega) ?_)
    rw [w64s i (by omega)]
    have e : v.f4.take i ++ [(⟨v.f4[i].f0, v.f4[i].f1, v.f4[i].f2, v.f4[i].f3, v.f4[i].f4⟩ : S30)] = v.f4.take (i + 1) := by
      rw [V_eta, List.take_succ_eq_append_getElem hi]
    rw [e]
    exact ih (i + 1) (by omega)
theorem l2own_l0 (v : S30) (a b : Int) (s : List Int) (hl : v.f3.length ≤ 1048576) (hk : ∀ x ∈ v.f3, x.length ≤ 1048576) (h4 : v.f4.length ≤ 1048576) (hx : ∀ x ∈ v.f4, Ev (fun k => spec_l2own.f k x.f0 x.f1 x.f2 x.f3 x.f4) (x.f0, x.f1, x.f2, x.f3, x.f4)) : ∀ (d i : Nat), i + d = v.f3.length →
    Ev (fun k => spec_l2own.l0 k (i : Int) v.f0 v.f1 v.f2 v.f3 v.f4 a b s (v.f3.take i)) (a, b, s, v.f3, v.f4) := by
  intro d
  induction d with
  | zero =>
    intro i hd
    refine Ev.step (fun _ => spec_l2own.l0.eq_2 ..) (ev_neg (by omega) ?_)
    rw [List.take_of_length_le (by omega)]
    have := l2own_l1 v a b s v.f3 h4 hx v.f4.length 0 (by omega)
    simpa using this
  | succ d ih =>
    intro i hd
    have hi : i < v.f3.length := by omega
    have hs := hk _ (List.getElem_mem hi)
    refine Ev.step (fun _ => spec_l2own.l0.eq_2 ..) (ev_pos (by omega) (Ev.bind (Ev.now _) (ev_pos (by omega) ?_)))
    rw [rdR v.f3 i hi]
    refine ev_pos (by simp; omega) (ev_pos (by rw [List.length_take]; omega) ?_)
    rw [w64s i (by omega), List.nil_append, ← List.take_succ_eq_append_getElem hi]
    exact ih (i + 1) (by omega)
theorem l2own_ev : ∀ v : S30, SmV v → Ev (fun k => spec_l2own.f k v.f0 v.f1 v.f2 v.f3 v.f4) (v.f0, v.f1, v.f2, v.f3, v.f4) := by
  refine vind fun v ih hv => ?_
  obtain ⟨_, w0, w1, w2, w3, w4, w5, w6, w7⟩ := hv
  refine Ev.step (fun _ => spec_l2own.f.eq_2 ..) (Ev.bind (Ev.now _) (ev_pos (by simp; omega) ?_))
  have := l2own_l0 v v.f0 v.f1 v.f2 w4 (fun x hx => (w5 x hx).1) w6 (fun x hx => ih x hx (w7 x hx)) v.f3.length 0 (by omega)
  simpa using this
/-! spec_PathOk -/
theorem spec_PathOk_l0 (l : List S79) (hl : l.length ≤ 1048576) (hk : ∀ s ∈ l, s.f1.length ≤ 1048576) : ∀ (d i : Nat), i + d = l.length → Ev (fun k => spec_PathOk.l0 k l (i : Int)) ((l.drop i).all stepOk) := by
  intro d
  induction d with
  | zero =>
    intro i hd
    refine Ev.step (fun _ => spec_PathOk.l0.eq_2 ..) (ev_neg (by omega) (ev_is ?_))
    rw [List.drop_eq_nil_of_le (by omega)]; rfl
  | succ d ih =>
    intro i hd
    have hi : i < l.length := by omega
    refine Ev.step (fun _ => spec_PathOk.l0.eq_2 ..) (ev_pos (by omega) (ev_pos (by omega) ?_))
    rw [rdS l i hi, drop_at l i hi, List.all_cons, w64s i (by omega)]
    have hs := hk _ (List.getElem_mem hi)
    generalize l[i] = s at hs
    have ih := ih (i + 1) (by omega)
    rw [stepOk]
    by_cases h0 : s.f0 = 0
    · refine ev_pos h0 (Ev.bind (spec_NameOk_ev _ (by omega)) ?_)
      rw [if_pos h0]
      by_cases h1 : isName s.f1 = true
      · refine ev_pos h1 ?_
        by_cases h2 : s.f2 = 0
        · refine ev_pos h2 (ev_eq ih ?_)
          rw [h1, decide_eq_true h2]; rfl
        · refine ev_neg h2 (ev_is ?_)
          simp [h2]
      · refine ev_neg h1 (ev_is ?_)
        simp [h1]
    · refine ev_neg h0 ?_
      rw [if_neg h0]
      by_cases h1 : s.f0 = 1
      · refine ev_pos h1 ?_
        by_cases h2 : s.f1.length = 0
        · refine ev_neg (by omega) ?_
          by_cases h3 : s.f2 < 0
          · refine ev_pos h3 (ev_is ?_)
            rw [decide_eq_false (show ¬ (0 ≤ s.f2 ∧ s.f2 ≤ 39) by omega)]; simp
          · refine ev_neg h3 ?_
            by_cases h4 : s.f2 ≥ 40
            · refine ev_pos h4 (ev_is ?_)
              rw [decide_eq_false (show ¬ (0 ≤ s.f2 ∧ s.f2 ≤ 39) by omega)]; simp
            · refine ev_neg h4 (ev_eq ih ?_)
              rw [decide_eq_true h1, decide_eq_true h2, decide_eq_true (show 0 ≤ s.f2 ∧ s.f2 ≤ 39 by omega)]; rfl
        · refine ev_pos (by omega) (ev_is ?_)
          rw [decide_eq_false h2]; simp
      · refine ev_neg h1 (ev_is ?_)
        rw [decide_eq_false h1]; simp
theorem spec_PathOk_ev (l : List S79) (hl : l.length ≤ 1048576) (hk : ∀ s ∈ l, s.f1.length ≤ 1048576) : Ev (fun k => spec_PathOk.f k l) (pathOk l) := by
  unfold spec_PathOk.f pathOk
  by_cases h : l.length ≤ 6
  · refine ev_neg (by omega) (ev_eq (spec_PathOk_l0 l hl hk l.length 0 (by omega)) ?_)
    rw [decide_eq_true h]; rfl
  · refine ev_pos (by omega) (ev_is ?_)
    rw [decide_eq_false h]; rfl
/-! spec_l2find -/
theorem l2find_l0 (k : List (List Int)) (n : List Int) (hk : ∀ x ∈ k, By x) (hn : By n) (hl : k.length ≤ 1048576) (a b : Int) (s : List Int) (l : List S30) : ∀ (d i : Nat), i + d = k.length → (∀ j (hj : j < i) (hj2 : j < k.length), k[j] ≠ n) →
    Ev (fun r => spec_l2find.l0 r n (i : Int) a b s k l) (if ixOf k n < k.length then (ixOf k n : Int) else -1) := by
  intro d
  induction d with
  | zero =>
    intro i hd hp
    rw [if_neg (by rw [ixOf_none fun j hj => hp j (by omega) hj]; omega)]
    exact Ev.step (fun _ => spec_l2find.l0.eq_2 ..) (ev_neg (by omega) (Ev.now _))
  | succ d ih =>
    intro i hd hp
    have hi : i < k.length := by omega
    refine Ev.step (fun _ => spec_l2find.l0.eq_2 ..) (ev_pos (by omega) (ev_pos (by omega) ?_))
    rw [rdR k i hi]
    have hs := str_inj (hk _ (List.getElem_mem hi)) hn
    by_cases c : k[i] = n
    · refine ev_pos (by rw [decide_eq_true c] at hs; exact eq_of_beq hs) (ev_is ?_)
      rw [ixOf_eq i hi c (fun j hj => hp j hj (by omega)), if_pos hi]
    · refine ev_neg (fun h => by rw [decide_eq_false c, h] at hs; simp at hs) ?_
      rw [w64s i (by omega)]
      exact ih (i + 1) (by omega) fun j hj hj2 => by
        by_cases q : j = i
        · subst q; exact c
        · exact hp j (by omega) hj2
theorem l2find_ev (v : S30) (hv : SmV v) (n : List Int) (hn : By n) : Ev (fun k => spec_l2find.f k v.f0 v.f1 v.f2 v.f3 v.f4 n) (if ixOf v.f3 n < v.f3.length then (ixOf v.f3 n : Int) else -1) := by
  obtain ⟨_, w0, w1, w2, w3, w4, w5, w6, w7⟩ := hv
  unfold spec_l2find.f
  exact l2find_l0 v.f3 n (fun x hx => (w5 x hx).2) hn w4 _ _ _ _ v.f3.length 0 (by omega) (fun j hj => by omega)
/-! spec_l3kid -/
theorem form_map {v : S30} (fa : formOk v = true) (h5 : v.f0 = 5) : v.f3.length = v.f4.length ∧ keysOk v.f3 = true := by
  unfold formOk at fa
  rw [if_neg (by omega), if_neg (by omega), if_neg (by omega), if_neg (by omega), if_neg (by omega), if_pos h5] at fa
  simp only [Bool.and_eq_true, decide_eq_true_eq] at fa
  exact ⟨fa.1, fa.2.1⟩
theorem form_nokeys {v : S30} (fa : formOk v = true) (h5 : v.f0 ≠ 5) : v.f3 = [] := by
  unfold formOk at fa
  refine List.eq_nil_of_length_eq_zero ?_
  repeat' split at fa
  all_goals simp_all
theorem form_keys {v : S30} (fa : formOk v = true) : keysOk v.f3 = true := by
  by_cases h5 : v.f0 = 5
  · exact (form_map fa h5).2
  · rw [form_nokeys fa h5]; rfl
theorem allShaped_in : ∀ (l : List S30) (n : Nat), allShaped l n = true → ∀ x ∈ l, shaped x n = true
  | [], _, _, x, hx => by cases hx
  | y :: l, n, h, x, hx => by
    rw [allShaped, Bool.and_eq_true] at h
    rcases List.mem_cons.1 hx with rfl | hx
    · exact h.1
    · exact allShaped_in l n h.2 x hx
/-- Of its form to the bottom. -/
def Good (x : S30) : Prop := ∃ n, shaped x n = true
theorem good_form {x : S30} (h : Good x) : formOk x = true := by
  obtain ⟨n, h⟩ := h
  cases n with
  | zero => rw [shaped_0] at h; cases h
  | succ n => rw [shaped_s, Bool.and_eq_true] at h; exact h.1
theorem good_child {x y : S30} (h : Good x) (hy : y ∈ x.f4) : Good y := by
  obtain ⟨n, h⟩ := h
  cases n with
  | zero => rw [shaped_0] at h; cases h
  | succ n => rw [shaped_s, Bool.and_eq_true] at h; exact ⟨n, allShaped_in _ _ h.2 _ hy⟩
theorem good_of {x : S30} (h : valOk x = true) : Good x := by
  unfold valOk at h
  rw [Bool.and_eq_true] at h
  exact ⟨5, h.1⟩
/-- Where a step leads among a value's parts. -/
def kidV (x : S30) (s : S79) : Option Nat := if s.f0 = 0 then (if x.f0 = 5 ∧ ixOf x.f3 s.f1 < x.f3.length then some (ixOf x.f3 s.f1) else none) else (if x.f0 = 4 ∧ s.f2 < x.f4.length then some s.f2.toNat else none)
def kidI : Option Nat → Int
  | none => -1
  | some i => i
theorem step_item {s : S79} (h : stepOk s = true) (h0 : s.f0 ≠ 0) : s.f0 = 1 ∧ 0 ≤ s.f2 := by
  unfold stepOk at h
  rw [if_neg h0] at h
  simp only [Bool.and_eq_true, decide_eq_true_eq] at h
  exact ⟨h.1.1, h.2.1⟩
theorem kid_lt {x : S30} {s : S79} {i : Nat} (hf : formOk x = true) (hs : stepOk s = true) (h : kidV x s = some i) : i < x.f4.length := by
  unfold kidV at h
  split at h
  · split at h
    · rename_i q
      have := (form_map hf q.1).1
      injection h with h
      omega
    · cases h
  · rename_i h0
    have := (step_item hs h0).2
    split at h
    · rename_i q
      injection h with h
      omega
    · cases h
theorem l3kid_ev (x : S30) (hv : SmV x) (s : S79) (hb : By s.f1) (hs : stepOk s = true) : Ev (fun k => spec_l3kid.f k x.f0 x.f1 x.f2 x.f3 x.f4 s.f0 s.f1 s.f2) (kidI (kidV x s)) := by
  unfold spec_l3kid.f
  by_cases h0 : s.f0 = 0
  · refine ev_pos h0 (Ev.step (fun _ => spec_l3kid.j0.eq_2 ..) ?_)
    by_cases h5 : x.f0 = 5
    · refine ev_pos (by simpa using h5) (Ev.bind (l2find_ev x hv s.f1 hb) (ev_is ?_))
      by_cases c : ixOf x.f3 s.f1 < x.f3.length
      · have e : kidV x s = some (ixOf x.f3 s.f1) := by unfold kidV; rw [if_pos h0, if_pos (And.intro h5 c)]
        rw [e, if_pos c]; rfl
      · have e : kidV x s = none := by unfold kidV; rw [if_pos h0, if_neg (fun q => c q.2)]
        rw [e, if_neg c]; rfl
    · have e : kidV x s = none := by unfold kidV; rw [if_pos h0, if_neg (fun q => h5 q.1)]
      rw [e]
      exact ev_neg (by simpa using h5) (ev_neg (by omega) (Ev.now _))
  · obtain ⟨h1, h2⟩ := step_item hs h0
    refine ev_neg h0 (Ev.step (fun _ => spec_l3kid.j0.eq_2 ..) (ev_neg (by decide) (ev_pos h1 ?_)))
    by_cases h4 : x.f0 = 4
    · refine ev_pos h4 ?_
      by_cases c : s.f2 < x.f4.length
      · have e : kidV x s = some s.f2.toNat := by unfold kidV; rw [if_neg h0, if_pos (And.intro h4 c)]
        rw [e]
        exact ev_pos c (ev_is (show s.f2 = ((s.f2.toNat : Nat) : Int) by omega))
      · have e : kidV x s = none := by unfold kidV; rw [if_neg h0, if_neg (fun q => c q.2)]
        rw [e]
        exact ev_neg c (Ev.now _)
    · have e : kidV x s = none := by unfold kidV; rw [if_neg h0, if_neg (fun q => h4 q.1)]
      rw [e]
      exact ev_neg h4 (Ev.now _)
/-! spec_At -/
/-- What lies in a value at a path. -/
def atV : S30 → List S79 → Option S30
  | x, [] => some x
  | x, s :: p => match kidV x s with
    | none => none
    | some i => atV (x.f4.getD i ⟨0, 0, [], [], []⟩) p
def res6 : Option S30 → Int × Int × List Int × List (List Int) × List S30 × Bool
  | none => (0, 0, [], [], [], false)
  | some y => (y.f0, y.f1, y.f2, y.f3, y.f4, true)
theorem spec_At_l0 (l : List S79) (hl : l.length ≤ 1048576) (hb : ∀ s ∈ l, By s.f1) (ho : ∀ s ∈ l, stepOk s = true) : ∀ (d i : Nat) (x : S30), i + d = l.length → SmV x → Good x →
    Ev (fun k => spec_At.l0 k l (i : Int) x.f0 x.f1 x.f2 x.f3 x.f4) (res6 (atV x (l.drop i))) := by
  intro d
  induction d with
  | zero =>
    intro i x hd hv hg
    rw [List.drop_eq_nil_of_le (by omega)]
    exact Ev.step (fun _ => spec_At.l0.eq_2 ..) (ev_neg (by omega) (Ev.bind (l2own_ev x hv) (Ev.now _)))
  | succ d ih =>
    intro i x hd hv hg
    have hi : i < l.length := by omega
    have hm := List.getElem_mem hi
    rw [drop_at l i hi]
    refine Ev.step (fun _ => spec_At.l0.eq_2 ..) (ev_pos (by omega) (ev_pos (by omega) ?_))
    rw [rdS l i hi]
    refine Ev.bind (l3kid_ev x hv l[i] (hb _ hm) (ho _ hm)) ?_
    unfold atV
    cases e : kidV x l[i] with
    | none => exact ev_pos (by decide) (Ev.now _)
    | some j =>
      have hj := kid_lt (good_form hg) (ho _ hm) e
      refine ev_neg (show ¬ ((j : Nat) : Int) < 0 by omega) (ev_pos (show (0 : Int) ≤ ((j : Nat) : Int) by omega) (ev_pos (show ((j : Nat) : Int) < (x.f4.length : Int) by omega) ?_))
      dsimp only [kidI]
      rw [w64s i (by omega), rdV _ _ hj, getDN _ _ _ hj]
      exact ih (i + 1) _ (by omega) (smV_child hv _ (List.getElem_mem hj)) (good_child hg (List.getElem_mem hj))
theorem path_facts {l : List S79} (h : pathOk l = true) : l.length ≤ 6 ∧ ∀ s ∈ l, stepOk s = true := by
  unfold pathOk at h
  rw [Bool.and_eq_true] at h
  exact ⟨of_decide_eq_true h.1, fun s hs => List.all_eq_true.1 h.2 s hs⟩
def atR (x : S30) (l : List S79) : Option S30 := if valOk x = true ∧ pathOk l = true then atV x l else none
theorem spec_At_ev (x : S30) (hv : SmV x) (l : List S79) (hl : l.length ≤ 1048576) (hk : ∀ s ∈ l, s.f1.length ≤ 1048576) (hb : ∀ s ∈ l, By s.f1) : Ev (fun k => spec_At.f k x.f0 x.f1 x.f2 x.f3 x.f4 l) (res6 (atR x l)) := by
  unfold spec_At.f atR
  refine Ev.bind (spec_ValOk_ev x hv) (ev_ite (fun h => ?_) (fun h => ?_))
  · refine Ev.bind (spec_PathOk_ev l hl hk) (Ev.step (fun _ => spec_At.j0.eq_2 ..) ?_)
    cases hp : pathOk l
    · rw [if_neg (show ¬ (valOk x = true ∧ false = true) from fun q => by cases q.2)]
      exact ev_pos rfl (Ev.now _)
    · rw [if_pos (show valOk x = true ∧ true = true from ⟨h, rfl⟩)]
      have := spec_At_l0 l hl hb (path_facts hp).2 l.length 0 x (by omega) hv (good_of h)
      exact ev_neg (by decide) (by simpa using this)
  · rw [if_neg (show ¬ (valOk x = true ∧ pathOk l = true) from fun q => h q.1)]
    exact Ev.step (fun _ => spec_At.j0.eq_2 ..) (ev_pos rfl (Ev.now _))
/-! laws_toStep -/
theorem toStep_ev (x : Int) (l : List Int) (y : Int) (hl : l.length ≤ 281474976710656) : Ev (fun k => laws_toStep.f k x l y) (x, l, y) := by
  unfold laws_toStep.f
  exact Ev.bind (toByteS_ev l hl) (Ev.now _)
/-! laws_toStepS -/
theorem toStepS_l0 (l : List S102) (hl : l.length ≤ 1048576) (hk : ∀ s ∈ l, s.f1.length ≤ 1048576) : ∀ (d i : Nat) (out : List S79), i + d = l.length → out.length = l.length → out.take i = (l.map stepTo).take i → Ev (fun k => laws_toStepS.l0 k l out (i : Int)) (l.map stepTo) := by
  intro d
  induction d with
  | zero =>
    intro i out hd ho ht
    refine Ev.step (fun _ => laws_toStepS.l0.eq_2 ..) (ev_neg (by omega) (ev_is ?_))
    rwa [List.take_of_length_le (by omega), List.take_of_length_le (by rw [List.length_map]; omega)] at ht
  | succ d ih =>
    intro i out hd ho ht
    have hi : i < l.length := by omega
    refine Ev.step (fun _ => laws_toStepS.l0.eq_2 ..) (ev_pos (by omega) (ev_pos (by omega) ?_))
    rw [rdLS l i hi]
    have hs := hk _ (List.getElem_mem hi)
    refine Ev.bind (toStep_ev _ _ _ (by omega)) (ev_pos (by omega) ?_)
    rw [w64s i (by omega), Int.toNat_natCast]
    refine ih (i + 1) _ (by omega) (by rw [List.length_set]; exact ho) ?_
    rw [List.take_succ_eq_append_getElem (by rw [List.length_set]; omega), List.take_succ_eq_append_getElem (by rw [List.length_map]; omega), List.take_set_of_le (by omega), ht, List.getElem_set_self, List.getElem_map]
    rfl
theorem toStepS_ev (l : List S102) (hl : l.length ≤ 1048576) (hk : ∀ s ∈ l, s.f1.length ≤ 1048576) : Ev (fun k => laws_toStepS.f k l) (l.map stepTo) := by
  unfold laws_toStepS.f
  exact ev_pos (by omega) (ev_pos (by omega) (toStepS_l0 l hl hk l.length 0 _ (by omega) (by simp) (by simp)))
/-! impl_copyBytes -/
theorem copyBytes_eq (b : List Int) (hb : b.length < 140737488355328) : impl_copyBytes.f b = some b := by
  unfold impl_copyBytes.f
  simp only [Option.bind_some, List.length_nil, Nat.zero_add, List.nil_append]
  rw [if_pos hb]
/-! impl_copyTexts -/
theorem copyTexts_l0 (l : List (List Int)) (hl : l.length ≤ 1048576) (hk : ∀ x ∈ l, x.length ≤ 1048576) : ∀ (d i : Nat), i + d = l.length → Ev (fun k => impl_copyTexts.l0 k (l.take i) l (l.length : Int) (i : Int)) l := by
  intro d
  induction d with
  | zero =>
    intro i hd
    refine Ev.step (fun _ => impl_copyTexts.l0.eq_2 ..) (ev_neg (by omega) (ev_is ?_))
    rw [List.take_of_length_le (by omega)]
  | succ d ih =>
    intro i hd
    have hi : i < l.length := by omega
    have hs := hk _ (List.getElem_mem hi)
    refine Ev.step (fun _ => impl_copyTexts.l0.eq_2 ..) (ev_pos (by omega) (ev_pos (by omega) (ev_pos (by omega) ?_)))
    rw [rdR l i hi]
    refine Ev.bind (ev_const (copyBytes_eq _ (by omega))) (ev_pos (by rw [List.length_take]; omega) ?_)
    rw [w64s i (by omega), ← List.take_succ_eq_append_getElem hi]
    exact ih (i + 1) (by omega)
theorem copyTexts_ev (l : List (List Int)) (hl : l.length ≤ 1048576) (hk : ∀ x ∈ l, x.length ≤ 1048576) : Ev (fun k => impl_copyTexts.f k l) l := by
  unfold impl_copyTexts.f
  have := copyTexts_l0 l hl hk l.length 0 (by omega)
  simpa using this
/-! impl_copyValue -/
theorem copyValue_l0 (l : List S30) (a b : Int) (s : List Int) (ks : List (List Int)) (hl : l.length ≤ 1048576) (hx : ∀ x ∈ l, Ev (fun k => impl_copyValue.f k x.f0 x.f1 x.f2 x.f3 x.f4) (x.f0, x.f1, x.f2, x.f3, x.f4)) : ∀ (d i : Nat), i + d = l.length →
    Ev (fun k => impl_copyValue.l0 k l (l.length : Int) (i : Int) a b s ks (l.take i)) (a, b, s, ks, l) := by
  intro d
  induction d with
  | zero =>
    intro i hd
    refine Ev.step (fun _ => impl_copyValue.l0.eq_2 ..) (ev_neg (by omega) (ev_is ?_))
    rw [List.take_of_length_le (by omega)]
  | succ d ih =>
    intro i hd
    have hi : i < l.length := by omega
    refine Ev.step (fun _ => impl_copyValue.l0.eq_2 ..) (ev_pos (by omega) (ev_pos (by omega) (ev_pos (by omega) ?_)))
    rw [rdV l i hi]
    refine Ev.bind (hx _ (List.getElem_mem hi)) (ev_pos (by rw [List.length_take]; omega) ?_)
    rw [w64s i (by omega)]
    have e : l.take i ++ [(⟨l[i].f0, l[i].f1, l[i].f2, l[i].f3, l[i].f4⟩ : S30)] = l.take (i + 1) := by
      rw [V_eta, List.take_succ_eq_append_getElem hi]
    rw [e]
    exact ih (i + 1) (by omega)
theorem copyValue_ev : ∀ v : S30, SmV v → Ev (fun k => impl_copyValue.f k v.f0 v.f1 v.f2 v.f3 v.f4) (v.f0, v.f1, v.f2, v.f3, v.f4) := by
  refine vind fun v ih hv => ?_
  obtain ⟨_, w0, w1, w2, w3, w4, w5, w6, w7⟩ := hv
  refine Ev.step (fun _ => impl_copyValue.f.eq_2 ..) (Ev.bind (ev_const (copyBytes_eq _ (by omega))) (Ev.bind (copyTexts_ev _ w4 (fun x hx => (w5 x hx).1)) ?_))
  have := copyValue_l0 v.f4 v.f0 v.f1 v.f2 v.f3 w6 (fun x hx => ih x hx (w7 x hx)) v.f4.length 0 (by omega)
  simpa using this
/-! bytes_Compare -/
theorem bytes_Compare_eq (a b : List Int) (ha : By a) (hb : By b) : bytes_Compare.f a b = some (cmpB a b) := by
  unfold bytes_Compare.f
  rw [bytes_cmp ha hb]
/-! impl_in -/
theorem in_eq (n lo hi : Int) : impl_in.f n lo hi = some (decide (lo ≤ n ∧ n ≤ hi)) := by
  unfold impl_in.f
  by_cases h : n ≥ lo
  · rw [if_pos h]; simp [h]
  · rw [if_neg h]; simp; omega
/-! impl_isName -/
theorem impl_isName_l0 (b : List Int) (hl : b.length ≤ 4611686018427387903) : ∀ (d i : Nat), i + d = b.length → Ev (fun k => impl_isName.l0 k b b (b.length : Int) (i : Int)) (((b.drop i).all fun x => decide (97 ≤ x ∧ x ≤ 122)) && decide (1 ≤ b.length ∧ b.length ≤ 8)) := by
  intro d
  induction d with
  | zero =>
    intro i hd
    refine Ev.step (fun _ => impl_isName.l0.eq_2 ..) (ev_neg (by omega) (ev_ret (ev_const ?_)))
    rw [in_eq, List.drop_eq_nil_of_le (by omega)]
    congr 1
    rw [List.all_nil, Bool.true_and]
    exact decide_eq_decide.2 (by omega)
  | succ d ih =>
    intro i hd
    refine Ev.step (fun _ => impl_isName.l0.eq_2 ..) (ev_pos (by omega) (ev_pos (by omega) (ev_pos (by omega) ?_)))
    rw [drop_rd b i (by omega), List.all_cons, w64s i (by omega)]
    by_cases h1 : rd b (i : Int) < 97
    · refine ev_pos h1 (ev_is ?_)
      rw [decide_eq_false (by omega)]; rfl
    · refine ev_neg h1 ?_
      by_cases h2 : rd b (i : Int) > 122
      · refine ev_pos h2 (ev_is ?_)
        rw [decide_eq_false (by omega)]; rfl
      · refine ev_neg h2 (ev_eq (ih (i + 1) (by omega)) ?_)
        rw [decide_eq_true (show 97 ≤ rd b (i : Int) ∧ rd b (i : Int) ≤ 122 by omega), Bool.true_and]
theorem impl_isName_ev (b : List Int) (hl : b.length ≤ 4611686018427387903) : Ev (fun k => impl_isName.f k b) (isName b) := by
  unfold impl_isName.f isName
  refine ev_eq (impl_isName_l0 b hl b.length 0 (by omega)) ?_
  rw [List.drop_zero, Bool.and_comm]
/-! impl_isText -/
theorem impl_isText_l0 (b : List Int) (hl : b.length ≤ 4611686018427387903) : ∀ (d i : Nat), i + d = b.length → Ev (fun k => impl_isText.l0 k b b (b.length : Int) (i : Int)) (((b.drop i).all fun x => decide (32 ≤ x ∧ x ≤ 126)) && decide (b.length ≤ 20)) := by
  intro d
  induction d with
  | zero =>
    intro i hd
    refine Ev.step (fun _ => impl_isText.l0.eq_2 ..) (ev_neg (by omega) (ev_is ?_))
    rw [List.drop_eq_nil_of_le (by omega), List.all_nil, Bool.true_and]
    exact decide_eq_decide.2 (by omega)
  | succ d ih =>
    intro i hd
    refine Ev.step (fun _ => impl_isText.l0.eq_2 ..) (ev_pos (by omega) (ev_pos (by omega) (ev_pos (by omega) ?_)))
    rw [drop_rd b i (by omega), List.all_cons, w64s i (by omega)]
    by_cases h1 : rd b (i : Int) < 32
    · refine ev_pos h1 (ev_is ?_)
      rw [decide_eq_false (by omega)]; rfl
    · refine ev_neg h1 ?_
      by_cases h2 : rd b (i : Int) > 126
      · refine ev_pos h2 (ev_is ?_)
        rw [decide_eq_false (by omega)]; rfl
      · refine ev_neg h2 (ev_eq (ih (i + 1) (by omega)) ?_)
        rw [decide_eq_true (show 32 ≤ rd b (i : Int) ∧ rd b (i : Int) ≤ 126 by omega), Bool.true_and]
theorem impl_isText_ev (b : List Int) (hl : b.length ≤ 4611686018427387903) : Ev (fun k => impl_isText.f k b) (isText b) := by
  unfold impl_isText.f isText
  refine ev_eq (impl_isText_l0 b hl b.length 0 (by omega)) ?_
  rw [List.drop_zero, Bool.and_comm]
/-! impl_isShaped -/
theorem indexShaped_l0 (l : List S30) (hl : l.length ≤ 1048576) (n : Nat) (hn : n ≤ 10) (hx : ∀ x ∈ l, Ev (fun k => impl_isShaped.f k x.f0 x.f1 x.f2 x.f3 x.f4 (n : Int)) (shaped x n)) :
    ∀ (d i : Nat), i + d = l.length → ∃ r : Int, Ev (fun k => x_IndexFunc_at_impl_isShaped_1.l0 k l ((n + 1 : Nat) : Int) (l.length : Int) (i : Int)) r ∧ decide (r ≥ 0) = !allShaped (l.drop i) n := by
  intro d
  induction d with
  | zero =>
    intro i hd
    refine ⟨-1, Ev.step (fun _ => x_IndexFunc_at_impl_isShaped_1.l0.eq_2 ..) (ev_neg (by omega) (Ev.now _)), ?_⟩
    rw [List.drop_eq_nil_of_le (by omega), allShaped]; rfl
  | succ d ih =>
    intro i hd
    have hi : i < l.length := by omega
    obtain ⟨r, hr, hd2⟩ := ih (i + 1) (by omega)
    have hs : Ev (fun k => impl_isShaped_1.f k l[i].f0 l[i].f1 l[i].f2 l[i].f3 l[i].f4 ((n + 1 : Nat) : Int)) (!shaped l[i] n) := by
      refine Ev.step (fun _ => impl_isShaped_1.f.eq_2 ..) ?_
      rw [w64 (by omega) (by omega), show ((n + 1 : Nat) : Int) - 1 = (n : Int) by omega]
      exact Ev.bind (hx _ (List.getElem_mem hi)) (Ev.now _)
    rw [drop_at l i hi, allShaped]
    by_cases h : shaped l[i] n = true
    · refine ⟨r, Ev.step (fun _ => x_IndexFunc_at_impl_isShaped_1.l0.eq_2 ..) (ev_pos (by omega) (ev_pos (by omega) (ev_pos (by omega) ?_))), by rw [hd2, h]; rfl⟩
      rw [rdV l i hi, w64s i (by omega)]
      exact Ev.bind hs (ev_neg (by rw [h]; decide) hr)
    · refine ⟨i, Ev.step (fun _ => x_IndexFunc_at_impl_isShaped_1.l0.eq_2 ..) (ev_pos (by omega) (ev_pos (by omega) (ev_pos (by omega) ?_))), by simp [h]⟩
      rw [rdV l i hi]
      exact Ev.bind hs (ev_pos (by simp [h]) (Ev.now _))
theorem containsShaped_ev (l : List S30) (hl : l.length ≤ 1048576) (n : Nat) (hn : n ≤ 10) (hx : ∀ x ∈ l, Ev (fun k => impl_isShaped.f k x.f0 x.f1 x.f2 x.f3 x.f4 (n : Int)) (shaped x n)) :
    Ev (fun k => x_ContainsFunc_at_impl_isShaped_1.f k l ((n + 1 : Nat) : Int)) (!allShaped l n) := by
  obtain ⟨r, hr, hd⟩ := indexShaped_l0 l hl n hn hx l.length 0 (by omega)
  refine Ev.step (fun _ => x_ContainsFunc_at_impl_isShaped_1.f.eq_2 ..) (Ev.bind (a := r) (Ev.step (fun _ => x_IndexFunc_at_impl_isShaped_1.f.eq_2 ..) hr) (ev_is ?_))
  rw [hd, List.drop_zero]
theorem isShaped_l0 (v : S30) (hv : SmV v) (n : Nat) (hn : n ≤ 10) (hx : ∀ x ∈ v.f4, Ev (fun k => impl_isShaped.f k x.f0 x.f1 x.f2 x.f3 x.f4 (n : Int)) (shaped x n)) (p q : Bool) :
    ∀ (d i : Nat), i + d = v.f3.length → Ev (fun k => impl_isShaped.l0 k p q v.f3 (v.f3.length : Int) (i : Int) v.f0 v.f1 v.f2 v.f3 v.f4 ((n + 1 : Nat) : Int)) (keysFrom v.f3 d i && (p && (q && (decide (v.f4.length ≤ 40) && allShaped v.f4 n)))) := by
  obtain ⟨_, w0, w1, w2, w3, w4, w5, w6, w7⟩ := hv
  intro d
  induction d with
  | zero =>
    intro i hd
    refine Ev.step (fun _ => impl_isShaped.l0.eq_2 ..) (ev_neg (by omega) ?_)
    rw [keysFrom, Bool.true_and]
    refine ev_and fun _ => ev_and fun _ => ?_
    rw [show decide (v.f4.length ≤ 40) = decide ((v.f4.length : Int) ≤ 40) from decide_eq_decide.2 (by omega)]
    refine ev_andP fun _ => Ev.bind (containsShaped_ev v.f4 w6 n hn hx) (ev_is ?_)
    rw [Bool.not_not]
  | succ d ih =>
    intro i hd
    have hi3 : i < v.f3.length := by omega
    refine Ev.step (fun _ => impl_isShaped.l0.eq_2 ..) (ev_pos (by omega) (ev_pos (by omega) (ev_pos (by omega) ?_)))
    rw [rdR v.f3 i hi3, w64s i (by omega), keysFrom]
    have hln := (w5 _ (List.getElem_mem hi3)).1
    refine Ev.bind (impl_isName_ev _ (by omega)) (ev_ite (fun hnm => ?_) (fun hnm => ev_is ?_))
    · rcases Nat.eq_zero_or_pos i with hz | hz
      · subst hz
        refine ev_neg (by omega) ?_
        rw [keyAt_0 _ hi3, hnm, Bool.true_and]
        exact ih 1 (by omega)
      · refine ev_pos (by omega) ?_
        rw [w64 (by omega) (by omega)]
        refine ev_pos (by omega) (ev_pos (by omega) ?_)
        obtain ⟨j, rfl⟩ : ∃ j, i = j + 1 := ⟨i - 1, by omega⟩
        have e : (((j + 1 : Nat) : Int) - 1) = (j : Int) := by omega
        rw [e, rdR v.f3 j (by omega), keyAt_s _ _ hi3, hnm, Bool.true_and]
        have hr := cmpB_range v.f3[j] v.f3[j + 1]
        refine Ev.bind (ev_const (bytes_Compare_eq _ _ (w5 _ (List.getElem_mem _)).2 (w5 _ (List.getElem_mem _)).2)) (ev_ite (fun h => ev_is ?_) (fun h => ?_))
        · rw [decide_eq_false (by omega)]; rfl
        · rw [decide_eq_true (by omega), Bool.true_and]
          exact ih (j + 1 + 1) (by omega)
    · rw [Bool.not_eq_true] at hnm
      unfold keyAt; rw [getDN _ _ _ hi3, hnm]; rfl
theorem isShaped_j0 (v : S30) (hv : SmV v) (n : Nat) (hn : n ≤ 10) (hx : ∀ x ∈ v.f4, Ev (fun k => impl_isShaped.f k x.f0 x.f1 x.f2 x.f3 x.f4 (n : Int)) (shaped x n)) (b : Bool) (hb : b = decide (v.f0 = 0 ∨ v.f0 = 6)) :
    Ev (fun k => impl_isShaped.j0 k (v.f1 == 0) ((v.f2.length : Int) == 0) ((v.f3.length : Int) == 0) ((v.f4.length : Int) == 0) v.f0 b v.f0 v.f1 v.f2 v.f3 v.f4 ((n + 1 : Nat) : Int)) (formOk v && allShaped v.f4 n) := by
  have L := isShaped_l0 v hv n hn hx
  obtain ⟨_, w0, w1, w2, w3, w4, w5, w6, w7⟩ := hv
  have N4 : ∀ c : Bool, (c && decide (v.f4.length = 0)) = ((c && decide (v.f4.length = 0)) && allShaped v.f4 n) := by
    intro c
    by_cases h : v.f4.length = 0
    · rw [shaped_none h, Bool.and_true]
    · rw [decide_eq_false h, Bool.and_false, Bool.false_and]
  subst hb
  rw [beqI, beq0, beq0, beq0]
  refine Ev.step (fun _ => impl_isShaped.j0.eq_2 ..) ?_
  unfold formOk
  by_cases c0 : v.f0 = 0 ∨ v.f0 = 6
  · refine ev_pos (decide_eq_true c0) ?_
    rw [if_pos c0, ← Bool.and_assoc (decide (v.f1 = 0)), ← Bool.and_assoc _ (decide (v.f3.length = 0)), ← N4, Bool.and_assoc, Bool.and_assoc]
    exact ev_and fun _ => ev_and fun _ => ev_and fun _ => Ev.now _
  refine ev_neg (by simpa using c0) ?_
  rw [if_neg c0]
  by_cases c1 : v.f0 = 1
  · refine ev_pos c1 ?_
    rw [if_pos c1, ← Bool.and_assoc (decide _) (decide (v.f2.length = 0)), ← Bool.and_assoc _ (decide (v.f3.length = 0)), ← N4, Bool.and_assoc, Bool.and_assoc]
    exact Ev.bind (ev_const (in_eq _ _ _)) (ev_and fun _ => ev_and fun _ => ev_and fun _ => Ev.now _)
  refine ev_neg c1 ?_
  rw [if_neg c1]
  by_cases c2 : v.f0 = 2
  · refine ev_pos c2 ?_
    rw [if_pos c2, ← Bool.and_assoc (decide _) (decide (v.f2.length = 0)), ← Bool.and_assoc _ (decide (v.f3.length = 0)), ← N4, Bool.and_assoc, Bool.and_assoc]
    exact Ev.bind (ev_const (in_eq _ _ _)) (ev_and fun _ => ev_and fun _ => ev_and fun _ => Ev.now _)
  refine ev_neg c2 ?_
  rw [if_neg c2]
  by_cases c3 : v.f0 = 3
  · refine ev_pos c3 ?_
    rw [if_pos c3, ← Bool.and_assoc (isText _) (decide (v.f1 = 0)), ← Bool.and_assoc _ (decide (v.f3.length = 0)), ← N4, Bool.and_assoc, Bool.and_assoc]
    exact Ev.bind (impl_isText_ev _ (by omega)) (ev_and fun _ => ev_and fun _ => ev_and fun _ => Ev.now _)
  refine ev_neg c3 ?_
  rw [if_neg c3]
  have e40 : decide (v.f4.length ≤ 40) = decide ((v.f4.length : Int) ≤ 40) := decide_eq_decide.2 (by omega)
  by_cases c4 : v.f0 = 4
  · refine ev_pos c4 ?_
    rw [if_pos c4, e40]
    simp only [Bool.and_assoc]
    refine ev_and fun _ => ev_and fun _ => ev_and fun _ => ev_andP fun _ => Ev.bind (containsShaped_ev v.f4 w6 n hn hx) (ev_is ?_)
    rw [Bool.not_not]
  refine ev_neg c4 ?_
  rw [if_neg c4]
  by_cases c5 : v.f0 = 5
  · refine ev_pos c5 ?_
    rw [if_pos c5, show decide (v.f3.length = v.f4.length) = decide ((v.f3.length : Int) = (v.f4.length : Int)) from decide_eq_decide.2 (by omega)]
    simp only [Bool.and_assoc]
    refine ev_andP fun _ => ?_
    exact L _ _ v.f3.length 0 (by omega)
  · refine ev_neg c5 (ev_is ?_)
    rw [if_neg c5, Bool.false_and]
theorem isShaped_ev : ∀ v : S30, SmV v → ∀ n : Nat, n ≤ 10 → Ev (fun k => impl_isShaped.f k v.f0 v.f1 v.f2 v.f3 v.f4 (n : Int)) (shaped v n) := by
  refine vind fun v ih hv n hn => ?_
  have hc : ∀ x ∈ v.f4, SmV x := by obtain ⟨_, w0, w1, w2, w3, w4, w5, w6, w7⟩ := hv; exact w7
  refine Ev.step (fun _ => impl_isShaped.f.eq_2 ..) ?_
  cases n with
  | zero => exact ev_pos rfl (ev_is (shaped_0 v).symm)
  | succ n =>
    rw [shaped_s]
    have J := isShaped_j0 v hv n (by omega) (fun x hx => ih x hx (hc x hx) n (by omega))
    refine ev_neg (by omega) (ev_ite (fun h => J _ ?_) (fun h => J _ ?_))
    · rw [h]; rfl
    · by_cases h6 : v.f0 = 6
      · rw [h6]; rfl
      · rw [decide_eq_false (by omega), beq_eq_false_iff_ne]; exact h6
/-! impl_Value_parts -/
theorem parts_l0 (l : List S30) (hl : l.length ≤ 1048576) (hx : ∀ v ∈ l, Ev (fun k => impl_Value_parts.f k v.f0 v.f1 v.f2 v.f3 v.f4) (nV v : Int)) : ∀ (d i : Nat) (a : Nat), i + d = l.length → a + nVs (l.drop i) ≤ 4611686018427387903 →
    Ev (fun k => impl_Value_parts.l0 k (a : Int) l (l.length : Int) (i : Int)) ((a + nVs (l.drop i) : Nat) : Int) := by
  intro d
  induction d with
  | zero =>
    intro i a hd ha
    refine Ev.step (fun _ => impl_Value_parts.l0.eq_2 ..) (ev_neg (by omega) (ev_is ?_))
    rw [List.drop_eq_nil_of_le (by omega), nVs, Nat.add_zero]
  | succ d ih =>
    intro i a hd ha
    have hi : i < l.length := by omega
    rw [drop_at l i hi, nVs] at ha ⊢
    refine Ev.step (fun _ => impl_Value_parts.l0.eq_2 ..) (ev_pos (by omega) (ev_pos (by omega) (ev_pos (by omega) ?_)))
    rw [rdV l i hi]
    refine Ev.bind (hx _ (List.getElem_mem hi)) ?_
    rw [w64s i (by omega), w64 (by omega) (by omega), ← Int.natCast_add, ← Nat.add_assoc]
    exact ih (i + 1) (a + nV l[i]) (by omega) (by omega)
theorem parts_ev : ∀ v : S30, SmV v → nV v ≤ 4611686018427387903 → Ev (fun k => impl_Value_parts.f k v.f0 v.f1 v.f2 v.f3 v.f4) (nV v : Int) := by
  refine vind fun v ih hw hn => ?_
  obtain ⟨_, w0, w1, w2, w3, w4, w5, w6, w7⟩ := hw
  rw [nV_eq] at hn ⊢
  refine Ev.step (fun _ => impl_Value_parts.f.eq_2 ..) (ev_eq (parts_l0 v.f4 w6 (fun x hx => ih x hx (w7 x hx) (by have := nVs_mem hx; omega)) v.f4.length 0 1 (by omega) (by rw [List.drop_zero]; omega)) ?_)
  rw [List.drop_zero]
/-! impl_isValue -/
theorem isValue_ev (v : S30) (hv : SmV v) (hn : nV v ≤ 4611686018427387903) : Ev (fun k => impl_isValue.f k v.f0 v.f1 v.f2 v.f3 v.f4) (valOk v) := by
  unfold impl_isValue.f valOk
  refine Ev.bind (isShaped_ev v hv 5 (by omega)) (ev_and fun _ => Ev.bind (parts_ev v hv hn) (ev_is ?_))
  exact decide_eq_decide.2 (by omega)
/-! impl_isPath_1 -/
theorem impl_isPath_1_ev (s : S79) (hs : s.f1.length ≤ 1048576) : Ev (fun k => impl_isPath_1.f k s.f0 s.f1 s.f2) (!stepOk s) := by
  unfold impl_isPath_1.f stepOk
  by_cases h0 : s.f0 = 0
  · refine ev_pos h0 (Ev.bind (impl_isName_ev _ (by omega)) ?_)
    rw [if_pos h0]
    by_cases h1 : isName s.f1 = true
    · refine ev_pos h1 (ev_is ?_)
      rw [h1]
      by_cases h2 : s.f2 = 0 <;> simp [h2]
    · refine ev_neg h1 (ev_is ?_)
      simp [h1]
  · refine ev_neg h0 ?_
    rw [if_neg h0]
    by_cases h1 : s.f0 = 1
    · refine ev_pos h1 ?_
      by_cases h2 : s.f1.length = 0
      · refine ev_neg (by omega) (Ev.bind (ev_const (in_eq ..)) (ev_is ?_))
        rw [decide_eq_true h1, decide_eq_true h2]; rfl
      · refine ev_pos (by omega) (ev_is ?_)
        rw [decide_eq_false h2]; simp
    · refine ev_neg h1 (ev_is ?_)
      rw [decide_eq_false h1]; simp
/-! x_IndexFunc_at_impl_isPath_1 -/
theorem indexPath_l0 (l : List S79) (hl : l.length ≤ 1048576) (hk : ∀ s ∈ l, s.f1.length ≤ 1048576) : ∀ (d i : Nat), i + d = l.length → ∃ r, Ev (fun k => x_IndexFunc_at_impl_isPath_1.l0 k l (l.length : Int) (i : Int)) r ∧ decide (r ≥ 0) = !(l.drop i).all stepOk := by
  intro d
  induction d with
  | zero =>
    intro i hd
    refine ⟨-1, Ev.step (fun _ => x_IndexFunc_at_impl_isPath_1.l0.eq_2 ..) (ev_neg (by omega) (Ev.now _)), ?_⟩
    rw [List.drop_eq_nil_of_le (by omega)]; rfl
  | succ d ih =>
    intro i hd
    have hi : i < l.length := by omega
    have hs := hk _ (List.getElem_mem hi)
    obtain ⟨r, hr, hd2⟩ := ih (i + 1) (by omega)
    rw [drop_at l i hi, List.all_cons]
    by_cases h : stepOk l[i] = true
    · refine ⟨r, Ev.step (fun _ => x_IndexFunc_at_impl_isPath_1.l0.eq_2 ..) (ev_pos (by omega) (ev_pos (by omega) (ev_pos (by omega) ?_))), by rw [hd2, h]; rfl⟩
      rw [rdS l i hi, w64s i (by omega)]
      refine Ev.bind (impl_isPath_1_ev _ hs) (ev_neg (by rw [h]; decide) hr)
    · refine ⟨i, Ev.step (fun _ => x_IndexFunc_at_impl_isPath_1.l0.eq_2 ..) (ev_pos (by omega) (ev_pos (by omega) (ev_pos (by omega) ?_))), by simp [h]⟩
      rw [rdS l i hi]
      refine Ev.bind (impl_isPath_1_ev _ hs) (ev_pos (by simp [h]) (Ev.now _))
/-! x_ContainsFunc_at_impl_isPath_1 -/
theorem containsPath_ev (l : List S79) (hl : l.length ≤ 1048576) (hk : ∀ s ∈ l, s.f1.length ≤ 1048576) : Ev (fun k => x_ContainsFunc_at_impl_isPath_1.f k l) (!l.all stepOk) := by
  unfold x_ContainsFunc_at_impl_isPath_1.f x_IndexFunc_at_impl_isPath_1.f
  obtain ⟨r, hr, hd⟩ := indexPath_l0 l hl hk l.length 0 (by omega)
  exact Ev.bind hr (ev_is (by rw [hd, List.drop_zero]))
/-! impl_isPath -/
theorem impl_isPath_ev (l : List S79) (hl : l.length ≤ 1048576) (hk : ∀ s ∈ l, s.f1.length ≤ 1048576) : Ev (fun k => impl_isPath.f k l) (pathOk l) := by
  unfold impl_isPath.f pathOk
  by_cases h : l.length ≤ 6
  · refine ev_pos (by omega) (Ev.bind (containsPath_ev l hl hk) (ev_is ?_))
    rw [decide_eq_true h]; simp
  · refine ev_neg (by omega) (ev_is ?_)
    rw [decide_eq_false h]; rfl
theorem mid (a b : Nat) (h : a < b) (hb : b ≤ 1048576) : wrap64 ((IntKind.u64.wrap (wrap64 ((a : Int) + (b : Int)))) / 2) = (((a + b) / 2 : Nat) : Int) := by
  rw [w64 (x := (a : Int) + (b : Int)) (by omega) (by omega), IntKind.wrap_u64, w64 (by omega) (by omega)]; omega
theorem BSF_l0 (k : List (List Int)) (n : List Int) (hk : ∀ x ∈ k, By x) (hn : By n) (hl : k.length ≤ 1048576) (hs : ∀ i j (_ : i < j) (hj : j < k.length), cmpB k[i] k[j] = -1) : ∀ (d a b : Nat), b - a ≤ d → a ≤ b → b ≤ k.length →
    (∀ j (hj : j < k.length), j < a → cmpB k[j] n = -1) → (∀ j (hj : j < k.length), b ≤ j → cmpB k[j] n ≠ -1) →
    ∃ p, p ≤ k.length ∧ (∀ j (hj : j < k.length), j < p → cmpB k[j] n = -1) ∧ (∀ j (hj : j < k.length), p ≤ j → cmpB k[j] n ≠ -1) ∧ Ev (fun r => x_BinarySearchFunc_at_bytes_Compare.l0 r k n (k.length : Int) (a : Int) (b : Int)) ((p : Int), decide (k[p]? = some n)) := by
  intro d
  induction d with
  | zero =>
    intro a b hd hab hb h1 h2
    obtain rfl : a = b := by omega
    refine ⟨a, hb, h1, h2, Ev.step (fun _ => x_BinarySearchFunc_at_bytes_Compare.l0.eq_2 ..) (ev_neg (by omega) (ev_ite (fun c => ?_) (fun c => ?_)))⟩
    · have c' : a < k.length := by omega
      refine ev_pos (by omega) (ev_pos c ?_)
      rw [rdR k a c', List.getElem?_eq_getElem c']
      refine Ev.bind (ev_const (bytes_Compare_eq _ _ (hk _ (List.getElem_mem c')) hn)) (ev_is ?_)
      congr 1
      by_cases q : k[a] = n
      · rw [q, cmpB_refl]; simp
      · have : cmpB k[a] n ≠ 0 := fun h => q (cmpB_eq h)
        rw [beqI, decide_eq_false this, decide_eq_false (by simp [q])]
    · refine ev_is ?_
      rw [List.getElem?_eq_none (by omega), decide_eq_false (by simp)]
  | succ d ih =>
    intro a b hd hab hb h1 h2
    by_cases q : a < b
    · have hm : (a + b) / 2 < k.length := by omega
      have hkk := bytes_Compare_eq _ _ (hk _ (List.getElem_mem hm)) hn
      have e : ∀ (p : Nat) (o : Bool), (∀ r, Ev (fun r => x_BinarySearchFunc_at_bytes_Compare.l0 r k n (k.length : Int) (a : Int) (b : Int)) r ↔ Ev (fun r => if cmpB k[(a + b) / 2] n < 0 then x_BinarySearchFunc_at_bytes_Compare.l0 r k n (k.length : Int) (((a + b) / 2 + 1 : Nat) : Int) (b : Int) else x_BinarySearchFunc_at_bytes_Compare.l0 r k n (k.length : Int) (a : Int) (((a + b) / 2 : Nat) : Int)) r) → True := fun _ _ _ => trivial
      clear e
      have go : ∀ r, Ev (fun r => if cmpB k[(a + b) / 2] n < 0 then x_BinarySearchFunc_at_bytes_Compare.l0 r k n (k.length : Int) (((a + b) / 2 + 1 : Nat) : Int) (b : Int) else x_BinarySearchFunc_at_bytes_Compare.l0 r k n (k.length : Int) (a : Int) (((a + b) / 2 : Nat) : Int)) r → Ev (fun r => x_BinarySearchFunc_at_bytes_Compare.l0 r k n (k.length : Int) (a : Int) (b : Int)) r := by
        intro r h
        refine Ev.step (fun _ => x_BinarySearchFunc_at_bytes_Compare.l0.eq_2 ..) (ev_pos (by omega) ?_)
        rw [mid a b q (by omega), w64s _ (by omega), rdR k _ hm]
        exact ev_pos (by omega) (ev_pos (by omega) (Ev.bind (ev_const hkk) h))
      by_cases c : cmpB k[(a + b) / 2] n < 0
      · have c1 : cmpB k[(a + b) / 2] n = -1 := by rcases cmpB_range k[(a + b) / 2] n with h | h | h <;> omega
        obtain ⟨p, p0, p1, p2, p3⟩ := ih ((a + b) / 2 + 1) b (by omega) (by omega) hb (fun j hj hja => by
          by_cases z : j = (a + b) / 2
          · subst z; exact c1
          · exact cmpB_trans (hs j _ (by omega) hm) c1) h2
        exact ⟨p, p0, p1, p2, go _ (ev_pos c p3)⟩
      · obtain ⟨p, p0, p1, p2, p3⟩ := ih a ((a + b) / 2) (by omega) (by omega) (by omega) h1 (fun j hj hja h => by
          by_cases z : j = (a + b) / 2
          · subst z; omega
          · have := cmpB_trans (hs ((a + b) / 2) j (by omega) hj) h; omega)
        exact ⟨p, p0, p1, p2, go _ (ev_neg c p3)⟩
    · obtain rfl : a = b := by omega
      exact ih a a (by omega) (by omega) hb h1 h2
theorem BSF_ev (k : List (List Int)) (n : List Int) (hk : ∀ x ∈ k, By x) (hn : By n) (hl : k.length ≤ 1048576) (ho : keysOk k = true) :
    ∃ p, p ≤ k.length ∧ (∀ j (hj : j < k.length), j < p → cmpB k[j] n = -1) ∧ (∀ j (hj : j < k.length), p ≤ j → cmpB k[j] n ≠ -1) ∧ Ev (fun r => x_BinarySearchFunc_at_bytes_Compare.f r k n) ((p : Int), decide (k[p]? = some n)) := by
  unfold x_BinarySearchFunc_at_bytes_Compare.f
  exact BSF_l0 k n hk hn hl (fun i j h hj => keys_lt ho i j h hj) k.length 0 k.length (by omega) (by omega) (by omega) (fun j _ h => by omega) (fun j hj h => by omega)
/-! impl_Value_keyAt -/
/-- keyAt finds the key where it first lies, and tells whether it lies there. -/
theorem keyAt_ev (v : S30) (hv : SmV v) (n : List Int) (hn : By n) (ho : keysOk v.f3 = true) :
    ∃ p, p ≤ v.f3.length ∧ (∀ j (hj : j < v.f3.length), j < p → cmpB v.f3[j] n = -1) ∧ (∀ j (hj : j < v.f3.length), p ≤ j → cmpB v.f3[j] n ≠ -1) ∧ (ixOf v.f3 n < v.f3.length → p = ixOf v.f3 n) ∧
      Ev (fun k => impl_Value_keyAt.f k v.f0 v.f1 v.f2 v.f3 v.f4 n) ((p : Int), decide (ixOf v.f3 n < v.f3.length)) := by
  obtain ⟨_, w0, w1, w2, w3, w4, w5, w6, w7⟩ := hv
  obtain ⟨p, p0, p1, p2, p3⟩ := BSF_ev v.f3 n (fun x hx => (w5 x hx).2) hn w4 ho
  have hp : ixOf v.f3 n < v.f3.length → p = ixOf v.f3 n := fun c => by
    have e := ixOf_at c
    rcases Nat.lt_trichotomy p (ixOf v.f3 n) with q | q | q
    · have h1 := keys_lt ho p _ q c
      rw [e] at h1
      exact absurd h1 (p2 p (by omega) (Nat.le_refl _))
    · exact q
    · have h1 := p1 _ c q
      rw [e, cmpB_refl] at h1; omega
  refine ⟨p, p0, p1, p2, hp, ?_⟩
  unfold impl_Value_keyAt.f
  refine Ev.bind p3 (ev_is ?_)
  congr 1
  by_cases c : ixOf v.f3 n < v.f3.length
  · rw [decide_eq_true c, hp c, List.getElem?_eq_getElem c, ixOf_at c]; simp
  · rw [decide_eq_false c]
    refine decide_eq_false fun h => c ?_
    obtain ⟨hl, he⟩ := List.getElem?_eq_some_iff.1 h
    refine Nat.lt_of_not_le fun h => ?_
    exact ixOf_ne (j := p) (by omega) he
/-! laws_eqStep -/
theorem eqStep_ev (x : Int) (l : List Int) (y : Int) (hl : l.length ≤ 281474976710656) : Ev (fun k => laws_eqStep.f k x l y x l y) true := by
  unfold laws_eqStep.f
  exact ev_pos rfl (Ev.bind (eqByteS_ev l hl) (ev_pos rfl (ev_pos rfl (Ev.now _))))
/-! laws_eqStepS -/
theorem eqStepS_l0 (l : List S79) (hl : l.length ≤ 1048576) (hk : ∀ s ∈ l, s.f1.length ≤ 1048576) : ∀ (d i : Nat), i + d = l.length → Ev (fun k => laws_eqStepS.l0 k l l (i : Int)) true := by
  intro d
  induction d with
  | zero =>
    intro i hd
    exact Ev.step (fun _ => laws_eqStepS.l0.eq_2 ..) (ev_neg (by omega) (Ev.now _))
  | succ d ih =>
    intro i hd
    have hi : i < l.length := by omega
    refine Ev.step (fun _ => laws_eqStepS.l0.eq_2 ..) (ev_pos (by omega) (ev_pos (by omega) (ev_pos (by omega) ?_)))
    rw [rdS l i hi]
    have hs := hk _ (List.getElem_mem hi)
    refine Ev.bind (eqStep_ev _ _ _ (by omega)) (ev_pos rfl ?_)
    rw [w64s i (by omega)]
    exact ih (i + 1) (by omega)
theorem eqStepS_ev (l : List S79) (hl : l.length ≤ 1048576) (hk : ∀ s ∈ l, s.f1.length ≤ 1048576) : Ev (fun k => laws_eqStepS.f k l l) true := by
  unfold laws_eqStepS.f
  exact ev_pos rfl (eqStepS_l0 l hl hk l.length 0 (by omega))
/-! impl_At -/
theorem at_l0_ev (l : List S79) (hl : l.length ≤ 1048576) (hb : ∀ s ∈ l, By s.f1) (ho : ∀ s ∈ l, stepOk s = true) : ∀ (d i : Nat) (x : S30), i + d = l.length → SmV x → Good x →
    ∃ K, ∀ k, K ≤ k → ∀ m, d < m → at_l0 k l m x (i : Int) = some (atV x (l.drop i)) := by
  intro d
  induction d with
  | zero =>
    intro i x hd hv hg
    refine ⟨0, fun k _ m hm => ?_⟩
    obtain ⟨m, rfl⟩ : ∃ z, m = z + 1 := ⟨m - 1, by omega⟩
    rw [List.drop_eq_nil_of_le (by omega), at_l0, if_neg (by omega), atV]
  | succ d ih =>
    intro i x hd hv hg
    have hi : i < l.length := by omega
    have hmem := List.getElem_mem hi
    have hs := ho _ hmem
    rw [drop_at l i hi]
    have hf := good_form hg
    by_cases h0 : l[i].f0 = 0
    · obtain ⟨p, p0, p1, p2, p3, p4⟩ := keyAt_ev x hv l[i].f1 (hb _ hmem) (form_keys hf)
      obtain ⟨K0, hK1_⟩ := p4
      have hK0 : ∀ k, K0 ≤ k → impl_Value_keyAt.f k x.f0 x.f1 x.f2 x.f3 x.f4 l[i].f1 = some ((p : Int), decide (ixOf x.f3 l[i].f1 < x.f3.length)) := hK1_
      by_cases c : x.f0 = 5 ∧ ixOf x.f3 l[i].f1 < x.f3.length
      · have e : kidV x l[i] = some (ixOf x.f3 l[i].f1) := by unfold kidV; rw [if_pos h0, if_pos c]
        have hj := kid_lt hf hs e
        obtain ⟨K1, hK1⟩ := ih (i + 1) x.f4[ixOf x.f3 l[i].f1] (by omega) (smV_child hv _ (List.getElem_mem hj)) (good_child hg (List.getElem_mem hj))
        refine ⟨max K0 K1, fun k hk m hm => ?_⟩
        obtain ⟨m, rfl⟩ : ∃ z, m = z + 1 := ⟨m - 1, by omega⟩
        rw [at_l0, if_pos (by omega), if_pos (by omega), rdS l i hi, if_pos h0, hK0 k (by omega), Option.bind_some, if_pos c.1]
        dsimp only
        rw [decide_eq_true c.2, if_pos rfl, p3 c.2, if_pos (by omega), if_pos (by omega), rdV _ _ hj, w64s i (by omega), hK1 k (by omega) m (by omega), atV, e]
        dsimp only
        rw [getDN _ _ _ hj]
      · have e : kidV x l[i] = none := by unfold kidV; rw [if_pos h0, if_neg c]
        refine ⟨K0, fun k hk m hm => ?_⟩
        obtain ⟨m, rfl⟩ : ∃ z, m = z + 1 := ⟨m - 1, by omega⟩
        rw [at_l0, if_pos (by omega), if_pos (by omega), rdS l i hi, if_pos h0, hK0 k (by omega), Option.bind_some, atV, e]
        dsimp only
        by_cases h5 : x.f0 = 5
        · rw [if_pos h5, decide_eq_false (fun q => c ⟨h5, q⟩), if_neg (by decide)]
        · rw [if_neg h5]
    · obtain ⟨h1, h2⟩ := step_item hs h0
      by_cases c : x.f0 = 4 ∧ l[i].f2 < x.f4.length
      · have e : kidV x l[i] = some l[i].f2.toNat := by unfold kidV; rw [if_neg h0, if_pos c]
        have hj := kid_lt hf hs e
        obtain ⟨K1, hK1⟩ := ih (i + 1) x.f4[l[i].f2.toNat] (by omega) (smV_child hv _ (List.getElem_mem hj)) (good_child hg (List.getElem_mem hj))
        refine ⟨K1, fun k hk m hm => ?_⟩
        obtain ⟨m, rfl⟩ : ∃ z, m = z + 1 := ⟨m - 1, by omega⟩
        have ej : ((l[i].f2.toNat : Nat) : Int) = l[i].f2 := by omega
        have er := rdV _ _ hj
        rw [ej] at er
        rw [at_l0, if_pos (by omega), if_pos (by omega), rdS l i hi, if_neg h0, if_pos c.1, if_pos c.2, if_pos h2, er, w64s i (by omega), hK1 k (by omega) m (by omega), atV, e]
        dsimp only
        rw [getDN _ _ _ hj]
      · have e : kidV x l[i] = none := by unfold kidV; rw [if_neg h0, if_neg c]
        refine ⟨0, fun k hk m hm => ?_⟩
        obtain ⟨m, rfl⟩ : ∃ z, m = z + 1 := ⟨m - 1, by omega⟩
        rw [at_l0, if_pos (by omega), if_pos (by omega), rdS l i hi, if_neg h0, atV, e]
        dsimp only
        by_cases h4 : x.f0 = 4
        · rw [if_pos h4, if_neg (fun q => c ⟨h4, q⟩)]
        · rw [if_neg h4]
theorem at_l0_at (l : List S79) (x : S30) (hl : l.length ≤ 1048576) (hb : ∀ s ∈ l, By s.f1) (ho : ∀ s ∈ l, stepOk s = true) (hv : SmV x) (hg : Good x) : Ev (fun k => at_l0 k l k x 0) (atV x l) := by
  obtain ⟨K, hK⟩ := at_l0_ev l hl hb ho l.length 0 x (by omega) hv hg
  exact ⟨max K (l.length + 1), fun k hk => hK k (by omega) k (by omega)⟩
theorem atV_good : ∀ (l : List S79) (x : S30), SmV x → Good x → (∀ s ∈ l, stepOk s = true) → ∀ y, atV x l = some y → SmV y ∧ dsV y ≤ dsV x
  | [], x, hv, _, _, y, h => by rw [atV] at h; injection h with h; subst h; exact ⟨hv, Nat.le_refl _⟩
  | s :: l, x, hv, hg, ho, y, h => by
    rw [atV] at h
    cases e : kidV x s with
    | none => rw [e] at h; cases h
    | some j =>
      rw [e] at h
      dsimp only at h
      have hj := kid_lt (good_form hg) (ho _ List.mem_cons_self) e
      rw [getDN _ _ _ hj] at h
      have hm := List.getElem_mem hj
      obtain ⟨h1, h2⟩ := atV_good l _ (smV_child hv _ hm) (good_child hg hm) (fun t ht => ho t (List.mem_cons_of_mem _ ht)) y h
      have h3 := dsV_in hm
      have h4 := dsV_eq x
      exact ⟨h1, by omega⟩
def resP : Option S30 → S30 × Bool
  | none => (⟨0, 0, [], [], []⟩, false)
  | some y => (y, true)
theorem impl_At_ev (x : S30) (hv : SmV x) (hm : nV x ≤ 4611686018427387903) (l : List S79) (hl : l.length ≤ 1048576) (hk : ∀ s ∈ l, s.f1.length ≤ 1048576) (hb : ∀ s ∈ l, By s.f1) : Ev (fun k => impl_At.g k x.f0 x.f1 x.f2 x.f3 x.f4 l) (resP (atR x l)) := by
  unfold impl_At.g atR
  refine Ev.bind (isValue_ev x hv hm) (ev_ite (fun h => ?_) (fun h => ?_))
  · refine Ev.bind (impl_isPath_ev l hl hk) (ev_ite (fun hp => ?_) (fun hp => ?_))
    · rw [if_pos (show valOk x = true ∧ pathOk l = true from ⟨h, hp⟩)]
      have ho := (path_facts hp).2
      have hx : Ev (fun k => at_l0 k l k (⟨x.f0, x.f1, x.f2, x.f3, x.f4⟩ : S30) 0) (atV x l) := by rw [V_eta]; exact at_l0_at l x hl hb ho hv (good_of h)
      refine Ev.bind hx ?_
      cases e : atV x l with
      | none => exact Ev.now _
      | some y =>
        dsimp only
        exact Ev.bind (copyValue_ev y (atV_good l x hv (good_of h) ho y e).1) (ev_is (by rw [V_eta]; rfl))
    · rw [if_neg (show ¬ (valOk x = true ∧ pathOk l = true) from fun q => hp q.2)]
      exact Ev.now _
  · rw [if_neg (show ¬ (valOk x = true ∧ pathOk l = true) from fun q => h q.1)]
    exact Ev.now _
theorem room {l : List S102} {a : Int} (hw : WfSteps l) (h1 : a ≤ 1048576) (h : ¬ sub a (l.length + szKeys l) < 0) : l.length ≤ 1048576 ∧ (∀ s ∈ l, s.f1.length ≤ 1048576) ∧ (l.map stepTo).length ≤ 1048576 ∧ (∀ s ∈ l.map stepTo, s.f1.length ≤ 1048576) ∧ (∀ s ∈ l.map stepTo, By s.f1) ∧ 0 ≤ sub a (l.length + szKeys l) ∧ sub a (l.length + szKeys l) ≤ 1048576 := by
  have hs := sub_pos h
  have hk : ∀ s ∈ l, s.f1.length ≤ 1048576 := fun s m => by have := szKeys_mem m; omega
  refine ⟨by omega, hk, by rw [List.length_map]; omega, fun s m => ?_, fun s m => ?_, by omega, by omega⟩
  · obtain ⟨t, ht, rfl⟩ := List.mem_map.1 m
    exact hk t ht
  · obtain ⟨t, ht, rfl⟩ := List.mem_map.1 m
    exact (hw.2 t ht).2.2.1
theorem cSs_keys (l : List S102) : cSs ((l.map stepTo).map fun x => x.f1.length) ≤ 2 * l.length + szKeys l := by
  induction l with
  | nil => simp [cSs]
  | cons s l ih =>
    simp only [List.map_cons, cSs, szKeys, List.length_cons]
    have : (stepTo s).f1 = s.f1 := rfl
    rw [this]
    omega
theorem dnVs_dsVs (l : List S30) (ih : ∀ x ∈ l, dnV x ≤ 2 * dsV x) : dnVs l ≤ 2 * l.length + 2 * dsVs l := by
  induction l with
  | nil => rw [dnVs]; omega
  | cons x l ih2 =>
    have h1 := ih x List.mem_cons_self
    have h2 := ih2 fun y hy => ih y (List.mem_cons_of_mem _ hy)
    rw [dnVs, dsVs, List.length_cons]; omega
theorem dnV_dsV : ∀ v : S30, dnV v ≤ 2 * dsV v := by
  refine vind fun v ih => ?_
  have := dnVs_dsVs v.f4 ih
  rw [dnV_eq, dsV_eq]; omega
theorem smV_zero : SmV (⟨0, 0, [], [], []⟩ : S30) := .mk _ (by decide) (by decide) (by simp) By_nil (by simp) (by simp) (by simp) (by simp)
theorem res6_eq (r : Option S30) : res6 r = ((resP r).1.f0, (resP r).1.f1, (resP r).1.f2, (resP r).1.f3, (resP r).1.f4, (resP r).2) := by cases r <;> rfl
theorem FnExactAt (l0 : S26) (hw : WfV l0) (l1 : List S102) (hw1 : WfSteps l1) : ∃ k, laws_FnExactAt.f k l0.f0 l0.f1 l0.f2 l0.f3 l0.f4 l1 = some true := by
  refine Ev.rounds (g := fun k => laws_FnExactAt.f k l0.f0 l0.f1 l0.f2 l0.f3 l0.f4 l1) ?_
  unfold laws_FnExactAt.f
  refine Ev.bind (szValue_ev l0 hw 1048576 (by omega) (by omega)) ?_
  refine ev_ite (fun _ => Ev.now _) fun h => ?_
  have hs := sub_pos h
  refine Ev.bind (szStepS_ev l1 _ hw1 (by omega) (by omega)) ?_
  refine ev_ite (fun _ => Ev.now _) fun h1 => ?_
  obtain ⟨hl, hk, hl2, hk2, hb2, r0, r1⟩ := room hw1 (by omega) h1
  have hs1 := (sub_pos h1).1
  have hc := cSs_keys l1
  have hv := smV_of l0 hw (by omega)
  have hn : nV (toV l0) ≤ 4611686018427387903 := by have := nV_toV l0; omega
  have hm := mV_toV l0
  have hd := dsV_toV l0
  have e1 := spec_At_ev _ hv _ hl2 hk2 hb2
  have e2 := impl_At_ev _ hv hn _ hl2 hk2 hb2
  have hr : ∀ r, r = atR (toV l0) (l1.map stepTo) → SmV (resP r).1 ∧ dsV (resP r).1 ≤ 1048576 := by
    rintro r rfl
    unfold atR
    split
    · rename_i q
      cases e : atV (toV l0) (l1.map stepTo) with
      | none => exact ⟨smV_zero, by simp [resP, dsV, dsVs, mL]⟩
      | some y =>
        have := atV_good _ _ hv (good_of q.1) (path_facts q.2).2 y e
        exact ⟨this.1, by unfold resP; have := this.2; dsimp only; omega⟩
    · exact ⟨smV_zero, by simp [resP, dsV, dsVs, mL]⟩
  obtain ⟨r, hr0⟩ : ∃ r, r = atR (toV l0) (l1.map stepTo) := ⟨_, rfl⟩
  obtain ⟨hr1, hr2⟩ := hr r hr0
  have hr3 := dnV_dsV (resP r).1
  rw [← hr0] at e1 e2
  rw [res6_eq] at e1
  refine Ev.bind (toValue_ev l0 hv) (Ev.bind (toStepS_ev l1 hl hk) ?_)
  refine Ev.bind e1 (Ev.bind e2 (Ev.bind (eqValue_ev _ hr1) (ev_pos rfl (ev_pos rfl (Ev.bind (eqValue_ev _ hv) (ev_pos rfl (Ev.bind (eqStepS_ev _ hl2 hk2) (ev_pos rfl (ev_pos ?_ (ev_pos (by omega) (ev_pos (by omega) (Ev.bind (Ev.now _) (Ev.bind (heldValue_ev (resP r).1 hr1 1 (by omega) (by omega)) (ev_neg (by omega) (ev_pos rfl (Ev.now _))))))))))))))))
  exact Nat.le_trans (Nat.le_of_eq ((mV_eta (toV l0)).trans hm)) (by omega)
end Go.Proofs.Ytenpjddjmhjdoaa.Pure
