/- The pure statement of FnExactLeaves: both answer the paths of all parts that have no parts, and answer the same; and the answer lies apart. No condition. -/
import Derived.Test.YtenpjddjmhjdoaaPFnExactLeavesx0
import Derived.Test.YtenpjddjmhjdoaaPFnExactLeavesx1
import Derived.Test.YtenpjddjmhjdoaaPFnExactLeavesx2
import Derived.Test.YtenpjddjmhjdoaaPFnExactLeavesx3
import Derived.Test.YtenpjddjmhjdoaaPFnExactLeavesx4
import Derived.Test.YtenpjddjmhjdoaaPFnExactLeavesx5
import Derived.Test.YtenpjddjmhjdoaaPFnExactLeavesx6
import Derived.Test.YtenpjddjmhjdoaaPFnExactLeavesx7
import Derived.Test.YtenpjddjmhjdoaaPFnExactLeavesx8
import Derived.Test.YtenpjddjmhjdoaaPFnExactLeavesx9
import Derived.Test.YtenpjddjmhjdoaaPFnExactLeavesx10
import Derived.Test.YtenpjddjmhjdoaaPFnExactLeavesx11
import Derived.Test.YtenpjddjmhjdoaaPFnExactLeavesx12
import Derived.Test.YtenpjddjmhjdoaaPFnExactLeavesx13
import Derived.Test.YtenpjddjmhjdoaaPFnExactLeavesx14
import Derived.Test.YtenpjddjmhjdoaaPFnExactLeavesx15
import Derived.Test.YtenpjddjmhjdoaaMcore
import Derived.Test.YtenpjddjmhjdoaaMnum
import Derived.Test.YtenpjddjmhjdoaaMopen
import Derived.Test.YtenpjddjmhjdoaaMcmp
namespace Go.Proofs.Ytenpjddjmhjdoaa.Pure
open Go.RowKit Go.Proofs.Ytenpjddjmhjdoaa.PFnExactLeaves Go.Proofs.YtenpjddjmhjdoaaW.PrintWords Go.Proofs.YtenpjddjmhjdoaaW.PrintLast Go.Proofs.YtenpjddjmhjdoaaW.PrintMore Go.Proofs.Ytenpjddjmhjdoaa.M
set_option linter.unusedVariables false
set_option linter.unusedSimpArgs false
/-! values -/
theorem rdLV (xs : List S26) (i : Nat) (h : i < xs.length) : rd_T26 xs (i : Int) = xs[i] := getDI xs _ i h
theorem rdV (xs : List S30) (i : Nat) (h : i < xs.length) : rd_T30 xs (i : Int) = xs[i] := getDI xs _ i h
theorem rdR (xs : List (List Int)) (i : Nat) (h : i < xs.length) : rd_L1 xs (i : Int) = xs[i] := getDI xs _ i h
theorem lvind {P : S26 → Prop} (h : ∀ v : S26, (∀ x ∈ v.f4, P x) → P v) (v : S26) : P v :=
  h v fun x hx => lvind h x
termination_by SizeOf.sizeOf v
decreasing_by
  obtain ⟨a, b, c, d, l⟩ := v
  have := List.sizeOf_lt_of_mem hx
  simp only [S26.mk.sizeOf_spec]
  dsimp only at this
  omega
theorem vind {P : S30 → Prop} (h : ∀ v : S30, (∀ x ∈ v.f4, P x) → P v) (v : S30) : P v :=
  h v fun x hx => vind h x
termination_by SizeOf.sizeOf v
decreasing_by
  obtain ⟨a, b, c, d, l⟩ := v
  have := List.sizeOf_lt_of_mem hx
  simp only [S30.mk.sizeOf_spec]
  dsimp only at this
  omega
mutual
def toV : S26 → S30
  | ⟨a, b, c, d, l⟩ => ⟨a, b, c, d, toVs l⟩
def toVs : List S26 → List S30
  | [] => []
  | x :: l => toV x :: toVs l
end
theorem toVs_map : ∀ l, toVs l = l.map toV
  | [] => rfl
  | x :: l => by rw [toVs, List.map_cons, toVs_map l]
theorem toV_f0 : ∀ v, (toV v).f0 = v.f0 := fun ⟨_, _, _, _, _⟩ => by rw [toV]
theorem toV_f1 : ∀ v, (toV v).f1 = v.f1 := fun ⟨_, _, _, _, _⟩ => by rw [toV]
theorem toV_f2 : ∀ v, (toV v).f2 = v.f2 := fun ⟨_, _, _, _, _⟩ => by rw [toV]
theorem toV_f3 : ∀ v, (toV v).f3 = v.f3 := fun ⟨_, _, _, _, _⟩ => by rw [toV]
theorem toV_f4 : ∀ v, (toV v).f4 = v.f4.map toV := fun ⟨_, _, _, _, l⟩ => by rw [toV]; exact toVs_map l
def szL : List (List Int) → Nat
  | [] => 0
  | x :: l => x.length + szL l
theorem szL_mem {l : List (List Int)} {x : List Int} (h : x ∈ l) : x.length ≤ szL l := by
  induction l with
  | nil => cases h
  | cons a l ih =>
    rcases List.mem_cons.1 h with rfl | h
    · simp only [szL]; omega
    · have := ih h; simp only [szL]; omega
mutual
def szV : S26 → Nat
  | ⟨_, _, c, d, l⟩ => c.length + (d.length + szL d + (l.length + szVs l))
def szVs : List S26 → Nat
  | [] => 0
  | x :: l => szV x + szVs l
end
theorem szV_eq : ∀ v, szV v = v.f2.length + (v.f3.length + szL v.f3 + (v.f4.length + szVs v.f4)) := fun ⟨_, _, _, _, _⟩ => by rw [szV]
theorem szVs_mem {l : List S26} {x : S26} (h : x ∈ l) : szV x ≤ szVs l := by
  induction l with
  | nil => cases h
  | cons a l ih =>
    rcases List.mem_cons.1 h with rfl | h
    · rw [szVs]; omega
    · have := ih h; rw [szVs]; omega
/-- Values as they come in. -/
inductive WfV : S26 → Prop
  | mk (v : S26) (h0 : (Lit.int .i64 v.f0).wf = true) (h1 : (Lit.int .i64 v.f1).wf = true) (h2 : v.f2.length ≤ 9223372036854775807) (h3 : By v.f2) (h4 : v.f3.length ≤ 9223372036854775807)
      (h5 : ∀ y ∈ v.f3, y.length ≤ 9223372036854775807 ∧ By y) (h6 : v.f4.length ≤ 9223372036854775807) (h7 : ∀ x ∈ v.f4, WfV x) : WfV v
/-- Values of a size that is held. -/
inductive SmV : S30 → Prop
  | mk (v : S30) (h0 : (Lit.int .i64 v.f0).wf = true) (h1 : (Lit.int .i64 v.f1).wf = true) (h2 : v.f2.length ≤ 1048576) (h3 : By v.f2) (h4 : v.f3.length ≤ 1048576)
      (h5 : ∀ y ∈ v.f3, y.length ≤ 1048576 ∧ By y) (h6 : v.f4.length ≤ 1048576) (h7 : ∀ x ∈ v.f4, SmV x) : SmV v
theorem smV_child {v : S30} (h : SmV v) : ∀ x ∈ v.f4, SmV x := by obtain ⟨_, w0, w1, w2, w3, w4, w5, w6, w7⟩ := h; exact w7
theorem smV_of : ∀ v, WfV v → szV v ≤ 1048576 → SmV (toV v) := by
  refine lvind fun v ih hw hs => ?_
  obtain ⟨_, h0, h1, h2, h3, h4, h5, h6, h7⟩ := hw
  rw [szV_eq] at hs
  refine .mk _ ?_ ?_ ?_ ?_ ?_ ?_ ?_ ?_
  · rw [toV_f0]; exact h0
  · rw [toV_f1]; exact h1
  · rw [toV_f2]; omega
  · rw [toV_f2]; exact h3
  · rw [toV_f3]; omega
  · rw [toV_f3]; exact fun y hy => ⟨by have := szL_mem hy; omega, (h5 y hy).2⟩
  · rw [toV_f4, List.length_map]; omega
  · rw [toV_f4]
    intro x hx
    obtain ⟨y, hy, rfl⟩ := List.mem_map.1 hx
    exact ih y hy (h7 y hy) (by have := szVs_mem hy; omega)
mutual
def nV : S30 → Nat
  | ⟨_, _, _, _, l⟩ => 1 + nVs l
def nVs : List S30 → Nat
  | [] => 0
  | x :: l => nV x + nVs l
end
theorem nV_eq : ∀ v, nV v = 1 + nVs v.f4 := fun ⟨_, _, _, _, _⟩ => by rw [nV]
theorem nVs_mem {l : List S30} {x : S30} (h : x ∈ l) : nV x ≤ nVs l := by
  induction l with
  | nil => cases h
  | cons a l ih =>
    rcases List.mem_cons.1 h with rfl | h
    · rw [nVs]; omega
    · have := ih h; rw [nVs]; omega
theorem nVs_len : ∀ l : List S30, l.length ≤ nVs l
  | [] => Nat.zero_le _
  | x :: l => by
    have := nVs_len l
    have h := nV_eq x
    rw [nVs, List.length_cons]; omega
theorem nVs_toV (l : List S26) (ih : ∀ x ∈ l, nV (toV x) ≤ 1 + szV x) : nVs (l.map toV) ≤ l.length + szVs l := by
  induction l with
  | nil => rw [List.map_nil, nVs]; omega
  | cons a l ih2 =>
    have h1 := ih a List.mem_cons_self
    have h2 := ih2 fun x hx => ih x (List.mem_cons_of_mem _ hx)
    rw [List.map_cons, nVs, szVs, List.length_cons]; omega
theorem nV_toV : ∀ v, nV (toV v) ≤ 1 + szV v := by
  refine lvind fun v ih => ?_
  rw [nV_eq, toV_f4, szV_eq]
  have := nVs_toV v.f4 ih
  omega
def isText (b : List Int) : Bool := decide (b.length ≤ 20) && b.all (fun x => decide (32 ≤ x ∧ x ≤ 126))
def keyAt (k : List (List Int)) (i : Nat) : Bool := isName (k.getD i []) && (decide (i = 0) || decide (cmpB (k.getD (i - 1) []) (k.getD i []) = -1))
def keysFrom (k : List (List Int)) : Nat → Nat → Bool
  | 0, _ => true
  | d + 1, i => keyAt k i && keysFrom k d (i + 1)
def keysOk (k : List (List Int)) : Bool := keysFrom k k.length 0
theorem getDN {α : Type} (xs : List α) (d : α) (i : Nat) (h : i < xs.length) : xs.getD i d = xs[i] := by simp [List.getD_eq_getElem?_getD, h]
theorem keyAt_0 (k : List (List Int)) (h : 0 < k.length) : keyAt k 0 = isName k[0] := by
  unfold keyAt; rw [getDN k [] 0 h]; simp
theorem keyAt_s (k : List (List Int)) (i : Nat) (h : i + 1 < k.length) : keyAt k (i + 1) = (isName k[i + 1] && decide (cmpB k[i] k[i + 1] = -1)) := by
  unfold keyAt; rw [getDN k [] (i + 1) h, Nat.add_sub_cancel, getDN k [] i (by omega)]; simp
def formOk (v : S30) : Bool :=
  if v.f0 = 0 ∨ v.f0 = 6 then decide (v.f1 = 0) && (decide (v.f2.length = 0) && (decide (v.f3.length = 0) && decide (v.f4.length = 0)))
  else if v.f0 = 1 then decide (0 ≤ v.f1 ∧ v.f1 ≤ 1) && (decide (v.f2.length = 0) && (decide (v.f3.length = 0) && decide (v.f4.length = 0)))
  else if v.f0 = 2 then decide (-1000000000000 ≤ v.f1 ∧ v.f1 ≤ 1000000000000) && (decide (v.f2.length = 0) && (decide (v.f3.length = 0) && decide (v.f4.length = 0)))
  else if v.f0 = 3 then isText v.f2 && (decide (v.f1 = 0) && (decide (v.f3.length = 0) && decide (v.f4.length = 0)))
  else if v.f0 = 4 then decide (v.f3.length = 0) && (decide (v.f1 = 0) && (decide (v.f2.length = 0) && decide (v.f4.length ≤ 40)))
  else if v.f0 = 5 then decide (v.f3.length = v.f4.length) && (keysOk v.f3 && (decide (v.f1 = 0) && (decide (v.f2.length = 0) && decide (v.f4.length ≤ 40))))
  else false
mutual
/-- Of its form, no deeper than so many more. -/
def shaped : S30 → Nat → Bool
  | ⟨_, _, _, _, _⟩, 0 => false
  | ⟨a, b, c, d, l⟩, n + 1 => formOk ⟨a, b, c, d, l⟩ && allShaped l n
def allShaped : List S30 → Nat → Bool
  | [], _ => true
  | x :: l, n => shaped x n && allShaped l n
end
theorem shaped_0 : ∀ v, shaped v 0 = false := fun ⟨_, _, _, _, _⟩ => by rw [shaped]
theorem shaped_s (n : Nat) : ∀ v, shaped v (n + 1) = (formOk v && allShaped v.f4 n) := fun ⟨_, _, _, _, _⟩ => by rw [shaped]
theorem shaped_none {v : S30} (h : v.f4.length = 0) (n : Nat) : allShaped v.f4 n = true := by rw [List.eq_nil_of_length_eq_zero h, allShaped]
def valOk (v : S30) : Bool := shaped v 5 && decide (nV v ≤ 40)
theorem ev_and {g : Nat → Option Bool} {b r : Bool} (h : b = true → Ev g r) : Ev (fun n => if b = true then g n else some false) (b && r) := by
  cases b
  · exact ev_neg (by decide) (Ev.now _)
  · exact ev_pos rfl (h rfl)
theorem ev_andP {g : Nat → Option Bool} {c : Prop} [Decidable c] {r : Bool} (h : c → Ev g r) : Ev (fun n => if c then g n else some false) (decide c && r) := by
  by_cases hc : c
  · rw [decide_eq_true hc, Bool.true_and]; exact ev_pos hc (h hc)
  · rw [decide_eq_false hc, Bool.false_and]; exact ev_neg hc (Ev.now _)
theorem beq0 (n : Nat) : ((n : Int) == 0) = decide (n = 0) := by
  by_cases h : n = 0
  · subst h; rfl
  · rw [decide_eq_false h, beq_eq_false_iff_ne]; omega
theorem beqI (n : Int) : (n == 0) = decide (n = 0) := by
  by_cases h : n = 0
  · subst h; rfl
  · rw [decide_eq_false h, beq_eq_false_iff_ne]; exact h
def bad_ (v : S30) : Prop := (v.f0 ≠ 3 ∧ 0 < v.f2.length) ∨ (v.f0 ≠ 5 ∧ 0 < v.f3.length) ∨ (v.f0 ≠ 1 ∧ v.f0 ≠ 2 ∧ v.f1 ≠ 0) ∨ (v.f0 ≠ 4 ∧ v.f0 ≠ 5 ∧ 0 < v.f4.length)
theorem form_bad_ {v : S30} (h : bad_ v) : formOk v = false := by
  unfold bad_ at h
  unfold formOk
  by_cases c0 : v.f0 = 0 ∨ v.f0 = 6
  · rw [if_pos c0, ← Bool.decide_and, ← Bool.decide_and, ← Bool.decide_and]; exact decide_eq_false (by omega)
  · rw [if_neg c0]
    by_cases c1 : v.f0 = 1
    · rw [if_pos c1, ← Bool.decide_and, ← Bool.decide_and, ← Bool.decide_and]; exact decide_eq_false (by omega)
    · rw [if_neg c1]
      by_cases c2 : v.f0 = 2
      · rw [if_pos c2, ← Bool.decide_and, ← Bool.decide_and, ← Bool.decide_and]; exact decide_eq_false (by omega)
      · rw [if_neg c2]
        by_cases c3 : v.f0 = 3
        · rw [if_pos c3, ← Bool.decide_and, ← Bool.decide_and, decide_eq_false (p := v.f1 = 0 ∧ v.f3.length = 0 ∧ v.f4.length = 0) (by omega), Bool.and_false]
        · rw [if_neg c3]
          by_cases c4 : v.f0 = 4
          · rw [if_pos c4, ← Bool.decide_and, ← Bool.decide_and, ← Bool.decide_and]; exact decide_eq_false (by omega)
          · rw [if_neg c4]
            by_cases c5 : v.f0 = 5
            · rw [if_pos c5, ← Bool.decide_and, ← Bool.decide_and, decide_eq_false (p := v.f1 = 0 ∧ v.f2.length = 0 ∧ v.f4.length ≤ 40) (by omega), Bool.and_false, Bool.and_false]
            · rw [if_neg c5]
/-! steps -/
theorem rdS (xs : List S79) (i : Nat) (h : i < xs.length) : rd_T79 xs (i : Int) = xs[i] := getDI xs _ i h
theorem mL_szL (l : List (List Int)) : mL l = szL l := by
  induction l with
  | nil => rfl
  | cons x l ih => simp only [mL, szL, ih]
theorem mVs_toV (l : List S26) (ih : ∀ x ∈ l, m30 (toV x) = szV x) : ms30 (l.map toV) = szVs l := by
  induction l with
  | nil => rfl
  | cons x l ih2 => simp only [List.map_cons, ms30, szVs, ih x List.mem_cons_self, ih2 (fun y hy => ih y (List.mem_cons_of_mem _ hy))]
theorem mV_eq (v : S30) : m30 v = v.f2.length + (v.f3.length + mL v.f3 + (v.f4.length + ms30 v.f4)) := by obtain ⟨_, _, _, _, _⟩ := v; rw [m30]
theorem mV_toV : ∀ v, m30 (toV v) = szV v := by
  refine lvind fun v ih => ?_
  rw [mV_eq, szV_eq, toV_f2, toV_f3, toV_f4, List.length_map, mVs_toV _ ih, mL_szL]
theorem mV_eta : ∀ v : S30, m30 ⟨v.f0, v.f1, v.f2, v.f3, v.f4⟩ = m30 v := fun ⟨_, _, _, _, _⟩ => rfl
/-! the paths of all parts that have no parts -/
def stepP (a : Int) (ks : List (List Int)) (i : Nat) : S79 := if a = 5 then ⟨0, ks.getD i [], 0⟩ else ⟨1, [], (i : Int)⟩
mutual
def lvP : S30 → List S79 → List (List S79)
  | ⟨a, _, _, ks, l⟩, p => if l.length = 0 then [p] else lvPs a ks l p 0
def lvPs (a : Int) (ks : List (List Int)) : List S30 → List S79 → Nat → List (List S79)
  | [], _, _ => []
  | x :: l, p, i => lvP x (p ++ [stepP a ks i]) ++ lvPs a ks l p (i + 1)
end
theorem lvP_eq : ∀ (x : S30) p, lvP x p = if x.f4.length = 0 then [p] else lvPs x.f0 x.f3 x.f4 p 0 := fun ⟨_, _, _, _, _⟩ p => by rw [lvP]
theorem lvPs_len (a : Int) (ks : List (List Int)) (p : List S79) : ∀ (l : List S30) (i : Nat), (∀ x ∈ l, ∀ q, (lvP x q).length ≤ nV x) → (lvPs a ks l p i).length ≤ nVs l
  | [], i, _ => by rw [lvPs]; exact Nat.zero_le _
  | x :: l, i, h => by
    have h1 := h x List.mem_cons_self (p ++ [stepP a ks i])
    have h2 := lvPs_len a ks p l (i + 1) fun y hy => h y (List.mem_cons_of_mem _ hy)
    rw [lvPs, nVs, List.length_append]; omega
theorem lvP_len : ∀ (x : S30) q, (lvP x q).length ≤ nV x := by
  refine vind fun x ih q => ?_
  rw [lvP_eq, nV_eq]
  split
  · simp
  · have := lvPs_len x.f0 x.f3 q x.f4 0 ih; omega
theorem keys_name (k : List (List Int)) : ∀ d i, keysFrom k d i = true → ∀ j, i ≤ j → j < i + d → isName (k.getD j []) = true := by
  intro d
  induction d with
  | zero => intro i _ j h1 h2; omega
  | succ d ih =>
    intro i h j h1 h2
    rw [keysFrom, Bool.and_eq_true] at h
    by_cases hj : j = i
    · subst hj
      have := h.1
      unfold keyAt at this
      rw [Bool.and_eq_true] at this
      exact this.1
    · exact ih (i + 1) h.2 j (by omega) (by omega)
theorem name_len {b : List Int} (h : isName b = true) : b.length ≤ 8 := by
  unfold isName at h
  rw [Bool.and_eq_true, decide_eq_true_eq] at h
  exact h.1.2
/-- Of a form: a map has a key for each part, each a name. -/
theorem form_map {x : S30} (h : formOk x = true) (h5 : x.f0 = 5) : x.f3.length = x.f4.length ∧ ∀ j, j < x.f3.length → (x.f3.getD j []).length ≤ 8 := by
  unfold formOk at h
  rw [if_neg (by omega), if_neg (by omega), if_neg (by omega), if_neg (by omega), if_neg (by omega), if_pos h5] at h
  simp only [Bool.and_eq_true, decide_eq_true_eq] at h
  exact ⟨h.1, fun j hj => name_len (keys_name x.f3 x.f3.length 0 h.2.1 j (by omega) (by omega))⟩
def Short (n : Nat) (p : List S79) : Prop := p.length ≤ n ∧ ∀ s ∈ p, s.f1.length ≤ 8
theorem short_snoc {n : Nat} {p : List S79} {s : S79} (h : Short n p) (hs : s.f1.length ≤ 8) : Short (n + 1) (p ++ [s]) := by
  refine ⟨by have := h.1; rw [List.length_append, List.length_singleton]; omega, fun t ht => ?_⟩
  rcases List.mem_append.1 ht with ht | ht
  · exact h.2 t ht
  · rw [List.mem_singleton.1 ht]; exact hs
theorem short_le {n m : Nat} {p : List S79} (h : Short n p) (hn : n ≤ m) : Short m p := ⟨Nat.le_trans h.1 hn, h.2⟩
theorem all_shaped {l : List S30} {n : Nat} (h : allShaped l n = true) : ∀ x ∈ l, shaped x n = true := by
  induction l with
  | nil => intro x hx; cases hx
  | cons y l ih =>
    rw [allShaped, Bool.and_eq_true] at h
    intro x hx
    rcases List.mem_cons.1 hx with rfl | hx
    · exact h.1
    · exact ih h.2 x hx
theorem stepP_short {x : S30} (h : formOk x = true) {i : Nat} (hi : i < x.f4.length) : (stepP x.f0 x.f3 i).f1.length ≤ 8 := by
  unfold stepP
  split
  · rename_i h5
    have := form_map h h5
    exact this.2 i (by omega)
  · exact Nat.zero_le _
theorem lvPs_short (x : S30) (hf : formOk x = true) (n m : Nat) (p : List S79) (hp : Short m p) : ∀ (l : List S30) (i : Nat), x.f4.drop i = l → (∀ y ∈ l, ∀ m q, Short m q → ∀ r ∈ lvP y q, Short (m + n) r) → ∀ r ∈ lvPs x.f0 x.f3 l p i, Short (m + (n + 1)) r
  | [], i, _, _ => fun r hr => by rw [lvPs] at hr; cases hr
  | y :: l, i, hd, h => fun r hr => by
    have hi : i < x.f4.length := by
      rcases Nat.lt_or_ge i x.f4.length with hi | hi
      · exact hi
      · rw [List.drop_eq_nil_of_le hi] at hd; cases hd
    rw [List.drop_eq_getElem_cons hi] at hd
    injection hd with hd1 hd2
    rw [lvPs] at hr
    rcases List.mem_append.1 hr with hr | hr
    · have := h y List.mem_cons_self (m + 1) _ (short_snoc hp (stepP_short hf hi)) r hr
      exact short_le this (by omega)
    · exact lvPs_short x hf n m p hp l (i + 1) hd2 (fun z hz => h z (List.mem_cons_of_mem _ hz)) r hr
theorem lvP_short : ∀ (x : S30) (n : Nat), shaped x n = true → ∀ m q, Short m q → ∀ r ∈ lvP x q, Short (m + n) r := by
  refine vind fun x ih n hs m q hq r hr => ?_
  cases n with
  | zero => rw [shaped_0] at hs; cases hs
  | succ n =>
    rw [shaped_s, Bool.and_eq_true] at hs
    rw [lvP_eq] at hr
    split at hr
    · rw [List.mem_singleton.1 hr]; exact short_le hq (by omega)
    · exact lvPs_short x hs.1 n m q hq x.f4 0 rfl (fun y hy => ih y hy n (all_shaped hs.2 y hy)) r hr
theorem mSt_short {n : Nat} : ∀ {p : List S79}, Short n p → mSt p ≤ 10 * p.length
  | [], _ => by simp [mSt]
  | s :: p, h => by
    have h1 := h.2 s List.mem_cons_self
    have h2 := mSt_short (n := n) (p := p) ⟨by have := h.1; rw [List.length_cons] at this; omega, fun t ht => h.2 t (List.mem_cons_of_mem _ ht)⟩
    rw [mSt, List.length_cons]; omega
theorem mStt_short {n : Nat} : ∀ {l : List (List S79)}, (∀ p ∈ l, Short n p) → mStt l ≤ 10 * n * l.length
  | [], _ => by simp [mStt]
  | p :: l, h => by
    have h1 := mSt_short (h p List.mem_cons_self)
    have h0 := (h p List.mem_cons_self).1
    have h2 := mStt_short fun q hq => h q (List.mem_cons_of_mem _ hq)
    rw [mStt, List.length_cons, Nat.mul_add, Nat.mul_one]
    omega
/-! laws_szByteS -/
theorem szByteS_eq (l : List Int) (a : Int) (h0 : 0 ≤ a) (h1 : a ≤ 1048576) (hl : l.length ≤ 9223372036854775807) : laws_szByteS.f l a = some (sub a l.length) := by
  unfold laws_szByteS.f sub
  rw [w64 (by omega) (by omega)]
  by_cases h : (l.length : Int) ≤ a
  · rw [if_neg (by omega), if_pos h]
  · rw [if_pos (by omega), if_neg h]
/-! laws_szByteSS -/
theorem szByteSS_l0 (l : List (List Int)) (hl : l.length ≤ 9223372036854775807) (hk : ∀ x ∈ l, x.length ≤ 9223372036854775807) : ∀ (d i : Nat) (a : Int), i + d = l.length → 0 ≤ a → a ≤ 1048576 → Ev (fun k => laws_szByteSS.l0 k l a (i : Int)) (sub a (szL (l.drop i))) := by
  intro d
  induction d with
  | zero =>
    intro i a hd h0 h1
    refine Ev.step (fun _ => laws_szByteSS.l0.eq_2 ..) (ev_neg (by omega) (ev_is ?_))
    rw [List.drop_eq_nil_of_le (by omega)]
    exact (sub_zero h0).symm
  | succ d ih =>
    intro i a hd h0 h1
    have hi : i < l.length := by omega
    refine Ev.step (fun _ => laws_szByteSS.l0.eq_2 ..) (ev_pos (by omega) (ev_pos (by omega) ?_))
    rw [rdR l i hi, drop_at l i hi]
    refine Ev.bind (ev_const (szByteS_eq _ a h0 h1 (hk _ (List.getElem_mem hi)))) ?_
    rw [w64s i (by omega)]
    have hr := sub_range l[i].length h0
    by_cases h : sub a l[i].length < 0
    · refine ev_pos h (ev_is ?_)
      exact ((sub_neg h h0).2 _).symm
    · refine ev_neg h (ev_eq (ih (i + 1) _ (by omega) (by omega) (by omega)) ?_)
      exact sub_sub h
theorem szByteSS_ev (l : List (List Int)) (a : Int) (hl : l.length ≤ 9223372036854775807) (hk : ∀ x ∈ l, x.length ≤ 9223372036854775807) (h0 : 0 ≤ a) (h1 : a ≤ 1048576) : Ev (fun k => laws_szByteSS.f k l a) (sub a (l.length + szL l)) := by
  unfold laws_szByteSS.f
  rw [w64 (x := a - (l.length : Int)) (by omega) (by omega)]
  by_cases h : a - (l.length : Int) < 0
  · refine ev_pos h (ev_is ?_)
    unfold sub; rw [if_neg (by omega)]
  · refine ev_neg h (ev_eq (szByteSS_l0 l hl hk l.length 0 _ (by omega) (by omega) (by omega)) ?_)
    have e : sub a l.length = a - l.length := by unfold sub; rw [if_pos (by omega)]
    rw [← e, List.drop_zero]
    exact sub_sub (by omega)
/-! laws_szValue -/
theorem szValueS_l0 (l : List S26) (hl : l.length ≤ 9223372036854775807) (hx : ∀ v ∈ l, ∀ a : Int, 0 ≤ a → a ≤ 1048576 → Ev (fun k => laws_szValue.f k v.f0 v.f1 v.f2 v.f3 v.f4 a) (sub a (szV v))) :
    ∀ (d i : Nat) (a : Int), i + d = l.length → 0 ≤ a → a ≤ 1048576 → Ev (fun k => laws_szValueS.l0 k l a (i : Int)) (sub a (szVs (l.drop i))) := by
  intro d
  induction d with
  | zero =>
    intro i a hd h0 h1
    refine Ev.step (fun _ => laws_szValueS.l0.eq_2 ..) (ev_neg (by omega) (ev_is ?_))
    rw [List.drop_eq_nil_of_le (by omega), szVs]
    exact (sub_zero h0).symm
  | succ d ih =>
    intro i a hd h0 h1
    have hi : i < l.length := by omega
    refine Ev.step (fun _ => laws_szValueS.l0.eq_2 ..) (ev_pos (by omega) (ev_pos (by omega) ?_))
    rw [rdLV l i hi, drop_at l i hi, szVs]
    refine Ev.bind (hx _ (List.getElem_mem hi) a h0 h1) ?_
    rw [w64s i (by omega)]
    have hr := sub_range (szV l[i]) h0
    by_cases h : sub a (szV l[i]) < 0
    · refine ev_pos h (ev_is ?_)
      exact ((sub_neg h h0).2 _).symm
    · refine ev_neg h (ev_eq (ih (i + 1) _ (by omega) (by omega) (by omega)) ?_)
      exact sub_sub h
theorem szValueS_ev (l : List S26) (hl : l.length ≤ 9223372036854775807) (hx : ∀ v ∈ l, ∀ a : Int, 0 ≤ a → a ≤ 1048576 → Ev (fun k => laws_szValue.f k v.f0 v.f1 v.f2 v.f3 v.f4 a) (sub a (szV v))) (a : Int) (h0 : 0 ≤ a) (h1 : a ≤ 1048576) :
    Ev (fun k => laws_szValueS.f k l a) (sub a (l.length + szVs l)) := by
  refine Ev.step (fun _ => laws_szValueS.f.eq_2 ..) ?_
  rw [w64 (x := a - (l.length : Int)) (by omega) (by omega)]
  by_cases h : a - (l.length : Int) < 0
  · refine ev_pos h (ev_is ?_)
    unfold sub; rw [if_neg (by omega)]
  · refine ev_neg h (ev_eq (szValueS_l0 l hl hx l.length 0 _ (by omega) (by omega) (by omega)) ?_)
    have e : sub a l.length = a - l.length := by unfold sub; rw [if_pos (by omega)]
    rw [← e, List.drop_zero]
    exact sub_sub (by omega)
theorem szValue_ev : ∀ v : S26, WfV v → ∀ a : Int, 0 ≤ a → a ≤ 1048576 → Ev (fun k => laws_szValue.f k v.f0 v.f1 v.f2 v.f3 v.f4 a) (sub a (szV v)) := by
  refine lvind fun v ih hw a h0 h1 => ?_
  obtain ⟨_, w0, w1, w2, w3, w4, w5, w6, w7⟩ := hw
  refine Ev.step (fun _ => laws_szValue.f.eq_2 ..) ?_
  rw [szV_eq]
  refine Ev.bind (ev_const (szByteS_eq v.f2 a h0 h1 w2)) ?_
  have hr := sub_range v.f2.length h0
  by_cases h : sub a v.f2.length < 0
  · refine ev_pos h (ev_is ?_)
    exact ((sub_neg h h0).2 _).symm
  · refine ev_neg h ?_
    rw [← sub_sub h]
    generalize sub a v.f2.length = b at h hr ⊢
    refine Ev.bind (szByteSS_ev v.f3 b w4 (fun y hy => (w5 y hy).1) (by omega) (by omega)) ?_
    have hr2 := sub_range (a := b) (v.f3.length + szL v.f3) (by omega)
    by_cases h2 : sub b (v.f3.length + szL v.f3) < 0
    · refine ev_pos h2 (ev_is ?_)
      exact ((sub_neg h2 (by omega)).2 _).symm
    · refine ev_neg h2 ?_
      rw [← sub_sub h2]
      generalize sub b (v.f3.length + szL v.f3) = c at h2 hr2 ⊢
      refine Ev.bind (szValueS_ev v.f4 w6 (fun x hx => ih x hx (w7 x hx)) c (by omega) (by omega)) ?_
      by_cases h3 : sub c (v.f4.length + szVs v.f4) < 0
      · refine ev_pos h3 (ev_is ?_)
        exact (sub_neg h3 (by omega)).1.symm
      · exact ev_neg h3 (Ev.now _)
/-! laws_toByteS -/
theorem toByteS_l0 (l : List Int) (hl : l.length ≤ 4611686018427387903) : ∀ (d i : Nat) (out : List Int), i + d = l.length → out.length = l.length → out.take i = l.take i → Ev (fun k => laws_toByteS.l0 k l out i) l := by
  intro d
  induction d with
  | zero =>
    intro i out hd ho ht
    refine Ev.step (fun _ => laws_toByteS.l0.eq_2 ..) ?_
    refine ev_neg (by omega) ?_
    refine ev_is ?_
    rwa [List.take_of_length_le (by omega), List.take_of_length_le (by omega)] at ht
  | succ d ih =>
    intro i out hd ho ht
    refine Ev.step (fun _ => laws_toByteS.l0.eq_2 ..) ?_
    refine ev_pos (by omega) ?_
    refine ev_pos (by omega) ?_
    refine ev_pos (by omega) ?_
    rw [w64s i (by omega), Int.toNat_natCast]
    refine ih (i + 1) _ (by omega) (by rw [List.length_set]; exact ho) ?_
    rw [List.take_succ_eq_append_getElem (by rw [List.length_set]; omega), List.take_succ_eq_append_getElem (by omega), List.take_set_of_le (by omega), ht, List.getElem_set_self, rd_nat _ _ (by omega)]
theorem toByteS_ev (l : List Int) (hl : l.length ≤ 281474976710656) : Ev (fun k => laws_toByteS.f k l) l := by
  unfold laws_toByteS.f
  refine ev_pos (by omega) ?_
  refine ev_pos (by omega) ?_
  exact toByteS_l0 l (by omega) l.length 0 _ (by omega) (by simp) (by simp)
/-! laws_toByteSS -/
theorem toByteSS_l0 (l : List (List Int)) (hl : l.length ≤ 1048576) (hk : ∀ x ∈ l, x.length ≤ 1048576) : ∀ (d i : Nat) (out : List (List Int)), i + d = l.length → out.length = l.length → out.take i = l.take i → Ev (fun k => laws_toByteSS.l0 k l out (i : Int)) l := by
  intro d
  induction d with
  | zero =>
    intro i out hd ho ht
    refine Ev.step (fun _ => laws_toByteSS.l0.eq_2 ..) (ev_neg (by omega) (ev_is ?_))
    rwa [List.take_of_length_le (by omega), List.take_of_length_le (by omega)] at ht
  | succ d ih =>
    intro i out hd ho ht
    have hi : i < l.length := by omega
    refine Ev.step (fun _ => laws_toByteSS.l0.eq_2 ..) (ev_pos (by omega) (ev_pos (by omega) ?_))
    rw [rdR l i hi]
    have hs := hk _ (List.getElem_mem hi)
    refine Ev.bind (toByteS_ev _ (by omega)) (ev_pos (by omega) ?_)
    rw [w64s i (by omega), Int.toNat_natCast]
    refine ih (i + 1) _ (by omega) (by rw [List.length_set]; exact ho) ?_
    rw [List.take_succ_eq_append_getElem (by rw [List.length_set]; omega), List.take_succ_eq_append_getElem hi, List.take_set_of_le (by omega), ht, List.getElem_set_self]
theorem toByteSS_ev (l : List (List Int)) (hl : l.length ≤ 1048576) (hk : ∀ x ∈ l, x.length ≤ 1048576) : Ev (fun k => laws_toByteSS.f k l) l := by
  unfold laws_toByteSS.f
  exact ev_pos (by omega) (ev_pos (by omega) (toByteSS_l0 l hl hk l.length 0 _ (by omega) (by simp) (by simp)))
/-! laws_toValue -/
theorem toValueS_l0 (l : List S26) (hl : l.length ≤ 1048576) (hx : ∀ v ∈ l, Ev (fun k => laws_toValue.f k v.f0 v.f1 v.f2 v.f3 v.f4) ((toV v).f0, (toV v).f1, (toV v).f2, (toV v).f3, (toV v).f4)) :
    ∀ (d i : Nat) (out : List S30), i + d = l.length → out.length = l.length → out.take i = (l.map toV).take i → Ev (fun k => laws_toValueS.l0 k l out (i : Int)) (l.map toV) := by
  intro d
  induction d with
  | zero =>
    intro i out hd ho ht
    refine Ev.step (fun _ => laws_toValueS.l0.eq_2 ..) (ev_neg (by omega) (ev_is ?_))
    rwa [List.take_of_length_le (by omega), List.take_of_length_le (by rw [List.length_map]; omega)] at ht
  | succ d ih =>
    intro i out hd ho ht
    have hi : i < l.length := by omega
    refine Ev.step (fun _ => laws_toValueS.l0.eq_2 ..) (ev_pos (by omega) (ev_pos (by omega) ?_))
    rw [rdLV l i hi]
    refine Ev.bind (hx _ (List.getElem_mem hi)) (ev_pos (by omega) ?_)
    rw [w64s i (by omega), Int.toNat_natCast]
    refine ih (i + 1) _ (by omega) (by rw [List.length_set]; exact ho) ?_
    rw [List.take_succ_eq_append_getElem (by rw [List.length_set]; omega), List.take_succ_eq_append_getElem (by rw [List.length_map]; omega), List.take_set_of_le (by omega), ht, List.getElem_set_self, List.getElem_map]
    generalize toV l[i] = y
    cases y
    rfl
theorem toValue_ev : ∀ v : S26, SmV (toV v) → Ev (fun k => laws_toValue.f k v.f0 v.f1 v.f2 v.f3 v.f4) ((toV v).f0, (toV v).f1, (toV v).f2, (toV v).f3, (toV v).f4) := by
  refine lvind fun v ih hw => ?_
  obtain ⟨_, w0, w1, w2, w3, w4, w5, w6, w7⟩ := hw
  rw [toV_f2] at w2; rw [toV_f3] at w4 w5; rw [toV_f4, List.length_map] at w6; rw [toV_f4] at w7
  refine Ev.step (fun _ => laws_toValue.f.eq_2 ..) ?_
  rw [toV_f0, toV_f1, toV_f2, toV_f3, toV_f4]
  refine Ev.bind (toByteS_ev v.f2 (by omega)) (Ev.bind (toByteSS_ev v.f3 w4 (fun y hy => (w5 y hy).1)) (Ev.bind (a := v.f4.map toV) ?_ (Ev.now _)))
  refine Ev.step (fun _ => laws_toValueS.f.eq_2 ..) (ev_pos (by omega) (ev_pos (by omega) ?_))
  exact toValueS_l0 v.f4 w6 (fun x hx => ih x hx (w7 _ (List.mem_map_of_mem hx))) v.f4.length 0 _ (by omega) (by simp) (by simp)
/-! laws_eqByteS -/
theorem eqByteS_l0 (l : List Int) (hl : l.length ≤ 4611686018427387903) : ∀ (d i : Nat), i + d = l.length → Ev (fun k => laws_eqByteS.l0 k l l i) true := by
  intro d
  induction d with
  | zero =>
    intro i hd
    refine Ev.step (fun _ => laws_eqByteS.l0.eq_2 ..) ?_
    exact ev_neg (by omega) (Ev.now _)
  | succ d ih =>
    intro i hd
    refine Ev.step (fun _ => laws_eqByteS.l0.eq_2 ..) ?_
    refine ev_pos (by omega) (ev_pos (by omega) (ev_pos (by omega) (ev_pos rfl ?_)))
    rw [w64s i (by omega)]
    exact ih (i + 1) (by omega)
theorem eqByteS_ev (l : List Int) (hl : l.length ≤ 281474976710656) : Ev (fun k => laws_eqByteS.f k l l) true := by
  unfold laws_eqByteS.f
  exact ev_pos rfl (eqByteS_l0 l (by omega) l.length 0 (by omega))
/-! laws_eqByteSS -/
theorem eqByteSS_l0 (l : List (List Int)) (hl : l.length ≤ 1048576) (hk : ∀ x ∈ l, x.length ≤ 1048576) : ∀ (d i : Nat), i + d = l.length → Ev (fun k => laws_eqByteSS.l0 k l l (i : Int)) true := by
  intro d
  induction d with
  | zero =>
    intro i hd
    exact Ev.step (fun _ => laws_eqByteSS.l0.eq_2 ..) (ev_neg (by omega) (Ev.now _))
  | succ d ih =>
    intro i hd
    have hi : i < l.length := by omega
    refine Ev.step (fun _ => laws_eqByteSS.l0.eq_2 ..) (ev_pos (by omega) (ev_pos (by omega) (ev_pos (by omega) ?_)))
    rw [rdR l i hi]
    have hs := hk _ (List.getElem_mem hi)
    refine Ev.bind (eqByteS_ev _ (by omega)) (ev_pos rfl ?_)
    rw [w64s i (by omega)]
    exact ih (i + 1) (by omega)
theorem eqByteSS_ev (l : List (List Int)) (hl : l.length ≤ 1048576) (hk : ∀ x ∈ l, x.length ≤ 1048576) : Ev (fun k => laws_eqByteSS.f k l l) true := by
  unfold laws_eqByteSS.f
  exact ev_pos rfl (eqByteSS_l0 l hl hk l.length 0 (by omega))
/-! laws_eqValue -/
theorem eqValueS_l0 (l : List S30) (hl : l.length ≤ 1048576) (hx : ∀ v ∈ l, Ev (fun k => laws_eqValue.f k v.f0 v.f1 v.f2 v.f3 v.f4 v.f0 v.f1 v.f2 v.f3 v.f4) true) : ∀ (d i : Nat), i + d = l.length → Ev (fun k => laws_eqValueS.l0 k l l (i : Int)) true := by
  intro d
  induction d with
  | zero =>
    intro i hd
    exact Ev.step (fun _ => laws_eqValueS.l0.eq_2 ..) (ev_neg (by omega) (Ev.now _))
  | succ d ih =>
    intro i hd
    have hi : i < l.length := by omega
    refine Ev.step (fun _ => laws_eqValueS.l0.eq_2 ..) (ev_pos (by omega) (ev_pos (by omega) (ev_pos (by omega) ?_)))
    rw [rdV l i hi]
    refine Ev.bind (hx _ (List.getElem_mem hi)) (ev_pos rfl ?_)
    rw [w64s i (by omega)]
    exact ih (i + 1) (by omega)
theorem eqValue_ev : ∀ v : S30, SmV v → Ev (fun k => laws_eqValue.f k v.f0 v.f1 v.f2 v.f3 v.f4 v.f0 v.f1 v.f2 v.f3 v.f4) true := by
  refine vind fun v ih hw => ?_
  obtain ⟨_, w0, w1, w2, w3, w4, w5, w6, w7⟩ := hw
  refine Ev.step (fun _ => laws_eqValue.f.eq_2 ..) (ev_pos rfl (ev_pos rfl ?_))
  refine Ev.bind (eqByteS_ev v.f2 (by omega)) (ev_pos rfl (Ev.bind (eqByteSS_ev v.f3 w4 (fun y hy => (w5 y hy).1)) (ev_pos rfl (Ev.bind (a := true) ?_ (ev_pos rfl (Ev.now _))))))
  refine Ev.step (fun _ => laws_eqValueS.f.eq_2 ..) (ev_pos rfl ?_)
  exact eqValueS_l0 v.f4 w6 (fun x hx => ih x hx (w7 x hx)) v.f4.length 0 (by omega)
/-! spec_NameOk -/
theorem spec_NameOk_l0 (b : List Int) (hl : b.length ≤ 4611686018427387903) : ∀ (d i : Nat), i + d = b.length → Ev (fun k => spec_NameOk.l0 k b (i : Int)) ((b.drop i).all fun x => decide (97 ≤ x ∧ x ≤ 122)) := by
  intro d
  induction d with
  | zero =>
    intro i hd
    refine Ev.step (fun _ => spec_NameOk.l0.eq_2 ..) (ev_neg (by omega) (ev_is ?_))
    rw [List.drop_eq_nil_of_le (by omega)]; rfl
  | succ d ih =>
    intro i hd
    refine Ev.step (fun _ => spec_NameOk.l0.eq_2 ..) (ev_pos (by omega) (ev_pos (by omega) ?_))
    rw [M.drop_rd b i (by omega), List.all_cons, w64s i (by omega)]
    by_cases h1 : rd b (i : Int) < 97
    · refine ev_pos h1 (ev_is ?_)
      simp; omega
    · refine ev_neg h1 ?_
      by_cases h2 : rd b (i : Int) > 122
      · refine ev_pos h2 (ev_is ?_)
        simp; omega
      · refine ev_neg h2 (ev_eq (ih (i + 1) (by omega)) ?_)
        rw [decide_eq_true (show 97 ≤ rd b (i : Int) ∧ rd b (i : Int) ≤ 122 by omega)]; rfl
theorem spec_NameOk_ev (b : List Int) (hl : b.length ≤ 4611686018427387903) : Ev (fun k => spec_NameOk.f k b) (isName b) := by
  unfold spec_NameOk.f isName
  by_cases h1 : b.length < 1
  · refine ev_pos (by omega) (Ev.step (fun _ => spec_NameOk.j0.eq_2 ..) (ev_pos rfl (ev_is ?_)))
    rw [decide_eq_false (by omega)]; rfl
  · refine ev_neg (by omega) (Ev.step (fun _ => spec_NameOk.j0.eq_2 ..) ?_)
    by_cases h2 : b.length > 8
    · refine ev_pos (decide_eq_true (by omega)) (ev_is ?_)
      rw [decide_eq_false (by omega)]; rfl
    · refine ev_neg (by simp; omega) (ev_eq (spec_NameOk_l0 b hl b.length 0 (by omega)) ?_)
      rw [decide_eq_true (by omega)]; rfl
/-! spec_l2int -/
theorem l2int_eq (n : Int) : spec_l2int.f n = some (decide (-1000000000000 ≤ n ∧ n ≤ 1000000000000)) := by
  unfold spec_l2int.f
  by_cases h : n ≥ -1000000000000
  · rw [if_pos h]; congr 1; exact decide_eq_decide.2 (by omega)
  · rw [if_neg h, decide_eq_false (by omega)]
/-! spec_l2text -/
theorem spec_l2text_l0 (b : List Int) (hl : b.length ≤ 4611686018427387903) : ∀ (d i : Nat), i + d = b.length → Ev (fun k => spec_l2text.l0 k b (i : Int)) ((b.drop i).all fun x => decide (32 ≤ x ∧ x ≤ 126)) := by
  intro d
  induction d with
  | zero =>
    intro i hd
    refine Ev.step (fun _ => spec_l2text.l0.eq_2 ..) (ev_neg (by omega) (ev_is ?_))
    rw [List.drop_eq_nil_of_le (by omega)]; rfl
  | succ d ih =>
    intro i hd
    refine Ev.step (fun _ => spec_l2text.l0.eq_2 ..) (ev_pos (by omega) (ev_pos (by omega) ?_))
    rw [M.drop_rd b i (by omega), List.all_cons, w64s i (by omega)]
    by_cases h1 : rd b (i : Int) < 32
    · refine ev_pos h1 (ev_is ?_)
      simp; omega
    · refine ev_neg h1 ?_
      by_cases h2 : rd b (i : Int) > 126
      · refine ev_pos h2 (ev_is ?_)
        simp; omega
      · refine ev_neg h2 (ev_eq (ih (i + 1) (by omega)) ?_)
        rw [decide_eq_true (show 32 ≤ rd b (i : Int) ∧ rd b (i : Int) ≤ 126 by omega)]; rfl
theorem spec_l2text_ev (b : List Int) (hl : b.length ≤ 4611686018427387903) : Ev (fun k => spec_l2text.f k b) (isText b) := by
  unfold spec_l2text.f isText
  by_cases h1 : b.length > 20
  · refine ev_pos (by omega) (ev_is ?_)
    rw [decide_eq_false (by omega)]; rfl
  · refine ev_neg (by omega) (ev_eq (spec_l2text_l0 b hl b.length 0 (by omega)) ?_)
    rw [decide_eq_true (by omega)]; rfl
/-! spec_l2ok -/
/-- What is left of a room, if all is as it must be; -1: it isn't. -/
def left_ (b : Bool) (n : Nat) (m : Int) : Int := if b = true ∧ (n : Int) ≤ m then m - n else -1
theorem left_f (n : Nat) (m : Int) : left_ false n m = -1 := by unfold left_; rw [if_neg (fun h => by simp at h)]
theorem left_0 {m : Int} (h : 0 ≤ m) : left_ true 0 m = m := by unfold left_; rw [if_pos ⟨rfl, by omega⟩]; omega
theorem left_range (b : Bool) (n : Nat) (m : Int) (h : 0 ≤ m) : -1 ≤ left_ b n m ∧ left_ b n m ≤ m := by unfold left_; split <;> omega
theorem left_neg {b : Bool} {n : Nat} {m : Int} (h : left_ b n m < 0) (c : Bool) (p : Nat) : left_ (b && c) (n + p) m = -1 := by
  unfold left_ at *
  split at h
  · omega
  · rename_i h1
    rw [if_neg]
    rintro ⟨h2, h3⟩
    rw [Bool.and_eq_true] at h2
    exact h1 ⟨h2.1, by omega⟩
theorem left_pos {b : Bool} {n : Nat} {m : Int} (h : ¬ left_ b n m < 0) (c : Bool) (p : Nat) : left_ c p (left_ b n m) = left_ (b && c) (n + p) m := by
  unfold left_ at *
  split at h
  · rename_i h1
    obtain ⟨hb, h1⟩ := h1
    subst hb
    have e : (if true = true ∧ (n : Int) ≤ m then m - n else -1) = m - n := if_pos ⟨rfl, h1⟩
    rw [e, Bool.true_and]
    by_cases h2 : c = true ∧ (p : Int) ≤ m - n
    · rw [if_pos h2, if_pos ⟨h2.1, by omega⟩]; omega
    · rw [if_neg h2, if_neg (fun h3 => h2 ⟨h3.1, by omega⟩)]
  · omega
theorem left_s (b : Bool) (n : Nat) (m : Int) : left_ b (1 + n) m = left_ b n (m - 1) := by
  unfold left_
  by_cases h : b = true ∧ (n : Int) ≤ m - 1
  · rw [if_pos h, if_pos ⟨h.1, by omega⟩]; omega
  · rw [if_neg h, if_neg (fun h2 => h ⟨h2.1, by omega⟩)]
theorem l2ok_j6 (v : S30) (deep i : Nat) (m : Int) (hi : i < v.f4.length) (hd : deep ≤ 5) (hm : 0 ≤ m) (hm2 : m ≤ 40) (hl : v.f4.length ≤ 1048576) (b : Bool) (C : Bool) (p : Nat)
    (hx : Ev (fun k => spec_l2ok.f k v.f4[i].f0 v.f4[i].f1 v.f4[i].f2 v.f4[i].f3 v.f4[i].f4 ((deep + 1 : Nat) : Int) m) (left_ (shaped v.f4[i] (5 - deep)) (nV v.f4[i]) m))
    (hn : ∀ m' : Int, 0 ≤ m' → m' ≤ 40 → Ev (fun k => spec_l2ok.l0 k deep m' ((i + 1 : Nat) : Int) v.f0 v.f1 v.f2 v.f3 v.f4) (left_ C p m')) :
    Ev (fun k => spec_l2ok.j6 k deep m (i : Int) b v.f0 v.f1 v.f2 v.f3 v.f4) (if b = true then -1 else left_ (shaped v.f4[i] (5 - deep) && C) (nV v.f4[i] + p) m) := by
  refine Ev.step (fun _ => spec_l2ok.j6.eq_2 ..) ?_
  have hr := left_range (shaped v.f4[i] (5 - deep)) (nV v.f4[i]) m hm
  cases b
  · refine ev_neg (by decide) (ev_pos (by omega) (ev_pos (by omega) ?_))
    rw [rdV v.f4 i hi, w64s i (by omega), w64s deep (by omega), if_neg (by decide)]
    refine Ev.bind hx ?_
    refine ev_ite (fun h => ?_) (fun h => ?_)
    · exact ev_is (left_neg h C p).symm
    · exact ev_eq (hn _ (by omega) (by omega)) (left_pos h C p)
  · exact ev_pos rfl (Ev.now _)
theorem l2ok_l0 (v : S30) (hv : SmV v) (deep : Nat) (hd : deep ≤ 5) (hk : v.f0 = 5 → v.f3.length = v.f4.length)
    (hx : ∀ x ∈ v.f4, ∀ m : Int, 0 ≤ m → m ≤ 40 → Ev (fun k => spec_l2ok.f k x.f0 x.f1 x.f2 x.f3 x.f4 ((deep + 1 : Nat) : Int) m) (left_ (shaped x (5 - deep)) (nV x) m)) :
    ∀ (d i : Nat) (m : Int), i + d = v.f4.length → 0 ≤ m → m ≤ 40 → Ev (fun k => spec_l2ok.l0 k deep m (i : Int) v.f0 v.f1 v.f2 v.f3 v.f4)
      (left_ ((!decide (v.f0 = 5) || keysFrom v.f3 d i) && allShaped (v.f4.drop i) (5 - deep)) (nVs (v.f4.drop i)) m) := by
  obtain ⟨_, w0, w1, w2, w3, w4, w5, w6, w7⟩ := hv
  intro d
  induction d with
  | zero =>
    intro i m hd2 h0 h1
    refine Ev.step (fun _ => spec_l2ok.l0.eq_2 ..) (ev_neg (by omega) (ev_is ?_))
    rw [List.drop_eq_nil_of_le (by omega), nVs, allShaped, keysFrom, Bool.or_true, Bool.true_and, left_0 h0]
  | succ d ih =>
    intro i m hd2 h0 h1
    have hi : i < v.f4.length := by omega
    have J := fun b => l2ok_j6 v deep i m hi hd h0 h1 w6 b _ _ (hx _ (List.getElem_mem hi) m h0 h1) (fun m' h0' h1' => ih (i + 1) m' (by omega) h0' h1')
    rw [drop_at v.f4 i hi, nVs, allShaped]
    generalize shaped v.f4[i] (5 - deep) = S at J ⊢
    generalize nV v.f4[i] = n at J ⊢
    generalize allShaped (v.f4.drop (i + 1)) (5 - deep) = B at J ⊢
    generalize nVs (v.f4.drop (i + 1)) = q at J ⊢
    refine Ev.step (fun _ => spec_l2ok.l0.eq_2 ..) (ev_pos (by omega) ?_)
    by_cases h5 : v.f0 = 5
    · have hk5 := hk h5
      have hi3 : i < v.f3.length := by omega
      rw [decide_eq_true h5] at J ⊢
      refine ev_pos h5 (ev_pos (by omega) (ev_pos (by omega) ?_))
      rw [rdR v.f3 i hi3, keysFrom]
      generalize keysFrom v.f3 d (i + 1) = K at J ⊢
      have key : ∀ b : Bool, b = !keyAt v.f3 i → Ev (fun k => spec_l2ok.j6 k deep m (i : Int) b v.f0 v.f1 v.f2 v.f3 v.f4) (left_ ((!true || (keyAt v.f3 i && K)) && (S && B)) (n + q) m) := by
        intro b hb
        refine ev_eq (J b) ?_
        rw [hb]
        cases keyAt v.f3 i
        · exact (if_pos rfl).trans (left_f _ _).symm
        · refine (if_neg (by decide)).trans ?_
          cases S <;> cases K <;> rfl
      have hln := (w5 _ (List.getElem_mem hi3)).1
      refine Ev.bind (spec_NameOk_ev _ (by omega)) ?_
      refine ev_ite (fun hnm => ?_) (fun hnm => key true (by
        rw [Bool.not_eq_true] at hnm
        unfold keyAt; rw [getDN _ _ _ hi3, hnm]; rfl))
      rcases Nat.eq_zero_or_pos i with hz | hz
      · subst hz
        refine ev_neg (by omega) (key false ?_)
        rw [keyAt_0 _ hi3, hnm]; rfl
      · refine ev_pos (by omega) ?_
        rw [w64 (by omega) (by omega)]
        refine ev_pos (by omega) (ev_pos (by omega) ?_)
        obtain ⟨j, rfl⟩ : ∃ j, i = j + 1 := ⟨i - 1, by omega⟩
        have e : (((j + 1 : Nat) : Int) - 1) = (j : Int) := by omega
        rw [e, rdR v.f3 j (by omega)]
        refine key _ ?_
        rw [keyAt_s _ _ hi3, hnm, Bool.true_and, str_less (w5 _ (List.getElem_mem _)).2 (w5 _ (List.getElem_mem _)).2]
    · rw [decide_eq_false h5] at J ⊢
      refine ev_neg h5 (ev_eq (J false) ?_)
      rw [if_neg (by decide)]
      cases S <;> cases B <;> rfl
def bad (v : S30) : Bool := decide ((v.f0 ≠ 3 ∧ 0 < v.f2.length) ∨ (v.f0 ≠ 5 ∧ 0 < v.f3.length) ∨ (v.f0 ≠ 1 ∧ v.f0 ≠ 2 ∧ v.f1 ≠ 0) ∨ (v.f0 ≠ 4 ∧ v.f0 ≠ 5 ∧ 0 < v.f4.length))
theorem ev_flag {g : Nat → Bool → Option Int} {b b' : Bool} {r : Int} (h : Ev (fun k => g k b) r) (e : b' = b) : Ev (fun k => g k b') r := by subst e; exact h
theorem l2ok_j0 (v : S30) (deep m r : Int) (h : Ev (fun k => spec_l2ok.j1 k deep m (bad v) v.f0 v.f1 v.f2 v.f3 v.f4) r) : Ev (fun k => spec_l2ok.j0 k deep m false v.f0 v.f1 v.f2 v.f3 v.f4) r := by
  refine Ev.step (fun _ => spec_l2ok.j0.eq_2 ..) (ev_neg (by decide) ?_)
  have F : ∀ b, b = bad v → Ev (fun k => spec_l2ok.j1 k deep m b v.f0 v.f1 v.f2 v.f3 v.f4) r := fun b hb => ev_flag (g := fun k b => spec_l2ok.j1 k deep m b v.f0 v.f1 v.f2 v.f3 v.f4) h hb
  unfold bad at F
  repeat' (first
    | (exfalso; omega)
    | (refine F true (decide_eq_true ?_).symm; omega)
    | (refine F false (decide_eq_false ?_).symm; omega)
    | (refine F (decide _) (decide_eq_decide.2 ?_); omega)
    | (refine ev_ite (fun _ => ?_) (fun _ => ?_)))
theorem form_bad {v : S30} (h : bad v = true) : formOk v = false := by
  unfold bad at h
  have h := of_decide_eq_true h
  exact form_bad_ h
theorem left_none {v : S30} (h : v.f4.length = 0) (b : Bool) (n : Nat) {m : Int} (hm : 0 ≤ m) : left_ (b && allShaped v.f4 n) (nVs v.f4) m = if b = true then m else -1 := by
  rw [shaped_none h, Bool.and_true, List.eq_nil_of_length_eq_zero h, nVs]
  cases b
  · exact left_f _ _
  · rw [left_0 hm]; rfl
/-- More than fits is not there. -/
theorem left_more {v : S30} (b : Bool) (n : Nat) {m : Int} (hm : m ≤ 40) : left_ (b && allShaped v.f4 n) (nVs v.f4) m = left_ ((b && decide (v.f4.length ≤ 40)) && allShaped v.f4 n) (nVs v.f4) m := by
  by_cases h : v.f4.length ≤ 40
  · rw [decide_eq_true h, Bool.and_true]
  · rw [decide_eq_false h, Bool.and_false, Bool.false_and, left_f]
    have := nVs_len v.f4
    unfold left_
    rw [if_neg (fun q => by omega)]
theorem l2ok_j1 (v : S30) (hv : SmV v) (deep : Nat) (hd : deep ≤ 5) (m : Int) (hm : 0 ≤ m) (hm2 : m ≤ 40)
    (hx : ∀ x ∈ v.f4, ∀ m : Int, 0 ≤ m → m ≤ 40 → Ev (fun k => spec_l2ok.f k x.f0 x.f1 x.f2 x.f3 x.f4 ((deep + 1 : Nat) : Int) m) (left_ (shaped x (5 - deep)) (nV x) m)) :
    Ev (fun k => spec_l2ok.j1 k deep m (bad v) v.f0 v.f1 v.f2 v.f3 v.f4) (left_ (formOk v && allShaped v.f4 (5 - deep)) (nVs v.f4) m) := by
  have L := l2ok_l0 v hv deep hd
  obtain ⟨_, w0, w1, w2, w3, w4, w5, w6, w7⟩ := hv
  refine Ev.step (fun _ => spec_l2ok.j1.eq_2 ..) (ev_ite (fun hb => ?_) (fun hb => ?_))
  · refine ev_is ?_
    rw [form_bad hb, Bool.false_and, left_f]
  unfold bad at hb
  have hb : ¬ _ := fun q => hb (decide_eq_true q)
  have G : Ev (fun k => spec_l2ok.j2 k deep m v.f0 (decide (v.f0 = 0 ∨ v.f0 = 6)) v.f0 v.f1 v.f2 v.f3 v.f4) (left_ (formOk v && allShaped v.f4 (5 - deep)) (nVs v.f4) m) := by
    refine Ev.step (fun _ => spec_l2ok.j2.eq_2 ..) ?_
    by_cases c0 : v.f0 = 0 ∨ v.f0 = 6
    · refine ev_pos (decide_eq_true c0) (ev_is ?_)
      rw [left_none (by omega) _ _ hm]
      unfold formOk
      rw [if_pos c0, ← Bool.decide_and, ← Bool.decide_and, ← Bool.decide_and, decide_eq_true (by omega), if_pos rfl]
    refine ev_neg (by simpa using c0) ?_
    by_cases c1 : v.f0 = 1
    · rw [left_none (by omega) _ _ hm]
      unfold formOk
      rw [if_neg c0, if_pos c1, ← Bool.decide_and, ← Bool.decide_and, ← Bool.decide_and]
      refine ev_pos c1 (ev_ite (fun h => ev_is ?_) (fun h => ev_ite (fun h2 => ev_is ?_) (fun h2 => ev_is ?_)))
      · rw [decide_eq_false (by omega), if_neg (by decide)]
      · rw [decide_eq_false (by omega), if_neg (by decide)]
      · rw [decide_eq_true (by omega), if_pos rfl]
    refine ev_neg c1 ?_
    by_cases c2 : v.f0 = 2
    · rw [left_none (by omega) _ _ hm]
      unfold formOk
      rw [if_neg c0, if_neg c1, if_pos c2, ← Bool.decide_and, ← Bool.decide_and, ← Bool.decide_and]
      refine ev_pos c2 (Ev.bind (ev_const (l2int_eq v.f1)) (ev_ite (fun h => ev_is ?_) (fun h => ev_is ?_)))
      · have h := of_decide_eq_true h
        rw [decide_eq_true (by omega), if_pos rfl]
      · have h := of_decide_eq_false (Bool.not_eq_true _ ▸ h)
        rw [decide_eq_false (by omega), if_neg (by decide)]
    refine ev_neg c2 ?_
    by_cases c3 : v.f0 = 3
    · rw [left_none (by omega) _ _ hm]
      unfold formOk
      rw [if_neg c0, if_neg c1, if_neg c2, if_pos c3, ← Bool.decide_and, ← Bool.decide_and, decide_eq_true (p := v.f1 = 0 ∧ v.f3.length = 0 ∧ v.f4.length = 0) (by omega), Bool.and_true]
      refine ev_pos c3 (Ev.bind (spec_l2text_ev _ (by omega)) (ev_ite (fun h => ev_is ?_) (fun h => ev_is ?_)))
      · rw [if_pos h]
      · rw [if_neg h]
    refine ev_neg c3 ?_
    by_cases c4 : v.f0 = 4
    · have c5 : ¬ v.f0 = 5 := by omega
      refine ev_pos c4 (Ev.step (fun _ => spec_l2ok.j3.eq_2 ..) (ev_pos (by rw [c4]; rfl) (ev_neg c5 (Ev.step (fun _ => spec_l2ok.j4.eq_2 ..) (ev_neg (by decide) ?_)))))
      refine ev_eq (L (fun q => absurd q c5) hx v.f4.length 0 m (by omega) hm hm2) ?_
      rw [List.drop_zero, decide_eq_false c5, left_more _ _ hm2]
      unfold formOk
      rw [if_neg c0, if_neg c1, if_neg c2, if_neg c3, if_pos c4, decide_eq_true (p := v.f3.length = 0) (by omega), decide_eq_true (p := v.f1 = 0) (by omega), decide_eq_true (p := v.f2.length = 0) (by omega)]
      simp
    refine ev_neg c4 (Ev.step (fun _ => spec_l2ok.j3.eq_2 ..) ?_)
    by_cases c5 : v.f0 = 5
    · refine ev_pos (by rw [c5]; rfl) (ev_pos c5 (Ev.step (fun _ => spec_l2ok.j4.eq_2 ..) ?_))
      by_cases hl : v.f3.length = v.f4.length
      · refine ev_neg (by simp; omega) (ev_eq (L (fun _ => hl) hx v.f4.length 0 m (by omega) hm hm2) ?_)
        rw [List.drop_zero, decide_eq_true c5, left_more _ _ hm2]
        unfold formOk keysOk
        rw [if_neg c0, if_neg c1, if_neg c2, if_neg c3, if_neg c4, if_pos c5, hl, decide_eq_true (p := v.f1 = 0) (by omega), decide_eq_true (p := v.f2.length = 0) (by omega)]
        simp
      · refine ev_pos (by simp; omega) (ev_is ?_)
        unfold formOk
        rw [if_neg c0, if_neg c1, if_neg c2, if_neg c3, if_neg c4, if_pos c5, decide_eq_false hl, Bool.false_and, Bool.false_and, left_f]
    · refine ev_neg (by simpa using c5) (ev_is ?_)
      unfold formOk
      rw [if_neg c0, if_neg c1, if_neg c2, if_neg c3, if_neg c4, if_neg c5, Bool.false_and, left_f]
  have F : ∀ b, b = decide (v.f0 = 0 ∨ v.f0 = 6) → Ev (fun k => spec_l2ok.j2 k deep m v.f0 b v.f0 v.f1 v.f2 v.f3 v.f4) (left_ (formOk v && allShaped v.f4 (5 - deep)) (nVs v.f4) m) := fun b e => ev_flag (g := fun k b => spec_l2ok.j2 k deep m v.f0 b v.f0 v.f1 v.f2 v.f3 v.f4) G e
  refine ev_ite (fun h => F _ ?_) (fun h => F _ ?_)
  · rw [h]; rfl
  · by_cases h6 : v.f0 = 6
    · rw [h6]; rfl
    · rw [decide_eq_false (by omega), beq_eq_false_iff_ne]; exact h6
theorem l2ok_ev : ∀ v : S30, SmV v → ∀ (deep : Nat) (m : Int), 1 ≤ deep → deep ≤ 6 → 0 ≤ m → m ≤ 40 → Ev (fun k => spec_l2ok.f k v.f0 v.f1 v.f2 v.f3 v.f4 (deep : Int) m) (left_ (shaped v (6 - deep)) (nV v) m) := by
  refine vind fun v ih hv deep m hd hd2 hm hm2 => ?_
  have hc : ∀ x ∈ v.f4, SmV x := by obtain ⟨_, w0, w1, w2, w3, w4, w5, w6, w7⟩ := hv; exact w7
  refine Ev.step (fun _ => spec_l2ok.f.eq_2 ..) ?_
  rw [w64 (x := m - 1) (by omega) (by omega), nV_eq, left_s]
  refine ev_ite (fun h => ?_) (fun h => ?_)
  · refine Ev.step (fun _ => spec_l2ok.j0.eq_2 ..) (ev_pos rfl (ev_is ?_))
    unfold left_; rw [if_neg (fun q => by omega)]
  · by_cases h6 : deep = 6
    · subst h6
      rw [decide_eq_true (by decide), shaped_0, left_f]
      exact Ev.step (fun _ => spec_l2ok.j0.eq_2 ..) (ev_pos rfl (Ev.now _))
    · rw [decide_eq_false (by omega), show 6 - deep = (5 - deep) + 1 by omega, shaped_s]
      refine l2ok_j0 v _ _ _ (l2ok_j1 v hv deep (by omega) (m - 1) (by omega) (by omega) fun x hx m' h0 h1 => ?_)
      have := ih x hx (hc x hx) (deep + 1) m' (by omega) (by omega) h0 h1
      rwa [show 6 - (deep + 1) = 5 - deep by omega] at this
/-! spec_ValOk -/
theorem spec_ValOk_ev (v : S30) (hv : SmV v) : Ev (fun k => spec_ValOk.f k v.f0 v.f1 v.f2 v.f3 v.f4) (valOk v) := by
  unfold spec_ValOk.f valOk
  refine Ev.bind (l2ok_ev v hv 1 40 (by omega) (by omega) (by omega) (by omega)) (ev_is ?_)
  unfold left_
  by_cases h : shaped v 5 = true ∧ (nV v : Int) ≤ 40
  · rw [if_pos h, h.1, decide_eq_true (by omega), decide_eq_true (by omega)]; rfl
  · rw [if_neg h, decide_eq_false (by omega)]
    by_cases h2 : shaped v 5 = true
    · rw [h2, decide_eq_false (fun q => h ⟨h2, by omega⟩)]; rfl
    · rw [Bool.not_eq_true] at h2
      rw [h2]; rfl
/-! bytes_Compare -/
theorem bytes_Compare_eq (a b : List Int) (ha : By a) (hb : By b) : bytes_Compare.f a b = some (cmpB a b) := by
  unfold bytes_Compare.f
  rw [bytes_cmp ha hb]
/-! impl_in -/
theorem in_eq (n lo hi : Int) : impl_in.f n lo hi = some (decide (lo ≤ n ∧ n ≤ hi)) := by
  unfold impl_in.f
  by_cases h : n ≥ lo
  · rw [if_pos h]; simp [h]
  · rw [if_neg h]; simp; omega
/-! impl_isName -/
theorem impl_isName_l0 (b : List Int) (hl : b.length ≤ 4611686018427387903) : ∀ (d i : Nat), i + d = b.length → Ev (fun k => impl_isName.l0 k b b (b.length : Int) (i : Int)) (((b.drop i).all fun x => decide (97 ≤ x ∧ x ≤ 122)) && decide (1 ≤ b.length ∧ b.length ≤ 8)) := by
  intro d
  induction d with
  | zero =>
    intro i hd
    refine Ev.step (fun _ => impl_isName.l0.eq_2 ..) (ev_neg (by omega) (ev_ret (ev_const ?_)))
    rw [in_eq, List.drop_eq_nil_of_le (by omega)]
    congr 1
    rw [List.all_nil, Bool.true_and]
    exact decide_eq_decide.2 (by omega)
  | succ d ih =>
    intro i hd
    refine Ev.step (fun _ => impl_isName.l0.eq_2 ..) (ev_pos (by omega) (ev_pos (by omega) (ev_pos (by omega) ?_)))
    rw [M.drop_rd b i (by omega), List.all_cons, w64s i (by omega)]
    by_cases h1 : rd b (i : Int) < 97
    · refine ev_pos h1 (ev_is ?_)
      rw [decide_eq_false (by omega)]; rfl
    · refine ev_neg h1 ?_
      by_cases h2 : rd b (i : Int) > 122
      · refine ev_pos h2 (ev_is ?_)
        rw [decide_eq_false (by omega)]; rfl
      · refine ev_neg h2 (ev_eq (ih (i + 1) (by omega)) ?_)
        rw [decide_eq_true (show 97 ≤ rd b (i : Int) ∧ rd b (i : Int) ≤ 122 by omega), Bool.true_and]
theorem impl_isName_ev (b : List Int) (hl : b.length ≤ 4611686018427387903) : Ev (fun k => impl_isName.f k b) (isName b) := by
  unfold impl_isName.f isName
  refine ev_eq (impl_isName_l0 b hl b.length 0 (by omega)) ?_
  rw [List.drop_zero, Bool.and_comm]
/-! impl_isText -/
theorem impl_isText_l0 (b : List Int) (hl : b.length ≤ 4611686018427387903) : ∀ (d i : Nat), i + d = b.length → Ev (fun k => impl_isText.l0 k b b (b.length : Int) (i : Int)) (((b.drop i).all fun x => decide (32 ≤ x ∧ x ≤ 126)) && decide (b.length ≤ 20)) := by
  intro d
  induction d with
  | zero =>
    intro i hd
    refine Ev.step (fun _ => impl_isText.l0.eq_2 ..) (ev_neg (by omega) (ev_is ?_))
    rw [List.drop_eq_nil_of_le (by omega), List.all_nil, Bool.true_and]
    exact decide_eq_decide.2 (by omega)
  | succ d ih =>
    intro i hd
    refine Ev.step (fun _ => impl_isText.l0.eq_2 ..) (ev_pos (by omega) (ev_pos (by omega) (ev_pos (by omega) ?_)))
    rw [M.drop_rd b i (by omega), List.all_cons, w64s i (by omega)]
    by_cases h1 : rd b (i : Int) < 32
    · refine ev_pos h1 (ev_is ?_)
      rw [decide_eq_false (by omega)]; rfl
    · refine ev_neg h1 ?_
      by_cases h2 : rd b (i : Int) > 126
      · refine ev_pos h2 (ev_is ?_)
        rw [decide_eq_false (by omega)]; rfl
      · refine ev_neg h2 (ev_eq (ih (i + 1) (by omega)) ?_)
        rw [decide_eq_true (show 32 ≤ rd b (i : Int) ∧ rd b (i : Int) ≤ 126 by omega), Bool.true_and]
theorem impl_isText_ev (b : List Int) (hl : b.length ≤ 4611686018427387903) : Ev (fun k => impl_isText.f k b) (isText b) := by
  unfold impl_isText.f isText
  refine ev_eq (impl_isText_l0 b hl b.length 0 (by omega)) ?_
  rw [List.drop_zero, Bool.and_comm]
/-! impl_isShaped -/
theorem indexShaped_l0 (l : List S30) (hl : l.length ≤ 1048576) (n : Nat) (hn : n ≤ 10) (hx : ∀ x ∈ l, Ev (fun k => impl_isShaped.f k x.f0 x.f1 x.f2 x.f3 x.f4 (n : Int)) (shaped x n)) :
    ∀ (d i : Nat), i + d = l.length → ∃ r : Int, Ev (fun k => x_IndexFunc_at_impl_isShaped_1.l0 k l ((n + 1 : Nat) : Int) (l.length : Int) (i : Int)) r ∧ decide (r ≥ 0) = !allShaped (l.drop i) n := by
  intro d
  induction d with
  | zero =>
    intro i hd
    refine ⟨-1, Ev.step (fun _ => x_IndexFunc_at_impl_isShaped_1.l0.eq_2 ..) (ev_neg (by omega) (Ev.now _)), ?_⟩
    rw [List.drop_eq_nil_of_le (by omega), allShaped]; rfl
  | succ d ih =>
    intro i hd
    have hi : i < l.length := by omega
    obtain ⟨r, hr, hd2⟩ := ih (i + 1) (by omega)
    have hs : Ev (fun k => impl_isShaped_1.f k l[i].f0 l[i].f1 l[i].f2 l[i].f3 l[i].f4 ((n + 1 : Nat) : Int)) (!shaped l[i] n) := by
      refine Ev.step (fun _ => impl_isShaped_1.f.eq_2 ..) ?_
      rw [w64 (by omega) (by omega), show ((n + 1 : Nat) : Int) - 1 = (n : Int) by omega]
      exact Ev.bind (hx _ (List.getElem_mem hi)) (Ev.now _)
    rw [drop_at l i hi, allShaped]
    by_cases h : shaped l[i] n = true
    · refine ⟨r, Ev.step (fun _ => x_IndexFunc_at_impl_isShaped_1.l0.eq_2 ..) (ev_pos (by omega) (ev_pos (by omega) (ev_pos (by omega) ?_))), by rw [hd2, h]; rfl⟩
      rw [rdV l i hi, w64s i (by omega)]
      exact Ev.bind hs (ev_neg (by rw [h]; decide) hr)
    · refine ⟨i, Ev.step (fun _ => x_IndexFunc_at_impl_isShaped_1.l0.eq_2 ..) (ev_pos (by omega) (ev_pos (by omega) (ev_pos (by omega) ?_))), by simp [h]⟩
      rw [rdV l i hi]
      exact Ev.bind hs (ev_pos (by simp [h]) (Ev.now _))
theorem containsShaped_ev (l : List S30) (hl : l.length ≤ 1048576) (n : Nat) (hn : n ≤ 10) (hx : ∀ x ∈ l, Ev (fun k => impl_isShaped.f k x.f0 x.f1 x.f2 x.f3 x.f4 (n : Int)) (shaped x n)) :
    Ev (fun k => x_ContainsFunc_at_impl_isShaped_1.f k l ((n + 1 : Nat) : Int)) (!allShaped l n) := by
  obtain ⟨r, hr, hd⟩ := indexShaped_l0 l hl n hn hx l.length 0 (by omega)
  refine Ev.step (fun _ => x_ContainsFunc_at_impl_isShaped_1.f.eq_2 ..) (Ev.bind (a := r) (Ev.step (fun _ => x_IndexFunc_at_impl_isShaped_1.f.eq_2 ..) hr) (ev_is ?_))
  rw [hd, List.drop_zero]
theorem isShaped_l0 (v : S30) (hv : SmV v) (n : Nat) (hn : n ≤ 10) (hx : ∀ x ∈ v.f4, Ev (fun k => impl_isShaped.f k x.f0 x.f1 x.f2 x.f3 x.f4 (n : Int)) (shaped x n)) (p q : Bool) :
    ∀ (d i : Nat), i + d = v.f3.length → Ev (fun k => impl_isShaped.l0 k p q v.f3 (v.f3.length : Int) (i : Int) v.f0 v.f1 v.f2 v.f3 v.f4 ((n + 1 : Nat) : Int)) (keysFrom v.f3 d i && (p && (q && (decide (v.f4.length ≤ 40) && allShaped v.f4 n)))) := by
  obtain ⟨_, w0, w1, w2, w3, w4, w5, w6, w7⟩ := hv
  intro d
  induction d with
  | zero =>
    intro i hd
    refine Ev.step (fun _ => impl_isShaped.l0.eq_2 ..) (ev_neg (by omega) ?_)
    rw [keysFrom, Bool.true_and]
    refine ev_and fun _ => ev_and fun _ => ?_
    rw [show decide (v.f4.length ≤ 40) = decide ((v.f4.length : Int) ≤ 40) from decide_eq_decide.2 (by omega)]
    refine ev_andP fun _ => Ev.bind (containsShaped_ev v.f4 w6 n hn hx) (ev_is ?_)
    rw [Bool.not_not]
  | succ d ih =>
    intro i hd
    have hi3 : i < v.f3.length := by omega
    refine Ev.step (fun _ => impl_isShaped.l0.eq_2 ..) (ev_pos (by omega) (ev_pos (by omega) (ev_pos (by omega) ?_)))
    rw [rdR v.f3 i hi3, w64s i (by omega), keysFrom]
    have hln := (w5 _ (List.getElem_mem hi3)).1
    refine Ev.bind (impl_isName_ev _ (by omega)) (ev_ite (fun hnm => ?_) (fun hnm => ev_is ?_))
    · rcases Nat.eq_zero_or_pos i with hz | hz
      · subst hz
        refine ev_neg (by omega) ?_
        rw [keyAt_0 _ hi3, hnm, Bool.true_and]
        exact ih 1 (by omega)
      · refine ev_pos (by omega) ?_
        rw [w64 (by omega) (by omega)]
        refine ev_pos (by omega) (ev_pos (by omega) ?_)
        obtain ⟨j, rfl⟩ : ∃ j, i = j + 1 := ⟨i - 1, by omega⟩
        have e : (((j + 1 : Nat) : Int) - 1) = (j : Int) := by omega
        rw [e, rdR v.f3 j (by omega), keyAt_s _ _ hi3, hnm, Bool.true_and]
        have hr := cmpB_range v.f3[j] v.f3[j + 1]
        refine Ev.bind (ev_const (bytes_Compare_eq _ _ (w5 _ (List.getElem_mem _)).2 (w5 _ (List.getElem_mem _)).2)) (ev_ite (fun h => ev_is ?_) (fun h => ?_))
        · rw [decide_eq_false (by omega)]; rfl
        · rw [decide_eq_true (by omega), Bool.true_and]
          exact ih (j + 1 + 1) (by omega)
    · rw [Bool.not_eq_true] at hnm
      unfold keyAt; rw [getDN _ _ _ hi3, hnm]; rfl
theorem isShaped_j0 (v : S30) (hv : SmV v) (n : Nat) (hn : n ≤ 10) (hx : ∀ x ∈ v.f4, Ev (fun k => impl_isShaped.f k x.f0 x.f1 x.f2 x.f3 x.f4 (n : Int)) (shaped x n)) (b : Bool) (hb : b = decide (v.f0 = 0 ∨ v.f0 = 6)) :
    Ev (fun k => impl_isShaped.j0 k (v.f1 == 0) ((v.f2.length : Int) == 0) ((v.f3.length : Int) == 0) ((v.f4.length : Int) == 0) v.f0 b v.f0 v.f1 v.f2 v.f3 v.f4 ((n + 1 : Nat) : Int)) (formOk v && allShaped v.f4 n) := by
  have L := isShaped_l0 v hv n hn hx
  obtain ⟨_, w0, w1, w2, w3, w4, w5, w6, w7⟩ := hv
  have N4 : ∀ c : Bool, (c && decide (v.f4.length = 0)) = ((c && decide (v.f4.length = 0)) && allShaped v.f4 n) := by
    intro c
    by_cases h : v.f4.length = 0
    · rw [shaped_none h, Bool.and_true]
    · rw [decide_eq_false h, Bool.and_false, Bool.false_and]
  subst hb
  rw [beqI, beq0, beq0, beq0]
  refine Ev.step (fun _ => impl_isShaped.j0.eq_2 ..) ?_
  unfold formOk
  by_cases c0 : v.f0 = 0 ∨ v.f0 = 6
  · refine ev_pos (decide_eq_true c0) ?_
    rw [if_pos c0, ← Bool.and_assoc (decide (v.f1 = 0)), ← Bool.and_assoc _ (decide (v.f3.length = 0)), ← N4, Bool.and_assoc, Bool.and_assoc]
    exact ev_and fun _ => ev_and fun _ => ev_and fun _ => Ev.now _
  refine ev_neg (by simpa using c0) ?_
  rw [if_neg c0]
  by_cases c1 : v.f0 = 1
  · refine ev_pos c1 ?_
    rw [if_pos c1, ← Bool.and_assoc (decide _) (decide (v.f2.length = 0)), ← Bool.and_assoc _ (decide (v.f3.length = 0)), ← N4, Bool.and_assoc, Bool.and_assoc]
    exact Ev.bind (ev_const (in_eq _ _ _)) (ev_and fun _ => ev_and fun _ => ev_and fun _ => Ev.now _)
  refine ev_neg c1 ?_
  rw [if_neg c1]
  by_cases c2 : v.f0 = 2
  · refine ev_pos c2 ?_
    rw [if_pos c2, ← Bool.and_assoc (decide _) (decide (v.f2.length = 0)), ← Bool.and_assoc _ (decide (v.f3.length = 0)), ← N4, Bool.and_assoc, Bool.and_assoc]
    exact Ev.bind (ev_const (in_eq _ _ _)) (ev_and fun _ => ev_and fun _ => ev_and fun _ => Ev.now _)
  refine ev_neg c2 ?_
  rw [if_neg c2]
  by_cases c3 : v.f0 = 3
  · refine ev_pos c3 ?_
    rw [if_pos c3, ← Bool.and_assoc (isText _) (decide (v.f1 = 0)), ← Bool.and_assoc _ (decide (v.f3.length = 0)), ← N4, Bool.and_assoc, Bool.and_assoc]
    exact Ev.bind (impl_isText_ev _ (by omega)) (ev_and fun _ => ev_and fun _ => ev_and fun _ => Ev.now _)
  refine ev_neg c3 ?_
  rw [if_neg c3]
  have e40 : decide (v.f4.length ≤ 40) = decide ((v.f4.length : Int) ≤ 40) := decide_eq_decide.2 (by omega)
  by_cases c4 : v.f0 = 4
  · refine ev_pos c4 ?_
    rw [if_pos c4, e40]
    simp only [Bool.and_assoc]
    refine ev_and fun _ => ev_and fun _ => ev_and fun _ => ev_andP fun _ => Ev.bind (containsShaped_ev v.f4 w6 n hn hx) (ev_is ?_)
    rw [Bool.not_not]
  refine ev_neg c4 ?_
  rw [if_neg c4]
  by_cases c5 : v.f0 = 5
  · refine ev_pos c5 ?_
    rw [if_pos c5, show decide (v.f3.length = v.f4.length) = decide ((v.f3.length : Int) = (v.f4.length : Int)) from decide_eq_decide.2 (by omega)]
    simp only [Bool.and_assoc]
    refine ev_andP fun _ => ?_
    exact L _ _ v.f3.length 0 (by omega)
  · refine ev_neg c5 (ev_is ?_)
    rw [if_neg c5, Bool.false_and]
theorem isShaped_ev : ∀ v : S30, SmV v → ∀ n : Nat, n ≤ 10 → Ev (fun k => impl_isShaped.f k v.f0 v.f1 v.f2 v.f3 v.f4 (n : Int)) (shaped v n) := by
  refine vind fun v ih hv n hn => ?_
  have hc : ∀ x ∈ v.f4, SmV x := by obtain ⟨_, w0, w1, w2, w3, w4, w5, w6, w7⟩ := hv; exact w7
  refine Ev.step (fun _ => impl_isShaped.f.eq_2 ..) ?_
  cases n with
  | zero => exact ev_pos rfl (ev_is (shaped_0 v).symm)
  | succ n =>
    rw [shaped_s]
    have J := isShaped_j0 v hv n (by omega) (fun x hx => ih x hx (hc x hx) n (by omega))
    refine ev_neg (by omega) (ev_ite (fun h => J _ ?_) (fun h => J _ ?_))
    · rw [h]; rfl
    · by_cases h6 : v.f0 = 6
      · rw [h6]; rfl
      · rw [decide_eq_false (by omega), beq_eq_false_iff_ne]; exact h6
/-! impl_Value_parts -/
theorem parts_l0 (l : List S30) (hl : l.length ≤ 1048576) (hx : ∀ v ∈ l, Ev (fun k => impl_Value_parts.f k v.f0 v.f1 v.f2 v.f3 v.f4) (nV v : Int)) : ∀ (d i : Nat) (a : Nat), i + d = l.length → a + nVs (l.drop i) ≤ 4611686018427387903 →
    Ev (fun k => impl_Value_parts.l0 k (a : Int) l (l.length : Int) (i : Int)) ((a + nVs (l.drop i) : Nat) : Int) := by
  intro d
  induction d with
  | zero =>
    intro i a hd ha
    refine Ev.step (fun _ => impl_Value_parts.l0.eq_2 ..) (ev_neg (by omega) (ev_is ?_))
    rw [List.drop_eq_nil_of_le (by omega), nVs, Nat.add_zero]
  | succ d ih =>
    intro i a hd ha
    have hi : i < l.length := by omega
    rw [drop_at l i hi, nVs] at ha ⊢
    refine Ev.step (fun _ => impl_Value_parts.l0.eq_2 ..) (ev_pos (by omega) (ev_pos (by omega) (ev_pos (by omega) ?_)))
    rw [rdV l i hi]
    refine Ev.bind (hx _ (List.getElem_mem hi)) ?_
    rw [w64s i (by omega), w64 (by omega) (by omega), ← Int.natCast_add, ← Nat.add_assoc]
    exact ih (i + 1) (a + nV l[i]) (by omega) (by omega)
theorem parts_ev : ∀ v : S30, SmV v → nV v ≤ 4611686018427387903 → Ev (fun k => impl_Value_parts.f k v.f0 v.f1 v.f2 v.f3 v.f4) (nV v : Int) := by
  refine vind fun v ih hw hn => ?_
  obtain ⟨_, w0, w1, w2, w3, w4, w5, w6, w7⟩ := hw
  rw [nV_eq] at hn ⊢
  refine Ev.step (fun _ => impl_Value_parts.f.eq_2 ..) (ev_eq (parts_l0 v.f4 w6 (fun x hx => ih x hx (w7 x hx) (by have := nVs_mem hx; omega)) v.f4.length 0 1 (by omega) (by rw [List.drop_zero]; omega)) ?_)
  rw [List.drop_zero]
/-! impl_isValue -/
theorem isValue_ev (v : S30) (hv : SmV v) (hn : nV v ≤ 4611686018427387903) : Ev (fun k => impl_isValue.f k v.f0 v.f1 v.f2 v.f3 v.f4) (valOk v) := by
  unfold impl_isValue.f valOk
  refine Ev.bind (isShaped_ev v hv 5 (by omega)) (ev_and fun _ => Ev.bind (parts_ev v hv hn) (ev_is ?_))
  exact decide_eq_decide.2 (by omega)
/-! impl_copyBytes -/
theorem copyBytes_eq (b : List Int) (hb : b.length < 140737488355328) : impl_copyBytes.f b = some b := by
  unfold impl_copyBytes.f
  simp only [Option.bind_some, List.length_nil, Nat.zero_add, List.nil_append]
  rw [if_pos hb]
/-! laws_eqStep -/
theorem eqStep_ev (x : Int) (l : List Int) (y : Int) (hl : l.length ≤ 281474976710656) : Ev (fun k => laws_eqStep.f k x l y x l y) true := by
  unfold laws_eqStep.f
  exact ev_pos rfl (Ev.bind (eqByteS_ev l hl) (ev_pos rfl (ev_pos rfl (Ev.now _))))
/-! laws_eqStepS -/
theorem eqStepS_l0 (l : List S79) (hl : l.length ≤ 1048576) (hk : ∀ s ∈ l, s.f1.length ≤ 1048576) : ∀ (d i : Nat), i + d = l.length → Ev (fun k => laws_eqStepS.l0 k l l (i : Int)) true := by
  intro d
  induction d with
  | zero =>
    intro i hd
    exact Ev.step (fun _ => laws_eqStepS.l0.eq_2 ..) (ev_neg (by omega) (Ev.now _))
  | succ d ih =>
    intro i hd
    have hi : i < l.length := by omega
    refine Ev.step (fun _ => laws_eqStepS.l0.eq_2 ..) (ev_pos (by omega) (ev_pos (by omega) (ev_pos (by omega) ?_)))
    rw [rdS l i hi]
    have hs := hk _ (List.getElem_mem hi)
    refine Ev.bind (eqStep_ev _ _ _ (by omega)) (ev_pos rfl ?_)
    rw [w64s i (by omega)]
    exact ih (i + 1) (by omega)
theorem eqStepS_ev (l : List S79) (hl : l.length ≤ 1048576) (hk : ∀ s ∈ l, s.f1.length ≤ 1048576) : Ev (fun k => laws_eqStepS.f k l l) true := by
  unfold laws_eqStepS.f
  exact ev_pos rfl (eqStepS_l0 l hl hk l.length 0 (by omega))
/-! laws_heldByteS -/
theorem heldByteS_l0 (n : Nat) (a : Int) (hn : n ≤ 281474976710656) (h0 : 0 ≤ a) (h1 : a ≤ 281474976710656) : ∀ (d i : Nat), i + d = n →
    Ev (fun k => laws_heldByteS.l0 k (markL n a) (a + (i : Int)) i) (a + (n : Int)) := by
  intro d
  induction d with
  | zero =>
    intro i hd
    refine Ev.step (fun _ => laws_heldByteS.l0.eq_2 ..) ?_
    refine ev_neg (by rw [markL_length]; omega) ?_
    refine ev_is ?_
    rw [show (i : Int) = n by omega]
  | succ d ih =>
    intro i hd
    refine Ev.step (fun _ => laws_heldByteS.l0.eq_2 ..) ?_
    refine ev_pos (by rw [markL_length]; omega) (ev_pos (by omega) (ev_pos (rd_markL n a i (by omega)) ?_))
    rw [w64s i (by omega), w64 (x := a + (i : Int) + 1) (by omega) (by omega), show a + (i : Int) + 1 = a + ((i + 1 : Nat) : Int) by omega]
    exact ih (i + 1) (by omega)
theorem heldByteS_ev (n : Nat) (a : Int) (hn : n ≤ 281474976710656) (h0 : 0 ≤ a) (h1 : a ≤ 281474976710656) : Ev (fun k => laws_heldByteS.f k (markL n a) a) (a + (n : Int)) := by
  unfold laws_heldByteS.f
  have := heldByteS_l0 n a hn h0 h1 n 0 (by omega)
  simpa using this
/-! laws_heldStepS -/
theorem msts_at : ∀ (l : List S79) (a : Int) (i : Nat) (h : i < l.length), (msts a l)[i]'(by rw [msts_len]; exact h) = mst (a + (mSt (l.take i) : Nat)) l[i]
  | [], a, i, h => by simp at h
  | x :: l, a, 0, h => by simp [msts, mSt]
  | x :: l, a, i + 1, h => by
    have := msts_at l (a + ((2 + x.f1.length : Nat) : Int)) i (by simpa using h)
    simp only [msts, List.getElem_cons_succ, List.take_succ_cons, mSt, this]
    rw [show a + ((2 + x.f1.length : Nat) : Int) + (mSt (l.take i) : Nat) = a + ((2 + x.f1.length + mSt (l.take i) : Nat) : Int) by omega]
theorem heldStepS_l0 (l : List S79) (a : Int) (hl : l.length ≤ 281474976710656) (h0 : 0 ≤ a) (h1 : a + mSt l ≤ 281474976710656) : ∀ (d i : Nat), i + d = l.length → Ev (fun k => laws_heldStepS.l0 k (msts a l) (a + (mSt (l.take i) : Nat)) (i : Int)) (a + mSt l) := by
  intro d
  induction d with
  | zero =>
    intro i hd
    refine Ev.step (fun _ => laws_heldStepS.l0.eq_2 ..) (ev_neg (by rw [msts_len]; omega) (ev_is ?_))
    rw [List.take_of_length_le (by omega)]
  | succ d ih =>
    intro i hd
    have hi : i < l.length := by omega
    have ht := mSt_take l i hi
    have hle := mSt_le l (i + 1)
    refine Ev.step (fun _ => laws_heldStepS.l0.eq_2 ..) (ev_pos (by rw [msts_len]; omega) (ev_pos (by omega) ?_))
    rw [rdS _ i (by rw [msts_len]; exact hi), msts_at l a i hi]
    refine ev_pos rfl ?_
    rw [w64 (x := a + (mSt (l.take i) : Nat) + 1) (by omega) (by omega)]
    refine Ev.bind (heldByteS_ev l[i].f1.length (a + (mSt (l.take i) : Nat) + 1) (by omega) (by omega) (by omega)) (ev_neg (by omega) (ev_pos rfl ?_))
    rw [w64s i (by omega), w64 (x := a + (mSt (l.take i) : Nat) + 1 + (l[i].f1.length : Nat) + 1) (by omega) (by omega), show a + (mSt (l.take i) : Nat) + 1 + (l[i].f1.length : Nat) + 1 = a + ((mSt (l.take (i + 1)) : Nat) : Int) by omega]
    exact ih (i + 1) (by omega)
theorem heldStepS_ev (l : List S79) (a : Int) (hl : l.length ≤ 281474976710656) (h0 : 0 ≤ a) (h1 : a + mSt l ≤ 281474976710656) : Ev (fun k => laws_heldStepS.f k (msts a l) a) (a + mSt l) := by
  unfold laws_heldStepS.f
  have := heldStepS_l0 l a hl h0 h1 l.length 0 (by omega)
  simpa [mSt] using this
theorem rdP (xs : List (List S79)) (i : Nat) (h : i < xs.length) : rd_L7 xs (i : Int) = xs[i] := getDI xs _ i h
theorem rdK (xs : List (List Int)) (i : Nat) (h : i < xs.length) : rd_L1 xs (i : Int) = xs[i] := getDI xs _ i h
theorem copyPath_l0 (l : List S79) (hl : l.length ≤ 1000) (hk : ∀ s ∈ l, s.f1.length ≤ 1048576) : ∀ (d i : Nat) (out : List S79), i + d = l.length → out.length = i → Ev (fun k => impl_copyPath.l0 k out l (l.length : Int) (i : Int)) (out ++ l.drop i) := by
  intro d
  induction d with
  | zero =>
    intro i out hd ho
    refine Ev.step (fun _ => impl_copyPath.l0.eq_2 ..) (ev_neg (by omega) (ev_is ?_))
    rw [List.drop_eq_nil_of_le (by omega), List.append_nil]
  | succ d ih =>
    intro i out hd ho
    have hi : i < l.length := by omega
    have hb := hk _ (List.getElem_mem hi)
    refine Ev.step (fun _ => impl_copyPath.l0.eq_2 ..) (ev_pos (by omega) (ev_pos (by omega) (ev_pos (by omega) ?_)))
    rw [rdS l i hi, w64s i (by omega), drop_at l i hi]
    refine Ev.bind (ev_const (copyBytes_eq _ (by omega))) (ev_pos (by omega) ?_)
    have e : out ++ l[i] :: l.drop (i + 1) = (out ++ [l[i]]) ++ l.drop (i + 1) := by rw [List.append_assoc]; rfl
    rw [e]
    exact ih (i + 1) (out ++ [l[i]]) (by omega) (by rw [List.length_append, ho]; rfl)
theorem copyPath_ev (l : List S79) (hl : l.length ≤ 1000) (hk : ∀ s ∈ l, s.f1.length ≤ 1048576) : Ev (fun k => impl_copyPath.f k l) l := by
  unfold impl_copyPath.f
  exact copyPath_l0 l hl hk l.length 0 [] (by omega) rfl
theorem l3more_eq (l : List S79) (a : Int) (b : List Int) (c : Int) (h : l.length ≤ 1000) : spec_l3more.f l a b c = some (l ++ [⟨a, b, c⟩]) := by
  unfold spec_l3more.f
  simp only [Option.bind_some, List.nil_append, List.length_nil, List.length_singleton, Nat.zero_add]
  rw [if_pos (by omega), if_pos (by omega)]
theorem stepP_key {x : S30} (h5 : x.f0 = 5) (i : Nat) (h : i < x.f3.length) : stepP x.f0 x.f3 i = ⟨0, x.f3[i], 0⟩ := by unfold stepP; rw [if_pos h5, getDN _ _ _ h]
theorem stepP_item {x : S30} (h5 : ¬ x.f0 = 5) (i : Nat) : stepP x.f0 x.f3 i = ⟨1, [], (i : Int)⟩ := by unfold stepP; rw [if_neg h5]
section
variable (x : S30) (hs : SmV x) (hf : formOk x = true) (p : List S79)
include hs hf
theorem l3leaves_l0 (hp : p.length ≤ 999) (ih : ∀ y ∈ x.f4, ∀ q : List S79, q.length ≤ p.length + 1 → Ev (fun k => spec_l3leaves.f k y.f0 y.f1 y.f2 y.f3 y.f4 q) (lvP y q)) :
    ∀ (d i : Nat) (out : List (List S79)), i + d = x.f4.length → out.length + (lvPs x.f0 x.f3 (x.f4.drop i) p i).length ≤ 1000 → Ev (fun k => spec_l3leaves.l0 k p out (i : Int) x.f0 x.f1 x.f2 x.f3 x.f4) (out ++ lvPs x.f0 x.f3 (x.f4.drop i) p i) := by
  obtain ⟨_, w0, w1, w2, w3, w4, w5, w6, w7⟩ := hs
  intro d
  induction d with
  | zero =>
    intro i out hd ho
    refine Ev.step (fun _ => spec_l3leaves.l0.eq_2 ..) (ev_neg (by omega) (ev_is ?_))
    rw [List.drop_eq_nil_of_le (by omega), lvPs, List.append_nil]
  | succ d ihd =>
    intro i out hd ho
    have hi : i < x.f4.length := by omega
    rw [drop_at x.f4 i hi, lvPs] at ho ⊢
    rw [List.length_append] at ho
    refine Ev.step (fun _ => spec_l3leaves.l0.eq_2 ..) (ev_pos (by omega) ?_)
    have T : ∀ s, s = stepP x.f0 x.f3 i → Ev (fun k => (spec_l3leaves.f k (rd_T30 x.f4 (i : Int)).f0 (rd_T30 x.f4 (i : Int)).f1 (rd_T30 x.f4 (i : Int)).f2 (rd_T30 x.f4 (i : Int)).f3 (rd_T30 x.f4 (i : Int)).f4 (p ++ [s])).bind fun t => if out.length + t.length < 5864062014805 then spec_l3leaves.l0 k p (out ++ t) (wrap64 ((i : Int) + 1)) x.f0 x.f1 x.f2 x.f3 x.f4 else none) (out ++ (lvP x.f4[i] (p ++ [stepP x.f0 x.f3 i]) ++ lvPs x.f0 x.f3 (x.f4.drop (i + 1)) p (i + 1))) := by
      rintro s rfl
      rw [rdV x.f4 i hi, w64s i (by omega)]
      refine Ev.bind (ih _ (List.getElem_mem hi) _ (by rw [List.length_append]; exact Nat.le_refl _)) (ev_pos (by omega) (ev_eq (ihd (i + 1) _ (by omega) (by rw [List.length_append]; omega)) ?_))
      rw [List.append_assoc]
    by_cases h5 : x.f0 = 5
    · have hm := form_map hf h5
      have hi3 : i < x.f3.length := by omega
      have hkl := (w5 _ (List.getElem_mem hi3)).1
      refine ev_pos h5 (ev_some (ev_pos (by omega) (ev_pos (by omega) ?_)))
      rw [rdK x.f3 i hi3]
      refine ev_pos (by rw [List.length_nil]; omega) (Ev.bind (ev_const (l3more_eq p _ _ _ (by omega))) (T _ ?_))
      rw [stepP_key h5 i hi3, List.nil_append]
    · refine ev_neg h5 (ev_pos (by omega) (Ev.bind (ev_const (l3more_eq p _ _ _ (by omega))) (T _ ?_)))
      rw [stepP_item h5 i]
end
theorem leavesG_ev (x : S30) (hf : formOk x = true) (p : List S79) (hp : p.length ≤ 999) (hk : ∀ s ∈ p, s.f1.length ≤ 1048576) (ih : ∀ (i : Nat) (hi : i < x.f4.length), Ev (fun k => leavesF k (p ++ [stepP x.f0 x.f3 i]) x.f4[i]) (lvP x.f4[i] (p ++ [stepP x.f0 x.f3 i]))) :
    ∀ (d i : Nat) (out : List (List S79)), i + d = x.f4.length → out.length + (lvPs x.f0 x.f3 (x.f4.drop i) p i).length ≤ 1000 → Ev (fun k => leavesG (fun q y => leavesF k q y) (impl_copyPath.f k) x p d i out) (out ++ lvPs x.f0 x.f3 (x.f4.drop i) p i) := by
  intro d
  induction d with
  | zero =>
    intro i out hd ho
    rw [List.drop_eq_nil_of_le (by omega), lvPs, List.append_nil]
    exact Ev.now _
  | succ d ihd =>
    intro i out hd ho
    have hi : i < x.f4.length := by omega
    rw [drop_at x.f4 i hi, lvPs] at ho ⊢
    rw [List.length_append] at ho
    have hst : stepAt x i = some (stepP x.f0 x.f3 i) := by
      unfold stepAt
      by_cases h5 : x.f0 = 5
      · have hm := form_map hf h5
        rw [if_pos h5, if_pos (by omega), rdK x.f3 i (by omega), stepP_key h5 i (by omega)]
      · rw [if_neg h5, stepP_item h5 i]
    simp only [leavesG]
    refine Ev.bind (ev_const hst) (Ev.bind (copyPath_ev p (by omega) hk) (ev_pos (by omega) ?_))
    rw [rdV x.f4 i hi]
    refine Ev.bind (ih i hi) (ev_pos (by omega) (ev_eq (ihd (i + 1) _ (by omega) (by rw [List.length_append]; omega)) ?_))
    rw [List.append_assoc]
theorem lvPs_all {x : S30} (hn : nV x ≤ 40) (p : List S79) : (lvPs x.f0 x.f3 x.f4 p 0).length ≤ 1000 := by
  have := lvPs_len x.f0 x.f3 p x.f4 0 fun y _ => lvP_len y
  rw [nV_eq] at hn; omega
theorem l3leaves_ev : ∀ (x : S30), SmV x → nV x ≤ 40 → ∀ n, shaped x n = true → ∀ p : List S79, p.length + n ≤ 900 → Ev (fun k => spec_l3leaves.f k x.f0 x.f1 x.f2 x.f3 x.f4 p) (lvP x p) := by
  refine vind fun x ih hs hn n hsh p hp => ?_
  cases n with
  | zero => rw [shaped_0] at hsh; cases hsh
  | succ n =>
    rw [shaped_s, Bool.and_eq_true] at hsh
    refine Ev.step (fun _ => spec_l3leaves.f.eq_2 ..) ?_
    rw [lvP_eq]
    by_cases hz : x.f4.length = 0
    · rw [if_pos hz]
      refine ev_pos (by omega) (ev_some (ev_pos (by rw [List.length_nil]; omega) (ev_is ?_)))
      rw [List.nil_append]
    · rw [if_neg hz]
      refine ev_neg (by omega) (ev_eq (l3leaves_l0 x hs hsh.1 p (by omega) (fun y hy q hq => ih y hy (smV_child hs y hy) (by have := nVs_mem hy; rw [nV_eq] at hn; omega) n (all_shaped hsh.2 y hy) q (by omega)) x.f4.length 0 [] (by omega) ?_) ?_)
      · rw [List.drop_zero, List.length_nil]; have := lvPs_all hn p; omega
      · rw [List.drop_zero, List.nil_append]
theorem leavesF_ev : ∀ (x : S30), SmV x → nV x ≤ 40 → ∀ n, shaped x n = true → ∀ p : List S79, p.length + n ≤ 900 → (∀ s ∈ p, s.f1.length ≤ 1048576) → Ev (fun k => leavesF k p x) (lvP x p) := by
  refine vind fun x ih hs hn n hsh p hp hk => ?_
  cases n with
  | zero => rw [shaped_0] at hsh; cases hsh
  | succ n =>
    rw [shaped_s, Bool.and_eq_true] at hsh
    refine Ev.step (fun _ => leavesF.eq_2 ..) ?_
    rw [lvP_eq]
    by_cases hz : x.f4.length = 0
    · rw [if_pos hz]
      exact ev_pos hz (Ev.bind (copyPath_ev p (by omega) hk) (Ev.now _))
    · rw [if_neg hz]
      refine ev_neg hz (ev_eq (leavesG_ev x hsh.1 p (by omega) hk (fun i hi => ih _ (List.getElem_mem hi) (smV_child hs _ (List.getElem_mem hi)) (by have := nVs_mem (List.getElem_mem hi); rw [nV_eq] at hn; omega) n (all_shaped hsh.2 _ (List.getElem_mem hi)) _ (by rw [List.length_append, List.length_singleton]; omega) (fun s hs_ => ?_)) x.f4.length 0 [] (by omega) ?_) ?_)
      · rcases List.mem_append.1 hs_ with hm | hm
        · exact hk s hm
        · have := stepP_short hsh.1 hi
          rw [List.mem_singleton.1 hm]; omega
      · rw [List.drop_zero, List.length_nil]; have := lvPs_all hn p; omega
      · rw [List.drop_zero, List.nil_append]
/-! the reference's answer is its own -/
theorem leaves_l1 (l : List (List S79)) (hl : l.length ≤ 1000) (i : Nat) (hi : i < l.length) (hp : Short 100 l[i]) (out : List (List S79)) (ho : out.length ≤ 1000) (R : List (List S79)) (hR : Ev (fun k => spec_Leaves.l0 k (out ++ [l[i]]) l ((i + 1 : Nat) : Int)) R) :
    ∀ (d j : Nat) (cur : List S79), j + d = l[i].length → cur = l[i].take j → Ev (fun k => spec_Leaves.l1 k out l (i : Int) cur (j : Int)) R := by
  have h1 := hp.1
  intro d
  induction d with
  | zero =>
    intro j cur hd hc
    have hcl : cur.length ≤ 100 := by rw [hc, List.length_take]; omega
    refine Ev.step (fun _ => spec_Leaves.l1.eq_2 ..) (ev_pos (by omega) (ev_pos (by omega) ?_))
    rw [rdP l i hi]
    refine ev_neg (by omega) (ev_pos (by omega) ?_)
    rw [w64s i (by omega), hc, List.take_of_length_le (by omega)]
    exact hR
  | succ d ih =>
    intro j cur hd hc
    have hj : j < l[i].length := by omega
    have hcl : cur.length = j := by rw [hc, List.length_take]; omega
    have hk := hp.2 _ (List.getElem_mem hj)
    refine Ev.step (fun _ => spec_Leaves.l1.eq_2 ..) (ev_pos (by omega) (ev_pos (by omega) ?_))
    rw [rdP l i hi]
    refine ev_pos (by omega) (ev_pos (by omega) (ev_some ?_))
    rw [rdS l[i] j hj]
    refine ev_pos (by rw [List.length_nil]; omega) (ev_pos (by omega) ?_)
    rw [w64s j (by omega), List.nil_append]
    refine ih (j + 1) _ (by omega) ?_
    rw [hc, List.take_succ_eq_append_getElem hj]
theorem leaves_l0 (l : List (List S79)) (hl : l.length ≤ 1000) (hp : ∀ q ∈ l, Short 100 q) : ∀ (d i : Nat), i + d = l.length → Ev (fun k => spec_Leaves.l0 k (l.take i) l (i : Int)) l := by
  intro d
  induction d with
  | zero =>
    intro i hd
    refine Ev.step (fun _ => spec_Leaves.l0.eq_2 ..) (ev_neg (by omega) (ev_is ?_))
    rw [List.take_of_length_le (by omega)]
  | succ d ih =>
    intro i hd
    have hi : i < l.length := by omega
    refine Ev.step (fun _ => spec_Leaves.l0.eq_2 ..) (ev_pos (by omega) ?_)
    refine leaves_l1 l hl i hi (hp _ (List.getElem_mem hi)) (l.take i) (by rw [List.length_take]; omega) l ?_ l[i].length 0 [] (by omega) rfl
    rw [← List.take_succ_eq_append_getElem hi]
    exact ih (i + 1) (by omega)
def leavesP (x : S30) : List (List S79) := if valOk x = true then lvP x [] else []
theorem valOk_shape {x : S30} (h : valOk x = true) : shaped x 5 = true ∧ nV x ≤ 40 := by
  unfold valOk at h
  simp only [Bool.and_eq_true, decide_eq_true_eq] at h
  exact h
theorem leavesP_short (x : S30) : (leavesP x).length ≤ 40 ∧ ∀ q ∈ leavesP x, Short 5 q := by
  unfold leavesP
  split
  · rename_i h
    obtain ⟨h1, h2⟩ := valOk_shape h
    refine ⟨Nat.le_trans (lvP_len x []) h2, fun q hq => short_le (lvP_short x 5 h1 0 [] ⟨Nat.le_refl _, fun s hs => by cases hs⟩ q hq) (by omega)⟩
  · exact ⟨Nat.zero_le _, fun q hq => by cases hq⟩
theorem spec_Leaves_ev (x : S30) (hs : SmV x) : Ev (fun k => spec_Leaves.f k x.f0 x.f1 x.f2 x.f3 x.f4) (leavesP x) := by
  have hq := leavesP_short x
  unfold spec_Leaves.f
  refine Ev.bind (spec_ValOk_ev x hs) (ev_ite (fun h => ?_) fun h => ev_is ?_)
  · obtain ⟨h1, h2⟩ := valOk_shape h
    have e : leavesP x = lvP x [] := if_pos h
    rw [e] at hq ⊢
    exact Ev.bind (l3leaves_ev x hs h2 5 h1 [] (by simp)) (leaves_l0 (lvP x []) (by omega) (fun q m => short_le (hq.2 q m) (by omega)) (lvP x []).length 0 (by omega))
  · exact (if_neg h).symm
theorem impl_Leaves_ev (x : S30) (hs : SmV x) (hn : nV x ≤ 4611686018427387903) : Ev (fun k => impl_Leaves.g k x.f0 x.f1 x.f2 x.f3 x.f4) (leavesP x) := by
  have hx : (⟨x.f0, x.f1, x.f2, x.f3, x.f4⟩ : S30) = x := by cases x; rfl
  unfold impl_Leaves.g
  rw [hx]
  refine Ev.bind (isValue_ev x hs hn) (ev_ite (fun h => ?_) fun h => ev_is ?_)
  · obtain ⟨h1, h2⟩ := valOk_shape h
    exact ev_eq (leavesF_ev x hs h2 5 h1 [] (by simp) (fun s m => by cases m)) (if_pos h).symm
  · exact (if_neg h).symm
theorem eqStepSS_l0 (l : List (List S79)) (hl : l.length ≤ 1000) (hp : ∀ q ∈ l, Short 100 q) : ∀ (d i : Nat), i + d = l.length → Ev (fun k => laws_eqStepSS.l0 k l l (i : Int)) true := by
  intro d
  induction d with
  | zero =>
    intro i hd
    exact Ev.step (fun _ => laws_eqStepSS.l0.eq_2 ..) (ev_neg (by omega) (Ev.now _))
  | succ d ih =>
    intro i hd
    have hi : i < l.length := by omega
    have hq := hp _ (List.getElem_mem hi)
    refine Ev.step (fun _ => laws_eqStepSS.l0.eq_2 ..) (ev_pos (by omega) (ev_pos (by omega) (ev_pos (by omega) ?_)))
    rw [rdP l i hi, w64s i (by omega)]
    exact Ev.bind (eqStepS_ev l[i] (by have := hq.1; omega) (fun s hs => by have := hq.2 s hs; omega)) (ev_pos rfl (ih (i + 1) (by omega)))
theorem eqStepSS_ev (l : List (List S79)) (hl : l.length ≤ 1000) (hp : ∀ q ∈ l, Short 100 q) : Ev (fun k => laws_eqStepSS.f k l l) true := by
  unfold laws_eqStepSS.f
  exact ev_pos rfl (eqStepSS_l0 l hl hp l.length 0 (by omega))
theorem mstss_at : ∀ (l : List (List S79)) (a : Int) (i : Nat) (h : i < l.length), (mstss a l)[i]'(by rw [mstss_len]; exact h) = msts (a + (mStt (l.take i) : Nat)) l[i]
  | [], a, i, h => by simp at h
  | x :: l, a, 0, h => by simp [mstss, mStt]
  | x :: l, a, i + 1, h => by
    have := mstss_at l (a + (mSt x : Nat)) i (by simpa using h)
    simp only [mstss, List.getElem_cons_succ, List.take_succ_cons, mStt, this]
    rw [show a + (mSt x : Nat) + (mStt (l.take i) : Nat) = a + ((mSt x + mStt (l.take i) : Nat) : Int) by omega]
theorem heldStepSS_l0 (l : List (List S79)) (a : Int) (hl : l.length ≤ 1000) (h0 : 0 ≤ a) (h1 : a + mStt l ≤ 281474976710656) : ∀ (d i : Nat), i + d = l.length → Ev (fun k => laws_heldStepSS.l0 k (mstss a l) (a + (mStt (l.take i) : Nat)) (i : Int)) (a + mStt l) := by
  intro d
  induction d with
  | zero =>
    intro i hd
    refine Ev.step (fun _ => laws_heldStepSS.l0.eq_2 ..) (ev_neg (by rw [mstss_len]; omega) (ev_is ?_))
    rw [List.take_of_length_le (by omega)]
  | succ d ih =>
    intro i hd
    have hi : i < l.length := by omega
    have ht := mStt_take l i hi
    have hle := mStt_le l (i + 1)
    have hsl := mSt_len l[i]
    refine Ev.step (fun _ => laws_heldStepSS.l0.eq_2 ..) (ev_pos (by rw [mstss_len]; omega) (ev_pos (by omega) ?_))
    rw [rdP _ i (by rw [mstss_len]; exact hi), mstss_at l a i hi]
    refine Ev.bind (heldStepS_ev l[i] (a + (mStt (l.take i) : Nat)) (by omega) (by omega) (by omega)) (ev_neg (by omega) ?_)
    rw [w64s i (by omega), show a + (mStt (l.take i) : Nat) + (mSt l[i] : Nat) = a + ((mStt (l.take (i + 1)) : Nat) : Int) by omega]
    exact ih (i + 1) (by omega)
theorem heldStepSS_ev (l : List (List S79)) (a : Int) (hl : l.length ≤ 1000) (h0 : 0 ≤ a) (h1 : a + mStt l ≤ 281474976710656) : Ev (fun k => laws_heldStepSS.f k (mstss a l) a) (a + mStt l) := by
  unfold laws_heldStepSS.f
  have := heldStepSS_l0 l a hl h0 h1 l.length 0 (by omega)
  simpa [mStt] using this
theorem FnExactLeaves (l0 : S26) (hw : WfV l0) : ∃ k, laws_FnExactLeaves.f k l0.f0 l0.f1 l0.f2 l0.f3 l0.f4 = some true := by
  refine Ev.rounds (g := fun k => laws_FnExactLeaves.f k l0.f0 l0.f1 l0.f2 l0.f3 l0.f4) ?_
  unfold laws_FnExactLeaves.f
  refine Ev.bind (szValue_ev l0 hw 1048576 (by omega) (by omega)) ?_
  refine ev_ite (fun _ => Ev.now _) fun h => ?_
  have hs := (sub_pos h).1
  have hv := smV_of l0 hw (by omega)
  have hn : nV (toV l0) ≤ 4611686018427387903 := by have := nV_toV l0; omega
  have hm := mV_toV l0
  have hq := leavesP_short (toV l0)
  have hq2 : ∀ q ∈ leavesP (toV l0), Short 100 q := fun q m => short_le (hq.2 q m) (by omega)
  have hms := mStt_short hq.2
  refine Ev.bind (toValue_ev l0 hv) (Ev.bind (spec_Leaves_ev _ hv) (Ev.bind (impl_Leaves_ev _ hv hn) (Ev.bind (eqStepSS_ev _ (by omega) hq2) (ev_pos rfl (Ev.bind (eqValue_ev _ hv) (ev_pos rfl (ev_pos ?_ (ev_pos (by omega) (Ev.bind (Ev.now _) (Ev.bind (heldStepSS_ev _ 1 (by omega) (by omega) (by omega)) (ev_neg (by omega) (ev_pos rfl (Ev.now _)))))))))))))
  exact Nat.le_trans (Nat.le_of_eq ((mV_eta (toV l0)).trans hm)) (by omega)
end Go.Proofs.Ytenpjddjmhjdoaa.Pure
