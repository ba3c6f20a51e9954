/- The pure statement of FnExactConfigOk: both tell whether a configuration is ok, and tell the same. No condition. -/
import Derived.Test.YtockllljeeakaaaPFnExactConfigOkx0
import Derived.Test.YtockllljeeakaaaPFnExactConfigOkx1
import Derived.Test.YtockllljeeakaaaPFnExactConfigOkx2
import Derived.Test.YtockllljeeakaaaPFnExactConfigOkx3
import Derived.Test.YtockllljeeakaaaPFnExactConfigOkx4
import Derived.Test.YtockllljeeakaaaPFnExactConfigOkx5
import Derived.Test.YtockllljeeakaaaPFnExactConfigOkx6
import Derived.Test.YtockllljeeakaaaPFnExactConfigOkx7
import Derived.Test.YtockllljeeakaaaPFnExactConfigOkx8
import Derived.Test.YtockllljeeakaaaPFnExactConfigOkx9
import Derived.Test.YtockllljeeakaaaPFnExactConfigOkx10
import Derived.Test.YtockllljeeakaaaPFnExactConfigOkx11
import Derived.Test.YtockllljeeakaaaPFnExactConfigOkx12
import Derived.Test.YtockllljeeakaaaPFnExactConfigOkx13
import Derived.Test.YtockllljeeakaaaPFnExactConfigOkx14
import Derived.Test.YtockllljeeakaaaPFnExactConfigOkx15
import Derived.Test.YtockllljeeakaaaPFnExactConfigOkx16
import Derived.Test.YtockllljeeakaaaPFnExactConfigOkx17
import Derived.Test.YtockllljeeakaaaPFnExactConfigOkx18
import Derived.Test.YtockllljeeakaaaPFnExactConfigOkx19
import Derived.Test.YtockllljeeakaaaMcore
import Derived.Test.YtockllljeeakaaaMnum
import Derived.Test.YtockllljeeakaaaMopen
import Derived.Test.YtockllljeeakaaaMcmp
namespace Go.Proofs.Ytockllljeeakaaa.Pure
open Go.RowKit Go.Proofs.Ytockllljeeakaaa.PFnExactConfigOk Go.Proofs.YtockllljeeakaaaW.PrintWords Go.Proofs.YtockllljeeakaaaW.PrintLast Go.Proofs.YtockllljeeakaaaW.PrintMore Go.Proofs.Ytockllljeeakaaa.M
set_option linter.unusedVariables false
set_option linter.unusedSimpArgs false
/-! expressions -/
theorem rdLE (xs : List S26) (i : Nat) (h : i < xs.length) : rd_T26 xs (i : Int) = xs[i] := getDI xs _ i h
theorem rdE (xs : List S31) (i : Nat) (h : i < xs.length) : rd_T31 xs (i : Int) = xs[i] := getDI xs _ i h
theorem rdR (xs : List (List Int)) (i : Nat) (h : i < xs.length) : rd_L1 xs (i : Int) = xs[i] := getDI xs _ i h
theorem leind {P : S26 → Prop} (h : ∀ v : S26, (∀ x ∈ v.f4, P x) → P v) (v : S26) : P v :=
  h v fun x hx => leind h x
termination_by SizeOf.sizeOf v
decreasing_by
  obtain ⟨a, b, c, d, l⟩ := v
  have := List.sizeOf_lt_of_mem hx
  simp only [S26.mk.sizeOf_spec]
  dsimp only at this
  omega
theorem eind {P : S31 → Prop} (h : ∀ v : S31, (∀ x ∈ v.f4, P x) → P v) (v : S31) : P v :=
  h v fun x hx => eind h x
termination_by SizeOf.sizeOf v
decreasing_by
  obtain ⟨a, b, c, d, l⟩ := v
  have := List.sizeOf_lt_of_mem hx
  simp only [S31.mk.sizeOf_spec]
  dsimp only at this
  omega
mutual
def toE : S26 → S31
  | ⟨a, b, c, d, l⟩ => ⟨a, b, c, d, toEs l⟩
def toEs : List S26 → List S31
  | [] => []
  | x :: l => toE x :: toEs l
end
theorem toEs_map : ∀ l, toEs l = l.map toE
  | [] => rfl
  | x :: l => by rw [toEs, List.map_cons, toEs_map l]
theorem toE_f0 : ∀ v, (toE v).f0 = v.f0 := fun ⟨_, _, _, _, _⟩ => by rw [toE]
theorem toE_f1 : ∀ v, (toE v).f1 = v.f1 := fun ⟨_, _, _, _, _⟩ => by rw [toE]
theorem toE_f2 : ∀ v, (toE v).f2 = v.f2 := fun ⟨_, _, _, _, _⟩ => by rw [toE]
theorem toE_f3 : ∀ v, (toE v).f3 = v.f3 := fun ⟨_, _, _, _, _⟩ => by rw [toE]
theorem toE_f4 : ∀ v, (toE v).f4 = v.f4.map toE := fun ⟨_, _, _, _, l⟩ => by rw [toE]; exact toEs_map l
def szL : List (List Int) → Nat
  | [] => 0
  | x :: l => x.length + szL l
theorem szL_mem {l : List (List Int)} {x : List Int} (h : x ∈ l) : x.length ≤ szL l := by
  induction l with
  | nil => cases h
  | cons a l ih =>
    rcases List.mem_cons.1 h with rfl | h
    · simp only [szL]; omega
    · have := ih h; simp only [szL]; omega
mutual
def szE : S26 → Nat
  | ⟨_, _, c, d, l⟩ => c.length + (d.length + szL d + (l.length + szEs l))
def szEs : List S26 → Nat
  | [] => 0
  | x :: l => szE x + szEs l
end
theorem szE_eq : ∀ v, szE v = v.f2.length + (v.f3.length + szL v.f3 + (v.f4.length + szEs v.f4)) := fun ⟨_, _, _, _, _⟩ => by rw [szE]
theorem szEs_mem {l : List S26} {x : S26} (h : x ∈ l) : szE x ≤ szEs l := by
  induction l with
  | nil => cases h
  | cons a l ih =>
    rcases List.mem_cons.1 h with rfl | h
    · rw [szEs]; omega
    · have := ih h; rw [szEs]; omega
/-- Values as they come in. -/
inductive WfE : S26 → Prop
  | mk (v : S26) (h0 : (Lit.int .i64 v.f0).wf = true) (h1 : (Lit.int .i64 v.f1).wf = true) (h2 : v.f2.length ≤ 9223372036854775807) (h3 : By v.f2) (h4 : v.f3.length ≤ 9223372036854775807)
      (h5 : ∀ y ∈ v.f3, y.length ≤ 9223372036854775807 ∧ By y) (h6 : v.f4.length ≤ 9223372036854775807) (h7 : ∀ x ∈ v.f4, WfE x) : WfE v
/-- Values of a size that is held. -/
inductive SmE : S31 → Prop
  | mk (v : S31) (h0 : (Lit.int .i64 v.f0).wf = true) (h1 : (Lit.int .i64 v.f1).wf = true) (h2 : v.f2.length ≤ 1048576) (h3 : By v.f2) (h4 : v.f3.length ≤ 1048576)
      (h5 : ∀ y ∈ v.f3, y.length ≤ 1048576 ∧ By y) (h6 : v.f4.length ≤ 1048576) (h7 : ∀ x ∈ v.f4, SmE x) : SmE v
theorem smE_child {v : S31} (h : SmE v) : ∀ x ∈ v.f4, SmE x := by obtain ⟨_, w0, w1, w2, w3, w4, w5, w6, w7⟩ := h; exact w7
theorem smE_of : ∀ v, WfE v → szE v ≤ 1048576 → SmE (toE v) := by
  refine leind fun v ih hw hs => ?_
  obtain ⟨_, h0, h1, h2, h3, h4, h5, h6, h7⟩ := hw
  rw [szE_eq] at hs
  refine .mk _ ?_ ?_ ?_ ?_ ?_ ?_ ?_ ?_
  · rw [toE_f0]; exact h0
  · rw [toE_f1]; exact h1
  · rw [toE_f2]; omega
  · rw [toE_f2]; exact h3
  · rw [toE_f3]; omega
  · rw [toE_f3]; exact fun y hy => ⟨by have := szL_mem hy; omega, (h5 y hy).2⟩
  · rw [toE_f4, List.length_map]; omega
  · rw [toE_f4]
    intro x hx
    obtain ⟨y, hy, rfl⟩ := List.mem_map.1 hx
    exact ih y hy (h7 y hy) (by have := szEs_mem hy; omega)
mutual
def nE : S31 → Nat
  | ⟨_, _, _, _, l⟩ => 1 + nEs l
def nEs : List S31 → Nat
  | [] => 0
  | x :: l => nE x + nEs l
end
theorem nE_eq : ∀ v, nE v = 1 + nEs v.f4 := fun ⟨_, _, _, _, _⟩ => by rw [nE]
theorem nEs_mem {l : List S31} {x : S31} (h : x ∈ l) : nE x ≤ nEs l := by
  induction l with
  | nil => cases h
  | cons a l ih =>
    rcases List.mem_cons.1 h with rfl | h
    · rw [nEs]; omega
    · have := ih h; rw [nEs]; omega
theorem nEs_len : ∀ l : List S31, l.length ≤ nEs l
  | [] => Nat.zero_le _
  | x :: l => by
    have := nEs_len l
    have h := nE_eq x
    rw [nEs, List.length_cons]; omega
theorem nEs_toE (l : List S26) (ih : ∀ x ∈ l, nE (toE x) ≤ 1 + szE x) : nEs (l.map toE) ≤ l.length + szEs l := by
  induction l with
  | nil => rw [List.map_nil, nEs]; omega
  | cons a l ih2 =>
    have h1 := ih a List.mem_cons_self
    have h2 := ih2 fun x hx => ih x (List.mem_cons_of_mem _ hx)
    rw [List.map_cons, nEs, szEs, List.length_cons]; omega
theorem nE_toE : ∀ v, nE (toE v) ≤ 1 + szE v := by
  refine leind fun v ih => ?_
  rw [nE_eq, toE_f4, szE_eq]
  have := nEs_toE v.f4 ih
  omega
def isText (b : List Int) : Bool := decide (b.length ≤ 20) && b.all (fun x => decide (32 ≤ x ∧ x ≤ 126))
def keyAt (k : List (List Int)) (i : Nat) : Bool := isName (k.getD i []) && (decide (i = 0) || decide (cmpB (k.getD (i - 1) []) (k.getD i []) = -1))
def keysFrom (k : List (List Int)) : Nat → Nat → Bool
  | 0, _ => true
  | d + 1, i => keyAt k i && keysFrom k d (i + 1)
def keysOk (k : List (List Int)) : Bool := keysFrom k k.length 0
theorem getDN {α : Type} (xs : List α) (d : α) (i : Nat) (h : i < xs.length) : xs.getD i d = xs[i] := by simp [List.getD_eq_getElem?_getD, h]
theorem keyAt_0 (k : List (List Int)) (h : 0 < k.length) : keyAt k 0 = isName k[0] := by
  unfold keyAt; rw [getDN k [] 0 h]; simp
theorem keyAt_s (k : List (List Int)) (i : Nat) (h : i + 1 < k.length) : keyAt k (i + 1) = (isName k[i + 1] && decide (cmpB k[i] k[i + 1] = -1)) := by
  unfold keyAt; rw [getDN k [] (i + 1) h, Nat.add_sub_cancel, getDN k [] i (by omega)]; simp
theorem ev_and {g : Nat → Option Bool} {b r : Bool} (h : b = true → Ev g r) : Ev (fun n => if b = true then g n else some false) (b && r) := by
  cases b
  · exact ev_neg (by decide) (Ev.now _)
  · exact ev_pos rfl (h rfl)
theorem ev_andP {g : Nat → Option Bool} {c : Prop} [Decidable c] {r : Bool} (h : c → Ev g r) : Ev (fun n => if c then g n else some false) (decide c && r) := by
  by_cases hc : c
  · rw [decide_eq_true hc, Bool.true_and]; exact ev_pos hc (h hc)
  · rw [decide_eq_false hc, Bool.false_and]; exact ev_neg hc (Ev.now _)
theorem beq0 (n : Nat) : ((n : Int) == 0) = decide (n = 0) := by
  by_cases h : n = 0
  · subst h; rfl
  · rw [decide_eq_false h, beq_eq_false_iff_ne]; omega
theorem beqI (n : Int) : (n == 0) = decide (n = 0) := by
  by_cases h : n = 0
  · subst h; rfl
  · rw [decide_eq_false h, beq_eq_false_iff_ne]; exact h
def arityE (n : Int) : Int := if n = 4 ∨ n = 5 ∨ n = 23 then -1 else if n = 8 ∨ n = 13 ∨ n = 14 then 1 else if n = 9 ∨ (15 ≤ n ∧ n ≤ 21) then 2 else if n = 22 then 3 else 0
/-- The words that are kept. -/
def keptL : List (List Int) := [[110, 117, 108, 108], [116, 114, 117, 101], [102, 97, 108, 115, 101], [105, 110, 100, 101, 120], [107, 101, 121], [118, 97, 108], [108, 111, 99, 97, 108], [114, 101, 115], [111, 117, 116], [99, 111, 117, 110, 116], [101, 97, 99, 104]]
theorem keptL_By : ∀ x ∈ keptL, By x := by
  intro x hx
  have h : (keptL.all fun l => l.all fun y => decide (0 ≤ y ∧ y ≤ 255)) = true := by decide
  intro y hy
  exact of_decide_eq_true (List.all_eq_true.1 (List.all_eq_true.1 h x hx) y hy)
def isKept (w : List Int) : Bool := keptL.any fun x => decide (x = w)
def isWordB (w : List Int) : Bool := isName w && !isKept w
def formE (v : S31) : Bool := decide (0 ≤ v.f0 ∧ v.f0 ≤ 23) && (decide (arityE v.f0 < 0 ∨ (v.f4.length : Int) = arityE v.f0) && (decide (if v.f0 = 5 then v.f3.length = v.f4.length else v.f3.length = 0) && (decide (if v.f0 = 1 then 0 ≤ v.f1 ∧ v.f1 ≤ 1 else if v.f0 = 2 then 0 ≤ v.f1 ∧ v.f1 ≤ 1000000000000 else v.f1 = 0)
  && ((if v.f0 = 3 then isText v.f2 else if v.f0 = 6 ∨ v.f0 = 8 then isName v.f2 else if v.f0 = 7 ∨ v.f0 = 23 then isWordB v.f2 else decide (v.f2.length = 0)) && (!decide (v.f0 = 5) || keysOk v.f3)))))
mutual
/-- Of its form, no deeper than so many more. -/
def formed : S31 → Nat → Bool
  | ⟨_, _, _, _, _⟩, 0 => false
  | ⟨a, b, c, d, l⟩, n + 1 => formE ⟨a, b, c, d, l⟩ && allFormed l n
def allFormed : List S31 → Nat → Bool
  | [], _ => true
  | x :: l, n => formed x n && allFormed l n
end
theorem formed_0 : ∀ v, formed v 0 = false := fun ⟨_, _, _, _, _⟩ => by rw [formed]
theorem formed_s (n : Nat) : ∀ v, formed v (n + 1) = (formE v && allFormed v.f4 n) := fun ⟨_, _, _, _, _⟩ => by rw [formed]
def exprOk (v : S31) : Bool := formed v 10 && decide (nE v ≤ 150)
theorem rdOf_nat (l : List ByteArray) (i : Nat) (h : i < l.length) : rdOf ByteArray.empty l (i : Int) = l[i] := by
  unfold rdOf; simp [List.getD_eq_getElem?_getD, h]
theorem strs_eq {a b : List Int} (ha : By a) (hb : By b) : (strOfNums a).toList = (strOfNums b).toList ↔ a = b := by
  have h := str_inj ha hb
  constructor
  · intro e
    rw [e, beq_self_eq_true] at h
    exact of_decide_eq_true h.symm
  · intro e; rw [e]
mutual
/-- The same, and no node with more than 150 children. -/
def formedL : S31 → Nat → Bool
  | ⟨_, _, _, _, _⟩, 0 => false
  | ⟨a, b, c, d, l⟩, n + 1 => formE ⟨a, b, c, d, l⟩ && (decide (l.length ≤ 150) && allFormedL l n)
def allFormedL : List S31 → Nat → Bool
  | [], _ => true
  | x :: l, n => formedL x n && allFormedL l n
end
theorem formedL_0 : ∀ v, formedL v 0 = false := fun ⟨_, _, _, _, _⟩ => by rw [formedL]
theorem formedL_s (n : Nat) : ∀ v, formedL v (n + 1) = (formE v && (decide (v.f4.length ≤ 150) && allFormedL v.f4 n)) := fun ⟨_, _, _, _, _⟩ => by rw [formedL]
theorem allFormedL_eq (l : List S31) (n : Nat) (h : ∀ x ∈ l, formedL x n = formed x n) : allFormedL l n = allFormed l n := by
  induction l with
  | nil => rw [allFormedL, allFormed]
  | cons a l ih => rw [allFormedL, allFormed, h a List.mem_cons_self, ih fun x hx => h x (List.mem_cons_of_mem _ hx)]
theorem formedL_eq : ∀ v : S31, ∀ n, nE v ≤ 150 → formedL v n = formed v n := by
  refine eind fun v ih n hn => ?_
  cases n with
  | zero => rw [formedL_0, formed_0]
  | succ n =>
    rw [nE_eq] at hn
    have hl := nEs_len v.f4
    rw [formedL_s, formed_s, decide_eq_true (by omega), Bool.true_and, allFormedL_eq v.f4 n fun x hx => ih x hx n (by have := nEs_mem hx; omega)]
/-! laws_szByteS -/
theorem szByteS_eq (l : List Int) (a : Int) (h0 : 0 ≤ a) (h1 : a ≤ 1048576) (hl : l.length ≤ 9223372036854775807) : laws_szByteS.f l a = some (sub a l.length) := by
  unfold laws_szByteS.f sub
  rw [w64 (by omega) (by omega)]
  by_cases h : (l.length : Int) ≤ a
  · rw [if_neg (by omega), if_pos h]
  · rw [if_pos (by omega), if_neg h]
/-! laws_szByteSS -/
theorem szByteSS_l0 (l : List (List Int)) (hl : l.length ≤ 9223372036854775807) (hk : ∀ x ∈ l, x.length ≤ 9223372036854775807) : ∀ (d i : Nat) (a : Int), i + d = l.length → 0 ≤ a → a ≤ 1048576 → Ev (fun k => laws_szByteSS.l0 k l a (i : Int)) (sub a (szL (l.drop i))) := by
  intro d
  induction d with
  | zero =>
    intro i a hd h0 h1
    refine Ev.step (fun _ => laws_szByteSS.l0.eq_2 ..) (ev_neg (by omega) (ev_is ?_))
    rw [List.drop_eq_nil_of_le (by omega)]
    exact (sub_zero h0).symm
  | succ d ih =>
    intro i a hd h0 h1
    have hi : i < l.length := by omega
    refine Ev.step (fun _ => laws_szByteSS.l0.eq_2 ..) (ev_pos (by omega) (ev_pos (by omega) ?_))
    rw [rdR l i hi, drop_at l i hi]
    refine Ev.bind (ev_const (szByteS_eq _ a h0 h1 (hk _ (List.getElem_mem hi)))) ?_
    rw [w64s i (by omega)]
    have hr := sub_range l[i].length h0
    by_cases h : sub a l[i].length < 0
    · refine ev_pos h (ev_is ?_)
      exact ((sub_neg h h0).2 _).symm
    · refine ev_neg h (ev_eq (ih (i + 1) _ (by omega) (by omega) (by omega)) ?_)
      exact sub_sub h
theorem szByteSS_ev (l : List (List Int)) (a : Int) (hl : l.length ≤ 9223372036854775807) (hk : ∀ x ∈ l, x.length ≤ 9223372036854775807) (h0 : 0 ≤ a) (h1 : a ≤ 1048576) : Ev (fun k => laws_szByteSS.f k l a) (sub a (l.length + szL l)) := by
  unfold laws_szByteSS.f
  rw [w64 (x := a - (l.length : Int)) (by omega) (by omega)]
  by_cases h : a - (l.length : Int) < 0
  · refine ev_pos h (ev_is ?_)
    unfold sub; rw [if_neg (by omega)]
  · refine ev_neg h (ev_eq (szByteSS_l0 l hl hk l.length 0 _ (by omega) (by omega) (by omega)) ?_)
    have e : sub a l.length = a - l.length := by unfold sub; rw [if_pos (by omega)]
    rw [← e, List.drop_zero]
    exact sub_sub (by omega)
/-! laws_szExpr -/
theorem szExprS_l0 (l : List S26) (hl : l.length ≤ 9223372036854775807) (hx : ∀ v ∈ l, ∀ a : Int, 0 ≤ a → a ≤ 1048576 → Ev (fun k => laws_szExpr.f k v.f0 v.f1 v.f2 v.f3 v.f4 a) (sub a (szE v))) :
    ∀ (d i : Nat) (a : Int), i + d = l.length → 0 ≤ a → a ≤ 1048576 → Ev (fun k => laws_szExprS.l0 k l a (i : Int)) (sub a (szEs (l.drop i))) := by
  intro d
  induction d with
  | zero =>
    intro i a hd h0 h1
    refine Ev.step (fun _ => laws_szExprS.l0.eq_2 ..) (ev_neg (by omega) (ev_is ?_))
    rw [List.drop_eq_nil_of_le (by omega), szEs]
    exact (sub_zero h0).symm
  | succ d ih =>
    intro i a hd h0 h1
    have hi : i < l.length := by omega
    refine Ev.step (fun _ => laws_szExprS.l0.eq_2 ..) (ev_pos (by omega) (ev_pos (by omega) ?_))
    rw [rdLE l i hi, drop_at l i hi, szEs]
    refine Ev.bind (hx _ (List.getElem_mem hi) a h0 h1) ?_
    rw [w64s i (by omega)]
    have hr := sub_range (szE l[i]) h0
    by_cases h : sub a (szE l[i]) < 0
    · refine ev_pos h (ev_is ?_)
      exact ((sub_neg h h0).2 _).symm
    · refine ev_neg h (ev_eq (ih (i + 1) _ (by omega) (by omega) (by omega)) ?_)
      exact sub_sub h
theorem szExprS_ev (l : List S26) (hl : l.length ≤ 9223372036854775807) (hx : ∀ v ∈ l, ∀ a : Int, 0 ≤ a → a ≤ 1048576 → Ev (fun k => laws_szExpr.f k v.f0 v.f1 v.f2 v.f3 v.f4 a) (sub a (szE v))) (a : Int) (h0 : 0 ≤ a) (h1 : a ≤ 1048576) :
    Ev (fun k => laws_szExprS.f k l a) (sub a (l.length + szEs l)) := by
  refine Ev.step (fun _ => laws_szExprS.f.eq_2 ..) ?_
  rw [w64 (x := a - (l.length : Int)) (by omega) (by omega)]
  by_cases h : a - (l.length : Int) < 0
  · refine ev_pos h (ev_is ?_)
    unfold sub; rw [if_neg (by omega)]
  · refine ev_neg h (ev_eq (szExprS_l0 l hl hx l.length 0 _ (by omega) (by omega) (by omega)) ?_)
    have e : sub a l.length = a - l.length := by unfold sub; rw [if_pos (by omega)]
    rw [← e, List.drop_zero]
    exact sub_sub (by omega)
theorem szExpr_ev : ∀ v : S26, WfE v → ∀ a : Int, 0 ≤ a → a ≤ 1048576 → Ev (fun k => laws_szExpr.f k v.f0 v.f1 v.f2 v.f3 v.f4 a) (sub a (szE v)) := by
  refine leind fun v ih hw a h0 h1 => ?_
  obtain ⟨_, w0, w1, w2, w3, w4, w5, w6, w7⟩ := hw
  refine Ev.step (fun _ => laws_szExpr.f.eq_2 ..) ?_
  rw [szE_eq]
  refine Ev.bind (ev_const (szByteS_eq v.f2 a h0 h1 w2)) ?_
  have hr := sub_range v.f2.length h0
  by_cases h : sub a v.f2.length < 0
  · refine ev_pos h (ev_is ?_)
    exact ((sub_neg h h0).2 _).symm
  · refine ev_neg h ?_
    rw [← sub_sub h]
    generalize sub a v.f2.length = b at h hr ⊢
    refine Ev.bind (szByteSS_ev v.f3 b w4 (fun y hy => (w5 y hy).1) (by omega) (by omega)) ?_
    have hr2 := sub_range (a := b) (v.f3.length + szL v.f3) (by omega)
    by_cases h2 : sub b (v.f3.length + szL v.f3) < 0
    · refine ev_pos h2 (ev_is ?_)
      exact ((sub_neg h2 (by omega)).2 _).symm
    · refine ev_neg h2 ?_
      rw [← sub_sub h2]
      generalize sub b (v.f3.length + szL v.f3) = c at h2 hr2 ⊢
      refine Ev.bind (szExprS_ev v.f4 w6 (fun x hx => ih x hx (w7 x hx)) c (by omega) (by omega)) ?_
      by_cases h3 : sub c (v.f4.length + szEs v.f4) < 0
      · refine ev_pos h3 (ev_is ?_)
        exact (sub_neg h3 (by omega)).1.symm
      · exact ev_neg h3 (Ev.now _)
/-! spec_NameOk -/
theorem spec_NameOk_l0 (b : List Int) (hl : b.length ≤ 4611686018427387903) : ∀ (d i : Nat), i + d = b.length → Ev (fun k => spec_NameOk.l0 k b (i : Int)) ((b.drop i).all fun x => decide (97 ≤ x ∧ x ≤ 122)) := by
  intro d
  induction d with
  | zero =>
    intro i hd
    refine Ev.step (fun _ => spec_NameOk.l0.eq_2 ..) (ev_neg (by omega) (ev_is ?_))
    rw [List.drop_eq_nil_of_le (by omega)]; rfl
  | succ d ih =>
    intro i hd
    refine Ev.step (fun _ => spec_NameOk.l0.eq_2 ..) (ev_pos (by omega) (ev_pos (by omega) ?_))
    rw [M.drop_rd b i (by omega), List.all_cons, w64s i (by omega)]
    by_cases h1 : rd b (i : Int) < 97
    · refine ev_pos h1 (ev_is ?_)
      simp; omega
    · refine ev_neg h1 ?_
      by_cases h2 : rd b (i : Int) > 122
      · refine ev_pos h2 (ev_is ?_)
        simp; omega
      · refine ev_neg h2 (ev_eq (ih (i + 1) (by omega)) ?_)
        rw [decide_eq_true (show 97 ≤ rd b (i : Int) ∧ rd b (i : Int) ≤ 122 by omega)]; rfl
theorem spec_NameOk_ev (b : List Int) (hl : b.length ≤ 4611686018427387903) : Ev (fun k => spec_NameOk.f k b) (isName b) := by
  unfold spec_NameOk.f isName
  by_cases h1 : b.length < 1
  · refine ev_pos (by omega) (Ev.step (fun _ => spec_NameOk.j0.eq_2 ..) (ev_pos rfl (ev_is ?_)))
    rw [decide_eq_false (by omega)]; rfl
  · refine ev_neg (by omega) (Ev.step (fun _ => spec_NameOk.j0.eq_2 ..) ?_)
    by_cases h2 : b.length > 8
    · refine ev_pos (decide_eq_true (by omega)) (ev_is ?_)
      rw [decide_eq_false (by omega)]; rfl
    · refine ev_neg (by simp; omega) (ev_eq (spec_NameOk_l0 b hl b.length 0 (by omega)) ?_)
      rw [decide_eq_true (by omega)]; rfl
/-! spec_l6arity -/
theorem l6arity_ev (n : Int) : Ev (fun k => spec_l6arity.f k n) (arityE n) := by
  have J2 : ∀ b, b = decide (n = 9 ∨ (15 ≤ n ∧ n ≤ 21)) → Ev (fun k => spec_l6arity.j2 k n b) (if n = 9 ∨ (15 ≤ n ∧ n ≤ 21) then 2 else if n = 22 then 3 else 0) := by
    intro b hb
    subst hb
    refine Ev.step (fun _ => spec_l6arity.j2.eq_2 ..) (ev_ite (fun h => ?_) (fun h => ?_))
    · rw [if_pos (of_decide_eq_true h)]; exact Ev.now _
    · rw [if_neg (fun q => h (decide_eq_true q))]
      refine ev_ite (fun h2 => ?_) (fun h2 => ?_)
      · rw [if_pos h2]; exact Ev.now _
      · rw [if_neg h2]; exact Ev.now _
  have J1 : ∀ b, b = decide (n = 8 ∨ n = 13 ∨ n = 14) → Ev (fun k => spec_l6arity.j1 k n b) (if n = 8 ∨ n = 13 ∨ n = 14 then 1 else if n = 9 ∨ (15 ≤ n ∧ n ≤ 21) then 2 else if n = 22 then 3 else 0) := by
    intro b hb
    subst hb
    refine Ev.step (fun _ => spec_l6arity.j1.eq_2 ..) (ev_ite (fun h => ?_) (fun h => ?_))
    · rw [if_pos (of_decide_eq_true h)]; exact Ev.now _
    · rw [if_neg (fun q => h (decide_eq_true q))]
      repeat' (first
        | (refine J2 _ ?_; rw [Bool.eq_iff_iff, beq_iff_eq, decide_eq_true_iff]; omega)
        | (refine ev_ite (fun _ => ?_) (fun _ => ?_)))
  unfold spec_l6arity.f arityE
  have J0 : ∀ b, b = decide (n = 4 ∨ n = 5 ∨ n = 23) → Ev (fun k => spec_l6arity.j0 k n b) (if n = 4 ∨ n = 5 ∨ n = 23 then -1 else if n = 8 ∨ n = 13 ∨ n = 14 then 1 else if n = 9 ∨ (15 ≤ n ∧ n ≤ 21) then 2 else if n = 22 then 3 else 0) := by
    intro b hb
    subst hb
    refine Ev.step (fun _ => spec_l6arity.j0.eq_2 ..) (ev_ite (fun h => ?_) (fun h => ?_))
    · rw [if_pos (of_decide_eq_true h)]; exact Ev.now _
    · rw [if_neg (fun q => h (decide_eq_true q))]
      repeat' (first
        | (refine J1 _ ?_; rw [Bool.eq_iff_iff, beq_iff_eq, decide_eq_true_iff]; omega)
        | (refine ev_ite (fun _ => ?_) (fun _ => ?_)))
  repeat' (first
    | (refine J0 _ ?_; rw [Bool.eq_iff_iff, beq_iff_eq, decide_eq_true_iff]; omega)
    | (refine ev_ite (fun _ => ?_) (fun _ => ?_)))
/-! spec_l2text -/
theorem spec_l2text_l0 (b : List Int) (hl : b.length ≤ 4611686018427387903) : ∀ (d i : Nat), i + d = b.length → Ev (fun k => spec_l2text.l0 k b (i : Int)) ((b.drop i).all fun x => decide (32 ≤ x ∧ x ≤ 126)) := by
  intro d
  induction d with
  | zero =>
    intro i hd
    refine Ev.step (fun _ => spec_l2text.l0.eq_2 ..) (ev_neg (by omega) (ev_is ?_))
    rw [List.drop_eq_nil_of_le (by omega)]; rfl
  | succ d ih =>
    intro i hd
    refine Ev.step (fun _ => spec_l2text.l0.eq_2 ..) (ev_pos (by omega) (ev_pos (by omega) ?_))
    rw [M.drop_rd b i (by omega), List.all_cons, w64s i (by omega)]
    by_cases h1 : rd b (i : Int) < 32
    · refine ev_pos h1 (ev_is ?_)
      simp; omega
    · refine ev_neg h1 ?_
      by_cases h2 : rd b (i : Int) > 126
      · refine ev_pos h2 (ev_is ?_)
        simp; omega
      · refine ev_neg h2 (ev_eq (ih (i + 1) (by omega)) ?_)
        rw [decide_eq_true (show 32 ≤ rd b (i : Int) ∧ rd b (i : Int) ≤ 126 by omega)]; rfl
theorem spec_l2text_ev (b : List Int) (hl : b.length ≤ 4611686018427387903) : Ev (fun k => spec_l2text.f k b) (isText b) := by
  unfold spec_l2text.f isText
  by_cases h1 : b.length > 20
  · refine ev_pos (by omega) (ev_is ?_)
    rw [decide_eq_false (by omega)]; rfl
  · refine ev_neg (by omega) (ev_eq (spec_l2text_l0 b hl b.length 0 (by omega)) ?_)
    rw [decide_eq_true (by omega)]; rfl
/-! spec_l6kept -/
theorem l6kept_l0 (w : List Int) (hw : By w) (ls : List (List Int)) (hl : ∀ x ∈ ls, By x) (hn : ls.length ≤ 100) : ∀ (d i : Nat), i + d = ls.length → Ev (fun k => spec_l6kept.l0 k w (ls.map strOfNums) (i : Int)) ((ls.drop i).any fun x => decide (x = w)) := by
  intro d
  induction d with
  | zero =>
    intro i hd
    refine Ev.step (fun _ => spec_l6kept.l0.eq_2 ..) (ev_neg (by rw [List.length_map]; omega) (ev_is ?_))
    rw [List.drop_eq_nil_of_le (by omega)]; rfl
  | succ d ih =>
    intro i hd
    have hi : i < ls.length := by omega
    refine Ev.step (fun _ => spec_l6kept.l0.eq_2 ..) (ev_pos (by rw [List.length_map]; omega) (ev_pos (by omega) ?_))
    rw [rdOf_nat _ i (by rw [List.length_map]; omega), List.getElem_map, drop_at ls i hi, List.any_cons, w64s i (by omega)]
    refine ev_ite (fun h => ev_is ?_) (fun h => ?_)
    · rw [decide_eq_true ((strs_eq (hl _ (List.getElem_mem hi)) hw).1 h)]; rfl
    · rw [decide_eq_false (fun q => h ((strs_eq (hl _ (List.getElem_mem hi)) hw).2 q)), Bool.false_or]
      exact ih (i + 1) (by omega)
theorem l6kept_ev (w : List Int) (hw : By w) : Ev (fun k => spec_l6kept.f k w) (isKept w) := by
  have := l6kept_l0 w hw keptL keptL_By (by decide) keptL.length 0 (by omega)
  rw [List.drop_zero] at this
  exact this
/-! spec_l6free -/
theorem l6free_ev (w : List Int) (hw : By w) (hl : w.length ≤ 4611686018427387903) : Ev (fun k => spec_l6free.f k w) (isWordB w) := by
  unfold spec_l6free.f isWordB
  exact Ev.bind (spec_NameOk_ev w hl) (ev_and fun _ => Ev.bind (l6kept_ev w hw) (Ev.now _))
/-! spec_l6expr -/
/-- What is left of a room, if all is as it must be; -1: it isn't. -/
def left_ (b : Bool) (n : Nat) (m : Int) : Int := if b = true ∧ (n : Int) ≤ m then m - n else -1
theorem left_f (n : Nat) (m : Int) : left_ false n m = -1 := by unfold left_; rw [if_neg (fun h => by simp at h)]
theorem left_0 {m : Int} (h : 0 ≤ m) : left_ true 0 m = m := by unfold left_; rw [if_pos ⟨rfl, by omega⟩]; omega
theorem left_range (b : Bool) (n : Nat) (m : Int) (h : 0 ≤ m) : -1 ≤ left_ b n m ∧ left_ b n m ≤ m := by unfold left_; split <;> omega
theorem left_neg {b : Bool} {n : Nat} {m : Int} (h : left_ b n m < 0) (c : Bool) (p : Nat) : left_ (b && c) (n + p) m = -1 := by
  unfold left_ at *
  split at h
  · omega
  · rename_i h1
    rw [if_neg]
    rintro ⟨h2, h3⟩
    rw [Bool.and_eq_true] at h2
    exact h1 ⟨h2.1, by omega⟩
theorem left_pos {b : Bool} {n : Nat} {m : Int} (h : ¬ left_ b n m < 0) (c : Bool) (p : Nat) : left_ c p (left_ b n m) = left_ (b && c) (n + p) m := by
  unfold left_ at *
  split at h
  · rename_i h1
    obtain ⟨hb, h1⟩ := h1
    subst hb
    have e : (if true = true ∧ (n : Int) ≤ m then m - n else -1) = m - n := if_pos ⟨rfl, h1⟩
    rw [e, Bool.true_and]
    by_cases h2 : c = true ∧ (p : Int) ≤ m - n
    · rw [if_pos h2, if_pos ⟨h2.1, by omega⟩]; omega
    · rw [if_neg h2, if_neg (fun h3 => h2 ⟨h3.1, by omega⟩)]
  · omega
theorem left_s (b : Bool) (n : Nat) (m : Int) : left_ b (1 + n) m = left_ b n (m - 1) := by
  unfold left_
  by_cases h : b = true ∧ (n : Int) ≤ m - 1
  · rw [if_pos h, if_pos ⟨h.1, by omega⟩]; omega
  · rw [if_neg h, if_neg (fun h2 => h ⟨h2.1, by omega⟩)]
theorem l6expr_j6 (v : S31) (deep i : Nat) (m : Int) (hi : i < v.f4.length) (hd : deep ≤ 10) (hm : 0 ≤ m) (hm2 : m ≤ 150) (hl : v.f4.length ≤ 1048576) (b : Bool) (C : Bool) (p : Nat)
    (hx : Ev (fun k => spec_l6expr.f k v.f4[i].f0 v.f4[i].f1 v.f4[i].f2 v.f4[i].f3 v.f4[i].f4 ((deep + 1 : Nat) : Int) m) (left_ (formed v.f4[i] (10 - deep)) (nE v.f4[i]) m))
    (hn : ∀ m' : Int, 0 ≤ m' → m' ≤ 150 → Ev (fun k => spec_l6expr.l0 k deep m' ((i + 1 : Nat) : Int) v.f0 v.f1 v.f2 v.f3 v.f4) (left_ C p m')) :
    Ev (fun k => spec_l6expr.j6 k deep m (i : Int) b v.f0 v.f1 v.f2 v.f3 v.f4) (if b = true then -1 else left_ (formed v.f4[i] (10 - deep) && C) (nE v.f4[i] + p) m) := by
  refine Ev.step (fun _ => spec_l6expr.j6.eq_2 ..) ?_
  have hr := left_range (formed v.f4[i] (10 - deep)) (nE v.f4[i]) m hm
  cases b
  · refine ev_neg (by decide) (ev_pos (by omega) (ev_pos (by omega) ?_))
    rw [rdE v.f4 i hi, w64s i (by omega), w64s deep (by omega), if_neg (by decide)]
    refine Ev.bind hx ?_
    refine ev_ite (fun h => ?_) (fun h => ?_)
    · exact ev_is (left_neg h C p).symm
    · exact ev_eq (hn _ (by omega) (by omega)) (left_pos h C p)
  · exact ev_pos rfl (Ev.now _)
theorem l6expr_l0 (v : S31) (hv : SmE v) (deep : Nat) (hd : deep ≤ 10) (hk : v.f0 = 5 → v.f3.length = v.f4.length)
    (hx : ∀ x ∈ v.f4, ∀ m : Int, 0 ≤ m → m ≤ 150 → Ev (fun k => spec_l6expr.f k x.f0 x.f1 x.f2 x.f3 x.f4 ((deep + 1 : Nat) : Int) m) (left_ (formed x (10 - deep)) (nE x) m)) :
    ∀ (d i : Nat) (m : Int), i + d = v.f4.length → 0 ≤ m → m ≤ 150 → Ev (fun k => spec_l6expr.l0 k deep m (i : Int) v.f0 v.f1 v.f2 v.f3 v.f4)
      (left_ ((!decide (v.f0 = 5) || keysFrom v.f3 d i) && allFormed (v.f4.drop i) (10 - deep)) (nEs (v.f4.drop i)) m) := by
  obtain ⟨_, w0, w1, w2, w3, w4, w5, w6, w7⟩ := hv
  intro d
  induction d with
  | zero =>
    intro i m hd2 h0 h1
    refine Ev.step (fun _ => spec_l6expr.l0.eq_2 ..) (ev_neg (by omega) (ev_is ?_))
    rw [List.drop_eq_nil_of_le (by omega), nEs, allFormed, keysFrom, Bool.or_true, Bool.true_and, left_0 h0]
  | succ d ih =>
    intro i m hd2 h0 h1
    have hi : i < v.f4.length := by omega
    have J := fun b => l6expr_j6 v deep i m hi hd h0 h1 w6 b _ _ (hx _ (List.getElem_mem hi) m h0 h1) (fun m' h0' h1' => ih (i + 1) m' (by omega) h0' h1')
    rw [drop_at v.f4 i hi, nEs, allFormed]
    generalize formed v.f4[i] (10 - deep) = S at J ⊢
    generalize nE v.f4[i] = n at J ⊢
    generalize allFormed (v.f4.drop (i + 1)) (10 - deep) = B at J ⊢
    generalize nEs (v.f4.drop (i + 1)) = q at J ⊢
    refine Ev.step (fun _ => spec_l6expr.l0.eq_2 ..) (ev_pos (by omega) ?_)
    by_cases h5 : v.f0 = 5
    · have hk5 := hk h5
      have hi3 : i < v.f3.length := by omega
      rw [decide_eq_true h5] at J ⊢
      refine ev_pos h5 (ev_pos (by omega) (ev_pos (by omega) ?_))
      rw [rdR v.f3 i hi3, keysFrom]
      generalize keysFrom v.f3 d (i + 1) = K at J ⊢
      have key : ∀ b : Bool, b = !keyAt v.f3 i → Ev (fun k => spec_l6expr.j6 k deep m (i : Int) b v.f0 v.f1 v.f2 v.f3 v.f4) (left_ ((!true || (keyAt v.f3 i && K)) && (S && B)) (n + q) m) := by
        intro b hb
        refine ev_eq (J b) ?_
        rw [hb]
        cases keyAt v.f3 i
        · exact (if_pos rfl).trans (left_f _ _).symm
        · refine (if_neg (by decide)).trans ?_
          cases S <;> cases K <;> rfl
      have hln := (w5 _ (List.getElem_mem hi3)).1
      refine Ev.bind (spec_NameOk_ev _ (by omega)) ?_
      refine ev_ite (fun hnm => ?_) (fun hnm => key true (by
        rw [Bool.not_eq_true] at hnm
        unfold keyAt; rw [getDN _ _ _ hi3, hnm]; rfl))
      rcases Nat.eq_zero_or_pos i with hz | hz
      · subst hz
        refine ev_neg (by omega) (key false ?_)
        rw [keyAt_0 _ hi3, hnm]; rfl
      · refine ev_pos (by omega) ?_
        rw [w64 (by omega) (by omega)]
        refine ev_pos (by omega) (ev_pos (by omega) ?_)
        obtain ⟨j, rfl⟩ : ∃ j, i = j + 1 := ⟨i - 1, by omega⟩
        have e : (((j + 1 : Nat) : Int) - 1) = (j : Int) := by omega
        rw [e, rdR v.f3 j (by omega)]
        refine key _ ?_
        rw [keyAt_s _ _ hi3, hnm, Bool.true_and, str_less (w5 _ (List.getElem_mem _)).2 (w5 _ (List.getElem_mem _)).2]
    · rw [decide_eq_false h5] at J ⊢
      refine ev_neg h5 (ev_eq (J false) ?_)
      rw [if_neg (by decide)]
      cases S <;> cases B <;> rfl
/-- All of an expression's form but its keys. -/
def formN (v : S31) : Bool := decide (0 ≤ v.f0 ∧ v.f0 ≤ 23) && (decide (arityE v.f0 < 0 ∨ (v.f4.length : Int) = arityE v.f0) && (decide (if v.f0 = 5 then v.f3.length = v.f4.length else v.f3.length = 0) && (decide (if v.f0 = 1 then 0 ≤ v.f1 ∧ v.f1 ≤ 1 else if v.f0 = 2 then 0 ≤ v.f1 ∧ v.f1 ≤ 1000000000000 else v.f1 = 0)
  && (if v.f0 = 3 then isText v.f2 else if v.f0 = 6 ∨ v.f0 = 8 then isName v.f2 else if v.f0 = 7 ∨ v.f0 = 23 then isWordB v.f2 else decide (v.f2.length = 0)))))
theorem formE_N (v : S31) : formE v = (formN v && (!decide (v.f0 = 5) || keysOk v.f3)) := by
  unfold formE formN
  simp only [Bool.and_assoc]
theorem left_and {g : Nat → Option Int} {b c : Bool} {n : Nat} {m : Int} (h : b = true → Ev g (left_ c n m)) : Ev (fun k => if b = true then g k else some (-1)) (left_ (b && c) n m) := by
  cases b
  · refine ev_neg (by decide) (ev_is ?_)
    rw [Bool.false_and, left_f]
  · rw [Bool.true_and]; exact ev_pos rfl (h rfl)
theorem left_rng {g : Nat → Option Int} {x lo hi : Int} {c : Bool} {n : Nat} {m : Int} (h : Ev g (left_ c n m)) : Ev (fun k => if x < lo then some (-1) else (if x > hi then some (-1) else g k)) (left_ (decide (lo ≤ x ∧ x ≤ hi) && c) n m) := by
  by_cases h1 : x < lo
  · refine ev_pos h1 (ev_is ?_)
    rw [decide_eq_false (by omega), Bool.false_and, left_f]
  · refine ev_neg h1 ?_
    by_cases h2 : x > hi
    · refine ev_pos h2 (ev_is ?_)
      rw [decide_eq_false (by omega), Bool.false_and, left_f]
    · refine ev_neg h2 ?_
      rw [decide_eq_true (by omega), Bool.true_and]; exact h
theorem l6expr_j3 (v : S31) (hv : SmE v) (deep m : Int) (R : Bool) (n : Nat) (h3 : v.f0 ≠ 3) (h4 : Ev (fun k => spec_l6expr.j4 k deep m v.f0 v.f1 v.f2 v.f3 v.f4) (left_ R n m)) : ∀ b, b = decide (v.f0 = 6 ∨ v.f0 = 8 ∨ v.f0 = 23) →
    Ev (fun k => spec_l6expr.j3 k deep m v.f0 b v.f0 v.f1 v.f2 v.f3 v.f4) (left_ ((if v.f0 = 3 then isText v.f2 else if v.f0 = 6 ∨ v.f0 = 8 then isName v.f2 else if v.f0 = 7 ∨ v.f0 = 23 then isWordB v.f2 else decide (v.f2.length = 0)) && R) n m) := by
  intro b hb
  subst hb
  obtain ⟨_, w0, w1, w2, w3, w4, w5, w6, w7⟩ := hv
  rw [if_neg h3]
  refine Ev.step (fun _ => spec_l6expr.j3.eq_2 ..) ?_
  by_cases hs : v.f0 = 6 ∨ v.f0 = 8 ∨ v.f0 = 23
  · refine ev_pos (decide_eq_true hs) (Ev.bind (spec_NameOk_ev _ (by omega)) ?_)
    by_cases h23 : v.f0 = 23
    · rw [if_neg (by omega), if_pos (by omega)]
      unfold isWordB
      rw [Bool.and_assoc]
      refine left_and fun _ => ev_pos h23 (Ev.bind (l6kept_ev _ w3) ?_)
      cases isKept v.f2
      · exact ev_neg (by decide) (by rw [Bool.not_false, Bool.true_and]; exact h4)
      · exact ev_pos rfl (ev_is (by rw [Bool.not_true, Bool.false_and, left_f]))
    · rw [if_pos (by omega)]
      exact left_and fun _ => ev_neg h23 h4
  · refine ev_neg (by simpa using hs) ?_
    rw [if_neg (by omega)]
    by_cases h7 : v.f0 = 7
    · refine ev_pos h7 ?_
      rw [if_pos (by omega)]
      exact Ev.bind (l6free_ev _ w3 (by omega)) (left_and fun _ => h4)
    · refine ev_neg h7 ?_
      rw [if_neg (by omega)]
      by_cases hl : v.f2.length = 0
      · refine ev_neg (by omega) ?_
        rw [decide_eq_true hl, Bool.true_and]; exact h4
      · refine ev_pos (by omega) (ev_is ?_)
        rw [decide_eq_false hl, Bool.false_and, left_f]
theorem l6expr_j2 (v : S31) (hv : SmE v) (deep m : Int) (R : Bool) (n : Nat) (h4 : Ev (fun k => spec_l6expr.j4 k deep m v.f0 v.f1 v.f2 v.f3 v.f4) (left_ R n m)) :
    Ev (fun k => spec_l6expr.j2 k deep m v.f0 v.f1 v.f2 v.f3 v.f4) (left_ ((if v.f0 = 3 then isText v.f2 else if v.f0 = 6 ∨ v.f0 = 8 then isName v.f2 else if v.f0 = 7 ∨ v.f0 = 23 then isWordB v.f2 else decide (v.f2.length = 0)) && R) n m) := by
  refine Ev.step (fun _ => spec_l6expr.j2.eq_2 ..) ?_
  by_cases h3 : v.f0 = 3
  · refine ev_pos h3 ?_
    rw [if_pos h3]
    refine Ev.bind (spec_l2text_ev _ ?_) (left_and fun _ => h4)
    obtain ⟨_, w0, w1, w2, w3, w4, w5, w6, w7⟩ := hv; omega
  · refine ev_neg h3 ?_
    have J := l6expr_j3 v hv deep m R n h3 h4
    repeat' (first
      | (refine J _ ?_; rw [Bool.eq_iff_iff, beq_iff_eq, decide_eq_true_iff]; omega)
      | (refine ev_ite (fun _ => ?_) (fun _ => ?_)))
theorem l6expr_j1 (v : S31) (hv : SmE v) (deep m : Int) (R : Bool) (n : Nat) (h2 : Ev (fun k => spec_l6expr.j2 k deep m v.f0 v.f1 v.f2 v.f3 v.f4) (left_ R n m)) (b : Bool) :
    Ev (fun k => spec_l6expr.j1 k deep m (!b) v.f0 v.f1 v.f2 v.f3 v.f4) (left_ (b && (decide (if v.f0 = 1 then 0 ≤ v.f1 ∧ v.f1 ≤ 1 else if v.f0 = 2 then 0 ≤ v.f1 ∧ v.f1 ≤ 1000000000000 else v.f1 = 0) && R)) n m) := by
  refine Ev.step (fun _ => spec_l6expr.j1.eq_2 ..) ?_
  cases b
  · refine ev_pos rfl (ev_is ?_)
    rw [Bool.false_and, left_f]
  · refine ev_neg (by decide) ?_
    rw [Bool.true_and]
    by_cases h1 : v.f0 = 1
    · refine ev_pos h1 ?_
      simp only [if_pos h1]
      exact left_rng h2
    · refine ev_neg h1 ?_
      simp only [if_neg h1]
      by_cases h22 : v.f0 = 2
      · refine ev_pos h22 ?_
        simp only [if_pos h22]
        exact left_rng h2
      · refine ev_neg h22 ?_
        simp only [if_neg h22]
        refine ev_ite (fun h => ?_) (fun h => ev_is ?_)
        · rw [decide_eq_true h, Bool.true_and]; exact h2
        · rw [decide_eq_false h, Bool.false_and, left_f]
theorem l6expr_f : ∀ v : S31, SmE v → ∀ (deep : Nat) (m : Int), 1 ≤ deep → deep ≤ 11 → 0 ≤ m → m ≤ 150 → Ev (fun k => spec_l6expr.f k v.f0 v.f1 v.f2 v.f3 v.f4 (deep : Int) m) (left_ (formed v (11 - deep)) (nE v) m) := by
  refine eind fun v ih hv deep m hd hd2 hm hm2 => ?_
  have hc := smE_child hv
  refine Ev.step (fun _ => spec_l6expr.f.eq_2 ..) ?_
  rw [w64 (x := m - 1) (by omega) (by omega), nE_eq, left_s]
  have F : ∀ r : Int, r = -1 → Ev (fun k => spec_l6expr.j0 k deep (m - 1) true v.f0 v.f1 v.f2 v.f3 v.f4) r := fun r hr => Ev.step (fun _ => spec_l6expr.j0.eq_2 ..) (ev_pos rfl (ev_is hr.symm))
  refine ev_ite (fun h => F _ ?_) (fun h => ?_)
  · unfold left_; rw [if_neg (fun q => by omega)]
  refine ev_ite (fun h6 => F _ ?_) (fun h6 => ?_)
  · rw [show 11 - deep = 0 by omega, formed_0, left_f]
  rw [show 11 - deep = (10 - deep) + 1 by omega, formed_s, formE_N, Bool.and_assoc]
  unfold formN
  simp only [Bool.and_assoc]
  refine ev_ite (fun h0 => F _ ?_) (fun h0 => ?_)
  · rw [decide_eq_false (by omega), Bool.false_and, left_f]
  refine Ev.step (fun _ => spec_l6expr.j0.eq_2 ..) (ev_ite (fun h23 => ev_is ?_) (fun h23 => ?_))
  · have h23 := of_decide_eq_true h23
    rw [decide_eq_false (by omega), Bool.false_and, left_f]
  have h23 : ¬ v.f0 > 23 := fun q => h23 (decide_eq_true q)
  rw [decide_eq_true (show 0 ≤ v.f0 ∧ v.f0 ≤ 23 by omega), Bool.true_and, ← Bool.and_assoc (decide (arityE v.f0 < 0 ∨ (v.f4.length : Int) = arityE v.f0))]
  have J : ∀ b : Bool, (b = true ↔ ((0 ≤ arityE v.f0 ∧ (v.f4.length : Int) ≠ arityE v.f0) ∨ (v.f0 = 5 ∧ v.f3.length ≠ v.f4.length) ∨ (v.f0 ≠ 5 ∧ 0 < v.f3.length))) → Ev (fun k => spec_l6expr.j1 k deep (m - 1) b v.f0 v.f1 v.f2 v.f3 v.f4) (left_ ((decide (arityE v.f0 < 0 ∨ (v.f4.length : Int) = arityE v.f0) && decide (if v.f0 = 5 then v.f3.length = v.f4.length else v.f3.length = 0)) && (decide (if v.f0 = 1 then 0 ≤ v.f1 ∧ v.f1 ≤ 1 else if v.f0 = 2 then 0 ≤ v.f1 ∧ v.f1 ≤ 1000000000000 else v.f1 = 0) && ((if v.f0 = 3 then isText v.f2 else if v.f0 = 6 ∨ v.f0 = 8 then isName v.f2 else if v.f0 = 7 ∨ v.f0 = 23 then isWordB v.f2 else decide (v.f2.length = 0)) && ((!decide (v.f0 = 5) || keysOk v.f3) && allFormed v.f4 (10 - deep))))) (nEs v.f4) (m - 1)) := fun b hb => by
    have hb : b = !(decide (arityE v.f0 < 0 ∨ (v.f4.length : Int) = arityE v.f0) && decide (if v.f0 = 5 then v.f3.length = v.f4.length else v.f3.length = 0)) := by
      by_cases h5 : v.f0 = 5
      · simp only [if_pos h5]
        rw [Bool.eq_iff_iff, hb, Bool.not_eq_true', ← Bool.decide_and, decide_eq_false_iff_not]; omega
      · simp only [if_neg h5]
        rw [Bool.eq_iff_iff, hb, Bool.not_eq_true', ← Bool.decide_and, decide_eq_false_iff_not]; omega
    subst hb
    by_cases hk : v.f0 = 5 → v.f3.length = v.f4.length
    · refine l6expr_j1 v hv deep (m - 1) _ _ (l6expr_j2 v hv deep (m - 1) _ _ (Ev.step (fun _ => spec_l6expr.j4.eq_2 ..) ?_)) _
      have L := l6expr_l0 v hv deep (by omega) hk (fun x hx m' h0' h1' => by
        have := ih x hx (hc x hx) (deep + 1) m' (by omega) (by omega) h0' h1'
        rwa [show 11 - (deep + 1) = 10 - deep by omega] at this) v.f4.length 0 (m - 1) (by omega) (by omega) (by omega)
      rw [List.drop_zero] at L
      have e : (!decide (v.f0 = 5) || keysFrom v.f3 v.f4.length 0) = (!decide (v.f0 = 5) || keysOk v.f3) := by
        by_cases h5 : v.f0 = 5
        · rw [← hk h5]; rfl
        · rw [decide_eq_false h5]; rfl
      rw [e] at L
      exact L
    · have h5 : v.f0 = 5 := Classical.byContradiction fun q => hk (fun q2 => absurd q2 q)
      refine ev_eq (r := -1) (Ev.step (fun _ => spec_l6expr.j1.eq_2 ..) (ev_pos ?_ (Ev.now _))) ?_
      · simp only [if_pos h5]; rw [decide_eq_false (fun q => hk (fun _ => q)), Bool.and_false]; rfl
      · simp only [if_pos h5]; rw [decide_eq_false (fun q => hk (fun _ => q)), Bool.and_false, Bool.false_and, left_f]
  refine Ev.bind (l6arity_ev v.f0) ?_
  repeat' (first
    | (refine J true (iff_of_true rfl ?_); omega)
    | (refine J false (iff_of_false (by decide) ?_); omega)
    | (refine J (decide _) (decide_eq_true_iff.trans ?_); omega)
    | (refine ev_ite (fun _ => ?_) (fun _ => ?_)))
/-! laws_toByteS -/
theorem toByteS_l0 (l : List Int) (hl : l.length ≤ 4611686018427387903) : ∀ (d i : Nat) (out : List Int), i + d = l.length → out.length = l.length → out.take i = l.take i → Ev (fun k => laws_toByteS.l0 k l out i) l := by
  intro d
  induction d with
  | zero =>
    intro i out hd ho ht
    refine Ev.step (fun _ => laws_toByteS.l0.eq_2 ..) ?_
    refine ev_neg (by omega) ?_
    refine ev_is ?_
    rwa [List.take_of_length_le (by omega), List.take_of_length_le (by omega)] at ht
  | succ d ih =>
    intro i out hd ho ht
    refine Ev.step (fun _ => laws_toByteS.l0.eq_2 ..) ?_
    refine ev_pos (by omega) ?_
    refine ev_pos (by omega) ?_
    refine ev_pos (by omega) ?_
    rw [w64s i (by omega), Int.toNat_natCast]
    refine ih (i + 1) _ (by omega) (by rw [List.length_set]; exact ho) ?_
    rw [List.take_succ_eq_append_getElem (by rw [List.length_set]; omega), List.take_succ_eq_append_getElem (by omega), List.take_set_of_le (by omega), ht, List.getElem_set_self, rd_nat _ _ (by omega)]
theorem toByteS_ev (l : List Int) (hl : l.length ≤ 281474976710656) : Ev (fun k => laws_toByteS.f k l) l := by
  unfold laws_toByteS.f
  refine ev_pos (by omega) ?_
  refine ev_pos (by omega) ?_
  exact toByteS_l0 l (by omega) l.length 0 _ (by omega) (by simp) (by simp)
/-! laws_toByteSS -/
theorem toByteSS_l0 (l : List (List Int)) (hl : l.length ≤ 1048576) (hk : ∀ x ∈ l, x.length ≤ 1048576) : ∀ (d i : Nat) (out : List (List Int)), i + d = l.length → out.length = l.length → out.take i = l.take i → Ev (fun k => laws_toByteSS.l0 k l out (i : Int)) l := by
  intro d
  induction d with
  | zero =>
    intro i out hd ho ht
    refine Ev.step (fun _ => laws_toByteSS.l0.eq_2 ..) (ev_neg (by omega) (ev_is ?_))
    rwa [List.take_of_length_le (by omega), List.take_of_length_le (by omega)] at ht
  | succ d ih =>
    intro i out hd ho ht
    have hi : i < l.length := by omega
    refine Ev.step (fun _ => laws_toByteSS.l0.eq_2 ..) (ev_pos (by omega) (ev_pos (by omega) ?_))
    rw [rdR l i hi]
    have hs := hk _ (List.getElem_mem hi)
    refine Ev.bind (toByteS_ev _ (by omega)) (ev_pos (by omega) ?_)
    rw [w64s i (by omega), Int.toNat_natCast]
    refine ih (i + 1) _ (by omega) (by rw [List.length_set]; exact ho) ?_
    rw [List.take_succ_eq_append_getElem (by rw [List.length_set]; omega), List.take_succ_eq_append_getElem hi, List.take_set_of_le (by omega), ht, List.getElem_set_self]
theorem toByteSS_ev (l : List (List Int)) (hl : l.length ≤ 1048576) (hk : ∀ x ∈ l, x.length ≤ 1048576) : Ev (fun k => laws_toByteSS.f k l) l := by
  unfold laws_toByteSS.f
  exact ev_pos (by omega) (ev_pos (by omega) (toByteSS_l0 l hl hk l.length 0 _ (by omega) (by simp) (by simp)))
/-! laws_toExpr -/
theorem toExprS_l0 (l : List S26) (hl : l.length ≤ 1048576) (hx : ∀ v ∈ l, Ev (fun k => laws_toExpr.f k v.f0 v.f1 v.f2 v.f3 v.f4) ((toE v).f0, (toE v).f1, (toE v).f2, (toE v).f3, (toE v).f4)) :
    ∀ (d i : Nat) (out : List S31), i + d = l.length → out.length = l.length → out.take i = (l.map toE).take i → Ev (fun k => laws_toExprS.l0 k l out (i : Int)) (l.map toE) := by
  intro d
  induction d with
  | zero =>
    intro i out hd ho ht
    refine Ev.step (fun _ => laws_toExprS.l0.eq_2 ..) (ev_neg (by omega) (ev_is ?_))
    rwa [List.take_of_length_le (by omega), List.take_of_length_le (by rw [List.length_map]; omega)] at ht
  | succ d ih =>
    intro i out hd ho ht
    have hi : i < l.length := by omega
    refine Ev.step (fun _ => laws_toExprS.l0.eq_2 ..) (ev_pos (by omega) (ev_pos (by omega) ?_))
    rw [rdLE l i hi]
    refine Ev.bind (hx _ (List.getElem_mem hi)) (ev_pos (by omega) ?_)
    rw [w64s i (by omega), Int.toNat_natCast]
    refine ih (i + 1) _ (by omega) (by rw [List.length_set]; exact ho) ?_
    rw [List.take_succ_eq_append_getElem (by rw [List.length_set]; omega), List.take_succ_eq_append_getElem (by rw [List.length_map]; omega), List.take_set_of_le (by omega), ht, List.getElem_set_self, List.getElem_map]
    generalize toE l[i] = y
    cases y
    rfl
theorem toExpr_ev : ∀ v : S26, SmE (toE v) → Ev (fun k => laws_toExpr.f k v.f0 v.f1 v.f2 v.f3 v.f4) ((toE v).f0, (toE v).f1, (toE v).f2, (toE v).f3, (toE v).f4) := by
  refine leind fun v ih hw => ?_
  obtain ⟨_, w0, w1, w2, w3, w4, w5, w6, w7⟩ := hw
  rw [toE_f2] at w2; rw [toE_f3] at w4 w5; rw [toE_f4, List.length_map] at w6; rw [toE_f4] at w7
  refine Ev.step (fun _ => laws_toExpr.f.eq_2 ..) ?_
  rw [toE_f0, toE_f1, toE_f2, toE_f3, toE_f4]
  refine Ev.bind (toByteS_ev v.f2 (by omega)) (Ev.bind (toByteSS_ev v.f3 w4 (fun y hy => (w5 y hy).1)) (Ev.bind (a := v.f4.map toE) ?_ (Ev.now _)))
  refine Ev.step (fun _ => laws_toExprS.f.eq_2 ..) (ev_pos (by omega) (ev_pos (by omega) ?_))
  exact toExprS_l0 v.f4 w6 (fun x hx => ih x hx (w7 _ (List.mem_map_of_mem hx))) v.f4.length 0 _ (by omega) (by simp) (by simp)
/-! impl_Expr_parts -/
theorem partsE_l0 (l : List S31) (hl : l.length ≤ 1048576) (hx : ∀ v ∈ l, Ev (fun k => impl_Expr_parts.f k v.f0 v.f1 v.f2 v.f3 v.f4) (nE v : Int)) : ∀ (d i : Nat) (a : Nat), i + d = l.length → a + nEs (l.drop i) ≤ 4611686018427387903 →
    Ev (fun k => impl_Expr_parts.l0 k (a : Int) l (l.length : Int) (i : Int)) ((a + nEs (l.drop i) : Nat) : Int) := by
  intro d
  induction d with
  | zero =>
    intro i a hd ha
    refine Ev.step (fun _ => impl_Expr_parts.l0.eq_2 ..) (ev_neg (by omega) (ev_is ?_))
    rw [List.drop_eq_nil_of_le (by omega), nEs, Nat.add_zero]
  | succ d ih =>
    intro i a hd ha
    have hi : i < l.length := by omega
    rw [drop_at l i hi, nEs] at ha ⊢
    refine Ev.step (fun _ => impl_Expr_parts.l0.eq_2 ..) (ev_pos (by omega) (ev_pos (by omega) (ev_pos (by omega) ?_)))
    rw [rdE l i hi]
    refine Ev.bind (hx _ (List.getElem_mem hi)) ?_
    rw [w64s i (by omega), w64 (by omega) (by omega), ← Int.natCast_add, ← Nat.add_assoc]
    exact ih (i + 1) (a + nE l[i]) (by omega) (by omega)
theorem partsE_ev : ∀ v : S31, SmE v → nE v ≤ 4611686018427387903 → Ev (fun k => impl_Expr_parts.f k v.f0 v.f1 v.f2 v.f3 v.f4) (nE v : Int) := by
  refine eind fun v ih hw hn => ?_
  obtain ⟨_, w0, w1, w2, w3, w4, w5, w6, w7⟩ := hw
  rw [nE_eq] at hn ⊢
  refine Ev.step (fun _ => impl_Expr_parts.f.eq_2 ..) (ev_eq (partsE_l0 v.f4 w6 (fun x hx => ih x hx (w7 x hx) (by have := nEs_mem hx; omega)) v.f4.length 0 1 (by omega) (by rw [List.drop_zero]; omega)) ?_)
  rw [List.drop_zero]
/-! bytes_Compare -/
theorem bytes_Compare_eq (a b : List Int) (ha : By a) (hb : By b) : bytes_Compare.f a b = some (cmpB a b) := by
  unfold bytes_Compare.f
  rw [bytes_cmp ha hb]
/-! impl_in -/
theorem in_eq (n lo hi : Int) : impl_in.f n lo hi = some (decide (lo ≤ n ∧ n ≤ hi)) := by
  unfold impl_in.f
  by_cases h : n ≥ lo
  · rw [if_pos h]; simp [h]
  · rw [if_neg h]; simp; omega
/-! impl_isText -/
theorem impl_isText_l0 (b : List Int) (hl : b.length ≤ 4611686018427387903) : ∀ (d i : Nat), i + d = b.length → Ev (fun k => impl_isText.l0 k b b (b.length : Int) (i : Int)) (((b.drop i).all fun x => decide (32 ≤ x ∧ x ≤ 126)) && decide (b.length ≤ 20)) := by
  intro d
  induction d with
  | zero =>
    intro i hd
    refine Ev.step (fun _ => impl_isText.l0.eq_2 ..) (ev_neg (by omega) (ev_is ?_))
    rw [List.drop_eq_nil_of_le (by omega), List.all_nil, Bool.true_and]
    exact decide_eq_decide.2 (by omega)
  | succ d ih =>
    intro i hd
    refine Ev.step (fun _ => impl_isText.l0.eq_2 ..) (ev_pos (by omega) (ev_pos (by omega) (ev_pos (by omega) ?_)))
    rw [M.drop_rd b i (by omega), List.all_cons, w64s i (by omega)]
    by_cases h1 : rd b (i : Int) < 32
    · refine ev_pos h1 (ev_is ?_)
      rw [decide_eq_false (by omega)]; rfl
    · refine ev_neg h1 ?_
      by_cases h2 : rd b (i : Int) > 126
      · refine ev_pos h2 (ev_is ?_)
        rw [decide_eq_false (by omega)]; rfl
      · refine ev_neg h2 (ev_eq (ih (i + 1) (by omega)) ?_)
        rw [decide_eq_true (show 32 ≤ rd b (i : Int) ∧ rd b (i : Int) ≤ 126 by omega), Bool.true_and]
theorem impl_isText_ev (b : List Int) (hl : b.length ≤ 4611686018427387903) : Ev (fun k => impl_isText.f k b) (isText b) := by
  unfold impl_isText.f isText
  refine ev_eq (impl_isText_l0 b hl b.length 0 (by omega)) ?_
  rw [List.drop_zero, Bool.and_comm]
/-! impl_isName -/
theorem impl_isName_l0 (b : List Int) (hl : b.length ≤ 4611686018427387903) : ∀ (d i : Nat), i + d = b.length → Ev (fun k => impl_isName.l0 k b b (b.length : Int) (i : Int)) (((b.drop i).all fun x => decide (97 ≤ x ∧ x ≤ 122)) && decide (1 ≤ b.length ∧ b.length ≤ 8)) := by
  intro d
  induction d with
  | zero =>
    intro i hd
    refine Ev.step (fun _ => impl_isName.l0.eq_2 ..) (ev_neg (by omega) (ev_ret (ev_const ?_)))
    rw [in_eq, List.drop_eq_nil_of_le (by omega)]
    congr 1
    rw [List.all_nil, Bool.true_and]
    exact decide_eq_decide.2 (by omega)
  | succ d ih =>
    intro i hd
    refine Ev.step (fun _ => impl_isName.l0.eq_2 ..) (ev_pos (by omega) (ev_pos (by omega) (ev_pos (by omega) ?_)))
    rw [M.drop_rd b i (by omega), List.all_cons, w64s i (by omega)]
    by_cases h1 : rd b (i : Int) < 97
    · refine ev_pos h1 (ev_is ?_)
      rw [decide_eq_false (by omega)]; rfl
    · refine ev_neg h1 ?_
      by_cases h2 : rd b (i : Int) > 122
      · refine ev_pos h2 (ev_is ?_)
        rw [decide_eq_false (by omega)]; rfl
      · refine ev_neg h2 (ev_eq (ih (i + 1) (by omega)) ?_)
        rw [decide_eq_true (show 97 ≤ rd b (i : Int) ∧ rd b (i : Int) ≤ 122 by omega), Bool.true_and]
theorem impl_isName_ev (b : List Int) (hl : b.length ≤ 4611686018427387903) : Ev (fun k => impl_isName.f k b) (isName b) := by
  unfold impl_isName.f isName
  refine ev_eq (impl_isName_l0 b hl b.length 0 (by omega)) ?_
  rw [List.drop_zero, Bool.and_comm]
/-! slices_Index_string_string -/
theorem indexStr_l0 (w : List Int) (hw : By w) (ls : List (List Int)) (hl : ∀ x ∈ ls, By x) (hn : ls.length ≤ 100) : ∀ (d i : Nat), i + d = ls.length → ∃ r : Int, Ev (fun k => slices_Index_string_string.l0 k (ls.map strOfNums) (strOfNums w) ((ls.map strOfNums).length : Int) (i : Int)) r ∧ decide (r ≥ 0) = (ls.drop i).any fun x => decide (x = w) := by
  intro d
  induction d with
  | zero =>
    intro i hd
    refine ⟨-1, Ev.step (fun _ => slices_Index_string_string.l0.eq_2 ..) (ev_neg (by rw [List.length_map]; omega) (Ev.now _)), ?_⟩
    rw [List.drop_eq_nil_of_le (by omega)]; rfl
  | succ d ih =>
    intro i hd
    have hi : i < ls.length := by omega
    obtain ⟨r, hr, hd2⟩ := ih (i + 1) (by omega)
    rw [drop_at ls i hi, List.any_cons]
    by_cases h : ls[i] = w
    · refine ⟨i, Ev.step (fun _ => slices_Index_string_string.l0.eq_2 ..) (ev_pos (by rw [List.length_map]; omega) (ev_pos (by omega) (ev_pos (by rw [List.length_map]; omega) ?_))), by simp [h]⟩
      rw [rdOf_nat _ i (by rw [List.length_map]; omega), List.getElem_map]
      exact ev_pos ((strs_eq hw (hl _ (List.getElem_mem hi))).2 h.symm) (Ev.now _)
    · refine ⟨r, Ev.step (fun _ => slices_Index_string_string.l0.eq_2 ..) (ev_pos (by rw [List.length_map]; omega) (ev_pos (by omega) (ev_pos (by rw [List.length_map]; omega) ?_))), by rw [hd2, decide_eq_false h, Bool.false_or]⟩
      rw [rdOf_nat _ i (by rw [List.length_map]; omega), List.getElem_map, w64s i (by omega)]
      exact ev_neg (fun q => h ((strs_eq hw (hl _ (List.getElem_mem hi))).1 q).symm) hr
/-! slices_Contains_string_string -/
theorem containsStr_ev (w : List Int) (hw : By w) : Ev (fun k => slices_Contains_string_string.f k (keptL.map strOfNums) (strOfNums w)) (isKept w) := by
  obtain ⟨r, hr, hd⟩ := indexStr_l0 w hw keptL keptL_By (by decide) keptL.length 0 (by omega)
  unfold slices_Contains_string_string.f slices_Index_string_string.f
  refine Ev.bind hr (ev_is ?_)
  rw [hd, List.drop_zero]; rfl
/-! impl_isWord -/
theorem isWord_ev (w : List Int) (hw : By w) (hl : w.length ≤ 4611686018427387903) : Ev (fun k => impl_isWord.f k w) (isWordB w) := by
  unfold impl_isWord.f isWordB
  refine Ev.bind (impl_isName_ev w hl) (ev_and fun _ => ?_)
  exact Ev.bind (a := keptL.map strOfNums) (Ev.now _) (Ev.bind (containsStr_ev w hw) (Ev.now _))
/-! impl_isFormed -/
theorem indexFormed_l0 (l : List S31) (hl : l.length ≤ 1048576) (n : Nat) (hn : n ≤ 20) (hx : ∀ x ∈ l, Ev (fun k => impl_isFormed.f k x.f0 x.f1 x.f2 x.f3 x.f4 (n : Int)) (formedL x n)) :
    ∀ (d i : Nat), i + d = l.length → ∃ r : Int, Ev (fun k => x_IndexFunc_at_impl_isFormed_1.l0 k l ((n + 1 : Nat) : Int) (l.length : Int) (i : Int)) r ∧ decide (r ≥ 0) = !allFormedL (l.drop i) n := by
  intro d
  induction d with
  | zero =>
    intro i hd
    refine ⟨-1, Ev.step (fun _ => x_IndexFunc_at_impl_isFormed_1.l0.eq_2 ..) (ev_neg (by omega) (Ev.now _)), ?_⟩
    rw [List.drop_eq_nil_of_le (by omega), allFormedL]; rfl
  | succ d ih =>
    intro i hd
    have hi : i < l.length := by omega
    obtain ⟨r, hr, hd2⟩ := ih (i + 1) (by omega)
    have hs : Ev (fun k => impl_isFormed_1.f k l[i].f0 l[i].f1 l[i].f2 l[i].f3 l[i].f4 ((n + 1 : Nat) : Int)) (!formedL l[i] n) := by
      refine Ev.step (fun _ => impl_isFormed_1.f.eq_2 ..) ?_
      rw [w64 (by omega) (by omega), show ((n + 1 : Nat) : Int) - 1 = (n : Int) by omega]
      exact Ev.bind (hx _ (List.getElem_mem hi)) (Ev.now _)
    rw [drop_at l i hi, allFormedL]
    by_cases h : formedL l[i] n = true
    · refine ⟨r, Ev.step (fun _ => x_IndexFunc_at_impl_isFormed_1.l0.eq_2 ..) (ev_pos (by omega) (ev_pos (by omega) (ev_pos (by omega) ?_))), by rw [hd2, h]; rfl⟩
      rw [rdE l i hi, w64s i (by omega)]
      exact Ev.bind hs (ev_neg (by rw [h]; decide) hr)
    · refine ⟨i, Ev.step (fun _ => x_IndexFunc_at_impl_isFormed_1.l0.eq_2 ..) (ev_pos (by omega) (ev_pos (by omega) (ev_pos (by omega) ?_))), by simp [h]⟩
      rw [rdE l i hi]
      exact Ev.bind hs (ev_pos (by simp [h]) (Ev.now _))
theorem containsFormed_ev (l : List S31) (hl : l.length ≤ 1048576) (n : Nat) (hn : n ≤ 20) (hx : ∀ x ∈ l, Ev (fun k => impl_isFormed.f k x.f0 x.f1 x.f2 x.f3 x.f4 (n : Int)) (formedL x n)) :
    Ev (fun k => x_ContainsFunc_at_impl_isFormed_1.f k l ((n + 1 : Nat) : Int)) (!allFormedL l n) := by
  obtain ⟨r, hr, hd⟩ := indexFormed_l0 l hl n hn hx l.length 0 (by omega)
  refine Ev.step (fun _ => x_ContainsFunc_at_impl_isFormed_1.f.eq_2 ..) (Ev.bind (a := r) (Ev.step (fun _ => x_IndexFunc_at_impl_isFormed_1.f.eq_2 ..) hr) (ev_is ?_))
  rw [hd, List.drop_zero]
/-- What follows the kinds: so many children, with a name or none. -/
theorem isFormed_j7 (v : S31) (hv : SmE v) (n : Nat) (hn : n ≤ 20) (hx : ∀ x ∈ v.f4, Ev (fun k => impl_isFormed.f k x.f0 x.f1 x.f2 x.f3 x.f4 (n : Int)) (formedL x n)) (kids : Int) (named : Bool) :
    Ev (fun k => impl_isFormed.j7 k kids named v.f0 v.f1 v.f2 v.f3 v.f4 ((n + 1 : Nat) : Int)) ((named || decide (v.f2.length = 0)) && (decide ((v.f4.length : Int) = kids) && (decide (v.f4.length ≤ 150) && allFormedL v.f4 n))) := by
  have w6 : v.f4.length ≤ 1048576 := by obtain ⟨_, w0, w1, w2, w3, w4, w5, w6, w7⟩ := hv; exact w6
  have J8 : ∀ b : Bool, (b = true ↔ ¬ ((named = true ∨ v.f2.length = 0) ∧ (v.f4.length : Int) = kids ∧ v.f4.length ≤ 150)) → Ev (fun k => impl_isFormed.j8 k b v.f0 v.f1 v.f2 v.f3 v.f4 ((n + 1 : Nat) : Int)) ((named || decide (v.f2.length = 0)) && (decide ((v.f4.length : Int) = kids) && (decide (v.f4.length ≤ 150) && allFormedL v.f4 n))) := by
    intro b hb
    refine Ev.step (fun _ => impl_isFormed.j8.eq_2 ..) ?_
    by_cases h : (named = true ∨ v.f2.length = 0) ∧ (v.f4.length : Int) = kids ∧ v.f4.length ≤ 150
    · refine ev_neg (fun q => hb.1 q h) (Ev.bind (containsFormed_ev v.f4 w6 n hn hx) (ev_is ?_))
      rw [Bool.not_not, decide_eq_true h.2.1, decide_eq_true h.2.2]
      rcases h.1 with h1 | h1
      · rw [h1]; rfl
      · rw [decide_eq_true h1, Bool.or_true]; rfl
    · refine ev_pos (hb.2 h) (ev_is ?_)
      by_cases h1 : named = true ∨ v.f2.length = 0
      · by_cases h2 : (v.f4.length : Int) = kids
        · rw [decide_eq_false (p := v.f4.length ≤ 150) (fun q => h ⟨h1, h2, q⟩), Bool.false_and, Bool.and_false, Bool.and_false]
        · rw [decide_eq_false h2, Bool.false_and, Bool.and_false]
      · have h3 : named = false := by rw [← Bool.not_eq_true]; exact fun q => h1 (Or.inl q)
        rw [h3, decide_eq_false (fun q => h1 (Or.inr q))]; rfl
  refine Ev.step (fun _ => impl_isFormed.j7.eq_2 ..) ?_
  repeat' (first
    | (refine J8 true (iff_of_true rfl ?_); rintro ⟨h1 | h1, h2, h3⟩ <;> first | contradiction | omega)
    | (refine J8 true (iff_of_true rfl ?_); simp_all; omega)
    | (refine J8 true (iff_of_true rfl ?_); simp_all; done)
    | (refine J8 (decide _) (decide_eq_true_iff.trans ?_); simp_all; omega)
    | (refine ev_ite (fun _ => ?_) (fun _ => ?_)))
theorem isFormed_l0 (v : S31) (hv : SmE v) (n : Nat) (kids : Int) (named : Bool) (T : Bool) (J : Ev (fun k => impl_isFormed.j7 k kids named v.f0 v.f1 v.f2 v.f3 v.f4 ((n + 1 : Nat) : Int)) T) :
    ∀ (d i : Nat), i + d = v.f3.length → Ev (fun k => impl_isFormed.l0 k kids named v.f3 (v.f3.length : Int) (i : Int) v.f0 v.f1 v.f2 v.f3 v.f4 ((n + 1 : Nat) : Int)) (keysFrom v.f3 d i && T) := by
  obtain ⟨_, w0, w1, w2, w3, w4, w5, w6, w7⟩ := hv
  intro d
  induction d with
  | zero =>
    intro i hd
    refine Ev.step (fun _ => impl_isFormed.l0.eq_2 ..) (ev_neg (by omega) ?_)
    rw [keysFrom, Bool.true_and]
    exact J
  | succ d ih =>
    intro i hd
    have hi3 : i < v.f3.length := by omega
    refine Ev.step (fun _ => impl_isFormed.l0.eq_2 ..) (ev_pos (by omega) (ev_pos (by omega) (ev_pos (by omega) ?_)))
    rw [rdR v.f3 i hi3, w64s i (by omega), keysFrom]
    have hln := (w5 _ (List.getElem_mem hi3)).1
    refine Ev.bind (impl_isName_ev _ (by omega)) (ev_ite (fun hnm => ?_) (fun hnm => ev_is ?_))
    · rcases Nat.eq_zero_or_pos i with hz | hz
      · subst hz
        refine ev_neg (by omega) ?_
        rw [keyAt_0 _ hi3, hnm, Bool.true_and]
        exact ih 1 (by omega)
      · refine ev_pos (by omega) ?_
        rw [w64 (by omega) (by omega)]
        refine ev_pos (by omega) (ev_pos (by omega) ?_)
        obtain ⟨j, rfl⟩ : ∃ j, i = j + 1 := ⟨i - 1, by omega⟩
        have e : (((j + 1 : Nat) : Int) - 1) = (j : Int) := by omega
        rw [e, rdR v.f3 j (by omega), keyAt_s _ _ hi3, hnm, Bool.true_and]
        have hr := cmpB_range v.f3[j] v.f3[j + 1]
        refine Ev.bind (ev_const (bytes_Compare_eq _ _ (w5 _ (List.getElem_mem _)).2 (w5 _ (List.getElem_mem _)).2)) (ev_ite (fun h => ev_is ?_) (fun h => ?_))
        · rw [decide_eq_false (by omega)]; rfl
        · rw [decide_eq_true (by omega), Bool.true_and]
          exact ih (j + 1 + 1) (by omega)
    · rw [Bool.not_eq_true] at hnm
      unfold keyAt; rw [getDN _ _ _ hi3, hnm]; rfl
theorem kindsE (a : Int) : a = 0 ∨ a = 1 ∨ a = 2 ∨ a = 3 ∨ a = 4 ∨ a = 5 ∨ a = 6 ∨ a = 7 ∨ a = 8 ∨ a = 9 ∨ a = 10 ∨ a = 11 ∨ a = 12 ∨ a = 13 ∨ a = 14 ∨ a = 15 ∨ a = 16 ∨ a = 17 ∨ a = 18 ∨ a = 19 ∨ a = 20 ∨ a = 21 ∨ a = 22 ∨ a = 23 ∨ a < 0 ∨ 23 < a := by omega
set_option maxHeartbeats 2000000 in
theorem isFormed_ev : ∀ v : S31, SmE v → ∀ n : Nat, n ≤ 20 → Ev (fun k => impl_isFormed.f k v.f0 v.f1 v.f2 v.f3 v.f4 (n : Int)) (formedL v n) := by
  refine eind fun v ih hv n hn => ?_
  have hc : ∀ x ∈ v.f4, SmE x := by obtain ⟨_, w0, w1, w2, w3, w4, w5, w6, w7⟩ := hv; exact w7
  refine Ev.step (fun _ => impl_isFormed.f.eq_2 ..) ?_
  cases n with
  | zero => exact ev_pos rfl (Ev.step (fun _ => impl_isFormed.j0.eq_2 ..) (ev_pos rfl (ev_is (formedL_0 v).symm)))
  | succ n =>
    have J7 := isFormed_j7 v hv n (by omega) (fun x hx => ih x hx (hc x hx) n (by omega))
    have L0 := fun (kids : Int) (named : Bool) => isFormed_l0 v hv n kids named _ (J7 kids named) v.f3.length 0 (by omega)
    rw [formedL_s]
    clear ih hc
    generalize (decide (v.f4.length ≤ 150) && allFormedL v.f4 n) = X at J7 L0 ⊢
    obtain ⟨_, w0, w1, w2, w3, w4, w5, w6, w7⟩ := hv
    refine ev_neg (by omega) ?_
    have J0 : ∀ b : Bool, (b = true ↔ ¬ ((v.f0 = 5 ∨ v.f3.length = 0) ∧ (v.f0 = 1 ∨ v.f0 = 2 ∨ v.f1 = 0))) → Ev (fun k => impl_isFormed.j0 k b v.f0 v.f1 v.f2 v.f3 v.f4 ((n + 1 : Nat) : Int)) (formE v && X) := by
      intro b hb
      refine Ev.step (fun _ => impl_isFormed.j0.eq_2 ..) ?_
      by_cases hA : (v.f0 = 5 ∨ v.f3.length = 0) ∧ (v.f0 = 1 ∨ v.f0 = 2 ∨ v.f1 = 0)
      · refine ev_neg (fun q => hb.1 q hA) ?_
        clear hb
        rcases kindsE v.f0 with hk | hk | hk | hk | hk | hk | hk | hk | hk | hk | hk | hk | hk | hk | hk | hk | hk | hk | hk | hk | hk | hk | hk | hk | hk
        all_goals
          repeat' (first
            | ((with_reducible refine ev_pos ?_ ?_); (first | omega | (rw [hk]; rfl)))
            | ((with_reducible refine ev_neg ?_ ?_); (first | omega | (rw [hk]; decide) | (rw [beq_iff_eq]; omega)))
            | (with_reducible refine Ev.bind (ev_const (in_eq _ _ _)) (ev_ite (fun hq => ?_) (fun hq => ?_)))
            | (with_reducible refine Ev.bind (impl_isText_ev _ (by omega)) (ev_ite (fun hq => ?_) (fun hq => ?_)))
            | (with_reducible refine Ev.bind (impl_isName_ev _ (by omega)) (ev_ite (fun hq => ?_) (fun hq => ?_)))
            | (with_reducible refine Ev.bind (isWord_ev _ w3 (by omega)) (ev_ite (fun hq => ?_) (fun hq => ?_)))
            | (with_reducible refine Ev.step (fun _ => impl_isFormed.j1.eq_2 ..) ?_)
            | (with_reducible refine Ev.step (fun _ => impl_isFormed.j2.eq_2 ..) ?_)
            | (with_reducible refine Ev.step (fun _ => impl_isFormed.j3.eq_2 ..) ?_)
            | (with_reducible refine Ev.step (fun _ => impl_isFormed.j5.eq_2 ..) ?_)
            | (with_reducible refine Ev.step (fun _ => impl_isFormed.j6.eq_2 ..) ?_)
            | (with_reducible refine ev_eq (J7 _ _) ?_)
            | (with_reducible refine ev_eq (L0 _ _) ?_)
            | (with_reducible refine ev_is ?_))
        all_goals
          clear J7 L0 w0 w1 w2 w3 w4 w5 w6 w7
          unfold formE arityE keysOk
          rw [Bool.eq_iff_iff]
          first
            | (simp_all; done)
            | (simp_all; omega)
            | (simp_all <;> grind)
      · refine ev_pos (hb.2 hA) (ev_is ?_)
        clear J7 L0 hb w0 w1 w2 w3 w4 w5 w6 w7
        unfold formE
        rw [Bool.eq_iff_iff]
        have h2 : ¬ (if v.f0 = 5 then v.f3.length = v.f4.length else v.f3.length = 0) ∨ ¬ (if v.f0 = 1 then 0 ≤ v.f1 ∧ v.f1 ≤ 1 else if v.f0 = 2 then 0 ≤ v.f1 ∧ v.f1 ≤ 1000000000000 else v.f1 = 0) := by
          by_cases h5 : v.f0 = 5 ∨ v.f3.length = 0
          · right
            rw [if_neg (fun h => hA ⟨h5, .inl h⟩), if_neg (fun h => hA ⟨h5, .inr (.inl h)⟩)]
            exact fun h => hA ⟨h5, .inr (.inr h)⟩
          · left
            rw [if_neg (fun h => h5 (.inl h))]
            exact fun h => h5 (.inr h)
        simp only [Bool.and_eq_true, decide_eq_true_eq]
        refine iff_of_false (by decide) fun h => ?_
        rcases h2 with h2 | h2
        · exact h2 h.1.2.2.1
        · exact h2 h.1.2.2.2.1
    have hl0 : ∀ l : List (List Int), (¬ ((l.length : Int) > 0)) = (l.length = 0) := fun l => by rw [eq_iff_iff]; omega
    refine ev_ite (fun h5 => ?_) (fun h5 => ev_ite (fun h3 => J0 _ ?_) (fun h3 => ev_ite (fun h1 => J0 _ ?_) (fun h1 => ev_ite (fun h2 => J0 _ ?_) (fun h2 => J0 _ ?_))))
    · refine ev_neg (by omega) (ev_neg (by omega) (J0 _ ?_))
      rw [bne_iff_ne]; constructor
      · intro h q; have := q.2; omega
      · intro h q; exact h ⟨.inl h5, .inr (.inr q)⟩
    · exact iff_of_true rfl fun q => by have := q.1; omega
    · exact iff_of_false (by decide) fun q => q ⟨by omega, by omega⟩
    · exact iff_of_false (by decide) fun q => q ⟨by omega, by omega⟩
    · rw [bne_iff_ne]; constructor
      · intro h q; have := q.2; omega
      · intro h q; exact h ⟨by omega, .inr (.inr q)⟩
/-! impl_isExpr -/
theorem isExpr_ev (v : S31) (hv : SmE v) (hn : nE v ≤ 4611686018427387903) : Ev (fun k => impl_isExpr.f k v.f0 v.f1 v.f2 v.f3 v.f4) (exprOk v) := by
  unfold impl_isExpr.f exprOk
  have e : (formed v 10 && decide (nE v ≤ 150)) = (formedL v 10 && decide (nE v ≤ 150)) := by
    by_cases h : nE v ≤ 150
    · rw [formedL_eq v 10 h]
    · rw [decide_eq_false h, Bool.and_false, Bool.and_false]
  rw [e]
  refine Ev.bind (isFormed_ev v hv 10 (by omega)) (ev_and fun _ => Ev.bind (partsE_ev v hv hn) (ev_is ?_))
  exact decide_eq_decide.2 (by omega)
/-! laws_eqByteS -/
theorem eqByteS_l0 (l : List Int) (hl : l.length ≤ 4611686018427387903) : ∀ (d i : Nat), i + d = l.length → Ev (fun k => laws_eqByteS.l0 k l l i) true := by
  intro d
  induction d with
  | zero =>
    intro i hd
    refine Ev.step (fun _ => laws_eqByteS.l0.eq_2 ..) ?_
    exact ev_neg (by omega) (Ev.now _)
  | succ d ih =>
    intro i hd
    refine Ev.step (fun _ => laws_eqByteS.l0.eq_2 ..) ?_
    refine ev_pos (by omega) (ev_pos (by omega) (ev_pos (by omega) (ev_pos rfl ?_)))
    rw [w64s i (by omega)]
    exact ih (i + 1) (by omega)
theorem eqByteS_ev (l : List Int) (hl : l.length ≤ 281474976710656) : Ev (fun k => laws_eqByteS.f k l l) true := by
  unfold laws_eqByteS.f
  exact ev_pos rfl (eqByteS_l0 l (by omega) l.length 0 (by omega))
/-! laws_eqByteSS -/
theorem eqByteSS_l0 (l : List (List Int)) (hl : l.length ≤ 1048576) (hk : ∀ x ∈ l, x.length ≤ 1048576) : ∀ (d i : Nat), i + d = l.length → Ev (fun k => laws_eqByteSS.l0 k l l (i : Int)) true := by
  intro d
  induction d with
  | zero =>
    intro i hd
    exact Ev.step (fun _ => laws_eqByteSS.l0.eq_2 ..) (ev_neg (by omega) (Ev.now _))
  | succ d ih =>
    intro i hd
    have hi : i < l.length := by omega
    refine Ev.step (fun _ => laws_eqByteSS.l0.eq_2 ..) (ev_pos (by omega) (ev_pos (by omega) (ev_pos (by omega) ?_)))
    rw [rdR l i hi]
    have hs := hk _ (List.getElem_mem hi)
    refine Ev.bind (eqByteS_ev _ (by omega)) (ev_pos rfl ?_)
    rw [w64s i (by omega)]
    exact ih (i + 1) (by omega)
theorem eqByteSS_ev (l : List (List Int)) (hl : l.length ≤ 1048576) (hk : ∀ x ∈ l, x.length ≤ 1048576) : Ev (fun k => laws_eqByteSS.f k l l) true := by
  unfold laws_eqByteSS.f
  exact ev_pos rfl (eqByteSS_l0 l hl hk l.length 0 (by omega))
/-! laws_eqExpr -/
theorem eqExprS_l0 (l : List S31) (hl : l.length ≤ 1048576) (hx : ∀ v ∈ l, Ev (fun k => laws_eqExpr.f k v.f0 v.f1 v.f2 v.f3 v.f4 v.f0 v.f1 v.f2 v.f3 v.f4) true) : ∀ (d i : Nat), i + d = l.length → Ev (fun k => laws_eqExprS.l0 k l l (i : Int)) true := by
  intro d
  induction d with
  | zero =>
    intro i hd
    exact Ev.step (fun _ => laws_eqExprS.l0.eq_2 ..) (ev_neg (by omega) (Ev.now _))
  | succ d ih =>
    intro i hd
    have hi : i < l.length := by omega
    refine Ev.step (fun _ => laws_eqExprS.l0.eq_2 ..) (ev_pos (by omega) (ev_pos (by omega) (ev_pos (by omega) ?_)))
    rw [rdE l i hi]
    refine Ev.bind (hx _ (List.getElem_mem hi)) (ev_pos rfl ?_)
    rw [w64s i (by omega)]
    exact ih (i + 1) (by omega)
theorem eqExpr_ev : ∀ v : S31, SmE v → Ev (fun k => laws_eqExpr.f k v.f0 v.f1 v.f2 v.f3 v.f4 v.f0 v.f1 v.f2 v.f3 v.f4) true := by
  refine eind fun v ih hw => ?_
  obtain ⟨_, w0, w1, w2, w3, w4, w5, w6, w7⟩ := hw
  refine Ev.step (fun _ => laws_eqExpr.f.eq_2 ..) (ev_pos rfl (ev_pos rfl ?_))
  refine Ev.bind (eqByteS_ev v.f2 (by omega)) (ev_pos rfl (Ev.bind (eqByteSS_ev v.f3 w4 (fun y hy => (w5 y hy).1)) (ev_pos rfl (Ev.bind (a := true) ?_ (ev_pos rfl (Ev.now _))))))
  refine Ev.step (fun _ => laws_eqExprS.f.eq_2 ..) (ev_pos rfl ?_)
  exact eqExprS_l0 v.f4 w6 (fun x hx => ih x hx (w7 x hx)) v.f4.length 0 (by omega)
/-! bytes_Equal -/
theorem bytes_Equal_eq (a b : List Int) (ha : By a) (hb : By b) : bytes_Equal.f a b = some (decide (a = b)) := by
  unfold bytes_Equal.f
  rw [str_inj ha hb]
theorem rdLI (xs : List S91) (i : Nat) (h : i < xs.length) : rd_T91 xs (i : Int) = xs[i] := getDI xs _ i h
theorem rdI (xs : List S94) (i : Nat) (h : i < xs.length) : rd_T94 xs (i : Int) = xs[i] := getDI xs _ i h
structure WfItem (x : S91) : Prop where
  a : x.f1.length ≤ 9223372036854775807
  b : By x.f1
  c : WfE x.f3
  d : x.f4.length ≤ 9223372036854775807
  e : ∀ y ∈ x.f4, y.length ≤ 9223372036854775807 ∧ By y
  f : x.f5.length ≤ 9223372036854775807
  g : ∀ y ∈ x.f5, WfE y
def WfItems (l : List S91) : Prop := l.length ≤ 9223372036854775807 ∧ ∀ x ∈ l, WfItem x
def toI (x : S91) : S94 := ⟨x.f0, x.f1, x.f2, toE x.f3, x.f4, x.f5.map toE⟩
def szI (x : S91) : Nat := x.f1.length + (szE x.f3 + ((x.f4.length + szL x.f4) + (x.f5.length + szEs x.f5)))
def szIs : List S91 → Nat
  | [] => 0
  | x :: l => szI x + szIs l
theorem szIs_mem {l : List S91} {x : S91} (h : x ∈ l) : szI x ≤ szIs l := by
  induction l with
  | nil => cases h
  | cons a l ih =>
    rcases List.mem_cons.1 h with rfl | h
    · rw [szIs]; omega
    · have := ih h; rw [szIs]; omega
/-- An item of a size that is held. -/
structure SmI (x : S94) : Prop where
  a : x.f1.length ≤ 1048576
  b : By x.f1
  c : SmE x.f3
  cn : nE x.f3 ≤ 1048577
  d : x.f4.length ≤ 1048576
  e : ∀ y ∈ x.f4, y.length ≤ 1048576 ∧ By y
  f : x.f5.length ≤ 1048576
  g : ∀ y ∈ x.f5, SmE y
  gn : nEs x.f5 ≤ 1048576
theorem smI_of {x : S91} (hw : WfItem x) (h : szI x ≤ 1048576) : SmI (toI x) := by
  unfold szI at h
  have h1 := nE_toE x.f3
  have h2 := nEs_toE x.f5 fun y _ => nE_toE y
  refine ⟨by show x.f1.length ≤ _; omega, hw.b, smE_of _ hw.c (by omega), by show nE (toE x.f3) ≤ _; omega, by show x.f4.length ≤ _; omega, fun y hy => ?_, by show (x.f5.map toE).length ≤ _; rw [List.length_map]; omega, fun y hy => ?_, by show nEs (x.f5.map toE) ≤ _; omega⟩
  · have := szL_mem (show y ∈ x.f4 from hy)
    exact ⟨by omega, (hw.e y hy).2⟩
  · obtain ⟨t, ht, rfl⟩ := List.mem_map.1 hy
    have := szEs_mem ht
    exact smE_of _ (hw.g t ht) (by omega)
/-! What an item comes to. -/
def zE (v : S31) : Bool := decide (v.f0 = 0) && (decide (v.f1 = 0) && (decide (v.f2.length = 0) && (decide (v.f3.length = 0) && decide (v.f4.length = 0))))
def nI (x : S94) : Nat := (if x.f2 = 0 then 0 else nE x.f3) + nEs x.f5
def headI (x : S94) : Bool := decide (0 ≤ x.f0 ∧ x.f0 ≤ 2) && (isWordB x.f1 && decide (x.f5.length ≤ 6))
def formI (x : S94) : Bool := if x.f0 = 1 then decide (0 ≤ x.f2 ∧ x.f2 ≤ 2) && ((!decide (x.f2 = 0) || zE x.f3) && decide (x.f4.length = x.f5.length)) else decide (x.f2 = 0) && (zE x.f3 && (decide (x.f4.length = 0) && decide (x.f5.length = 1)))
def keysI (x : S94) : Bool := !decide (x.f0 = 1) || keysFrom x.f4 x.f4.length 0
def byG (x : S94) : Bool := decide (x.f2 = 0) || formed x.f3 10
def itemG (x : S94) : Bool := headI x && (formI x && (byG x && (keysI x && allFormed x.f5 10)))
def itemI (x : S94) : Bool := headI x && (x.f5.all exprOk && (((!decide (x.f2 = 0) || zE x.f3) && exprOk x.f3) && (keysI x && (if x.f0 = 1 then decide (0 ≤ x.f2 ∧ x.f2 ≤ 2) && decide (x.f4.length = x.f5.length) else decide (x.f5.length = 1) && (decide (x.f4.length = 0) && decide (x.f2 = 0))))))
theorem zE_ok {v : S31} (h : zE v = true) : exprOk v = true := by
  obtain ⟨a, b, c, d, e⟩ := v
  unfold zE at h
  simp only [Bool.and_eq_true, decide_eq_true_eq, List.length_eq_zero_iff] at h
  obtain ⟨rfl, rfl, rfl, rfl, rfl⟩ := h
  unfold exprOk
  rw [formed_s, nE_eq]
  rfl
theorem all_ok {l : List S31} (h : nEs l ≤ 150) : l.all exprOk = allFormed l 10 := by
  induction l with
  | nil => rw [allFormed]; rfl
  | cons x l ih =>
    rw [nEs] at h
    rw [List.all_cons, allFormed, ih (by omega)]
    unfold exprOk
    rw [decide_eq_true (show nE x ≤ 150 by omega), Bool.and_true]
theorem item_eq {x : S94} (h : nI x ≤ 150) : itemI x = itemG x := by
  unfold nI at h
  unfold itemI itemG byG formI
  rw [all_ok (show nEs x.f5 ≤ 150 by omega)]
  generalize headI x = A
  generalize keysI x = K
  generalize allFormed x.f5 10 = F
  by_cases h2 : x.f2 = 0
  · rw [decide_eq_true h2, decide_eq_true (show 0 ≤ x.f2 ∧ x.f2 ≤ 2 by omega)]
    cases hz : zE x.f3
    · by_cases h0 : x.f0 = 1
      · rw [if_pos h0, if_pos h0]; cases A <;> cases F <;> cases K <;> simp
      · rw [if_neg h0, if_neg h0]; cases A <;> cases F <;> cases K <;> simp
    · rw [zE_ok hz]
      by_cases h0 : x.f0 = 1
      · rw [if_pos h0, if_pos h0]; cases A <;> cases F <;> cases K <;> simp
      · rw [if_neg h0, if_neg h0]; cases A <;> cases F <;> cases K <;> simp [Bool.and_comm]
  · rw [if_neg h2] at h
    have e : exprOk x.f3 = formed x.f3 10 := by unfold exprOk; rw [decide_eq_true (show nE x.f3 ≤ 150 by omega), Bool.and_true]
    rw [e, decide_eq_false h2]
    generalize formed x.f3 10 = B
    by_cases h0 : x.f0 = 1
    · rw [if_pos h0, if_pos h0]; cases A <;> cases F <;> cases K <;> cases B <;> simp
    · rw [if_neg h0, if_neg h0]; cases A <;> cases F <;> cases K <;> cases B <;> simp
def sameB (x o : S94) : Bool := decide (o.f0 = x.f0) && decide (o.f1 = x.f1)
def dupI (l : List S94) (i : Nat) : Bool := (l.take i).any (sameB (rd_T94 l (i : Int)))
def restG (f : S94 → Bool) (l : List S94) : Nat → Nat → Bool
  | 0, _ => true
  | d + 1, i => f (rd_T94 l (i : Int)) && (!dupI l i && restG f l d (i + 1))
def tot (l : List S94) : Nat → Nat → Nat
  | 0, _ => 0
  | d + 1, i => nI (rd_T94 l (i : Int)) + tot l d (i + 1)
def configOk (l : List S94) : Bool := decide (l.length ≤ 12) && (restG itemG l l.length 0 && decide (tot l l.length 0 ≤ 150))
theorem rest_eq (l : List S94) : ∀ d i, tot l d i ≤ 150 → restG itemI l d i = restG itemG l d i := by
  intro d
  induction d with
  | zero => intro i _; rfl
  | succ d ih =>
    intro i h
    rw [tot] at h
    rw [restG, restG, item_eq (by omega), ih (i + 1) (by omega)]
/-! The reference. -/
theorem l6zero_ev (v : S31) : Ev (fun _ => spec_l6zero.f v.f0 v.f1 v.f2 v.f3 v.f4) (zE v) := by
  unfold spec_l6zero.f zE
  refine ev_andP fun h0 => ev_andP fun h1 => ?_
  by_cases h2 : v.f2.length = 0
  · refine ev_pos (by omega) ?_
    rw [decide_eq_true h2, Bool.true_and]
    by_cases h3 : v.f3.length = 0
    · refine ev_pos (by omega) ?_
      rw [decide_eq_true h3, Bool.true_and]
      exact ev_is (by rw [beq0])
    · refine ev_neg (by omega) (ev_is ?_)
      rw [decide_eq_false h3, Bool.false_and]
  · refine ev_neg (by omega) (ev_is ?_)
    rw [decide_eq_false h2, Bool.false_and]
section
variable (x : S94)
theorem l6item_j4f (m : Int) (i : Nat) : Ev (fun k => spec_l6item.j4 k m (i : Int) false x.f0 x.f1 x.f2 x.f3.f0 x.f3.f1 x.f3.f2 x.f3.f3 x.f3.f4 x.f4 x.f5) m := Ev.step (fun _ => spec_l6item.j4.eq_2 ..) (ev_neg (by decide) (Ev.now _))
theorem l6item_neg (i : Nat) : Ev (fun k => spec_l6item.l0 k (-1) (i : Int) x.f0 x.f1 x.f2 x.f3.f0 x.f3.f1 x.f3.f2 x.f3.f3 x.f3.f4 x.f4 x.f5) (-1) := by
  refine Ev.step (fun _ => spec_l6item.l0.eq_2 ..) (ev_ite (fun _ => ?_) (fun _ => l6item_j4f x (-1) i))
  exact l6item_j4f x (-1) i
theorem l6item_l0 (hs : SmI x) (hk : x.f0 = 1 → x.f4.length = x.f5.length) : ∀ (d i : Nat) (m : Int), i + d = x.f5.length → 0 ≤ m → m ≤ 150 →
    Ev (fun k => spec_l6item.l0 k m (i : Int) x.f0 x.f1 x.f2 x.f3.f0 x.f3.f1 x.f3.f2 x.f3.f3 x.f3.f4 x.f4 x.f5) (left_ ((!decide (x.f0 = 1) || keysFrom x.f4 d i) && allFormed (x.f5.drop i) 10) (nEs (x.f5.drop i)) m) := by
  intro d
  induction d with
  | zero =>
    intro i m hd h0 h1
    refine Ev.step (fun _ => spec_l6item.l0.eq_2 ..) (ev_neg (by omega) (ev_eq (l6item_j4f x m i) ?_))
    rw [List.drop_eq_nil_of_le (by omega), nEs, allFormed, keysFrom, Bool.or_true, Bool.true_and, left_0 h0]
  | succ d ih =>
    intro i m hd h0 h1
    have hi : i < x.f5.length := by omega
    have hl := hs.f
    have hX : Ev (fun k => spec_l6expr.f k x.f5[i].f0 x.f5[i].f1 x.f5[i].f2 x.f5[i].f3 x.f5[i].f4 1 m) (left_ (formed x.f5[i] 10) (nE x.f5[i]) m) := l6expr_f x.f5[i] (hs.g _ (List.getElem_mem hi)) 1 m (by omega) (by omega) h0 h1
    have hr := left_range (formed x.f5[i] 10) (nE x.f5[i]) m h0
    have T : ∀ C p, (∀ m', 0 ≤ m' → m' ≤ 150 → Ev (fun k => spec_l6item.l0 k m' ((i + 1 : Nat) : Int) x.f0 x.f1 x.f2 x.f3.f0 x.f3.f1 x.f3.f2 x.f3.f3 x.f3.f4 x.f4 x.f5) (left_ C p m')) →
        Ev (fun k => (spec_l6expr.f k x.f5[i].f0 x.f5[i].f1 x.f5[i].f2 x.f5[i].f3 x.f5[i].f4 1 m).bind fun t => spec_l6item.l0 k t ((i + 1 : Nat) : Int) x.f0 x.f1 x.f2 x.f3.f0 x.f3.f1 x.f3.f2 x.f3.f3 x.f3.f4 x.f4 x.f5) (left_ (formed x.f5[i] 10 && C) (nE x.f5[i] + p) m) := by
      intro C p hC
      refine Ev.bind hX ?_
      by_cases h : left_ (formed x.f5[i] 10) (nE x.f5[i]) m < 0
      · rw [left_neg h C p]
        have e : left_ (formed x.f5[i] 10) (nE x.f5[i]) m = -1 := by omega
        rw [e]
        exact l6item_neg x (i + 1)
      · rw [← left_pos h C p]
        exact hC _ (by omega) (by omega)
    rw [drop_at x.f5 i hi, nEs, allFormed]
    refine Ev.step (fun _ => spec_l6item.l0.eq_2 ..) (ev_pos (by omega) ?_)
    rw [decide_eq_true (show m ≥ 0 by omega)]
    refine Ev.step (fun _ => spec_l6item.j4.eq_2 ..) (ev_pos rfl ?_)
    by_cases hq : x.f0 = 1
    · have hi4 : i < x.f4.length := by rw [hk hq]; exact hi
      rw [decide_eq_true hq]
      refine ev_pos hq (ev_pos (by omega) (ev_pos (by omega) ?_))
      rw [rdR x.f4 i hi4, keysFrom]
      have hln := (hs.e _ (List.getElem_mem hi4)).1
      have J := T (keysFrom x.f4 d (i + 1) && allFormed (x.f5.drop (i + 1)) 10) (nEs (x.f5.drop (i + 1))) (fun m' a b => by
        have := ih (i + 1) m' (by omega) a b
        rw [decide_eq_true hq] at this
        exact this)
      have w8 : wrap64 ((i : Int) + 1) = ((i + 1 : Nat) : Int) := w64s i (by omega)
      refine Ev.bind (spec_NameOk_ev _ (by omega)) ?_
      refine ev_ite (fun hnm => ?_) (fun hnm => ev_is ?_)
      · rcases Nat.eq_zero_or_pos i with hz | hz
        · subst hz
          refine ev_neg (by omega) (ev_pos (by omega) ?_)
          rw [rdE x.f5 0 hi, w8, keyAt_0 _ hi4, hnm]
          refine ev_eq J ?_
          congr 1
          generalize formed x.f5[0] 10 = S
          generalize keysFrom x.f4 d (0 + 1) = K
          generalize allFormed (x.f5.drop (0 + 1)) 10 = B
          cases S <;> cases K <;> cases B <;> rfl
        · refine ev_pos (by omega) ?_
          rw [w64 (by omega) (by omega)]
          refine ev_pos (by omega) (ev_pos (by omega) ?_)
          obtain ⟨j, rfl⟩ : ∃ j, i = j + 1 := ⟨i - 1, by omega⟩
          have e : (((j + 1 : Nat) : Int) - 1) = (j : Int) := by omega
          rw [e, rdR x.f4 j (by omega), keyAt_s _ _ hi4, hnm, Bool.true_and, str_less (hs.e _ (List.getElem_mem _)).2 (hs.e _ (List.getElem_mem _)).2]
          refine ev_ite (fun hc => ?_) (fun hc => ev_is ?_)
          · refine ev_pos (by omega) ?_
            rw [rdE x.f5 (j + 1) hi, w8]
            rw [show decide (cmpB x.f4[j] x.f4[j + 1] = -1) = true from by simpa using hc]
            refine ev_eq J ?_
            congr 1
            generalize formed x.f5[j + 1] 10 = S
            generalize keysFrom x.f4 d (j + 1 + 1) = K
            generalize allFormed (x.f5.drop (j + 1 + 1)) 10 = B
            cases S <;> cases K <;> cases B <;> rfl
          · rw [show decide (cmpB x.f4[j] x.f4[j + 1] = -1) = false from by simpa using hc]
            exact (left_f _ _).symm
      · rw [Bool.not_eq_true] at hnm
        have hka : keyAt x.f4 i = false := by unfold keyAt; rw [getDN _ _ _ hi4, hnm]; rfl
        rw [hka]
        exact (left_f _ _).symm
    · rw [decide_eq_false hq]
      refine ev_neg hq (ev_pos (by omega) (ev_pos (by omega) ?_))
      rw [rdE x.f5 i hi, w64s i (by omega)]
      have J := T (allFormed (x.f5.drop (i + 1)) 10) (nEs (x.f5.drop (i + 1))) (fun m' a b => by
        have := ih (i + 1) m' (by omega) a b
        rw [decide_eq_false hq] at this
        exact this)
      exact J
end
section
variable (x : S94)
theorem l6item_j1 (hs : SmI x) (hf : formI x = true) (m : Int) (h0 : 0 ≤ m) (h1 : m ≤ 150) :
    Ev (fun k => spec_l6item.j1 k m x.f0 x.f1 x.f2 x.f3.f0 x.f3.f1 x.f3.f2 x.f3.f3 x.f3.f4 x.f4 x.f5) (left_ (byG x && (keysI x && allFormed x.f5 10)) (nI x) m) := by
  have hk : x.f0 = 1 → x.f4.length = x.f5.length := fun h => by
    unfold formI at hf
    rw [if_pos h] at hf
    simp only [Bool.and_eq_true, decide_eq_true_eq] at hf
    exact hf.2.2
  have e : (!decide (x.f0 = 1) || keysFrom x.f4 x.f5.length 0) = keysI x := by
    unfold keysI
    by_cases h : x.f0 = 1
    · rw [hk h]
    · rw [decide_eq_false h]; rfl
  have L : ∀ m : Int, 0 ≤ m → m ≤ 150 → Ev (fun k => spec_l6item.j2 k m x.f0 x.f1 x.f2 x.f3.f0 x.f3.f1 x.f3.f2 x.f3.f3 x.f3.f4 x.f4 x.f5) (left_ (keysI x && allFormed x.f5 10) (nEs x.f5) m) := fun m a b => by
    refine Ev.step (fun _ => spec_l6item.j2.eq_2 ..) (ev_eq (l6item_l0 x hs hk x.f5.length 0 m (by omega) a b) ?_)
    rw [e, List.drop_zero]
  unfold byG nI
  refine Ev.step (fun _ => spec_l6item.j1.eq_2 ..) ?_
  by_cases h2 : x.f2 = 0
  · rw [decide_eq_true h2, if_pos h2, Bool.true_or, Bool.true_and, Nat.zero_add]
    exact ev_pos h2 (L m h0 h1)
  · rw [decide_eq_false h2, if_neg h2, Bool.false_or]
    have hX : Ev (fun k => spec_l6expr.f k x.f3.f0 x.f3.f1 x.f3.f2 x.f3.f3 x.f3.f4 1 m) (left_ (formed x.f3 10) (nE x.f3) m) := l6expr_f x.f3 hs.c 1 m (by omega) (by omega) h0 h1
    refine ev_neg h2 (Ev.bind hX ?_)
    have hr := left_range (formed x.f3 10) (nE x.f3) m h0
    by_cases h : left_ (formed x.f3 10) (nE x.f3) m < 0
    · rw [left_neg h _ _]
      have e : left_ (formed x.f3 10) (nE x.f3) m = -1 := by omega
      rw [e]
      exact Ev.step (fun _ => spec_l6item.j2.eq_2 ..) (l6item_neg x 0)
    · rw [← left_pos h _ _]
      exact L _ (by omega) (by omega)
theorem l6item_j0 (hs : SmI x) (m : Int) (h0 : 0 ≤ m) (h1 : m ≤ 150) (b : Bool) :
    Ev (fun k => spec_l6item.j0 k m b x.f0 x.f1 x.f2 x.f3.f0 x.f3.f1 x.f3.f2 x.f3.f3 x.f3.f4 x.f4 x.f5) (left_ (!b && (formI x && (byG x && (keysI x && allFormed x.f5 10)))) (nI x) m) := by
  have J := fun hf => l6item_j1 x hs hf m h0 h1
  generalize (byG x && (keysI x && allFormed x.f5 10)) = R at J ⊢
  generalize nI x = n at J ⊢
  have no : formI x = false → (-1 : Int) = left_ (!false && (formI x && R)) n m := fun h => by rw [h]; exact (left_f _ _).symm
  have yes_ : formI x = true → Ev (fun k => spec_l6item.j1 k m x.f0 x.f1 x.f2 x.f3.f0 x.f3.f1 x.f3.f2 x.f3.f3 x.f3.f4 x.f4 x.f5) (left_ (!false && (formI x && R)) n m) := fun h => by rw [h]; exact J h
  refine Ev.step (fun _ => spec_l6item.j0.eq_2 ..) ?_
  cases b
  case true => exact ev_pos rfl (ev_is (left_f _ _).symm)
  refine ev_neg (by decide) ?_
  by_cases hq : x.f0 = 1
  · refine ev_pos hq (ev_ite (fun h => ev_is (no ?_)) fun ha => ev_ite (fun h => ev_is (no ?_)) fun hb => ?_)
    · unfold formI; rw [if_pos hq, decide_eq_false (by omega)]; rfl
    · unfold formI; rw [if_pos hq, decide_eq_false (by omega)]; rfl
    have hc : decide (0 ≤ x.f2 ∧ x.f2 ≤ 2) = true := decide_eq_true (by omega)
    by_cases h2 : x.f2 = 0
    · refine ev_pos h2 (Ev.bind (l6zero_ev x.f3) (ev_ite (fun hz => ev_ite (fun hl => yes_ ?_) fun hl => ev_is (no ?_)) fun hz => ev_is (no ?_)))
      · unfold formI; rw [if_pos hq, hc, hz, decide_eq_true (show x.f4.length = x.f5.length by omega)]; simp
      · unfold formI; rw [if_pos hq, decide_eq_false (show ¬ x.f4.length = x.f5.length by omega)]; simp
      · rw [Bool.not_eq_true] at hz
        unfold formI; rw [if_pos hq, hz, decide_eq_true h2]; simp
    · refine ev_neg h2 (ev_ite (fun hl => yes_ ?_) fun hl => ev_is (no ?_))
      · unfold formI; rw [if_pos hq, hc, decide_eq_false h2, decide_eq_true (show x.f4.length = x.f5.length by omega)]; rfl
      · unfold formI; rw [if_pos hq, decide_eq_false (show ¬ x.f4.length = x.f5.length by omega)]; simp
  · refine ev_neg hq (ev_ite (fun h2 => Ev.bind (l6zero_ev x.f3) (ev_ite (fun hz => ev_ite (fun hn => ev_is (no ?_)) fun hn => ev_ite (fun hl => yes_ ?_) fun hl => ev_is (no ?_)) fun hz => ev_is (no ?_))) fun h2 => ev_is (no ?_))
    · unfold formI; rw [if_neg hq, decide_eq_false (show ¬ x.f4.length = 0 by omega)]; simp
    · unfold formI; rw [if_neg hq, decide_eq_true h2, hz, decide_eq_true (show x.f4.length = 0 by omega), decide_eq_true (show x.f5.length = 1 by omega)]; rfl
    · unfold formI; rw [if_neg hq, decide_eq_false (show ¬ x.f5.length = 1 by omega)]; simp
    · rw [Bool.not_eq_true] at hz
      unfold formI; rw [if_neg hq, hz]; simp
    · unfold formI; rw [if_neg hq, decide_eq_false h2]; rfl
theorem l6item_ev (hs : SmI x) (m : Int) (h0 : 0 ≤ m) (h1 : m ≤ 150) :
    Ev (fun k => spec_l6item.f k x.f0 x.f1 x.f2 x.f3.f0 x.f3.f1 x.f3.f2 x.f3.f3 x.f3.f4 x.f4 x.f5 m) (left_ (itemG x) (nI x) m) := by
  have J := l6item_j0 x hs m h0 h1
  unfold itemG headI
  generalize (formI x && (byG x && (keysI x && allFormed x.f5 10))) = R at J ⊢
  have J1 : Ev (fun k => spec_l6item.j0 k m true x.f0 x.f1 x.f2 x.f3.f0 x.f3.f1 x.f3.f2 x.f3.f3 x.f3.f4 x.f4 x.f5) (-1) := ev_eq (J true) (left_f _ _)
  unfold spec_l6item.f
  refine ev_ite (fun h => ev_eq J1 ?_) fun ha => ev_ite (fun h => ev_eq J1 ?_) fun hb => ?_
  · rw [decide_eq_false (by omega)]; exact (left_f _ _).symm
  · rw [decide_eq_false (by omega)]; exact (left_f _ _).symm
  have hc : decide (0 ≤ x.f0 ∧ x.f0 ≤ 2) = true := decide_eq_true (by omega)
  have hl := hs.a
  refine Ev.bind (l6free_ev x.f1 hs.b (by omega)) (ev_ite (fun hw => ev_eq (J _) ?_) fun hw => ev_eq J1 ?_)
  · rw [hc, hw, Bool.true_and, Bool.true_and]
    congr 2
    by_cases h6 : x.f5.length ≤ 6
    · rw [decide_eq_true h6, decide_eq_false (by omega)]; rfl
    · rw [decide_eq_false h6, decide_eq_true (by omega)]; rfl
  · rw [Bool.not_eq_true] at hw
    rw [hc, hw]; exact (left_f _ _).symm
end
theorem dup_any (x : S94) (l : List S94) (i j : Nat) (h : j < i) (hi : i < l.length) : ((l.take i).drop j).any (sameB x) = (sameB x l[j] || ((l.take i).drop (j + 1)).any (sameB x)) := by
  have hj : j < (l.take i).length := by rw [List.length_take]; omega
  rw [List.drop_eq_getElem_cons hj, List.any_cons, List.getElem_take]
theorem spec_l1 (l : List S94) (hx : ∀ x ∈ l, SmI x) (hl : l.length ≤ 1048576) (i : Nat) (hi : i < l.length) (m : Int) (R : Bool) (hR : Ev (fun k => spec_ConfigOk.l0 k l m ((i + 1 : Nat) : Int)) R) :
    ∀ (d j : Nat), j + d = i → Ev (fun k => spec_ConfigOk.l1 k l m (i : Int) (j : Int)) (!((l.take i).drop j).any (sameB l[i]) && R) := by
  intro d
  induction d with
  | zero =>
    intro j hj
    refine Ev.step (fun _ => spec_ConfigOk.l1.eq_2 ..) (ev_neg (by omega) ?_)
    rw [w64s i (by omega), List.drop_eq_nil_of_le (by rw [List.length_take]; omega)]
    exact hR
  | succ d ih =>
    intro j hj
    have hji : j < l.length := by omega
    have bi := (hx _ (List.getElem_mem hi)).b
    have bj := (hx _ (List.getElem_mem hji)).b
    have N := ih (j + 1) (by omega)
    rw [dup_any l[i] l i j (by omega) hi]
    refine Ev.step (fun _ => spec_ConfigOk.l1.eq_2 ..) (ev_pos (by omega) (ev_pos (by omega) (ev_pos (by omega) (ev_pos (by omega) (ev_pos (by omega) ?_)))))
    rw [rdI l i hi, rdI l j hji, w64s j (by omega)]
    unfold sameB at N ⊢
    refine ev_ite (fun h => ev_ite (fun h2 => ev_is ?_) fun h2 => ev_eq N ?_) fun h => ev_eq N ?_
    · rw [decide_eq_true h, decide_eq_true ((strs_eq bj bi).1 h2)]; rfl
    · rw [decide_eq_true h, decide_eq_false (fun e => h2 ((strs_eq bj bi).2 e))]; rfl
    · rw [decide_eq_false h]; rfl
theorem spec_l0 (l : List S94) (hx : ∀ x ∈ l, SmI x) (hl : l.length ≤ 1048576) : ∀ (d i : Nat) (m : Int), i + d = l.length → 0 ≤ m → m ≤ 150 → Ev (fun k => spec_ConfigOk.l0 k l m (i : Int)) (restG itemG l d i && decide ((tot l d i : Int) ≤ m)) := by
  intro d
  induction d with
  | zero =>
    intro i m hd h0 h1
    refine Ev.step (fun _ => spec_ConfigOk.l0.eq_2 ..) (ev_neg (by omega) (ev_is ?_))
    rw [restG, tot, decide_eq_true (by omega)]; rfl
  | succ d ih =>
    intro i m hd h0 h1
    have hi : i < l.length := by omega
    refine Ev.step (fun _ => spec_ConfigOk.l0.eq_2 ..) (ev_pos (by omega) (ev_pos (by omega) ?_))
    rw [restG, tot, dupI, rdI l i hi]
    refine Ev.bind (l6item_ev l[i] (hx _ (List.getElem_mem hi)) m h0 h1) ?_
    refine ev_ite (fun h => ev_is ?_) fun h => ?_
    · unfold left_ at h
      by_cases hc : itemG l[i] = true ∧ (nI l[i] : Int) ≤ m
      · rw [if_pos hc] at h; omega
      · by_cases hg : itemG l[i] = true
        · rw [decide_eq_false (show ¬ ((nI l[i] + tot l d (i + 1) : Nat) : Int) ≤ m from fun e => hc ⟨hg, by omega⟩), Bool.and_false]
        · rw [Bool.not_eq_true] at hg
          rw [hg]; rfl
    · have hc : itemG l[i] = true ∧ (nI l[i] : Int) ≤ m := by
        by_cases hc : itemG l[i] = true ∧ (nI l[i] : Int) ≤ m
        · exact hc
        · unfold left_ at h
          rw [if_neg hc] at h
          omega
      have e : left_ (itemG l[i]) (nI l[i]) m = m - nI l[i] := by unfold left_; rw [if_pos hc]
      rw [e, hc.1, Bool.true_and]
      have N := spec_l1 l hx hl i hi (m - nI l[i]) _ (ih (i + 1) (m - nI l[i]) (by omega) (by omega) (by omega)) i 0 (by omega)
      rw [List.drop_zero] at N
      refine ev_eq N ?_
      rw [Bool.and_assoc]
      congr 2
      exact decide_eq_decide.2 (by omega)
theorem spec_ConfigOk_ev (l : List S94) (hx : ∀ x ∈ l, SmI x) (hl : l.length ≤ 1048576) : Ev (fun k => spec_ConfigOk.f k l) (configOk l) := by
  unfold spec_ConfigOk.f configOk
  refine ev_ite (fun h => ev_is ?_) fun h => ev_eq (spec_l0 l hx hl l.length 0 150 (by omega) (by omega) (by omega)) ?_
  · rw [decide_eq_false (by omega)]; rfl
  · rw [decide_eq_true (show l.length ≤ 12 by omega), Bool.true_and]
    congr 1
    exact decide_eq_decide.2 (by omega)
/-! The program. -/
theorem isZeroExpr_ev (v : S31) : Ev (fun _ => impl_isZeroExpr.f v.f0 v.f1 v.f2 v.f3 v.f4) (zE v) := by
  unfold impl_isZeroExpr.f zE
  refine ev_andP fun h0 => ev_andP fun h1 => ?_
  by_cases h2 : v.f2.length = 0
  · refine ev_pos (by omega) ?_
    rw [decide_eq_true h2, Bool.true_and]
    by_cases h3 : v.f3.length = 0
    · refine ev_pos (by omega) ?_
      rw [decide_eq_true h3, Bool.true_and]
      exact ev_is (by rw [beq0])
    · refine ev_neg (by omega) (ev_is ?_)
      rw [decide_eq_false h3, Bool.false_and]
  · refine ev_neg (by omega) (ev_is ?_)
    rw [decide_eq_false h2, Bool.false_and]
theorem idxExprs_l0 (l : List S31) (hl : l.length ≤ 1048576) (hx : ∀ x ∈ l, Ev (fun k => impl_isExpr.f k x.f0 x.f1 x.f2 x.f3 x.f4) (exprOk x)) :
    ∀ (d i : Nat), i + d = l.length → ∃ r : Int, Ev (fun k => x_IndexFunc_at_impl_isItem_1.l0 k l (l.length : Int) (i : Int)) r ∧ decide (r ≥ 0) = !(l.drop i).all exprOk := by
  intro d
  induction d with
  | zero =>
    intro i hd
    refine ⟨-1, Ev.step (fun _ => x_IndexFunc_at_impl_isItem_1.l0.eq_2 ..) (ev_neg (by omega) (Ev.now _)), ?_⟩
    rw [List.drop_eq_nil_of_le (by omega)]; rfl
  | succ d ih =>
    intro i hd
    have hi : i < l.length := by omega
    obtain ⟨r, hr, hd2⟩ := ih (i + 1) (by omega)
    have hs : Ev (fun k => impl_isItem_1.f k l[i].f0 l[i].f1 l[i].f2 l[i].f3 l[i].f4) (!exprOk l[i]) := by
      unfold impl_isItem_1.f
      exact Ev.bind (hx _ (List.getElem_mem hi)) (Ev.now _)
    rw [drop_at l i hi, List.all_cons]
    by_cases h : exprOk l[i] = true
    · refine ⟨r, Ev.step (fun _ => x_IndexFunc_at_impl_isItem_1.l0.eq_2 ..) (ev_pos (by omega) (ev_pos (by omega) (ev_pos (by omega) ?_))), by rw [hd2, h]; rfl⟩
      rw [rdE l i hi, w64s i (by omega)]
      exact Ev.bind hs (ev_neg (by rw [h]; decide) hr)
    · refine ⟨i, Ev.step (fun _ => x_IndexFunc_at_impl_isItem_1.l0.eq_2 ..) (ev_pos (by omega) (ev_pos (by omega) (ev_pos (by omega) ?_))), by simp [h]⟩
      rw [rdE l i hi]
      exact Ev.bind hs (ev_pos (by simp [h]) (Ev.now _))
theorem contExprs_ev (l : List S31) (hl : l.length ≤ 1048576) (hx : ∀ x ∈ l, Ev (fun k => impl_isExpr.f k x.f0 x.f1 x.f2 x.f3 x.f4) (exprOk x)) :
    Ev (fun k => x_ContainsFunc_at_impl_isItem_1.f k l) (!l.all exprOk) := by
  obtain ⟨r, hr, hd⟩ := idxExprs_l0 l hl hx l.length 0 (by omega)
  unfold x_ContainsFunc_at_impl_isItem_1.f
  refine Ev.bind (a := r) ?_ (ev_is ?_)
  · unfold x_IndexFunc_at_impl_isItem_1.f
    exact hr
  · rw [hd, List.drop_zero]
section
variable (x : S94)
theorem isItem_l0 (hs : SmI x) : ∀ (d i : Nat), i + d = x.f4.length →
    Ev (fun k => impl_isItem.l0 k x.f4 (x.f4.length : Int) (i : Int) x.f0 x.f1 x.f2 x.f3.f0 x.f3.f1 x.f3.f2 x.f3.f3 x.f3.f4 x.f4 x.f5) (keysFrom x.f4 d i && (decide (0 ≤ x.f2 ∧ x.f2 ≤ 2) && decide (x.f4.length = x.f5.length))) := by
  intro d
  induction d with
  | zero =>
    intro i hd
    refine Ev.step (fun _ => impl_isItem.l0.eq_2 ..) (ev_neg (by omega) ?_)
    rw [keysFrom, Bool.true_and]
    refine Ev.bind (ev_const (in_eq _ _ _)) (ev_and fun _ => ev_is ?_)
    rw [show ((x.f4.length : Int) == (x.f5.length : Int)) = decide ((x.f4.length : Int) = (x.f5.length : Int)) from rfl]
    exact decide_eq_decide.2 (by omega)
  | succ d ih =>
    intro i hd
    have hi4 : i < x.f4.length := by omega
    have hl := hs.d
    refine Ev.step (fun _ => impl_isItem.l0.eq_2 ..) (ev_pos (by omega) (ev_pos (by omega) (ev_pos (by omega) ?_)))
    rw [rdR x.f4 i hi4, w64s i (by omega), keysFrom]
    have hln := (hs.e _ (List.getElem_mem hi4)).1
    refine Ev.bind (impl_isName_ev _ (by omega)) (ev_ite (fun hnm => ?_) (fun hnm => ev_is ?_))
    · rcases Nat.eq_zero_or_pos i with hz | hz
      · subst hz
        refine ev_neg (by omega) ?_
        rw [keyAt_0 _ hi4, hnm, Bool.true_and]
        exact ih 1 (by omega)
      · refine ev_pos (by omega) ?_
        rw [w64 (by omega) (by omega)]
        refine ev_pos (by omega) (ev_pos (by omega) ?_)
        obtain ⟨j, rfl⟩ : ∃ j, i = j + 1 := ⟨i - 1, by omega⟩
        have e : (((j + 1 : Nat) : Int) - 1) = (j : Int) := by omega
        rw [e, rdR x.f4 j (by omega), keyAt_s _ _ hi4, hnm, Bool.true_and]
        have hr := cmpB_range x.f4[j] x.f4[j + 1]
        refine Ev.bind (ev_const (bytes_Compare_eq _ _ (hs.e _ (List.getElem_mem _)).2 (hs.e _ (List.getElem_mem _)).2)) (ev_ite (fun h => ev_is ?_) (fun h => ?_))
        · rw [decide_eq_false (by omega)]; rfl
        · rw [decide_eq_true (by omega), Bool.true_and]
          exact ih (j + 1 + 1) (by omega)
    · rw [Bool.not_eq_true] at hnm
      have hka : keyAt x.f4 i = false := by unfold keyAt; rw [getDN _ _ _ hi4, hnm]; rfl
      rw [hka]; rfl
def tailI : Bool := keysI x && (if x.f0 = 1 then decide (0 ≤ x.f2 ∧ x.f2 ≤ 2) && decide (x.f4.length = x.f5.length) else decide (x.f5.length = 1) && (decide (x.f4.length = 0) && decide (x.f2 = 0)))
theorem isItem_j1 (hs : SmI x) (b : Bool) : Ev (fun k => impl_isItem.j1 k b x.f0 x.f1 x.f2 x.f3.f0 x.f3.f1 x.f3.f2 x.f3.f3 x.f3.f4 x.f4 x.f5) (!b && tailI x) := by
  refine Ev.step (fun _ => impl_isItem.j1.eq_2 ..) ?_
  cases b
  case true => exact ev_pos rfl (Ev.now _)
  refine ev_neg (by decide) ?_
  unfold tailI keysI
  by_cases hq : x.f0 = 1
  · rw [decide_eq_true hq, if_pos hq]
    exact ev_pos hq (isItem_l0 x hs x.f4.length 0 (by omega))
  · rw [decide_eq_false hq, if_neg hq]
    refine ev_neg hq (ev_ite (fun h => ev_ite (fun h2 => ev_is ?_) fun h2 => ev_is ?_) fun h => ev_is ?_)
    · rw [decide_eq_true (show x.f5.length = 1 by omega), decide_eq_true (show x.f4.length = 0 by omega), beqI]; rfl
    · rw [decide_eq_false (show ¬ x.f4.length = 0 by omega)]; simp
    · rw [decide_eq_false (show ¬ x.f5.length = 1 by omega)]; simp
theorem isItem_j0 (hs : SmI x) (b : Bool) : Ev (fun k => impl_isItem.j0 k b x.f0 x.f1 x.f2 x.f3.f0 x.f3.f1 x.f3.f2 x.f3.f3 x.f3.f4 x.f4 x.f5) (!b && (((!decide (x.f2 = 0) || zE x.f3) && exprOk x.f3) && tailI x)) := by
  have hc := hs.cn
  have X := isExpr_ev x.f3 hs.c (by omega)
  refine Ev.step (fun _ => impl_isItem.j0.eq_2 ..) ?_
  cases b
  case true => exact ev_pos rfl (Ev.now _)
  refine ev_neg (by decide) ?_
  by_cases h2 : x.f2 = 0
  · rw [decide_eq_true h2]
    refine ev_pos h2 (Ev.bind (isZeroExpr_ev x.f3) (ev_ite (fun hz => Ev.bind X (ev_eq (isItem_j1 x hs _) ?_)) fun hz => ev_eq (isItem_j1 x hs true) ?_))
    · rw [hz, Bool.not_not]; cases exprOk x.f3 <;> rfl
    · rw [Bool.not_eq_true] at hz
      rw [hz]; rfl
  · rw [decide_eq_false h2]
    refine ev_neg h2 (Ev.bind X (ev_eq (isItem_j1 x hs _) ?_))
    rw [Bool.not_not]; cases exprOk x.f3 <;> rfl
theorem isItem_ev (hs : SmI x) : Ev (fun k => impl_isItem.f k x.f0 x.f1 x.f2 x.f3.f0 x.f3.f1 x.f3.f2 x.f3.f3 x.f3.f4 x.f4 x.f5) (itemI x) := by
  have J := isItem_j0 x hs
  have J1 : Ev (fun k => impl_isItem.j0 k true x.f0 x.f1 x.f2 x.f3.f0 x.f3.f1 x.f3.f2 x.f3.f3 x.f3.f4 x.f4 x.f5) false := J true
  have hl := hs.a
  have hf := hs.f
  have hn := hs.gn
  have e : itemI x = (headI x && (x.f5.all exprOk && (((!decide (x.f2 = 0) || zE x.f3) && exprOk x.f3) && tailI x))) := rfl
  rw [e]
  generalize (((!decide (x.f2 = 0) || zE x.f3) && exprOk x.f3) && tailI x) = R at J ⊢
  unfold impl_isItem.f headI
  refine Ev.bind (ev_const (in_eq _ _ _)) (ev_ite (fun hc => ?_) fun hc => ev_eq J1 ?_)
  · rw [hc, Bool.true_and]
    refine Ev.bind (isWord_ev x.f1 hs.b (by omega)) (ev_ite (fun hw => ?_) fun hw => ev_eq J1 ?_)
    · rw [hw, Bool.true_and]
      refine ev_ite (fun h => ev_eq J1 ?_) fun h => ?_
      · rw [decide_eq_false (by omega)]; rfl
      · rw [decide_eq_true (show x.f5.length ≤ 6 by omega), Bool.true_and]
        refine Ev.bind (contExprs_ev x.f5 hf fun y hy => isExpr_ev y (hs.g y hy) (by have := nEs_mem hy; omega)) (ev_eq (J _) ?_)
        rw [Bool.not_not]
    · rw [Bool.not_eq_true] at hw
      rw [hw]; rfl
  · rw [Bool.not_eq_true] at hc
    rw [hc]; rfl
end
theorem hasI_ev (x : S94) (hb : By x.f1) : ∀ l : List S94, (∀ y ∈ l, By y.f1) → hasI x l = some (l.any (sameB x))
  | [], _ => rfl
  | o :: l, h => by
    have ih := hasI_ev x hb l fun y hy => h y (List.mem_cons_of_mem _ hy)
    have ho := h o List.mem_cons_self
    rw [hasI, List.any_cons]
    have e : sameI x o = some (sameB x o) := by
      unfold sameI sameB
      by_cases hq : o.f0 = x.f0
      · rw [if_pos hq, decide_eq_true hq, bytes_Equal_eq _ _ ho hb, Bool.true_and]
      · rw [if_neg hq, decide_eq_false hq, Bool.false_and]
    rw [e, Option.bind_some]
    cases sameB x o
    · rw [if_neg (by decide), ih, Bool.false_or]
    · rw [if_pos rfl, Bool.true_or]
theorem parts_p (es : List S31) (hx : ∀ e ∈ es, SmE e) (hn : nEs es ≤ 1048576) : ∀ (d j : Nat) (t : Nat), j + d = es.length → t + nEs (es.drop j) ≤ 4611686018427387903 → Ev (fun k => impl_isConfig.p k es ((t : Nat) : Int) j) ((t + nEs (es.drop j) : Nat) : Int) := by
  intro d
  induction d with
  | zero =>
    intro j t hd ht
    refine Ev.step (fun _ => impl_isConfig.p.eq_2 ..) (ev_neg (by omega) (ev_is ?_))
    rw [List.drop_eq_nil_of_le (by omega), nEs, Nat.add_zero]
  | succ d ih =>
    intro j t hd ht
    have hj : j < es.length := by omega
    have hm := nEs_mem (List.getElem_mem hj)
    rw [drop_at es j hj, nEs] at ht ⊢
    refine Ev.step (fun _ => impl_isConfig.p.eq_2 ..) (ev_pos hj ?_)
    rw [rdE es j hj]
    refine Ev.bind (partsE_ev es[j] (hx _ (List.getElem_mem hj)) (by omega)) ?_
    rw [w64 (by omega) (by omega), ← Int.natCast_add, ← Nat.add_assoc]
    exact ih (j + 1) (t + nE es[j]) (by omega) (by omega)
theorem config_q (x : S94) (hs : SmI x) (t : Nat) (ht : t ≤ 1000000000000) : Ev (fun k => impl_isConfig.q k x (t : Int)) ((t + nI x : Nat) : Int) := by
  have hc := hs.cn
  have hg := hs.gn
  unfold impl_isConfig.q nI
  refine Ev.bind (parts_p x.f5 hs.g hg x.f5.length 0 t (by omega) (by rw [List.drop_zero]; omega)) ?_
  rw [List.drop_zero]
  by_cases h2 : x.f2 = 0
  · rw [if_pos h2]
    exact ev_pos h2 (ev_is (by omega))
  · rw [if_neg h2]
    refine ev_neg h2 (Ev.bind (partsE_ev x.f3 hs.c (by omega)) (ev_is ?_))
    rw [w64 (by omega) (by omega)]; omega
theorem config_r (l : List S94) (hx : ∀ x ∈ l, SmI x) (hl : l.length ≤ 12) : ∀ (d i t : Nat), i + d = l.length → t ≤ i * 2097153 → Ev (fun k => impl_isConfig.r k l (t : Int) i) (restG itemI l d i && decide (t + tot l d i ≤ 150)) := by
  intro d
  induction d with
  | zero =>
    intro i t hd ht
    refine Ev.step (fun _ => impl_isConfig.r.eq_2 ..) (ev_neg (by omega) (ev_is ?_))
    rw [restG, tot, Bool.true_and]
    exact decide_eq_decide.2 (by omega)
  | succ d ih =>
    intro i t hd ht
    have hi : i < l.length := by omega
    have hs := hx _ (List.getElem_mem hi)
    have hc := hs.cn
    have hg := hs.gn
    have hN : nI l[i] ≤ 2097153 := by unfold nI; split <;> omega
    refine Ev.step (fun _ => impl_isConfig.r.eq_2 ..) (ev_pos hi ?_)
    rw [restG, tot, dupI, rdI l i hi]
    refine Ev.bind (isItem_ev l[i] hs) (Ev.bind (ev_const (hasI_ev l[i] hs.b (l.take i) fun y hy => (hx y (List.mem_of_mem_take hy)).b)) ?_)
    refine ev_ite (fun h => ev_is ?_) fun h => Ev.bind (config_q l[i] hs t (by omega)) (ev_eq (ih (i + 1) (t + nI l[i]) (by omega) (by omega)) ?_)
    · revert h
      generalize (l.take i).any (sameB l[i]) = D
      cases itemI l[i] <;> cases D <;> intro h
      · rfl
      · rfl
      · cases h
      · rfl
    · revert h
      generalize (l.take i).any (sameB l[i]) = D
      cases itemI l[i] <;> cases D <;> intro h
      · exact absurd rfl h
      · exact absurd rfl h
      · rw [Nat.add_assoc]; rfl
      · exact absurd rfl h
theorem isConfig_ev (l : List S94) (hx : ∀ x ∈ l, SmI x) : Ev (fun k => impl_isConfig.f k l) (configOk l) := by
  unfold impl_isConfig.f configOk
  refine ev_ite (fun h => ev_is ?_) fun h => ev_eq (config_r l hx (by omega) l.length 0 0 (by omega) (by omega)) ?_
  · rw [decide_eq_false (by omega)]; rfl
  · rw [decide_eq_true (show l.length ≤ 12 by omega), Bool.true_and, Nat.zero_add]
    by_cases ht : tot l l.length 0 ≤ 150
    · rw [rest_eq l l.length 0 ht]
    · rw [decide_eq_false ht, Bool.and_false, Bool.and_false]
/-! The arguments. -/
theorem toItem_ev (x : S91) (h : SmI (toI x)) : Ev (fun k => laws_toItem.f k x.f0 x.f1 x.f2 x.f3.f0 x.f3.f1 x.f3.f2 x.f3.f3 x.f3.f4 x.f4 x.f5) (x.f0, x.f1, x.f2, (toE x.f3).f0, (toE x.f3).f1, (toE x.f3).f2, (toE x.f3).f3, (toE x.f3).f4, x.f4, x.f5.map toE) := by
  have ha : x.f1.length ≤ 1048576 := h.a
  have hf : (x.f5.map toE).length ≤ 1048576 := h.f
  rw [List.length_map] at hf
  unfold laws_toItem.f
  refine Ev.bind (toByteS_ev x.f1 (by omega)) (Ev.bind (toExpr_ev x.f3 h.c) (Ev.bind (toByteSS_ev x.f4 h.d fun y hy => (h.e y hy).1) (Ev.bind (a := x.f5.map toE) ?_ (Ev.now _))))
  refine Ev.step (fun _ => laws_toExprS.f.eq_2 ..) (ev_pos (by omega) (ev_pos (by omega) ?_))
  exact toExprS_l0 x.f5 hf (fun y hy => toExpr_ev y (h.g _ (List.mem_map_of_mem hy))) x.f5.length 0 _ (by omega) (by simp) (by simp)
theorem toItem_g (x : S91) (h : SmI (toI x)) : Ev (fun k => laws_toItem.g k x) (toI x) := by
  unfold laws_toItem.g
  refine Ev.bind (toItem_ev x h) (ev_is ?_)
  unfold toI
  generalize toE x.f3 = y
  cases y
  rfl
theorem toItemS_r (l : List S91) (hx : ∀ x ∈ l, SmI (toI x)) : ∀ (d i : Nat) (out : List S94), i + d = l.length → out.length = l.length → out.take i = (l.map toI).take i → Ev (fun k => laws_toItemS.r k l out i) (l.map toI) := by
  intro d
  induction d with
  | zero =>
    intro i out hd ho ht
    refine Ev.step (fun _ => laws_toItemS.r.eq_2 ..) (ev_neg (by omega) (ev_is ?_))
    rwa [List.take_of_length_le (by omega), List.take_of_length_le (by rw [List.length_map]; omega)] at ht
  | succ d ih =>
    intro i out hd ho ht
    have hi : i < l.length := by omega
    refine Ev.step (fun _ => laws_toItemS.r.eq_2 ..) (ev_pos hi ?_)
    rw [rdLI l i hi]
    refine Ev.bind (toItem_g _ (hx _ (List.getElem_mem hi))) ?_
    refine ih (i + 1) _ (by omega) (by rw [List.length_set]; exact ho) ?_
    rw [List.take_succ_eq_append_getElem (by rw [List.length_set]; omega), List.take_succ_eq_append_getElem (by rw [List.length_map]; omega), List.take_set_of_le (by omega), ht, List.getElem_set_self, List.getElem_map]
theorem toItemS_ev (l : List S91) (hl : l.length ≤ 1048576) (hx : ∀ x ∈ l, SmI (toI x)) : Ev (fun k => laws_toItemS.f k l) (l.map toI) := by
  unfold laws_toItemS.f
  exact ev_pos hl (toItemS_r l hx l.length 0 _ (by omega) (by simp) (by simp))
theorem eqItem_ev (x : S94) (h : SmI x) : Ev (fun k => laws_eqItem.g k x x) true := by
  have ha := h.a
  have hf := h.f
  unfold laws_eqItem.g
  refine Ev.bind (eqByteS_ev x.f1 (by omega)) (Ev.bind (eqExpr_ev x.f3 h.c) (Ev.bind (eqByteSS_ev x.f4 h.d fun y hy => (h.e y hy).1) (Ev.bind (a := true) ?_ (ev_pos ⟨rfl, rfl, rfl, rfl, rfl, rfl⟩ (Ev.now _)))))
  refine Ev.step (fun _ => laws_eqExprS.f.eq_2 ..) (ev_pos rfl ?_)
  exact eqExprS_l0 x.f5 hf (fun y hy => eqExpr_ev y (h.g y hy)) x.f5.length 0 (by omega)
theorem eqItemS_r (l : List S94) (hx : ∀ x ∈ l, SmI x) : ∀ (d i : Nat), i + d = l.length → Ev (fun k => laws_eqItemS.r k l l i) true := by
  intro d
  induction d with
  | zero =>
    intro i hd
    exact Ev.step (fun _ => laws_eqItemS.r.eq_2 ..) (ev_neg (by omega) (Ev.now _))
  | succ d ih =>
    intro i hd
    have hi : i < l.length := by omega
    refine Ev.step (fun _ => laws_eqItemS.r.eq_2 ..) (ev_pos hi ?_)
    rw [rdI l i hi]
    exact Ev.bind (eqItem_ev _ (hx _ (List.getElem_mem hi))) (ev_pos rfl (ih (i + 1) (by omega)))
theorem eqItemS_ev (l : List S94) (hx : ∀ x ∈ l, SmI x) : Ev (fun k => laws_eqItemS.f k l l) true := by
  unfold laws_eqItemS.f
  exact ev_pos rfl (eqItemS_r l hx l.length 0 (by omega))
theorem szItem_ev (x : S91) (hw : WfItem x) (a : Int) (h0 : 0 ≤ a) (h1 : a ≤ 1048576) : Ev (fun k => laws_szItem.f k x.f0 x.f1 x.f2 x.f3.f0 x.f3.f1 x.f3.f2 x.f3.f3 x.f3.f4 x.f4 x.f5 a) (sub a (szI x)) := by
  unfold laws_szItem.f szI
  refine Ev.bind (ev_const (szByteS_eq x.f1 a h0 h1 hw.a)) ?_
  have hr := sub_range x.f1.length h0
  by_cases h : sub a x.f1.length < 0
  · refine ev_pos h (ev_is ?_)
    exact ((sub_neg h h0).2 _).symm
  · refine ev_neg h ?_
    rw [← sub_sub h]
    generalize sub a x.f1.length = b at h hr ⊢
    refine Ev.bind (szExpr_ev x.f3 hw.c b (by omega) (by omega)) ?_
    have hr2 := sub_range (a := b) (szE x.f3) (by omega)
    by_cases h2 : sub b (szE x.f3) < 0
    · refine ev_pos h2 (ev_is ?_)
      exact ((sub_neg h2 (by omega)).2 _).symm
    · refine ev_neg h2 ?_
      rw [← sub_sub h2]
      generalize sub b (szE x.f3) = c at h2 hr2 ⊢
      refine Ev.bind (szByteSS_ev x.f4 c hw.d (fun y hy => (hw.e y hy).1) (by omega) (by omega)) ?_
      have hr3 := sub_range (a := c) (x.f4.length + szL x.f4) (by omega)
      by_cases h3 : sub c (x.f4.length + szL x.f4) < 0
      · refine ev_pos h3 (ev_is ?_)
        exact ((sub_neg h3 (by omega)).2 _).symm
      · refine ev_neg h3 ?_
        rw [← sub_sub h3]
        generalize sub c (x.f4.length + szL x.f4) = d at h3 hr3 ⊢
        refine Ev.bind (szExprS_ev x.f5 hw.f (fun y hy => szExpr_ev y (hw.g y hy)) d (by omega) (by omega)) ?_
        by_cases h4 : sub d (x.f5.length + szEs x.f5) < 0
        · refine ev_pos h4 (ev_is ?_)
          exact (sub_neg h4 (by omega)).1.symm
        · exact ev_neg h4 (Ev.now _)
theorem szItemS_l0 (l : List S91) (hw : WfItems l) : ∀ (d i : Nat) (a : Int), i + d = l.length → 0 ≤ a → a ≤ 1048576 → Ev (fun k => laws_szItemS.l0 k l a (i : Int)) (sub a (szIs (l.drop i))) := by
  intro d
  induction d with
  | zero =>
    intro i a hd h0 h1
    refine Ev.step (fun _ => laws_szItemS.l0.eq_2 ..) (ev_neg (by omega) (ev_is ?_))
    rw [List.drop_eq_nil_of_le (by omega)]
    exact (sub_zero h0).symm
  | succ d ih =>
    intro i a hd h0 h1
    have hi : i < l.length := by omega
    refine Ev.step (fun _ => laws_szItemS.l0.eq_2 ..) (ev_pos (by omega) (ev_pos (by omega) ?_))
    rw [rdLI l i hi, drop_at l i hi, szIs]
    refine Ev.bind (szItem_ev l[i] (hw.2 _ (List.getElem_mem hi)) a h0 h1) ?_
    rw [w64s i (by have := hw.1; omega)]
    have hr := sub_range (szI l[i]) h0
    by_cases h : sub a (szI l[i]) < 0
    · refine ev_pos h (ev_is ?_)
      exact ((sub_neg h h0).2 _).symm
    · refine ev_neg h (ev_eq (ih (i + 1) _ (by omega) (by omega) (by omega)) ?_)
      exact sub_sub h
theorem szItemS_ev (l : List S91) (hw : WfItems l) (a : Int) (h0 : 0 ≤ a) (h1 : a ≤ 1048576) : Ev (fun k => laws_szItemS.f k l a) (sub a (l.length + szIs l)) := by
  unfold laws_szItemS.f
  have hl := hw.1
  rw [w64 (x := a - (l.length : Int)) (by omega) (by omega)]
  by_cases h : a - (l.length : Int) < 0
  · refine ev_pos h (ev_is ?_)
    unfold sub; rw [if_neg (by omega)]
  · refine ev_neg h (ev_eq (szItemS_l0 l hw l.length 0 _ (by omega) (by omega) (by omega)) ?_)
    have e : sub a l.length = a - l.length := by unfold sub; rw [if_pos (by omega)]
    rw [← e, List.drop_zero]
    exact sub_sub (by omega)
theorem FnExactConfigOk (l0 : List S91) (hw : WfItems l0) : ∃ k, laws_FnExactConfigOk.f k l0 = some true := by
  refine Ev.rounds (g := fun k => laws_FnExactConfigOk.f k l0) ?_
  unfold laws_FnExactConfigOk.f
  refine Ev.bind (szItemS_ev l0 hw 1048576 (by omega) (by omega)) ?_
  refine ev_ite (fun _ => Ev.now _) fun h => ?_
  have hs := (sub_pos h).1
  have hz : ∀ x ∈ l0, SmI (toI x) := fun x m => smI_of (hw.2 x m) (by have := szIs_mem m; omega)
  have hx : ∀ x ∈ l0.map toI, SmI x := fun x m => by
    obtain ⟨y, hy, rfl⟩ := List.mem_map.1 m
    exact hz y hy
  have hl : (l0.map toI).length ≤ 1048576 := by rw [List.length_map]; omega
  refine Ev.bind (toItemS_ev l0 (by omega) hz) ?_
  refine Ev.bind (spec_ConfigOk_ev _ hx hl) ?_
  refine Ev.bind (ev_ret (isConfig_ev _ hx)) ?_
  refine ev_pos rfl ?_
  refine Ev.bind (eqItemS_ev _ hx) ?_
  exact ev_pos rfl (Ev.now _)
end Go.Proofs.Ytockllljeeakaaa.Pure
