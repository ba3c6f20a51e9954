/- What the pure statements of this seat rest on: runs with enough rounds, rows of bytes, and the wrap of small numbers. No condition. -/
import Derived.Test.YtenpjddjmhjdoaaVMore
import Derived.Test.YtenpjddjmhjdoaaVLast
set_option linter.unusedVariables false
namespace Go.Proofs.Ytenpjddjmhjdoaa.M
open Go.RowKit Go.Proofs.YtenpjddjmhjdoaaW.PrintWords Go.Proofs.YtenpjddjmhjdoaaW.PrintLast Go.Proofs.YtenpjddjmhjdoaaW.PrintMore

theorem ev_const {α : Type} {o : Option α} {r : α} (h : o = some r) : Ev (fun _ => o) r := ⟨0, fun _ _ => h⟩
theorem ev_eq {α : Type} {g : Nat → Option α} {r r' : α} (h : Ev g r) (e : r = r') : Ev g r' := e ▸ h
theorem ev_pos {α : Type} {c : Prop} [Decidable c] {g f : Nat → Option α} {r : α} (h : c) (k : Ev g r) : Ev (fun n => if c then g n else f n) r := by
  obtain ⟨K, k⟩ := k
  exact ⟨K, fun n hn => by simp only [if_pos h]; exact k n hn⟩
theorem ev_neg {α : Type} {c : Prop} [Decidable c] {g f : Nat → Option α} {r : α} (h : ¬ c) (k : Ev f r) : Ev (fun n => if c then g n else f n) r := by
  obtain ⟨K, k⟩ := k
  exact ⟨K, fun n hn => by simp only [if_neg h]; exact k n hn⟩
theorem ev_ite {α : Type} {c : Prop} [Decidable c] {g f : Nat → Option α} {r : α} (h1 : c → Ev g r) (h2 : ¬ c → Ev f r) : Ev (fun n => if c then g n else f n) r := by
  by_cases h : c
  · exact ev_pos h (h1 h)
  · exact ev_neg h (h2 h)
theorem ev_is {α : Type} {r r' : α} (e : r = r') : Ev (fun _ => some r) r' := e ▸ Ev.now _
/-- Behind a value that is there. -/
theorem ev_some {α β : Type} {f : Nat → α → Option β} {a : α} {r : β} (k : Ev (fun n => f n a) r) : Ev (fun n => (some a).bind (f n)) r := Ev.bind (Ev.now a) k
theorem ev_ret {α : Type} {g : Nat → Option α} {r : α} (h : Ev g r) : Ev (fun n => (g n).bind fun t => some t) r := Ev.bind h (Ev.now _)
/-- A run tells one answer. -/
theorem ev_unique {α : Type} {g : Nat → Option α} {r r' : α} (h : Ev g r) (h' : Ev g r') : r = r' := by
  obtain ⟨K, h⟩ := h
  obtain ⟨K', h'⟩ := h'
  have e := (h (max K K') (by omega)).symm.trans (h' (max K K') (by omega))
  injection e

theorem w64 {x : Int} (h0 : -9223372036854775808 ≤ x) (h1 : x ≤ 9223372036854775807) : wrap64 x = x := by unfold wrap64; omega
theorem w64s (i : Nat) (h : i < 9223372036854775807) : wrap64 ((i : Int) + 1) = ((i + 1 : Nat) : Int) := by unfold wrap64; omega

theorem getDI {α : Type} (xs : List α) (d : α) (i : Nat) (h : i < xs.length) : xs.getD (i : Int).toNat d = xs[i] := by
  simp [List.getD_eq_getElem?_getD, h]
theorem drop_at {α : Type} (xs : List α) (i : Nat) (h : i < xs.length) : xs.drop i = xs[i] :: xs.drop (i + 1) := List.drop_eq_getElem_cons h
/-- What is left of a room when something is taken from it; -1: it doesn't suffice. -/
def sub (a : Int) (n : Nat) : Int := if (n : Int) ≤ a then a - n else -1
theorem sub_sub {a : Int} {n m : Nat} (h : ¬ sub a n < 0) : sub (sub a n) m = sub a (n + m) := by
  unfold sub at *
  split at h
  · rename_i h1
    rw [if_pos h1]
    by_cases h2 : (m : Int) ≤ a - n
    · rw [if_pos h2, if_pos (by omega)]; omega
    · rw [if_neg h2, if_neg (by omega)]
  · omega
theorem sub_neg {a : Int} {n : Nat} (h : sub a n < 0) (ha : 0 ≤ a) : sub a n = -1 ∧ ∀ m, sub a (n + m) = -1 := by
  unfold sub at *
  split at h
  · omega
  · rename_i h1
    rw [if_neg h1]
    exact ⟨rfl, fun m => by rw [if_neg (by omega)]⟩
theorem sub_pos {a : Int} {n : Nat} (h : ¬ sub a n < 0) : (n : Int) ≤ a ∧ sub a n = a - n := by
  unfold sub at *
  split at h
  · rename_i h1; exact ⟨h1, by rw [if_pos h1]⟩
  · omega
theorem sub_zero {a : Int} (h : 0 ≤ a) : sub a 0 = a := by unfold sub; rw [if_pos (by omega)]; omega
theorem sub_range {a : Int} (n : Nat) (h : 0 ≤ a) : -1 ≤ sub a n ∧ sub a n ≤ a := by unfold sub; split <;> omega
def By (l : List Int) : Prop := ∀ x ∈ l, 0 ≤ x ∧ x ≤ 255
theorem By_of {l : List Int} (h : ∀ x ∈ l, (Lit.int .u8 x).wf = true) : By l := by
  intro x hx
  have := h x hx
  simp only [Lit.wf, Bool.and_eq_true, decide_eq_true_eq] at this
  exact ⟨this.1, this.2⟩
theorem i64_of {x : Int} (h : (Lit.int .i64 x).wf = true) : -9223372036854775808 ≤ x ∧ x ≤ 9223372036854775807 := by
  simp only [Lit.wf, Bool.and_eq_true, decide_eq_true_eq] at h
  exact ⟨h.1, h.2⟩
theorem By_nil : By [] := fun _ h => by cases h
theorem By_append {a b : List Int} (ha : By a) (hb : By b) : By (a ++ b) := fun x hx => by
  rcases List.mem_append.1 hx with h | h
  · exact ha x h
  · exact hb x h
theorem By_take {a : List Int} (n : Nat) (ha : By a) : By (a.take n) := fun x hx => ha x (List.mem_of_mem_take hx)
theorem By_drop {a : List Int} (n : Nat) (ha : By a) : By (a.drop n) := fun x hx => ha x (List.mem_of_mem_drop hx)
theorem By_single {x : Int} (h0 : 0 ≤ x) (h1 : x ≤ 255) : By [x] := fun y hy => by
  rw [List.mem_singleton] at hy; subst hy; exact ⟨h0, h1⟩
theorem By_cons {x : Int} {l : List Int} : By (x :: l) ↔ (0 ≤ x ∧ x ≤ 255) ∧ By l := by
  unfold By; simp

theorem rd_nat (l : List Int) (i : Nat) (h : i < l.length) : rd l (i : Int) = l[i] := by
  unfold rd; simp [List.getD_eq_getElem?_getD, h]
theorem rd_By {l : List Int} (hb : By l) (i : Int) : 0 ≤ rd l i ∧ rd l i ≤ 255 := by
  unfold rd
  rw [List.getD_eq_getElem?_getD]
  cases h : l[i.toNat]? with
  | none => simp
  | some x => exact hb x (List.mem_of_getElem? h)
theorem take_succ_rd (l : List Int) (i : Nat) (h : i < l.length) : l.take (i + 1) = l.take i ++ [rd l (i : Int)] := by
  rw [rd_nat l i h, List.take_succ_eq_append_getElem h]
theorem drop_rd (l : List Int) (i : Nat) (h : i < l.length) : l.drop i = rd l (i : Int) :: l.drop (i + 1) := by
  rw [rd_nat l i h, List.drop_eq_getElem_cons h]

/-- The letters of a row of bytes are the row's own. -/
theorem str_inj {a b : List Int} (ha : By a) (hb : By b) : ((strOfNums a).toList == (strOfNums b).toList) = decide (a = b) := by
  rw [ByteArray.toList_eq, ByteArray.toList_eq, strOfNums_data, strOfNums_data]
  have back : ∀ l : List Int, By l → (l.map fun n => UInt8.ofNat n.toNat).map (fun u : UInt8 => (u.toNat : Int)) = l := by
    intro l hl
    rw [List.map_map]
    conv => rhs; rw [← List.map_id l]
    refine List.map_congr_left fun x hx => ?_
    have := hl x hx
    simp; omega
  by_cases h : a = b
  · subst h; simp
  · rw [decide_eq_false h, beq_eq_false_iff_ne]
    intro e
    exact h (by rw [← back a ha, ← back b hb, e])

/-- What mark leaves in a row. -/
def markL (n : Nat) (a : Int) : List Int := (List.range n).map fun (i : Nat) => (a + (i : Int)) % 256
theorem markL_length (n : Nat) (a : Int) : (markL n a).length = n := by simp [markL]
theorem rd_markL (n : Nat) (a : Int) (i : Nat) (h : i < n) : rd (markL n a) (i : Int) = (a + (i : Int)) % 256 := by
  rw [rd_nat _ _ (by rw [markL_length]; exact h)]; simp [markL]
end Go.Proofs.Ytenpjddjmhjdoaa.M
