/- The pure statement of FnExactPutText: both write the same bytes, in memory of their own. No condition. -/
import Derived.Test.YtakpbfpdmkjccaaPFnExactPutTextx2
import Derived.Test.YtakpbfpdmkjccaaMcore
import Derived.Test.YtakpbfpdmkjccaaMnum
namespace Go.Proofs.Ytakpbfpdmkjccaa.Pure
open Go.RowKit Go.Proofs.Ytakpbfpdmkjccaa.PFnExactPutText Go.Proofs.YtakpbfpdmkjccaaW.PrintWords Go.Proofs.YtakpbfpdmkjccaaW.PrintLast Go.Proofs.YtakpbfpdmkjccaaW.PrintMore Go.Proofs.Ytakpbfpdmkjccaa.M
set_option linter.unusedVariables false
set_option linter.unusedSimpArgs false
/-! laws_toByteS -/
theorem toByteS_l0 (l : List Int) (hl : l.length ≤ 4611686018427387903) : ∀ (d i : Nat) (out : List Int), i + d = l.length → out.length = l.length → out.take i = l.take i → Ev (fun k => laws_toByteS.l0 k l out i) l := by
  intro d
  induction d with
  | zero =>
    intro i out hd ho ht
    refine Ev.step (fun _ => laws_toByteS.l0.eq_2 ..) ?_
    refine ev_neg (by omega) ?_
    refine ev_is ?_
    rwa [List.take_of_length_le (by omega), List.take_of_length_le (by omega)] at ht
  | succ d ih =>
    intro i out hd ho ht
    refine Ev.step (fun _ => laws_toByteS.l0.eq_2 ..) ?_
    refine ev_pos (by omega) ?_
    refine ev_pos (by omega) ?_
    refine ev_pos (by omega) ?_
    rw [w64s i (by omega), Int.toNat_natCast]
    refine ih (i + 1) _ (by omega) (by rw [List.length_set]; exact ho) ?_
    rw [List.take_succ_eq_append_getElem (by rw [List.length_set]; omega), List.take_succ_eq_append_getElem (by omega), List.take_set_of_le (by omega), ht, List.getElem_set_self, rd_nat _ _ (by omega)]
theorem toByteS_ev (l : List Int) (hl : l.length ≤ 281474976710656) : Ev (fun k => laws_toByteS.f k l) l := by
  unfold laws_toByteS.f
  refine ev_pos (by omega) ?_
  refine ev_pos (by omega) ?_
  exact toByteS_l0 l (by omega) l.length 0 _ (by omega) (by simp) (by simp)
/-! laws_eqByteS -/
theorem eqByteS_l0 (l : List Int) (hl : l.length ≤ 4611686018427387903) : ∀ (d i : Nat), i + d = l.length → Ev (fun k => laws_eqByteS.l0 k l l i) true := by
  intro d
  induction d with
  | zero =>
    intro i hd
    refine Ev.step (fun _ => laws_eqByteS.l0.eq_2 ..) ?_
    exact ev_neg (by omega) (Ev.now _)
  | succ d ih =>
    intro i hd
    refine Ev.step (fun _ => laws_eqByteS.l0.eq_2 ..) ?_
    refine ev_pos (by omega) (ev_pos (by omega) (ev_pos (by omega) (ev_pos rfl ?_)))
    rw [w64s i (by omega)]
    exact ih (i + 1) (by omega)
theorem eqByteS_ev (l : List Int) (hl : l.length ≤ 281474976710656) : Ev (fun k => laws_eqByteS.f k l l) true := by
  unfold laws_eqByteS.f
  exact ev_pos rfl (eqByteS_l0 l (by omega) l.length 0 (by omega))
/-! laws_markByteS -/
theorem markByteS_l0 (n : Nat) (a : Int) (hn : n ≤ 281474976710656) (h0 : 0 ≤ a) (h1 : a ≤ 281474976710656) : ∀ (d i : Nat) (l : List Int), i + d = n → l.length = n → l.take i = (markL n a).take i →
    Ev (fun k => laws_markByteS.l0 k l (a + (i : Int)) i) (a + (n : Int), markL n a) := by
  intro d
  induction d with
  | zero =>
    intro i l hd hl ht
    refine Ev.step (fun _ => laws_markByteS.l0.eq_2 ..) ?_
    refine ev_neg (by omega) ?_
    refine ev_is ?_
    rw [List.take_of_length_le (by omega), List.take_of_length_le (by rw [markL_length]; omega)] at ht
    rw [ht, show (i : Int) = n by omega]
  | succ d ih =>
    intro i l hd hl ht
    refine Ev.step (fun _ => laws_markByteS.l0.eq_2 ..) ?_
    refine ev_pos (by omega) (ev_pos (by omega) ?_)
    rw [w64s i (by omega), Int.toNat_natCast, w64 (x := a + (i : Int) + 1) (by omega) (by omega), show a + (i : Int) + 1 = a + ((i + 1 : Nat) : Int) by omega]
    refine ih (i + 1) _ (by omega) (by rw [List.length_set]; exact hl) ?_
    have e := rd_markL n a i (by omega)
    rw [take_succ_rd (markL n a) i (by rw [markL_length]; omega), e, List.take_succ_eq_append_getElem (by rw [List.length_set]; omega), List.take_set_of_le (by omega), ht, List.getElem_set_self]
theorem markByteS_ev (l : List Int) (a : Int) (hl : l.length ≤ 281474976710656) (h0 : 0 ≤ a) (h1 : a ≤ 281474976710656) : Ev (fun k => laws_markByteS.f k l a) (a + (l.length : Int), markL l.length a) := by
  unfold laws_markByteS.f
  have := markByteS_l0 l.length a hl h0 h1 l.length 0 l (by omega) rfl (by simp)
  simpa using this
/-! laws_heldByteS -/
theorem heldByteS_l0 (n : Nat) (a : Int) (hn : n ≤ 281474976710656) (h0 : 0 ≤ a) (h1 : a ≤ 281474976710656) : ∀ (d i : Nat), i + d = n →
    Ev (fun k => laws_heldByteS.l0 k (markL n a) (a + (i : Int)) i) (a + (n : Int)) := by
  intro d
  induction d with
  | zero =>
    intro i hd
    refine Ev.step (fun _ => laws_heldByteS.l0.eq_2 ..) ?_
    refine ev_neg (by rw [markL_length]; omega) ?_
    refine ev_is ?_
    rw [show (i : Int) = n by omega]
  | succ d ih =>
    intro i hd
    refine Ev.step (fun _ => laws_heldByteS.l0.eq_2 ..) ?_
    refine ev_pos (by rw [markL_length]; omega) (ev_pos (by omega) (ev_pos (rd_markL n a i (by omega)) ?_))
    rw [w64s i (by omega), w64 (x := a + (i : Int) + 1) (by omega) (by omega), show a + (i : Int) + 1 = a + ((i + 1 : Nat) : Int) by omega]
    exact ih (i + 1) (by omega)
theorem heldByteS_ev (n : Nat) (a : Int) (hn : n ≤ 281474976710656) (h0 : 0 ≤ a) (h1 : a ≤ 281474976710656) : Ev (fun k => laws_heldByteS.f k (markL n a) a) (a + (n : Int)) := by
  unfold laws_heldByteS.f
  have := heldByteS_l0 n a hn h0 h1 n 0 (by omega)
  simpa using this
/-! spec_PutNum -/
theorem spec_PutNum_l0 : ∀ (n : Nat) (b : List Int), n ≤ 2147483647 → b.length + (num7 n).length ≤ 140737488355328 → Ev (fun k => spec_PutNum.l0 k (n : Int) b) (b ++ num7 n) := by
  intro n
  induction n using Nat.strongRecOn with
  | ind n ih =>
    intro b hn hb
    refine Ev.step (fun _ => spec_PutNum.l0.eq_2 ..) ?_
    have hp := num7_pos n
    by_cases h : n < 128
    · refine ev_neg (by omega) (ev_pos (by omega) (ev_is ?_))
      rw [num7_small h, Int.emod_eq_of_lt (by omega) (by omega)]
    · refine ev_pos (by omega) (ev_pos (by omega) ?_)
      rw [hibyte, nextn n (by omega)]
      rw [num7_great h, List.length_cons] at hb
      refine ev_eq (ih (n / 128) (by omega) (b ++ [((n % 128 + 128 : Nat) : Int)]) (by omega) (by rw [List.length_append, List.length_singleton]; omega)) ?_
      rw [num7_great h, List.append_assoc]; rfl
theorem spec_PutNum_ev (b : List Int) (n : Int) (hb : b.length + 5 ≤ 140737488355328) : Ev (fun k => spec_PutNum.f k b n) (putN b n) := by
  unfold spec_PutNum.f
  refine ev_some (ev_pos (by simp only [List.length_nil]; omega) (ev_some ?_))
  rw [List.nil_append]
  by_cases h0 : n < 0
  · refine ev_pos h0 (Ev.step (fun _ => spec_PutNum.j0.eq_2 ..) (ev_pos rfl (ev_is ?_)))
    unfold putN; rw [if_neg (by unfold isNum; omega)]
  · refine ev_neg h0 (Ev.step (fun _ => spec_PutNum.j0.eq_2 ..) ?_)
    by_cases h1 : n > 2147483647
    · refine ev_pos (by simpa using h1) (ev_is ?_)
      unfold putN; rw [if_neg (by unfold isNum; omega)]
    · refine ev_neg (by simpa using h1) ?_
      obtain ⟨m, rfl⟩ := Int.eq_ofNat_of_zero_le (show 0 ≤ n by omega)
      refine ev_eq (spec_PutNum_l0 m b (by omega) (by have := num7_five (n := m) (by omega); omega)) ?_
      unfold putN; rw [if_pos (by unfold isNum; omega)]; rfl
/-! spec_PutText -/
theorem spec_PutText_ev (b t : List Int) (hb : b.length + 100 ≤ 140737488355328) : Ev (fun k => spec_PutText.f k b t) (putT b t) := by
  unfold spec_PutText.f putT
  by_cases h : t.length ≤ 20
  · refine ev_neg (by omega) ?_
    rw [if_pos h]
    have := putN_len b t.length
    exact Ev.bind (spec_PutNum_ev b t.length (by omega)) (ev_pos (by omega) (Ev.now _))
  · refine ev_pos (by omega) ?_
    rw [if_neg h]
    exact ev_some (ev_pos (by simp only [List.length_nil]; omega) (Ev.now _))
/-! impl_copyBytes -/
theorem copyBytes_eq (b : List Int) (hb : b.length < 140737488355328) : impl_copyBytes.f b = some b := by
  unfold impl_copyBytes.f
  simp only [Option.bind_some, List.length_nil, Nat.zero_add, List.nil_append]
  rw [if_pos hb]
/-! impl_in -/
theorem in_eq (n lo hi : Int) : impl_in.f n lo hi = some (decide (lo ≤ n ∧ n ≤ hi)) := by
  unfold impl_in.f
  by_cases h : n ≥ lo
  · rw [if_pos h]; simp [h]
  · rw [if_neg h]; simp; omega
/-! impl_putNum -/
theorem impl_putNum_l0 : ∀ (n : Nat) (b : List Int), n ≤ 2147483647 → b.length + (num7 n).length ≤ 140737488355328 → Ev (fun k => impl_putNum.l0 k b (n : Int)) (b ++ num7 n) := by
  intro n
  induction n using Nat.strongRecOn with
  | ind n ih =>
    intro b hn hb
    refine Ev.step (fun _ => impl_putNum.l0.eq_2 ..) ?_
    have hp := num7_pos n
    by_cases h : n < 128
    · refine ev_neg (by omega) (ev_pos (by omega) (ev_is ?_))
      rw [num7_small h, Int.emod_eq_of_lt (by omega) (by omega)]
    · refine ev_pos (by omega) (ev_pos (by omega) ?_)
      rw [hibyte, nextn n (by omega)]
      rw [num7_great h, List.length_cons] at hb
      refine ev_eq (ih (n / 128) (by omega) (b ++ [((n % 128 + 128 : Nat) : Int)]) (by omega) (by rw [List.length_append, List.length_singleton]; omega)) ?_
      rw [num7_great h, List.append_assoc]; rfl
theorem impl_putNum_ev (b : List Int) (n : Int) (hb : b.length + 5 ≤ 140737488355328) : Ev (fun k => impl_putNum.f k b n) (putN b n) := by
  unfold impl_putNum.f
  refine Ev.bind (ev_const (in_eq ..)) ?_
  unfold putN
  by_cases h : isNum n
  · refine ev_pos (decide_eq_true h) ?_
    rw [if_pos h]
    obtain ⟨m, rfl⟩ := Int.eq_ofNat_of_zero_le h.1
    exact impl_putNum_l0 m b (by have := h.2; omega) (by have := num7_five (n := m) (by have := h.2; omega); omega)
  · refine ev_neg (fun e => h (of_decide_eq_true e)) ?_
    rw [if_neg h]
    exact Ev.now _
/-! impl_putText -/
theorem impl_putText_ev (b t : List Int) (hb : b.length + 100 ≤ 140737488355328) : Ev (fun k => impl_putText.f k b t) (putT b t) := by
  unfold impl_putText.f putT
  by_cases h : t.length ≤ 20
  · refine ev_neg (by omega) ?_
    rw [if_pos h]
    have := putN_len b t.length
    exact Ev.bind (impl_putNum_ev b t.length (by omega)) (ev_pos (by omega) (Ev.now _))
  · refine ev_pos (by omega) ?_
    rw [if_neg h]
    exact Ev.now _
/-! impl_PutText -/
theorem impl_PutText_ev (b t : List Int) (hb : b.length + 100 ≤ 140737488355328) : Ev (fun k => impl_PutText.f k b t) (putT b t) := by
  unfold impl_PutText.f
  exact Ev.bind (ev_const (copyBytes_eq b (by omega))) (ev_ret (impl_putText_ev b t hb))
theorem FnExactPutText : laws_FnExactPutText.Pure := by
  intro l0 l1 hm0 hl0 hb0 hm1 hl1 hb1
  refine Ev.rounds (g := fun k => laws_FnExactPutText.f k l0 l1) ?_
  unfold laws_FnExactPutText.f
  refine ev_ite (fun _ => Ev.now _) fun h0 => ev_ite (fun _ => Ev.now _) fun h1 => ?_
  have hp := putT_len l0 l1
  repeat (first
    | with_reducible exact Ev.now _
    | ((with_reducible refine Ev.bind (spec_PutText_ev _ _ (by omega)) ?_); try dsimp only)
    | ((with_reducible refine Ev.bind (impl_PutText_ev _ _ (by omega)) ?_); try dsimp only)
    | ((with_reducible refine Ev.bind (toByteS_ev _ (by omega)) ?_); try dsimp only)
    | ((with_reducible refine Ev.bind (eqByteS_ev _ (by omega)) ?_); try dsimp only)
    | ((with_reducible refine Ev.bind (markByteS_ev _ _ (by omega) (by omega) (by omega)) ?_); try dsimp only)
    | ((with_reducible refine Ev.bind (heldByteS_ev _ _ (by omega) (by omega) (by omega)) ?_); try dsimp only)
    | with_reducible refine Ev.step (fun _ => laws_FnExactPutText.j0.eq_2 ..) ?_
    | refine ev_pos (by with_reducible rfl) ?_
    | refine ev_neg (by decide) ?_
    | refine ev_neg (by omega) ?_
    | refine ev_neg (by simp; done) ?_
    | refine ev_pos (by omega) ?_
    | refine ev_pos (by simp; done) ?_)
end Go.Proofs.Ytakpbfpdmkjccaa.Pure
