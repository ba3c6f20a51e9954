/- The pure statement of FnExactNumLen: both tell how many bytes a number has, and tell the same. No condition. -/
import Derived.Test.YtakpbfpdmkjccaaPFnExactNumLenx1
import Derived.Test.YtakpbfpdmkjccaaMcore
import Derived.Test.YtakpbfpdmkjccaaMnum
namespace Go.Proofs.Ytakpbfpdmkjccaa.Pure
open Go.RowKit Go.Proofs.Ytakpbfpdmkjccaa.PFnExactNumLen Go.Proofs.YtakpbfpdmkjccaaW.PrintWords Go.Proofs.YtakpbfpdmkjccaaW.PrintLast Go.Proofs.YtakpbfpdmkjccaaW.PrintMore Go.Proofs.Ytakpbfpdmkjccaa.M
set_option linter.unusedVariables false
set_option linter.unusedSimpArgs false
/-! spec_PutNum -/
theorem spec_PutNum_l0 : ∀ (n : Nat) (b : List Int), n ≤ 2147483647 → b.length + (num7 n).length ≤ 140737488355328 → Ev (fun k => spec_PutNum.l0 k (n : Int) b) (b ++ num7 n) := by
  intro n
  induction n using Nat.strongRecOn with
  | ind n ih =>
    intro b hn hb
    refine Ev.step (fun _ => spec_PutNum.l0.eq_2 ..) ?_
    have hp := num7_pos n
    by_cases h : n < 128
    · refine ev_neg (by omega) (ev_pos (by omega) (ev_is ?_))
      rw [num7_small h, Int.emod_eq_of_lt (by omega) (by omega)]
    · refine ev_pos (by omega) (ev_pos (by omega) ?_)
      rw [hibyte, nextn n (by omega)]
      rw [num7_great h, List.length_cons] at hb
      refine ev_eq (ih (n / 128) (by omega) (b ++ [((n % 128 + 128 : Nat) : Int)]) (by omega) (by rw [List.length_append, List.length_singleton]; omega)) ?_
      rw [num7_great h, List.append_assoc]; rfl
theorem spec_PutNum_ev (b : List Int) (n : Int) (hb : b.length + 5 ≤ 140737488355328) : Ev (fun k => spec_PutNum.f k b n) (putN b n) := by
  unfold spec_PutNum.f
  refine ev_some (ev_pos (by simp only [List.length_nil]; omega) (ev_some ?_))
  rw [List.nil_append]
  by_cases h0 : n < 0
  · refine ev_pos h0 (Ev.step (fun _ => spec_PutNum.j0.eq_2 ..) (ev_pos rfl (ev_is ?_)))
    unfold putN; rw [if_neg (by unfold isNum; omega)]
  · refine ev_neg h0 (Ev.step (fun _ => spec_PutNum.j0.eq_2 ..) ?_)
    by_cases h1 : n > 2147483647
    · refine ev_pos (by simpa using h1) (ev_is ?_)
      unfold putN; rw [if_neg (by unfold isNum; omega)]
    · refine ev_neg (by simpa using h1) ?_
      obtain ⟨m, rfl⟩ := Int.eq_ofNat_of_zero_le (show 0 ≤ n by omega)
      refine ev_eq (spec_PutNum_l0 m b (by omega) (by have := num7_five (n := m) (by omega); omega)) ?_
      unfold putN; rw [if_pos (by unfold isNum; omega)]; rfl
/-! spec_NumLen -/
theorem spec_NumLen_ev (n : Int) : Ev (fun k => spec_NumLen.f k n) ((putN [] n).length : Int) := by
  unfold spec_NumLen.f
  exact Ev.bind (spec_PutNum_ev [] n (by simp)) (Ev.now _)
/-! impl_in -/
theorem in_eq (n lo hi : Int) : impl_in.f n lo hi = some (decide (lo ≤ n ∧ n ≤ hi)) := by
  unfold impl_in.f
  by_cases h : n ≥ lo
  · rw [if_pos h]; simp [h]
  · rw [if_neg h]; simp; omega
/-! impl_putNum -/
theorem impl_putNum_l0 : ∀ (n : Nat) (b : List Int), n ≤ 2147483647 → b.length + (num7 n).length ≤ 140737488355328 → Ev (fun k => impl_putNum.l0 k b (n : Int)) (b ++ num7 n) := by
  intro n
  induction n using Nat.strongRecOn with
  | ind n ih =>
    intro b hn hb
    refine Ev.step (fun _ => impl_putNum.l0.eq_2 ..) ?_
    have hp := num7_pos n
    by_cases h : n < 128
    · refine ev_neg (by omega) (ev_pos (by omega) (ev_is ?_))
      rw [num7_small h, Int.emod_eq_of_lt (by omega) (by omega)]
    · refine ev_pos (by omega) (ev_pos (by omega) ?_)
      rw [hibyte, nextn n (by omega)]
      rw [num7_great h, List.length_cons] at hb
      refine ev_eq (ih (n / 128) (by omega) (b ++ [((n % 128 + 128 : Nat) : Int)]) (by omega) (by rw [List.length_append, List.length_singleton]; omega)) ?_
      rw [num7_great h, List.append_assoc]; rfl
theorem impl_putNum_ev (b : List Int) (n : Int) (hb : b.length + 5 ≤ 140737488355328) : Ev (fun k => impl_putNum.f k b n) (putN b n) := by
  unfold impl_putNum.f
  refine Ev.bind (ev_const (in_eq ..)) ?_
  unfold putN
  by_cases h : isNum n
  · refine ev_pos (decide_eq_true h) ?_
    rw [if_pos h]
    obtain ⟨m, rfl⟩ := Int.eq_ofNat_of_zero_le h.1
    exact impl_putNum_l0 m b (by have := h.2; omega) (by have := num7_five (n := m) (by have := h.2; omega); omega)
  · refine ev_neg (fun e => h (of_decide_eq_true e)) ?_
    rw [if_neg h]
    exact Ev.now _
/-! impl_NumLen -/
theorem impl_NumLen_ev (n : Int) : Ev (fun k => impl_NumLen.f k n) ((putN [] n).length : Int) := by
  unfold impl_NumLen.f
  exact Ev.bind (impl_putNum_ev [] n (by simp)) (Ev.now _)
theorem FnExactNumLen : laws_FnExactNumLen.Pure := by
  intro a0 ha
  refine Ev.rounds (g := fun k => laws_FnExactNumLen.f k a0) ?_
  unfold laws_FnExactNumLen.f
  refine Ev.bind (spec_NumLen_ev a0) (Ev.bind (impl_NumLen_ev a0) ?_)
  exact ev_pos rfl (Ev.now _)
end Go.Proofs.Ytakpbfpdmkjccaa.Pure
