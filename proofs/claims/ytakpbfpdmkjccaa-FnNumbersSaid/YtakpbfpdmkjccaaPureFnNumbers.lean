/- The pure statement of FnNumbers: what is drawn and put is got back, and what is got was put. No condition. -/
import Derived.Test.YtakpbfpdmkjccaaPFnNumbersx4
import Derived.Test.YtakpbfpdmkjccaaMcore
import Derived.Test.YtakpbfpdmkjccaaMnum
import Derived.Test.YtakpbfpdmkjccaaMround
import Derived.Test.YtakpbfpdmkjccaaMdraw
namespace Go.Proofs.Ytakpbfpdmkjccaa.Pure
open Go.RowKit Go.Proofs.Ytakpbfpdmkjccaa.PFnNumbers Go.Proofs.YtakpbfpdmkjccaaW.PrintWords Go.Proofs.YtakpbfpdmkjccaaW.PrintLast Go.Proofs.YtakpbfpdmkjccaaW.PrintMore Go.Proofs.Ytakpbfpdmkjccaa.M
set_option linter.unusedVariables false
set_option linter.unusedSimpArgs false
/-! impl_in -/
theorem in_eq (n lo hi : Int) : impl_in.f n lo hi = some (decide (lo ≤ n ∧ n ≤ hi)) := by
  unfold impl_in.f
  by_cases h : n ≥ lo
  · rw [if_pos h]; simp [h]
  · rw [if_neg h]; simp; omega
/-! impl_getNum -/
theorem impl_getNum_l0 (at_ : Int) (t : List Int) (hb : By t) (ht : t.length ≤ 5) (ha : 0 ≤ at_) (ha2 : at_ ≤ 4611686018427387903) : ∀ (d i : Nat) (n : Int), i + d = 5 → 0 ≤ n → n < 128 ^ i →
    Ev (fun k => impl_getNum.l0 k at_ n t (t.length : Int) (i : Int)) (gn at_ d i (t.drop i) n) := by
  intro d
  induction d with
  | zero =>
    intro i n hd hn hn2
    exact Ev.step (fun _ => impl_getNum.l0.eq_2 ..) (ev_neg (by omega) (Ev.now _))
  | succ d ih =>
    intro i n hd hn hn2
    refine Ev.step (fun _ => impl_getNum.l0.eq_2 ..) ?_
    by_cases h : i < t.length
    · refine ev_pos (by omega) (ev_pos (by omega) (ev_pos (by omega) (ev_pos (by rw [w64 (by omega) (by omega)]; omega) ?_)))
      have hx := rd_By hb (i : Int)
      rw [drop_rd t i h]
      generalize rd t (i : Int) = x at hx
      have hq := gn_next (x := x) (n := n) (i := i) hx.1 hn hn2
      rw [or_seven (by omega) hx.1 hx.2 hn hn2, w64 (x := at_ + (i : Int)) (by omega) (by omega), w64 (x := at_ + (i : Int) + 1) (by omega) (by omega), w64s i (by omega)]
      unfold gn
      by_cases h1 : x < 128
      · refine ev_neg (by omega) ?_
        rw [if_pos h1]
        by_cases h2 : x = 0
        · refine ev_pos h2 ?_
          by_cases h3 : 0 < i
          · refine ev_pos (by omega) ?_
            rw [if_pos (Or.inl ⟨h2, h3⟩)]
            exact Ev.now _
          · refine ev_neg (by omega) ?_
            by_cases h4 : n + x % 128 * 128 ^ i > 2147483647
            · refine ev_pos h4 ?_
              rw [if_pos (Or.inr h4)]
              exact Ev.now _
            · refine ev_neg h4 ?_
              rw [if_neg (by omega)]
              exact Ev.now _
        · refine ev_neg h2 ?_
          by_cases h4 : n + x % 128 * 128 ^ i > 2147483647
          · refine ev_pos h4 ?_
            rw [if_pos (Or.inr h4)]
            exact Ev.now _
          · refine ev_neg h4 ?_
            rw [if_neg (by omega)]
            exact Ev.now _
      · refine ev_pos (by omega) ?_
        rw [if_neg h1]
        exact ih (i + 1) (n + x % 128 * 128 ^ i) (by omega) hq.2.1 hq.2.2
    · refine ev_neg (by omega) ?_
      rw [List.drop_eq_nil_of_le (by omega)]
      exact Ev.now _
theorem impl_getNum_ev (b : List Int) (at_ : Int) (hb : By b) (hl : b.length ≤ 4611686018427387000) : Ev (fun k => impl_getNum.f k b at_) (getN b at_) := by
  unfold impl_getNum.f
  refine Ev.bind (ev_const (in_eq ..)) ?_
  rw [w64 (x := (b.length : Int) - 1) (by omega) (by omega)]
  by_cases h : 0 ≤ at_ ∧ at_ ≤ (b.length : Int) - 1
  · refine ev_pos (decide_eq_true h) ?_
    have hm : mn (b.length : Int) (wrap64 (at_ + 5)) = min (b.length : Int) (at_ + 5) := by
      rw [w64 (by omega) (by omega)]; unfold mn; split <;> omega
    rw [hm]
    refine ev_pos h.1 (ev_pos (by omega) (ev_pos (by omega) ?_))
    have e : (b.take (min (b.length : Int) (at_ + 5)).toNat).drop at_.toNat = (b.drop at_.toNat).take 5 := by
      rw [List.drop_take]
      by_cases h5 : at_ + 5 ≤ b.length
      · rw [show (min (b.length : Int) (at_ + 5)).toNat - at_.toNat = 5 by omega]
      · rw [List.take_of_length_le (by rw [List.length_drop]; omega), List.take_of_length_le (by rw [List.length_drop]; omega)]
    rw [e]
    have := impl_getNum_l0 at_ ((b.drop at_.toNat).take 5) (By_take _ (By_drop _ hb)) (by rw [List.length_take]; omega) h.1 (by omega) 5 0 0 rfl (by omega) (by decide)
    rw [List.drop_zero, gn_take] at this
    refine ev_eq this ?_
    unfold getN
    rw [if_neg (by omega)]
  · refine ev_neg (by simpa using h) ?_
    rw [getN_out (by omega)]
    exact Ev.now _
/-! impl_GetNum -/
theorem impl_GetNum_ev (b : List Int) (at_ : Int) (hb : By b) (hl : b.length ≤ 4611686018427387000) : Ev (fun k => impl_GetNum.f k b at_) (getN b at_) := by
  unfold impl_GetNum.f
  exact Ev.bind (impl_getNum_ev b at_ hb hl) (ev_is rfl)
/-! impl_putNum -/
theorem impl_putNum_l0 : ∀ (n : Nat) (b : List Int), n ≤ 2147483647 → b.length + (num7 n).length ≤ 140737488355328 → Ev (fun k => impl_putNum.l0 k b (n : Int)) (b ++ num7 n) := by
  intro n
  induction n using Nat.strongRecOn with
  | ind n ih =>
    intro b hn hb
    refine Ev.step (fun _ => impl_putNum.l0.eq_2 ..) ?_
    have hp := num7_pos n
    by_cases h : n < 128
    · refine ev_neg (by omega) (ev_pos (by omega) (ev_is ?_))
      rw [num7_small h, Int.emod_eq_of_lt (by omega) (by omega)]
    · refine ev_pos (by omega) (ev_pos (by omega) ?_)
      rw [hibyte, nextn n (by omega)]
      rw [num7_great h, List.length_cons] at hb
      refine ev_eq (ih (n / 128) (by omega) (b ++ [((n % 128 + 128 : Nat) : Int)]) (by omega) (by rw [List.length_append, List.length_singleton]; omega)) ?_
      rw [num7_great h, List.append_assoc]; rfl
theorem impl_putNum_ev (b : List Int) (n : Int) (hb : b.length + 5 ≤ 140737488355328) : Ev (fun k => impl_putNum.f k b n) (putN b n) := by
  unfold impl_putNum.f
  refine Ev.bind (ev_const (in_eq ..)) ?_
  unfold putN
  by_cases h : isNum n
  · refine ev_pos (decide_eq_true h) ?_
    rw [if_pos h]
    obtain ⟨m, rfl⟩ := Int.eq_ofNat_of_zero_le h.1
    exact impl_putNum_l0 m b (by have := h.2; omega) (by have := num7_five (n := m) (by have := h.2; omega); omega)
  · refine ev_neg (fun e => h (of_decide_eq_true e)) ?_
    rw [if_neg h]
    exact Ev.now _
/-! impl_copyBytes -/
theorem copyBytes_eq (b : List Int) (hb : b.length < 140737488355328) : impl_copyBytes.f b = some b := by
  unfold impl_copyBytes.f
  simp only [Option.bind_some, List.length_nil, Nat.zero_add, List.nil_append]
  rw [if_pos hb]
/-! impl_PutNum -/
theorem impl_PutNum_ev (b : List Int) (n : Int) (hb : b.length + 5 ≤ 140737488355328) : Ev (fun k => impl_PutNum.f k b n) (putN b n) := by
  unfold impl_PutNum.f
  exact Ev.bind (ev_const (copyBytes_eq b (by omega))) (ev_ret (impl_putNum_ev b n hb))
/-! impl_putText -/
theorem impl_putText_ev (b t : List Int) (hb : b.length + 100 ≤ 140737488355328) : Ev (fun k => impl_putText.f k b t) (putT b t) := by
  unfold impl_putText.f putT
  by_cases h : t.length ≤ 20
  · refine ev_neg (by omega) ?_
    rw [if_pos h]
    have := putN_len b t.length
    exact Ev.bind (impl_putNum_ev b t.length (by omega)) (ev_pos (by omega) (Ev.now _))
  · refine ev_pos (by omega) ?_
    rw [if_neg h]
    exact Ev.now _
/-! impl_PutText -/
theorem impl_PutText_ev (b t : List Int) (hb : b.length + 100 ≤ 140737488355328) : Ev (fun k => impl_PutText.f k b t) (putT b t) := by
  unfold impl_PutText.f
  exact Ev.bind (ev_const (copyBytes_eq b (by omega))) (ev_ret (impl_putText_ev b t hb))
/-! impl_getText -/
theorem impl_getText_ev (b : List Int) (at_ : Int) (hb : By b) (hl : b.length < 140737488355328) : Ev (fun k => impl_getText.f k b at_) (getT b at_) := by
  unfold impl_getText.f getT
  refine Ev.bind (impl_getNum_ev b at_ hb (by omega)) ?_
  have hg := getN_bounds hb at_
  generalize getN b at_ = g at hg
  by_cases h1 : g.2 < 0
  · refine ev_pos h1 ?_
    rw [if_pos (Or.inl h1)]
    exact Ev.now _
  have h0 : 0 ≤ at_ ∧ 0 ≤ g.1 ∧ g.1 ≤ 2147483647 ∧ at_ < g.2 ∧ g.2 ≤ b.length ∧ g.2 ≤ at_ + 5 := by
    rcases hg with h | h
    · rw [h] at h1; simp at h1
    · exact h
  refine ev_neg h1 ?_
  by_cases h2 : g.1 > 20
  · refine ev_pos h2 ?_
    rw [if_pos (Or.inr (Or.inl h2))]
    exact Ev.now _
  refine ev_neg h2 ?_
  rw [w64 (x := (b.length : Int) - g.2) (by omega) (by omega)]
  by_cases h3 : g.1 > (b.length : Int) - g.2
  · refine ev_pos h3 ?_
    rw [if_pos (Or.inr (Or.inr h3))]
    exact Ev.now _
  refine ev_neg h3 ?_
  rw [w64 (x := g.2 + g.1) (by omega) (by omega)]
  refine ev_pos (by omega) (ev_pos (by omega) (ev_pos (by omega) (Ev.bind (ev_const (copyBytes_eq _ ?_)) ?_)))
  · simp only [List.length_drop, List.length_take]; omega
  · rw [if_neg (by omega)]
    exact Ev.now _
/-! impl_GetText -/
theorem impl_GetText_ev (b : List Int) (at_ : Int) (hb : By b) (hl : b.length < 140737488355328) : Ev (fun k => impl_GetText.f k b at_) (getT b at_) := by
  unfold impl_GetText.f
  exact Ev.bind (impl_getText_ev b at_ hb hl) (ev_is rfl)
/-! laws_sameBytes -/
theorem sameBytes_eq (a b : List Int) (ha : By a) (hb : By b) : laws_sameBytes.f a b = some (decide (a = b)) := by
  unfold laws_sameBytes.f
  rw [str_inj ha hb]
/-! spec_l1New -/
theorem l1New_l0 (l : List Int) (hl : l.length ≤ 4611686018427387903) : ∀ (d i : Nat) (h : Int), i + d = l.length → ∃ h', Ev (fun k => spec_l1New.l0 k l h (i : Int)) (l, 0, h') := by
  intro d
  induction d with
  | zero =>
    intro i h hd
    exact ⟨h, Ev.step (fun _ => spec_l1New.l0.eq_2 ..) (ev_neg (by omega) (Ev.now _))⟩
  | succ d ih =>
    intro i h hd
    by_cases h4 : (i : Int) < 4000
    · obtain ⟨h', e⟩ := ih (i + 1) _ (by omega)
      refine ⟨h', Ev.step (fun _ => spec_l1New.l0.eq_2 ..) (ev_pos (by omega) (ev_pos h4 (ev_pos (by omega) ?_)))⟩
      rw [w64s i (by omega)]
      exact e
    · exact ⟨h, Ev.step (fun _ => spec_l1New.l0.eq_2 ..) (ev_pos (by omega) (ev_neg h4 (Ev.now _)))⟩
theorem l1New_ev (l : List Int) (hl : l.length ≤ 4611686018427387903) : ∃ h, Ev (fun k => spec_l1New.f k l) (l, 0, h) := by
  unfold spec_l1New.f
  exact l1New_l0 l hl l.length 0 _ (by omega)
/-! spec_l1Byte -/
theorem l1Byte_ok (l : List Int) (i h : Int) (hl : l.length ≤ 4611686018427387903) (hi : 0 ≤ i) : ∃ x i' h', spec_l1Byte.f l i h = some (x, i', h') ∧ 0 ≤ x ∧ x ≤ 255 ∧ 0 ≤ i' := by
  unfold spec_l1Byte.f
  by_cases hq : i < (l.length : Int)
  · rw [if_pos hq, if_pos hi]
    exact ⟨_, _, _, rfl, (and255 _).1, (and255 _).2, by rw [w64 (by omega) (by omega)]; omega⟩
  · rw [if_neg hq]
    exact ⟨_, _, _, rfl, (and255 _).1, (and255 _).2, hi⟩
/-! spec_l1Below -/
theorem l1Below_ok (l : List Int) (i h n : Int) (hl : l.length ≤ 4611686018427387903) (hi : 0 ≤ i) : ∃ x i' h', spec_l1Below.f l i h n = some (x, i', h') ∧ 0 ≤ x ∧ (x < n ∨ (n ≤ 0 ∧ x = 0)) ∧ 0 ≤ i' := by
  unfold spec_l1Below.f
  by_cases h0 : n ≤ 0
  · rw [if_pos h0]
    exact ⟨_, _, _, rfl, by omega, by omega, hi⟩
  · rw [if_neg h0]
    have ht : ∀ x : Int, 0 ≤ x → 0 ≤ Int.tmod x n ∧ Int.tmod x n < n := fun x hx => by
      rw [Int.tmod_eq_emod_of_nonneg hx]
      exact ⟨Int.emod_nonneg _ (by omega), Int.emod_lt_of_pos _ (by omega)⟩
    by_cases h1 : n ≤ 256
    · rw [if_pos h1]
      obtain ⟨x, i', h', e, a, b, c⟩ := l1Byte_ok l i h hl hi
      rw [e]
      simp only [Option.bind_some]
      rw [if_neg (by omega)]
      exact ⟨_, _, _, rfl, (ht x a).1, Or.inl (ht x a).2, c⟩
    · rw [if_neg h1]
      obtain ⟨x, i1, h1, e1, a1, b1, c1⟩ := l1Byte_ok l i h hl hi
      obtain ⟨y, i2, h2, e2, a2, b2, c2⟩ := l1Byte_ok l i1 h1 hl c1
      obtain ⟨z, i3, h3, e3, a3, b3, c3⟩ := l1Byte_ok l i2 h2 hl c2
      obtain ⟨u, i4, h4, e4, a4, b4, c4⟩ := l1Byte_ok l i3 h3 hl c3
      rw [e1]; simp only [Option.bind_some]
      rw [e2]; simp only [Option.bind_some]
      rw [e3]; simp only [Option.bind_some]
      rw [e4]; simp only [Option.bind_some]
      rw [if_neg (by omega)]
      rw [w64 (x := x * 16777216) (by omega) (by omega), w64 (x := y * 65536) (by omega) (by omega), w64 (x := z * 256) (by omega) (by omega), w64 (x := x * 16777216 + y * 65536) (by omega) (by omega), w64 (x := x * 16777216 + y * 65536 + z * 256) (by omega) (by omega), w64 (x := x * 16777216 + y * 65536 + z * 256 + u) (by omega) (by omega)]
      have := ht (x * 16777216 + y * 65536 + z * 256 + u) (by omega)
      exact ⟨_, _, _, rfl, this.1, Or.inl this.2, c4⟩
/-! spec_l1some -/
theorem l1some_l0 (l : List Int) (hl : l.length ≤ 4611686018427387903) (n : Nat) (hn : n ≤ 1000000) : ∀ (d j : Nat) (b : List Int) (i h : Int), j + d = n → By b → b.length = j → 0 ≤ i →
    ∃ r i' h', Ev (fun k => spec_l1some.l0 k b (n : Int) (j : Int) l i h) (r, i', h') ∧ By r ∧ r.length = n ∧ 0 ≤ i' := by
  intro d
  induction d with
  | zero =>
    intro j b i h hd hb hj hi
    exact ⟨b, i, h, Ev.step (fun _ => spec_l1some.l0.eq_2 ..) (ev_neg (by omega) (Ev.now _)), hb, by omega, hi⟩
  | succ d ih =>
    intro j b i h hd hb hj hi
    obtain ⟨x, i1, h1, e, a, a2, c⟩ := l1Byte_ok l i h hl hi
    obtain ⟨r, i', h', e2, p⟩ := ih (j + 1) (b ++ [x % 256]) i1 h1 (by omega) (By_append hb (By_single (by omega) (by omega))) (by simp; omega) c
    refine ⟨r, i', h', Ev.step (fun _ => spec_l1some.l0.eq_2 ..) (ev_pos (by omega) (Ev.bind (ev_const e) (ev_pos (by omega) ?_))), p⟩
    rw [w64s j (by omega)]
    exact e2
theorem l1some_ev (l : List Int) (i h most : Int) (hl : l.length ≤ 4611686018427387903) (hi : 0 ≤ i) (hm0 : 0 ≤ most) (hm : most ≤ 100000) :
    ∃ r i' h', Ev (fun k => spec_l1some.f k l i h most) (r, i', h') ∧ By r ∧ r.length ≤ most ∧ 0 ≤ i' := by
  unfold spec_l1some.f
  rw [w64 (x := most + 1) (by omega) (by omega)]
  obtain ⟨x, i1, h1, e, a, b, c⟩ := l1Below_ok l i h (most + 1) hl hi
  obtain ⟨n, rfl⟩ := Int.eq_ofNat_of_zero_le a
  obtain ⟨r, i', h', e2, p1, p2, p3⟩ := l1some_l0 l hl n (by omega) n 0 [] i1 h1 (by omega) By_nil rfl c
  exact ⟨r, i', h', Ev.bind (ev_const e) e2, p1, by omega, p3⟩
/-! spec_l1PickInt -/
theorem l1PickInt_ok (l : List Int) (i h : Int) (xs : List Int) (hl : l.length ≤ 4611686018427387903) (hi : 0 ≤ i) (hx : 0 < xs.length) : ∃ x i' h', spec_l1PickInt.f l i h xs = some (x, i', h') ∧ x ∈ xs ∧ 0 ≤ i' := by
  unfold spec_l1PickInt.f
  obtain ⟨x, i1, h1, e, a, b, c⟩ := l1Below_ok l i h xs.length hl hi
  rw [e]; simp only [Option.bind_some]
  rw [if_pos a, if_pos (by omega)]
  obtain ⟨n, rfl⟩ := Int.eq_ofNat_of_zero_le a
  refine ⟨_, _, _, rfl, ?_, c⟩
  rw [rd_nat xs n (by omega)]
  exact List.getElem_mem _
/-! spec_l1num -/
theorem l1num_ok (l : List Int) (i h : Int) (hl : l.length ≤ 4611686018427387903) (hi : 0 ≤ i) : ∃ x i' h', spec_l1num.f l i h = some (x, i', h') ∧ -9223372036854775808 ≤ x ∧ x ≤ 9223372036854775807 ∧ 0 ≤ i' := by
  unfold spec_l1num.f
  obtain ⟨x, i1, h1, e, a, b, c⟩ := l1Below_ok l i h 6 hl hi
  rw [e]; simp only [Option.bind_some]
  by_cases h0 : x = 0
  · rw [if_pos h0]
    obtain ⟨y, i2, h2, e2, m, c2⟩ := l1PickInt_ok l i1 h1 [0, 1, 127, 128, 16383, 16384, 2147483647, 2147483646] hl c (by simp)
    rw [e2]; simp only [Option.bind_some]
    refine ⟨_, _, _, rfl, ?_, ?_, c2⟩
    all_goals
      simp only [List.mem_cons, List.not_mem_nil, or_false] at m
      omega
  · rw [if_neg h0]
    by_cases h1' : x = 1
    · rw [if_pos h1']
      obtain ⟨y, i2, h2, e2, m, c2⟩ := l1PickInt_ok l i1 h1 [(-1), 2147483648, 4611686018427387904, (-9223372036854775808), 9223372036854775807] hl c (by simp)
      rw [e2]; simp only [Option.bind_some]
      refine ⟨_, _, _, rfl, ?_, ?_, c2⟩
      all_goals
        simp only [List.mem_cons, List.not_mem_nil, or_false] at m
        omega
    · rw [if_neg h1']
      obtain ⟨y, i2, h2, e2, a2, b2, c2⟩ := l1Below_ok l i1 h1 40000 hl c
      rw [e2]; simp only [Option.bind_some]
      exact ⟨_, _, _, rfl, by omega, by omega, c2⟩
/-! spec_DrawPutNum -/
theorem DrawPutNum_ev (l : List Int) (hl : l.length ≤ 4611686018427387903) : ∃ b n, Ev (fun k => spec_DrawPutNum.f k l) (b, n) ∧ By b ∧ b.length ≤ 4 ∧ -9223372036854775808 ≤ n ∧ n ≤ 9223372036854775807 := by
  unfold spec_DrawPutNum.f
  obtain ⟨h, e0⟩ := l1New_ev l hl
  obtain ⟨b, i1, h1, e1, hb, hbl, c1⟩ := l1some_ev l 0 h 4 hl (by omega) (by omega) (by omega)
  obtain ⟨n, i2, h2, e2, n0, n1, c2⟩ := l1num_ok l i1 h1 hl c1
  exact ⟨b, n, Ev.bind e0 (Ev.bind e1 (Ev.bind (ev_const e2) (Ev.now _))), hb, by omega, n0, n1⟩
/-! spec_l1Once -/
theorem l1Once_ok (l : List Int) (i h n : Int) (hl : l.length ≤ 4611686018427387903) (hi : 0 ≤ i) : ∃ x i' h', spec_l1Once.f l i h n = some (x, i', h') ∧ 0 ≤ i' := by
  unfold spec_l1Once.f
  obtain ⟨x, i1, h1, e, a, b, c⟩ := l1Below_ok l i h n hl hi
  rw [e]; simp only [Option.bind_some]
  exact ⟨_, _, _, rfl, c⟩
/-! spec_DrawPutText -/
theorem DrawPutText_ev (l : List Int) (hl : l.length ≤ 4611686018427387903) : ∃ b t, Ev (fun k => spec_DrawPutText.f k l) (b, t) ∧ By b ∧ By t ∧ b.length ≤ 3 ∧ t.length ≤ 22 := by
  unfold spec_DrawPutText.f
  obtain ⟨h, e0⟩ := l1New_ev l hl
  obtain ⟨b, i1, h1, e1, hb, hbl, c1⟩ := l1some_ev l 0 h 3 hl (by omega) (by omega) (by omega)
  obtain ⟨t, i2, h2, e2, ht, htl, c2⟩ := l1some_ev l i1 h1 6 hl c1 (by omega) (by omega)
  obtain ⟨o, i3, h3, e3, c3⟩ := l1Once_ok l i2 h2 6 hl c2
  by_cases ho : o = true
  · obtain ⟨x, i4, h4, e4, a4, b4, c4⟩ := l1Below_ok l i3 h3 2 hl c3
    refine ⟨b, List.replicate (20 + x).toNat 0, Ev.bind e0 (Ev.bind e1 (Ev.bind e2 (Ev.bind (ev_const e3) (ev_pos ho (Ev.bind (ev_const e4) ?_))))), hb, ?_, by omega, by simp; omega⟩
    · dsimp only
      rw [w64 (x := 20 + x) (by omega) (by omega)]
      exact ev_pos (by omega) (ev_pos (by omega) (Ev.now _))
    · intro y hy
      rw [List.mem_replicate] at hy
      omega
  · exact ⟨b, t, Ev.bind e0 (Ev.bind e1 (Ev.bind e2 (Ev.bind (ev_const e3) (ev_neg ho (Ev.now _))))), hb, ht, by omega, by omega⟩
/-! spec_PutNum -/
theorem spec_PutNum_l0 : ∀ (n : Nat) (b : List Int), n ≤ 2147483647 → b.length + (num7 n).length ≤ 140737488355328 → Ev (fun k => spec_PutNum.l0 k (n : Int) b) (b ++ num7 n) := by
  intro n
  induction n using Nat.strongRecOn with
  | ind n ih =>
    intro b hn hb
    refine Ev.step (fun _ => spec_PutNum.l0.eq_2 ..) ?_
    have hp := num7_pos n
    by_cases h : n < 128
    · refine ev_neg (by omega) (ev_pos (by omega) (ev_is ?_))
      rw [num7_small h, Int.emod_eq_of_lt (by omega) (by omega)]
    · refine ev_pos (by omega) (ev_pos (by omega) ?_)
      rw [hibyte, nextn n (by omega)]
      rw [num7_great h, List.length_cons] at hb
      refine ev_eq (ih (n / 128) (by omega) (b ++ [((n % 128 + 128 : Nat) : Int)]) (by omega) (by rw [List.length_append, List.length_singleton]; omega)) ?_
      rw [num7_great h, List.append_assoc]; rfl
theorem spec_PutNum_ev (b : List Int) (n : Int) (hb : b.length + 5 ≤ 140737488355328) : Ev (fun k => spec_PutNum.f k b n) (putN b n) := by
  unfold spec_PutNum.f
  refine ev_some (ev_pos (by simp only [List.length_nil]; omega) (ev_some ?_))
  rw [List.nil_append]
  by_cases h0 : n < 0
  · refine ev_pos h0 (Ev.step (fun _ => spec_PutNum.j0.eq_2 ..) (ev_pos rfl (ev_is ?_)))
    unfold putN; rw [if_neg (by unfold isNum; omega)]
  · refine ev_neg h0 (Ev.step (fun _ => spec_PutNum.j0.eq_2 ..) ?_)
    by_cases h1 : n > 2147483647
    · refine ev_pos (by simpa using h1) (ev_is ?_)
      unfold putN; rw [if_neg (by unfold isNum; omega)]
    · refine ev_neg (by simpa using h1) ?_
      obtain ⟨m, rfl⟩ := Int.eq_ofNat_of_zero_le (show 0 ≤ n by omega)
      refine ev_eq (spec_PutNum_l0 m b (by omega) (by have := num7_five (n := m) (by omega); omega)) ?_
      unfold putN; rw [if_pos (by unfold isNum; omega)]; rfl
/-! spec_l1spoil -/
theorem By_set {l : List Int} {i : Nat} {x : Int} (hl : By l) (h0 : 0 ≤ x) (h1 : x ≤ 255) : By (l.set i x) := fun y hy => by
  rcases List.mem_or_eq_of_mem_set hy with h | h
  · exact hl y h
  · omega
theorem bits_u8 (op : Go.BinOp) (a b : Int) : 0 ≤ Go.bits op .u8 a b ∧ Go.bits op .u8 a b ≤ 255 := by
  unfold Go.bits
  rw [IntKind.wrap_u8]
  omega
theorem l1spoil_ok (l : List Int) (i h : Int) (b : List Int) (hl : l.length ≤ 4611686018427387903) (hi : 0 ≤ i) (hb : By b) (hbl : b.length ≤ 100000) :
    ∃ r i' h', spec_l1spoil.f l i h b = some (r, i', h') ∧ By r ∧ r.length ≤ b.length + 1 ∧ 0 ≤ i' := by
  unfold spec_l1spoil.f
  simp only [Option.bind_some, List.length_nil, Nat.zero_add, List.nil_append]
  rw [if_pos (by omega)]
  by_cases h0 : (b.length : Int) = 0
  · rw [if_pos h0]
    obtain ⟨x, i1, h1, e, a, a2, c⟩ := l1Byte_ok l i h hl hi
    rw [e]; simp only [Option.bind_some]
    rw [if_pos (by omega)]
    exact ⟨_, _, _, rfl, By_append hb (By_single (by omega) (by omega)), by simp, c⟩
  · rw [if_neg h0]
    obtain ⟨j, i1, h1, e1, a1, b1, c1⟩ := l1Below_ok l i h b.length hl hi
    obtain ⟨w, i2, h2, e2, a2, b2, c2⟩ := l1Below_ok l i1 h1 5 hl c1
    rw [e1]; simp only [Option.bind_some]
    rw [e2]; simp only [Option.bind_some]
    by_cases w0 : w = 0
    · rw [if_pos w0, if_pos (by omega), if_pos (by omega)]
      exact ⟨_, _, _, rfl, By_take _ hb, by simp only [List.length_take]; omega, c2⟩
    rw [if_neg w0]
    by_cases w1 : w = 1
    · rw [if_pos w1]
      obtain ⟨x, i3, h3, e, a, a3, c⟩ := l1Byte_ok l i2 h2 hl c2
      rw [e]; simp only [Option.bind_some]
      rw [if_pos (by omega)]
      exact ⟨_, _, _, rfl, By_append hb (By_single (by omega) (by omega)), by simp, c⟩
    rw [if_neg w1]
    by_cases w2 : w = 2
    · rw [if_pos w2]
      obtain ⟨x, i3, h3, e, a, a3, c⟩ := l1Byte_ok l i2 h2 hl c2
      rw [e]; simp only [Option.bind_some]
      rw [if_pos (by omega), if_pos (by omega)]
      exact ⟨_, _, _, rfl, By_set hb (by omega) (by omega), by simp, c⟩
    rw [if_neg w2]
    by_cases w3 : w = 3
    · rw [if_pos w3, if_pos (by omega), if_pos (by omega), w64 (x := j + 1) (by omega) (by omega)]
      rw [if_pos (by simp only [List.length_take]; omega), if_pos (by omega), if_pos (by omega), if_pos (by simp only [List.length_take, List.length_drop]; omega)]
      exact ⟨_, _, _, rfl, By_append (By_take _ hb) (By_drop _ hb), by simp only [List.length_append, List.length_take, List.length_drop]; omega, c2⟩
    rw [if_neg w3, if_pos (by omega), if_pos (by omega)]
    obtain ⟨x, i3, h3, e, a, a3, c⟩ := l1Below_ok l i2 h2 8 hl c2
    rw [e]; simp only [Option.bind_some]
    rw [if_pos a]
    exact ⟨_, _, _, rfl, By_set hb (bits_u8 _ _ _).1 (bits_u8 _ _ _).2, by simp, c⟩
/-! spec_DrawGetNum -/
theorem DrawGetNum_j0 (l b : List Int) (at_ i h : Int) (hl : l.length ≤ 4611686018427387903) (hi : 0 ≤ i) (hb : b.length ≤ 1000) (ha : -9223372036854775808 ≤ at_ ∧ at_ ≤ 9223372036854775807) :
    ∃ n, Ev (fun k => spec_DrawGetNum.j0 k b at_ l i h) (b, n) ∧ -9223372036854775808 ≤ n ∧ n ≤ 9223372036854775807 := by
  obtain ⟨o, i3, h3, e3, c3⟩ := l1Once_ok l i h 6 hl hi
  by_cases ho : o = true
  · obtain ⟨y, i2, h2, e2, m, c2⟩ := l1PickInt_ok l i3 h3 [(-1), 0, (b.length : Int), wrap64 ((b.length : Int) + 1), 9223372036854775807, (-9223372036854775808)] hl c3 (by simp)
    refine ⟨y, Ev.step (fun _ => spec_DrawGetNum.j0.eq_2 ..) (Ev.bind (ev_const e3) (ev_pos ho (Ev.bind (ev_const e2) (Ev.now _)))), ?_⟩
    rw [w64 (x := (b.length : Int) + 1) (by omega) (by omega)] at m
    simp only [List.mem_cons, List.not_mem_nil, or_false] at m
    omega
  · exact ⟨at_, Ev.step (fun _ => spec_DrawGetNum.j0.eq_2 ..) (Ev.bind (ev_const e3) (ev_neg ho (Ev.now _))), ha.1, ha.2⟩
theorem DrawGetNum_ev (l : List Int) (hl : l.length ≤ 4611686018427387903) : ∃ b n, Ev (fun k => spec_DrawGetNum.f k l) (b, n) ∧ By b ∧ b.length ≤ 100 ∧ -9223372036854775808 ≤ n ∧ n ≤ 9223372036854775807 := by
  unfold spec_DrawGetNum.f
  obtain ⟨h, e0⟩ := l1New_ev l hl
  obtain ⟨b, i1, h1, e1, hb, hbl, c1⟩ := l1some_ev l 0 h 3 hl (by omega) (by omega) (by omega)
  obtain ⟨n, i2, h2, e2, n0, n1, c2⟩ := l1num_ok l i1 h1 hl c1
  obtain ⟨b2, i3, h3, e3, hb3, hbl3, c3⟩ := l1some_ev l i2 h2 3 hl c2 (by omega) (by omega)
  obtain ⟨o, i4, h4, e4, c4⟩ := l1Once_ok l i3 h3 3 hl c3
  have hp := putN_len b n
  have hq := putN_By (n := n) hb
  have hB : By (putN b n ++ b2) := By_append hq hb3
  have hL : (putN b n ++ b2).length ≤ 20 := by rw [List.length_append]; omega
  by_cases ho : o = true
  · obtain ⟨r, i5, h5, e5, hr, hrl, c5⟩ := l1spoil_ok l i4 h4 (putN b n ++ b2) hl c4 hB (by omega)
    obtain ⟨m, e6, m0, m1⟩ := DrawGetNum_j0 l r (b.length : Int) i5 h5 hl c5 (by omega) (by omega)
    exact ⟨r, m, Ev.bind e0 (Ev.bind e1 (Ev.bind (ev_const e2) (Ev.bind (spec_PutNum_ev b n (by omega)) (Ev.bind e3 (ev_pos (by simp only []; omega) (ev_some (Ev.bind (ev_const e4) (ev_pos ho (Ev.bind (ev_const e5) e6))))))))), hr, by omega, m0, m1⟩
  · obtain ⟨m, e6, m0, m1⟩ := DrawGetNum_j0 l (putN b n ++ b2) (b.length : Int) i4 h4 hl c4 (by omega) (by omega)
    exact ⟨putN b n ++ b2, m, Ev.bind e0 (Ev.bind e1 (Ev.bind (ev_const e2) (Ev.bind (spec_PutNum_ev b n (by omega)) (Ev.bind e3 (ev_pos (by simp only []; omega) (ev_some (Ev.bind (ev_const e4) (ev_neg ho e6)))))))), hB, by omega, m0, m1⟩
theorem FnNumbers_j1 (l : List Int) (hl : l.length ≤ 4611686018427387903) : Ev (fun k => laws_FnNumbers.j1 k l false) true := by
  refine Ev.step (fun _ => laws_FnNumbers.j1.eq_2 ..) (ev_neg (by decide) ?_)
  obtain ⟨b, n, e, hb, hbl, n0, n1⟩ := DrawGetNum_ev l hl
  refine Ev.bind e (Ev.bind (impl_GetNum_ev b n hb (by omega)) ?_)
  dsimp only
  by_cases h : (getN b n).2 < 0
  · exact ev_pos h (Ev.now _)
  refine ev_neg h ?_
  have hg := getN_get hb n h
  have h0 : 0 ≤ n ∧ 0 ≤ (getN b n).1 ∧ (getN b n).1 ≤ 2147483647 ∧ n < (getN b n).2 ∧ (getN b n).2 ≤ b.length ∧ (getN b n).2 ≤ n + 5 := by
    rcases getN_bounds hb n with h1 | h1
    · rw [h1] at h; simp at h
    · exact h1
  refine ev_pos (by omega) (ev_pos (by omega) (Ev.bind (impl_PutNum_ev _ _ (by rw [List.length_take]; omega)) (ev_pos (by omega) (ev_pos (by omega) ?_))))
  rw [hg]
  refine Ev.bind (ev_const (sameBytes_eq _ _ (By_take _ hb) (By_take _ hb))) (ev_is ?_)
  simp
theorem FnNumbers_j0 (l : List Int) (hl : l.length ≤ 4611686018427387903) : Ev (fun k => laws_FnNumbers.j0 k l false) true := by
  refine Ev.step (fun _ => laws_FnNumbers.j0.eq_2 ..) (ev_neg (by decide) ?_)
  obtain ⟨b, t, e, hb, ht, hbl, htl⟩ := DrawPutText_ev l hl
  have hp := putT_len b t
  refine Ev.bind e (Ev.bind (impl_PutText_ev b t (by omega)) (Ev.bind (impl_GetText_ev _ _ (putT_By hb ht) (by omega)) ?_))
  dsimp only
  by_cases h : (t.length : Int) ≤ 20
  · have hg := getT_put b t [] (by omega)
    rw [List.append_nil] at hg
    rw [hg]
    refine ev_pos h (Ev.bind (ev_const (sameBytes_eq _ _ ht ht)) (ev_pos (by simp) ?_))
    rw [show ((((putT b t).length : Int)) != ((putT b t).length : Int)) = false by simp]
    exact FnNumbers_j1 l hl
  · exact ev_neg h (FnNumbers_j1 l hl)
theorem FnNumbers : laws_FnNumbers.Pure := by
  intro l0 hm0 hl0 hb0
  have hl : l0.length ≤ 4611686018427387903 := by omega
  refine Ev.rounds (g := fun k => laws_FnNumbers.f k l0) ?_
  unfold laws_FnNumbers.f
  obtain ⟨b, n, e, hb, hbl, n0, n1⟩ := DrawPutNum_ev l0 hl
  have hp := putN_len b n
  have hq := putN_By (n := n) hb
  refine Ev.bind e (Ev.bind (impl_PutNum_ev b n (by omega)) (ev_pos (by omega) (Ev.bind (impl_GetNum_ev _ _ (By_append hq (By_single (by omega) (by omega))) (by rw [List.length_append, List.length_singleton]; omega)) ?_)))
  dsimp only
  by_cases h1 : n ≥ 0
  · refine ev_pos h1 ?_
    by_cases h2 : n ≤ 2147483647
    · refine ev_pos h2 ?_
      rw [getN_put b [7] n ⟨h1, h2⟩]
      refine ev_pos rfl ?_
      dsimp only
      rw [show ((((putN b n).length : Int)) != ((putN b n).length : Int)) = false by simp]
      exact FnNumbers_j0 l0 hl
    · exact ev_neg h2 (FnNumbers_j0 l0 hl)
  · exact ev_neg h1 (FnNumbers_j0 l0 hl)
end Go.Proofs.Ytakpbfpdmkjccaa.Pure
