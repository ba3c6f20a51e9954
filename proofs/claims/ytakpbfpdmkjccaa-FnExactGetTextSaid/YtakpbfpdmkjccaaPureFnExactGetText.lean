/- The pure statement of FnExactGetText: both read the same text, and end at the same place. No condition. -/
import Derived.Test.YtakpbfpdmkjccaaPFnExactGetTextx3
import Derived.Test.YtakpbfpdmkjccaaMcore
import Derived.Test.YtakpbfpdmkjccaaMnum
namespace Go.Proofs.Ytakpbfpdmkjccaa.Pure
open Go.RowKit Go.Proofs.Ytakpbfpdmkjccaa.PFnExactGetText Go.Proofs.YtakpbfpdmkjccaaW.PrintWords Go.Proofs.YtakpbfpdmkjccaaW.PrintLast Go.Proofs.YtakpbfpdmkjccaaW.PrintMore Go.Proofs.Ytakpbfpdmkjccaa.M
set_option linter.unusedVariables false
set_option linter.unusedSimpArgs false
/-! laws_toByteS -/
theorem toByteS_l0 (l : List Int) (hl : l.length ≤ 4611686018427387903) : ∀ (d i : Nat) (out : List Int), i + d = l.length → out.length = l.length → out.take i = l.take i → Ev (fun k => laws_toByteS.l0 k l out i) l := by
  intro d
  induction d with
  | zero =>
    intro i out hd ho ht
    refine Ev.step (fun _ => laws_toByteS.l0.eq_2 ..) ?_
    refine ev_neg (by omega) ?_
    refine ev_is ?_
    rwa [List.take_of_length_le (by omega), List.take_of_length_le (by omega)] at ht
  | succ d ih =>
    intro i out hd ho ht
    refine Ev.step (fun _ => laws_toByteS.l0.eq_2 ..) ?_
    refine ev_pos (by omega) ?_
    refine ev_pos (by omega) ?_
    refine ev_pos (by omega) ?_
    rw [w64s i (by omega), Int.toNat_natCast]
    refine ih (i + 1) _ (by omega) (by rw [List.length_set]; exact ho) ?_
    rw [List.take_succ_eq_append_getElem (by rw [List.length_set]; omega), List.take_succ_eq_append_getElem (by omega), List.take_set_of_le (by omega), ht, List.getElem_set_self, rd_nat _ _ (by omega)]
theorem toByteS_ev (l : List Int) (hl : l.length ≤ 281474976710656) : Ev (fun k => laws_toByteS.f k l) l := by
  unfold laws_toByteS.f
  refine ev_pos (by omega) ?_
  refine ev_pos (by omega) ?_
  exact toByteS_l0 l (by omega) l.length 0 _ (by omega) (by simp) (by simp)
/-! laws_eqByteS -/
theorem eqByteS_l0 (l : List Int) (hl : l.length ≤ 4611686018427387903) : ∀ (d i : Nat), i + d = l.length → Ev (fun k => laws_eqByteS.l0 k l l i) true := by
  intro d
  induction d with
  | zero =>
    intro i hd
    refine Ev.step (fun _ => laws_eqByteS.l0.eq_2 ..) ?_
    exact ev_neg (by omega) (Ev.now _)
  | succ d ih =>
    intro i hd
    refine Ev.step (fun _ => laws_eqByteS.l0.eq_2 ..) ?_
    refine ev_pos (by omega) (ev_pos (by omega) (ev_pos (by omega) (ev_pos rfl ?_)))
    rw [w64s i (by omega)]
    exact ih (i + 1) (by omega)
theorem eqByteS_ev (l : List Int) (hl : l.length ≤ 281474976710656) : Ev (fun k => laws_eqByteS.f k l l) true := by
  unfold laws_eqByteS.f
  exact ev_pos rfl (eqByteS_l0 l (by omega) l.length 0 (by omega))
/-! laws_markByteS -/
theorem markByteS_l0 (n : Nat) (a : Int) (hn : n ≤ 281474976710656) (h0 : 0 ≤ a) (h1 : a ≤ 281474976710656) : ∀ (d i : Nat) (l : List Int), i + d = n → l.length = n → l.take i = (markL n a).take i →
    Ev (fun k => laws_markByteS.l0 k l (a + (i : Int)) i) (a + (n : Int), markL n a) := by
  intro d
  induction d with
  | zero =>
    intro i l hd hl ht
    refine Ev.step (fun _ => laws_markByteS.l0.eq_2 ..) ?_
    refine ev_neg (by omega) ?_
    refine ev_is ?_
    rw [List.take_of_length_le (by omega), List.take_of_length_le (by rw [markL_length]; omega)] at ht
    rw [ht, show (i : Int) = n by omega]
  | succ d ih =>
    intro i l hd hl ht
    refine Ev.step (fun _ => laws_markByteS.l0.eq_2 ..) ?_
    refine ev_pos (by omega) (ev_pos (by omega) ?_)
    rw [w64s i (by omega), Int.toNat_natCast, w64 (x := a + (i : Int) + 1) (by omega) (by omega), show a + (i : Int) + 1 = a + ((i + 1 : Nat) : Int) by omega]
    refine ih (i + 1) _ (by omega) (by rw [List.length_set]; exact hl) ?_
    have e := rd_markL n a i (by omega)
    rw [take_succ_rd (markL n a) i (by rw [markL_length]; omega), e, List.take_succ_eq_append_getElem (by rw [List.length_set]; omega), List.take_set_of_le (by omega), ht, List.getElem_set_self]
theorem markByteS_ev (l : List Int) (a : Int) (hl : l.length ≤ 281474976710656) (h0 : 0 ≤ a) (h1 : a ≤ 281474976710656) : Ev (fun k => laws_markByteS.f k l a) (a + (l.length : Int), markL l.length a) := by
  unfold laws_markByteS.f
  have := markByteS_l0 l.length a hl h0 h1 l.length 0 l (by omega) rfl (by simp)
  simpa using this
/-! laws_heldByteS -/
theorem heldByteS_l0 (n : Nat) (a : Int) (hn : n ≤ 281474976710656) (h0 : 0 ≤ a) (h1 : a ≤ 281474976710656) : ∀ (d i : Nat), i + d = n →
    Ev (fun k => laws_heldByteS.l0 k (markL n a) (a + (i : Int)) i) (a + (n : Int)) := by
  intro d
  induction d with
  | zero =>
    intro i hd
    refine Ev.step (fun _ => laws_heldByteS.l0.eq_2 ..) ?_
    refine ev_neg (by rw [markL_length]; omega) ?_
    refine ev_is ?_
    rw [show (i : Int) = n by omega]
  | succ d ih =>
    intro i hd
    refine Ev.step (fun _ => laws_heldByteS.l0.eq_2 ..) ?_
    refine ev_pos (by rw [markL_length]; omega) (ev_pos (by omega) (ev_pos (rd_markL n a i (by omega)) ?_))
    rw [w64s i (by omega), w64 (x := a + (i : Int) + 1) (by omega) (by omega), show a + (i : Int) + 1 = a + ((i + 1 : Nat) : Int) by omega]
    exact ih (i + 1) (by omega)
theorem heldByteS_ev (n : Nat) (a : Int) (hn : n ≤ 281474976710656) (h0 : 0 ≤ a) (h1 : a ≤ 281474976710656) : Ev (fun k => laws_heldByteS.f k (markL n a) a) (a + (n : Int)) := by
  unfold laws_heldByteS.f
  have := heldByteS_l0 n a hn h0 h1 n 0 (by omega)
  simpa using this
/-! spec_GetNum -/
theorem spec_GetNum_l0 (b : List Int) (at_ : Nat) (hb : By b) (hl : b.length ≤ 4611686018427387903) (ha : at_ ≤ 9223372036854775807) : ∀ (d i : Nat) (n s : Int), i + d = 5 → s = 128 ^ i → 0 ≤ n → n < 128 ^ i →
    Ev (fun k => spec_GetNum.l0 k b (at_ : Int) n s (i : Int)) (gn (at_ : Int) d i (b.drop (at_ + i)) n) := by
  intro d
  induction d with
  | zero =>
    intro i n s hd hs hn hn2
    refine Ev.step (fun _ => spec_GetNum.l0.eq_2 ..) (ev_neg (by omega) ?_)
    exact Ev.step (fun _ => spec_GetNum.j1.eq_2 ..) (ev_neg (by decide) (Ev.now _))
  | succ d ih =>
    intro i n s hd hs hn hn2
    refine Ev.step (fun _ => spec_GetNum.l0.eq_2 ..) (ev_pos (by omega) ?_)
    refine Ev.step (fun _ => spec_GetNum.j1.eq_2 ..) ?_
    rw [w64 (x := (b.length : Int) - at_) (by omega) (by omega)]
    by_cases h : at_ + i < b.length
    · refine ev_pos (decide_eq_true (by omega)) ?_
      rw [w64 (x := (at_ : Int) + i) (by omega) (by omega), show (at_ : Int) + i = ((at_ + i : Nat) : Int) by omega]
      refine ev_pos (by omega) (ev_pos (by omega) ?_)
      have hx := rd_By hb ((at_ + i : Nat) : Int)
      rw [drop_rd b (at_ + i) h]
      generalize rd b ((at_ + i : Nat) : Int) = x at hx
      have hq := gn_next (x := x) (n := n) (i := i) hx.1 hn hn2
      have h5 := pw_five (i + 1) (by omega)
      subst hs
      rw [w64 (x := x) (by omega) (by omega), Int.tmod_eq_emod_of_nonneg hx.1, w64 (x := x % 128 * 128 ^ i) (by omega) (by omega), w64 (x := n + x % 128 * 128 ^ i) (by omega) (by omega), w64 (x := ((at_ + i : Nat) : Int) + 1) (by omega) (by omega),
        w64 (x := 128 ^ i * 128) (by rw [← pw_succ]; have := pw_pos (i + 1); omega) (by rw [← pw_succ]; omega), w64s i (by omega), ← pw_succ]
      unfold gn
      by_cases h1 : x < 128
      · refine ev_pos h1 ?_
        rw [if_pos h1]
        by_cases h2 : x = 0
        · refine ev_pos h2 ?_
          by_cases h3 : 0 < i
          · refine ev_pos (by omega) ?_
            rw [if_pos (Or.inl ⟨h2, h3⟩)]
            exact Ev.now _
          · refine ev_neg (by omega) ?_
            by_cases h4 : n + x % 128 * 128 ^ i > 2147483647
            · refine ev_pos h4 ?_
              rw [if_pos (Or.inr h4)]
              exact Ev.now _
            · refine ev_neg h4 ?_
              rw [if_neg (by omega)]
              exact ev_is (by rw [show ((at_ + i : Nat) : Int) = (at_ : Int) + i by omega])
        · refine ev_neg h2 ?_
          by_cases h4 : n + x % 128 * 128 ^ i > 2147483647
          · refine ev_pos h4 ?_
            rw [if_pos (Or.inr h4)]
            exact Ev.now _
          · refine ev_neg h4 ?_
            rw [if_neg (by omega)]
            exact ev_is (by rw [show ((at_ + i : Nat) : Int) = (at_ : Int) + i by omega])
      · refine ev_neg h1 ?_
        rw [if_neg h1]
        have := ih (i + 1) (n + x % 128 * 128 ^ i) _ (by omega) rfl hq.2.1 hq.2.2
        rw [show at_ + (i + 1) = at_ + i + 1 by omega] at this
        exact this
    · refine ev_neg (by simp; omega) ?_
      rw [List.drop_eq_nil_of_le (by omega)]
      exact Ev.now _
theorem spec_GetNum_ev (b : List Int) (at_ : Int) (hb : By b) (hl : b.length ≤ 4611686018427387903) (ha : -9223372036854775808 ≤ at_ ∧ at_ ≤ 9223372036854775807) : Ev (fun k => spec_GetNum.f k b at_) (getN b at_) := by
  unfold spec_GetNum.f getN
  by_cases h : at_ < 0
  · refine ev_pos h ?_
    rw [if_pos h]
    exact Ev.now _
  · refine ev_neg h ?_
    rw [if_neg h]
    obtain ⟨m, rfl⟩ := Int.eq_ofNat_of_zero_le (show 0 ≤ at_ by omega)
    exact spec_GetNum_l0 b m hb hl (by omega) 5 0 0 1 rfl rfl (by omega) (by decide)
/-! spec_GetText -/
theorem spec_GetText_ev (b : List Int) (at_ : Int) (hb : By b) (hl : b.length < 140737488355328) (ha : -9223372036854775808 ≤ at_ ∧ at_ ≤ 9223372036854775807) : Ev (fun k => spec_GetText.f k b at_) (getT b at_) := by
  unfold spec_GetText.f getT
  refine Ev.bind (spec_GetNum_ev b at_ hb (by omega) ha) ?_
  have hg := getN_bounds hb at_
  generalize getN b at_ = g at hg
  by_cases h1 : g.2 < 0
  · refine ev_pos h1 ?_
    rw [if_pos (Or.inl h1)]
    exact Ev.now _
  have h0 : 0 ≤ at_ ∧ 0 ≤ g.1 ∧ g.1 ≤ 2147483647 ∧ at_ < g.2 ∧ g.2 ≤ b.length ∧ g.2 ≤ at_ + 5 := by
    rcases hg with h | h
    · rw [h] at h1; simp at h1
    · exact h
  refine ev_neg h1 ?_
  by_cases h2 : g.1 > 20
  · refine ev_pos h2 ?_
    rw [if_pos (Or.inr (Or.inl h2))]
    exact Ev.now _
  refine ev_neg h2 ?_
  rw [w64 (x := (b.length : Int) - g.2) (by omega) (by omega)]
  by_cases h3 : g.1 > (b.length : Int) - g.2
  · refine ev_pos h3 ?_
    rw [if_pos (Or.inr (Or.inr h3))]
    exact Ev.now _
  refine ev_neg h3 (ev_some ?_)
  rw [w64 (x := g.2 + g.1) (by omega) (by omega)]
  refine ev_pos (by omega) (ev_pos (by omega) (ev_pos (by omega) (ev_pos ?_ ?_)))
  · simp only [List.length_nil, List.length_drop, List.length_take]; omega
  · rw [if_neg (by omega), List.nil_append]
    exact Ev.now _
/-! impl_in -/
theorem in_eq (n lo hi : Int) : impl_in.f n lo hi = some (decide (lo ≤ n ∧ n ≤ hi)) := by
  unfold impl_in.f
  by_cases h : n ≥ lo
  · rw [if_pos h]; simp [h]
  · rw [if_neg h]; simp; omega
/-! impl_getNum -/
theorem impl_getNum_l0 (at_ : Int) (t : List Int) (hb : By t) (ht : t.length ≤ 5) (ha : 0 ≤ at_) (ha2 : at_ ≤ 4611686018427387903) : ∀ (d i : Nat) (n : Int), i + d = 5 → 0 ≤ n → n < 128 ^ i →
    Ev (fun k => impl_getNum.l0 k at_ n t (t.length : Int) (i : Int)) (gn at_ d i (t.drop i) n) := by
  intro d
  induction d with
  | zero =>
    intro i n hd hn hn2
    exact Ev.step (fun _ => impl_getNum.l0.eq_2 ..) (ev_neg (by omega) (Ev.now _))
  | succ d ih =>
    intro i n hd hn hn2
    refine Ev.step (fun _ => impl_getNum.l0.eq_2 ..) ?_
    by_cases h : i < t.length
    · refine ev_pos (by omega) (ev_pos (by omega) (ev_pos (by omega) (ev_pos (by rw [w64 (by omega) (by omega)]; omega) ?_)))
      have hx := rd_By hb (i : Int)
      rw [drop_rd t i h]
      generalize rd t (i : Int) = x at hx
      have hq := gn_next (x := x) (n := n) (i := i) hx.1 hn hn2
      rw [or_seven (by omega) hx.1 hx.2 hn hn2, w64 (x := at_ + (i : Int)) (by omega) (by omega), w64 (x := at_ + (i : Int) + 1) (by omega) (by omega), w64s i (by omega)]
      unfold gn
      by_cases h1 : x < 128
      · refine ev_neg (by omega) ?_
        rw [if_pos h1]
        by_cases h2 : x = 0
        · refine ev_pos h2 ?_
          by_cases h3 : 0 < i
          · refine ev_pos (by omega) ?_
            rw [if_pos (Or.inl ⟨h2, h3⟩)]
            exact Ev.now _
          · refine ev_neg (by omega) ?_
            by_cases h4 : n + x % 128 * 128 ^ i > 2147483647
            · refine ev_pos h4 ?_
              rw [if_pos (Or.inr h4)]
              exact Ev.now _
            · refine ev_neg h4 ?_
              rw [if_neg (by omega)]
              exact Ev.now _
        · refine ev_neg h2 ?_
          by_cases h4 : n + x % 128 * 128 ^ i > 2147483647
          · refine ev_pos h4 ?_
            rw [if_pos (Or.inr h4)]
            exact Ev.now _
          · refine ev_neg h4 ?_
            rw [if_neg (by omega)]
            exact Ev.now _
      · refine ev_pos (by omega) ?_
        rw [if_neg h1]
        exact ih (i + 1) (n + x % 128 * 128 ^ i) (by omega) hq.2.1 hq.2.2
    · refine ev_neg (by omega) ?_
      rw [List.drop_eq_nil_of_le (by omega)]
      exact Ev.now _
theorem impl_getNum_ev (b : List Int) (at_ : Int) (hb : By b) (hl : b.length ≤ 4611686018427387000) : Ev (fun k => impl_getNum.f k b at_) (getN b at_) := by
  unfold impl_getNum.f
  refine Ev.bind (ev_const (in_eq ..)) ?_
  rw [w64 (x := (b.length : Int) - 1) (by omega) (by omega)]
  by_cases h : 0 ≤ at_ ∧ at_ ≤ (b.length : Int) - 1
  · refine ev_pos (decide_eq_true h) ?_
    have hm : mn (b.length : Int) (wrap64 (at_ + 5)) = min (b.length : Int) (at_ + 5) := by
      rw [w64 (by omega) (by omega)]; unfold mn; split <;> omega
    rw [hm]
    refine ev_pos h.1 (ev_pos (by omega) (ev_pos (by omega) ?_))
    have e : (b.take (min (b.length : Int) (at_ + 5)).toNat).drop at_.toNat = (b.drop at_.toNat).take 5 := by
      rw [List.drop_take]
      by_cases h5 : at_ + 5 ≤ b.length
      · rw [show (min (b.length : Int) (at_ + 5)).toNat - at_.toNat = 5 by omega]
      · rw [List.take_of_length_le (by rw [List.length_drop]; omega), List.take_of_length_le (by rw [List.length_drop]; omega)]
    rw [e]
    have := impl_getNum_l0 at_ ((b.drop at_.toNat).take 5) (By_take _ (By_drop _ hb)) (by rw [List.length_take]; omega) h.1 (by omega) 5 0 0 rfl (by omega) (by decide)
    rw [List.drop_zero, gn_take] at this
    refine ev_eq this ?_
    unfold getN
    rw [if_neg (by omega)]
  · refine ev_neg (by simpa using h) ?_
    rw [getN_out (by omega)]
    exact Ev.now _
/-! impl_copyBytes -/
theorem copyBytes_eq (b : List Int) (hb : b.length < 140737488355328) : impl_copyBytes.f b = some b := by
  unfold impl_copyBytes.f
  simp only [Option.bind_some, List.length_nil, Nat.zero_add, List.nil_append]
  rw [if_pos hb]
/-! impl_getText -/
theorem impl_getText_ev (b : List Int) (at_ : Int) (hb : By b) (hl : b.length < 140737488355328) : Ev (fun k => impl_getText.f k b at_) (getT b at_) := by
  unfold impl_getText.f getT
  refine Ev.bind (impl_getNum_ev b at_ hb (by omega)) ?_
  have hg := getN_bounds hb at_
  generalize getN b at_ = g at hg
  by_cases h1 : g.2 < 0
  · refine ev_pos h1 ?_
    rw [if_pos (Or.inl h1)]
    exact Ev.now _
  have h0 : 0 ≤ at_ ∧ 0 ≤ g.1 ∧ g.1 ≤ 2147483647 ∧ at_ < g.2 ∧ g.2 ≤ b.length ∧ g.2 ≤ at_ + 5 := by
    rcases hg with h | h
    · rw [h] at h1; simp at h1
    · exact h
  refine ev_neg h1 ?_
  by_cases h2 : g.1 > 20
  · refine ev_pos h2 ?_
    rw [if_pos (Or.inr (Or.inl h2))]
    exact Ev.now _
  refine ev_neg h2 ?_
  rw [w64 (x := (b.length : Int) - g.2) (by omega) (by omega)]
  by_cases h3 : g.1 > (b.length : Int) - g.2
  · refine ev_pos h3 ?_
    rw [if_pos (Or.inr (Or.inr h3))]
    exact Ev.now _
  refine ev_neg h3 ?_
  rw [w64 (x := g.2 + g.1) (by omega) (by omega)]
  refine ev_pos (by omega) (ev_pos (by omega) (ev_pos (by omega) (Ev.bind (ev_const (copyBytes_eq _ ?_)) ?_)))
  · simp only [List.length_drop, List.length_take]; omega
  · rw [if_neg (by omega)]
    exact Ev.now _
/-! impl_GetText -/
theorem impl_GetText_ev (b : List Int) (at_ : Int) (hb : By b) (hl : b.length < 140737488355328) : Ev (fun k => impl_GetText.f k b at_) (getT b at_) := by
  unfold impl_GetText.f
  exact Ev.bind (impl_getText_ev b at_ hb hl) (ev_is rfl)
theorem FnExactGetText : laws_FnExactGetText.Pure := by
  intro l0 a1 hm0 hl0 hb0 ha
  refine Ev.rounds (g := fun k => laws_FnExactGetText.f k l0 a1) ?_
  unfold laws_FnExactGetText.f
  have hb0 := By_of hb0
  have ha := i64_of ha
  refine ev_ite (fun _ => Ev.now _) fun h0 => ?_
  have hp : (getT l0 a1).1.length ≤ 3000000 := by
    unfold getT
    split
    · simp
    · simp only [List.length_drop, List.length_take]; omega
  repeat (first
    | with_reducible exact Ev.now _
    | ((with_reducible refine Ev.bind (spec_GetText_ev _ _ hb0 (by omega) ha) ?_); try dsimp only)
    | ((with_reducible refine Ev.bind (impl_GetText_ev _ _ hb0 (by omega)) ?_); try dsimp only)
    | ((with_reducible refine Ev.bind (toByteS_ev _ (by omega)) ?_); try dsimp only)
    | ((with_reducible refine Ev.bind (eqByteS_ev _ (by omega)) ?_); try dsimp only)
    | ((with_reducible refine Ev.bind (markByteS_ev _ _ (by omega) (by omega) (by omega)) ?_); try dsimp only)
    | ((with_reducible refine Ev.bind (heldByteS_ev _ _ (by omega) (by omega) (by omega)) ?_); try dsimp only)
    | with_reducible refine Ev.step (fun _ => laws_FnExactGetText.j0.eq_2 ..) ?_
    | with_reducible refine Ev.step (fun _ => laws_FnExactGetText.j1.eq_2 ..) ?_
    | with_reducible refine Ev.step (fun _ => laws_FnExactGetText.j2.eq_2 ..) ?_
    | refine ev_pos (by with_reducible rfl) ?_
    | refine ev_neg (by decide) ?_
    | refine ev_neg (by omega) ?_
    | refine ev_neg (by simp; done) ?_
    | refine ev_pos (by omega) ?_
    | refine ev_pos (by simp; done) ?_)
end Go.Proofs.Ytakpbfpdmkjccaa.Pure
