/- The pure statement of FnPrefixes: texts begin alike as far as they do; numbers have as many bytes as are told. No condition. -/
import Derived.Test.YtakpbfpdmkjccaaPFnPrefixesx3
import Derived.Test.YtakpbfpdmkjccaaMcore
import Derived.Test.YtakpbfpdmkjccaaMnum
import Derived.Test.YtakpbfpdmkjccaaMround
import Derived.Test.YtakpbfpdmkjccaaMdraw
namespace Go.Proofs.Ytakpbfpdmkjccaa.Pure
open Go.RowKit Go.Proofs.Ytakpbfpdmkjccaa.PFnPrefixes Go.Proofs.YtakpbfpdmkjccaaW.PrintWords Go.Proofs.YtakpbfpdmkjccaaW.PrintLast Go.Proofs.YtakpbfpdmkjccaaW.PrintMore Go.Proofs.Ytakpbfpdmkjccaa.M
set_option linter.unusedVariables false
set_option linter.unusedSimpArgs false
/-! impl_in -/
theorem in_eq (n lo hi : Int) : impl_in.f n lo hi = some (decide (lo ≤ n ∧ n ≤ hi)) := by
  unfold impl_in.f
  by_cases h : n ≥ lo
  · rw [if_pos h]; simp [h]
  · rw [if_neg h]; simp; omega
/-! impl_putNum -/
theorem impl_putNum_l0 : ∀ (n : Nat) (b : List Int), n ≤ 2147483647 → b.length + (num7 n).length ≤ 140737488355328 → Ev (fun k => impl_putNum.l0 k b (n : Int)) (b ++ num7 n) := by
  intro n
  induction n using Nat.strongRecOn with
  | ind n ih =>
    intro b hn hb
    refine Ev.step (fun _ => impl_putNum.l0.eq_2 ..) ?_
    have hp := num7_pos n
    by_cases h : n < 128
    · refine ev_neg (by omega) (ev_pos (by omega) (ev_is ?_))
      rw [num7_small h, Int.emod_eq_of_lt (by omega) (by omega)]
    · refine ev_pos (by omega) (ev_pos (by omega) ?_)
      rw [hibyte, nextn n (by omega)]
      rw [num7_great h, List.length_cons] at hb
      refine ev_eq (ih (n / 128) (by omega) (b ++ [((n % 128 + 128 : Nat) : Int)]) (by omega) (by rw [List.length_append, List.length_singleton]; omega)) ?_
      rw [num7_great h, List.append_assoc]; rfl
theorem impl_putNum_ev (b : List Int) (n : Int) (hb : b.length + 5 ≤ 140737488355328) : Ev (fun k => impl_putNum.f k b n) (putN b n) := by
  unfold impl_putNum.f
  refine Ev.bind (ev_const (in_eq ..)) ?_
  unfold putN
  by_cases h : isNum n
  · refine ev_pos (decide_eq_true h) ?_
    rw [if_pos h]
    obtain ⟨m, rfl⟩ := Int.eq_ofNat_of_zero_le h.1
    exact impl_putNum_l0 m b (by have := h.2; omega) (by have := num7_five (n := m) (by have := h.2; omega); omega)
  · refine ev_neg (fun e => h (of_decide_eq_true e)) ?_
    rw [if_neg h]
    exact Ev.now _
/-! impl_NumLen -/
theorem impl_NumLen_ev (n : Int) : Ev (fun k => impl_NumLen.f k n) ((putN [] n).length : Int) := by
  unfold impl_NumLen.f
  exact Ev.bind (impl_putNum_ev [] n (by simp)) (Ev.now _)
/-! bytes_Equal -/
theorem bytes_Equal_eq (a b : List Int) (ha : By a) (hb : By b) : bytes_Equal.f a b = some (decide (a = b)) := by
  unfold bytes_Equal.f
  rw [str_inj ha hb]
/-! bytes_HasPrefix -/
theorem bytes_HasPrefix_eq (a b : List Int) (ha : By a) (hb : By b) : bytes_HasPrefix.f a b = some (hasPre a b) := by
  unfold bytes_HasPrefix.f hasPre
  by_cases h : b.length ≤ a.length
  · rw [if_pos (by omega), if_pos (by omega), if_pos (by omega), Int.toNat_natCast, bytes_Equal_eq _ _ (By_take _ ha) hb]
    simp [h]
  · rw [if_neg (by omega)]
    simp [h]
/-! impl_HasPrefix -/
theorem impl_HasPrefix_eq (a b : List Int) (ha : By a) (hb : By b) : impl_HasPrefix.f a b = some (hasPre a b) := by
  unfold impl_HasPrefix.f
  rw [bytes_HasPrefix_eq a b ha hb]
  rfl
/-! impl_Common -/
theorem impl_Common_l0 (a b : List Int) (hl : a.length ≤ 4611686018427387903) : ∀ (d i : Nat), i + d = a.length → Ev (fun k => impl_Common.l0 k a b (i : Int)) (((i + common (a.drop i) (b.drop i) : Nat) : Int)) := by
  have hm : mn (a.length : Int) (b.length : Int) = min (a.length : Int) (b.length : Int) := by unfold mn; split <;> omega
  intro d
  induction d with
  | zero =>
    intro i hd
    refine Ev.step (fun _ => impl_Common.l0.eq_2 ..) (ev_neg (by omega) (ev_is ?_))
    rw [List.drop_eq_nil_of_le (by omega)]; rfl
  | succ d ih =>
    intro i hd
    refine Ev.step (fun _ => impl_Common.l0.eq_2 ..) ?_
    rw [drop_rd a i (by omega)]
    by_cases hb : i < b.length
    · refine ev_pos (by omega) (ev_pos (by omega) (ev_pos (by omega) (ev_pos (by omega) ?_)))
      rw [drop_rd b i hb]
      by_cases he : rd a (i : Int) = rd b (i : Int)
      · refine ev_pos he ?_
        rw [w64s i (by omega)]
        refine ev_eq (ih (i + 1) (by omega)) ?_
        rw [common_cons, if_pos he]; omega
      · refine ev_neg he (ev_is ?_)
        rw [common_cons, if_neg he]; rfl
    · refine ev_neg (by omega) (ev_is ?_)
      rw [show b.drop i = [] from List.drop_eq_nil_of_le (by omega)]; rw [common_nil]; rfl
theorem impl_Common_ev (a b : List Int) (hl : a.length ≤ 4611686018427387903) : Ev (fun k => impl_Common.f k a b) ((common a b : Nat) : Int) := by
  unfold impl_Common.f
  have := impl_Common_l0 a b hl a.length 0 (by omega)
  simpa using this
/-! impl_copyBytes -/
theorem copyBytes_eq (b : List Int) (hb : b.length < 140737488355328) : impl_copyBytes.f b = some b := by
  unfold impl_copyBytes.f
  simp only [Option.bind_some, List.length_nil, Nat.zero_add, List.nil_append]
  rw [if_pos hb]
/-! impl_PutNum -/
theorem impl_PutNum_ev (b : List Int) (n : Int) (hb : b.length + 5 ≤ 140737488355328) : Ev (fun k => impl_PutNum.f k b n) (putN b n) := by
  unfold impl_PutNum.f
  exact Ev.bind (ev_const (copyBytes_eq b (by omega))) (ev_ret (impl_putNum_ev b n hb))
/-! spec_l1New -/
theorem l1New_l0 (l : List Int) (hl : l.length ≤ 4611686018427387903) : ∀ (d i : Nat) (h : Int), i + d = l.length → ∃ h', Ev (fun k => spec_l1New.l0 k l h (i : Int)) (l, 0, h') := by
  intro d
  induction d with
  | zero =>
    intro i h hd
    exact ⟨h, Ev.step (fun _ => spec_l1New.l0.eq_2 ..) (ev_neg (by omega) (Ev.now _))⟩
  | succ d ih =>
    intro i h hd
    by_cases h4 : (i : Int) < 4000
    · obtain ⟨h', e⟩ := ih (i + 1) _ (by omega)
      refine ⟨h', Ev.step (fun _ => spec_l1New.l0.eq_2 ..) (ev_pos (by omega) (ev_pos h4 (ev_pos (by omega) ?_)))⟩
      rw [w64s i (by omega)]
      exact e
    · exact ⟨h, Ev.step (fun _ => spec_l1New.l0.eq_2 ..) (ev_pos (by omega) (ev_neg h4 (Ev.now _)))⟩
theorem l1New_ev (l : List Int) (hl : l.length ≤ 4611686018427387903) : ∃ h, Ev (fun k => spec_l1New.f k l) (l, 0, h) := by
  unfold spec_l1New.f
  exact l1New_l0 l hl l.length 0 _ (by omega)
/-! spec_l1Byte -/
theorem l1Byte_ok (l : List Int) (i h : Int) (hl : l.length ≤ 4611686018427387903) (hi : 0 ≤ i) : ∃ x i' h', spec_l1Byte.f l i h = some (x, i', h') ∧ 0 ≤ x ∧ x ≤ 255 ∧ 0 ≤ i' := by
  unfold spec_l1Byte.f
  by_cases hq : i < (l.length : Int)
  · rw [if_pos hq, if_pos hi]
    exact ⟨_, _, _, rfl, (and255 _).1, (and255 _).2, by rw [w64 (by omega) (by omega)]; omega⟩
  · rw [if_neg hq]
    exact ⟨_, _, _, rfl, (and255 _).1, (and255 _).2, hi⟩
/-! spec_l1Below -/
theorem l1Below_ok (l : List Int) (i h n : Int) (hl : l.length ≤ 4611686018427387903) (hi : 0 ≤ i) : ∃ x i' h', spec_l1Below.f l i h n = some (x, i', h') ∧ 0 ≤ x ∧ (x < n ∨ (n ≤ 0 ∧ x = 0)) ∧ 0 ≤ i' := by
  unfold spec_l1Below.f
  by_cases h0 : n ≤ 0
  · rw [if_pos h0]
    exact ⟨_, _, _, rfl, by omega, by omega, hi⟩
  · rw [if_neg h0]
    have ht : ∀ x : Int, 0 ≤ x → 0 ≤ Int.tmod x n ∧ Int.tmod x n < n := fun x hx => by
      rw [Int.tmod_eq_emod_of_nonneg hx]
      exact ⟨Int.emod_nonneg _ (by omega), Int.emod_lt_of_pos _ (by omega)⟩
    by_cases h1 : n ≤ 256
    · rw [if_pos h1]
      obtain ⟨x, i', h', e, a, b, c⟩ := l1Byte_ok l i h hl hi
      rw [e]
      simp only [Option.bind_some]
      rw [if_neg (by omega)]
      exact ⟨_, _, _, rfl, (ht x a).1, Or.inl (ht x a).2, c⟩
    · rw [if_neg h1]
      obtain ⟨x, i1, h1, e1, a1, b1, c1⟩ := l1Byte_ok l i h hl hi
      obtain ⟨y, i2, h2, e2, a2, b2, c2⟩ := l1Byte_ok l i1 h1 hl c1
      obtain ⟨z, i3, h3, e3, a3, b3, c3⟩ := l1Byte_ok l i2 h2 hl c2
      obtain ⟨u, i4, h4, e4, a4, b4, c4⟩ := l1Byte_ok l i3 h3 hl c3
      rw [e1]; simp only [Option.bind_some]
      rw [e2]; simp only [Option.bind_some]
      rw [e3]; simp only [Option.bind_some]
      rw [e4]; simp only [Option.bind_some]
      rw [if_neg (by omega)]
      rw [w64 (x := x * 16777216) (by omega) (by omega), w64 (x := y * 65536) (by omega) (by omega), w64 (x := z * 256) (by omega) (by omega), w64 (x := x * 16777216 + y * 65536) (by omega) (by omega), w64 (x := x * 16777216 + y * 65536 + z * 256) (by omega) (by omega), w64 (x := x * 16777216 + y * 65536 + z * 256 + u) (by omega) (by omega)]
      have := ht (x * 16777216 + y * 65536 + z * 256 + u) (by omega)
      exact ⟨_, _, _, rfl, this.1, Or.inl this.2, c4⟩
/-! spec_l1some -/
theorem l1some_l0 (l : List Int) (hl : l.length ≤ 4611686018427387903) (n : Nat) (hn : n ≤ 1000000) : ∀ (d j : Nat) (b : List Int) (i h : Int), j + d = n → By b → b.length = j → 0 ≤ i →
    ∃ r i' h', Ev (fun k => spec_l1some.l0 k b (n : Int) (j : Int) l i h) (r, i', h') ∧ By r ∧ r.length = n ∧ 0 ≤ i' := by
  intro d
  induction d with
  | zero =>
    intro j b i h hd hb hj hi
    exact ⟨b, i, h, Ev.step (fun _ => spec_l1some.l0.eq_2 ..) (ev_neg (by omega) (Ev.now _)), hb, by omega, hi⟩
  | succ d ih =>
    intro j b i h hd hb hj hi
    obtain ⟨x, i1, h1, e, a, a2, c⟩ := l1Byte_ok l i h hl hi
    obtain ⟨r, i', h', e2, p⟩ := ih (j + 1) (b ++ [x % 256]) i1 h1 (by omega) (By_append hb (By_single (by omega) (by omega))) (by simp; omega) c
    refine ⟨r, i', h', Ev.step (fun _ => spec_l1some.l0.eq_2 ..) (ev_pos (by omega) (Ev.bind (ev_const e) (ev_pos (by omega) ?_))), p⟩
    rw [w64s j (by omega)]
    exact e2
theorem l1some_ev (l : List Int) (i h most : Int) (hl : l.length ≤ 4611686018427387903) (hi : 0 ≤ i) (hm0 : 0 ≤ most) (hm : most ≤ 100000) :
    ∃ r i' h', Ev (fun k => spec_l1some.f k l i h most) (r, i', h') ∧ By r ∧ r.length ≤ most ∧ 0 ≤ i' := by
  unfold spec_l1some.f
  rw [w64 (x := most + 1) (by omega) (by omega)]
  obtain ⟨x, i1, h1, e, a, b, c⟩ := l1Below_ok l i h (most + 1) hl hi
  obtain ⟨n, rfl⟩ := Int.eq_ofNat_of_zero_le a
  obtain ⟨r, i', h', e2, p1, p2, p3⟩ := l1some_l0 l hl n (by omega) n 0 [] i1 h1 (by omega) By_nil rfl c
  exact ⟨r, i', h', Ev.bind (ev_const e) e2, p1, by omega, p3⟩
/-! spec_DrawCommon -/
theorem DrawCommon_ev (l : List Int) (hl : l.length ≤ 4611686018427387903) : ∃ a b, Ev (fun k => spec_DrawCommon.f k l) (a, b) ∧ By a ∧ By b ∧ a.length ≤ 6 ∧ b.length ≤ 9 := by
  unfold spec_DrawCommon.f
  obtain ⟨h, e0⟩ := l1New_ev l hl
  obtain ⟨a, i1, h1, e1, ha, hal, c1⟩ := l1some_ev l 0 h 6 hl (by omega) (by omega) (by omega)
  obtain ⟨x, i2, h2, e2, x0, x1, c2⟩ := l1Below_ok l i1 h1 ((a.length : Int) + 1) hl c1
  obtain ⟨t, i3, h3, e3, ht, htl, c3⟩ := l1some_ev l i2 h2 3 hl c2 (by omega) (by omega)
  refine ⟨a, [] ++ a.take x.toNat ++ t, Ev.bind e0 (Ev.bind e1 (Ev.bind (Ev.now _) ?_)), ha, By_append (By_append By_nil (By_take _ ha)) ht, by omega, by simp; omega⟩
  dsimp only
  rw [w64 (x := (a.length : Int) + 1) (by omega) (by omega)]
  refine Ev.bind (ev_const e2) (ev_pos x0 (ev_pos (by omega) (Ev.bind (Ev.now _) (ev_pos (by simp; omega) (Ev.bind (Ev.now _) (Ev.bind e3 (ev_pos (by simp; omega) (Ev.now _))))))))
/-! spec_l1Once -/
theorem l1Once_ok (l : List Int) (i h n : Int) (hl : l.length ≤ 4611686018427387903) (hi : 0 ≤ i) : ∃ x i' h', spec_l1Once.f l i h n = some (x, i', h') ∧ 0 ≤ i' := by
  unfold spec_l1Once.f
  obtain ⟨x, i1, h1, e, a, b, c⟩ := l1Below_ok l i h n hl hi
  rw [e]; simp only [Option.bind_some]
  exact ⟨_, _, _, rfl, c⟩
/-! spec_DrawHasPrefix -/
theorem DrawHasPrefix_ev (l : List Int) (hl : l.length ≤ 4611686018427387903) : ∃ a b, Ev (fun k => spec_DrawHasPrefix.f k l) (a, b) ∧ By a ∧ By b ∧ a.length ≤ 6 ∧ b.length ≤ 6 := by
  unfold spec_DrawHasPrefix.f
  obtain ⟨h, e0⟩ := l1New_ev l hl
  obtain ⟨a, i1, h1, e1, ha, hal, c1⟩ := l1some_ev l 0 h 6 hl (by omega) (by omega) (by omega)
  obtain ⟨o, i2, h2, e2, c2⟩ := l1Once_ok l i1 h1 2 hl c1
  by_cases ho : o = true
  · obtain ⟨x, i3, h3, e3, x0, x1, c3⟩ := l1Below_ok l i2 h2 ((a.length : Int) + 1) hl c2
    refine ⟨a, [] ++ a.take x.toNat, Ev.bind e0 (Ev.bind e1 (Ev.bind (ev_const e2) (ev_pos ho (Ev.bind (Ev.now _) ?_)))), ha, By_append By_nil (By_take _ ha), by omega, by simp; omega⟩
    dsimp only
    rw [w64 (x := (a.length : Int) + 1) (by omega) (by omega)]
    exact Ev.bind (ev_const e3) (ev_pos x0 (ev_pos (by omega) (Ev.bind (Ev.now _) (ev_pos (by simp; omega) (Ev.now _)))))
  · obtain ⟨t, i3, h3, e3, ht, htl, c3⟩ := l1some_ev l i2 h2 4 hl c2 (by omega) (by omega)
    exact ⟨a, t, Ev.bind e0 (Ev.bind e1 (Ev.bind (ev_const e2) (ev_neg ho (Ev.bind e3 (Ev.now _))))), ha, ht, by omega, by omega⟩
/-! spec_l1PickInt -/
theorem l1PickInt_ok (l : List Int) (i h : Int) (xs : List Int) (hl : l.length ≤ 4611686018427387903) (hi : 0 ≤ i) (hx : 0 < xs.length) : ∃ x i' h', spec_l1PickInt.f l i h xs = some (x, i', h') ∧ x ∈ xs ∧ 0 ≤ i' := by
  unfold spec_l1PickInt.f
  obtain ⟨x, i1, h1, e, a, b, c⟩ := l1Below_ok l i h xs.length hl hi
  rw [e]; simp only [Option.bind_some]
  rw [if_pos a, if_pos (by omega)]
  obtain ⟨n, rfl⟩ := Int.eq_ofNat_of_zero_le a
  refine ⟨_, _, _, rfl, ?_, c⟩
  rw [rd_nat xs n (by omega)]
  exact List.getElem_mem _
/-! spec_l1num -/
theorem l1num_ok (l : List Int) (i h : Int) (hl : l.length ≤ 4611686018427387903) (hi : 0 ≤ i) : ∃ x i' h', spec_l1num.f l i h = some (x, i', h') ∧ -9223372036854775808 ≤ x ∧ x ≤ 9223372036854775807 ∧ 0 ≤ i' := by
  unfold spec_l1num.f
  obtain ⟨x, i1, h1, e, a, b, c⟩ := l1Below_ok l i h 6 hl hi
  rw [e]; simp only [Option.bind_some]
  by_cases h0 : x = 0
  · rw [if_pos h0]
    obtain ⟨y, i2, h2, e2, m, c2⟩ := l1PickInt_ok l i1 h1 [0, 1, 127, 128, 16383, 16384, 2147483647, 2147483646] hl c (by simp)
    rw [e2]; simp only [Option.bind_some]
    refine ⟨_, _, _, rfl, ?_, ?_, c2⟩
    all_goals
      simp only [List.mem_cons, List.not_mem_nil, or_false] at m
      omega
  · rw [if_neg h0]
    by_cases h1' : x = 1
    · rw [if_pos h1']
      obtain ⟨y, i2, h2, e2, m, c2⟩ := l1PickInt_ok l i1 h1 [(-1), 2147483648, 4611686018427387904, (-9223372036854775808), 9223372036854775807] hl c (by simp)
      rw [e2]; simp only [Option.bind_some]
      refine ⟨_, _, _, rfl, ?_, ?_, c2⟩
      all_goals
        simp only [List.mem_cons, List.not_mem_nil, or_false] at m
        omega
    · rw [if_neg h1']
      obtain ⟨y, i2, h2, e2, a2, b2, c2⟩ := l1Below_ok l i1 h1 40000 hl c
      rw [e2]; simp only [Option.bind_some]
      exact ⟨_, _, _, rfl, by omega, by omega, c2⟩
/-! spec_DrawNumLen -/
theorem DrawNumLen_ev (l : List Int) (hl : l.length ≤ 4611686018427387903) : ∃ n, Ev (fun k => spec_DrawNumLen.f k l) n ∧ -9223372036854775808 ≤ n ∧ n ≤ 9223372036854775807 := by
  unfold spec_DrawNumLen.f
  obtain ⟨h, e0⟩ := l1New_ev l hl
  obtain ⟨x, i1, h1, e1, x0, x1, c1⟩ := l1num_ok l 0 h hl (by omega)
  exact ⟨x, Ev.bind e0 (Ev.bind (ev_const e1) (Ev.now _)), x0, x1⟩
/-! laws_sameBytes -/
theorem sameBytes_eq (a b : List Int) (ha : By a) (hb : By b) : laws_sameBytes.f a b = some (decide (a = b)) := by
  unfold laws_sameBytes.f
  rw [str_inj ha hb]
theorem common_le : ∀ a b : List Int, common a b ≤ a.length ∧ common a b ≤ b.length
  | [], b => by simp [common]
  | x :: a, [] => by simp [common]
  | x :: a, y :: b => by
    have := common_le a b
    rw [common_cons]
    split <;> simp <;> omega
theorem common_comm : ∀ a b : List Int, common a b = common b a
  | [], b => by rw [common_nil]; cases b <;> rfl
  | x :: a, [] => by rw [common_nil]; rfl
  | x :: a, y :: b => by
    rw [common_cons, common_cons, common_comm a b]
    by_cases h : x = y
    · rw [if_pos h, if_pos h.symm]
    · rw [if_neg h, if_neg (fun q => h q.symm)]
theorem common_take : ∀ a b : List Int, a.take (common a b) = b.take (common a b)
  | [], b => by simp [common]
  | x :: a, [] => by simp [common]
  | x :: a, y :: b => by
    rw [common_cons]
    split
    · rename_i h
      rw [List.take_succ_cons, List.take_succ_cons, h, common_take a b]
    · simp
theorem common_next : ∀ (a b : List Int) (h : common a b < a.length) (h2 : common a b < b.length), a[common a b] ≠ b[common a b]
  | [], b, h, _ => by simp at h
  | x :: a, [], _, h => by simp at h
  | x :: a, y :: b, h, h2 => by
    by_cases e : x = y
    · have hc : common (x :: a) (y :: b) = common a b + 1 := by rw [common_cons, if_pos e]
      simp only [hc, List.getElem_cons_succ]
      exact common_next a b (by rw [hc] at h; simpa using h) (by rw [hc] at h2; simpa using h2)
    · have hc : common (x :: a) (y :: b) = 0 := by rw [common_cons, if_neg e]
      simpa only [hc, List.getElem_cons_zero] using e
theorem common_all : ∀ (c p : List Int), hasPre c p = decide (common c p = p.length)
  | c, [] => by rw [common_nil]; simp [hasPre]
  | [], y :: p => by simp [hasPre, common]
  | x :: c, y :: p => by
    have ih := common_all c p
    unfold hasPre at ih ⊢
    rw [common_cons]
    by_cases e : x = y
    · subst e
      rw [if_pos rfl]
      simp only [List.length_cons, List.take_succ_cons, Nat.add_le_add_iff_right, List.cons.injEq, true_and, Nat.add_right_cancel_iff]
      exact ih
    · rw [if_neg e, decide_eq_false (p := (x :: c).take (y :: p).length = y :: p) (by simp [e]), decide_eq_false (p := 0 = (y :: p).length) (by simp), Bool.and_false]
theorem FnPrefixes_j0 (a b c p : List Int) (x : Int) (ha : By a) (hb : By b) (hc : By c) (hp : By p) (hal : a.length ≤ 6) (hcl : c.length ≤ 6) : Ev (fun k => laws_FnPrefixes.j0 k a b ((common a b : Nat) : Int) c p x false) true := by
  have hle := common_le a b
  have hn := putN_len [] x
  refine Ev.step (fun _ => laws_FnPrefixes.j0.eq_2 ..) (ev_neg (by decide) (ev_pos (by omega) (ev_pos (by omega) ?_)))
  rw [Int.toNat_natCast]
  have h1 : hasPre a (b.take (common a b)) = true := by
    unfold hasPre
    rw [List.length_take, Nat.min_eq_left hle.2, decide_eq_true (by omega), decide_eq_true (common_take a b)]
    rfl
  refine Ev.bind (ev_const (impl_HasPrefix_eq _ _ ha (By_take _ hb))) (ev_pos h1 ?_)
  refine Ev.bind (ev_const (impl_HasPrefix_eq _ _ hc hp)) (Ev.bind (impl_Common_ev c p (by omega)) (ev_pos ?_ ?_))
  · rw [common_all c p]
    by_cases h : common c p = p.length
    · rw [decide_eq_true h, h]; simp
    · rw [decide_eq_false h]
      have : ¬ ((common c p : Nat) : Int) = (p.length : Int) := by omega
      simp [this]
  · refine Ev.bind (impl_NumLen_ev x) (Ev.bind (impl_PutNum_ev [] x (by simp)) (ev_pos rfl (Ev.bind (impl_NumLen_ev 200) (ev_is ?_))))
    have h2 : putN [] 200 = [200, 1] := by
      unfold putN
      rw [if_pos (show isNum 200 by unfold isNum; omega), show (200 : Int).toNat = 200 from rfl, num7_great (by omega), num7_small (by omega)]
      rfl
    rw [h2]
    rfl
theorem FnPrefixes : laws_FnPrefixes.Pure := by
  intro l0 hm0 hl0 hb0
  have hl : l0.length ≤ 4611686018427387903 := by omega
  refine Ev.rounds (g := fun k => laws_FnPrefixes.f k l0) ?_
  unfold laws_FnPrefixes.f
  obtain ⟨a, b, e, ha, hb, hal, hbl⟩ := DrawCommon_ev l0 hl
  obtain ⟨c, p, e2, hc, hp, hcl, hpl⟩ := DrawHasPrefix_ev l0 hl
  obtain ⟨x, e3, x0, x1⟩ := DrawNumLen_ev l0 hl
  have hle := common_le a b
  have J := FnPrefixes_j0 a b c p x ha hb hc hp hal hcl
  have hq : (((common a b : Nat) : Int) != ((common b a : Nat) : Int)) = false := by rw [common_comm b a]; simp
  refine Ev.bind e (Ev.bind (impl_Common_ev a b (by omega)) (Ev.bind e2 (Ev.bind e3 ?_)))
  dsimp only
  refine ev_neg (by omega) (ev_neg (by omega) (ev_pos (by omega) (ev_pos (by omega) (ev_pos (by omega) ?_))))
  rw [Int.toNat_natCast]
  refine Ev.bind (ev_const (sameBytes_eq _ _ (By_take _ ha) (By_take _ hb))) (ev_pos (decide_eq_true (common_take a b)) ?_)
  by_cases h1 : common a b < a.length
  · refine ev_pos (by omega) ?_
    by_cases h2 : common a b < b.length
    · refine ev_pos (by omega) (ev_neg ?_ ?_)
      · rw [rd_nat a _ h1, rd_nat b _ h2]
        exact common_next a b h1 h2
      · refine Ev.bind (impl_Common_ev b a (by omega)) ?_
        rw [hq]
        exact J
    · refine ev_neg (by omega) (Ev.bind (impl_Common_ev b a (by omega)) ?_)
      rw [hq]
      exact J
  · refine ev_neg (by omega) (Ev.bind (impl_Common_ev b a (by omega)) ?_)
    rw [hq]
    exact J
end Go.Proofs.Ytakpbfpdmkjccaa.Pure
