/- The pure statement of FnExactAddrItem: both make an item's address, and make the same. No condition. -/
import Derived.Test.YtmigpeaiepdmbaaDoorPFnExactAddrItemx4
import Derived.Test.YtmigpeaiepdmbaaDoorMcore
import Derived.Test.YtmigpeaiepdmbaaDoorMnum
namespace Go.Proofs.YtmigpeaiepdmbaaDoor.Pure
open Go.RowKit Go.Proofs.YtmigpeaiepdmbaaDoor.PFnExactAddrItem Go.Proofs.YtmigpeaiepdmbaaDoorW.PrintWords Go.Proofs.YtmigpeaiepdmbaaDoorW.PrintLast Go.Proofs.YtmigpeaiepdmbaaDoorW.PrintMore Go.Proofs.YtmigpeaiepdmbaaDoor.M
set_option linter.unusedVariables false
set_option linter.unusedSimpArgs false
/-! spec_NameOk -/
theorem spec_NameOk_l0 (b : List Int) (hl : b.length ≤ 4611686018427387903) : ∀ (d i : Nat), i + d = b.length → Ev (fun k => spec_NameOk.l0 k b (i : Int)) ((b.drop i).all fun x => decide (97 ≤ x ∧ x ≤ 122)) := by
  intro d
  induction d with
  | zero =>
    intro i hd
    refine Ev.step (fun _ => spec_NameOk.l0.eq_2 ..) (ev_neg (by omega) (ev_is ?_))
    rw [List.drop_eq_nil_of_le (by omega)]; rfl
  | succ d ih =>
    intro i hd
    refine Ev.step (fun _ => spec_NameOk.l0.eq_2 ..) (ev_pos (by omega) (ev_pos (by omega) ?_))
    rw [drop_rd b i (by omega), List.all_cons, w64s i (by omega)]
    by_cases h1 : rd b (i : Int) < 97
    · refine ev_pos h1 (ev_is ?_)
      simp; omega
    · refine ev_neg h1 ?_
      by_cases h2 : rd b (i : Int) > 122
      · refine ev_pos h2 (ev_is ?_)
        simp; omega
      · refine ev_neg h2 (ev_eq (ih (i + 1) (by omega)) ?_)
        rw [decide_eq_true (show 97 ≤ rd b (i : Int) ∧ rd b (i : Int) ≤ 122 by omega)]; rfl
theorem spec_NameOk_ev (b : List Int) (hl : b.length ≤ 4611686018427387903) : Ev (fun k => spec_NameOk.f k b) (isName b) := by
  unfold spec_NameOk.f isName
  by_cases h1 : b.length < 1
  · refine ev_pos (by omega) (Ev.step (fun _ => spec_NameOk.j0.eq_2 ..) (ev_pos rfl (ev_is ?_)))
    rw [decide_eq_false (by omega)]; rfl
  · refine ev_neg (by omega) (Ev.step (fun _ => spec_NameOk.j0.eq_2 ..) ?_)
    by_cases h2 : b.length > 8
    · refine ev_pos (decide_eq_true (by omega)) (ev_is ?_)
      rw [decide_eq_false (by omega)]; rfl
    · refine ev_neg (by simp; omega) (ev_eq (spec_NameOk_l0 b hl b.length 0 (by omega)) ?_)
      rw [decide_eq_true (by omega)]; rfl
/-! spec_l2digits -/
theorem itoaL_two (i : Int) (h0 : 0 ≤ i) (h1 : i ≤ 99) : itoaL i = if i < 10 then [48 + i] else [48 + i / 10, 48 + i % 10] := by
  have h : ∀ n : Nat, n ≤ 99 → itoaL (n : Int) = if (n : Int) < 10 then [48 + (n : Int)] else [48 + (n : Int) / 10, 48 + (n : Int) % 10] := by decide +kernel
  obtain ⟨n, rfl⟩ := Int.eq_ofNat_of_zero_le h0
  exact h n (by omega)
theorem l2digits_ten (i : Int) (h0 : 0 ≤ i) (h1 : i < 10) : Ev (fun k => spec_l2digits.f k i) [48 + i] := by
  refine Ev.step (fun _ => spec_l2digits.f.eq_2 ..) (ev_neg (by omega) (ev_pos h1 (ev_is ?_)))
  rw [w64 (x := 48 + i) (by omega) (by omega), show (48 + i) % 256 = 48 + i by omega]
theorem l2digits_ev (i : Int) (h0 : 0 ≤ i) (h1 : i ≤ 99) : Ev (fun k => spec_l2digits.f k i) (itoaL i) := by
  rw [itoaL_two i h0 h1]
  by_cases h : i < 10
  · rw [if_pos h]; exact l2digits_ten i h0 h
  · rw [if_neg h]
    refine Ev.step (fun _ => spec_l2digits.f.eq_2 ..) (ev_neg (by omega) (ev_neg h ?_))
    rw [Int.tdiv_eq_ediv_of_nonneg h0, Int.tmod_eq_emod_of_nonneg h0, w64 (x := i / 10) (by omega) (by omega), w64 (x := 48 + i % 10) (by omega) (by omega), show (48 + i % 10) % 256 = 48 + i % 10 by omega]
    exact Ev.bind (l2digits_ten (i / 10) (by omega) (by omega)) (ev_pos (by simp) (Ev.now _))
/-! spec_l4item -/
theorem l4item_ev (l : List Int) (i : Int) (hl : l.length ≤ 1048576) (h0 : 0 ≤ i) (h1 : i ≤ 99) : Ev (fun k => spec_l4item.f k l i) (l ++ [91] ++ itoaL i ++ [93]) := by
  have := itoaL_len i h0 h1
  unfold spec_l4item.f
  refine Ev.bind (Ev.now _) (ev_pos (by simp; omega) (Ev.bind (Ev.now _) (ev_pos (by simp; omega) (Ev.bind (Ev.now _) (Ev.bind (l2digits_ev i h0 h1) (ev_pos (by simp; omega) (Ev.bind (Ev.now _) (ev_pos (by simp; omega) (ev_is ?_)))))))))
  simp
/-! spec_AddrItem -/
theorem spec_AddrItem_ev (l : List Int) (i : Int) (hl : l.length ≤ 1048576) : Ev (fun k => spec_AddrItem.f k l i) (if isName l = true ∧ 0 ≤ i ∧ i ≤ 99 then l ++ [91] ++ itoaL i ++ [93] else []) := by
  unfold spec_AddrItem.f
  refine Ev.bind (spec_NameOk_ev l (by omega)) (ev_ite (fun h => ?_) (fun h => ?_))
  · by_cases h0 : i < 0
    · rw [if_neg (by omega)]; exact ev_pos h0 (Ev.now _)
    refine ev_neg h0 ?_
    by_cases h1 : i > 99
    · rw [if_neg (by omega)]; exact ev_pos h1 (Ev.now _)
    rw [if_pos ⟨h, by omega, by omega⟩]
    exact ev_neg h1 (Ev.bind (l4item_ev l i hl (by omega) (by omega)) (Ev.now _))
  · rw [if_neg (fun q => h q.1)]; exact Ev.now _
/-! laws_toByteS -/
theorem toByteS_l0 (l : List Int) (hl : l.length ≤ 4611686018427387903) : ∀ (d i : Nat) (out : List Int), i + d = l.length → out.length = l.length → out.take i = l.take i → Ev (fun k => laws_toByteS.l0 k l out i) l := by
  intro d
  induction d with
  | zero =>
    intro i out hd ho ht
    refine Ev.step (fun _ => laws_toByteS.l0.eq_2 ..) ?_
    refine ev_neg (by omega) ?_
    refine ev_is ?_
    rwa [List.take_of_length_le (by omega), List.take_of_length_le (by omega)] at ht
  | succ d ih =>
    intro i out hd ho ht
    refine Ev.step (fun _ => laws_toByteS.l0.eq_2 ..) ?_
    refine ev_pos (by omega) ?_
    refine ev_pos (by omega) ?_
    refine ev_pos (by omega) ?_
    rw [w64s i (by omega), Int.toNat_natCast]
    refine ih (i + 1) _ (by omega) (by rw [List.length_set]; exact ho) ?_
    rw [List.take_succ_eq_append_getElem (by rw [List.length_set]; omega), List.take_succ_eq_append_getElem (by omega), List.take_set_of_le (by omega), ht, List.getElem_set_self, rd_nat _ _ (by omega)]
theorem toByteS_ev (l : List Int) (hl : l.length ≤ 281474976710656) : Ev (fun k => laws_toByteS.f k l) l := by
  unfold laws_toByteS.f
  refine ev_pos (by omega) ?_
  refine ev_pos (by omega) ?_
  exact toByteS_l0 l (by omega) l.length 0 _ (by omega) (by simp) (by simp)
/-! impl_in -/
theorem in_eq (n lo hi : Int) : impl_in.f n lo hi = some (decide (lo ≤ n ∧ n ≤ hi)) := by
  unfold impl_in.f
  by_cases h : n ≥ lo
  · rw [if_pos h]; simp [h]
  · rw [if_neg h]; simp; omega
/-! impl_isName -/
theorem impl_isName_l0 (b : List Int) (hl : b.length ≤ 4611686018427387903) : ∀ (d i : Nat), i + d = b.length → Ev (fun k => impl_isName.l0 k b b (b.length : Int) (i : Int)) (((b.drop i).all fun x => decide (97 ≤ x ∧ x ≤ 122)) && decide (1 ≤ b.length ∧ b.length ≤ 8)) := by
  intro d
  induction d with
  | zero =>
    intro i hd
    refine Ev.step (fun _ => impl_isName.l0.eq_2 ..) (ev_neg (by omega) (ev_ret (ev_const ?_)))
    rw [in_eq, List.drop_eq_nil_of_le (by omega)]
    congr 1
    rw [List.all_nil, Bool.true_and]
    exact decide_eq_decide.2 (by omega)
  | succ d ih =>
    intro i hd
    refine Ev.step (fun _ => impl_isName.l0.eq_2 ..) (ev_pos (by omega) (ev_pos (by omega) (ev_pos (by omega) ?_)))
    rw [drop_rd b i (by omega), List.all_cons, w64s i (by omega)]
    by_cases h1 : rd b (i : Int) < 97
    · refine ev_pos h1 (ev_is ?_)
      rw [decide_eq_false (by omega)]; rfl
    · refine ev_neg h1 ?_
      by_cases h2 : rd b (i : Int) > 122
      · refine ev_pos h2 (ev_is ?_)
        rw [decide_eq_false (by omega)]; rfl
      · refine ev_neg h2 (ev_eq (ih (i + 1) (by omega)) ?_)
        rw [decide_eq_true (show 97 ≤ rd b (i : Int) ∧ rd b (i : Int) ≤ 122 by omega), Bool.true_and]
theorem impl_isName_ev (b : List Int) (hl : b.length ≤ 4611686018427387903) : Ev (fun k => impl_isName.f k b) (isName b) := by
  unfold impl_isName.f isName
  refine ev_eq (impl_isName_l0 b hl b.length 0 (by omega)) ?_
  rw [List.drop_zero, Bool.and_comm]
/-! impl_copyBytes -/
theorem copyBytes_eq (b : List Int) (hb : b.length < 140737488355328) : impl_copyBytes.f b = some b := by
  unfold impl_copyBytes.f
  simp only [Option.bind_some, List.length_nil, Nat.zero_add, List.nil_append]
  rw [if_pos hb]
/-! laws_eqByteS -/
theorem eqByteS_l0 (l : List Int) (hl : l.length ≤ 4611686018427387903) : ∀ (d i : Nat), i + d = l.length → Ev (fun k => laws_eqByteS.l0 k l l i) true := by
  intro d
  induction d with
  | zero =>
    intro i hd
    refine Ev.step (fun _ => laws_eqByteS.l0.eq_2 ..) ?_
    exact ev_neg (by omega) (Ev.now _)
  | succ d ih =>
    intro i hd
    refine Ev.step (fun _ => laws_eqByteS.l0.eq_2 ..) ?_
    refine ev_pos (by omega) (ev_pos (by omega) (ev_pos (by omega) (ev_pos rfl ?_)))
    rw [w64s i (by omega)]
    exact ih (i + 1) (by omega)
theorem eqByteS_ev (l : List Int) (hl : l.length ≤ 281474976710656) : Ev (fun k => laws_eqByteS.f k l l) true := by
  unfold laws_eqByteS.f
  exact ev_pos rfl (eqByteS_l0 l (by omega) l.length 0 (by omega))
/-! laws_markByteS -/
theorem markByteS_l0 (n : Nat) (a : Int) (hn : n ≤ 281474976710656) (h0 : 0 ≤ a) (h1 : a ≤ 281474976710656) : ∀ (d i : Nat) (l : List Int), i + d = n → l.length = n → l.take i = (markL n a).take i →
    Ev (fun k => laws_markByteS.l0 k l (a + (i : Int)) i) (a + (n : Int), markL n a) := by
  intro d
  induction d with
  | zero =>
    intro i l hd hl ht
    refine Ev.step (fun _ => laws_markByteS.l0.eq_2 ..) ?_
    refine ev_neg (by omega) ?_
    refine ev_is ?_
    rw [List.take_of_length_le (by omega), List.take_of_length_le (by rw [markL_length]; omega)] at ht
    rw [ht, show (i : Int) = n by omega]
  | succ d ih =>
    intro i l hd hl ht
    refine Ev.step (fun _ => laws_markByteS.l0.eq_2 ..) ?_
    refine ev_pos (by omega) (ev_pos (by omega) ?_)
    rw [w64s i (by omega), Int.toNat_natCast, w64 (x := a + (i : Int) + 1) (by omega) (by omega), show a + (i : Int) + 1 = a + ((i + 1 : Nat) : Int) by omega]
    refine ih (i + 1) _ (by omega) (by rw [List.length_set]; exact hl) ?_
    have e := rd_markL n a i (by omega)
    rw [take_succ_rd (markL n a) i (by rw [markL_length]; omega), e, List.take_succ_eq_append_getElem (by rw [List.length_set]; omega), List.take_set_of_le (by omega), ht, List.getElem_set_self]
theorem markByteS_ev (l : List Int) (a : Int) (hl : l.length ≤ 281474976710656) (h0 : 0 ≤ a) (h1 : a ≤ 281474976710656) : Ev (fun k => laws_markByteS.f k l a) (a + (l.length : Int), markL l.length a) := by
  unfold laws_markByteS.f
  have := markByteS_l0 l.length a hl h0 h1 l.length 0 l (by omega) rfl (by simp)
  simpa using this
/-! laws_heldByteS -/
theorem heldByteS_l0 (n : Nat) (a : Int) (hn : n ≤ 281474976710656) (h0 : 0 ≤ a) (h1 : a ≤ 281474976710656) : ∀ (d i : Nat), i + d = n →
    Ev (fun k => laws_heldByteS.l0 k (markL n a) (a + (i : Int)) i) (a + (n : Int)) := by
  intro d
  induction d with
  | zero =>
    intro i hd
    refine Ev.step (fun _ => laws_heldByteS.l0.eq_2 ..) ?_
    refine ev_neg (by rw [markL_length]; omega) ?_
    refine ev_is ?_
    rw [show (i : Int) = n by omega]
  | succ d ih =>
    intro i hd
    refine Ev.step (fun _ => laws_heldByteS.l0.eq_2 ..) ?_
    refine ev_pos (by rw [markL_length]; omega) (ev_pos (by omega) (ev_pos (rd_markL n a i (by omega)) ?_))
    rw [w64s i (by omega), w64 (x := a + (i : Int) + 1) (by omega) (by omega), show a + (i : Int) + 1 = a + ((i + 1 : Nat) : Int) by omega]
    exact ih (i + 1) (by omega)
theorem heldByteS_ev (n : Nat) (a : Int) (hn : n ≤ 281474976710656) (h0 : 0 ≤ a) (h1 : a ≤ 281474976710656) : Ev (fun k => laws_heldByteS.f k (markL n a) a) (a + (n : Int)) := by
  unfold laws_heldByteS.f
  have := heldByteS_l0 n a hn h0 h1 n 0 (by omega)
  simpa using this
/-! impl_AddrItem -/
theorem impl_AddrItem_ev (l : List Int) (i : Int) (hl : l.length ≤ 1048576) : Ev (fun k => impl_AddrItem.f k l i) (if isName l = true ∧ 0 ≤ i ∧ i ≤ 99 then l ++ [91] ++ itoaL i ++ [93] else []) := by
  unfold impl_AddrItem.f
  refine Ev.bind (impl_isName_ev l (by omega)) (ev_ite (fun h => ?_) (fun h => ?_))
  · refine Ev.bind (ev_const (in_eq i 0 99)) ?_
    by_cases h0 : 0 ≤ i ∧ i ≤ 99
    · have e : (if isName l = true ∧ 0 ≤ i ∧ i ≤ 99 then l ++ [91] ++ itoaL i ++ [93] else []) = l ++ [91] ++ itoaL i ++ [93] := if_pos ⟨h, h0⟩
      rw [e]
      exact ev_pos (decide_eq_true h0) (Ev.bind (ev_const (copyBytes_eq l (by omega))) (ev_pos (by omega) (Ev.now _)))
    · have e : (if isName l = true ∧ 0 ≤ i ∧ i ≤ 99 then l ++ [91] ++ itoaL i ++ [93] else []) = [] := if_neg (fun q => h0 q.2)
      rw [e]
      exact ev_neg (by rw [decide_eq_false h0]; decide) (Ev.now _)
  · rw [if_neg (fun q => h q.1)]; exact Ev.now _
theorem FnExactAddrItem (l0 : List Int) (hl0 : l0.length ≤ maxLen) (a1 : Int) : ∃ k, laws_FnExactAddrItem.f k l0 a1 = some true := by
  refine Ev.rounds (g := fun k => laws_FnExactAddrItem.f k l0 a1) ?_
  unfold laws_FnExactAddrItem.f
  refine ev_ite (fun _ => Ev.now _) fun hs => ?_
  have hl : l0.length ≤ 1048576 := by omega
  obtain ⟨r, hr⟩ : ∃ r : List Int, r = (if isName l0 = true ∧ 0 ≤ a1 ∧ a1 ≤ 99 then l0 ++ [91] ++ itoaL a1 ++ [93] else []) := ⟨_, rfl⟩
  have hrl : r.length ≤ 1048586 := by
    rw [hr]
    split
    · rename_i h
      have := itoaL_len a1 h.2.1 h.2.2
      simp
      omega
    · simp
  have e1 := spec_AddrItem_ev l0 a1 hl
  have e2 := impl_AddrItem_ev l0 a1 hl
  rw [← hr] at e1 e2
  have hh := heldByteS_ev r.length 1 (by omega) (by omega) (by omega)
  refine Ev.bind (toByteS_ev l0 (by omega)) (Ev.bind e1 (Ev.bind e2 (Ev.bind (eqByteS_ev r (by omega)) (ev_pos rfl (Ev.bind (eqByteS_ev l0 (by omega)) (ev_pos rfl (ev_pos (by omega) (Ev.bind (Ev.now _) (ev_neg (by omega) (ev_pos (by omega) (Ev.bind (Ev.now _) (Ev.bind hh (ev_neg (by omega) (ev_pos rfl (Ev.now _)))))))))))))))
end Go.Proofs.YtmigpeaiepdmbaaDoor.Pure
