/- The pure statement of FnExactAddrName: both tell an address's name, and tell the same. No condition. -/
import Derived.Test.YtockllljeeakaaaDoorPFnExactAddrNamex10
import Derived.Test.YtockllljeeakaaaDoorMcore
import Derived.Test.YtockllljeeakaaaDoorMnum
namespace Go.Proofs.YtockllljeeakaaaDoor.Pure
open Go.RowKit Go.Proofs.YtockllljeeakaaaDoor.PFnExactAddrName Go.Proofs.YtockllljeeakaaaDoorW.PrintWords Go.Proofs.YtockllljeeakaaaDoorW.PrintLast Go.Proofs.YtockllljeeakaaaDoorW.PrintMore Go.Proofs.YtockllljeeakaaaDoor.M
set_option linter.unusedVariables false
set_option linter.unusedSimpArgs false
/-! laws_toByteS -/
theorem toByteS_l0 (l : List Int) (hl : l.length ≤ 4611686018427387903) : ∀ (d i : Nat) (out : List Int), i + d = l.length → out.length = l.length → out.take i = l.take i → Ev (fun k => laws_toByteS.l0 k l out i) l := by
  intro d
  induction d with
  | zero =>
    intro i out hd ho ht
    refine Ev.step (fun _ => laws_toByteS.l0.eq_2 ..) ?_
    refine ev_neg (by omega) ?_
    refine ev_is ?_
    rwa [List.take_of_length_le (by omega), List.take_of_length_le (by omega)] at ht
  | succ d ih =>
    intro i out hd ho ht
    refine Ev.step (fun _ => laws_toByteS.l0.eq_2 ..) ?_
    refine ev_pos (by omega) ?_
    refine ev_pos (by omega) ?_
    refine ev_pos (by omega) ?_
    rw [w64s i (by omega), Int.toNat_natCast]
    refine ih (i + 1) _ (by omega) (by rw [List.length_set]; exact ho) ?_
    rw [List.take_succ_eq_append_getElem (by rw [List.length_set]; omega), List.take_succ_eq_append_getElem (by omega), List.take_set_of_le (by omega), ht, List.getElem_set_self, rd_nat _ _ (by omega)]
theorem toByteS_ev (l : List Int) (hl : l.length ≤ 281474976710656) : Ev (fun k => laws_toByteS.f k l) l := by
  unfold laws_toByteS.f
  refine ev_pos (by omega) ?_
  refine ev_pos (by omega) ?_
  exact toByteS_l0 l (by omega) l.length 0 _ (by omega) (by simp) (by simp)
/-! laws_eqByteS -/
theorem eqByteS_l0 (l : List Int) (hl : l.length ≤ 4611686018427387903) : ∀ (d i : Nat), i + d = l.length → Ev (fun k => laws_eqByteS.l0 k l l i) true := by
  intro d
  induction d with
  | zero =>
    intro i hd
    refine Ev.step (fun _ => laws_eqByteS.l0.eq_2 ..) ?_
    exact ev_neg (by omega) (Ev.now _)
  | succ d ih =>
    intro i hd
    refine Ev.step (fun _ => laws_eqByteS.l0.eq_2 ..) ?_
    refine ev_pos (by omega) (ev_pos (by omega) (ev_pos (by omega) (ev_pos rfl ?_)))
    rw [w64s i (by omega)]
    exact ih (i + 1) (by omega)
theorem eqByteS_ev (l : List Int) (hl : l.length ≤ 281474976710656) : Ev (fun k => laws_eqByteS.f k l l) true := by
  unfold laws_eqByteS.f
  exact ev_pos rfl (eqByteS_l0 l (by omega) l.length 0 (by omega))
/-! laws_markByteS -/
theorem markByteS_l0 (n : Nat) (a : Int) (hn : n ≤ 281474976710656) (h0 : 0 ≤ a) (h1 : a ≤ 281474976710656) : ∀ (d i : Nat) (l : List Int), i + d = n → l.length = n → l.take i = (markL n a).take i →
    Ev (fun k => laws_markByteS.l0 k l (a + (i : Int)) i) (a + (n : Int), markL n a) := by
  intro d
  induction d with
  | zero =>
    intro i l hd hl ht
    refine Ev.step (fun _ => laws_markByteS.l0.eq_2 ..) ?_
    refine ev_neg (by omega) ?_
    refine ev_is ?_
    rw [List.take_of_length_le (by omega), List.take_of_length_le (by rw [markL_length]; omega)] at ht
    rw [ht, show (i : Int) = n by omega]
  | succ d ih =>
    intro i l hd hl ht
    refine Ev.step (fun _ => laws_markByteS.l0.eq_2 ..) ?_
    refine ev_pos (by omega) (ev_pos (by omega) ?_)
    rw [w64s i (by omega), Int.toNat_natCast, w64 (x := a + (i : Int) + 1) (by omega) (by omega), show a + (i : Int) + 1 = a + ((i + 1 : Nat) : Int) by omega]
    refine ih (i + 1) _ (by omega) (by rw [List.length_set]; exact hl) ?_
    have e := rd_markL n a i (by omega)
    rw [take_succ_rd (markL n a) i (by rw [markL_length]; omega), e, List.take_succ_eq_append_getElem (by rw [List.length_set]; omega), List.take_set_of_le (by omega), ht, List.getElem_set_self]
theorem markByteS_ev (l : List Int) (a : Int) (hl : l.length ≤ 281474976710656) (h0 : 0 ≤ a) (h1 : a ≤ 281474976710656) : Ev (fun k => laws_markByteS.f k l a) (a + (l.length : Int), markL l.length a) := by
  unfold laws_markByteS.f
  have := markByteS_l0 l.length a hl h0 h1 l.length 0 l (by omega) rfl (by simp)
  simpa using this
/-! spec_NameOk -/
theorem spec_NameOk_l0 (b : List Int) (hl : b.length ≤ 4611686018427387903) : ∀ (d i : Nat), i + d = b.length → Ev (fun k => spec_NameOk.l0 k b (i : Int)) ((b.drop i).all fun x => decide (97 ≤ x ∧ x ≤ 122)) := by
  intro d
  induction d with
  | zero =>
    intro i hd
    refine Ev.step (fun _ => spec_NameOk.l0.eq_2 ..) (ev_neg (by omega) (ev_is ?_))
    rw [List.drop_eq_nil_of_le (by omega)]; rfl
  | succ d ih =>
    intro i hd
    refine Ev.step (fun _ => spec_NameOk.l0.eq_2 ..) (ev_pos (by omega) (ev_pos (by omega) ?_))
    rw [drop_rd b i (by omega), List.all_cons, w64s i (by omega)]
    by_cases h1 : rd b (i : Int) < 97
    · refine ev_pos h1 (ev_is ?_)
      simp; omega
    · refine ev_neg h1 ?_
      by_cases h2 : rd b (i : Int) > 122
      · refine ev_pos h2 (ev_is ?_)
        simp; omega
      · refine ev_neg h2 (ev_eq (ih (i + 1) (by omega)) ?_)
        rw [decide_eq_true (show 97 ≤ rd b (i : Int) ∧ rd b (i : Int) ≤ 122 by omega)]; rfl
theorem spec_NameOk_ev (b : List Int) (hl : b.length ≤ 4611686018427387903) : Ev (fun k => spec_NameOk.f k b) (isName b) := by
  unfold spec_NameOk.f isName
  by_cases h1 : b.length < 1
  · refine ev_pos (by omega) (Ev.step (fun _ => spec_NameOk.j0.eq_2 ..) (ev_pos rfl (ev_is ?_)))
    rw [decide_eq_false (by omega)]; rfl
  · refine ev_neg (by omega) (Ev.step (fun _ => spec_NameOk.j0.eq_2 ..) ?_)
    by_cases h2 : b.length > 8
    · refine ev_pos (decide_eq_true (by omega)) (ev_is ?_)
      rw [decide_eq_false (by omega)]; rfl
    · refine ev_neg (by simp; omega) (ev_eq (spec_NameOk_l0 b hl b.length 0 (by omega)) ?_)
      rw [decide_eq_true (by omega)]; rfl
/-! bytes_Equal -/
theorem bytes_Equal_eq (a b : List Int) (ha : By a) (hb : By b) : bytes_Equal.f a b = some (decide (a = b)) := by
  unfold bytes_Equal.f
  rw [str_inj ha hb]
/-! impl_in -/
theorem in_eq (n lo hi : Int) : impl_in.f n lo hi = some (decide (lo ≤ n ∧ n ≤ hi)) := by
  unfold impl_in.f
  by_cases h : n ≥ lo
  · rw [if_pos h]; simp [h]
  · rw [if_neg h]; simp; omega
/-! impl_isName -/
theorem impl_isName_l0 (b : List Int) (hl : b.length ≤ 4611686018427387903) : ∀ (d i : Nat), i + d = b.length → Ev (fun k => impl_isName.l0 k b b (b.length : Int) (i : Int)) (((b.drop i).all fun x => decide (97 ≤ x ∧ x ≤ 122)) && decide (1 ≤ b.length ∧ b.length ≤ 8)) := by
  intro d
  induction d with
  | zero =>
    intro i hd
    refine Ev.step (fun _ => impl_isName.l0.eq_2 ..) (ev_neg (by omega) (ev_ret (ev_const ?_)))
    rw [in_eq, List.drop_eq_nil_of_le (by omega)]
    congr 1
    rw [List.all_nil, Bool.true_and]
    exact decide_eq_decide.2 (by omega)
  | succ d ih =>
    intro i hd
    refine Ev.step (fun _ => impl_isName.l0.eq_2 ..) (ev_pos (by omega) (ev_pos (by omega) (ev_pos (by omega) ?_)))
    rw [drop_rd b i (by omega), List.all_cons, w64s i (by omega)]
    by_cases h1 : rd b (i : Int) < 97
    · refine ev_pos h1 (ev_is ?_)
      rw [decide_eq_false (by omega)]; rfl
    · refine ev_neg h1 ?_
      by_cases h2 : rd b (i : Int) > 122
      · refine ev_pos h2 (ev_is ?_)
        rw [decide_eq_false (by omega)]; rfl
      · refine ev_neg h2 (ev_eq (ih (i + 1) (by omega)) ?_)
        rw [decide_eq_true (show 97 ≤ rd b (i : Int) ∧ rd b (i : Int) ≤ 122 by omega), Bool.true_and]
theorem impl_isName_ev (b : List Int) (hl : b.length ≤ 4611686018427387903) : Ev (fun k => impl_isName.f k b) (isName b) := by
  unfold impl_isName.f isName
  refine ev_eq (impl_isName_l0 b hl b.length 0 (by omega)) ?_
  rw [List.drop_zero, Bool.and_comm]
/-! bytes_HasPrefix -/
theorem bytes_HasPrefix_eq (a b : List Int) (ha : By a) (hb : By b) : bytes_HasPrefix.f a b = some (hasPre a b) := by
  unfold bytes_HasPrefix.f hasPre
  by_cases h : b.length ≤ a.length
  · rw [if_pos (by omega), if_pos (by omega), if_pos (by omega), Int.toNat_natCast, bytes_Equal_eq _ _ (By_take _ ha) hb]
    simp [h]
  · rw [if_neg (by omega)]
    simp [h]
/-! impl_copyBytes -/
theorem copyBytes_eq (b : List Int) (hb : b.length < 140737488355328) : impl_copyBytes.f b = some b := by
  unfold impl_copyBytes.f
  simp only [Option.bind_some, List.length_nil, Nat.zero_add, List.nil_append]
  rw [if_pos hb]
/-! laws_heldByteS -/
theorem heldByteS_l0 (n : Nat) (a : Int) (hn : n ≤ 281474976710656) (h0 : 0 ≤ a) (h1 : a ≤ 281474976710656) : ∀ (d i : Nat), i + d = n →
    Ev (fun k => laws_heldByteS.l0 k (markL n a) (a + (i : Int)) i) (a + (n : Int)) := by
  intro d
  induction d with
  | zero =>
    intro i hd
    refine Ev.step (fun _ => laws_heldByteS.l0.eq_2 ..) ?_
    refine ev_neg (by rw [markL_length]; omega) ?_
    refine ev_is ?_
    rw [show (i : Int) = n by omega]
  | succ d ih =>
    intro i hd
    refine Ev.step (fun _ => laws_heldByteS.l0.eq_2 ..) ?_
    refine ev_pos (by rw [markL_length]; omega) (ev_pos (by omega) (ev_pos (rd_markL n a i (by omega)) ?_))
    rw [w64s i (by omega), w64 (x := a + (i : Int) + 1) (by omega) (by omega), show a + (i : Int) + 1 = a + ((i + 1 : Nat) : Int) by omega]
    exact ih (i + 1) (by omega)
theorem heldByteS_ev (n : Nat) (a : Int) (hn : n ≤ 281474976710656) (h0 : 0 ≤ a) (h1 : a ≤ 281474976710656) : Ev (fun k => laws_heldByteS.f k (markL n a) a) (a + (n : Int)) := by
  unfold laws_heldByteS.f
  have := heldByteS_l0 n a hn h0 h1 n 0 (by omega)
  simpa using this
/-! numbers of places -/
def dd2 (m : Nat) : List UInt8 := if m < 10 then [UInt8.ofNat (48 + m)] else [UInt8.ofNat (48 + m / 10), UInt8.ofNat (48 + m % 10)]
theorem dd_eq (m : Nat) (h : m < 100) : Lib.decDigits m = dd2 m := by
  unfold dd2
  by_cases c : m < 10
  · rw [if_pos c, Lib.decDigits, dif_pos c]
  · rw [if_neg c, Lib.decDigits, dif_neg c, Lib.decDigits, dif_pos (by omega)]; rfl
theorem atoi_dd : ∀ m, m < 100 → (match Lib.atoiAll (dd2 m) with | .ok v => v == (m : Int) | _ => false) = true := by decide +kernel
def u8s (l : List Int) : List UInt8 := l.map fun n => UInt8.ofNat n.toNat
theorem u8s_inj {a b : List Int} (ha : By a) (hb : By b) (h : u8s a = u8s b) : a = b := by
  have := str_inj ha hb
  rw [ByteArray.toList_eq, ByteArray.toList_eq, strOfNums_data, strOfNums_data] at this
  have h2 : (a.map fun n => UInt8.ofNat n.toNat) = (b.map fun n => UInt8.ofNat n.toNat) := h
  rw [h2, beq_self_eq_true] at this
  exact of_decide_eq_true this.symm
def dgI (m : Nat) : List Int := if m < 10 then [48 + (m : Int)] else [48 + ((m / 10 : Nat) : Int), 48 + ((m % 10 : Nat) : Int)]
theorem dgI_By (m : Nat) (h : m < 100) : By (dgI m) := by
  intro x hx
  unfold dgI at hx
  split at hx <;> simp at hx <;> omega
theorem dgI_u8 (m : Nat) : u8s (dgI m) = dd2 m := by
  unfold u8s dgI dd2
  split
  · simp only [List.map_cons, List.map_nil]; congr 2 <;> omega
  · simp only [List.map_cons, List.map_nil]
    rw [show (48 + ((m / 10 : Nat) : Int)).toNat = 48 + m / 10 by omega, show (48 + ((m % 10 : Nat) : Int)).toNat = 48 + m % 10 by omega]
theorem numOk_of {l : List Int} (hb : By l) (h : numOk l = true) : ∃ m, m < 100 ∧ l = dgI m := by
  unfold numOk at h
  split at h
  · rename_i v hv
    rw [Bool.and_eq_true] at h
    have hr := of_decide_eq_true h.1
    have he := eq_of_beq h.2
    rw [ByteArray.toList_eq, strOfNums_data, dd_eq _ (by omega), ← dgI_u8] at he
    exact ⟨v.toNat, by omega, (u8s_inj (dgI_By _ (by omega)) hb he).symm⟩
  · cases h
theorem numOk_is (m : Nat) (h : m < 100) : numOk (dgI m) = true := by
  have h1 := atoi_dd m h
  have e : (strOfNums (dgI m)).data.toList = dd2 m := dgI_u8 m
  unfold numOk
  rw [e]
  split at h1
  · rename_i v hv
    obtain rfl := eq_of_beq h1
    rw [hv]
    dsimp only
    rw [ByteArray.toList_eq, e, Int.toNat_natCast, dd_eq m h, decide_eq_true (by omega)]
    simp
  · cases h1
/-- One or two digits, the first of two not nought. -/
def numS (t : List Int) : Bool := match t with
  | [y] => decide (48 ≤ y ∧ y ≤ 57)
  | [y, x] => decide (y ≠ 48) && (decide (48 ≤ y ∧ y ≤ 57) && decide (48 ≤ x ∧ x ≤ 57))
  | _ => false
theorem numS_of {t : List Int} (h : numS t = true) : ∃ m, m < 100 ∧ t = dgI m := by
  unfold numS at h
  split at h
  · rename_i y
    have h := of_decide_eq_true h
    refine ⟨(y - 48).toNat, by omega, ?_⟩
    unfold dgI
    rw [if_pos (by omega)]
    congr 1; omega
  · rename_i y x
    simp only [Bool.and_eq_true, decide_eq_true_eq] at h
    refine ⟨((y - 48) * 10 + (x - 48)).toNat, by omega, ?_⟩
    unfold dgI
    rw [if_neg (by omega)]
    congr 1
    · omega
    · congr 1; omega
  · cases h
theorem numS_is (m : Nat) (h : m < 100) : numS (dgI m) = true := by
  unfold dgI
  split
  · show decide _ = true
    exact decide_eq_true (by omega)
  · show (decide _ && (decide _ && decide _)) = true
    rw [decide_eq_true (by omega), decide_eq_true (by omega), decide_eq_true (by omega)]; rfl
theorem numS_eq (t : List Int) (hb : By t) : numOk t = numS t := by
  cases h : numS t with
  | true => obtain ⟨m, hm, rfl⟩ := numS_of h; exact numOk_is m hm
  | false =>
    cases h2 : numOk t with
    | false => rfl
    | true => obtain ⟨m, hm, rfl⟩ := numOk_of hb h2; rw [numS_is m hm] at h; cases h
/-! what stands behind the bracket -/
theorem cutS_nil (x : Int) : cutS [] x = ([], false) := rfl
theorem cutS_snoc (t : List Int) (z x : Int) : cutS (t ++ [z]) x = if z = x then (t, true) else (t ++ [z], false) := by
  have hl : (t ++ [z]).length - 1 = t.length := by simp
  have hg : (t ++ [z]).getD t.length 0 = z := by simp
  unfold cutS
  rw [hl, hg, List.take_left' rfl]
  by_cases c : z = x
  · rw [if_pos c, if_pos ⟨by simp, c⟩]
  · rw [if_neg c, if_neg (fun q => c q.2)]
theorem cutP_cons (y : Int) (t : List Int) (x : Int) : cutP (y :: t) x = if y = x then (t, true) else (y :: t, false) := by
  unfold cutP
  by_cases c : y = x
  · rw [if_pos c, if_pos ⟨by simp, by simpa using c⟩]; rfl
  · rw [if_neg c, if_neg (fun q => c (by simpa using q.2))]
theorem snoc_of {t : List Int} (h : t ≠ []) : ∃ s z, t = s ++ [z] := ⟨t.dropLast, t.getLast h, (List.dropLast_concat_getLast h).symm⟩
/-- Between the brackets. -/
def addrT : List Int → Bool
  | [] => false
  | y :: t => if y = 34 then (cutS t 34).2 && isName (cutS t 34).1 else numS (y :: t)
theorem addrT_cons (y : Int) (t : List Int) : addrT (y :: t) = if y = 34 then (cutS t 34).2 && isName (cutS t 34).1 else numS (y :: t) := rfl
def restB (rest : List Int) : Bool := (cutS rest 93).2 && addrT (cutS rest 93).1
theorem numS_last (t : List Int) (z : Int) (h : numS (t ++ [z]) = true) : 48 ≤ z ∧ z ≤ 57 := by
  match t with
  | [] => exact of_decide_eq_true h
  | [y] =>
    have h : (decide (y ≠ 48) && (decide (48 ≤ y ∧ y ≤ 57) && decide (48 ≤ z ∧ z ≤ 57))) = true := h
    simp only [Bool.and_eq_true, decide_eq_true_eq] at h
    exact h.2.2
  | y :: x :: t =>
    have : numS (y :: x :: t ++ [z]) = false := by
      cases t <;> rfl
    rw [this] at h; cases h
theorem isName_nil : isName [] = false := by decide
theorem restB_impl (k : Nat → List Int → Option Bool) (hk : ∀ l, l.length ≤ 1048576 → Ev (fun n => k n l) (isName l)) (i1 : List Int) (ib : Bool) (hl : i1.length ≤ 1048576) (hb : By i1) :
    Ev (fun n => if ((cutP i1 34).2 || (cutS (cutP i1 34).1 34).2) = true then (if (ib && (cutP i1 34).2 && (cutS (cutP i1 34).1 34).2) = true then k n (cutS (cutP i1 34).1 34).1 else some false) else some (ib && numOk i1)) (ib && addrT i1) := by
  cases i1 with
  | nil =>
    refine ev_neg (by decide) (ev_is ?_)
    rw [numS_eq _ By_nil]; cases ib <;> rfl
  | cons y t =>
    rw [cutP_cons]
    by_cases c : y = 34
    · rw [if_pos c]
      refine ev_pos rfl ?_
      dsimp only
      have e : addrT (y :: t) = ((cutS t 34).2 && isName (cutS t 34).1) := by rw [addrT_cons, if_pos c]
      rw [e]
      rcases hs : cutS t 34 with ⟨s1, sb⟩
      dsimp only
      have hs1 := (cutS_facts hs).1
      cases ib with
      | false => exact ev_neg (by simp) (Ev.now _)
      | true =>
        cases sb with
        | false => exact ev_neg (by decide) (Ev.now _)
        | true => exact ev_pos rfl (by simpa using hk s1 (by simp at hl; omega))
    · rw [if_neg c]
      dsimp only
      have e : addrT (y :: t) = numS (y :: t) := by rw [addrT_cons, if_neg c]
      obtain ⟨s, z, hz⟩ := snoc_of (t := y :: t) (by simp)
      rw [e, hz, cutS_snoc]
      by_cases cz : z = 34
      · rw [if_pos cz]
        refine ev_pos rfl (ev_neg (by simp) (ev_is ?_))
        have : numS (s ++ [z]) = false := by
          cases h : numS (s ++ [z]) with
          | false => rfl
          | true => have := numS_last s z h; omega
        rw [this, Bool.and_false]
      · rw [if_neg cz]
        refine ev_neg (by simp) (ev_is ?_)
        rw [numS_eq _ (hz ▸ hb)]
theorem dig_one (a y : Int) (t : List Int) : dig (a :: y :: t) 1 0 = decide (48 ≤ y ∧ y ≤ 57) := by simp [dig]
theorem dig_two (a y x : Int) (t : List Int) : dig (a :: y :: x :: t) 2 0 = (decide (48 ≤ y ∧ y ≤ 57) && decide (48 ≤ x ∧ x ≤ 57)) := by simp [dig]
theorem rest_spec (k : Nat → List Int → Option Bool) (hk : ∀ l, l.length ≤ 1048576 → Ev (fun n => k n l) (isName l)) (a : Int) (rest : List Int) (hl : rest.length ≤ 1048575) :
    Ev (fun n => if (a :: rest).length = 0 then some true else if (a :: rest).length < 3 then some false else if (a :: rest).getD ((a :: rest).length - 1) 0 ≠ 93 then some false else if (a :: rest).getD 1 0 = 34 then (if (a :: rest).length < 5 then some false else if (a :: rest).getD ((a :: rest).length - 2) 0 ≠ 34 then some false else k n (((a :: rest).drop 2).take ((a :: rest).length - 4)))
      else if 5 ≤ (a :: rest).length then some false else if (a :: rest).length = 4 ∧ (a :: rest).getD 1 0 = 48 then some false else some (dig (a :: rest) ((a :: rest).length - 2) 0)) (restB rest) := by
  refine ev_neg (by simp) ?_
  by_cases h3 : (a :: rest).length < 3
  · refine ev_pos h3 (ev_is ?_)
    match rest, h3 with
    | [], _ => rfl
    | [z], _ =>
      have := cutS_snoc [] z 93
      unfold restB
      rw [show [z] = [] ++ [z] from rfl, this]
      split <;> rfl
    | _ :: _ :: _, h => simp at h; omega
  · refine ev_neg h3 ?_
    have hne : rest ≠ [] := by intro e; subst e; simp at h3
    obtain ⟨t, z, rfl⟩ := snoc_of hne
    have ht : t.length + 2 = (a :: (t ++ [z])).length := by simp
    have hz : (a :: (t ++ [z])).getD ((a :: (t ++ [z])).length - 1) 0 = z := by
      rw [← ht, show t.length + 2 - 1 = t.length + 1 by omega]; simp
    rw [hz]
    unfold restB
    rw [cutS_snoc]
    by_cases cz : z = 93
    · rw [if_pos cz]
      refine ev_neg (by simpa using cz) ?_
      dsimp only
      rw [Bool.true_and]
      cases t with
      | nil => simp at h3
      | cons y t =>
        have hy : (a :: (y :: t ++ [z])).getD 1 0 = y := by simp
        rw [hy]
        by_cases c : y = 34
        · rw [show addrT (y :: t) = ((cutS t 34).2 && isName (cutS t 34).1) by rw [addrT_cons, if_pos c]]
          refine ev_pos c ?_
          rcases Nat.eq_zero_or_pos t.length with h0 | h0
          · obtain rfl := List.eq_nil_of_length_eq_zero h0
            exact ev_pos (by simp) (Ev.now _)
          · obtain ⟨s, x, rfl⟩ := snoc_of (t := t) (by intro e; rw [e] at h0; simp at h0)
            rw [cutS_snoc]
            by_cases h5 : (a :: (y :: (s ++ [x]) ++ [z])).length < 5
            · refine ev_pos h5 (ev_is ?_)
              have : s = [] := List.eq_nil_of_length_eq_zero (by simp at h5; omega)
              subst this
              split <;> simp [isName_nil]
            · refine ev_neg h5 ?_
              have hx : (a :: (y :: (s ++ [x]) ++ [z])).getD ((a :: (y :: (s ++ [x]) ++ [z])).length - 2) 0 = x := by
                rw [show (a :: (y :: (s ++ [x]) ++ [z])).length - 2 = s.length + 2 by simp]; simp
              rw [hx]
              by_cases cx : x = 34
              · rw [if_pos cx]
                refine ev_neg (by simpa using cx) ?_
                have hq : ((a :: (y :: (s ++ [x]) ++ [z])).drop 2).take ((a :: (y :: (s ++ [x]) ++ [z])).length - 4) = s := by
                  rw [show (a :: (y :: (s ++ [x]) ++ [z])).length - 4 = s.length by simp]
                  simp
                rw [hq]
                dsimp only
                rw [Bool.true_and]
                exact hk s (by simp at hl; omega)
              · rw [if_neg cx]
                exact ev_pos (by simpa using cx) (Ev.now _)
        · rw [show addrT (y :: t) = numS (y :: t) by rw [addrT_cons, if_neg c]]
          refine ev_neg c ?_
          match t with
          | [] =>
            refine ev_neg (by simp) (ev_neg (by simp) (ev_is ?_))
            rw [show (a :: ([y] ++ [z])).length - 2 = 1 by simp]
            exact dig_one a y _
          | [x] =>
            refine ev_neg (by simp) ?_
            by_cases c48 : y = 48
            · refine ev_pos ⟨by simp, c48⟩ (ev_is ?_)
              show false = (decide (y ≠ 48) && _)
              rw [decide_eq_false (by simpa using c48), Bool.false_and]
            · refine ev_neg (fun q => c48 q.2) (ev_is ?_)
              rw [show (a :: ([y, x] ++ [z])).length - 2 = 2 by simp]
              show dig (a :: y :: x :: [z]) 2 0 = (decide (y ≠ 48) && _)
              rw [dig_two, decide_eq_true (show y ≠ 48 from c48), Bool.true_and]
          | x :: x2 :: t =>
            refine ev_pos (by simp) (ev_is ?_)
            cases t <;> rfl
    · rw [if_neg cz]
      exact ev_pos (by simpa using cz) (Ev.now _)
theorem u8_91 (x : Int) (hx : 0 ≤ x ∧ x ≤ 255) : (UInt8.ofNat x.toNat = 91) ↔ x = 91 := by
  rw [← UInt8.toNat_inj]
  simp
  omega
theorem bytesOf_at (l : List Int) (q : Nat) : (Lib.bytesOf l)[q]? = (l[q]?).map fun n => UInt8.ofNat n.toNat := by
  unfold Lib.bytesOf
  rw [List.getElem?_map]
theorem at_91 {l : List Int} (hb : By l) (q : Nat) : (Lib.bytesOf l)[q]? = some 91 ↔ l[q]? = some 91 := by
  rw [bytesOf_at]
  cases h : l[q]? with
  | none => simp
  | some x =>
    have hx := hb x (List.mem_of_getElem? h)
    have := u8_91 x hx
    simp [this]
theorem posB_none {l : List Int} (hb : By l) (h : lbOf l = []) : posB l < 0 := by
  have hl : l = laOf l := by have := la_lb l; rw [h, List.append_nil] at this; exact this.symm
  have h2 := posB_ge l
  refine Int.not_le.1 fun hp => ?_
  obtain ⟨j, hj⟩ := Int.eq_ofNat_of_zero_le hp
  have h3 := (Lib.indexByte_some (show Lib.indexByte (Lib.bytesOf l) 91 = j from hj)).1
  rw [at_91 hb] at h3
  have hlt : j < (laOf l).length := by rw [← hl]; exact (List.getElem?_eq_some_iff.1 h3).1
  have h4 := la_no l j hlt
  rw [← hl, List.getD_eq_getElem?_getD, h3] at h4
  exact h4 rfl
theorem posB_some {l : List Int} (hb : By l) (h : 0 < (lbOf l).length) : posB l = (laOf l).length := by
  have hl := la_lb l
  have h0 := lb_first l h
  have h91 : (laOf l ++ lbOf l)[(laOf l).length]? = some 91 := by
    rw [List.getElem?_append_right (Nat.le_refl _), Nat.sub_self, List.getElem?_eq_getElem h]
    rw [List.getD_eq_getElem?_getD, List.getElem?_eq_getElem h] at h0
    exact congrArg some h0
  rw [hl] at h91
  have h2 := posB_ge l
  by_cases hp : posB l < 0
  · have : Lib.indexByte (Lib.bytesOf l) 91 = -1 := by unfold posB at hp h2; omega
    exact absurd ((at_91 hb _).2 h91) (Lib.indexByte_none this _)
  · obtain ⟨j, hj⟩ := Int.eq_ofNat_of_zero_le (by omega : 0 ≤ posB l)
    obtain ⟨h3, h4⟩ := Lib.indexByte_some (show Lib.indexByte (Lib.bytesOf l) 91 = j from hj)
    rw [at_91 hb] at h3
    rcases Nat.lt_trichotomy j (laOf l).length with c | c | c
    · have h5 := la_no l j c
      have h6 : (laOf l ++ lbOf l)[j]? = (laOf l)[j]? := List.getElem?_append_left c
      rw [hl] at h6
      rw [List.getD_eq_getElem?_getD, ← h6, h3] at h5
      exact absurd rfl h5
    · rw [hj, c]
    · exact absurd ((at_91 hb _).2 h91) (h4 _ c)
/-- Whether bytes are an address. -/
def addrB (l : List Int) : Bool := isName (laOf l) && (decide ((lbOf l).length = 0) || restB ((lbOf l).drop 1))
theorem la_len (l : List Int) : (laOf l).length + (lbOf l).length = l.length := by rw [← List.length_append, la_lb]
theorem okB_is {l : List Int} (hl : l.length ≤ 1048576) (hb : By l) : okB l = true := by
  unfold okB
  rw [decide_eq_true hl, Bool.true_and, List.all_eq_true]
  exact fun x hx => decide_eq_true (hb x hx)
theorem spec_AddrOk_ev (l : List Int) (hl : l.length ≤ 1048576) (hb : By l) : Ev (fun k => spec_AddrOk.g k l) (addrB l) := by
  have hll := la_len l
  unfold spec_AddrOk.g
  refine ev_pos (okB_is hl hb) ?_
  unfold spl addrB
  refine Ev.bind (spec_NameOk_ev _ (by omega)) ?_
  cases isName (laOf l) with
  | false => exact ev_neg (by decide) (Ev.now _)
  | true =>
    rw [Bool.true_and]
    refine ev_pos rfl ?_
    cases e : lbOf l with
    | nil => exact ev_pos rfl (Ev.now _)
    | cons a rest =>
      rw [e] at hll
      have := rest_spec (fun n q => spec_NameOk.f n q) (fun q hq => spec_NameOk_ev q (by omega)) a rest (by simp at hll; omega)
      simpa using this
theorem impl_AddrOk_ev (l : List Int) (hl : l.length ≤ 1048576) (hb : By l) : Ev (fun k => impl_AddrOk.g k l) (addrB l) := by
  have hll := la_len l
  unfold impl_AddrOk.g
  refine ev_pos (okB_is hl hb) ?_
  unfold isAddr_g addrB
  rcases Nat.eq_zero_or_pos (lbOf l).length with h0 | h0
  · have hn := List.eq_nil_of_length_eq_zero h0
    have he : laOf l = l := by have := la_lb l; rwa [hn, List.append_nil] at this
    refine ev_pos (posB_none hb hn) ?_
    rw [hn, he]
    have := impl_isName_ev l (by omega)
    simpa using this
  · have hp := posB_some hb h0
    rw [hp, Int.toNat_natCast]
    refine ev_neg (by omega) ?_
    have e1 : (laOf l ++ lbOf l).take (laOf l).length = laOf l := List.take_left' rfl
    have e2 : (laOf l ++ lbOf l).drop ((laOf l).length + 1) = (lbOf l).drop 1 := by
      rw [List.drop_append, List.drop_eq_nil_of_le (by omega), List.nil_append]
      congr 1; omega
    rw [la_lb] at e1 e2
    rw [e1, e2]
    refine Ev.bind (impl_isName_ev _ (by omega)) ?_
    cases isName (laOf l) with
    | false => exact ev_neg (by decide) (Ev.now _)
    | true =>
      rw [Bool.true_and, decide_eq_false (by omega), Bool.false_or]
      refine ev_pos rfl ?_
      unfold restB
      have hd : ((lbOf l).drop 1).length ≤ 1048576 := by rw [List.length_drop]; omega
      have hbd : By ((lbOf l).drop 1) := by rw [← e2]; exact By_drop _ hb
      rcases hi : cutS ((lbOf l).drop 1) 93 with ⟨i1, ib⟩
      have hf := cutS_facts hi
      exact restB_impl (fun n q => impl_isName.f n q) (fun q hq => impl_isName_ev q (by omega)) i1 ib (by omega) (hf.2 hbd)
theorem nmOf_eq (l : List Int) (hb : By l) : nmOf l = laOf l := by
  have h := la_lb l
  unfold nmOf
  rcases Nat.eq_zero_or_pos (lbOf l).length with h0 | h0
  · have h1 := List.eq_nil_of_length_eq_zero h0
    rw [if_pos (posB_none hb h1)]
    rw [h1, List.append_nil] at h
    exact h.symm
  · have hp := posB_some hb h0
    rw [hp, if_neg (by omega), Int.toNat_natCast]
    have e1 : (laOf l ++ lbOf l).take (laOf l).length = laOf l := List.take_left' rfl
    rw [la_lb] at e1
    exact e1
theorem spec_AddrName_ev (l : List Int) (hl : l.length ≤ 1048576) (hb : By l) : Ev (fun k => spec_AddrName.g k l) (if addrB l = true then laOf l else []) := by
  have h := spec_AddrOk_ev l hl hb
  unfold spec_AddrOk.g at h
  unfold spec_AddrName.g
  simp only [okB_is hl hb, ↓reduceIte] at h ⊢
  refine Ev.bind h ?_
  cases addrB l with
  | true => exact ev_pos rfl (Ev.now _)
  | false => exact ev_neg (by decide) (Ev.now _)
theorem impl_AddrName_ev (l : List Int) (hl : l.length ≤ 1048576) (hb : By l) : Ev (fun k => impl_AddrName.g k l) (if addrB l = true then laOf l else []) := by
  have h := impl_AddrOk_ev l hl hb
  unfold impl_AddrOk.g at h
  unfold impl_AddrName.g
  simp only [okB_is hl hb, ↓reduceIte] at h ⊢
  refine Ev.bind h ?_
  cases addrB l with
  | true => rw [nmOf_eq l hb]; exact ev_pos rfl (Ev.now _)
  | false => exact ev_neg (by decide) (Ev.now _)
theorem FnExactAddrName (l0 : List Int) (hl0 : l0.length ≤ maxLen) (hb : By l0) : ∃ k, laws_FnExactAddrName.f k l0 = some true := by
  refine Ev.rounds (g := fun k => laws_FnExactAddrName.f k l0) ?_
  unfold laws_FnExactAddrName.f
  refine ev_ite (fun _ => Ev.now _) fun hs => ?_
  have hl : l0.length ≤ 1048576 := by omega
  obtain ⟨r, hr⟩ : ∃ r : List Int, r = (if addrB l0 = true then laOf l0 else []) := ⟨_, rfl⟩
  have hrl : r.length ≤ 1048586 := by
    have := la_len l0
    rw [hr]
    split
    · omega
    · simp
  have e1 := spec_AddrName_ev l0 hl hb
  have e2 := impl_AddrName_ev l0 hl hb
  rw [← hr] at e1 e2
  have hh := heldByteS_ev r.length 1 (by omega) (by omega) (by omega)
  refine Ev.bind (toByteS_ev l0 (by omega)) (Ev.bind e1 (Ev.bind e2 (Ev.bind (eqByteS_ev r (by omega)) (ev_pos rfl (Ev.bind (eqByteS_ev l0 (by omega)) (ev_pos rfl (ev_pos (by omega) (Ev.bind (Ev.now _) (ev_neg (by omega) (ev_pos (by omega) (Ev.bind (Ev.now _) (Ev.bind hh (ev_neg (by omega) (ev_pos rfl (Ev.now _)))))))))))))))
end Go.Proofs.YtockllljeeakaaaDoor.Pure
