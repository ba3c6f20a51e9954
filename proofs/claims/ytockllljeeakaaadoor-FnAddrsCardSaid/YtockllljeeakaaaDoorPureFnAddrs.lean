/- The pure facts of FnAddrs: an address that is made has its name. No condition. -/
import Derived.Test.YtockllljeeakaaaDoorPFnAddrsx0
import Derived.Test.YtockllljeeakaaaDoorPFnAddrsx1
import Derived.Test.YtockllljeeakaaaDoorPFnAddrsx2
import Derived.Test.YtockllljeeakaaaDoorPFnAddrsx3
import Derived.Test.YtockllljeeakaaaDoorPFnAddrsx4
import Derived.Test.YtockllljeeakaaaDoorPFnAddrsx5
import Derived.Test.YtockllljeeakaaaDoorPFnAddrsx6
import Derived.Test.YtockllljeeakaaaDoorPFnAddrsx7
import Derived.Test.YtockllljeeakaaaDoorPFnAddrsx8
import Derived.Test.YtockllljeeakaaaDoorPFnAddrsx9
import Derived.Test.YtockllljeeakaaaDoorMcore
import Derived.Test.YtockllljeeakaaaDoorMnum
import Derived.Test.YtockllljeeakaaaDoorMdraw
namespace Go.Proofs.YtockllljeeakaaaDoor.Pure
open Go.RowKit Go.Proofs.YtockllljeeakaaaDoor.PFnAddrs Go.Proofs.YtockllljeeakaaaDoorW.PrintWords Go.Proofs.YtockllljeeakaaaDoorW.PrintLast Go.Proofs.YtockllljeeakaaaDoorW.PrintMore Go.Proofs.YtockllljeeakaaaDoor.M
set_option linter.unusedVariables false
set_option linter.unusedSimpArgs false
/-- A number below a hundred, in decimals. -/
def itoaL (i : Int) : List Int := if i < 10 then [48 + i] else [48 + i / 10, 48 + i % 10]
theorem itoaL_len (i : Int) (h0 : 0 ≤ i) (h1 : i ≤ 99) : (itoaL i).length ≤ 2 := by unfold itoaL; split <;> simp
/-! bytes_Equal -/
theorem bytes_Equal_eq (a b : List Int) (ha : By a) (hb : By b) : bytes_Equal.f a b = some (decide (a = b)) := by
  unfold bytes_Equal.f
  rw [str_inj ha hb]
/-! impl_in -/
theorem in_eq (n lo hi : Int) : impl_in.f n lo hi = some (decide (lo ≤ n ∧ n ≤ hi)) := by
  unfold impl_in.f
  by_cases h : n ≥ lo
  · rw [if_pos h]; simp [h]
  · rw [if_neg h]; simp; omega
/-! impl_isName -/
theorem impl_isName_l0 (b : List Int) (hl : b.length ≤ 4611686018427387903) : ∀ (d i : Nat), i + d = b.length → Ev (fun k => impl_isName.l0 k b b (b.length : Int) (i : Int)) (((b.drop i).all fun x => decide (97 ≤ x ∧ x ≤ 122)) && decide (1 ≤ b.length ∧ b.length ≤ 8)) := by
  intro d
  induction d with
  | zero =>
    intro i hd
    refine Ev.step (fun _ => impl_isName.l0.eq_2 ..) (ev_neg (by omega) (ev_ret (ev_const ?_)))
    rw [in_eq, List.drop_eq_nil_of_le (by omega)]
    congr 1
    rw [List.all_nil, Bool.true_and]
    exact decide_eq_decide.2 (by omega)
  | succ d ih =>
    intro i hd
    refine Ev.step (fun _ => impl_isName.l0.eq_2 ..) (ev_pos (by omega) (ev_pos (by omega) (ev_pos (by omega) ?_)))
    rw [drop_rd b i (by omega), List.all_cons, w64s i (by omega)]
    by_cases h1 : rd b (i : Int) < 97
    · refine ev_pos h1 (ev_is ?_)
      rw [decide_eq_false (by omega)]; rfl
    · refine ev_neg h1 ?_
      by_cases h2 : rd b (i : Int) > 122
      · refine ev_pos h2 (ev_is ?_)
        rw [decide_eq_false (by omega)]; rfl
      · refine ev_neg h2 (ev_eq (ih (i + 1) (by omega)) ?_)
        rw [decide_eq_true (show 97 ≤ rd b (i : Int) ∧ rd b (i : Int) ≤ 122 by omega), Bool.true_and]
theorem impl_isName_ev (b : List Int) (hl : b.length ≤ 4611686018427387903) : Ev (fun k => impl_isName.f k b) (isName b) := by
  unfold impl_isName.f isName
  refine ev_eq (impl_isName_l0 b hl b.length 0 (by omega)) ?_
  rw [List.drop_zero, Bool.and_comm]
/-! impl_copyBytes -/
theorem copyBytes_eq (b : List Int) (hb : b.length < 140737488355328) : impl_copyBytes.f b = some b := by
  unfold impl_copyBytes.f
  simp only [Option.bind_some, List.length_nil, Nat.zero_add, List.nil_append]
  rw [if_pos hb]
/-! spec_l1New -/
theorem l1New_l0 (l : List Int) (hl : l.length ≤ 4611686018427387903) : ∀ (d i : Nat) (h : Int), i + d = l.length → ∃ h', Ev (fun k => spec_l1New.l0 k l h (i : Int)) (l, 0, h') := by
  intro d
  induction d with
  | zero =>
    intro i h hd
    exact ⟨h, Ev.step (fun _ => spec_l1New.l0.eq_2 ..) (ev_neg (by omega) (Ev.now _))⟩
  | succ d ih =>
    intro i h hd
    by_cases h4 : (i : Int) < 4000
    · obtain ⟨h', e⟩ := ih (i + 1) _ (by omega)
      refine ⟨h', Ev.step (fun _ => spec_l1New.l0.eq_2 ..) (ev_pos (by omega) (ev_pos h4 (ev_pos (by omega) ?_)))⟩
      rw [w64s i (by omega)]
      exact e
    · exact ⟨h, Ev.step (fun _ => spec_l1New.l0.eq_2 ..) (ev_pos (by omega) (ev_neg h4 (Ev.now _)))⟩
theorem l1New_ev (l : List Int) (hl : l.length ≤ 4611686018427387903) : ∃ h, Ev (fun k => spec_l1New.f k l) (l, 0, h) := by
  unfold spec_l1New.f
  exact l1New_l0 l hl l.length 0 _ (by omega)
/-! spec_l1Byte -/
theorem l1Byte_ok (l : List Int) (i h : Int) (hl : l.length ≤ 4611686018427387903) (hi : 0 ≤ i) : ∃ x i' h', spec_l1Byte.f l i h = some (x, i', h') ∧ 0 ≤ x ∧ x ≤ 255 ∧ 0 ≤ i' := by
  unfold spec_l1Byte.f
  by_cases hq : i < (l.length : Int)
  · rw [if_pos hq, if_pos hi]
    exact ⟨_, _, _, rfl, (and255 _).1, (and255 _).2, by rw [w64 (by omega) (by omega)]; omega⟩
  · rw [if_neg hq]
    exact ⟨_, _, _, rfl, (and255 _).1, (and255 _).2, hi⟩
/-! spec_l1Below -/
theorem l1Below_ok (l : List Int) (i h n : Int) (hl : l.length ≤ 4611686018427387903) (hi : 0 ≤ i) : ∃ x i' h', spec_l1Below.f l i h n = some (x, i', h') ∧ 0 ≤ x ∧ (x < n ∨ (n ≤ 0 ∧ x = 0)) ∧ 0 ≤ i' := by
  unfold spec_l1Below.f
  by_cases h0 : n ≤ 0
  · rw [if_pos h0]
    exact ⟨_, _, _, rfl, by omega, by omega, hi⟩
  · rw [if_neg h0]
    have ht : ∀ x : Int, 0 ≤ x → 0 ≤ Int.tmod x n ∧ Int.tmod x n < n := fun x hx => by
      rw [Int.tmod_eq_emod_of_nonneg hx]
      exact ⟨Int.emod_nonneg _ (by omega), Int.emod_lt_of_pos _ (by omega)⟩
    by_cases h1 : n ≤ 256
    · rw [if_pos h1]
      obtain ⟨x, i', h', e, a, b, c⟩ := l1Byte_ok l i h hl hi
      rw [e]
      simp only [Option.bind_some]
      rw [if_neg (by omega)]
      exact ⟨_, _, _, rfl, (ht x a).1, Or.inl (ht x a).2, c⟩
    · rw [if_neg h1]
      obtain ⟨x, i1, h1, e1, a1, b1, c1⟩ := l1Byte_ok l i h hl hi
      obtain ⟨y, i2, h2, e2, a2, b2, c2⟩ := l1Byte_ok l i1 h1 hl c1
      obtain ⟨z, i3, h3, e3, a3, b3, c3⟩ := l1Byte_ok l i2 h2 hl c2
      obtain ⟨u, i4, h4, e4, a4, b4, c4⟩ := l1Byte_ok l i3 h3 hl c3
      rw [e1]; simp only [Option.bind_some]
      rw [e2]; simp only [Option.bind_some]
      rw [e3]; simp only [Option.bind_some]
      rw [e4]; simp only [Option.bind_some]
      rw [if_neg (by omega)]
      rw [w64 (x := x * 16777216) (by omega) (by omega), w64 (x := y * 65536) (by omega) (by omega), w64 (x := z * 256) (by omega) (by omega), w64 (x := x * 16777216 + y * 65536) (by omega) (by omega), w64 (x := x * 16777216 + y * 65536 + z * 256) (by omega) (by omega), w64 (x := x * 16777216 + y * 65536 + z * 256 + u) (by omega) (by omega)]
      have := ht (x * 16777216 + y * 65536 + z * 256 + u) (by omega)
      exact ⟨_, _, _, rfl, this.1, Or.inl this.2, c4⟩
/-! spec_l1Once -/
theorem l1Once_ok (l : List Int) (i h n : Int) (hl : l.length ≤ 4611686018427387903) (hi : 0 ≤ i) : ∃ x i' h', spec_l1Once.f l i h n = some (x, i', h') ∧ 0 ≤ i' := by
  unfold spec_l1Once.f
  obtain ⟨x, i1, h1, e, a, b, c⟩ := l1Below_ok l i h n hl hi
  rw [e]; simp only [Option.bind_some]
  exact ⟨_, _, _, rfl, c⟩
/-! spec_l1PickInt -/
theorem l1PickInt_ok (l : List Int) (i h : Int) (xs : List Int) (hl : l.length ≤ 4611686018427387903) (hi : 0 ≤ i) (hx : 0 < xs.length) : ∃ x i' h', spec_l1PickInt.f l i h xs = some (x, i', h') ∧ x ∈ xs ∧ 0 ≤ i' := by
  unfold spec_l1PickInt.f
  obtain ⟨x, i1, h1, e, a, b, c⟩ := l1Below_ok l i h xs.length hl hi
  rw [e]; simp only [Option.bind_some]
  rw [if_pos a, if_pos (by omega)]
  obtain ⟨n, rfl⟩ := Int.eq_ofNat_of_zero_le a
  refine ⟨_, _, _, rfl, ?_, c⟩
  rw [rd_nat xs n (by omega)]
  exact List.getElem_mem _
/-! impl_AddrKey -/
theorem impl_AddrKey_ev (a b : List Int) (ha : a.length ≤ 1000000000) (hb : b.length ≤ 1000000000) : Ev (fun k => impl_AddrKey.f k a b) (if isName a && isName b then addrKey a b else []) := by
  unfold impl_AddrKey.f
  refine Ev.bind (impl_isName_ev a (by omega)) ?_
  by_cases h1 : isName a = true
  · refine ev_pos h1 (Ev.bind (impl_isName_ev b (by omega)) ?_)
    by_cases h2 : isName b = true
    · refine ev_pos h2 (Ev.bind (ev_const (copyBytes_eq a (by omega))) ?_)
      refine ev_pos (by omega) (ev_some (ev_pos (by simp [bytesOf_two]; omega) (ev_some (ev_pos (by simp [bytesOf_two]; omega) (ev_is ?_)))))
      rw [h1, h2]; unfold addrKey; simp [bytesOf_two]
    · refine ev_neg h2 (ev_is ?_)
      rw [h1]; simp [h2]
  · refine ev_neg h1 (ev_is ?_)
    simp [h1]
/-! spec_l4item -/
theorem itoaL_two (i : Int) (h0 : 0 ≤ i) (h1 : i ≤ 99) : itoaL i = if i < 10 then [48 + i] else [48 + i / 10, 48 + i % 10] := by
  have h : ∀ n : Nat, n ≤ 99 → itoaL (n : Int) = if (n : Int) < 10 then [48 + (n : Int)] else [48 + (n : Int) / 10, 48 + (n : Int) % 10] := by decide +kernel
  obtain ⟨n, rfl⟩ := Int.eq_ofNat_of_zero_le h0
  exact h n (by omega)
theorem l2digits_ten (i : Int) (h0 : 0 ≤ i) (h1 : i < 10) : Ev (fun k => spec_l2digits.f k i) [48 + i] := by
  refine Ev.step (fun _ => spec_l2digits.f.eq_2 ..) (ev_neg (by omega) (ev_pos h1 (ev_is ?_)))
  rw [w64 (x := 48 + i) (by omega) (by omega), show (48 + i) % 256 = 48 + i by omega]
theorem l2digits_ev (i : Int) (h0 : 0 ≤ i) (h1 : i ≤ 99) : Ev (fun k => spec_l2digits.f k i) (itoaL i) := by
  rw [itoaL_two i h0 h1]
  by_cases h : i < 10
  · rw [if_pos h]; exact l2digits_ten i h0 h
  · rw [if_neg h]
    refine Ev.step (fun _ => spec_l2digits.f.eq_2 ..) (ev_neg (by omega) (ev_neg h ?_))
    rw [Int.tdiv_eq_ediv_of_nonneg h0, Int.tmod_eq_emod_of_nonneg h0, w64 (x := i / 10) (by omega) (by omega), w64 (x := 48 + i % 10) (by omega) (by omega), show (48 + i % 10) % 256 = 48 + i % 10 by omega]
    exact Ev.bind (l2digits_ten (i / 10) (by omega) (by omega)) (ev_pos (by simp) (Ev.now _))
theorem l4item_ev (l : List Int) (i : Int) (hl : l.length ≤ 1048576) (h0 : 0 ≤ i) (h1 : i ≤ 99) : Ev (fun k => spec_l4item.f k l i) (l ++ [91] ++ itoaL i ++ [93]) := by
  have := itoaL_len i h0 h1
  unfold spec_l4item.f
  refine Ev.bind (Ev.now _) (ev_pos (by simp; omega) (Ev.bind (Ev.now _) (ev_pos (by simp; omega) (Ev.bind (Ev.now _) (Ev.bind (l2digits_ev i h0 h1) (ev_pos (by simp; omega) (Ev.bind (Ev.now _) (ev_pos (by simp; omega) (ev_is ?_)))))))))
  simp
/-! spec_l4key -/
theorem l4key_eq (a b : List Int) (ha : a.length ≤ 1000000000) (hb : b.length ≤ 1000000000) : spec_l4key.f a b = some (addrKey a b) := by
  unfold spec_l4key.f addrKey
  simp only [Option.bind_some, List.length_nil, Nat.zero_add, List.nil_append, List.length_append, bytesOf_two]
  rw [if_pos (by omega), if_pos (by omega), if_pos (by simp only [List.length_cons, List.length_nil]; omega), if_pos (by simp only [List.length_cons, List.length_nil]; omega)]
  rfl
/-! impl_NameOk -/
theorem impl_NameOk_ev (b : List Int) (hl : b.length ≤ 4611686018427387903) : Ev (fun k => impl_NameOk.f k b) (isName b) := by
  unfold impl_NameOk.f
  exact ev_ret (impl_isName_ev b hl)
/-! laws_sameBytes -/
theorem sameBytes_eq (a b : List Int) (ha : By a) (hb : By b) : laws_sameBytes.f a b = some (decide (a = b)) := by
  unfold laws_sameBytes.f
  rw [str_inj ha hb]
/-! numbers of places -/
def dd2 (m : Nat) : List UInt8 := if m < 10 then [UInt8.ofNat (48 + m)] else [UInt8.ofNat (48 + m / 10), UInt8.ofNat (48 + m % 10)]
theorem dd_eq (m : Nat) (h : m < 100) : Lib.decDigits m = dd2 m := by
  unfold dd2
  by_cases c : m < 10
  · rw [if_pos c, Lib.decDigits, dif_pos c]
  · rw [if_neg c, Lib.decDigits, dif_neg c, Lib.decDigits, dif_pos (by omega)]; rfl
theorem atoi_dd : ∀ m, m < 100 → (match Lib.atoiAll (dd2 m) with | .ok v => v == (m : Int) | _ => false) = true := by decide +kernel
def u8s (l : List Int) : List UInt8 := l.map fun n => UInt8.ofNat n.toNat
theorem u8s_inj {a b : List Int} (ha : By a) (hb : By b) (h : u8s a = u8s b) : a = b := by
  have := str_inj ha hb
  rw [ByteArray.toList_eq, ByteArray.toList_eq, strOfNums_data, strOfNums_data] at this
  have h2 : (a.map fun n => UInt8.ofNat n.toNat) = (b.map fun n => UInt8.ofNat n.toNat) := h
  rw [h2, beq_self_eq_true] at this
  exact of_decide_eq_true this.symm
def dgI (m : Nat) : List Int := if m < 10 then [48 + (m : Int)] else [48 + ((m / 10 : Nat) : Int), 48 + ((m % 10 : Nat) : Int)]
theorem dgI_By (m : Nat) (h : m < 100) : By (dgI m) := by
  intro x hx
  unfold dgI at hx
  split at hx <;> simp at hx <;> omega
theorem dgI_u8 (m : Nat) : u8s (dgI m) = dd2 m := by
  unfold u8s dgI dd2
  split
  · simp only [List.map_cons, List.map_nil]; congr 2 <;> omega
  · simp only [List.map_cons, List.map_nil]
    rw [show (48 + ((m / 10 : Nat) : Int)).toNat = 48 + m / 10 by omega, show (48 + ((m % 10 : Nat) : Int)).toNat = 48 + m % 10 by omega]
theorem numOk_of {l : List Int} (hb : By l) (h : numOk l = true) : ∃ m, m < 100 ∧ l = dgI m := by
  unfold numOk at h
  split at h
  · rename_i v hv
    rw [Bool.and_eq_true] at h
    have hr := of_decide_eq_true h.1
    have he := eq_of_beq h.2
    rw [ByteArray.toList_eq, strOfNums_data, dd_eq _ (by omega), ← dgI_u8] at he
    exact ⟨v.toNat, by omega, (u8s_inj (dgI_By _ (by omega)) hb he).symm⟩
  · cases h
theorem numOk_is (m : Nat) (h : m < 100) : numOk (dgI m) = true := by
  have h1 := atoi_dd m h
  have e : (strOfNums (dgI m)).data.toList = dd2 m := dgI_u8 m
  unfold numOk
  rw [e]
  split at h1
  · rename_i v hv
    obtain rfl := eq_of_beq h1
    rw [hv]
    dsimp only
    rw [ByteArray.toList_eq, e, Int.toNat_natCast, dd_eq m h, decide_eq_true (by omega)]
    simp
  · cases h1
/-- One or two digits, the first of two not nought. -/
def numS (t : List Int) : Bool := match t with
  | [y] => decide (48 ≤ y ∧ y ≤ 57)
  | [y, x] => decide (y ≠ 48) && (decide (48 ≤ y ∧ y ≤ 57) && decide (48 ≤ x ∧ x ≤ 57))
  | _ => false
theorem numS_of {t : List Int} (h : numS t = true) : ∃ m, m < 100 ∧ t = dgI m := by
  unfold numS at h
  split at h
  · rename_i y
    have h := of_decide_eq_true h
    refine ⟨(y - 48).toNat, by omega, ?_⟩
    unfold dgI
    rw [if_pos (by omega)]
    congr 1; omega
  · rename_i y x
    simp only [Bool.and_eq_true, decide_eq_true_eq] at h
    refine ⟨((y - 48) * 10 + (x - 48)).toNat, by omega, ?_⟩
    unfold dgI
    rw [if_neg (by omega)]
    congr 1
    · omega
    · congr 1; omega
  · cases h
theorem numS_is (m : Nat) (h : m < 100) : numS (dgI m) = true := by
  unfold dgI
  split
  · show decide _ = true
    exact decide_eq_true (by omega)
  · show (decide _ && (decide _ && decide _)) = true
    rw [decide_eq_true (by omega), decide_eq_true (by omega), decide_eq_true (by omega)]; rfl
theorem numS_eq (t : List Int) (hb : By t) : numOk t = numS t := by
  cases h : numS t with
  | true => obtain ⟨m, hm, rfl⟩ := numS_of h; exact numOk_is m hm
  | false =>
    cases h2 : numOk t with
    | false => rfl
    | true => obtain ⟨m, hm, rfl⟩ := numOk_of hb h2; rw [numS_is m hm] at h; cases h
/-! what stands behind the bracket -/
theorem cutS_nil (x : Int) : cutS [] x = ([], false) := rfl
theorem cutS_snoc (t : List Int) (z x : Int) : cutS (t ++ [z]) x = if z = x then (t, true) else (t ++ [z], false) := by
  have hl : (t ++ [z]).length - 1 = t.length := by simp
  have hg : (t ++ [z]).getD t.length 0 = z := by simp
  unfold cutS
  rw [hl, hg, List.take_left' rfl]
  by_cases c : z = x
  · rw [if_pos c, if_pos ⟨by simp, c⟩]
  · rw [if_neg c, if_neg (fun q => c q.2)]
theorem cutP_cons (y : Int) (t : List Int) (x : Int) : cutP (y :: t) x = if y = x then (t, true) else (y :: t, false) := by
  unfold cutP
  by_cases c : y = x
  · rw [if_pos c, if_pos ⟨by simp, by simpa using c⟩]; rfl
  · rw [if_neg c, if_neg (fun q => c (by simpa using q.2))]
theorem snoc_of {t : List Int} (h : t ≠ []) : ∃ s z, t = s ++ [z] := ⟨t.dropLast, t.getLast h, (List.dropLast_concat_getLast h).symm⟩
/-- Between the brackets. -/
def addrT : List Int → Bool
  | [] => false
  | y :: t => if y = 34 then (cutS t 34).2 && isName (cutS t 34).1 else numS (y :: t)
theorem addrT_cons (y : Int) (t : List Int) : addrT (y :: t) = if y = 34 then (cutS t 34).2 && isName (cutS t 34).1 else numS (y :: t) := rfl
def restB (rest : List Int) : Bool := (cutS rest 93).2 && addrT (cutS rest 93).1
theorem numS_last (t : List Int) (z : Int) (h : numS (t ++ [z]) = true) : 48 ≤ z ∧ z ≤ 57 := by
  match t with
  | [] => exact of_decide_eq_true h
  | [y] =>
    have h : (decide (y ≠ 48) && (decide (48 ≤ y ∧ y ≤ 57) && decide (48 ≤ z ∧ z ≤ 57))) = true := h
    simp only [Bool.and_eq_true, decide_eq_true_eq] at h
    exact h.2.2
  | y :: x :: t =>
    have : numS (y :: x :: t ++ [z]) = false := by
      cases t <;> rfl
    rw [this] at h; cases h
theorem isName_nil : isName [] = false := by decide
theorem restB_impl (k : Nat → List Int → Option Bool) (hk : ∀ l, l.length ≤ 1048576 → Ev (fun n => k n l) (isName l)) (i1 : List Int) (ib : Bool) (hl : i1.length ≤ 1048576) (hb : By i1) :
    Ev (fun n => if ((cutP i1 34).2 || (cutS (cutP i1 34).1 34).2) = true then (if (ib && (cutP i1 34).2 && (cutS (cutP i1 34).1 34).2) = true then k n (cutS (cutP i1 34).1 34).1 else some false) else some (ib && numOk i1)) (ib && addrT i1) := by
  cases i1 with
  | nil =>
    refine ev_neg (by decide) (ev_is ?_)
    rw [numS_eq _ By_nil]; cases ib <;> rfl
  | cons y t =>
    rw [cutP_cons]
    by_cases c : y = 34
    · rw [if_pos c]
      refine ev_pos rfl ?_
      dsimp only
      have e : addrT (y :: t) = ((cutS t 34).2 && isName (cutS t 34).1) := by rw [addrT_cons, if_pos c]
      rw [e]
      rcases hs : cutS t 34 with ⟨s1, sb⟩
      dsimp only
      have hs1 := (cutS_facts hs).1
      cases ib with
      | false => exact ev_neg (by simp) (Ev.now _)
      | true =>
        cases sb with
        | false => exact ev_neg (by decide) (Ev.now _)
        | true => exact ev_pos rfl (by simpa using hk s1 (by simp at hl; omega))
    · rw [if_neg c]
      dsimp only
      have e : addrT (y :: t) = numS (y :: t) := by rw [addrT_cons, if_neg c]
      obtain ⟨s, z, hz⟩ := snoc_of (t := y :: t) (by simp)
      rw [e, hz, cutS_snoc]
      by_cases cz : z = 34
      · rw [if_pos cz]
        refine ev_pos rfl (ev_neg (by simp) (ev_is ?_))
        have : numS (s ++ [z]) = false := by
          cases h : numS (s ++ [z]) with
          | false => rfl
          | true => have := numS_last s z h; omega
        rw [this, Bool.and_false]
      · rw [if_neg cz]
        refine ev_neg (by simp) (ev_is ?_)
        rw [numS_eq _ (hz ▸ hb)]
theorem u8_91 (x : Int) (hx : 0 ≤ x ∧ x ≤ 255) : (UInt8.ofNat x.toNat = 91) ↔ x = 91 := by
  rw [← UInt8.toNat_inj]
  simp
  omega
theorem bytesOf_at (l : List Int) (q : Nat) : (Lib.bytesOf l)[q]? = (l[q]?).map fun n => UInt8.ofNat n.toNat := by
  unfold Lib.bytesOf
  rw [List.getElem?_map]
theorem at_91 {l : List Int} (hb : By l) (q : Nat) : (Lib.bytesOf l)[q]? = some 91 ↔ l[q]? = some 91 := by
  rw [bytesOf_at]
  cases h : l[q]? with
  | none => simp
  | some x =>
    have hx := hb x (List.mem_of_getElem? h)
    have := u8_91 x hx
    simp [this]
theorem posB_none {l : List Int} (hb : By l) (h : lbOf l = []) : posB l < 0 := by
  have hl : l = laOf l := by have := la_lb l; rw [h, List.append_nil] at this; exact this.symm
  have h2 := posB_ge l
  refine Int.not_le.1 fun hp => ?_
  obtain ⟨j, hj⟩ := Int.eq_ofNat_of_zero_le hp
  have h3 := (Lib.indexByte_some (show Lib.indexByte (Lib.bytesOf l) 91 = j from hj)).1
  rw [at_91 hb] at h3
  have hlt : j < (laOf l).length := by rw [← hl]; exact (List.getElem?_eq_some_iff.1 h3).1
  have h4 := la_no l j hlt
  rw [← hl, List.getD_eq_getElem?_getD, h3] at h4
  exact h4 rfl
theorem posB_some {l : List Int} (hb : By l) (h : 0 < (lbOf l).length) : posB l = (laOf l).length := by
  have hl := la_lb l
  have h0 := lb_first l h
  have h91 : (laOf l ++ lbOf l)[(laOf l).length]? = some 91 := by
    rw [List.getElem?_append_right (Nat.le_refl _), Nat.sub_self, List.getElem?_eq_getElem h]
    rw [List.getD_eq_getElem?_getD, List.getElem?_eq_getElem h] at h0
    exact congrArg some h0
  rw [hl] at h91
  have h2 := posB_ge l
  by_cases hp : posB l < 0
  · have : Lib.indexByte (Lib.bytesOf l) 91 = -1 := by unfold posB at hp h2; omega
    exact absurd ((at_91 hb _).2 h91) (Lib.indexByte_none this _)
  · obtain ⟨j, hj⟩ := Int.eq_ofNat_of_zero_le (by omega : 0 ≤ posB l)
    obtain ⟨h3, h4⟩ := Lib.indexByte_some (show Lib.indexByte (Lib.bytesOf l) 91 = j from hj)
    rw [at_91 hb] at h3
    rcases Nat.lt_trichotomy j (laOf l).length with c | c | c
    · have h5 := la_no l j c
      have h6 : (laOf l ++ lbOf l)[j]? = (laOf l)[j]? := List.getElem?_append_left c
      rw [hl] at h6
      rw [List.getD_eq_getElem?_getD, ← h6, h3] at h5
      exact absurd rfl h5
    · rw [hj, c]
    · exact absurd ((at_91 hb _).2 h91) (h4 _ c)
/-- Whether bytes are an address. -/
def addrB (l : List Int) : Bool := isName (laOf l) && (decide ((lbOf l).length = 0) || restB ((lbOf l).drop 1))
theorem la_len (l : List Int) : (laOf l).length + (lbOf l).length = l.length := by rw [← List.length_append, la_lb]
theorem okB_is {l : List Int} (hl : l.length ≤ 1048576) (hb : By l) : okB l = true := by
  unfold okB
  rw [decide_eq_true hl, Bool.true_and, List.all_eq_true]
  exact fun x hx => decide_eq_true (hb x hx)
theorem impl_AddrOk_ev (l : List Int) (hl : l.length ≤ 1048576) (hb : By l) : Ev (fun k => impl_AddrOk.g k l) (addrB l) := by
  have hll := la_len l
  unfold impl_AddrOk.g
  refine ev_pos (okB_is hl hb) ?_
  unfold isAddr_g addrB
  rcases Nat.eq_zero_or_pos (lbOf l).length with h0 | h0
  · have hn := List.eq_nil_of_length_eq_zero h0
    have he : laOf l = l := by have := la_lb l; rwa [hn, List.append_nil] at this
    refine ev_pos (posB_none hb hn) ?_
    rw [hn, he]
    have := impl_isName_ev l (by omega)
    simpa using this
  · have hp := posB_some hb h0
    rw [hp, Int.toNat_natCast]
    refine ev_neg (by omega) ?_
    have e1 : (laOf l ++ lbOf l).take (laOf l).length = laOf l := List.take_left' rfl
    have e2 : (laOf l ++ lbOf l).drop ((laOf l).length + 1) = (lbOf l).drop 1 := by
      rw [List.drop_append, List.drop_eq_nil_of_le (by omega), List.nil_append]
      congr 1; omega
    rw [la_lb] at e1 e2
    rw [e1, e2]
    refine Ev.bind (impl_isName_ev _ (by omega)) ?_
    cases isName (laOf l) with
    | false => exact ev_neg (by decide) (Ev.now _)
    | true =>
      rw [Bool.true_and, decide_eq_false (by omega), Bool.false_or]
      refine ev_pos rfl ?_
      unfold restB
      have hd : ((lbOf l).drop 1).length ≤ 1048576 := by rw [List.length_drop]; omega
      have hbd : By ((lbOf l).drop 1) := by rw [← e2]; exact By_drop _ hb
      rcases hi : cutS ((lbOf l).drop 1) 93 with ⟨i1, ib⟩
      have hf := cutS_facts hi
      exact restB_impl (fun n q => impl_isName.f n q) (fun q hq => impl_isName_ev q (by omega)) i1 ib (by omega) (hf.2 hbd)
theorem nmOf_eq (l : List Int) (hb : By l) : nmOf l = laOf l := by
  have h := la_lb l
  unfold nmOf
  rcases Nat.eq_zero_or_pos (lbOf l).length with h0 | h0
  · have h1 := List.eq_nil_of_length_eq_zero h0
    rw [if_pos (posB_none hb h1)]
    rw [h1, List.append_nil] at h
    exact h.symm
  · have hp := posB_some hb h0
    rw [hp, if_neg (by omega), Int.toNat_natCast]
    have e1 : (laOf l ++ lbOf l).take (laOf l).length = laOf l := List.take_left' rfl
    rw [la_lb] at e1
    exact e1
theorem impl_AddrName_ev (l : List Int) (hl : l.length ≤ 1048576) (hb : By l) : Ev (fun k => impl_AddrName.g k l) (if addrB l = true then laOf l else []) := by
  have h := impl_AddrOk_ev l hl hb
  unfold impl_AddrOk.g at h
  unfold impl_AddrName.g
  simp only [okB_is hl hb, ↓reduceIte] at h ⊢
  refine Ev.bind h ?_
  cases addrB l with
  | true => rw [nmOf_eq l hb]; exact ev_pos rfl (Ev.now _)
  | false => exact ev_neg (by decide) (Ev.now _)
theorem small_itoa (n : Nat) (h : n ≤ 99) : (strconv_small.f (n : Int)).map bytesOf = some (itoaL (n : Int)) := by
  have h2 : ∀ n : Nat, n ≤ 99 → (strconv_small.f (n : Int)).map bytesOf = some (itoaL (n : Int)) := by decide +kernel
  exact h2 n h
theorem appendInt_itoa (l : List Int) (i : Int) (h0 : 0 ≤ i) (h1 : i ≤ 99) (hl : l.length ≤ 100000000) : strconv_AppendInt_48.f l i 10 = some (l ++ itoaL i) := by
  have h3 := itoaL_len i h0 h1
  obtain ⟨n, rfl⟩ := Int.eq_ofNat_of_zero_le h0
  obtain ⟨s, hs, hb⟩ := Option.map_eq_some_iff.1 (small_itoa n (by omega))
  have hw : IntKind.u64.wrap (n : Int) = (n : Int) := by simp [IntKind.wrap, IntKind.bits, IntKind.signed]; omega
  have hz : s.size ≤ 2 := by
    rw [← hb] at h3
    have h4 : (bytesOf s).length = s.size := by rw [bytesOf, List.length_map]; exact Array.length_toList
    omega
  unfold strconv_AppendInt_48.f strconv_AppendInt_76.f strconv_AppendUint.f
  rw [if_neg (by omega), hw, if_pos rfl, if_pos (by omega), w64 (x := (n : Int)) (by omega) (by omega), hs]
  simp only [Option.bind_some]
  rw [if_pos (by omega), hb]
  rfl
/-- An item's address. -/
def itemL (n : List Int) (i : Int) : List Int := if isName n = true ∧ 0 ≤ i ∧ i ≤ 99 then n ++ [91] ++ itoaL i ++ [93] else []
theorem impl_AddrItem_ev (l : List Int) (i : Int) (hl : l.length ≤ 1048576) : Ev (fun k => impl_AddrItem.f k l i) (itemL l i) := by
  unfold impl_AddrItem.f itemL
  refine Ev.bind (impl_isName_ev l (by omega)) (ev_ite (fun h => ?_) (fun h => ?_))
  · refine Ev.bind (ev_const (in_eq i 0 99)) ?_
    by_cases h0 : 0 ≤ i ∧ i ≤ 99
    · rw [decide_eq_true h0, if_pos ⟨h, h0⟩]
      have := itoaL_len i h0.1 h0.2
      exact Ev.step (fun _ => impl_AddrItem.j0.eq_2 ..) (ev_neg (by decide) (Ev.bind (ev_const (copyBytes_eq l (by omega))) (ev_pos (by omega) (Ev.bind (ev_const (appendInt_itoa _ i h0.1 h0.2 (by simp; omega))) (ev_pos (by simp; omega) (Ev.now _))))))
    · rw [decide_eq_false h0, if_neg (fun q => h0 q.2)]
      exact Ev.step (fun _ => impl_AddrItem.j0.eq_2 ..) (ev_pos rfl (Ev.now _))
  · rw [if_neg (fun q => h q.1)]
    exact Ev.step (fun _ => impl_AddrItem.j0.eq_2 ..) (ev_pos rfl (Ev.now _))
theorem isName_facts {n : List Int} (h : isName n = true) : 1 ≤ n.length ∧ n.length ≤ 8 ∧ ∀ x ∈ n, 97 ≤ x ∧ x ≤ 122 := by
  unfold isName at h
  rw [Bool.and_eq_true, List.all_eq_true] at h
  have h1 := of_decide_eq_true h.1
  exact ⟨h1.1, h1.2, fun x hx => of_decide_eq_true (h.2 x hx)⟩
theorem la_app : ∀ (n r : List Int), (∀ x ∈ n, x ≠ 91) → laOf (n ++ 91 :: r) = n ∧ lbOf (n ++ 91 :: r) = 91 :: r
  | [], r, _ => ⟨rfl, rfl⟩
  | x :: n, r, h => by
    have ih := la_app n r (fun y hy => h y (List.mem_cons_of_mem _ hy))
    have hx := h x List.mem_cons_self
    unfold laOf lbOf at ih ⊢
    rw [List.cons_append, List.takeWhile_cons, List.dropWhile_cons, decide_eq_true hx]
    exact ⟨congrArg _ ih.1, ih.2⟩
theorem la_name : ∀ (n : List Int), (∀ x ∈ n, x ≠ 91) → laOf n = n ∧ lbOf n = []
  | [], _ => ⟨rfl, rfl⟩
  | x :: n, h => by
    have ih := la_name n (fun y hy => h y (List.mem_cons_of_mem _ hy))
    have hx := h x List.mem_cons_self
    unfold laOf lbOf at ih ⊢
    rw [List.takeWhile_cons, List.dropWhile_cons, decide_eq_true hx]
    exact ⟨congrArg _ ih.1, ih.2⟩
theorem itoa_dgI (i : Int) (h0 : 0 ≤ i) (h1 : i ≤ 99) : itoaL i = dgI i.toNat := by
  obtain ⟨m, rfl⟩ := Int.eq_ofNat_of_zero_le h0
  unfold itoaL dgI
  rw [Int.toNat_natCast]
  by_cases h : m < 10
  · rw [if_pos (by omega), if_pos h]
  · rw [if_neg (by omega), if_neg h]
    congr 1
theorem addrT_num (m : Nat) (h : m < 100) : addrT (dgI m) = true := by
  have hs := numS_is m h
  cases e : dgI m with
  | nil => rw [e] at hs; cases hs
  | cons y t =>
    have hy : y ≠ 34 := by
      unfold dgI at e
      split at e <;> (injection e with e1 e2; omega)
    rw [addrT_cons, if_neg hy, ← e]
    exact hs
theorem item_facts {n : List Int} (h : isName n = true) {i : Int} (h0 : 0 ≤ i) (h1 : i ≤ 99) : addrB (itemL n i) = true ∧ laOf (itemL n i) = n ∧ By (itemL n i) ∧ (itemL n i).length ≤ 12 ∧ 1 ≤ (itemL n i).length := by
  obtain ⟨l1, l2, hx⟩ := isName_facts h
  have hn : itemL n i = n ++ 91 :: (itoaL i ++ [93]) := by unfold itemL; rw [if_pos ⟨h, h0, h1⟩]; simp
  obtain ⟨e1, e2⟩ := la_app n (itoaL i ++ [93]) (fun x q => by have := hx x q; omega)
  have hlen := itoaL_len i h0 h1
  rw [hn]
  refine ⟨?_, e1, ?_, by simp; omega, by simp; omega⟩
  · unfold addrB
    rw [e1, e2, h, Bool.true_and]
    show (decide _ || restB (itoaL i ++ [93])) = true
    unfold restB
    rw [cutS_snoc, if_pos rfl, itoa_dgI i h0 h1]
    show (_ || (true && addrT (dgI i.toNat))) = true
    rw [addrT_num _ (by omega)]
    simp
  · intro x q
    simp only [List.mem_append, List.mem_cons, List.not_mem_nil, or_false] at q
    rcases q with q | rfl | q | rfl
    · have := hx x q; omega
    · omega
    · rw [itoa_dgI i h0 h1] at q
      exact dgI_By _ (by omega) x q
    · omega
theorem item_bad {n : List Int} {i : Int} (h : ¬ (isName n = true ∧ 0 ≤ i ∧ i ≤ 99)) : itemL n i = [] := by unfold itemL; rw [if_neg h]
theorem key_facts {n key : List Int} (h : isName n = true) (hk : isName key = true) : addrB (addrKey n key) = true ∧ laOf (addrKey n key) = n ∧ By (addrKey n key) ∧ (addrKey n key).length ≤ 20 := by
  obtain ⟨l1, l2, hx⟩ := isName_facts h
  obtain ⟨k1, k2, hy⟩ := isName_facts hk
  have hn : addrKey n key = n ++ 91 :: (34 :: (key ++ [34]) ++ [93]) := by unfold addrKey; simp
  obtain ⟨e1, e2⟩ := la_app n (34 :: (key ++ [34]) ++ [93]) (fun x q => by have := hx x q; omega)
  rw [hn]
  refine ⟨?_, e1, ?_, by simp; omega⟩
  · unfold addrB
    rw [e1, e2, h, Bool.true_and]
    show (decide _ || restB (34 :: (key ++ [34]) ++ [93])) = true
    unfold restB
    rw [cutS_snoc, if_pos rfl]
    show (_ || (true && addrT (34 :: (key ++ [34])))) = true
    rw [addrT_cons, if_pos rfl, cutS_snoc, if_pos rfl]
    show (_ || (true && (true && isName key))) = true
    rw [hk]
    simp
  · intro x q
    simp only [List.mem_append, List.mem_cons, List.not_mem_nil, or_false] at q
    rcases q with q | rfl | (rfl | q | rfl) | rfl
    · have := hx x q; omega
    · omega
    · omega
    · have := hy x q; omega
    · omega
    · omega
theorem addr_some {c : List Int} (h : addrB c = true) : 0 < (laOf c).length := by
  unfold addrB at h
  rw [Bool.and_eq_true] at h
  exact (isName_facts h.1).1
theorem name_By {n : List Int} (h : isName n = true) : By n := fun x q => by have := (isName_facts h).2.2 x q; omega
theorem web_ok : addrB [119, 101, 98, 91, 49, 93] = true := by decide +kernel
theorem FnAddrs (l0 : List Int) (hl0 : l0.length ≤ 140737488351232) : ∃ _ : Nat, l0.length ≤ 140737488351232 := ⟨0, hl0⟩
end Go.Proofs.YtockllljeeakaaaDoor.Pure
