/- What a function comes to, walked by hand. No condition. -/
import Derived.Test.YtenpjddjmhjdoaaDoorPFnExactValTextx0
import Derived.Test.YtenpjddjmhjdoaaDoorPFnExactValTextx6
import Derived.Test.YtenpjddjmhjdoaaDoorMtx
import Derived.Test.YtenpjddjmhjdoaaDoorMsb
import Derived.Test.YtenpjddjmhjdoaaDoorMkx
import Derived.Test.YtenpjddjmhjdoaaDoorMcore
import Derived.Test.YtenpjddjmhjdoaaDoorMnum
import Derived.Shelf.Strconv.AppendIntPublic10
namespace Go.Proofs.YtenpjddjmhjdoaaDoor.PFnExactValText
open Go.RowKit Go.Proofs.YtenpjddjmhjdoaaDoorW.PrintWords Go.Proofs.YtenpjddjmhjdoaaDoorW.PrintLast Go.Proofs.YtenpjddjmhjdoaaDoorW.PrintMore Go.Proofs.YtenpjddjmhjdoaaDoor.M
attribute [local go_sem] max2_int min2_int max_two min_two max_three min_three max_four min_four Go.Proofs.YtenpjddjmhjdoaaDoor.M.str_gtr Go.Proofs.YtenpjddjmhjdoaaDoor.M.str_leq Go.Proofs.YtenpjddjmhjdoaaDoor.M.str_geq   -- for this text's walks alone
set_option linter.unusedVariables false
set_option linter.unusedSimpArgs false
def laysAI_ren : Go.Shelf.Ren := ⟨fun | 176 => 74 | 249 => 101 | 288 => 109 | 283 => 111 | 284 => 112 | 285 => 113 | 286 => 114 | 129 => 116 | 317 => 115 | 318 => 117 | 319 => 118 | 320 => 119 | 337 => 120 | 338 => 121 | n => n, fun | 37 => 22 | 2 => 2 | 3 => 3 | 53 => 116 | 4 => 4 | 9 => 9 | 171 => 119 | 0 => 0 | 173 => 122 | 212 => 126 | 51 => 127 | 5 => 5 | 20 => 20 | 213 => 128 | 46 => 110 | 232 => 131 | 233 => 132 | n => n, fun | 17 => 1 | 18 => 2 | 19 => 3 | n => n⟩
theorem laysAI : LaysM.n176 Tryd.prog laysAI_ren where
  mixed := by kernel_rfl
  f129 := Tryd.func116.trans (congrArg some (by kernel_rfl))
  f176 := Tryd.func74.trans (congrArg some (by kernel_rfl))
  f249 := Tryd.func101.trans (congrArg some (by kernel_rfl))
  f283 := Tryd.func111.trans (congrArg some (by kernel_rfl))
  f284 := Tryd.func112.trans (congrArg some (by kernel_rfl))
  f285 := Tryd.func113.trans (congrArg some (by kernel_rfl))
  f286 := Tryd.func114.trans (congrArg some (by kernel_rfl))
  f288 := Tryd.func109.trans (congrArg some (by kernel_rfl))
  f317 := Tryd.func115.trans (congrArg some (by kernel_rfl))
  f318 := Tryd.func117.trans (congrArg some (by kernel_rfl))
  f319 := Tryd.func118.trans (congrArg some (by kernel_rfl))
  f320 := Tryd.func119.trans (congrArg some (by kernel_rfl))
  f337 := Tryd.func120.trans (congrArg some (by kernel_rfl))
  f338 := Tryd.func121.trans (congrArg some (by kernel_rfl))
  t0 := Tryd.underlying0
  a0 := Tryd.isAgg0
  z0 := Tryd.sizeOf0
  v0 := Tryd.zeroValue0
  t2 := Tryd.underlying2
  a2 := Tryd.isAgg2
  z2 := Tryd.sizeOf2
  v2 := Tryd.zeroValue2
  t3 := Tryd.underlying3
  a3 := Tryd.isAgg3
  z3 := Tryd.sizeOf3
  v3 := Tryd.zeroValue3
  t4 := Tryd.underlying4
  a4 := Tryd.isAgg4
  z4 := Tryd.sizeOf4
  v4 := Tryd.zeroValue4
  t5 := Tryd.underlying5
  a5 := Tryd.isAgg5
  z5 := Tryd.sizeOf5
  v5 := Tryd.zeroValue5
  t9 := Tryd.underlying9
  a9 := Tryd.isAgg9
  z9 := Tryd.sizeOf9
  v9 := Tryd.zeroValue9
  t20 := Tryd.underlying20
  a20 := Tryd.isAgg20
  z20 := Tryd.sizeOf20
  v20 := Tryd.zeroValue20
  t37 := Tryd.underlying22
  a37 := Tryd.isAgg22
  z37 := Tryd.sizeOf22
  v37 := Tryd.zeroValue22
  t46 := Tryd.underlying110
  a46 := Tryd.isAgg110
  z46 := Tryd.sizeOf110
  v46 := Tryd.zeroValue110
  t51 := Tryd.underlying127
  a51 := Tryd.isAgg127
  z51 := Tryd.sizeOf127
  v51 := Tryd.zeroValue127
  t53 := Tryd.underlying116
  a53 := Tryd.isAgg116
  z53 := Tryd.sizeOf116
  v53 := Tryd.zeroValue116
  t171 := Tryd.underlying119
  a171 := Tryd.isAgg119
  z171 := Tryd.sizeOf119
  v171 := Tryd.zeroValue119
  t173 := Tryd.underlying122
  a173 := Tryd.isAgg122
  z173 := Tryd.sizeOf122
  v173 := Tryd.zeroValue122
  t212 := Tryd.underlying126
  a212 := Tryd.isAgg126
  z212 := Tryd.sizeOf126
  v212 := Tryd.zeroValue126
  t213 := Tryd.underlying128
  a213 := Tryd.isAgg128
  z213 := Tryd.sizeOf128
  t232 := Tryd.underlying131
  a232 := Tryd.isAgg131
  z232 := Tryd.sizeOf131
  v232 := Tryd.zeroValue131
  t233 := Tryd.underlying132
  a233 := Tryd.isAgg132
  z233 := Tryd.sizeOf132
  v233 := Tryd.zeroValue132
  g17 := by kernel_rfl
  g18 := by kernel_rfl
  g19 := by kernel_rfl
  i0 := by kernel_rfl
  i2 := by kernel_rfl
  i3 := by kernel_rfl
  i4 := by kernel_rfl
  i5 := by kernel_rfl
  i9 := by kernel_rfl
  i20 := by kernel_rfl
  i37 := by kernel_rfl
  i46 := by kernel_rfl
  i51 := by kernel_rfl
  i53 := by kernel_rfl
  i171 := by kernel_rfl
  i173 := by kernel_rfl
  i212 := by kernel_rfl
  i232 := by kernel_rfl
  i233 := by kernel_rfl
  m17 := by kernel_rfl
  m18 := by kernel_rfl
  m19 := by kernel_rfl
/-- The table of powers of ten reads as it is laid. -/
structure Tb (w : World) : Prop where
  t : Lib.TabIs Tryd.prog w "internal/strconv.uint64pow10" .u64 Lib.pow10Tab
theorem Tb.b {w w' : World} (h : Tb w) (hb : Below w.heap.size w w') : Tb w' := ⟨Lib.tabBelow_of_tabIs h.t w' hb⟩
/-- A number's decimal numeral. -/
def itoaL (i : Int) : List Int := (Lib.itoa i).map fun b => (b.toNat : Int)
theorem appendInt_S (l : List Int) (v : Value) (i : Int) (w0 w : World) (h0 : -9223372036854775808 ≤ i) (h1 : i ≤ 9223372036854775807) (hb : Below w0.heap.size w0 w) (h : (Kd.int .u8).R 5 w w0.heap.size (fun _ => True) v l) (hl : l.length + 21 ≤ 140737488355328) (ht : Tb w0) :
    Calls Tryd.prog 74 #[v, .int .i64 i, .int .i64 10] w fun e w' => ∃ v', e = .returned v' ∧ Stp 5 w0 w (l ++ itoaL i) v' w' := by
  have ho := Kd.own_of_R h
  refine (Any.strconv_AppendInt_10 laysAI w0.heap.size l.length i h0 h1 v _ w ho hb.size hl ((Lib.tabBelow_of_tabIs ht.t).on hb)).mono ?_
  rintro e w' ⟨v', rfl, g1, g2, g3⟩
  refine ⟨v', rfl, ⟨Kd.R_of_own (h1 := fun _ => rfl) (ok := fun _ => True) ?_ (fun _ _ => trivial), hb.trans g2, g3, g2.size⟩⟩
  have e1 : (l ++ itoaL i).length = l.length + (Lib.itoa i).length := by simp [itoaL]
  have e2 : encs (Value.int .u8) (l ++ itoaL i) = encs (Value.int .u8) l ++ Lib.byteCells (Lib.itoa i) := by simp [encs, itoaL, Lib.byteCells]
  rw [e1, e2]
  exact g1
theorem appendBool_S (l : List Int) (v : Value) (b : Bool) (r : List Int) (w0 w : World) (hb : Below w0.heap.size w0 w) (h : (Kd.int .u8).R 5 w w0.heap.size (fun _ => True) v l) (hf : strconv_AppendBool_73.f l b = some r) :
    Calls Tryd.prog 73 #[v, .bool b] w fun e w' => ∃ v', e = .returned v' ∧ Stp 5 w0 w r v' w' := by
  refine (strconv_AppendBool_73.calls (fun k => v.ownBlock = some k) v l b r w0 w hb ⟨fun k hk => hk, h.2⟩ hf).mono ?_
  rintro e w' ⟨v', rfl, g1, g2, g3⟩
  refine ⟨v', rfl, ⟨Kd.R_mono g1 (fun _ _ => trivial), g2, fun k o hk _ hne => ?_, g3.1⟩⟩
  refine (g3.2 k (blk_lt hk) (fun he => ?_)).trans hk
  obtain ⟨cells, hc⟩ := Kd.R_typed h k he
  rw [hk] at hc
  exact hne _ _ (Option.some.inj hc)
/-- A byte between quotes. -/
def q1 (x : Int) : List Int := if x = 34 ∨ x = 92 then [92, x] else [x]
/-- Bytes between quotes. -/
def qtd : List Int → List Int
  | [] => []
  | x :: l => q1 x ++ qtd l
theorem qtd_app : ∀ a b, qtd (a ++ b) = qtd a ++ qtd b
  | [], b => rfl
  | x :: a, b => by rw [List.cons_append, qtd, qtd, qtd_app a b, List.append_assoc]
theorem qtd_len : ∀ a : List Int, (qtd a).length ≤ 2 * a.length
  | [] => by simp [qtd]
  | x :: a => by
    have := qtd_len a
    have h : (q1 x).length ≤ 2 := by unfold q1; split <;> simp
    rw [qtd, List.length_append, List.length_cons]
    omega
theorem qtd_take (l : List Int) (i : Nat) (h : i < l.length) : qtd (l.take (i + 1)) = qtd (l.take i) ++ q1 (l.getD i 0) := by
  rw [List.take_add_one, List.getElem?_eq_getElem h, qtd_app, List.getD_eq_getElem?_getD, List.getElem?_eq_getElem h]
  simp [qtd]
theorem qtd_take_len (l : List Int) (i : Nat) : (qtd (l.take i)).length ≤ 2 * l.length := by
  have h1 := qtd_len (l.take i)
  have h2 : (l.take i).length ≤ l.length := by rw [List.length_take]; omega
  omega
def sepL (i : Nat) : List Int := if 0 < i then [44, 32] else []
theorem sepL_len (i : Nat) : (sepL i).length ≤ 2 := by unfold sepL; split <;> simp
mutual
/-- What a row is put to: the parts' texts. -/
def impl_Value_text.l0 : Nat → S31 → List Int → Nat → Option (List Int)
  | 0, _, _, _ => none
  | k + 1, x, b, i => if i < x.f4.length then (if b.length < 70368744177664 then (if x.f0 = 5 then (if i < x.f3.length then (if (rd_L1 x.f3 (i : Int)).length < 1099511627776 then some (b ++ sepL i ++ rd_L1 x.f3 (i : Int) ++ [32, 61, 32]) else none) else none) else some (b ++ sepL i)) else none).bind fun t => (impl_Value_text.f k (rd_T31 x.f4 (i : Int)) t).bind fun u => impl_Value_text.l0 k x u (i + 1) else some b
/-- What a row is put to: a value's text. -/
def impl_Value_text.f : Nat → S31 → List Int → Option (List Int)
  | 0, _, _ => none
  | k + 1, x, b => if b.length < 140737488350000 then (if x.f0 = 0 then some (b ++ [110, 117, 108, 108]) else if x.f0 = 1 then strconv_AppendBool_73.f b (x.f1 == 1) else if x.f0 = 2 then (if -9223372036854775808 ≤ x.f1 ∧ x.f1 ≤ 9223372036854775807 then some (b ++ itoaL x.f1) else none) else if x.f0 = 6 then some (b ++ [63]) else if x.f0 = 3 then (if x.f2.length < 1099511627776 ∧ b.length < 70368744177664 then some (b ++ [34] ++ qtd x.f2 ++ [34]) else none) else (impl_Value_text.l0 k x (b ++ [if x.f0 = 5 then 123 else 91]) 0).bind fun r => if r.length < 140737488355328 then some (r ++ [if x.f0 = 5 then 125 else 93]) else none) else none
end
theorem frT : Fr Tryd.prog 41 := ⟨_, Tryd.func41, by kernel_rfl, rfl⟩
theorem frTB : Fr Tryd.prog 73 := ⟨_, Tryd.func73, by kernel_rfl, rfl⟩
theorem frTI : Fr Tryd.prog 74 := ⟨_, Tryd.func74, by kernel_rfl, rfl⟩
set_option maxRecDepth 100000 in
set_option maxHeartbeats 8000000 in
theorem impl_Value_text.ka (k : Nat) : ∀ (x : S31) (b0 : Array Value) (l : List Int) (v : Value) (r : List Int) (w0 w : World), Below w0.heap.size w0 w → (Kd.int .u8).R 5 w w0.heap.size (fun _ => True) v l → Rd k31 w0 x b0.toList → Tb w0 → impl_Value_text.f k x l = some r →
    Calls Tryd.prog 41 #[.agg b0, v] w fun e w' => ∃ v', e = .returned v' ∧ Stp 5 w0 w r v' w' := by
  induction k using Nat.strongRecOn with
  | ind k ih =>
  intro x b0 l v r w0 w hB h0 hx ht h
  cases k with
  | zero => simp [impl_Value_text.f] at h
  | succ kk =>
  obtain ⟨A2, c2, A3, c3, A4, c4, e0, lc2, g2, lc3, g3, lc4, g4⟩ := k31_open hx.k
  obtain ⟨a0, a1, l2, l3, l4⟩ := x
  obtain rfl : b0 = #[.int .i64 a0, .int .i64 a1, .slice A2 l2.length c2, .slice A3 l3.length c3, .slice A4 l4.length c4] := by rw [← b0.toArray_toList, e0]
  simp only at lc2 g2 lc3 g3 lc4 g4
  simp only [impl_Value_text.f] at h
  have I0 := Stp.refl h0 hB
  have G2 := Aside0.mk g2
  have G3 := Aside0.mk g3
  have G4 := Aside0.mk g4
  have LC2 := Aside0.mk lc2
  have TB := Aside0.mk ht
  have hu := Tryd.underlying31
  obtain ⟨lb, h⟩ := yesN h
  have LB := Aside0.mk lb
  clear hB h0 g2 g3 g4 e0 hx ht lb
  by_cases n0 : a0 = 0
  · subst n0
    rw [if_pos rfl] at h
    obtain rfl := Option.some.inj h
    clear h
    go_enter Tryd.func41, Tryd.ntmps41
    go_wp2_with (first
      | ((with_reducible refine gate_dst (N := 2) rfl ?_); refine bxb (bs := #[.int .i64 0, .int .i64 a1, .slice A2 l2.length c2, .slice A3 l3.length c3, .slice A4 l4.length c4]) 2 rfl rfl rfl rfl ?_; intro gb w1 BX hb1 hle hlt; have I := I0.below hb1; clear hb1; obtain ⟨hc0, hc1, hc2, hc3, hc4, hf0, hf1, hf2, hf3, hf4⟩ := blk5 BX.h; simp only [Act.put, List.setIfInBounds_toArray, List.set_cons_zero, List.set_cons_succ])
      | ((with_reducible refine gate_dst (N := 16) rfl ?_); at_builtin; refine tx_str (w0 := w0) (ys := [110, 117, 108, 108]) rfl (.tmp 15) _ 22 9 rfl Tryd.underlying22 Tryd.underlying9 info5 rfl rfl I.r I.hb rfl (by have := LB.out; have hz_ : (⟨#[110, 117, 108, 108]⟩ : ByteArray).size = 4 := rfl; omega) ?_; intro v16 w16 p; replace BX := BX.stp p (by decide); replace I := I.then_ p; clear p; obtain ⟨hc0, hc1, hc2, hc3, hc4, hf0, hf1, hf2, hf3, hf4⟩ := blk5 BX.h; simp only [Act.put, List.setIfInBounds_toArray, List.set_cons_zero, List.set_cons_succ]))
    go_ret
    exact ⟨_, rfl, I⟩
  rw [if_neg n0] at h
  by_cases n1 : a0 = 1
  · subst n1
    rw [if_pos rfl] at h
    have HF := Aside0.mk h
    clear h
    go_enter Tryd.func41, Tryd.ntmps41
    go_wp2_with (first
      | ((with_reducible refine gate_dst (N := 2) rfl ?_); refine bxb (bs := #[.int .i64 1, .int .i64 a1, .slice A2 l2.length c2, .slice A3 l3.length c3, .slice A4 l4.length c4]) 2 rfl rfl rfl rfl ?_; intro gb w1 BX hb1 hle hlt; have I := I0.below hb1; clear hb1; obtain ⟨hc0, hc1, hc2, hc3, hc4, hf0, hf1, hf2, hf3, hf4⟩ := blk5 BX.h; simp only [Act.put, List.setIfInBounds_toArray, List.set_cons_zero, List.set_cons_succ])
      | ((with_reducible refine gate_dst (N := 23) rfl ?_); refine gg (some 23) rfl rfl rfl frTB ?_; refine onc (appendBool_S l v (a1 == 1) r w0 _ I.hb I.r HF.out) rfl ?_; rintro e w2 ⟨v2, rfl, p⟩; refine ⟨_, rfl, ?_⟩; replace BX := BX.stp p (by decide); replace I := I.then_ p; clear p; simp only [Act.put, List.setIfInBounds_toArray, List.set_cons_zero, List.set_cons_succ]))
    go_ret
    exact ⟨_, rfl, I⟩
  rw [if_neg n1] at h
  by_cases n2 : a0 = 2
  · subst n2
    rw [if_pos rfl] at h
    obtain ⟨hf, h⟩ := yesN h
    obtain rfl := Option.some.inj h
    have HF := Aside0.mk hf
    clear hf
    clear h
    go_enter Tryd.func41, Tryd.ntmps41
    go_wp2_with (first
      | ((with_reducible refine gate_dst (N := 2) rfl ?_); refine bxb (bs := #[.int .i64 2, .int .i64 a1, .slice A2 l2.length c2, .slice A3 l3.length c3, .slice A4 l4.length c4]) 2 rfl rfl rfl rfl ?_; intro gb w1 BX hb1 hle hlt; have I := I0.below hb1; clear hb1; obtain ⟨hc0, hc1, hc2, hc3, hc4, hf0, hf1, hf2, hf3, hf4⟩ := blk5 BX.h; simp only [Act.put, List.setIfInBounds_toArray, List.set_cons_zero, List.set_cons_succ])
      | ((with_reducible refine gate_dst (N := 29) rfl ?_); refine gg (some 29) rfl rfl rfl frTI ?_; refine onc (appendInt_S l v a1 w0 _ HF.out.1 HF.out.2 I.hb I.r (by have := LB.out; omega) TB.out) rfl ?_; rintro e w2 ⟨v2, rfl, p⟩; refine ⟨_, rfl, ?_⟩; replace BX := BX.stp p (by decide); replace I := I.then_ p; clear p; simp only [Act.put, List.setIfInBounds_toArray, List.set_cons_zero, List.set_cons_succ]))
    go_ret
    exact ⟨_, rfl, I⟩
  rw [if_neg n2] at h
  by_cases n6 : a0 = 6
  · subst n6
    rw [if_pos rfl] at h
    obtain rfl := Option.some.inj h
    clear h
    go_enter Tryd.func41, Tryd.ntmps41
    go_wp2_with (first
      | ((with_reducible refine gate_dst (N := 2) rfl ?_); refine bxb (bs := #[.int .i64 6, .int .i64 a1, .slice A2 l2.length c2, .slice A3 l3.length c3, .slice A4 l4.length c4]) 2 rfl rfl rfl rfl ?_; intro gb w1 BX hb1 hle hlt; have I := I0.below hb1; clear hb1; obtain ⟨hc0, hc1, hc2, hc3, hc4, hf0, hf1, hf2, hf3, hf4⟩ := blk5 BX.h; simp only [Act.put, List.setIfInBounds_toArray, List.set_cons_zero, List.set_cons_succ])
      | ((with_reducible refine gate_dst (N := 34) rfl ?_); at_builtin; refine tx_one (w0 := w0) (p := 63) rfl (.tmp 32) (.tmp 33) 22 rfl Tryd.underlying22 info5 rfl rfl I.r I.hb (by have := LB.out; (try simp only [List.length_append, List.length_cons, List.length_nil] at this ⊢); omega) ?_; intro v34 w34 p; replace BX := BX.stp p (by decide); replace I := I.then_ p; clear p; obtain ⟨hc0, hc1, hc2, hc3, hc4, hf0, hf1, hf2, hf3, hf4⟩ := blk5 BX.h; simp only [Act.put, List.setIfInBounds_toArray, List.set_cons_zero, List.set_cons_succ]))
    go_ret
    exact ⟨_, rfl, I⟩
  rw [if_neg n6] at h
  by_cases n3 : a0 = 3
  · subst n3
    rw [if_pos rfl] at h
    obtain ⟨hf, h⟩ := yesN h
    obtain rfl := Option.some.inj h
    have HF := Aside0.mk hf
    have hll : l2.length ≤ 9223372036854775807 := G2.out.2.1
    clear hf h
    go_enter Tryd.func41, Tryd.ntmps41
    go_wp2_with (first
      | ((with_reducible refine gate_dst (N := 2) rfl ?_); refine bxb (bs := #[.int .i64 3, .int .i64 a1, .slice A2 l2.length c2, .slice A3 l3.length c3, .slice A4 l4.length c4]) 2 rfl rfl rfl rfl ?_; intro gb w1 BX hb1 hle hlt; have I := I0.below hb1; clear hb1; obtain ⟨hc0, hc1, hc2, hc3, hc4, hf0, hf1, hf2, hf3, hf4⟩ := blk5 BX.h; simp only [Act.put, List.setIfInBounds_toArray, List.set_cons_zero, List.set_cons_succ])
      | ((with_reducible refine gate_dst (N := 39) rfl ?_); at_builtin; refine tx_one (w0 := w0) (p := 34) rfl (.tmp 37) (.tmp 38) 22 rfl Tryd.underlying22 info5 rfl rfl I.r I.hb (by have := LB.out; (try simp only [List.length_append, List.length_cons, List.length_nil] at this ⊢); omega) ?_; intro v39 w39 p; replace BX := BX.stp p (by decide); replace I := I.then_ p; clear p; obtain ⟨hc0, hc1, hc2, hc3, hc4, hf0, hf1, hf2, hf3, hf4⟩ := blk5 BX.h; simp only [Act.put, List.setIfInBounds_toArray, List.set_cons_zero, List.set_cons_succ]))
    go_loopw [1, 43] (fun v1 v43 wr => ∃ i : Nat, i ≤ l2.length ∧ v43 = .int .i64 i ∧ Stp 5 w0 w (l ++ [34] ++ qtd (l2.take i)) v1 wr ∧ Bx wr gb 31 #[.int .i64 3, .int .i64 a1, .slice A2 l2.length c2, .slice A3 l3.length c3, .slice A4 l4.length c4]) (fun _ v43 _ => l2.length - (intOf v43).toNat)
    case atStart => exact ⟨0, Nat.zero_le _, rfl, by simpa [qtd] using I, BX⟩
    case round =>
      clear I BX hc0 hc1 hc2 hc3 hc4 hf0 hf1 hf2 hf3 hf4
      obtain ⟨i, hil, rfl, I, BX⟩ := hrel
      obtain ⟨hc0, hc1, hc2, hc3, hc4, hf0, hf1, hf2, hf3, hf4⟩ := blk5 BX.h
      have QL := Aside0.mk (show (l ++ [34] ++ qtd (l2.take i)).length < 105553116266496 by have := qtd_take_len l2 i; have := HF.out; simp; omega)
      by_cases hlt : i < l2.length
      · obtain ⟨ad, e9, hx⟩ := Kd.at_int G2.out (i : Int) (by omega) (by omega)
        cases e9
        rw [Int.toNat_natCast] at hx
        replace hx := (I.hb.cell (World.block_lt_of_cell? w0 _ hx)).trans hx
        rw [rd_nat l2 i hlt, show l2[i] = l2.getD i 0 by rw [List.getD_eq_getElem?_getD, List.getElem?_eq_getElem hlt]; rfl] at hx
        have HT := Aside0.mk (qtd_take l2 i hlt)
        obtain ⟨z, hz⟩ : ∃ z, l2.getD i 0 = z := ⟨_, rfl⟩
        rw [hz] at hx HT
        obtain ⟨b, hb⟩ : ∃ b, l ++ [34] ++ qtd (l2.take i) = b := ⟨_, rfl⟩
        have HBB := Aside0.mk hb
        rw [hb] at I QL
        have p1 : (0 ≤ (i : Int)) = True := eq_true (by omega)
        have p2 : ((i : Int) < (l2.length : Int)) = True := eq_true (by omega)
        clear hz hb
        by_cases z1 : z = 34
        · subst z1
          go_wp2_with (first
            | ((with_reducible refine gate_dst (N := 55) rfl ?_); at_builtin; refine tx_one (w0 := w0) (p := 92) rfl (.tmp 53) (.tmp 54) 22 rfl Tryd.underlying22 info5 rfl rfl I.r I.hb (by have := QL.out; (try simp only [List.length_append, List.length_cons, List.length_nil] at this ⊢); omega) ?_; intro v55 w55 p; replace BX := BX.stp p (by decide); replace I := I.then_ p; clear p; obtain ⟨hc0, hc1, hc2, hc3, hc4, hf0, hf1, hf2, hf3, hf4⟩ := blk5 BX.h; simp only [Act.put, List.setIfInBounds_toArray, List.set_cons_zero, List.set_cons_succ])
            | ((with_reducible refine gate_dst (N := 59) rfl ?_); at_builtin; refine tx_one (w0 := w0) (p := 34) rfl (.tmp 56) (.tmp 58) 22 rfl Tryd.underlying22 info5 rfl rfl I.r I.hb (by have := QL.out; (try simp only [List.length_append, List.length_cons, List.length_nil] at this ⊢); omega) ?_; intro v59 w59 p; replace BX := BX.stp p (by decide); replace I := I.then_ p; clear p; simp only [Act.put, List.setIfInBounds_toArray, List.set_cons_zero, List.set_cons_succ]))
          go_roundw
          case rel => exact ⟨i + 1, by omega, by go_num, by rw [HT.out, ← List.append_assoc, HBB.out, show q1 34 = [92, 34] from rfl]; simpa using I, BX⟩
          case measure => simp [intOf]; omega
        by_cases z2 : z = 92
        · clear z1
          subst z2
          go_wp2_with (first
            | ((with_reducible refine gate_dst (N := 55) rfl ?_); at_builtin; refine tx_one (w0 := w0) (p := 92) rfl (.tmp 53) (.tmp 54) 22 rfl Tryd.underlying22 info5 rfl rfl I.r I.hb (by have := QL.out; (try simp only [List.length_append, List.length_cons, List.length_nil] at this ⊢); omega) ?_; intro v55 w55 p; replace BX := BX.stp p (by decide); replace I := I.then_ p; clear p; obtain ⟨hc0, hc1, hc2, hc3, hc4, hf0, hf1, hf2, hf3, hf4⟩ := blk5 BX.h; simp only [Act.put, List.setIfInBounds_toArray, List.set_cons_zero, List.set_cons_succ])
            | ((with_reducible refine gate_dst (N := 59) rfl ?_); at_builtin; refine tx_one (w0 := w0) (p := 92) rfl (.tmp 56) (.tmp 58) 22 rfl Tryd.underlying22 info5 rfl rfl I.r I.hb (by have := QL.out; (try simp only [List.length_append, List.length_cons, List.length_nil] at this ⊢); omega) ?_; intro v59 w59 p; replace BX := BX.stp p (by decide); replace I := I.then_ p; clear p; simp only [Act.put, List.setIfInBounds_toArray, List.set_cons_zero, List.set_cons_succ]))
          go_roundw
          case rel => exact ⟨i + 1, by omega, by go_num, by rw [HT.out, ← List.append_assoc, HBB.out, show q1 92 = [92, 92] from rfl]; simpa using I, BX⟩
          case measure => simp [intOf]; omega
        have b1 : (z == 34) = false := beq_eq_false_iff_ne.mpr z1
        have b2 : (z == 92) = false := beq_eq_false_iff_ne.mpr z2
        have ZN := Aside0.mk (show ¬ (z = 34 ∨ z = 92) from fun q => q.elim z1 z2)
        clear z1 z2
        go_wp2_with (first
          | ((with_reducible refine gate_dst (N := 59) rfl ?_); at_builtin; refine tx_one (w0 := w0) (p := z) rfl (.tmp 56) (.tmp 58) 22 rfl Tryd.underlying22 info5 rfl rfl I.r I.hb (by have := QL.out; (try simp only [List.length_append, List.length_cons, List.length_nil] at this ⊢); omega) ?_; intro v59 w59 p; replace BX := BX.stp p (by decide); replace I := I.then_ p; clear p; simp only [Act.put, List.setIfInBounds_toArray, List.set_cons_zero, List.set_cons_succ]))
        go_roundw
        case rel => exact ⟨i + 1, by omega, by go_num, by rw [HT.out, ← List.append_assoc, HBB.out, show q1 z = [z] from if_neg ZN.out]; simpa using I, BX⟩
        case measure => simp [intOf]; omega
      · have hi : i = l2.length := by omega
        subst hi
        rw [List.take_length] at I QL
        have p2 : ((l2.length : Int) < (l2.length : Int)) = False := eq_false (by omega)
        go_wp2_with (first
          | ((with_reducible refine gate_dst (N := 63) rfl ?_); at_builtin; refine tx_one (w0 := w0) (p := 34) rfl (.tmp 61) (.tmp 62) 22 rfl Tryd.underlying22 info5 rfl rfl I.r I.hb (by have := QL.out; (try simp only [List.length_append, List.length_cons, List.length_nil] at this ⊢); omega) ?_; intro v63 w63 p; replace BX := BX.stp p (by decide); replace I := I.then_ p; clear p; simp only [Act.put, List.setIfInBounds_toArray, List.set_cons_zero, List.set_cons_succ]))
        go_ret
        exact ⟨_, rfl, I⟩
  rw [if_neg n3] at h
  obtain ⟨r1, A1, h⟩ := bnd h
  obtain ⟨hr1, h⟩ := yesN h
  obtain rfl := Option.some.inj h
  have R1 := Aside0.mk hr1
  replace A1 := Aside0.mk A1
  have hll : l4.length ≤ 9223372036854775807 := G4.out.2.1
  clear h hr1
  by_cases n5 : a0 = 5
  · subst n5
    clear n0 n1 n2 n6 n3
    go_enter Tryd.func41, Tryd.ntmps41
    go_wp2_with (first
      | ((with_reducible refine gate_dst (N := 2) rfl ?_); refine bxb (bs := #[.int .i64 5, .int .i64 a1, .slice A2 l2.length c2, .slice A3 l3.length c3, .slice A4 l4.length c4]) 2 rfl rfl rfl rfl ?_; intro gb w1 BX hb1 hle hlt; have I := I0.below hb1; clear hb1; obtain ⟨hc0, hc1, hc2, hc3, hc4, hf0, hf1, hf2, hf3, hf4⟩ := blk5 BX.h; simp only [Act.put, List.setIfInBounds_toArray, List.set_cons_zero, List.set_cons_succ])
      | ((with_reducible refine gate_dst (N := 70) rfl ?_); at_builtin; refine tx_one (w0 := w0) (p := 123) rfl (.tmp 67) (.tmp 69) 22 rfl Tryd.underlying22 info5 rfl rfl I.r I.hb (by have := LB.out; (try simp only [List.length_append, List.length_cons, List.length_nil] at this ⊢); omega) ?_; intro v70 w70 p; replace BX := BX.stp p (by decide); replace I := I.then_ p; clear p; obtain ⟨hc0, hc1, hc2, hc3, hc4, hf0, hf1, hf2, hf3, hf4⟩ := blk5 BX.h; simp only [Act.put, List.setIfInBounds_toArray, List.set_cons_zero, List.set_cons_succ]))
    go_loopw [1, 74] (fun v1 v74 wr => ∃ (i kq : Nat) (b : List Int), i ≤ l4.length ∧ v74 = .int .i64 i ∧ kq ≤ kk ∧ Aside0 (impl_Value_text.l0 kq ⟨5, a1, l2, l3, l4⟩ b i = some r1) ∧ Stp 5 w0 w b v1 wr ∧ Bx wr gb 31 #[.int .i64 5, .int .i64 a1, .slice A2 l2.length c2, .slice A3 l3.length c3, .slice A4 l4.length c4]) (fun _ v74 _ => l4.length - (intOf v74).toNat)
    case atStart => exact ⟨0, kk, _, Nat.zero_le _, rfl, Nat.le_refl _, A1, I, BX⟩
    case round =>
      clear A1 I BX hc0 hc1 hc2 hc3 hc4 hf0 hf1 hf2 hf3 hf4
      obtain ⟨i, kq, b, hil, rfl, hkq, HL, I, BX⟩ := hrel
      have h := HL.out
      clear HL
      cases kq with
      | zero => simp [impl_Value_text.l0] at h
      | succ kq =>
      simp only [impl_Value_text.l0] at h
      obtain ⟨hc0, hc1, hc2, hc3, hc4, hf0, hf1, hf2, hf3, hf4⟩ := blk5 BX.h
      by_cases hlt : i < l4.length
      · rw [if_pos hlt] at h
        obtain ⟨t3, B1, h⟩ := bnd h
        obtain ⟨t4, B2, h⟩ := bnd h
        have HL := Aside0.mk h
        replace B2 := Aside0.mk B2
        clear h
        obtain ⟨lb2, B1⟩ := yesN B1
        have LB2 := Aside0.mk lb2
        clear lb2
        obtain ⟨ad, D2, d2, D3, d3, D4, d4, rfl, x0, x1, x2, x3, x4, y2, z2, y3, z3, y4, z4⟩ := at_T31 G4.out (i : Int) (by omega) (by omega)
        rw [Int.toNat_natCast] at x0 x1 x2 x3 x4
        replace x0 := (I.hb.cell (World.block_lt_of_cell? w0 _ x0)).trans x0
        replace x1 := (I.hb.cell (World.block_lt_of_cell? w0 _ x1)).trans x1
        replace x2 := (I.hb.cell (World.block_lt_of_cell? w0 _ x2)).trans x2
        replace x3 := (I.hb.cell (World.block_lt_of_cell? w0 _ x3)).trans x3
        replace x4 := (I.hb.cell (World.block_lt_of_cell? w0 _ x4)).trans x4
        have C0 := Aside0.mk (k31_mk w0 (rd_T31 l4 (i : Int)) y2 z2 y3 z3 y4 z4)
        clear y2 z2 y3 z3 y4 z4
        have p1 : (0 ≤ (i : Int)) = True := eq_true (by omega)
        have p2 : ((i : Int) < (l4.length : Int)) = True := eq_true (by omega)
        obtain ⟨xx, hxx⟩ : ∃ y, y = rd_T31 l4 (i : Int) := ⟨_, rfl⟩
        rw [← hxx] at x0 x1 x2 x3 x4 C0 B2
        clear hxx
        rw [if_pos trivial] at B1
        obtain ⟨h3, B1⟩ := yesN B1
        obtain ⟨kl, B1⟩ := yesN B1
        obtain rfl := Option.some.inj B1
        obtain ⟨ae, E0, f0_, rfl, s0, s1, s2⟩ := at_L1 G3.out (i : Int) (by omega) (by omega)
        rw [Int.toNat_natCast] at s0
        have S0 := Aside0.mk s0
        have S1 := Aside0.mk s1
        have S2 := Aside0.mk s2
        have KL := Aside0.mk kl
        have p3 : ((i : Int) < (l3.length : Int)) = True := eq_true (by omega)
        obtain ⟨te, hte⟩ : ∃ y, y = rd_L1 l3 (i : Int) := ⟨_, rfl⟩
        rw [← hte] at S0 S1 S2 KL B2
        clear hte s0 s1 s2 kl B1
        rcases Nat.eq_zero_or_pos i with hi0 | hi0
        · have p5 : (0 < (i : Int)) = False := eq_false (by omega)
          have p6 : (0 < i) = False := eq_false (by omega)
          rw [show sepL i = [] from if_neg (by omega), List.append_nil] at B2
          clear hi0
          have LK := Aside0.mk (show b.length + te.length ≤ 140737488355328 by have := LB2.out; have := KL.out; omega)
          have LK2 := Aside0.mk (show (b ++ te).length + 3 ≤ 140737488355328 by have := LB2.out; have := KL.out; simp; omega)
          go_wp2_with (first
            | ((with_reducible refine gate_dst (N := 10) rfl ?_); refine alas 10 9 rfl rfl rfl rfl rfl rfl rfl rfl rfl rfl (fun _ => rfl) (fun _ => rfl) (fun _ => rfl) (v := .int .i64 (i : Int)) (bs := #[.int .i64 xx.f0, .int .i64 xx.f1, .slice D2 xx.f2.length d2, .slice D3 xx.f3.length d3, .slice D4 xx.f4.length d4]) (cs := #[.int .i64 0, .int .i64 0, .slice none 0 0, .slice none 0 0, .slice none 0 0]) (t := 31) (by kernel_rfl) rfl (by simp [Value.oneCell']) ?_; intro gl hgl wl hyl hbl; have BY := Bx.mk hyl; replace I := I.below hbl; replace BX := BX.b hbl; have s0 := (I.hb.cell (World.block_lt_of_cell? w0 _ S0.out)).trans S0.out; clear hyl hbl hgl; obtain ⟨hc0, hc1, hc2, hc3, hc4, hf0, hf1, hf2, hf3, hf4⟩ := blk5 BX.h; obtain ⟨gc0, gc1, gc2, gc3, gc4, gf0, gf1, gf2, gf3, gf4⟩ := blk5 BY.h; simp only [Act.put, List.setIfInBounds_toArray, List.set_cons_zero, List.set_cons_succ])
            | ((with_reducible refine gate_dst (N := 92) rfl ?_); at_builtin; refine tx_rows (w0 := w0) rfl (.tmp 86) (.tmp 91) 22 rfl Tryd.underlying22 info5 rfl rfl I.r I.hb (Kd.C_below S2.out I.hb) (by have := LK.out; (try simp only [List.length_append, List.length_cons, List.length_nil] at this ⊢); omega) ?_; intro v92 w92 p; replace BX := BX.stp p (by decide); replace BY := BY.stp p (by decide); replace I := I.then_ p; clear p; have s0 := (I.hb.cell (World.block_lt_of_cell? w0 _ S0.out)).trans S0.out; obtain ⟨hc0, hc1, hc2, hc3, hc4, hf0, hf1, hf2, hf3, hf4⟩ := blk5 BX.h; obtain ⟨gc0, gc1, gc2, gc3, gc4, gf0, gf1, gf2, gf3, gf4⟩ := blk5 BY.h; simp only [Act.put, List.setIfInBounds_toArray, List.set_cons_zero, List.set_cons_succ])
            | ((with_reducible refine gate_dst (N := 93) rfl ?_); at_builtin; refine tx_str (w0 := w0) (ys := [32, 61, 32]) rfl (.tmp 92) _ 22 9 rfl Tryd.underlying22 Tryd.underlying9 info5 rfl rfl I.r I.hb rfl (by have := LK2.out; have hz_ : (⟨#[32, 61, 32]⟩ : ByteArray).size = 3 := rfl; omega) ?_; intro v93 w93 p; replace BX := BX.stp p (by decide); replace BY := BY.stp p (by decide); replace I := I.then_ p; clear p; have s0 := (I.hb.cell (World.block_lt_of_cell? w0 _ S0.out)).trans S0.out; obtain ⟨hc0, hc1, hc2, hc3, hc4, hf0, hf1, hf2, hf3, hf4⟩ := blk5 BX.h; obtain ⟨gc0, gc1, gc2, gc3, gc4, gf0, gf1, gf2, gf3, gf4⟩ := blk5 BY.h; simp only [Act.put, List.setIfInBounds_toArray, List.set_cons_zero, List.set_cons_succ])
            | ((with_reducible refine gate_dst (N := 96) rfl ?_); refine gg (some 96) rfl rfl rfl frT ?_; refine onc (ih kq (by omega) xx #[.int .i64 xx.f0, .int .i64 xx.f1, .slice D2 xx.f2.length d2, .slice D3 xx.f3.length d3, .slice D4 xx.f4.length d4] _ _ t4 w0 _ I.hb I.r ⟨C0.out⟩ TB.out B2.out) rfl ?_; rintro e w2 ⟨v2, rfl, p⟩; refine ⟨_, rfl, ?_⟩; replace BX := BX.stp p (by decide); replace I := I.then_ p; clear p; simp only [Act.put, List.setIfInBounds_toArray, List.set_cons_zero, List.set_cons_succ]))
          go_roundw
          case rel => exact ⟨i + 1, kq, t4, by omega, by go_num, by omega, HL, I, BX⟩
          case measure => simp [intOf]; omega
        · have p5 : (0 < (i : Int)) = True := eq_true (by omega)
          have p6 : (0 < i) = True := eq_true hi0
          rw [show sepL i = [44, 32] from if_pos hi0] at B2
          have LK := Aside0.mk (show (b ++ [44, 32]).length + te.length ≤ 140737488355328 by have := LB2.out; have := KL.out; simp; omega)
          have LK2 := Aside0.mk (show ((b ++ [44, 32]) ++ te).length + 3 ≤ 140737488355328 by have := LB2.out; have := KL.out; simp; omega)
          go_wp2_with (first
            | ((with_reducible refine gate_dst (N := 10) rfl ?_); refine alas 10 9 rfl rfl rfl rfl rfl rfl rfl rfl rfl rfl (fun _ => rfl) (fun _ => rfl) (fun _ => rfl) (v := .int .i64 (i : Int)) (bs := #[.int .i64 xx.f0, .int .i64 xx.f1, .slice D2 xx.f2.length d2, .slice D3 xx.f3.length d3, .slice D4 xx.f4.length d4]) (cs := #[.int .i64 0, .int .i64 0, .slice none 0 0, .slice none 0 0, .slice none 0 0]) (t := 31) (by kernel_rfl) rfl (by simp [Value.oneCell']) ?_; intro gl hgl wl hyl hbl; have BY := Bx.mk hyl; replace I := I.below hbl; replace BX := BX.b hbl; have s0 := (I.hb.cell (World.block_lt_of_cell? w0 _ S0.out)).trans S0.out; clear hyl hbl hgl; obtain ⟨hc0, hc1, hc2, hc3, hc4, hf0, hf1, hf2, hf3, hf4⟩ := blk5 BX.h; obtain ⟨gc0, gc1, gc2, gc3, gc4, gf0, gf1, gf2, gf3, gf4⟩ := blk5 BY.h; simp only [Act.put, List.setIfInBounds_toArray, List.set_cons_zero, List.set_cons_succ])
            | ((with_reducible refine gate_dst (N := 82) rfl ?_); at_builtin; refine tx_str (w0 := w0) (ys := [44, 32]) rfl (.tmp 81) _ 22 9 rfl Tryd.underlying22 Tryd.underlying9 info5 rfl rfl I.r I.hb rfl (by have := LB2.out; have hz_ : (⟨#[44, 32]⟩ : ByteArray).size = 2 := rfl; omega) ?_; intro v82 w82 p; replace BX := BX.stp p (by decide); replace BY := BY.stp p (by decide); replace I := I.then_ p; clear p; have s0 := (I.hb.cell (World.block_lt_of_cell? w0 _ S0.out)).trans S0.out; obtain ⟨hc0, hc1, hc2, hc3, hc4, hf0, hf1, hf2, hf3, hf4⟩ := blk5 BX.h; obtain ⟨gc0, gc1, gc2, gc3, gc4, gf0, gf1, gf2, gf3, gf4⟩ := blk5 BY.h; simp only [Act.put, List.setIfInBounds_toArray, List.set_cons_zero, List.set_cons_succ])
            | ((with_reducible refine gate_dst (N := 92) rfl ?_); at_builtin; refine tx_rows (w0 := w0) rfl (.tmp 86) (.tmp 91) 22 rfl Tryd.underlying22 info5 rfl rfl I.r I.hb (Kd.C_below S2.out I.hb) (by have := LK.out; (try simp only [List.length_append, List.length_cons, List.length_nil] at this ⊢); omega) ?_; intro v92 w92 p; replace BX := BX.stp p (by decide); replace BY := BY.stp p (by decide); replace I := I.then_ p; clear p; have s0 := (I.hb.cell (World.block_lt_of_cell? w0 _ S0.out)).trans S0.out; obtain ⟨hc0, hc1, hc2, hc3, hc4, hf0, hf1, hf2, hf3, hf4⟩ := blk5 BX.h; obtain ⟨gc0, gc1, gc2, gc3, gc4, gf0, gf1, gf2, gf3, gf4⟩ := blk5 BY.h; simp only [Act.put, List.setIfInBounds_toArray, List.set_cons_zero, List.set_cons_succ])
            | ((with_reducible refine gate_dst (N := 93) rfl ?_); at_builtin; refine tx_str (w0 := w0) (ys := [32, 61, 32]) rfl (.tmp 92) _ 22 9 rfl Tryd.underlying22 Tryd.underlying9 info5 rfl rfl I.r I.hb rfl (by have := LK2.out; have hz_ : (⟨#[32, 61, 32]⟩ : ByteArray).size = 3 := rfl; omega) ?_; intro v93 w93 p; replace BX := BX.stp p (by decide); replace BY := BY.stp p (by decide); replace I := I.then_ p; clear p; have s0 := (I.hb.cell (World.block_lt_of_cell? w0 _ S0.out)).trans S0.out; obtain ⟨hc0, hc1, hc2, hc3, hc4, hf0, hf1, hf2, hf3, hf4⟩ := blk5 BX.h; obtain ⟨gc0, gc1, gc2, gc3, gc4, gf0, gf1, gf2, gf3, gf4⟩ := blk5 BY.h; simp only [Act.put, List.setIfInBounds_toArray, List.set_cons_zero, List.set_cons_succ])
            | ((with_reducible refine gate_dst (N := 96) rfl ?_); refine gg (some 96) rfl rfl rfl frT ?_; refine onc (ih kq (by omega) xx #[.int .i64 xx.f0, .int .i64 xx.f1, .slice D2 xx.f2.length d2, .slice D3 xx.f3.length d3, .slice D4 xx.f4.length d4] _ _ t4 w0 _ I.hb I.r ⟨C0.out⟩ TB.out B2.out) rfl ?_; rintro e w2 ⟨v2, rfl, p⟩; refine ⟨_, rfl, ?_⟩; replace BX := BX.stp p (by decide); replace I := I.then_ p; clear p; simp only [Act.put, List.setIfInBounds_toArray, List.set_cons_zero, List.set_cons_succ]))
          go_roundw
          case rel => exact ⟨i + 1, kq, t4, by omega, by go_num, by omega, HL, I, BX⟩
          case measure => simp [intOf]; omega
      · rw [if_neg hlt] at h
        obtain rfl := Option.some.inj h
        have p2 : ((i : Int) < (l4.length : Int)) = False := eq_false (by omega)
        go_wp2_with (first
          | ((with_reducible refine gate_dst (N := 101) rfl ?_); at_builtin; refine tx_one (w0 := w0) (p := 125) rfl (.tmp 98) (.tmp 100) 22 rfl Tryd.underlying22 info5 rfl rfl I.r I.hb (by have := R1.out; (try simp only [List.length_append, List.length_cons, List.length_nil] at this ⊢); omega) ?_; intro v101 w101 p; replace BX := BX.stp p (by decide); replace I := I.then_ p; clear p; simp only [Act.put, List.setIfInBounds_toArray, List.set_cons_zero, List.set_cons_succ]))
        go_ret
        exact ⟨_, rfl, I⟩
  have o1 : (if a0 = 5 then (123 : Int) else 91) = 91 := if_neg n5
  have o2 : (if a0 = 5 then (125 : Int) else 93) = 93 := if_neg n5
  rw [o1] at A1
  rw [o2]
  clear o1 o2
  have e0 : (a0 == 0) = false := beq_eq_false_iff_ne.mpr n0
  have d0 : decide (a0 = 0) = false := decide_eq_false n0
  have e1 : (a0 == 1) = false := beq_eq_false_iff_ne.mpr n1
  have d1 : decide (a0 = 1) = false := decide_eq_false n1
  have e2 : (a0 == 2) = false := beq_eq_false_iff_ne.mpr n2
  have d2 : decide (a0 = 2) = false := decide_eq_false n2
  have e6 : (a0 == 6) = false := beq_eq_false_iff_ne.mpr n6
  have d6 : decide (a0 = 6) = false := decide_eq_false n6
  have e3 : (a0 == 3) = false := beq_eq_false_iff_ne.mpr n3
  have d3 : decide (a0 = 3) = false := decide_eq_false n3
  have e5 : (a0 == 5) = false := beq_eq_false_iff_ne.mpr n5
  have d5 : decide (a0 = 5) = false := decide_eq_false n5
  go_enter Tryd.func41, Tryd.ntmps41
  go_wp2_with (first
    | ((with_reducible refine gate_dst (N := 2) rfl ?_); refine bxb (bs := #[.int .i64 a0, .int .i64 a1, .slice A2 l2.length c2, .slice A3 l3.length c3, .slice A4 l4.length c4]) 2 rfl rfl rfl rfl ?_; intro gb w1 BX hb1 hle hlt; have I := I0.below hb1; clear hb1; obtain ⟨hc0, hc1, hc2, hc3, hc4, hf0, hf1, hf2, hf3, hf4⟩ := blk5 BX.h; simp only [Act.put, List.setIfInBounds_toArray, List.set_cons_zero, List.set_cons_succ])
    | ((with_reducible refine gate_dst (N := 70) rfl ?_); at_builtin; refine tx_one (w0 := w0) (p := 91) rfl (.tmp 67) (.tmp 69) 22 rfl Tryd.underlying22 info5 rfl rfl I.r I.hb (by have := LB.out; (try simp only [List.length_append, List.length_cons, List.length_nil] at this ⊢); omega) ?_; intro v70 w70 p; replace BX := BX.stp p (by decide); replace I := I.then_ p; clear p; obtain ⟨hc0, hc1, hc2, hc3, hc4, hf0, hf1, hf2, hf3, hf4⟩ := blk5 BX.h; simp only [Act.put, List.setIfInBounds_toArray, List.set_cons_zero, List.set_cons_succ]))
  go_loopw [1, 74] (fun v1 v74 wr => ∃ (i kq : Nat) (b : List Int), i ≤ l4.length ∧ v74 = .int .i64 i ∧ kq ≤ kk ∧ Aside0 (impl_Value_text.l0 kq ⟨a0, a1, l2, l3, l4⟩ b i = some r1) ∧ Stp 5 w0 w b v1 wr ∧ Bx wr gb 31 #[.int .i64 a0, .int .i64 a1, .slice A2 l2.length c2, .slice A3 l3.length c3, .slice A4 l4.length c4]) (fun _ v74 _ => l4.length - (intOf v74).toNat)
  case atStart => exact ⟨0, kk, _, Nat.zero_le _, rfl, Nat.le_refl _, A1, I, BX⟩
  case round =>
    clear A1 I BX hc0 hc1 hc2 hc3 hc4 hf0 hf1 hf2 hf3 hf4
    obtain ⟨i, kq, b, hil, rfl, hkq, HL, I, BX⟩ := hrel
    have h := HL.out
    clear HL
    cases kq with
    | zero => simp [impl_Value_text.l0] at h
    | succ kq =>
    simp only [impl_Value_text.l0] at h
    obtain ⟨hc0, hc1, hc2, hc3, hc4, hf0, hf1, hf2, hf3, hf4⟩ := blk5 BX.h
    by_cases hlt : i < l4.length
    · rw [if_pos hlt] at h
      obtain ⟨t3, B1, h⟩ := bnd h
      obtain ⟨t4, B2, h⟩ := bnd h
      have HL := Aside0.mk h
      replace B2 := Aside0.mk B2
      clear h
      obtain ⟨lb2, B1⟩ := yesN B1
      have LB2 := Aside0.mk lb2
      clear lb2
      obtain ⟨ad, D2, d2, D3, d3, D4, d4, rfl, x0, x1, x2, x3, x4, y2, z2, y3, z3, y4, z4⟩ := at_T31 G4.out (i : Int) (by omega) (by omega)
      rw [Int.toNat_natCast] at x0 x1 x2 x3 x4
      replace x0 := (I.hb.cell (World.block_lt_of_cell? w0 _ x0)).trans x0
      replace x1 := (I.hb.cell (World.block_lt_of_cell? w0 _ x1)).trans x1
      replace x2 := (I.hb.cell (World.block_lt_of_cell? w0 _ x2)).trans x2
      replace x3 := (I.hb.cell (World.block_lt_of_cell? w0 _ x3)).trans x3
      replace x4 := (I.hb.cell (World.block_lt_of_cell? w0 _ x4)).trans x4
      have C0 := Aside0.mk (k31_mk w0 (rd_T31 l4 (i : Int)) y2 z2 y3 z3 y4 z4)
      clear y2 z2 y3 z3 y4 z4
      have p1 : (0 ≤ (i : Int)) = True := eq_true (by omega)
      have p2 : ((i : Int) < (l4.length : Int)) = True := eq_true (by omega)
      obtain ⟨xx, hxx⟩ : ∃ y, y = rd_T31 l4 (i : Int) := ⟨_, rfl⟩
      rw [← hxx] at x0 x1 x2 x3 x4 C0 B2
      clear hxx
      rw [if_neg (show ¬ a0 = 5 from n5)] at B1
      obtain rfl := Option.some.inj B1
      clear B1
      rcases Nat.eq_zero_or_pos i with hi0 | hi0
      · have p5 : (0 < (i : Int)) = False := eq_false (by omega)
        have p6 : (0 < i) = False := eq_false (by omega)
        rw [show sepL i = [] from if_neg (by omega), List.append_nil] at B2
        clear hi0
        go_wp2_with (first
          | ((with_reducible refine gate_dst (N := 10) rfl ?_); refine alas 10 9 rfl rfl rfl rfl rfl rfl rfl rfl rfl rfl (fun _ => rfl) (fun _ => rfl) (fun _ => rfl) (v := .int .i64 (i : Int)) (bs := #[.int .i64 xx.f0, .int .i64 xx.f1, .slice D2 xx.f2.length d2, .slice D3 xx.f3.length d3, .slice D4 xx.f4.length d4]) (cs := #[.int .i64 0, .int .i64 0, .slice none 0 0, .slice none 0 0, .slice none 0 0]) (t := 31) (by kernel_rfl) rfl (by simp [Value.oneCell']) ?_; intro gl hgl wl hyl hbl; have BY := Bx.mk hyl; replace I := I.below hbl; replace BX := BX.b hbl; clear hyl hbl hgl; obtain ⟨hc0, hc1, hc2, hc3, hc4, hf0, hf1, hf2, hf3, hf4⟩ := blk5 BX.h; obtain ⟨gc0, gc1, gc2, gc3, gc4, gf0, gf1, gf2, gf3, gf4⟩ := blk5 BY.h; simp only [Act.put, List.setIfInBounds_toArray, List.set_cons_zero, List.set_cons_succ])
          | ((with_reducible refine gate_dst (N := 96) rfl ?_); refine gg (some 96) rfl rfl rfl frT ?_; refine onc (ih kq (by omega) xx #[.int .i64 xx.f0, .int .i64 xx.f1, .slice D2 xx.f2.length d2, .slice D3 xx.f3.length d3, .slice D4 xx.f4.length d4] _ _ t4 w0 _ I.hb I.r ⟨C0.out⟩ TB.out B2.out) rfl ?_; rintro e w2 ⟨v2, rfl, p⟩; refine ⟨_, rfl, ?_⟩; replace BX := BX.stp p (by decide); replace I := I.then_ p; clear p; simp only [Act.put, List.setIfInBounds_toArray, List.set_cons_zero, List.set_cons_succ]))
        go_roundw
        case rel => exact ⟨i + 1, kq, t4, by omega, by go_num, by omega, HL, I, BX⟩
        case measure => simp [intOf]; omega
      · have p5 : (0 < (i : Int)) = True := eq_true (by omega)
        have p6 : (0 < i) = True := eq_true hi0
        rw [show sepL i = [44, 32] from if_pos hi0] at B2
        go_wp2_with (first
          | ((with_reducible refine gate_dst (N := 10) rfl ?_); refine alas 10 9 rfl rfl rfl rfl rfl rfl rfl rfl rfl rfl (fun _ => rfl) (fun _ => rfl) (fun _ => rfl) (v := .int .i64 (i : Int)) (bs := #[.int .i64 xx.f0, .int .i64 xx.f1, .slice D2 xx.f2.length d2, .slice D3 xx.f3.length d3, .slice D4 xx.f4.length d4]) (cs := #[.int .i64 0, .int .i64 0, .slice none 0 0, .slice none 0 0, .slice none 0 0]) (t := 31) (by kernel_rfl) rfl (by simp [Value.oneCell']) ?_; intro gl hgl wl hyl hbl; have BY := Bx.mk hyl; replace I := I.below hbl; replace BX := BX.b hbl; clear hyl hbl hgl; obtain ⟨hc0, hc1, hc2, hc3, hc4, hf0, hf1, hf2, hf3, hf4⟩ := blk5 BX.h; obtain ⟨gc0, gc1, gc2, gc3, gc4, gf0, gf1, gf2, gf3, gf4⟩ := blk5 BY.h; simp only [Act.put, List.setIfInBounds_toArray, List.set_cons_zero, List.set_cons_succ])
          | ((with_reducible refine gate_dst (N := 82) rfl ?_); at_builtin; refine tx_str (w0 := w0) (ys := [44, 32]) rfl (.tmp 81) _ 22 9 rfl Tryd.underlying22 Tryd.underlying9 info5 rfl rfl I.r I.hb rfl (by have := LB2.out; have hz_ : (⟨#[44, 32]⟩ : ByteArray).size = 2 := rfl; omega) ?_; intro v82 w82 p; replace BX := BX.stp p (by decide); replace BY := BY.stp p (by decide); replace I := I.then_ p; clear p; obtain ⟨hc0, hc1, hc2, hc3, hc4, hf0, hf1, hf2, hf3, hf4⟩ := blk5 BX.h; obtain ⟨gc0, gc1, gc2, gc3, gc4, gf0, gf1, gf2, gf3, gf4⟩ := blk5 BY.h; simp only [Act.put, List.setIfInBounds_toArray, List.set_cons_zero, List.set_cons_succ])
          | ((with_reducible refine gate_dst (N := 96) rfl ?_); refine gg (some 96) rfl rfl rfl frT ?_; refine onc (ih kq (by omega) xx #[.int .i64 xx.f0, .int .i64 xx.f1, .slice D2 xx.f2.length d2, .slice D3 xx.f3.length d3, .slice D4 xx.f4.length d4] _ _ t4 w0 _ I.hb I.r ⟨C0.out⟩ TB.out B2.out) rfl ?_; rintro e w2 ⟨v2, rfl, p⟩; refine ⟨_, rfl, ?_⟩; replace BX := BX.stp p (by decide); replace I := I.then_ p; clear p; simp only [Act.put, List.setIfInBounds_toArray, List.set_cons_zero, List.set_cons_succ]))
        go_roundw
        case rel => exact ⟨i + 1, kq, t4, by omega, by go_num, by omega, HL, I, BX⟩
        case measure => simp [intOf]; omega
    · rw [if_neg hlt] at h
      obtain rfl := Option.some.inj h
      have p2 : ((i : Int) < (l4.length : Int)) = False := eq_false (by omega)
      go_wp2_with (first
        | ((with_reducible refine gate_dst (N := 101) rfl ?_); at_builtin; refine tx_one (w0 := w0) (p := 93) rfl (.tmp 98) (.tmp 100) 22 rfl Tryd.underlying22 info5 rfl rfl I.r I.hb (by have := R1.out; (try simp only [List.length_append, List.length_cons, List.length_nil] at this ⊢); omega) ?_; intro v101 w101 p; replace BX := BX.stp p (by decide); replace I := I.then_ p; clear p; simp only [Act.put, List.setIfInBounds_toArray, List.set_cons_zero, List.set_cons_succ]))
      go_ret
      exact ⟨_, rfl, I⟩
-- KC impl_ValText {"params":[["agg",31,["f0","f1","f2","f3","f4"]]],"res":["slice","(Kd.int .u8)",5,"List Int","R"],"hasK":true,"fn":9,"tab":true}
def impl_ValText.f (k : Nat) (a0_0 : Int) (a0_1 : Int) (l0_2 : List Int) (l0_3 : List (List Int)) (l0_4 : List S31) : Option (List Int) := (impl_isValue.f k a0_0 a0_1 l0_2 l0_3 l0_4).bind fun t => if t = true then impl_Value_text.f k ⟨a0_0, a0_1, l0_2, l0_3, l0_4⟩ [] else some []
theorem frnV : Fr Tryd.prog 40 := ⟨_, Tryd.func40, by kernel_rfl, rfl⟩
set_option maxRecDepth 100000 in
set_option maxHeartbeats 8000000 in
theorem impl_ValText.kc (k : Nat) (x0 : S31) (b0 : Array Value) (r : List Int) (w : World) (h0 : Rd k31 w x0 b0.toList) (ht : Tb w) (h : impl_ValText.f k x0.f0 x0.f1 x0.f2 x0.f3 x0.f4 = some r) :
    Calls Tryd.prog 9 #[.agg b0] w fun e w' => ∃ v : Value, e = .returned v ∧ Own (Kd.slice 5 (Kd.int .u8)) w' w.heap.size w'.heap.size r [v] ∧ Below w.heap.size w w' := by
  have hx := h0
  obtain ⟨A2, c2, A3, c3, A4, c4, e0, lc2, g2, lc3, g3, lc4, g4⟩ := k31_open h0.k
  obtain ⟨a0, a1, l2, l3, l4⟩ := x0
  obtain rfl : b0 = #[.int .i64 a0, .int .i64 a1, .slice A2 l2.length c2, .slice A3 l3.length c3, .slice A4 l4.length c4] := by rw [← b0.toArray_toList, e0]
  simp only at lc2 g2 lc3 g3 lc4 g4
  have HX := Aside0.mk hx
  have G2 := Aside0.mk g2
  have G3 := Aside0.mk g3
  have G4 := Aside0.mk g4
  have L2 := Aside0.mk lc2
  have L3 := Aside0.mk lc3
  have L4 := Aside0.mk lc4
  have TB := Aside0.mk ht
  have HB := Bw.refl w
  clear g2 g3 g4 lc2 lc3 lc4 e0 hx h0 ht
  unfold impl_ValText.f at h
  obtain ⟨t, A1, h⟩ := bnd h
  replace A1 := Aside0.mk A1
  cases t with
  | false =>
    rw [if_neg (by decide)] at h
    obtain rfl := Option.some.inj h
    clear h
    go_enter Tryd.func9, Tryd.ntmps9
    go_wp2_with (first
      | ((with_reducible refine gate_dst (N := 1) rfl ?_); refine bxb (bs := #[.int .i64 a0, .int .i64 a1, .slice A2 l2.length c2, .slice A3 l3.length c3, .slice A4 l4.length c4]) 1 rfl rfl rfl rfl ?_; intro gb w1 BX hb1 hle hlt; replace HB := Bw.sw w hb1; clear hb1 hle hlt; obtain ⟨hc0, hc1, hc2, hc3, hc4, hf0, hf1, hf2, hf3, hf4⟩ := blk5 BX.h; simp only [Act.put, List.setIfInBounds_toArray, List.set_cons_zero, List.set_cons_succ])
      | ((with_reducible refine gate_dst (N := 4) rfl ?_); refine gg (some 4) rfl rfl rfl frnV ?_; refine onc (impl_isValue.calls k a0 a1 _ _ l2 _ _ l3 _ _ l4 false _ (cb G2) L2.out (cb G3) L3.out (cb G4) L4.out A1.out) rfl ?_; rintro e w2 ⟨rfl, hb⟩; refine ⟨_, rfl, ?_⟩; replace HB := Bw.sw w hb; clear hb; simp only [Act.put, List.setIfInBounds_toArray, List.set_cons_zero, List.set_cons_succ]))
    go_ret
    exact ⟨_, rfl, Own.of (ok := fun _ => True) ⟨_, rfl, Kd.R_nil _ _ _ _ _⟩ HB.out.size, HB.out⟩
  | true =>
    rw [if_pos rfl] at h
    have A2_ := Aside0.mk h
    clear h
    go_enter Tryd.func9, Tryd.ntmps9
    go_wp2_with (first
      | ((with_reducible refine gate_dst (N := 1) rfl ?_); refine bxb (bs := #[.int .i64 a0, .int .i64 a1, .slice A2 l2.length c2, .slice A3 l3.length c3, .slice A4 l4.length c4]) 1 rfl rfl rfl rfl ?_; intro gb w1 BX hb1 hle hlt; replace HB := Bw.sw w hb1; clear hb1 hle hlt; obtain ⟨hc0, hc1, hc2, hc3, hc4, hf0, hf1, hf2, hf3, hf4⟩ := blk5 BX.h; simp only [Act.put, List.setIfInBounds_toArray, List.set_cons_zero, List.set_cons_succ])
      | ((with_reducible refine gate_dst (N := 4) rfl ?_); refine gg (some 4) rfl rfl rfl frnV ?_; refine onc (impl_isValue.calls k a0 a1 _ _ l2 _ _ l3 _ _ l4 true _ (cb G2) L2.out (cb G3) L3.out (cb G4) L4.out A1.out) rfl ?_; rintro e w2 ⟨rfl, hb⟩; refine ⟨_, rfl, ?_⟩; replace HB := Bw.sw w hb; replace BX := BX.b hb; clear hb; obtain ⟨hc0, hc1, hc2, hc3, hc4, hf0, hf1, hf2, hf3, hf4⟩ := blk5 BX.h; simp only [Act.put, List.setIfInBounds_toArray, List.set_cons_zero, List.set_cons_succ])
      | ((with_reducible refine gate_dst (N := 7) rfl ?_); refine gg (some 7) rfl rfl rfl frT ?_; refine onc (impl_Value_text.ka k ⟨a0, a1, l2, l3, l4⟩ #[.int .i64 a0, .int .i64 a1, .slice A2 l2.length c2, .slice A3 l3.length c3, .slice A4 l4.length c4] [] (.slice none 0 0) r w _ HB.out (Kd.R_nil _ _ _ _ _) HX.out TB.out A2_.out) rfl ?_; rintro e w3 ⟨v3, rfl, p⟩; refine ⟨_, rfl, ?_⟩; have PP := Aside0.mk p; replace HB := Bw.mk (w := w) p.hb; clear p; simp only [Act.put, List.setIfInBounds_toArray, List.set_cons_zero, List.set_cons_succ]))
    go_ret
    exact ⟨_, rfl, Own.of (ok := fun _ => True) ⟨_, rfl, PP.out.r⟩ HB.out.size, HB.out⟩
end Go.Proofs.YtenpjddjmhjdoaaDoor.PFnExactValText
