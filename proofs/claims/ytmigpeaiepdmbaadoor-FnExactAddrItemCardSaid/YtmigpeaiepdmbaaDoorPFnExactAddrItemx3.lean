/- What a function comes to, walked by hand. No condition. -/
import Derived.Test.YtmigpeaiepdmbaaDoorPFnExactAddrItemx0
import Derived.Test.YtmigpeaiepdmbaaDoorPFnExactAddrItemx1
import Derived.Test.YtmigpeaiepdmbaaDoorPFnExactAddrItemx2
import Derived.Test.YtmigpeaiepdmbaaDoorMlend
import Derived.Shelf.Strconv.AppendIntPublic10
namespace Go.Proofs.YtmigpeaiepdmbaaDoor.PFnExactAddrItem
open Go.RowKit Go.Proofs.YtmigpeaiepdmbaaDoorW.PrintWords Go.Proofs.YtmigpeaiepdmbaaDoorW.PrintLast Go.Proofs.YtmigpeaiepdmbaaDoorW.PrintMore Go.Proofs.YtmigpeaiepdmbaaDoor.M
attribute [local go_sem] max2_int min2_int max_two min_two max_three min_three max_four min_four Go.Proofs.YtmigpeaiepdmbaaDoor.M.str_gtr Go.Proofs.YtmigpeaiepdmbaaDoor.M.str_leq Go.Proofs.YtmigpeaiepdmbaaDoor.M.str_geq   -- for this text's walks alone
set_option linter.unusedVariables false
set_option linter.unusedSimpArgs false
def laysAI_ren : Go.Shelf.Ren := ⟨fun | 176 => 21 | 249 => 31 | 288 => 35 | 283 => 37 | 284 => 38 | 285 => 39 | 286 => 40 | 129 => 42 | 317 => 41 | 318 => 43 | 319 => 44 | 320 => 45 | 337 => 46 | 338 => 47 | n => n, fun | 37 => 22 | 2 => 2 | 3 => 3 | 53 => 49 | 4 => 4 | 9 => 9 | 171 => 53 | 0 => 0 | 173 => 56 | 212 => 60 | 51 => 61 | 5 => 5 | 20 => 20 | 213 => 62 | 46 => 64 | 232 => 67 | 233 => 68 | n => n, fun | 17 => 0 | 18 => 1 | 19 => 2 | n => n⟩
theorem laysAI : LaysM.n176 Tryd.prog laysAI_ren where
  mixed := by kernel_rfl
  f129 := Tryd.func42.trans (congrArg some (by kernel_rfl))
  f176 := Tryd.func21.trans (congrArg some (by kernel_rfl))
  f249 := Tryd.func31.trans (congrArg some (by kernel_rfl))
  f283 := Tryd.func37.trans (congrArg some (by kernel_rfl))
  f284 := Tryd.func38.trans (congrArg some (by kernel_rfl))
  f285 := Tryd.func39.trans (congrArg some (by kernel_rfl))
  f286 := Tryd.func40.trans (congrArg some (by kernel_rfl))
  f288 := Tryd.func35.trans (congrArg some (by kernel_rfl))
  f317 := Tryd.func41.trans (congrArg some (by kernel_rfl))
  f318 := Tryd.func43.trans (congrArg some (by kernel_rfl))
  f319 := Tryd.func44.trans (congrArg some (by kernel_rfl))
  f320 := Tryd.func45.trans (congrArg some (by kernel_rfl))
  f337 := Tryd.func46.trans (congrArg some (by kernel_rfl))
  f338 := Tryd.func47.trans (congrArg some (by kernel_rfl))
  t0 := Tryd.underlying0
  a0 := Tryd.isAgg0
  z0 := Tryd.sizeOf0
  v0 := Tryd.zeroValue0
  t2 := Tryd.underlying2
  a2 := Tryd.isAgg2
  z2 := Tryd.sizeOf2
  v2 := Tryd.zeroValue2
  t3 := Tryd.underlying3
  a3 := Tryd.isAgg3
  z3 := Tryd.sizeOf3
  v3 := Tryd.zeroValue3
  t4 := Tryd.underlying4
  a4 := Tryd.isAgg4
  z4 := Tryd.sizeOf4
  v4 := Tryd.zeroValue4
  t5 := Tryd.underlying5
  a5 := Tryd.isAgg5
  z5 := Tryd.sizeOf5
  v5 := Tryd.zeroValue5
  t9 := Tryd.underlying9
  a9 := Tryd.isAgg9
  z9 := Tryd.sizeOf9
  v9 := Tryd.zeroValue9
  t20 := Tryd.underlying20
  a20 := Tryd.isAgg20
  z20 := Tryd.sizeOf20
  v20 := Tryd.zeroValue20
  t37 := Tryd.underlying22
  a37 := Tryd.isAgg22
  z37 := Tryd.sizeOf22
  v37 := Tryd.zeroValue22
  t46 := Tryd.underlying64
  a46 := Tryd.isAgg64
  z46 := Tryd.sizeOf64
  v46 := Tryd.zeroValue64
  t51 := Tryd.underlying61
  a51 := Tryd.isAgg61
  z51 := Tryd.sizeOf61
  v51 := Tryd.zeroValue61
  t53 := Tryd.underlying49
  a53 := Tryd.isAgg49
  z53 := Tryd.sizeOf49
  v53 := Tryd.zeroValue49
  t171 := Tryd.underlying53
  a171 := Tryd.isAgg53
  z171 := Tryd.sizeOf53
  v171 := Tryd.zeroValue53
  t173 := Tryd.underlying56
  a173 := Tryd.isAgg56
  z173 := Tryd.sizeOf56
  v173 := Tryd.zeroValue56
  t212 := Tryd.underlying60
  a212 := Tryd.isAgg60
  z212 := Tryd.sizeOf60
  v212 := Tryd.zeroValue60
  t213 := Tryd.underlying62
  a213 := Tryd.isAgg62
  z213 := Tryd.sizeOf62
  t232 := Tryd.underlying67
  a232 := Tryd.isAgg67
  z232 := Tryd.sizeOf67
  v232 := Tryd.zeroValue67
  t233 := Tryd.underlying68
  a233 := Tryd.isAgg68
  z233 := Tryd.sizeOf68
  v233 := Tryd.zeroValue68
  g17 := by kernel_rfl
  g18 := by kernel_rfl
  g19 := by kernel_rfl
  i0 := by kernel_rfl
  i2 := by kernel_rfl
  i3 := by kernel_rfl
  i4 := by kernel_rfl
  i5 := by kernel_rfl
  i9 := by kernel_rfl
  i20 := by kernel_rfl
  i37 := by kernel_rfl
  i46 := by kernel_rfl
  i51 := by kernel_rfl
  i53 := by kernel_rfl
  i171 := by kernel_rfl
  i173 := by kernel_rfl
  i212 := by kernel_rfl
  i232 := by kernel_rfl
  i233 := by kernel_rfl
  m17 := by kernel_rfl
  m18 := by kernel_rfl
  m19 := by kernel_rfl
/-- The table of powers of ten reads as it is laid. -/
structure Tb (w : World) : Prop where
  t : Lib.TabIs Tryd.prog w "internal/strconv.uint64pow10" .u64 Lib.pow10Tab
theorem Tb.b {w w' : World} (h : Tb w) (hb : Below w.heap.size w w') : Tb w' := ⟨Lib.tabBelow_of_tabIs h.t w' hb⟩
/-- A number's decimal numeral. -/
def itoaL (i : Int) : List Int := (Lib.itoa i).map fun b => (b.toNat : Int)
theorem appendInt_R (l : List Int) (v : Value) (i : Int) (w0 w : World) (h0 : -9223372036854775808 ≤ i) (h1 : i ≤ 9223372036854775807) (hb : Below w0.heap.size w0 w) (h : (Kd.int .u8).R 5 w w0.heap.size (fun _ => True) v l) (hl : l.length + 21 ≤ 140737488355328) (ht : Tb w0) :
    Calls Tryd.prog 21 #[v, .int .i64 i, .int .i64 10] w fun e w' => ∃ v', e = .returned v' ∧ (Kd.int .u8).R 5 w' w0.heap.size (fun _ => True) v' (l ++ itoaL i) ∧ Below w0.heap.size w0 w' := by
  obtain ⟨_, inner, ho, hr⟩ := h
  refine (Any.strconv_AppendInt_10 laysAI w0.heap.size l.length i h0 h1 v inner w ho hb.size hl ((Lib.tabBelow_of_tabIs ht.t).on hb)).mono ?_
  rintro e w' ⟨v', rfl, g1, g2, _⟩
  refine ⟨v', rfl, ⟨fun _ _ => trivial, inner ++ Lib.byteCells (Lib.itoa i), ?_, ?_⟩, hb.trans g2⟩
  · have e : (l ++ itoaL i).length = l.length + (Lib.itoa i).length := by simp [itoaL]
    rw [e]
    exact g1
  · have hin : inner = l.map (Value.int .u8) := by
      have h2 := hr.1
      refine List.ext_getElem? fun j => ?_
      by_cases hj : j < l.length
      · have h3 := hr.2 j _ (List.getElem?_eq_getElem hj)
        have h4 : (inner.drop (j * 1)).take 1 = [Value.int .u8 l[j]] := h3
        have h5 : ((inner.drop (j * 1)).take 1)[0]? = some (Value.int .u8 l[j]) := by rw [h4]; rfl
        rw [List.getElem?_take, if_pos (by omega), List.getElem?_drop, Nat.mul_one, Nat.add_zero] at h5
        rw [h5, List.getElem?_map, List.getElem?_eq_getElem hj]
        rfl
      · rw [List.getElem?_eq_none (by rw [h2]; show l.length * 1 ≤ j; omega), List.getElem?_eq_none (by rw [List.length_map]; omega)]
    have hall : inner ++ Lib.byteCells (Lib.itoa i) = (l ++ itoaL i).map (Value.int .u8) := by
      rw [hin, List.map_append]
      simp [itoaL, Lib.byteCells]
    rw [hall]
    refine ⟨by rw [List.length_map]; show _ = _ * 1; omega, fun j p hj => ?_⟩
    show _ = [Value.int .u8 p]
    have hjl := (List.getElem?_eq_some_iff.1 hj).1
    show ((List.map (Value.int .u8) (l ++ itoaL i)).drop (j * 1)).take 1 = _
    rw [Nat.mul_one, List.drop_eq_getElem_cons (by rw [List.length_map]; exact hjl)]
    simp only [List.take_succ_cons, List.take_zero, List.getElem_map]
    rw [(List.getElem?_eq_some_iff.1 hj).2]
-- KC impl_AddrItem {"params":[["slice","(Kd.int .u8)",5,"List Int"],["int .i64"]],"res":["slice","(Kd.int .u8)",5,"List Int","R"],"hasK":true,"fn":7,"tab":true}
def impl_AddrItem.f (k : Nat) (l0 : List Int) (a1 : Int) : Option (List Int) := (impl_isName.f k l0).bind fun t => if t = true then (impl_in.f a1 0 99).bind fun u => if u = true then (impl_copyBytes.f l0).bind fun y => if y.length < 140737488355000 then some (y ++ [91] ++ itoaL a1 ++ [93]) else none else some [] else some []
theorem itoaL_len (i : Int) (h0 : 0 ≤ i) (h1 : i ≤ 99) : (itoaL i).length ≤ 2 := by
  have h : ∀ n : Nat, n ≤ 99 → (itoaL (n : Int)).length ≤ 2 := by decide +kernel
  obtain ⟨n, rfl⟩ := Int.eq_ofNat_of_zero_le h0
  exact h n (by omega)
theorem frN : Fr Tryd.prog 19 := ⟨_, Tryd.func19, by kernel_rfl, rfl⟩
theorem frI : Fr Tryd.prog 20 := ⟨_, Tryd.func20, by kernel_rfl, rfl⟩
theorem frC : Fr Tryd.prog 22 := ⟨_, Tryd.func22, by kernel_rfl, rfl⟩
theorem frA : Fr Tryd.prog 21 := ⟨_, Tryd.func21, by kernel_rfl, rfl⟩
set_option maxRecDepth 100000 in
set_option maxHeartbeats 8000000 in
theorem impl_AddrItem.kc (k : Nat) (l0 : List Int) (v0 : Value) (a1 : Int) (r : List Int) (w : World) (h0 : Rd (Kd.slice 5 (Kd.int .u8)) w l0 [v0]) (ht : Tb w) (h : impl_AddrItem.f k l0 a1 = some r) :
    Calls Tryd.prog 7 #[v0, .int .i64 a1] w fun e w' => ∃ v : Value, e = .returned v ∧ Own (Kd.slice 5 (Kd.int .u8)) w' w.heap.size w'.heap.size r [v] ∧ Below w.heap.size w w' := by
  obtain ⟨A0, c0, e0, lc0, g0⟩ := h0.k
  injection e0 with e0
  subst e0
  have HR0 := Aside0.mk g0
  have HC0 := Aside0.mk lc0
  have HB := Bw.refl w
  clear g0 lc0 h0
  unfold impl_AddrItem.f at h
  have h9 := bnd h
  clear h
  obtain ⟨t, A1, h⟩ := h9
  replace A1 := Aside0.mk A1
  cases t with
  | false =>
    rw [if_neg (by decide)] at h
    obtain rfl := Option.some.inj h
    clear h
    go_enter Tryd.func7, Tryd.ntmps7
    go_wp2_with (first
      | ((with_reducible refine gate_dst (N := 6) rfl ?_); refine gg (some 6) rfl rfl rfl frN ?_; refine onc (impl_isName.calls k _ _ l0 false _ (cb HR0) HC0.out A1.out) rfl ?_; rintro e w1 ⟨rfl, ⟨nd, rfl⟩⟩; refine ⟨_, rfl, ?_⟩; simp only [Act.put, List.setIfInBounds_toArray, List.set_cons_zero, List.set_cons_succ]))
    go_ret
    exact ⟨_, rfl, Own.of (ok := fun _ => True) ⟨_, rfl, Kd.R_nil _ _ _ _ _⟩ (bzz w), bw⟩
  | true =>
  rw [if_pos rfl] at h
  have h9 := bnd h
  clear h
  obtain ⟨u, A2, h⟩ := h9
  cases u with
  | false =>
    rw [if_neg (by decide)] at h
    obtain rfl := Option.some.inj h
    clear h
    replace A2 := Aside0.mk A2
    go_enter Tryd.func7, Tryd.ntmps7
    go_wp2_with (first
      | ((with_reducible refine gate_dst (N := 6) rfl ?_); refine gg (some 6) rfl rfl rfl frN ?_; refine onc (impl_isName.calls k _ _ l0 true _ (cb HR0) HC0.out A1.out) rfl ?_; rintro e w1 ⟨rfl, ⟨nd, rfl⟩⟩; refine ⟨_, rfl, ?_⟩; simp only [Act.put, List.setIfInBounds_toArray, List.set_cons_zero, List.set_cons_succ])
      | ((with_reducible refine gate_dst (N := 10) rfl ?_); refine ggw (some 10) rfl (by rfl) rfl frI ?_; refine onc (impl_in.calls a1 0 99 false _ A2.out) rfl ?_; rintro e w2 ⟨rfl, ⟨nd2, rfl⟩⟩; refine ⟨_, rfl, ?_⟩; simp only [Act.put, List.setIfInBounds_toArray, List.set_cons_zero, List.set_cons_succ]))
    go_ret
    exact ⟨_, rfl, Own.of (ok := fun _ => True) ⟨_, rfl, Kd.R_nil _ _ _ _ _⟩ (bzz w), bw⟩
  | true =>
  rw [if_pos rfl] at h
  have h9 := bnd h
  clear h
  obtain ⟨y, A3, h⟩ := h9
  by_cases hy : y.length < 140737488355000
  · rw [if_pos hy] at h
    obtain rfl := Option.some.inj h
    clear h
    have hin : 0 ≤ a1 ∧ a1 ≤ 99 := by
      unfold impl_in.f at A2
      by_cases q : 0 ≤ a1
      · by_cases q2 : a1 ≤ 99
        · exact ⟨q, q2⟩
        · simp [q, q2] at A2
      · simp [q] at A2
    have il := itoaL_len a1 hin.1 hin.2
    have IN := Aside0.mk hin
    have L1 := Aside0.mk (show y.length < 140737488355000 from hy)
    have L2 := Aside0.mk (show (y ++ [91] ++ itoaL a1).length < 140737488355300 by simp; omega)
    replace A2 := Aside0.mk A2
    replace A3 := Aside0.mk A3
    have TB := Aside0.mk ht
    clear hy hin il ht
    go_enter Tryd.func7, Tryd.ntmps7
    go_wp2_with (first
      | ((with_reducible refine gate_dst (N := 6) rfl ?_); refine gg (some 6) rfl rfl rfl frN ?_; refine onc (impl_isName.calls k _ _ l0 true _ (cb HR0) HC0.out A1.out) rfl ?_; rintro e w1 ⟨rfl, ⟨nd, rfl⟩⟩; refine ⟨_, rfl, ?_⟩; simp only [Act.put, List.setIfInBounds_toArray, List.set_cons_zero, List.set_cons_succ])
      | ((with_reducible refine gate_dst (N := 10) rfl ?_); refine ggw (some 10) rfl (by rfl) rfl frI ?_; refine onc (impl_in.calls a1 0 99 true _ A2.out) rfl ?_; rintro e w2 ⟨rfl, ⟨nd2, rfl⟩⟩; refine ⟨_, rfl, ?_⟩; simp only [Act.put, List.setIfInBounds_toArray, List.set_cons_zero, List.set_cons_succ])
      | ((with_reducible refine gate_dst (N := 14) rfl ?_); refine gg (some 14) rfl rfl rfl frC ?_; refine onc (impl_copyBytes.calls _ _ l0 y _ (cb HR0) HC0.out A3.out) rfl ?_; rintro e w3 ⟨v3, rfl, ho, hb⟩; refine ⟨_, rfl, ?_⟩; have HO3 := Aside0.mk (Kd.R_lower ho (bzz w)); replace HB := Bw.sw w hb; clear ho hb; simp only [Act.put, List.setIfInBounds_toArray, List.set_cons_zero, List.set_cons_succ])
      | ((with_reducible refine gate_builtin (b := .append) (xs := #[.tmp 14, .tmp 15]) rfl ?_); at_builtin; refine Kd.R_append (Kd.int .u8) (w0 := w) w.heap.size rfl (.tmp 14) (.tmp 15) 22 5 (.int .u8 0) 1 rfl Tryd.underlying22 info5 rfl (by decide) (by omega) v3 y 91 [.int .u8 91] (fun _ => True) (fun _ => False) rfl rfl ?aP (fun _ hk => hk.elim) ?aF ?aO ?aB ?aS ?aL ?_; (case aP => exact rfl); (case aB => exact bw); (case aF => exact (fun _ _ => trivial)); (case aO => exact (by (with_reducible repeat (first | apply Kd.R_alloc | apply Kd.R_drewN | apply Kd.R_drew)); exact HO3.out)); (case aS => exact (bzz w)); (case aL => have := L1.out; omega); intro u14 w14 ho hb hg hat; replace HB := Bw.mk (w := w) hb; have HO14 := Aside0.mk ho; clear ho hb hg hat)
      | ((with_reducible refine gate_dst (N := 18) rfl ?_); refine gg (some 18) rfl rfl rfl frA ?_; refine onc (appendInt_R (y ++ [91]) u14 a1 w _ (by have := IN.out; omega) (by have := IN.out; omega) bw HO14.out (by have := L1.out; simp; omega) TB.out) rfl ?_; rintro e w4 ⟨v4, rfl, ho, hb⟩; refine ⟨_, rfl, ?_⟩; have HO4 := Aside0.mk ho; replace HB := Bw.mk (w := w) hb; clear ho hb; simp only [Act.put, List.setIfInBounds_toArray, List.set_cons_zero, List.set_cons_succ])
      | ((with_reducible refine gate_builtin (b := .append) (xs := #[.tmp 18, .tmp 19]) rfl ?_); at_builtin; refine Kd.R_append (Kd.int .u8) (w0 := w) w.heap.size rfl (.tmp 18) (.tmp 19) 22 5 (.int .u8 0) 1 rfl Tryd.underlying22 info5 rfl (by decide) (by omega) v4 (y ++ [91] ++ itoaL a1) 93 [.int .u8 93] (fun _ => True) (fun _ => False) rfl rfl ?aP (fun _ hk => hk.elim) ?aF ?aO ?aB ?aS ?aL ?_; (case aP => exact rfl); (case aB => exact bw); (case aF => exact (fun _ _ => trivial)); (case aO => exact (by (with_reducible repeat (first | apply Kd.R_alloc | apply Kd.R_drewN | apply Kd.R_drew)); exact HO4.out)); (case aS => exact (bzz w)); (case aL => have := L2.out; omega); intro u18 w18 ho hb hg hat; replace HB := Bw.mk (w := w) hb; have HO18 := Aside0.mk ho; clear ho hb hg hat))
    go_ret
    refine ⟨u18, rfl, ?_, HB.out⟩
    have h5 := Own.of (d := Kd.slice 5 (Kd.int .u8)) (x := y ++ [91] ++ itoaL a1 ++ [93]) (cs := [u18]) ⟨_, rfl, HO18.out⟩ HB.out.size
    simpa using h5
  · rw [if_neg hy] at h
    cases h
end Go.Proofs.YtmigpeaiepdmbaaDoor.PFnExactAddrItem
