/- What a function comes to, walked by hand. No condition. -/
import Derived.Test.YtockllljeeakaaaDoorPFnAddrsx0
import Derived.Test.YtockllljeeakaaaDoorPFnAddrsx1
import Derived.Test.YtockllljeeakaaaDoorPFnAddrsx6
import Derived.Test.YtockllljeeakaaaDoorMkx
import Derived.Lib.SlBytesConst
namespace Go.Proofs.YtockllljeeakaaaDoor.PFnAddrs
open Go.RowKit Go.Proofs.YtockllljeeakaaaDoorW.PrintWords Go.Proofs.YtockllljeeakaaaDoorW.PrintLast Go.Proofs.YtockllljeeakaaaDoorW.PrintMore Go.Proofs.YtockllljeeakaaaDoor.M
attribute [local go_sem] max2_int min2_int max_two min_two max_three min_three max_four min_four Go.Proofs.YtockllljeeakaaaDoor.M.str_gtr Go.Proofs.YtockllljeeakaaaDoor.M.str_leq Go.Proofs.YtockllljeeakaaaDoor.M.str_geq   -- for this text's walks alone
set_option linter.unusedVariables false
set_option linter.unusedSimpArgs false
theorem one_new (w : World) (x : Int) : Below w.heap.size w (w.alloc (.cells #[.int .u8 x] 5 (1, 2))) ∧ (w.alloc (.cells #[.int .u8 x] 5 (1, 2))).cell? ⟨w.heap.size, 0, none⟩ = some (.int .u8 x) ∧ (Kd.int .u8).C (w.alloc (.cells #[.int .u8 x] 5 (1, 2))) (some ⟨w.heap.size, 0, none⟩) 1 [x] := by
  have hc : (w.alloc (.cells #[.int .u8 x] 5 (1, 2))).cell? ⟨w.heap.size, 0, none⟩ = some (.int .u8 x) := by
    have hbk : (w.alloc (.cells #[.int .u8 x] 5 (1, 2))).heap[w.heap.size]? = some (.cells #[.int .u8 x] 5 (1, 2)) := blk_new w _
    exact (cell_of_row _ _ 0 #[.int .u8 x] 5 (1, 2) hbk).trans rfl
  refine ⟨below_alloc (Below.refl _ _) _, hc, rfl, by simp, fun _ => ⟨_, rfl, fun j p hj => ⟨[.int .u8 p], rfl, rfl, fun i u hu => ?_⟩⟩⟩
  have hj0 : j = 0 := by
    have := (List.getElem?_eq_some_iff.1 hj).1
    simp at this; omega
  subst hj0
  obtain rfl : x = p := by simpa using hj
  have hi : i = 0 := by
    rcases i with _ | i
    · rfl
    · simp at hu
  subst hi
  obtain rfl : Value.int .u8 x = u := by simpa using hu
  exact hc
theorem cut_no2 (A : Option Addr) (c : Nat) (l : List Int) (w : World) (hp : posB l < 0) (h : (Kd.int .u8).C w A l.length l) :
    Calls Tryd.prog 40 #[.slice A l.length c, .slice (some ⟨w.heap.size, 0, none⟩) 1 1] (w.alloc (.cells #[.int .u8 91] 5 (1, 2))) fun e w' => e = .returned (.tuple #[.slice A l.length c, .slice none 0 0, .bool false]) ∧ Below w.heap.size w w' := by
  obtain ⟨hb, h2, h3⟩ := one_new w 91
  refine (cut_no A c l _ 1 _ hp (Kd.C_below h hb) h2).mono ?_
  rintro e w' ⟨rfl, rfl⟩
  exact ⟨rfl, hb⟩
theorem cut_yes2 (A : Option Addr) (c : Nat) (l la lb : List Int) (j : Nat) (w : World) (ea : l.take j = la) (eb : l.drop (j + 1) = lb) (hp : posB l = j) (hj : j < l.length) (hn : l.length ≤ 4611686018427387904) (hc : l.length ≤ c) (h : (Kd.int .u8).C w A l.length l) :
    Calls Tryd.prog 40 #[.slice A l.length c, .slice (some ⟨w.heap.size, 0, none⟩) 1 1] (w.alloc (.cells #[.int .u8 91] 5 (1, 2))) fun e w' => ∃ (A' : Option Addr) (c' : Nat), e = .returned (.tuple #[.slice A la.length c, .slice A' lb.length c', .bool true]) ∧ Below w.heap.size w w' ∧ lb.length ≤ c' ∧ (Kd.int .u8).C w' A' lb.length lb := by
  subst ea
  subst eb
  obtain ⟨hb, h2, h3⟩ := one_new w 91
  refine (cut_yes A c l _ 1 j _ hp hj hn hc (Kd.C_below h hb) h2).mono ?_
  rintro e w' ⟨rfl, hb2⟩
  have hb3 := below_step hb hb2
  have h4 := Kd.C_drop (m := j + 1) (c := c) h (by omega) hc
  have s1 : (j + 1) * (Kd.int .u8).sz = j + 1 := Nat.mul_one _
  rw [s1] at h4
  refine ⟨_, c - (j + 1), ?_, hb3, ?_, Kd.C_below h4 hb3⟩
  · rw [List.length_take, List.length_drop, Nat.min_eq_left (by omega)]
  · rw [List.length_drop]; omega
theorem csuf2 (A : Option Addr) (c : Nat) (l i1 : List Int) (b : Bool) (x : Int) (w : World) (hi : cutS l x = (i1, b)) (hm : l.length ≤ 4611686018427387904) (hc : l.length ≤ c) (h : (Kd.int .u8).C w A l.length l) (hb : By l) (hx : 0 ≤ x ∧ x < 256) :
    Calls Tryd.prog 66 #[.slice A l.length c, .slice (some ⟨w.heap.size, 0, none⟩) 1 1] (w.alloc (.cells #[.int .u8 x] 5 (1, 2))) fun e w' => e = .returned (.tuple #[.slice A i1.length c, .bool b]) ∧ Below w.heap.size w w' ∧ (Kd.int .u8).C w' A i1.length i1 := by
  obtain ⟨hb1, h2, h3⟩ := one_new w x
  have h9 := csuf A c l x _ 1 _ hm hc (Kd.C_below h hb1) hb hx (Nat.le_refl _) h3
  rw [hi] at h9
  refine h9.mono ?_
  rintro e w' ⟨rfl, hb2, h4⟩
  exact ⟨rfl, below_step hb1 hb2, h4⟩
theorem cpre2 (A : Option Addr) (c : Nat) (l i1 : List Int) (b : Bool) (x : Int) (w : World) (hi : cutP l x = (i1, b)) (hm : l.length ≤ 4611686018427387904) (hc : l.length ≤ c) (h : (Kd.int .u8).C w A l.length l) (hb : By l) (hx : 0 ≤ x ∧ x < 256) :
    Calls Tryd.prog 67 #[.slice A l.length c, .slice (some ⟨w.heap.size, 0, none⟩) 1 1] (w.alloc (.cells #[.int .u8 x] 5 (1, 2))) fun e w' => ∃ (A' : Option Addr) (c' : Nat), e = .returned (.tuple #[.slice A' i1.length c', .bool b]) ∧ Below w.heap.size w w' ∧ i1.length ≤ c' ∧ (Kd.int .u8).C w' A' i1.length i1 := by
  obtain ⟨hb1, h2, h3⟩ := one_new w x
  have h9 := cpre A c l x _ 1 _ hm hc (Kd.C_below h hb1) hb hx (Nat.le_refl _) h3
  rw [hi] at h9
  refine h9.mono ?_
  rintro e w' ⟨A', c', rfl, hb2, h4, h5⟩
  exact ⟨A', c', rfl, below_step hb1 hb2, h4, h5⟩
theorem isName_b (k : Nat) (A : Option Addr) (c : Nat) (l : List Int) (r : Bool) (w : World) (h : (Kd.int .u8).C w A l.length l) (hc : l.length ≤ c) (hf : impl_isName.f k l = some r) :
    Calls Tryd.prog 46 #[.slice A l.length c] w fun e w' => e = .returned (.bool r) ∧ Below w.heap.size w w' := by
  refine (impl_isName.calls k A c l r w h hc hf).mono ?_
  rintro e w' ⟨rfl, nd, rfl⟩
  exact ⟨rfl, pw_below_drewN (Below.refl _ _) nd⟩
theorem cutS_facts {l i1 : List Int} {b : Bool} {x : Int} (h : cutS l x = (i1, b)) : i1.length ≤ l.length ∧ (By l → By i1) := by
  unfold cutS at h
  split at h <;> (injection h with h1 h2; subst h1)
  · exact ⟨by rw [List.length_take]; omega, fun hb => By_take _ hb⟩
  · exact ⟨Nat.le_refl _, id⟩
theorem cutP_facts {l i1 : List Int} {b : Bool} {x : Int} (h : cutP l x = (i1, b)) : i1.length ≤ l.length ∧ (By l → By i1) := by
  unfold cutP at h
  split at h <;> (injection h with h1 h2; subst h1)
  · exact ⟨by rw [List.length_drop]; omega, fun hb => By_drop _ hb⟩
  · exact ⟨Nat.le_refl _, id⟩

theorem frC1 : Fr Tryd.prog 40 := ⟨_, Tryd.func40, by kernel_rfl, rfl⟩
theorem frC2 : Fr Tryd.prog 66 := ⟨_, Tryd.func66, by kernel_rfl, rfl⟩
theorem frC3 : Fr Tryd.prog 67 := ⟨_, Tryd.func67, by kernel_rfl, rfl⟩
theorem frC4 : Fr Tryd.prog 46 := ⟨_, Tryd.func46, by kernel_rfl, rfl⟩
theorem frC5 : Fr Tryd.prog 68 := ⟨_, Tryd.func68, by kernel_rfl, rfl⟩
theorem frC6 : Fr Tryd.prog 47 := ⟨_, Tryd.func47, by kernel_rfl, rfl⟩
theorem frC7 : Fr Tryd.prog 69 := ⟨_, Tryd.func69, by kernel_rfl, rfl⟩
set_option maxRecDepth 100000 in
set_option maxHeartbeats 8000000 in
theorem isAddr_no (k : Nat) (A : Option Addr) (c : Nat) (l : List Int) (r : Bool) (w : World) (hn : l.length ≤ 1048576) (hc : l.length ≤ c) (h : (Kd.int .u8).C w A l.length l) (hb : By l) (hp : posB l < 0) (hf : impl_isName.f k l = some r) : Calls Tryd.prog 35 #[.slice A l.length c] w fun e w' => e = .returned (.bool r) ∧ Below w.heap.size w w' := by
  have hcv := fun (w' : World) (x : Int) => Lib.run_convert_bytes_const (P := Tryd.prog) w' 22 5 #[.int .u8 x] 1 1 Tryd.underlying22 Tryd.underlying5
  have HCV := Aside0.mk hcv
  have G1 := Aside0.mk h
  have L1 := Aside0.mk hc
  have BY := Aside0.mk hb
  have HB := Bw.refl w
  clear h hc hb hcv
  have hcv := HCV.out
  have P0 := Aside0.mk hp
  have T := Aside0.mk hf
  clear hp hf
  cases r with
  | false =>
    go_enter Tryd.func35, Tryd.ntmps35
    go_wp2_with (first
      | ((with_reducible refine gate_dst (N := 17) rfl ?_); refine gg (some 17) rfl rfl rfl frC1 ?_; refine onc (cut_no2 A c l _ P0.out (cb G1)) rfl ?_; rintro e w1 ⟨rfl, hb⟩; refine ⟨_, rfl, ?_⟩; replace HB := Bw.sw w hb; clear hb; have hcv := HCV.out; simp only [Act.put, List.setIfInBounds_toArray, List.set_cons_zero, List.set_cons_succ])
      | ((with_reducible refine gate_dst (N := 22) rfl ?_); refine gg (some 22) rfl rfl rfl frC4 ?_; refine onc (isName_b k _ _ l false _ (cb G1) L1.out T.out) rfl ?_; rintro e w2 ⟨rfl, hb⟩; refine ⟨_, rfl, ?_⟩; replace HB := Bw.sw w hb; clear hb; have hcv := HCV.out; simp only [Act.put, List.setIfInBounds_toArray, List.set_cons_zero, List.set_cons_succ]))
    go_ret
    exact ⟨rfl, HB.out⟩
  | true =>
    go_enter Tryd.func35, Tryd.ntmps35
    go_wp2_with (first
      | ((with_reducible refine gate_dst (N := 17) rfl ?_); refine gg (some 17) rfl rfl rfl frC1 ?_; refine onc (cut_no2 A c l _ P0.out (cb G1)) rfl ?_; rintro e w1 ⟨rfl, hb⟩; refine ⟨_, rfl, ?_⟩; replace HB := Bw.sw w hb; clear hb; have hcv := HCV.out; simp only [Act.put, List.setIfInBounds_toArray, List.set_cons_zero, List.set_cons_succ])
      | ((with_reducible refine gate_dst (N := 22) rfl ?_); refine gg (some 22) rfl rfl rfl frC4 ?_; refine onc (isName_b k _ _ l true _ (cb G1) L1.out T.out) rfl ?_; rintro e w2 ⟨rfl, hb⟩; refine ⟨_, rfl, ?_⟩; replace HB := Bw.sw w hb; clear hb; have hcv := HCV.out; simp only [Act.put, List.setIfInBounds_toArray, List.set_cons_zero, List.set_cons_succ]))
    go_ret
    exact ⟨rfl, HB.out⟩
set_option maxRecDepth 100000 in
set_option maxHeartbeats 8000000 in
theorem isAddr_bad (k : Nat) (A : Option Addr) (c : Nat) (l : List Int) (j : Nat) (w : World) (hn : l.length ≤ 1048576) (hc : l.length ≤ c) (h : (Kd.int .u8).C w A l.length l) (hb : By l) (hp : posB l = j) (hj : j < l.length) (la lb : List Int) (ea : l.take j = la) (eb : l.drop (j + 1) = lb) (hf : impl_isName.f k la = some false) : Calls Tryd.prog 35 #[.slice A l.length c] w fun e w' => e = .returned (.bool false) ∧ Below w.heap.size w w' := by
  have hcv := fun (w' : World) (x : Int) => Lib.run_convert_bytes_const (P := Tryd.prog) w' 22 5 #[.int .u8 x] 1 1 Tryd.underlying22 Tryd.underlying5
  have HCV := Aside0.mk hcv
  have G1 := Aside0.mk h
  have L1 := Aside0.mk hc
  have BY := Aside0.mk hb
  have HB := Bw.refl w
  clear h hc hb hcv
  have hcv := HCV.out
  have P0 := Aside0.mk hp
  have PJ := Aside0.mk hj
  have EA := Aside0.mk ea
  have EB := Aside0.mk eb
  have LT := Aside0.mk (show la.length ≤ c by rw [← ea, List.length_take]; have := L1.out; omega)
  have G2 := Aside0.mk (show (Kd.int .u8).C w A la.length la by rw [← ea]; exact Kd.C_take (m := j) G1.out (by omega))
  have LD := Aside0.mk (show lb.length ≤ 1048576 by rw [← eb, List.length_drop]; omega)
  have BD := Aside0.mk (show By lb by rw [← eb]; exact By_drop (j + 1) BY.out)
  clear hp hj ea eb
  have T := Aside0.mk hf
  clear hf
  go_enter Tryd.func35, Tryd.ntmps35
  go_wp2_with (first
    | ((with_reducible refine gate_dst (N := 17) rfl ?_); refine gg (some 17) rfl rfl rfl frC1 ?_; refine onc (cut_yes2 A c l la lb j _ EA.out EB.out P0.out PJ.out (by omega) L1.out (cb G1)) rfl ?_; rintro e w1 ⟨A1, c1, rfl, hb, m1, r1⟩; refine ⟨_, rfl, ?_⟩; have R1 := Aside0.mk r1; have M1 := Aside0.mk m1; clear r1 m1; replace HB := Bw.sw w hb; clear hb; have hcv := HCV.out; simp only [Act.put, List.setIfInBounds_toArray, List.set_cons_zero, List.set_cons_succ])
    | ((with_reducible refine gate_dst (N := 22) rfl ?_); refine gg (some 22) rfl rfl rfl frC4 ?_; refine onc (isName_b k _ _ la false _ (cb G2) LT.out T.out) rfl ?_; rintro e w2 ⟨rfl, hb⟩; refine ⟨_, rfl, ?_⟩; replace R1 := Aside0.mk (Kd.C_below R1.out hb); replace HB := Bw.sw w hb; clear hb; have hcv := HCV.out; simp only [Act.put, List.setIfInBounds_toArray, List.set_cons_zero, List.set_cons_succ]))
  go_ret
  exact ⟨rfl, HB.out⟩
set_option maxRecDepth 100000 in
set_option maxHeartbeats 8000000 in
theorem isAddr_key (k : Nat) (A : Option Addr) (c : Nat) (l : List Int) (j : Nat) (w : World) (hn : l.length ≤ 1048576) (hc : l.length ≤ c) (h : (Kd.int .u8).C w A l.length l) (hb : By l) (hp : posB l = j) (hj : j < l.length) (la lb : List Int) (ea : l.take j = la) (eb : l.drop (j + 1) = lb) (hf : impl_isName.f k la = some true) (i1 p1 s1 : List Int) (ib pb sb : Bool) (hi : cutS lb 93 = (i1, ib)) (hpp : cutP i1 34 = (p1, pb)) (hs : cutS p1 34 = (s1, sb)) (ho : (pb || sb) = true) (r : Bool) (hr : (if (ib && pb && sb) = true then impl_isName.f k s1 else some false) = some r) : Calls Tryd.prog 35 #[.slice A l.length c] w fun e w' => e = .returned (.bool r) ∧ Below w.heap.size w w' := by
  have hcv := fun (w' : World) (x : Int) => Lib.run_convert_bytes_const (P := Tryd.prog) w' 22 5 #[.int .u8 x] 1 1 Tryd.underlying22 Tryd.underlying5
  have HCV := Aside0.mk hcv
  have G1 := Aside0.mk h
  have L1 := Aside0.mk hc
  have BY := Aside0.mk hb
  have HB := Bw.refl w
  clear h hc hb hcv
  have hcv := HCV.out
  have P0 := Aside0.mk hp
  have PJ := Aside0.mk hj
  have EA := Aside0.mk ea
  have EB := Aside0.mk eb
  have LT := Aside0.mk (show la.length ≤ c by rw [← ea, List.length_take]; have := L1.out; omega)
  have G2 := Aside0.mk (show (Kd.int .u8).C w A la.length la by rw [← ea]; exact Kd.C_take (m := j) G1.out (by omega))
  have LD := Aside0.mk (show lb.length ≤ 1048576 by rw [← eb, List.length_drop]; omega)
  have BD := Aside0.mk (show By lb by rw [← eb]; exact By_drop (j + 1) BY.out)
  clear hp hj ea eb
  have T := Aside0.mk hf
  have HI := Aside0.mk hi
  have HP := Aside0.mk hpp
  have HS := Aside0.mk hs
  have LI := Aside0.mk (show i1.length ≤ 1048576 from Nat.le_trans (cutS_facts hi).1 LD.out)
  have BI := Aside0.mk ((cutS_facts hi).2 BD.out)
  have LP := Aside0.mk (show p1.length ≤ 1048576 from Nat.le_trans (cutP_facts hpp).1 LI.out)
  have BP := Aside0.mk ((cutP_facts hpp).2 BI.out)
  have LS := Aside0.mk (show s1.length ≤ p1.length from (cutS_facts hs).1)
  have LI0 := Aside0.mk (cutS_facts hi).1
  clear hf hi hpp hs
  cases ib with
  | false =>
    obtain rfl := Option.some.inj ((if_neg (by simp)).symm.trans hr)
    clear hr
    cases pb with
    | false =>
      cases sb with
      | false => cases ho
      | true =>
        go_enter Tryd.func35, Tryd.ntmps35
        go_wp2_with (first
          | ((with_reducible refine gate_dst (N := 17) rfl ?_); refine gg (some 17) rfl rfl rfl frC1 ?_; refine onc (cut_yes2 A c l la lb j _ EA.out EB.out P0.out PJ.out (by omega) L1.out (cb G1)) rfl ?_; rintro e w1 ⟨A1, c1, rfl, hb, m1, r1⟩; refine ⟨_, rfl, ?_⟩; have R1 := Aside0.mk r1; have M1 := Aside0.mk m1; clear r1 m1; replace HB := Bw.sw w hb; clear hb; have hcv := HCV.out; simp only [Act.put, List.setIfInBounds_toArray, List.set_cons_zero, List.set_cons_succ])
          | ((with_reducible refine gate_dst (N := 22) rfl ?_); refine gg (some 22) rfl rfl rfl frC4 ?_; refine onc (isName_b k _ _ la true _ (cb G2) LT.out T.out) rfl ?_; rintro e w2 ⟨rfl, hb⟩; refine ⟨_, rfl, ?_⟩; replace R1 := Aside0.mk (Kd.C_below R1.out hb); replace HB := Bw.sw w hb; clear hb; have hcv := HCV.out; simp only [Act.put, List.setIfInBounds_toArray, List.set_cons_zero, List.set_cons_succ])
          | ((with_reducible refine gate_dst (N := 30) rfl ?_); refine gg (some 30) rfl rfl rfl frC2 ?_; refine onc (csuf2 A1 c1 lb i1 _ 93 _ HI.out (by have := LD.out; omega) M1.out R1.out BD.out (by decide)) rfl ?_; rintro e w3 ⟨rfl, hb, r2⟩; refine ⟨_, rfl, ?_⟩; have R2 := Aside0.mk r2; clear r2; have MI := Aside0.mk (Nat.le_trans LI0.out M1.out); replace HB := Bw.sw w hb; clear hb; have hcv := HCV.out; simp only [Act.put, List.setIfInBounds_toArray, List.set_cons_zero, List.set_cons_succ])
          | ((with_reducible refine gate_dst (N := 37) rfl ?_); refine gg (some 37) rfl rfl rfl frC3 ?_; refine onc (cpre2 A1 c1 i1 p1 _ 34 _ HP.out (by have := LI.out; omega) MI.out R2.out BI.out (by decide)) rfl ?_; rintro e w4 ⟨A3, c3, rfl, hb, m3, r3⟩; refine ⟨_, rfl, ?_⟩; have R3 := Aside0.mk r3; have M3 := Aside0.mk m3; clear r3 m3; replace R2 := Aside0.mk (Kd.C_below R2.out hb); replace HB := Bw.sw w hb; clear hb; have hcv := HCV.out; simp only [Act.put, List.setIfInBounds_toArray, List.set_cons_zero, List.set_cons_succ])
          | ((with_reducible refine gate_dst (N := 44) rfl ?_); refine gg (some 44) rfl rfl rfl frC2 ?_; refine onc (csuf2 A3 c3 p1 s1 _ 34 _ HS.out (by have := LP.out; omega) M3.out R3.out BP.out (by decide)) rfl ?_; rintro e w5 ⟨rfl, hb, r4⟩; refine ⟨_, rfl, ?_⟩; have R4 := Aside0.mk r4; clear r4; replace R2 := Aside0.mk (Kd.C_below R2.out hb); replace HB := Bw.sw w hb; clear hb; have hcv := HCV.out; simp only [Act.put, List.setIfInBounds_toArray, List.set_cons_zero, List.set_cons_succ]))
        go_ret
        exact ⟨rfl, HB.out⟩
    | true =>
      cases sb with
      | false =>
        go_enter Tryd.func35, Tryd.ntmps35
        go_wp2_with (first
          | ((with_reducible refine gate_dst (N := 17) rfl ?_); refine gg (some 17) rfl rfl rfl frC1 ?_; refine onc (cut_yes2 A c l la lb j _ EA.out EB.out P0.out PJ.out (by omega) L1.out (cb G1)) rfl ?_; rintro e w1 ⟨A1, c1, rfl, hb, m1, r1⟩; refine ⟨_, rfl, ?_⟩; have R1 := Aside0.mk r1; have M1 := Aside0.mk m1; clear r1 m1; replace HB := Bw.sw w hb; clear hb; have hcv := HCV.out; simp only [Act.put, List.setIfInBounds_toArray, List.set_cons_zero, List.set_cons_succ])
          | ((with_reducible refine gate_dst (N := 22) rfl ?_); refine gg (some 22) rfl rfl rfl frC4 ?_; refine onc (isName_b k _ _ la true _ (cb G2) LT.out T.out) rfl ?_; rintro e w2 ⟨rfl, hb⟩; refine ⟨_, rfl, ?_⟩; replace R1 := Aside0.mk (Kd.C_below R1.out hb); replace HB := Bw.sw w hb; clear hb; have hcv := HCV.out; simp only [Act.put, List.setIfInBounds_toArray, List.set_cons_zero, List.set_cons_succ])
          | ((with_reducible refine gate_dst (N := 30) rfl ?_); refine gg (some 30) rfl rfl rfl frC2 ?_; refine onc (csuf2 A1 c1 lb i1 _ 93 _ HI.out (by have := LD.out; omega) M1.out R1.out BD.out (by decide)) rfl ?_; rintro e w3 ⟨rfl, hb, r2⟩; refine ⟨_, rfl, ?_⟩; have R2 := Aside0.mk r2; clear r2; have MI := Aside0.mk (Nat.le_trans LI0.out M1.out); replace HB := Bw.sw w hb; clear hb; have hcv := HCV.out; simp only [Act.put, List.setIfInBounds_toArray, List.set_cons_zero, List.set_cons_succ])
          | ((with_reducible refine gate_dst (N := 37) rfl ?_); refine gg (some 37) rfl rfl rfl frC3 ?_; refine onc (cpre2 A1 c1 i1 p1 _ 34 _ HP.out (by have := LI.out; omega) MI.out R2.out BI.out (by decide)) rfl ?_; rintro e w4 ⟨A3, c3, rfl, hb, m3, r3⟩; refine ⟨_, rfl, ?_⟩; have R3 := Aside0.mk r3; have M3 := Aside0.mk m3; clear r3 m3; replace R2 := Aside0.mk (Kd.C_below R2.out hb); replace HB := Bw.sw w hb; clear hb; have hcv := HCV.out; simp only [Act.put, List.setIfInBounds_toArray, List.set_cons_zero, List.set_cons_succ])
          | ((with_reducible refine gate_dst (N := 44) rfl ?_); refine gg (some 44) rfl rfl rfl frC2 ?_; refine onc (csuf2 A3 c3 p1 s1 _ 34 _ HS.out (by have := LP.out; omega) M3.out R3.out BP.out (by decide)) rfl ?_; rintro e w5 ⟨rfl, hb, r4⟩; refine ⟨_, rfl, ?_⟩; have R4 := Aside0.mk r4; clear r4; replace R2 := Aside0.mk (Kd.C_below R2.out hb); replace HB := Bw.sw w hb; clear hb; have hcv := HCV.out; simp only [Act.put, List.setIfInBounds_toArray, List.set_cons_zero, List.set_cons_succ]))
        go_ret
        exact ⟨rfl, HB.out⟩
      | true =>
        go_enter Tryd.func35, Tryd.ntmps35
        go_wp2_with (first
          | ((with_reducible refine gate_dst (N := 17) rfl ?_); refine gg (some 17) rfl rfl rfl frC1 ?_; refine onc (cut_yes2 A c l la lb j _ EA.out EB.out P0.out PJ.out (by omega) L1.out (cb G1)) rfl ?_; rintro e w1 ⟨A1, c1, rfl, hb, m1, r1⟩; refine ⟨_, rfl, ?_⟩; have R1 := Aside0.mk r1; have M1 := Aside0.mk m1; clear r1 m1; replace HB := Bw.sw w hb; clear hb; have hcv := HCV.out; simp only [Act.put, List.setIfInBounds_toArray, List.set_cons_zero, List.set_cons_succ])
          | ((with_reducible refine gate_dst (N := 22) rfl ?_); refine gg (some 22) rfl rfl rfl frC4 ?_; refine onc (isName_b k _ _ la true _ (cb G2) LT.out T.out) rfl ?_; rintro e w2 ⟨rfl, hb⟩; refine ⟨_, rfl, ?_⟩; replace R1 := Aside0.mk (Kd.C_below R1.out hb); replace HB := Bw.sw w hb; clear hb; have hcv := HCV.out; simp only [Act.put, List.setIfInBounds_toArray, List.set_cons_zero, List.set_cons_succ])
          | ((with_reducible refine gate_dst (N := 30) rfl ?_); refine gg (some 30) rfl rfl rfl frC2 ?_; refine onc (csuf2 A1 c1 lb i1 _ 93 _ HI.out (by have := LD.out; omega) M1.out R1.out BD.out (by decide)) rfl ?_; rintro e w3 ⟨rfl, hb, r2⟩; refine ⟨_, rfl, ?_⟩; have R2 := Aside0.mk r2; clear r2; have MI := Aside0.mk (Nat.le_trans LI0.out M1.out); replace HB := Bw.sw w hb; clear hb; have hcv := HCV.out; simp only [Act.put, List.setIfInBounds_toArray, List.set_cons_zero, List.set_cons_succ])
          | ((with_reducible refine gate_dst (N := 37) rfl ?_); refine gg (some 37) rfl rfl rfl frC3 ?_; refine onc (cpre2 A1 c1 i1 p1 _ 34 _ HP.out (by have := LI.out; omega) MI.out R2.out BI.out (by decide)) rfl ?_; rintro e w4 ⟨A3, c3, rfl, hb, m3, r3⟩; refine ⟨_, rfl, ?_⟩; have R3 := Aside0.mk r3; have M3 := Aside0.mk m3; clear r3 m3; replace R2 := Aside0.mk (Kd.C_below R2.out hb); replace HB := Bw.sw w hb; clear hb; have hcv := HCV.out; simp only [Act.put, List.setIfInBounds_toArray, List.set_cons_zero, List.set_cons_succ])
          | ((with_reducible refine gate_dst (N := 44) rfl ?_); refine gg (some 44) rfl rfl rfl frC2 ?_; refine onc (csuf2 A3 c3 p1 s1 _ 34 _ HS.out (by have := LP.out; omega) M3.out R3.out BP.out (by decide)) rfl ?_; rintro e w5 ⟨rfl, hb, r4⟩; refine ⟨_, rfl, ?_⟩; have R4 := Aside0.mk r4; clear r4; replace R2 := Aside0.mk (Kd.C_below R2.out hb); replace HB := Bw.sw w hb; clear hb; have hcv := HCV.out; simp only [Act.put, List.setIfInBounds_toArray, List.set_cons_zero, List.set_cons_succ]))
        go_ret
        exact ⟨rfl, HB.out⟩
  | true =>
    cases pb with
    | false =>
      obtain rfl := Option.some.inj ((if_neg (by simp)).symm.trans hr)
      clear hr
      cases sb with
      | false => cases ho
      | true =>
        go_enter Tryd.func35, Tryd.ntmps35
        go_wp2_with (first
          | ((with_reducible refine gate_dst (N := 17) rfl ?_); refine gg (some 17) rfl rfl rfl frC1 ?_; refine onc (cut_yes2 A c l la lb j _ EA.out EB.out P0.out PJ.out (by omega) L1.out (cb G1)) rfl ?_; rintro e w1 ⟨A1, c1, rfl, hb, m1, r1⟩; refine ⟨_, rfl, ?_⟩; have R1 := Aside0.mk r1; have M1 := Aside0.mk m1; clear r1 m1; replace HB := Bw.sw w hb; clear hb; have hcv := HCV.out; simp only [Act.put, List.setIfInBounds_toArray, List.set_cons_zero, List.set_cons_succ])
          | ((with_reducible refine gate_dst (N := 22) rfl ?_); refine gg (some 22) rfl rfl rfl frC4 ?_; refine onc (isName_b k _ _ la true _ (cb G2) LT.out T.out) rfl ?_; rintro e w2 ⟨rfl, hb⟩; refine ⟨_, rfl, ?_⟩; replace R1 := Aside0.mk (Kd.C_below R1.out hb); replace HB := Bw.sw w hb; clear hb; have hcv := HCV.out; simp only [Act.put, List.setIfInBounds_toArray, List.set_cons_zero, List.set_cons_succ])
          | ((with_reducible refine gate_dst (N := 30) rfl ?_); refine gg (some 30) rfl rfl rfl frC2 ?_; refine onc (csuf2 A1 c1 lb i1 _ 93 _ HI.out (by have := LD.out; omega) M1.out R1.out BD.out (by decide)) rfl ?_; rintro e w3 ⟨rfl, hb, r2⟩; refine ⟨_, rfl, ?_⟩; have R2 := Aside0.mk r2; clear r2; have MI := Aside0.mk (Nat.le_trans LI0.out M1.out); replace HB := Bw.sw w hb; clear hb; have hcv := HCV.out; simp only [Act.put, List.setIfInBounds_toArray, List.set_cons_zero, List.set_cons_succ])
          | ((with_reducible refine gate_dst (N := 37) rfl ?_); refine gg (some 37) rfl rfl rfl frC3 ?_; refine onc (cpre2 A1 c1 i1 p1 _ 34 _ HP.out (by have := LI.out; omega) MI.out R2.out BI.out (by decide)) rfl ?_; rintro e w4 ⟨A3, c3, rfl, hb, m3, r3⟩; refine ⟨_, rfl, ?_⟩; have R3 := Aside0.mk r3; have M3 := Aside0.mk m3; clear r3 m3; replace R2 := Aside0.mk (Kd.C_below R2.out hb); replace HB := Bw.sw w hb; clear hb; have hcv := HCV.out; simp only [Act.put, List.setIfInBounds_toArray, List.set_cons_zero, List.set_cons_succ])
          | ((with_reducible refine gate_dst (N := 44) rfl ?_); refine gg (some 44) rfl rfl rfl frC2 ?_; refine onc (csuf2 A3 c3 p1 s1 _ 34 _ HS.out (by have := LP.out; omega) M3.out R3.out BP.out (by decide)) rfl ?_; rintro e w5 ⟨rfl, hb, r4⟩; refine ⟨_, rfl, ?_⟩; have R4 := Aside0.mk r4; clear r4; replace R2 := Aside0.mk (Kd.C_below R2.out hb); replace HB := Bw.sw w hb; clear hb; have hcv := HCV.out; simp only [Act.put, List.setIfInBounds_toArray, List.set_cons_zero, List.set_cons_succ]))
        go_ret
        exact ⟨rfl, HB.out⟩
    | true =>
      cases sb with
      | false =>
        obtain rfl := Option.some.inj ((if_neg (by simp)).symm.trans hr)
        clear hr
        go_enter Tryd.func35, Tryd.ntmps35
        go_wp2_with (first
          | ((with_reducible refine gate_dst (N := 17) rfl ?_); refine gg (some 17) rfl rfl rfl frC1 ?_; refine onc (cut_yes2 A c l la lb j _ EA.out EB.out P0.out PJ.out (by omega) L1.out (cb G1)) rfl ?_; rintro e w1 ⟨A1, c1, rfl, hb, m1, r1⟩; refine ⟨_, rfl, ?_⟩; have R1 := Aside0.mk r1; have M1 := Aside0.mk m1; clear r1 m1; replace HB := Bw.sw w hb; clear hb; have hcv := HCV.out; simp only [Act.put, List.setIfInBounds_toArray, List.set_cons_zero, List.set_cons_succ])
          | ((with_reducible refine gate_dst (N := 22) rfl ?_); refine gg (some 22) rfl rfl rfl frC4 ?_; refine onc (isName_b k _ _ la true _ (cb G2) LT.out T.out) rfl ?_; rintro e w2 ⟨rfl, hb⟩; refine ⟨_, rfl, ?_⟩; replace R1 := Aside0.mk (Kd.C_below R1.out hb); replace HB := Bw.sw w hb; clear hb; have hcv := HCV.out; simp only [Act.put, List.setIfInBounds_toArray, List.set_cons_zero, List.set_cons_succ])
          | ((with_reducible refine gate_dst (N := 30) rfl ?_); refine gg (some 30) rfl rfl rfl frC2 ?_; refine onc (csuf2 A1 c1 lb i1 _ 93 _ HI.out (by have := LD.out; omega) M1.out R1.out BD.out (by decide)) rfl ?_; rintro e w3 ⟨rfl, hb, r2⟩; refine ⟨_, rfl, ?_⟩; have R2 := Aside0.mk r2; clear r2; have MI := Aside0.mk (Nat.le_trans LI0.out M1.out); replace HB := Bw.sw w hb; clear hb; have hcv := HCV.out; simp only [Act.put, List.setIfInBounds_toArray, List.set_cons_zero, List.set_cons_succ])
          | ((with_reducible refine gate_dst (N := 37) rfl ?_); refine gg (some 37) rfl rfl rfl frC3 ?_; refine onc (cpre2 A1 c1 i1 p1 _ 34 _ HP.out (by have := LI.out; omega) MI.out R2.out BI.out (by decide)) rfl ?_; rintro e w4 ⟨A3, c3, rfl, hb, m3, r3⟩; refine ⟨_, rfl, ?_⟩; have R3 := Aside0.mk r3; have M3 := Aside0.mk m3; clear r3 m3; replace R2 := Aside0.mk (Kd.C_below R2.out hb); replace HB := Bw.sw w hb; clear hb; have hcv := HCV.out; simp only [Act.put, List.setIfInBounds_toArray, List.set_cons_zero, List.set_cons_succ])
          | ((with_reducible refine gate_dst (N := 44) rfl ?_); refine gg (some 44) rfl rfl rfl frC2 ?_; refine onc (csuf2 A3 c3 p1 s1 _ 34 _ HS.out (by have := LP.out; omega) M3.out R3.out BP.out (by decide)) rfl ?_; rintro e w5 ⟨rfl, hb, r4⟩; refine ⟨_, rfl, ?_⟩; have R4 := Aside0.mk r4; clear r4; replace R2 := Aside0.mk (Kd.C_below R2.out hb); replace HB := Bw.sw w hb; clear hb; have hcv := HCV.out; simp only [Act.put, List.setIfInBounds_toArray, List.set_cons_zero, List.set_cons_succ]))
        go_ret
        exact ⟨rfl, HB.out⟩
      | true =>
        have T2 := Aside0.mk ((if_pos rfl).symm.trans hr)
        clear hr
        go_enter Tryd.func35, Tryd.ntmps35
        go_wp2_with (first
          | ((with_reducible refine gate_dst (N := 17) rfl ?_); refine gg (some 17) rfl rfl rfl frC1 ?_; refine onc (cut_yes2 A c l la lb j _ EA.out EB.out P0.out PJ.out (by omega) L1.out (cb G1)) rfl ?_; rintro e w1 ⟨A1, c1, rfl, hb, m1, r1⟩; refine ⟨_, rfl, ?_⟩; have R1 := Aside0.mk r1; have M1 := Aside0.mk m1; clear r1 m1; replace HB := Bw.sw w hb; clear hb; have hcv := HCV.out; simp only [Act.put, List.setIfInBounds_toArray, List.set_cons_zero, List.set_cons_succ])
          | ((with_reducible refine gate_dst (N := 22) rfl ?_); refine gg (some 22) rfl rfl rfl frC4 ?_; refine onc (isName_b k _ _ la true _ (cb G2) LT.out T.out) rfl ?_; rintro e w2 ⟨rfl, hb⟩; refine ⟨_, rfl, ?_⟩; replace R1 := Aside0.mk (Kd.C_below R1.out hb); replace HB := Bw.sw w hb; clear hb; have hcv := HCV.out; simp only [Act.put, List.setIfInBounds_toArray, List.set_cons_zero, List.set_cons_succ])
          | ((with_reducible refine gate_dst (N := 30) rfl ?_); refine gg (some 30) rfl rfl rfl frC2 ?_; refine onc (csuf2 A1 c1 lb i1 _ 93 _ HI.out (by have := LD.out; omega) M1.out R1.out BD.out (by decide)) rfl ?_; rintro e w3 ⟨rfl, hb, r2⟩; refine ⟨_, rfl, ?_⟩; have R2 := Aside0.mk r2; clear r2; have MI := Aside0.mk (Nat.le_trans LI0.out M1.out); replace HB := Bw.sw w hb; clear hb; have hcv := HCV.out; simp only [Act.put, List.setIfInBounds_toArray, List.set_cons_zero, List.set_cons_succ])
          | ((with_reducible refine gate_dst (N := 37) rfl ?_); refine gg (some 37) rfl rfl rfl frC3 ?_; refine onc (cpre2 A1 c1 i1 p1 _ 34 _ HP.out (by have := LI.out; omega) MI.out R2.out BI.out (by decide)) rfl ?_; rintro e w4 ⟨A3, c3, rfl, hb, m3, r3⟩; refine ⟨_, rfl, ?_⟩; have R3 := Aside0.mk r3; have M3 := Aside0.mk m3; clear r3 m3; replace R2 := Aside0.mk (Kd.C_below R2.out hb); replace HB := Bw.sw w hb; clear hb; have hcv := HCV.out; simp only [Act.put, List.setIfInBounds_toArray, List.set_cons_zero, List.set_cons_succ])
          | ((with_reducible refine gate_dst (N := 44) rfl ?_); refine gg (some 44) rfl rfl rfl frC2 ?_; refine onc (csuf2 A3 c3 p1 s1 _ 34 _ HS.out (by have := LP.out; omega) M3.out R3.out BP.out (by decide)) rfl ?_; rintro e w5 ⟨rfl, hb, r4⟩; refine ⟨_, rfl, ?_⟩; have R4 := Aside0.mk r4; clear r4; replace R2 := Aside0.mk (Kd.C_below R2.out hb); replace HB := Bw.sw w hb; clear hb; have hcv := HCV.out; simp only [Act.put, List.setIfInBounds_toArray, List.set_cons_zero, List.set_cons_succ])
          | ((with_reducible refine gate_dst (N := 60) rfl ?_); refine ggw (some 60) rfl (by rfl) rfl frC4 ?_; refine onc (isName_b k _ _ s1 r _ R4.out (Nat.le_trans LS.out M3.out) T2.out) rfl ?_; rintro e w2 ⟨rfl, hb⟩; refine ⟨_, rfl, ?_⟩; replace HB := Bw.sw w hb; clear hb; have hcv := HCV.out; simp only [Act.put, List.setIfInBounds_toArray, List.set_cons_zero, List.set_cons_succ]))
        go_ret
        exact ⟨rfl, HB.out⟩
theorem bytes_bel {w : World} (e : TypeId) (s : ByteArray) : Below w.heap.size w (Lib.bytesWorld w e s) := ⟨rfl, rfl, rfl, by rw [Lib.bytesWorld_size]; omega, fun i hi => Lib.bytesWorld_at_old w e s i (by omega)⟩
structure CU (w : World) (A : Option Addr) (l : List Int) : Prop where
  h : (Kd.int .u8).C w A l.length l
theorem CU.b {w w1 : World} {A : Option Addr} {l : List Int} (h : CU w A l) (hb : Below w.heap.size w w1) : CU w1 A l := ⟨Kd.C_below h.h hb⟩
theorem in_b (v : Int) (w : World) : Calls Tryd.prog 47 #[.int .i64 v, .int .i64 0, .int .i64 99] w fun e w' => e = .returned (.bool (decide (0 ≤ v ∧ v ≤ 99))) ∧ Below w.heap.size w w' := by
  have h : impl_in.f v 0 99 = some (decide (0 ≤ v ∧ v ≤ 99)) := by
    unfold impl_in.f
    by_cases h : v ≥ 0
    · rw [if_pos h]; congr 1; by_cases h2 : v ≤ 99
      · rw [decide_eq_true h2, decide_eq_true ⟨h, h2⟩]
      · rw [decide_eq_false h2, decide_eq_false (fun q => h2 q.2)]
    · rw [if_neg h, decide_eq_false (fun q => h q.1)]
  refine (impl_in.calls v 0 99 _ w h).mono ?_
  rintro e w' ⟨rfl, nd, rfl⟩
  exact ⟨rfl, pw_below_drewN (Below.refl _ _) nd⟩
theorem atoi_ok (l : List Int) (hl : l.length ≤ 1048576) (v : Int) (hv : Lib.atoiAll (strOfNums l).data.toList = .ok v) (w : World) : Calls Tryd.prog 68 #[.string (strOfNums l)] w fun e w' => e = .returned (.tuple #[.int .i64 v, .nilIface]) ∧ Below w.heap.size w w' := by
  refine (Any.strconv_Atoi_ok (P := Tryd.prog) laysAtoi (strOfNums l) (by rw [strOfNums_size]; omega) v hv w).mono ?_
  rintro e w' ⟨rfl, rfl | ⟨t, rfl⟩⟩
  · exact ⟨rfl, Below.refl _ _⟩
  · exact ⟨rfl, bytes_bel _ _⟩
theorem atoi_no (l : List Int) (hl : l.length ≤ 1048576) (hv : ∀ v, Lib.atoiAll (strOfNums l).data.toList ≠ .ok v) (w : World) (TB : Tb w) : Calls Tryd.prog 68 #[.string (strOfNums l)] w fun e w' => ∃ v t p, e = .returned (.tuple #[.int .i64 v, .iface t p]) ∧ Below w.heap.size w w' := by
  obtain ⟨⟨t1, p1, h1⟩, ⟨t2, p2, h2⟩⟩ := TB
  rcases e : Lib.atoiAll (strOfNums l).data.toList with v | _ | _
  · exact absurd e (hv v)
  · refine (Any.strconv_Atoi_syntax (P := Tryd.prog) laysAtoi (strOfNums l) (by rw [strOfNums_size]; omega) e _ w h1 (.inr ⟨_, _, rfl⟩)).mono ?_
    rintro e w' ⟨N, rfl, _, _, hb⟩
    exact ⟨_, _, _, rfl, hb⟩
  · refine (Any.strconv_Atoi_range (P := Tryd.prog) laysAtoi (strOfNums l) (by rw [strOfNums_size]; omega) e _ w h2 (.inr ⟨_, _, rfl⟩)).mono ?_
    rintro e w' ⟨N, rfl, _, _, hb⟩
    exact ⟨_, _, _, rfl, hb⟩
set_option maxRecDepth 100000 in
set_option maxHeartbeats 8000000 in
theorem isAddr_end (k : Nat) (A : Option Addr) (c : Nat) (l : List Int) (j : Nat) (w : World) (hn : l.length ≤ 1048576) (hc : l.length ≤ c) (h : (Kd.int .u8).C w A l.length l) (hb : By l) (hp : posB l = j) (hj : j < l.length) (la lb : List Int) (ea : l.take j = la) (eb : l.drop (j + 1) = lb) (hf : impl_isName.f k la = some true) (i1 p1 s1 : List Int) (hi : cutS lb 93 = (i1, false)) (hpp : cutP i1 34 = (p1, false)) (hs : cutS p1 34 = (s1, false)) (TB : Tb w) : Calls Tryd.prog 35 #[.slice A l.length c] w fun e w' => e = .returned (.bool false) ∧ Below w.heap.size w w' := by
  have hcv := fun (w' : World) (x : Int) => Lib.run_convert_bytes_const (P := Tryd.prog) w' 22 5 #[.int .u8 x] 1 1 Tryd.underlying22 Tryd.underlying5
  have HCV := Aside0.mk hcv
  have G1 := Aside0.mk h
  have L1 := Aside0.mk hc
  have BY := Aside0.mk hb
  have HB := Bw.refl w
  clear h hc hb hcv
  have hcv := HCV.out
  have P0 := Aside0.mk hp
  have PJ := Aside0.mk hj
  have EA := Aside0.mk ea
  have EB := Aside0.mk eb
  have LT := Aside0.mk (show la.length ≤ c by rw [← ea, List.length_take]; have := L1.out; omega)
  have G2 := Aside0.mk (show (Kd.int .u8).C w A la.length la by rw [← ea]; exact Kd.C_take (m := j) G1.out (by omega))
  have LD := Aside0.mk (show lb.length ≤ 1048576 by rw [← eb, List.length_drop]; omega)
  have BD := Aside0.mk (show By lb by rw [← eb]; exact By_drop (j + 1) BY.out)
  clear hp hj ea eb
  have T := Aside0.mk hf
  have HI := Aside0.mk hi
  have HP := Aside0.mk hpp
  have HS := Aside0.mk hs
  have LI := Aside0.mk (show i1.length ≤ 1048576 from Nat.le_trans (cutS_facts hi).1 LD.out)
  have BI := Aside0.mk ((cutS_facts hi).2 BD.out)
  have LP := Aside0.mk (show p1.length ≤ 1048576 from Nat.le_trans (cutP_facts hpp).1 LI.out)
  have BP := Aside0.mk ((cutP_facts hpp).2 BI.out)
  have LS := Aside0.mk (show s1.length ≤ p1.length from (cutS_facts hs).1)
  have LI0 := Aside0.mk (cutS_facts hi).1
  clear hf hi hpp hs
  by_cases hx : ∃ v, Lib.atoiAll (strOfNums i1).data.toList = .ok v
  · obtain ⟨v, hv⟩ := hx
    have HV := Aside0.mk hv
    clear hv
    go_enter Tryd.func35, Tryd.ntmps35
    go_wp2_with (first
      | ((with_reducible refine gate_dst (N := 17) rfl ?_); refine gg (some 17) rfl rfl rfl frC1 ?_; refine onc (cut_yes2 A c l la lb j _ EA.out EB.out P0.out PJ.out (by omega) L1.out (cb G1)) rfl ?_; rintro e w1 ⟨A1, c1, rfl, hb, m1, r1⟩; refine ⟨_, rfl, ?_⟩; have R1 := Aside0.mk r1; have M1 := Aside0.mk m1; clear r1 m1; replace HB := Bw.sw w hb; clear hb; have hcv := HCV.out; simp only [Act.put, List.setIfInBounds_toArray, List.set_cons_zero, List.set_cons_succ])
      | ((with_reducible refine gate_dst (N := 22) rfl ?_); refine gg (some 22) rfl rfl rfl frC4 ?_; refine onc (isName_b k _ _ la true _ (cb G2) LT.out T.out) rfl ?_; rintro e w2 ⟨rfl, hb⟩; refine ⟨_, rfl, ?_⟩; replace R1 := Aside0.mk (Kd.C_below R1.out hb); replace HB := Bw.sw w hb; clear hb; have hcv := HCV.out; simp only [Act.put, List.setIfInBounds_toArray, List.set_cons_zero, List.set_cons_succ])
      | ((with_reducible refine gate_dst (N := 30) rfl ?_); refine gg (some 30) rfl rfl rfl frC2 ?_; refine onc (csuf2 A1 c1 lb i1 _ 93 _ HI.out (by have := LD.out; omega) M1.out R1.out BD.out (by decide)) rfl ?_; rintro e w3 ⟨rfl, hb, r2⟩; refine ⟨_, rfl, ?_⟩; have R2 := Aside0.mk r2; clear r2; have MI := Aside0.mk (Nat.le_trans LI0.out M1.out); replace HB := Bw.sw w hb; clear hb; have hcv := HCV.out; simp only [Act.put, List.setIfInBounds_toArray, List.set_cons_zero, List.set_cons_succ])
      | ((with_reducible refine gate_dst (N := 37) rfl ?_); refine gg (some 37) rfl rfl rfl frC3 ?_; refine onc (cpre2 A1 c1 i1 p1 _ 34 _ HP.out (by have := LI.out; omega) MI.out R2.out BI.out (by decide)) rfl ?_; rintro e w4 ⟨A3, c3, rfl, hb, m3, r3⟩; refine ⟨_, rfl, ?_⟩; have R3 := Aside0.mk r3; have M3 := Aside0.mk m3; clear r3 m3; replace R2 := Aside0.mk (Kd.C_below R2.out hb); replace HB := Bw.sw w hb; clear hb; have hcv := HCV.out; simp only [Act.put, List.setIfInBounds_toArray, List.set_cons_zero, List.set_cons_succ])
      | ((with_reducible refine gate_dst (N := 44) rfl ?_); refine gg (some 44) rfl rfl rfl frC2 ?_; refine onc (csuf2 A3 c3 p1 s1 _ 34 _ HS.out (by have := LP.out; omega) M3.out R3.out BP.out (by decide)) rfl ?_; rintro e w5 ⟨rfl, hb, r4⟩; refine ⟨_, rfl, ?_⟩; have R4 := Aside0.mk r4; clear r4; replace R2 := Aside0.mk (Kd.C_below R2.out hb); replace HB := Bw.sw w hb; clear hb; have hcv := HCV.out; have hcs := Kd.C_string (P := Tryd.prog) (A := A1) (c := c1) Tryd.underlying22 Tryd.underlying5 Tryd.underlying9 R2.out; simp only [Act.put, List.setIfInBounds_toArray, List.set_cons_zero, List.set_cons_succ])
      | ((with_reducible refine gate_dst (N := 65) rfl ?_); refine gg (some 65) rfl rfl rfl frC5 ?_; refine onc (atoi_ok i1 LI.out v HV.out _) rfl ?_; rintro e w6 ⟨rfl, hb⟩; refine ⟨_, rfl, ?_⟩; replace R2 := Aside0.mk (Kd.C_below R2.out hb); replace HB := Bw.sw w hb; clear hb; have hcv := HCV.out; simp only [Act.put, List.setIfInBounds_toArray, List.set_cons_zero, List.set_cons_succ]))
    have RC : CU _ A1 i1 := ⟨R2.out⟩
    have hdr : Below w6.heap.size w6 w6.drew := below_drew1 (Below.refl _ _)
    refine start_ (n := 17) (S := fun w' => CU w' A1 i1) (ds := []) #[false, false, false, false, false, false, false, false, false, false, false, false, false, false, false, false, false] (by kernel_rfl) rfl rfl (RC.b hdr) (fun hH => ?_)
    generalize w6.drew = wd at hdr hH ⊢
    replace RC := RC.b hdr
    replace HB := Bw.sw w hdr
    clear hdr
    refine pure_ (i := 0) (N := some 68) (v := ?_) (a' := ?_) #[true, false, false, false, false, false, false, false, false, false, false, false, false, false, false, false, false] rfl rfl (by kernel_rfl) (fun _ _ _ h => h) (Or.inl ⟨by rfl, ?_⟩) ?_ ?_
    rotate_left
    ·intro w'
     go_simp
     with_reducible rfl
    rotate_left
    ·simp only [Act.put, List.setIfInBounds_toArray, List.set_cons_zero, List.set_cons_succ, i64_w, i32_w]
     rfl
    refine pure_ (i := 1) (N := some 69) (v := ?_) (a' := ?_) #[true, true, false, false, false, false, false, false, false, false, false, false, false, false, false, false, false] rfl rfl (by kernel_rfl) (fun _ _ _ h => h) (Or.inl ⟨by rfl, ?_⟩) ?_ ?_
    rotate_left
    ·intro w'
     go_simp
     with_reducible rfl
    rotate_left
    ·simp only [Act.put, List.setIfInBounds_toArray, List.set_cons_zero, List.set_cons_succ, i64_w, i32_w]
     rfl
    refine pure_ (i := 2) (N := some 70) (v := undef) (a' := ?_) #[true, true, true, false, false, false, false, false, false, false, false, false, false, false, false, false, false] rfl rfl (by kernel_rfl) (fun _ _ _ h => h) (Or.inr ⟨by rfl, rfl⟩) ?_ ?_
    rotate_left
    ·simp only [Act.put, List.setIfInBounds_toArray, List.set_cons_zero, List.set_cons_succ, i64_w, i32_w]
     rfl
    refine pure_ (i := 3) (N := some 71) (v := undef) (a' := ?_) #[true, true, true, true, false, false, false, false, false, false, false, false, false, false, false, false, false] rfl rfl (by kernel_rfl) (fun _ _ _ h => h) (Or.inr ⟨by rfl, rfl⟩) ?_ ?_
    rotate_left
    ·simp only [Act.put, List.setIfInBounds_toArray, List.set_cons_zero, List.set_cons_succ, i64_w, i32_w]
     rfl
    refine pure_ (i := 4) (N := some 72) (v := ?_) (a' := ?_) #[true, true, true, true, true, false, false, false, false, false, false, false, false, false, false, false, false] rfl rfl (by kernel_rfl) (fun _ _ _ h => h) (Or.inl ⟨by rfl, ?_⟩) ?_ ?_
    rotate_left
    ·intro w'
     go_simp
     with_reducible rfl
    rotate_left
    ·simp only [Act.put, List.setIfInBounds_toArray, List.set_cons_zero, List.set_cons_succ, i64_w, i32_w]
     rfl
    refine pure_ (i := 5) (N := some 73) (v := ?_) (a' := ?_) #[true, true, true, true, true, true, false, false, false, false, false, false, false, false, false, false, false] rfl rfl (by kernel_rfl) (fun _ _ _ h => h) (Or.inl ⟨by rfl, ?_⟩) ?_ ?_
    rotate_left
    ·intro w'
     go_simp
     with_reducible rfl
    rotate_left
    ·simp only [Act.put, List.setIfInBounds_toArray, List.set_cons_zero, List.set_cons_succ, i64_w, i32_w]
     rfl
    refine pure_ (i := 6) (N := some 74) (v := undef) (a' := ?_) #[true, true, true, true, true, true, true, false, false, false, false, false, false, false, false, false, false] rfl rfl (by kernel_rfl) (fun _ _ _ h => h) (Or.inr ⟨by rfl, rfl⟩) ?_ ?_
    rotate_left
    ·simp only [Act.put, List.setIfInBounds_toArray, List.set_cons_zero, List.set_cons_succ, i64_w, i32_w]
     rfl
    refine pure_ (i := 7) (N := some 75) (v := undef) (a' := ?_) #[true, true, true, true, true, true, true, true, false, false, false, false, false, false, false, false, false] rfl rfl (by kernel_rfl) (fun _ _ _ h => h) (Or.inr ⟨by rfl, rfl⟩) ?_ ?_
    rotate_left
    ·simp only [Act.put, List.setIfInBounds_toArray, List.set_cons_zero, List.set_cons_succ, i64_w, i32_w]
     rfl
    refine pure_ (i := 8) (N := some 76) (v := ?_) (a' := ?_) #[true, true, true, true, true, true, true, true, true, false, false, false, false, false, false, false, false] rfl rfl (by kernel_rfl) (fun _ _ _ h => h) (Or.inl ⟨by rfl, ?_⟩) ?_ ?_
    rotate_left
    ·intro w'
     go_simp
     with_reducible rfl
    rotate_left
    ·simp only [Act.put, List.setIfInBounds_toArray, List.set_cons_zero, List.set_cons_succ, i64_w, i32_w]
     rfl
    refine pure_ (i := 9) (N := some 77) (v := ?_) (a' := ?_) #[true, true, true, true, true, true, true, true, true, true, false, false, false, false, false, false, false] rfl rfl (by kernel_rfl) (fun _ _ _ h => h) (Or.inl ⟨by rfl, ?_⟩) ?_ ?_
    rotate_left
    ·intro w'
     go_simp
     with_reducible rfl
    rotate_left
    ·simp only [Act.put, List.setIfInBounds_toArray, List.set_cons_zero, List.set_cons_succ, i64_w, i32_w]
     rfl
    refine pure_ (i := 10) (N := some 78) (v := undef) (a' := ?_) #[true, true, true, true, true, true, true, true, true, true, true, false, false, false, false, false, false] rfl rfl (by kernel_rfl) (fun _ _ _ h => h) (Or.inr ⟨by rfl, rfl⟩) ?_ ?_
    rotate_left
    ·simp only [Act.put, List.setIfInBounds_toArray, List.set_cons_zero, List.set_cons_succ, i64_w, i32_w]
     rfl
    refine pure_ (i := 11) (N := some 79) (v := undef) (a' := ?_) #[true, true, true, true, true, true, true, true, true, true, true, true, false, false, false, false, false] rfl rfl (by kernel_rfl) (fun _ _ _ h => h) (Or.inr ⟨by rfl, rfl⟩) ?_ ?_
    rotate_left
    ·simp only [Act.put, List.setIfInBounds_toArray, List.set_cons_zero, List.set_cons_succ, i64_w, i32_w]
     rfl
    refine pure_ (i := 12) (N := some 80) (v := undef) (a' := ?_) #[true, true, true, true, true, true, true, true, true, true, true, true, true, false, false, false, false] rfl rfl (by kernel_rfl) (fun _ _ _ h => h) (Or.inr ⟨by rfl, rfl⟩) ?_ ?_
    rotate_left
    ·simp only [Act.put, List.setIfInBounds_toArray, List.set_cons_zero, List.set_cons_succ, i64_w, i32_w]
     rfl
    refine pure_ (i := 13) (N := some 81) (v := undef) (a' := ?_) #[true, true, true, true, true, true, true, true, true, true, true, true, true, true, false, false, false] rfl rfl (by kernel_rfl) (fun _ _ _ h => h) (Or.inr ⟨by rfl, rfl⟩) ?_ ?_
    rotate_left
    ·simp only [Act.put, List.setIfInBounds_toArray, List.set_cons_zero, List.set_cons_succ, i64_w, i32_w]
     rfl
    refine pure_ (i := 14) (N := some 82) (v := undef) (a' := ?_) #[true, true, true, true, true, true, true, true, true, true, true, true, true, true, true, false, false] rfl rfl (by kernel_rfl) (fun _ _ _ h => h) (Or.inr ⟨by rfl, rfl⟩) ?_ ?_
    rotate_left
    ·simp only [Act.put, List.setIfInBounds_toArray, List.set_cons_zero, List.set_cons_succ, i64_w, i32_w]
     rfl
    refine pure_ (i := 15) (N := some 83) (v := ?_) (a' := ?_) #[true, true, true, true, true, true, true, true, true, true, true, true, true, true, true, true, false] rfl rfl (by kernel_rfl) (fun _ _ _ h => h) (Or.inl ⟨by rfl, ?_⟩) ?_ ?_
    rotate_left
    ·intro w'
     go_simp
     with_reducible rfl
    rotate_left
    ·simp only [Act.put, List.setIfInBounds_toArray, List.set_cons_zero, List.set_cons_succ, i64_w, i32_w]
     rfl
    refine pure_ (i := 16) (N := some 2) (v := ?_) (a' := ?_) #[true, true, true, true, true, true, true, true, true, true, true, true, true, true, true, true, true] rfl rfl (by kernel_rfl) (fun _ _ _ h => h) (Or.inl ⟨by rfl, ?_⟩) ?_ ?_
    rotate_left
    ·intro w'
     go_simp
     with_reducible rfl
    rotate_left
    ·simp only [Act.put, List.setIfInBounds_toArray, List.set_cons_zero, List.set_cons_succ, i64_w, i32_w]
     rfl
    refine done_ (by kernel_rfl) ?_
    try go_wp2
    go_ret
    exact ⟨rfl, HB.out⟩
  · have HV := Aside0.mk (fun v hv => hx ⟨v, hv⟩ : ∀ v, Lib.atoiAll (strOfNums i1).data.toList ≠ .ok v)
    clear hx
    go_enter Tryd.func35, Tryd.ntmps35
    go_wp2_with (first
      | ((with_reducible refine gate_dst (N := 17) rfl ?_); refine gg (some 17) rfl rfl rfl frC1 ?_; refine onc (cut_yes2 A c l la lb j _ EA.out EB.out P0.out PJ.out (by omega) L1.out (cb G1)) rfl ?_; rintro e w1 ⟨A1, c1, rfl, hb, m1, r1⟩; refine ⟨_, rfl, ?_⟩; have R1 := Aside0.mk r1; have M1 := Aside0.mk m1; clear r1 m1; replace HB := Bw.sw w hb; clear hb; have hcv := HCV.out; simp only [Act.put, List.setIfInBounds_toArray, List.set_cons_zero, List.set_cons_succ])
      | ((with_reducible refine gate_dst (N := 22) rfl ?_); refine gg (some 22) rfl rfl rfl frC4 ?_; refine onc (isName_b k _ _ la true _ (cb G2) LT.out T.out) rfl ?_; rintro e w2 ⟨rfl, hb⟩; refine ⟨_, rfl, ?_⟩; replace R1 := Aside0.mk (Kd.C_below R1.out hb); replace HB := Bw.sw w hb; clear hb; have hcv := HCV.out; simp only [Act.put, List.setIfInBounds_toArray, List.set_cons_zero, List.set_cons_succ])
      | ((with_reducible refine gate_dst (N := 30) rfl ?_); refine gg (some 30) rfl rfl rfl frC2 ?_; refine onc (csuf2 A1 c1 lb i1 _ 93 _ HI.out (by have := LD.out; omega) M1.out R1.out BD.out (by decide)) rfl ?_; rintro e w3 ⟨rfl, hb, r2⟩; refine ⟨_, rfl, ?_⟩; have R2 := Aside0.mk r2; clear r2; have MI := Aside0.mk (Nat.le_trans LI0.out M1.out); replace HB := Bw.sw w hb; clear hb; have hcv := HCV.out; simp only [Act.put, List.setIfInBounds_toArray, List.set_cons_zero, List.set_cons_succ])
      | ((with_reducible refine gate_dst (N := 37) rfl ?_); refine gg (some 37) rfl rfl rfl frC3 ?_; refine onc (cpre2 A1 c1 i1 p1 _ 34 _ HP.out (by have := LI.out; omega) MI.out R2.out BI.out (by decide)) rfl ?_; rintro e w4 ⟨A3, c3, rfl, hb, m3, r3⟩; refine ⟨_, rfl, ?_⟩; have R3 := Aside0.mk r3; have M3 := Aside0.mk m3; clear r3 m3; replace R2 := Aside0.mk (Kd.C_below R2.out hb); replace HB := Bw.sw w hb; clear hb; have hcv := HCV.out; simp only [Act.put, List.setIfInBounds_toArray, List.set_cons_zero, List.set_cons_succ])
      | ((with_reducible refine gate_dst (N := 44) rfl ?_); refine gg (some 44) rfl rfl rfl frC2 ?_; refine onc (csuf2 A3 c3 p1 s1 _ 34 _ HS.out (by have := LP.out; omega) M3.out R3.out BP.out (by decide)) rfl ?_; rintro e w5 ⟨rfl, hb, r4⟩; refine ⟨_, rfl, ?_⟩; have R4 := Aside0.mk r4; clear r4; replace R2 := Aside0.mk (Kd.C_below R2.out hb); replace HB := Bw.sw w hb; clear hb; have hcv := HCV.out; have hcs := Kd.C_string (P := Tryd.prog) (A := A1) (c := c1) Tryd.underlying22 Tryd.underlying5 Tryd.underlying9 R2.out; simp only [Act.put, List.setIfInBounds_toArray, List.set_cons_zero, List.set_cons_succ])
      | ((with_reducible refine gate_dst (N := 65) rfl ?_); refine gg (some 65) rfl rfl rfl frC5 ?_; refine onc (atoi_no i1 LI.out HV.out _ (TB.b HB.out)) rfl ?_; rintro e w6 ⟨v, t, p, rfl, hb⟩; refine ⟨_, rfl, ?_⟩; replace R2 := Aside0.mk (Kd.C_below R2.out hb); replace HB := Bw.sw w hb; clear hb; have hcv := HCV.out; simp only [Act.put, List.setIfInBounds_toArray, List.set_cons_zero, List.set_cons_succ]))
    have RC : CU _ A1 i1 := ⟨R2.out⟩
    have hdr : Below w6.heap.size w6 w6.drew := below_drew1 (Below.refl _ _)
    refine start_ (n := 17) (S := fun w' => CU w' A1 i1) (ds := []) #[false, false, false, false, false, false, false, false, false, false, false, false, false, false, false, false, false] (by kernel_rfl) rfl rfl (RC.b hdr) (fun hH => ?_)
    generalize w6.drew = wd at hdr hH ⊢
    replace RC := RC.b hdr
    replace HB := Bw.sw w hdr
    clear hdr
    refine pure_ (i := 0) (N := some 68) (v := ?_) (a' := ?_) #[true, false, false, false, false, false, false, false, false, false, false, false, false, false, false, false, false] rfl rfl (by kernel_rfl) (fun _ _ _ h => h) (Or.inl ⟨by rfl, ?_⟩) ?_ ?_
    rotate_left
    ·intro w'
     go_simp
     with_reducible rfl
    rotate_left
    ·simp only [Act.put, List.setIfInBounds_toArray, List.set_cons_zero, List.set_cons_succ, i64_w, i32_w]
     rfl
    refine pure_ (i := 1) (N := some 69) (v := ?_) (a' := ?_) #[true, true, false, false, false, false, false, false, false, false, false, false, false, false, false, false, false] rfl rfl (by kernel_rfl) (fun _ _ _ h => h) (Or.inl ⟨by rfl, ?_⟩) ?_ ?_
    rotate_left
    ·intro w'
     go_simp
     with_reducible rfl
    rotate_left
    ·simp only [Act.put, List.setIfInBounds_toArray, List.set_cons_zero, List.set_cons_succ, i64_w, i32_w]
     rfl
    refine pure_ (i := 2) (N := some 70) (v := undef) (a' := ?_) #[true, true, true, false, false, false, false, false, false, false, false, false, false, false, false, false, false] rfl rfl (by kernel_rfl) (fun _ _ _ h => h) (Or.inr ⟨by rfl, rfl⟩) ?_ ?_
    rotate_left
    ·simp only [Act.put, List.setIfInBounds_toArray, List.set_cons_zero, List.set_cons_succ, i64_w, i32_w]
     rfl
    refine pure_ (i := 3) (N := some 71) (v := undef) (a' := ?_) #[true, true, true, true, false, false, false, false, false, false, false, false, false, false, false, false, false] rfl rfl (by kernel_rfl) (fun _ _ _ h => h) (Or.inr ⟨by rfl, rfl⟩) ?_ ?_
    rotate_left
    ·simp only [Act.put, List.setIfInBounds_toArray, List.set_cons_zero, List.set_cons_succ, i64_w, i32_w]
     rfl
    refine pure_ (i := 4) (N := some 72) (v := ?_) (a' := ?_) #[true, true, true, true, true, false, false, false, false, false, false, false, false, false, false, false, false] rfl rfl (by kernel_rfl) (fun _ _ _ h => h) (Or.inl ⟨by rfl, ?_⟩) ?_ ?_
    rotate_left
    ·intro w'
     go_simp
     with_reducible rfl
    rotate_left
    ·simp only [Act.put, List.setIfInBounds_toArray, List.set_cons_zero, List.set_cons_succ, i64_w, i32_w]
     rfl
    refine pure_ (i := 5) (N := some 73) (v := ?_) (a' := ?_) #[true, true, true, true, true, true, false, false, false, false, false, false, false, false, false, false, false] rfl rfl (by kernel_rfl) (fun _ _ _ h => h) (Or.inl ⟨by rfl, ?_⟩) ?_ ?_
    rotate_left
    ·intro w'
     go_simp
     with_reducible rfl
    rotate_left
    ·simp only [Act.put, List.setIfInBounds_toArray, List.set_cons_zero, List.set_cons_succ, i64_w, i32_w]
     rfl
    refine pure_ (i := 6) (N := some 74) (v := undef) (a' := ?_) #[true, true, true, true, true, true, true, false, false, false, false, false, false, false, false, false, false] rfl rfl (by kernel_rfl) (fun _ _ _ h => h) (Or.inr ⟨by rfl, rfl⟩) ?_ ?_
    rotate_left
    ·simp only [Act.put, List.setIfInBounds_toArray, List.set_cons_zero, List.set_cons_succ, i64_w, i32_w]
     rfl
    refine pure_ (i := 7) (N := some 75) (v := undef) (a' := ?_) #[true, true, true, true, true, true, true, true, false, false, false, false, false, false, false, false, false] rfl rfl (by kernel_rfl) (fun _ _ _ h => h) (Or.inr ⟨by rfl, rfl⟩) ?_ ?_
    rotate_left
    ·simp only [Act.put, List.setIfInBounds_toArray, List.set_cons_zero, List.set_cons_succ, i64_w, i32_w]
     rfl
    refine pure_ (i := 8) (N := some 76) (v := ?_) (a' := ?_) #[true, true, true, true, true, true, true, true, true, false, false, false, false, false, false, false, false] rfl rfl (by kernel_rfl) (fun _ _ _ h => h) (Or.inl ⟨by rfl, ?_⟩) ?_ ?_
    rotate_left
    ·intro w'
     go_simp
     with_reducible rfl
    rotate_left
    ·simp only [Act.put, List.setIfInBounds_toArray, List.set_cons_zero, List.set_cons_succ, i64_w, i32_w]
     rfl
    refine pure_ (i := 9) (N := some 77) (v := ?_) (a' := ?_) #[true, true, true, true, true, true, true, true, true, true, false, false, false, false, false, false, false] rfl rfl (by kernel_rfl) (fun _ _ _ h => h) (Or.inl ⟨by rfl, ?_⟩) ?_ ?_
    rotate_left
    ·intro w'
     go_simp
     with_reducible rfl
    rotate_left
    ·simp only [Act.put, List.setIfInBounds_toArray, List.set_cons_zero, List.set_cons_succ, i64_w, i32_w]
     rfl
    refine pure_ (i := 10) (N := some 78) (v := undef) (a' := ?_) #[true, true, true, true, true, true, true, true, true, true, true, false, false, false, false, false, false] rfl rfl (by kernel_rfl) (fun _ _ _ h => h) (Or.inr ⟨by rfl, rfl⟩) ?_ ?_
    rotate_left
    ·simp only [Act.put, List.setIfInBounds_toArray, List.set_cons_zero, List.set_cons_succ, i64_w, i32_w]
     rfl
    refine pure_ (i := 11) (N := some 79) (v := undef) (a' := ?_) #[true, true, true, true, true, true, true, true, true, true, true, true, false, false, false, false, false] rfl rfl (by kernel_rfl) (fun _ _ _ h => h) (Or.inr ⟨by rfl, rfl⟩) ?_ ?_
    rotate_left
    ·simp only [Act.put, List.setIfInBounds_toArray, List.set_cons_zero, List.set_cons_succ, i64_w, i32_w]
     rfl
    refine pure_ (i := 12) (N := some 80) (v := undef) (a' := ?_) #[true, true, true, true, true, true, true, true, true, true, true, true, true, false, false, false, false] rfl rfl (by kernel_rfl) (fun _ _ _ h => h) (Or.inr ⟨by rfl, rfl⟩) ?_ ?_
    rotate_left
    ·simp only [Act.put, List.setIfInBounds_toArray, List.set_cons_zero, List.set_cons_succ, i64_w, i32_w]
     rfl
    refine pure_ (i := 13) (N := some 81) (v := undef) (a' := ?_) #[true, true, true, true, true, true, true, true, true, true, true, true, true, true, false, false, false] rfl rfl (by kernel_rfl) (fun _ _ _ h => h) (Or.inr ⟨by rfl, rfl⟩) ?_ ?_
    rotate_left
    ·simp only [Act.put, List.setIfInBounds_toArray, List.set_cons_zero, List.set_cons_succ, i64_w, i32_w]
     rfl
    refine pure_ (i := 14) (N := some 82) (v := undef) (a' := ?_) #[true, true, true, true, true, true, true, true, true, true, true, true, true, true, true, false, false] rfl rfl (by kernel_rfl) (fun _ _ _ h => h) (Or.inr ⟨by rfl, rfl⟩) ?_ ?_
    rotate_left
    ·simp only [Act.put, List.setIfInBounds_toArray, List.set_cons_zero, List.set_cons_succ, i64_w, i32_w]
     rfl
    refine pure_ (i := 15) (N := some 83) (v := ?_) (a' := ?_) #[true, true, true, true, true, true, true, true, true, true, true, true, true, true, true, true, false] rfl rfl (by kernel_rfl) (fun _ _ _ h => h) (Or.inl ⟨by rfl, ?_⟩) ?_ ?_
    rotate_left
    ·intro w'
     go_simp
     with_reducible rfl
    rotate_left
    ·simp only [Act.put, List.setIfInBounds_toArray, List.set_cons_zero, List.set_cons_succ, i64_w, i32_w]
     rfl
    refine pure_ (i := 16) (N := some 2) (v := ?_) (a' := ?_) #[true, true, true, true, true, true, true, true, true, true, true, true, true, true, true, true, true] rfl rfl (by kernel_rfl) (fun _ _ _ h => h) (Or.inl ⟨by rfl, ?_⟩) ?_ ?_
    rotate_left
    ·intro w'
     go_simp
     with_reducible rfl
    rotate_left
    ·simp only [Act.put, List.setIfInBounds_toArray, List.set_cons_zero, List.set_cons_succ, i64_w, i32_w]
     rfl
    refine done_ (by kernel_rfl) ?_
    try go_wp2
    go_ret
    exact ⟨rfl, HB.out⟩
set_option maxRecDepth 100000 in
set_option maxHeartbeats 8000000 in
theorem isAddr_err (k : Nat) (A : Option Addr) (c : Nat) (l : List Int) (j : Nat) (w : World) (hn : l.length ≤ 1048576) (hc : l.length ≤ c) (h : (Kd.int .u8).C w A l.length l) (hb : By l) (hp : posB l = j) (hj : j < l.length) (la lb : List Int) (ea : l.take j = la) (eb : l.drop (j + 1) = lb) (hf : impl_isName.f k la = some true) (i1 p1 s1 : List Int) (hi : cutS lb 93 = (i1, true)) (hpp : cutP i1 34 = (p1, false)) (hs : cutS p1 34 = (s1, false)) (TB : Tb w) (hv : ∀ v, Lib.atoiAll (strOfNums i1).data.toList ≠ .ok v) : Calls Tryd.prog 35 #[.slice A l.length c] w fun e w' => e = .returned (.bool false) ∧ Below w.heap.size w w' := by
  have hcv := fun (w' : World) (x : Int) => Lib.run_convert_bytes_const (P := Tryd.prog) w' 22 5 #[.int .u8 x] 1 1 Tryd.underlying22 Tryd.underlying5
  have HCV := Aside0.mk hcv
  have G1 := Aside0.mk h
  have L1 := Aside0.mk hc
  have BY := Aside0.mk hb
  have HB := Bw.refl w
  clear h hc hb hcv
  have hcv := HCV.out
  have P0 := Aside0.mk hp
  have PJ := Aside0.mk hj
  have EA := Aside0.mk ea
  have EB := Aside0.mk eb
  have LT := Aside0.mk (show la.length ≤ c by rw [← ea, List.length_take]; have := L1.out; omega)
  have G2 := Aside0.mk (show (Kd.int .u8).C w A la.length la by rw [← ea]; exact Kd.C_take (m := j) G1.out (by omega))
  have LD := Aside0.mk (show lb.length ≤ 1048576 by rw [← eb, List.length_drop]; omega)
  have BD := Aside0.mk (show By lb by rw [← eb]; exact By_drop (j + 1) BY.out)
  clear hp hj ea eb
  have T := Aside0.mk hf
  have HI := Aside0.mk hi
  have HP := Aside0.mk hpp
  have HS := Aside0.mk hs
  have LI := Aside0.mk (show i1.length ≤ 1048576 from Nat.le_trans (cutS_facts hi).1 LD.out)
  have BI := Aside0.mk ((cutS_facts hi).2 BD.out)
  have LP := Aside0.mk (show p1.length ≤ 1048576 from Nat.le_trans (cutP_facts hpp).1 LI.out)
  have BP := Aside0.mk ((cutP_facts hpp).2 BI.out)
  have LS := Aside0.mk (show s1.length ≤ p1.length from (cutS_facts hs).1)
  have LI0 := Aside0.mk (cutS_facts hi).1
  clear hf hi hpp hs
  have HV := Aside0.mk hv
  clear hv
  go_enter Tryd.func35, Tryd.ntmps35
  go_wp2_with (first
    | ((with_reducible refine gate_dst (N := 17) rfl ?_); refine gg (some 17) rfl rfl rfl frC1 ?_; refine onc (cut_yes2 A c l la lb j _ EA.out EB.out P0.out PJ.out (by omega) L1.out (cb G1)) rfl ?_; rintro e w1 ⟨A1, c1, rfl, hb, m1, r1⟩; refine ⟨_, rfl, ?_⟩; have R1 := Aside0.mk r1; have M1 := Aside0.mk m1; clear r1 m1; replace HB := Bw.sw w hb; clear hb; have hcv := HCV.out; simp only [Act.put, List.setIfInBounds_toArray, List.set_cons_zero, List.set_cons_succ])
    | ((with_reducible refine gate_dst (N := 22) rfl ?_); refine gg (some 22) rfl rfl rfl frC4 ?_; refine onc (isName_b k _ _ la true _ (cb G2) LT.out T.out) rfl ?_; rintro e w2 ⟨rfl, hb⟩; refine ⟨_, rfl, ?_⟩; replace R1 := Aside0.mk (Kd.C_below R1.out hb); replace HB := Bw.sw w hb; clear hb; have hcv := HCV.out; simp only [Act.put, List.setIfInBounds_toArray, List.set_cons_zero, List.set_cons_succ])
    | ((with_reducible refine gate_dst (N := 30) rfl ?_); refine gg (some 30) rfl rfl rfl frC2 ?_; refine onc (csuf2 A1 c1 lb i1 _ 93 _ HI.out (by have := LD.out; omega) M1.out R1.out BD.out (by decide)) rfl ?_; rintro e w3 ⟨rfl, hb, r2⟩; refine ⟨_, rfl, ?_⟩; have R2 := Aside0.mk r2; clear r2; have MI := Aside0.mk (Nat.le_trans LI0.out M1.out); replace HB := Bw.sw w hb; clear hb; have hcv := HCV.out; simp only [Act.put, List.setIfInBounds_toArray, List.set_cons_zero, List.set_cons_succ])
    | ((with_reducible refine gate_dst (N := 37) rfl ?_); refine gg (some 37) rfl rfl rfl frC3 ?_; refine onc (cpre2 A1 c1 i1 p1 _ 34 _ HP.out (by have := LI.out; omega) MI.out R2.out BI.out (by decide)) rfl ?_; rintro e w4 ⟨A3, c3, rfl, hb, m3, r3⟩; refine ⟨_, rfl, ?_⟩; have R3 := Aside0.mk r3; have M3 := Aside0.mk m3; clear r3 m3; replace R2 := Aside0.mk (Kd.C_below R2.out hb); replace HB := Bw.sw w hb; clear hb; have hcv := HCV.out; simp only [Act.put, List.setIfInBounds_toArray, List.set_cons_zero, List.set_cons_succ])
    | ((with_reducible refine gate_dst (N := 44) rfl ?_); refine gg (some 44) rfl rfl rfl frC2 ?_; refine onc (csuf2 A3 c3 p1 s1 _ 34 _ HS.out (by have := LP.out; omega) M3.out R3.out BP.out (by decide)) rfl ?_; rintro e w5 ⟨rfl, hb, r4⟩; refine ⟨_, rfl, ?_⟩; have R4 := Aside0.mk r4; clear r4; replace R2 := Aside0.mk (Kd.C_below R2.out hb); replace HB := Bw.sw w hb; clear hb; have hcv := HCV.out; have hcs := Kd.C_string (P := Tryd.prog) (A := A1) (c := c1) Tryd.underlying22 Tryd.underlying5 Tryd.underlying9 R2.out; simp only [Act.put, List.setIfInBounds_toArray, List.set_cons_zero, List.set_cons_succ])
    | ((with_reducible refine gate_dst (N := 65) rfl ?_); refine gg (some 65) rfl rfl rfl frC5 ?_; refine onc (atoi_no i1 LI.out HV.out _ (TB.b HB.out)) rfl ?_; rintro e w6 ⟨v, t, p, rfl, hb⟩; refine ⟨_, rfl, ?_⟩; replace R2 := Aside0.mk (Kd.C_below R2.out hb); replace HB := Bw.sw w hb; clear hb; have hcv := HCV.out; simp only [Act.put, List.setIfInBounds_toArray, List.set_cons_zero, List.set_cons_succ]))
  have RC : CU _ A1 i1 := ⟨R2.out⟩
  have hdr : Below w6.heap.size w6 w6.drew := below_drew1 (Below.refl _ _)
  refine start_ (n := 17) (S := fun w' => CU w' A1 i1) (ds := []) #[false, false, false, false, false, false, false, false, false, false, false, false, false, false, false, false, false] (by kernel_rfl) rfl rfl (RC.b hdr) (fun hH => ?_)
  generalize w6.drew = wd at hdr hH ⊢
  replace RC := RC.b hdr
  replace HB := Bw.sw w hdr
  clear hdr
  refine pure_ (i := 0) (N := some 68) (v := ?_) (a' := ?_) #[true, false, false, false, false, false, false, false, false, false, false, false, false, false, false, false, false] rfl rfl (by kernel_rfl) (fun _ _ _ h => h) (Or.inl ⟨by rfl, ?_⟩) ?_ ?_
  rotate_left
  ·intro w'
   go_simp
   with_reducible rfl
  rotate_left
  ·simp only [Act.put, List.setIfInBounds_toArray, List.set_cons_zero, List.set_cons_succ, i64_w, i32_w]
   rfl
  refine pure_ (i := 1) (N := some 69) (v := ?_) (a' := ?_) #[true, true, false, false, false, false, false, false, false, false, false, false, false, false, false, false, false] rfl rfl (by kernel_rfl) (fun _ _ _ h => h) (Or.inl ⟨by rfl, ?_⟩) ?_ ?_
  rotate_left
  ·intro w'
   go_simp
   with_reducible rfl
  rotate_left
  ·simp only [Act.put, List.setIfInBounds_toArray, List.set_cons_zero, List.set_cons_succ, i64_w, i32_w]
   rfl
  refine pure_ (i := 2) (N := some 70) (v := ?_) (a' := ?_) #[true, true, true, false, false, false, false, false, false, false, false, false, false, false, false, false, false] rfl rfl (by kernel_rfl) (fun _ _ _ h => h) (Or.inl ⟨by rfl, ?_⟩) ?_ ?_
  rotate_left
  ·intro w'
   go_simp
   with_reducible rfl
  rotate_left
  ·simp only [Act.put, List.setIfInBounds_toArray, List.set_cons_zero, List.set_cons_succ, i64_w, i32_w]
   rfl
  refine pure_ (i := 3) (N := some 71) (v := ?_) (a' := ?_) #[true, true, true, true, false, false, false, false, false, false, false, false, false, false, false, false, false] rfl rfl (by kernel_rfl) (fun _ _ _ h => h) (Or.inl ⟨by rfl, ?_⟩) ?_ ?_
  rotate_left
  ·intro w'
   go_simp
   with_reducible rfl
  rotate_left
  ·simp only [Act.put, List.setIfInBounds_toArray, List.set_cons_zero, List.set_cons_succ, i64_w, i32_w]
   rfl
  refine pure_ (i := 4) (N := some 72) (v := ?_) (a' := ?_) #[true, true, true, true, true, false, false, false, false, false, false, false, false, false, false, false, false] rfl rfl (by kernel_rfl) (fun _ _ _ h => h) (Or.inl ⟨by rfl, ?_⟩) ?_ ?_
  rotate_left
  ·intro w'
   go_simp
   with_reducible rfl
  rotate_left
  ·simp only [Act.put, List.setIfInBounds_toArray, List.set_cons_zero, List.set_cons_succ, i64_w, i32_w]
   rfl
  refine pure_ (i := 5) (N := some 73) (v := ?_) (a' := ?_) #[true, true, true, true, true, true, false, false, false, false, false, false, false, false, false, false, false] rfl rfl (by kernel_rfl) (fun _ _ _ h => h) (Or.inl ⟨by rfl, ?_⟩) ?_ ?_
  rotate_left
  ·intro w'
   go_simp
   with_reducible rfl
  rotate_left
  ·simp only [Act.put, List.setIfInBounds_toArray, List.set_cons_zero, List.set_cons_succ, i64_w, i32_w]
   rfl
  refine pure_ (i := 6) (N := some 74) (v := undef) (a' := ?_) #[true, true, true, true, true, true, true, false, false, false, false, false, false, false, false, false, false] rfl rfl (by kernel_rfl) (fun _ _ _ h => h) (Or.inr ⟨by rfl, rfl⟩) ?_ ?_
  rotate_left
  ·simp only [Act.put, List.setIfInBounds_toArray, List.set_cons_zero, List.set_cons_succ, i64_w, i32_w]
   rfl
  refine pure_ (i := 7) (N := some 75) (v := undef) (a' := ?_) #[true, true, true, true, true, true, true, true, false, false, false, false, false, false, false, false, false] rfl rfl (by kernel_rfl) (fun _ _ _ h => h) (Or.inr ⟨by rfl, rfl⟩) ?_ ?_
  rotate_left
  ·simp only [Act.put, List.setIfInBounds_toArray, List.set_cons_zero, List.set_cons_succ, i64_w, i32_w]
   rfl
  refine pure_ (i := 8) (N := some 76) (v := ?_) (a' := ?_) #[true, true, true, true, true, true, true, true, true, false, false, false, false, false, false, false, false] rfl rfl (by kernel_rfl) (fun _ _ _ h => h) (Or.inl ⟨by rfl, ?_⟩) ?_ ?_
  rotate_left
  ·intro w'
   go_simp
   with_reducible rfl
  rotate_left
  ·simp only [Act.put, List.setIfInBounds_toArray, List.set_cons_zero, List.set_cons_succ, i64_w, i32_w]
   rfl
  refine pure_ (i := 9) (N := some 77) (v := ?_) (a' := ?_) #[true, true, true, true, true, true, true, true, true, true, false, false, false, false, false, false, false] rfl rfl (by kernel_rfl) (fun _ _ _ h => h) (Or.inl ⟨by rfl, ?_⟩) ?_ ?_
  rotate_left
  ·intro w'
   go_simp
   with_reducible rfl
  rotate_left
  ·simp only [Act.put, List.setIfInBounds_toArray, List.set_cons_zero, List.set_cons_succ, i64_w, i32_w]
   rfl
  refine pure_ (i := 10) (N := some 78) (v := undef) (a' := ?_) #[true, true, true, true, true, true, true, true, true, true, true, false, false, false, false, false, false] rfl rfl (by kernel_rfl) (fun _ _ _ h => h) (Or.inr ⟨by rfl, rfl⟩) ?_ ?_
  rotate_left
  ·simp only [Act.put, List.setIfInBounds_toArray, List.set_cons_zero, List.set_cons_succ, i64_w, i32_w]
   rfl
  refine pure_ (i := 11) (N := some 79) (v := undef) (a' := ?_) #[true, true, true, true, true, true, true, true, true, true, true, true, false, false, false, false, false] rfl rfl (by kernel_rfl) (fun _ _ _ h => h) (Or.inr ⟨by rfl, rfl⟩) ?_ ?_
  rotate_left
  ·simp only [Act.put, List.setIfInBounds_toArray, List.set_cons_zero, List.set_cons_succ, i64_w, i32_w]
   rfl
  refine pure_ (i := 12) (N := some 80) (v := undef) (a' := ?_) #[true, true, true, true, true, true, true, true, true, true, true, true, true, false, false, false, false] rfl rfl (by kernel_rfl) (fun _ _ _ h => h) (Or.inr ⟨by rfl, rfl⟩) ?_ ?_
  rotate_left
  ·simp only [Act.put, List.setIfInBounds_toArray, List.set_cons_zero, List.set_cons_succ, i64_w, i32_w]
   rfl
  refine pure_ (i := 13) (N := some 81) (v := undef) (a' := ?_) #[true, true, true, true, true, true, true, true, true, true, true, true, true, true, false, false, false] rfl rfl (by kernel_rfl) (fun _ _ _ h => h) (Or.inr ⟨by rfl, rfl⟩) ?_ ?_
  rotate_left
  ·simp only [Act.put, List.setIfInBounds_toArray, List.set_cons_zero, List.set_cons_succ, i64_w, i32_w]
   rfl
  refine pure_ (i := 14) (N := some 82) (v := undef) (a' := ?_) #[true, true, true, true, true, true, true, true, true, true, true, true, true, true, true, false, false] rfl rfl (by kernel_rfl) (fun _ _ _ h => h) (Or.inr ⟨by rfl, rfl⟩) ?_ ?_
  rotate_left
  ·simp only [Act.put, List.setIfInBounds_toArray, List.set_cons_zero, List.set_cons_succ, i64_w, i32_w]
   rfl
  refine pure_ (i := 15) (N := some 83) (v := ?_) (a' := ?_) #[true, true, true, true, true, true, true, true, true, true, true, true, true, true, true, true, false] rfl rfl (by kernel_rfl) (fun _ _ _ h => h) (Or.inl ⟨by rfl, ?_⟩) ?_ ?_
  rotate_left
  ·intro w'
   go_simp
   with_reducible rfl
  rotate_left
  ·simp only [Act.put, List.setIfInBounds_toArray, List.set_cons_zero, List.set_cons_succ, i64_w, i32_w]
   rfl
  refine pure_ (i := 16) (N := some 2) (v := ?_) (a' := ?_) #[true, true, true, true, true, true, true, true, true, true, true, true, true, true, true, true, true] rfl rfl (by kernel_rfl) (fun _ _ _ h => h) (Or.inl ⟨by rfl, ?_⟩) ?_ ?_
  rotate_left
  ·intro w'
   go_simp
   with_reducible rfl
  rotate_left
  ·simp only [Act.put, List.setIfInBounds_toArray, List.set_cons_zero, List.set_cons_succ, i64_w, i32_w]
   rfl
  refine done_ (by kernel_rfl) ?_
  try go_wp2
  go_ret
  exact ⟨rfl, HB.out⟩
set_option maxRecDepth 100000 in
set_option maxHeartbeats 8000000 in
theorem isAddr_out (k : Nat) (A : Option Addr) (c : Nat) (l : List Int) (j : Nat) (w : World) (hn : l.length ≤ 1048576) (hc : l.length ≤ c) (h : (Kd.int .u8).C w A l.length l) (hb : By l) (hp : posB l = j) (hj : j < l.length) (la lb : List Int) (ea : l.take j = la) (eb : l.drop (j + 1) = lb) (hf : impl_isName.f k la = some true) (i1 p1 s1 : List Int) (hi : cutS lb 93 = (i1, true)) (hpp : cutP i1 34 = (p1, false)) (hs : cutS p1 34 = (s1, false)) (TB : Tb w) (v : Int) (hv : Lib.atoiAll (strOfNums i1).data.toList = .ok v) (dv : decide (0 ≤ v ∧ v ≤ 99) = false) : Calls Tryd.prog 35 #[.slice A l.length c] w fun e w' => e = .returned (.bool false) ∧ Below w.heap.size w w' := by
  have hcv := fun (w' : World) (x : Int) => Lib.run_convert_bytes_const (P := Tryd.prog) w' 22 5 #[.int .u8 x] 1 1 Tryd.underlying22 Tryd.underlying5
  have HCV := Aside0.mk hcv
  have G1 := Aside0.mk h
  have L1 := Aside0.mk hc
  have BY := Aside0.mk hb
  have HB := Bw.refl w
  clear h hc hb hcv
  have hcv := HCV.out
  have P0 := Aside0.mk hp
  have PJ := Aside0.mk hj
  have EA := Aside0.mk ea
  have EB := Aside0.mk eb
  have LT := Aside0.mk (show la.length ≤ c by rw [← ea, List.length_take]; have := L1.out; omega)
  have G2 := Aside0.mk (show (Kd.int .u8).C w A la.length la by rw [← ea]; exact Kd.C_take (m := j) G1.out (by omega))
  have LD := Aside0.mk (show lb.length ≤ 1048576 by rw [← eb, List.length_drop]; omega)
  have BD := Aside0.mk (show By lb by rw [← eb]; exact By_drop (j + 1) BY.out)
  clear hp hj ea eb
  have T := Aside0.mk hf
  have HI := Aside0.mk hi
  have HP := Aside0.mk hpp
  have HS := Aside0.mk hs
  have LI := Aside0.mk (show i1.length ≤ 1048576 from Nat.le_trans (cutS_facts hi).1 LD.out)
  have BI := Aside0.mk ((cutS_facts hi).2 BD.out)
  have LP := Aside0.mk (show p1.length ≤ 1048576 from Nat.le_trans (cutP_facts hpp).1 LI.out)
  have BP := Aside0.mk ((cutP_facts hpp).2 BI.out)
  have LS := Aside0.mk (show s1.length ≤ p1.length from (cutS_facts hs).1)
  have LI0 := Aside0.mk (cutS_facts hi).1
  clear hf hi hpp hs
  have HV := Aside0.mk hv
  have DV := Aside0.mk dv
  clear hv dv
  go_enter Tryd.func35, Tryd.ntmps35
  go_wp2_with (first
    | ((with_reducible refine gate_dst (N := 17) rfl ?_); refine gg (some 17) rfl rfl rfl frC1 ?_; refine onc (cut_yes2 A c l la lb j _ EA.out EB.out P0.out PJ.out (by omega) L1.out (cb G1)) rfl ?_; rintro e w1 ⟨A1, c1, rfl, hb, m1, r1⟩; refine ⟨_, rfl, ?_⟩; have R1 := Aside0.mk r1; have M1 := Aside0.mk m1; clear r1 m1; replace HB := Bw.sw w hb; clear hb; have hcv := HCV.out; simp only [Act.put, List.setIfInBounds_toArray, List.set_cons_zero, List.set_cons_succ])
    | ((with_reducible refine gate_dst (N := 22) rfl ?_); refine gg (some 22) rfl rfl rfl frC4 ?_; refine onc (isName_b k _ _ la true _ (cb G2) LT.out T.out) rfl ?_; rintro e w2 ⟨rfl, hb⟩; refine ⟨_, rfl, ?_⟩; replace R1 := Aside0.mk (Kd.C_below R1.out hb); replace HB := Bw.sw w hb; clear hb; have hcv := HCV.out; simp only [Act.put, List.setIfInBounds_toArray, List.set_cons_zero, List.set_cons_succ])
    | ((with_reducible refine gate_dst (N := 30) rfl ?_); refine gg (some 30) rfl rfl rfl frC2 ?_; refine onc (csuf2 A1 c1 lb i1 _ 93 _ HI.out (by have := LD.out; omega) M1.out R1.out BD.out (by decide)) rfl ?_; rintro e w3 ⟨rfl, hb, r2⟩; refine ⟨_, rfl, ?_⟩; have R2 := Aside0.mk r2; clear r2; have MI := Aside0.mk (Nat.le_trans LI0.out M1.out); replace HB := Bw.sw w hb; clear hb; have hcv := HCV.out; simp only [Act.put, List.setIfInBounds_toArray, List.set_cons_zero, List.set_cons_succ])
    | ((with_reducible refine gate_dst (N := 37) rfl ?_); refine gg (some 37) rfl rfl rfl frC3 ?_; refine onc (cpre2 A1 c1 i1 p1 _ 34 _ HP.out (by have := LI.out; omega) MI.out R2.out BI.out (by decide)) rfl ?_; rintro e w4 ⟨A3, c3, rfl, hb, m3, r3⟩; refine ⟨_, rfl, ?_⟩; have R3 := Aside0.mk r3; have M3 := Aside0.mk m3; clear r3 m3; replace R2 := Aside0.mk (Kd.C_below R2.out hb); replace HB := Bw.sw w hb; clear hb; have hcv := HCV.out; simp only [Act.put, List.setIfInBounds_toArray, List.set_cons_zero, List.set_cons_succ])
    | ((with_reducible refine gate_dst (N := 44) rfl ?_); refine gg (some 44) rfl rfl rfl frC2 ?_; refine onc (csuf2 A3 c3 p1 s1 _ 34 _ HS.out (by have := LP.out; omega) M3.out R3.out BP.out (by decide)) rfl ?_; rintro e w5 ⟨rfl, hb, r4⟩; refine ⟨_, rfl, ?_⟩; have R4 := Aside0.mk r4; clear r4; replace R2 := Aside0.mk (Kd.C_below R2.out hb); replace HB := Bw.sw w hb; clear hb; have hcv := HCV.out; have hcs := Kd.C_string (P := Tryd.prog) (A := A1) (c := c1) Tryd.underlying22 Tryd.underlying5 Tryd.underlying9 R2.out; simp only [Act.put, List.setIfInBounds_toArray, List.set_cons_zero, List.set_cons_succ])
    | ((with_reducible refine gate_dst (N := 65) rfl ?_); refine gg (some 65) rfl rfl rfl frC5 ?_; refine onc (atoi_ok i1 LI.out v HV.out _) rfl ?_; rintro e w6 ⟨rfl, hb⟩; refine ⟨_, rfl, ?_⟩; replace R2 := Aside0.mk (Kd.C_below R2.out hb); replace HB := Bw.sw w hb; clear hb; have hcv := HCV.out; simp only [Act.put, List.setIfInBounds_toArray, List.set_cons_zero, List.set_cons_succ]))
  have RC : CU _ A1 i1 := ⟨R2.out⟩
  have hdr : Below w6.heap.size w6 w6.drew := below_drew1 (Below.refl _ _)
  refine start_ (n := 17) (S := fun w' => CU w' A1 i1) (ds := []) #[false, false, false, false, false, false, false, false, false, false, false, false, false, false, false, false, false] (by kernel_rfl) rfl rfl (RC.b hdr) (fun hH => ?_)
  generalize w6.drew = wd at hdr hH ⊢
  replace RC := RC.b hdr
  replace HB := Bw.sw w hdr
  clear hdr
  refine pure_ (i := 0) (N := some 68) (v := ?_) (a' := ?_) #[true, false, false, false, false, false, false, false, false, false, false, false, false, false, false, false, false] rfl rfl (by kernel_rfl) (fun _ _ _ h => h) (Or.inl ⟨by rfl, ?_⟩) ?_ ?_
  rotate_left
  ·intro w'
   go_simp
   with_reducible rfl
  rotate_left
  ·simp only [Act.put, List.setIfInBounds_toArray, List.set_cons_zero, List.set_cons_succ, i64_w, i32_w]
   rfl
  refine pure_ (i := 1) (N := some 69) (v := ?_) (a' := ?_) #[true, true, false, false, false, false, false, false, false, false, false, false, false, false, false, false, false] rfl rfl (by kernel_rfl) (fun _ _ _ h => h) (Or.inl ⟨by rfl, ?_⟩) ?_ ?_
  rotate_left
  ·intro w'
   go_simp
   with_reducible rfl
  rotate_left
  ·simp only [Act.put, List.setIfInBounds_toArray, List.set_cons_zero, List.set_cons_succ, i64_w, i32_w]
   rfl
  refine pure_ (i := 2) (N := some 70) (v := ?_) (a' := ?_) #[true, true, true, false, false, false, false, false, false, false, false, false, false, false, false, false, false] rfl rfl (by kernel_rfl) (fun _ _ _ h => h) (Or.inl ⟨by rfl, ?_⟩) ?_ ?_
  rotate_left
  ·intro w'
   go_simp
   with_reducible rfl
  rotate_left
  ·simp only [Act.put, List.setIfInBounds_toArray, List.set_cons_zero, List.set_cons_succ, i64_w, i32_w]
   rfl
  refine pure_ (i := 3) (N := some 71) (v := ?_) (a' := ?_) #[true, true, true, true, false, false, false, false, false, false, false, false, false, false, false, false, false] rfl rfl (by kernel_rfl) (fun _ _ _ h => h) (Or.inl ⟨by rfl, ?_⟩) ?_ ?_
  rotate_left
  ·intro w'
   go_simp
   with_reducible rfl
  rotate_left
  ·simp only [Act.put, List.setIfInBounds_toArray, List.set_cons_zero, List.set_cons_succ, i64_w, i32_w]
   rfl
  refine pure_ (i := 4) (N := some 72) (v := ?_) (a' := ?_) #[true, true, true, true, true, false, false, false, false, false, false, false, false, false, false, false, false] rfl rfl (by kernel_rfl) (fun _ _ _ h => h) (Or.inl ⟨by rfl, ?_⟩) ?_ ?_
  rotate_left
  ·intro w'
   go_simp
   with_reducible rfl
  rotate_left
  ·simp only [Act.put, List.setIfInBounds_toArray, List.set_cons_zero, List.set_cons_succ, i64_w, i32_w]
   rfl
  refine pure_ (i := 5) (N := some 73) (v := ?_) (a' := ?_) #[true, true, true, true, true, true, false, false, false, false, false, false, false, false, false, false, false] rfl rfl (by kernel_rfl) (fun _ _ _ h => h) (Or.inl ⟨by rfl, ?_⟩) ?_ ?_
  rotate_left
  ·intro w'
   go_simp
   with_reducible rfl
  rotate_left
  ·simp only [Act.put, List.setIfInBounds_toArray, List.set_cons_zero, List.set_cons_succ, i64_w, i32_w]
   rfl
  refine pure_ (i := 6) (N := some 74) (v := ?_) (a' := ?_) #[true, true, true, true, true, true, true, false, false, false, false, false, false, false, false, false, false] rfl rfl (by kernel_rfl) (fun _ _ _ h => h) (Or.inl ⟨by rfl, ?_⟩) ?_ ?_
  rotate_left
  ·intro w'
   go_simp
   with_reducible rfl
  rotate_left
  ·simp only [Act.put, List.setIfInBounds_toArray, List.set_cons_zero, List.set_cons_succ, i64_w, i32_w]
   rfl
  refine one_ (i := 7) (N := some 75) #[true, true, true, true, true, true, true, true, false, false, false, false, false, false, false, false, false] rfl rfl (by kernel_rfl) (by decide) (fun K hK => ?_)
  refine goes_ Tryd.func47 (by kernel_rfl) rfl #[.int .i64 v, .int .i64 0, .int .i64 99] (by rfl) rfl rfl (by (try simp only [List.map_toArray, List.map_cons, List.map_nil]); first | done | rfl) ?_
  refine (in_b v _).mono ?_
  rintro e we ⟨rfl, hb⟩
  rw [DV.out]
  refine ⟨_, rfl, ?_⟩
  replace RC := RC.b hb
  replace HB := Bw.sw w hb
  clear hb
  refine hK.out _ _ RC (fun hH => ?_)
  clear hK K
  refine norm_ (a' := ?_) ?_ ?_
  rotate_left
  ·show Act.put _ (some 75) _ = _
   simp only [Act.put, List.setIfInBounds_toArray, List.set_cons_zero, List.set_cons_succ, i64_w, i32_w]
   rfl
  refine pure_ (i := 8) (N := some 76) (v := ?_) (a' := ?_) #[true, true, true, true, true, true, true, true, true, false, false, false, false, false, false, false, false] rfl rfl (by kernel_rfl) (fun _ _ _ h => h) (Or.inl ⟨by rfl, ?_⟩) ?_ ?_
  rotate_left
  ·intro w'
   go_simp
   with_reducible rfl
  rotate_left
  ·simp only [Act.put, List.setIfInBounds_toArray, List.set_cons_zero, List.set_cons_succ, i64_w, i32_w]
   rfl
  refine pure_ (i := 9) (N := some 77) (v := ?_) (a' := ?_) #[true, true, true, true, true, true, true, true, true, true, false, false, false, false, false, false, false] rfl rfl (by kernel_rfl) (fun _ _ _ h => h) (Or.inl ⟨by rfl, ?_⟩) ?_ ?_
  rotate_left
  ·intro w'
   go_simp
   with_reducible rfl
  rotate_left
  ·simp only [Act.put, List.setIfInBounds_toArray, List.set_cons_zero, List.set_cons_succ, i64_w, i32_w]
   rfl
  refine pure_ (i := 10) (N := some 78) (v := undef) (a' := ?_) #[true, true, true, true, true, true, true, true, true, true, true, false, false, false, false, false, false] rfl rfl (by kernel_rfl) (fun _ _ _ h => h) (Or.inr ⟨by rfl, rfl⟩) ?_ ?_
  rotate_left
  ·simp only [Act.put, List.setIfInBounds_toArray, List.set_cons_zero, List.set_cons_succ, i64_w, i32_w]
   rfl
  refine pure_ (i := 11) (N := some 79) (v := undef) (a' := ?_) #[true, true, true, true, true, true, true, true, true, true, true, true, false, false, false, false, false] rfl rfl (by kernel_rfl) (fun _ _ _ h => h) (Or.inr ⟨by rfl, rfl⟩) ?_ ?_
  rotate_left
  ·simp only [Act.put, List.setIfInBounds_toArray, List.set_cons_zero, List.set_cons_succ, i64_w, i32_w]
   rfl
  refine pure_ (i := 12) (N := some 80) (v := undef) (a' := ?_) #[true, true, true, true, true, true, true, true, true, true, true, true, true, false, false, false, false] rfl rfl (by kernel_rfl) (fun _ _ _ h => h) (Or.inr ⟨by rfl, rfl⟩) ?_ ?_
  rotate_left
  ·simp only [Act.put, List.setIfInBounds_toArray, List.set_cons_zero, List.set_cons_succ, i64_w, i32_w]
   rfl
  refine pure_ (i := 13) (N := some 81) (v := undef) (a' := ?_) #[true, true, true, true, true, true, true, true, true, true, true, true, true, true, false, false, false] rfl rfl (by kernel_rfl) (fun _ _ _ h => h) (Or.inr ⟨by rfl, rfl⟩) ?_ ?_
  rotate_left
  ·simp only [Act.put, List.setIfInBounds_toArray, List.set_cons_zero, List.set_cons_succ, i64_w, i32_w]
   rfl
  refine pure_ (i := 14) (N := some 82) (v := undef) (a' := ?_) #[true, true, true, true, true, true, true, true, true, true, true, true, true, true, true, false, false] rfl rfl (by kernel_rfl) (fun _ _ _ h => h) (Or.inr ⟨by rfl, rfl⟩) ?_ ?_
  rotate_left
  ·simp only [Act.put, List.setIfInBounds_toArray, List.set_cons_zero, List.set_cons_succ, i64_w, i32_w]
   rfl
  refine pure_ (i := 15) (N := some 83) (v := ?_) (a' := ?_) #[true, true, true, true, true, true, true, true, true, true, true, true, true, true, true, true, false] rfl rfl (by kernel_rfl) (fun _ _ _ h => h) (Or.inl ⟨by rfl, ?_⟩) ?_ ?_
  rotate_left
  ·intro w'
   go_simp
   with_reducible rfl
  rotate_left
  ·simp only [Act.put, List.setIfInBounds_toArray, List.set_cons_zero, List.set_cons_succ, i64_w, i32_w]
   rfl
  refine pure_ (i := 16) (N := some 2) (v := ?_) (a' := ?_) #[true, true, true, true, true, true, true, true, true, true, true, true, true, true, true, true, true] rfl rfl (by kernel_rfl) (fun _ _ _ h => h) (Or.inl ⟨by rfl, ?_⟩) ?_ ?_
  rotate_left
  ·intro w'
   go_simp
   with_reducible rfl
  rotate_left
  ·simp only [Act.put, List.setIfInBounds_toArray, List.set_cons_zero, List.set_cons_succ, i64_w, i32_w]
   rfl
  refine done_ (by kernel_rfl) ?_
  try go_wp2
  go_ret
  exact ⟨rfl, HB.out⟩
set_option maxRecDepth 100000 in
set_option maxHeartbeats 8000000 in
theorem isAddr_yes (k : Nat) (A : Option Addr) (c : Nat) (l : List Int) (j : Nat) (w : World) (hn : l.length ≤ 1048576) (hc : l.length ≤ c) (h : (Kd.int .u8).C w A l.length l) (hb : By l) (hp : posB l = j) (hj : j < l.length) (la lb : List Int) (ea : l.take j = la) (eb : l.drop (j + 1) = lb) (hf : impl_isName.f k la = some true) (i1 p1 s1 : List Int) (hi : cutS lb 93 = (i1, true)) (hpp : cutP i1 34 = (p1, false)) (hs : cutS p1 34 = (s1, false)) (TB : Tb w) (v : Int) (hv : Lib.atoiAll (strOfNums i1).data.toList = .ok v) (n : Nat) (hn9 : n < 100) (en : v = n) (r : Bool) (hr : (Lib.decDigits n == (strOfNums i1).toList) = r) : Calls Tryd.prog 35 #[.slice A l.length c] w fun e w' => e = .returned (.bool r) ∧ Below w.heap.size w w' := by
  have hcv := fun (w' : World) (x : Int) => Lib.run_convert_bytes_const (P := Tryd.prog) w' 22 5 #[.int .u8 x] 1 1 Tryd.underlying22 Tryd.underlying5
  have HCV := Aside0.mk hcv
  have G1 := Aside0.mk h
  have L1 := Aside0.mk hc
  have BY := Aside0.mk hb
  have HB := Bw.refl w
  clear h hc hb hcv
  have hcv := HCV.out
  have P0 := Aside0.mk hp
  have PJ := Aside0.mk hj
  have EA := Aside0.mk ea
  have EB := Aside0.mk eb
  have LT := Aside0.mk (show la.length ≤ c by rw [← ea, List.length_take]; have := L1.out; omega)
  have G2 := Aside0.mk (show (Kd.int .u8).C w A la.length la by rw [← ea]; exact Kd.C_take (m := j) G1.out (by omega))
  have LD := Aside0.mk (show lb.length ≤ 1048576 by rw [← eb, List.length_drop]; omega)
  have BD := Aside0.mk (show By lb by rw [← eb]; exact By_drop (j + 1) BY.out)
  clear hp hj ea eb
  have T := Aside0.mk hf
  have HI := Aside0.mk hi
  have HP := Aside0.mk hpp
  have HS := Aside0.mk hs
  have LI := Aside0.mk (show i1.length ≤ 1048576 from Nat.le_trans (cutS_facts hi).1 LD.out)
  have BI := Aside0.mk ((cutS_facts hi).2 BD.out)
  have LP := Aside0.mk (show p1.length ≤ 1048576 from Nat.le_trans (cutP_facts hpp).1 LI.out)
  have BP := Aside0.mk ((cutP_facts hpp).2 BI.out)
  have LS := Aside0.mk (show s1.length ≤ p1.length from (cutS_facts hs).1)
  have LI0 := Aside0.mk (cutS_facts hi).1
  clear hf hi hpp hs
  subst en
  have HV := Aside0.mk hv
  have HR := Aside0.mk hr
  have DV := Aside0.mk (show decide (0 ≤ (n : Int) ∧ (n : Int) ≤ 99) = true from decide_eq_true ⟨by omega, by omega⟩)
  have HNN := Aside0.mk hn9
  clear hv hr hn9
  go_enter Tryd.func35, Tryd.ntmps35
  go_wp2_with (first
    | ((with_reducible refine gate_dst (N := 17) rfl ?_); refine gg (some 17) rfl rfl rfl frC1 ?_; refine onc (cut_yes2 A c l la lb j _ EA.out EB.out P0.out PJ.out (by omega) L1.out (cb G1)) rfl ?_; rintro e w1 ⟨A1, c1, rfl, hb, m1, r1⟩; refine ⟨_, rfl, ?_⟩; have R1 := Aside0.mk r1; have M1 := Aside0.mk m1; clear r1 m1; replace HB := Bw.sw w hb; clear hb; have hcv := HCV.out; simp only [Act.put, List.setIfInBounds_toArray, List.set_cons_zero, List.set_cons_succ])
    | ((with_reducible refine gate_dst (N := 22) rfl ?_); refine gg (some 22) rfl rfl rfl frC4 ?_; refine onc (isName_b k _ _ la true _ (cb G2) LT.out T.out) rfl ?_; rintro e w2 ⟨rfl, hb⟩; refine ⟨_, rfl, ?_⟩; replace R1 := Aside0.mk (Kd.C_below R1.out hb); replace HB := Bw.sw w hb; clear hb; have hcv := HCV.out; simp only [Act.put, List.setIfInBounds_toArray, List.set_cons_zero, List.set_cons_succ])
    | ((with_reducible refine gate_dst (N := 30) rfl ?_); refine gg (some 30) rfl rfl rfl frC2 ?_; refine onc (csuf2 A1 c1 lb i1 _ 93 _ HI.out (by have := LD.out; omega) M1.out R1.out BD.out (by decide)) rfl ?_; rintro e w3 ⟨rfl, hb, r2⟩; refine ⟨_, rfl, ?_⟩; have R2 := Aside0.mk r2; clear r2; have MI := Aside0.mk (Nat.le_trans LI0.out M1.out); replace HB := Bw.sw w hb; clear hb; have hcv := HCV.out; simp only [Act.put, List.setIfInBounds_toArray, List.set_cons_zero, List.set_cons_succ])
    | ((with_reducible refine gate_dst (N := 37) rfl ?_); refine gg (some 37) rfl rfl rfl frC3 ?_; refine onc (cpre2 A1 c1 i1 p1 _ 34 _ HP.out (by have := LI.out; omega) MI.out R2.out BI.out (by decide)) rfl ?_; rintro e w4 ⟨A3, c3, rfl, hb, m3, r3⟩; refine ⟨_, rfl, ?_⟩; have R3 := Aside0.mk r3; have M3 := Aside0.mk m3; clear r3 m3; replace R2 := Aside0.mk (Kd.C_below R2.out hb); replace HB := Bw.sw w hb; clear hb; have hcv := HCV.out; simp only [Act.put, List.setIfInBounds_toArray, List.set_cons_zero, List.set_cons_succ])
    | ((with_reducible refine gate_dst (N := 44) rfl ?_); refine gg (some 44) rfl rfl rfl frC2 ?_; refine onc (csuf2 A3 c3 p1 s1 _ 34 _ HS.out (by have := LP.out; omega) M3.out R3.out BP.out (by decide)) rfl ?_; rintro e w5 ⟨rfl, hb, r4⟩; refine ⟨_, rfl, ?_⟩; have R4 := Aside0.mk r4; clear r4; replace R2 := Aside0.mk (Kd.C_below R2.out hb); replace HB := Bw.sw w hb; clear hb; have hcv := HCV.out; have hcs := Kd.C_string (P := Tryd.prog) (A := A1) (c := c1) Tryd.underlying22 Tryd.underlying5 Tryd.underlying9 R2.out; simp only [Act.put, List.setIfInBounds_toArray, List.set_cons_zero, List.set_cons_succ])
    | ((with_reducible refine gate_dst (N := 65) rfl ?_); refine gg (some 65) rfl rfl rfl frC5 ?_; refine onc (atoi_ok i1 LI.out (n : Int) HV.out _) rfl ?_; rintro e w6 ⟨rfl, hb⟩; refine ⟨_, rfl, ?_⟩; replace R2 := Aside0.mk (Kd.C_below R2.out hb); replace HB := Bw.sw w hb; clear hb; have hcv := HCV.out; simp only [Act.put, List.setIfInBounds_toArray, List.set_cons_zero, List.set_cons_succ]))
  have RC : CU _ A1 i1 := ⟨R2.out⟩
  have hdr : Below w6.heap.size w6 w6.drew := below_drew1 (Below.refl _ _)
  refine start_ (n := 17) (S := fun w' => CU w' A1 i1) (ds := []) #[false, false, false, false, false, false, false, false, false, false, false, false, false, false, false, false, false] (by kernel_rfl) rfl rfl (RC.b hdr) (fun hH => ?_)
  generalize w6.drew = wd at hdr hH ⊢
  replace RC := RC.b hdr
  replace HB := Bw.sw w hdr
  clear hdr
  refine pure_ (i := 0) (N := some 68) (v := ?_) (a' := ?_) #[true, false, false, false, false, false, false, false, false, false, false, false, false, false, false, false, false] rfl rfl (by kernel_rfl) (fun _ _ _ h => h) (Or.inl ⟨by rfl, ?_⟩) ?_ ?_
  rotate_left
  ·intro w'
   go_simp
   with_reducible rfl
  rotate_left
  ·simp only [Act.put, List.setIfInBounds_toArray, List.set_cons_zero, List.set_cons_succ, i64_w, i32_w]
   rfl
  refine pure_ (i := 1) (N := some 69) (v := ?_) (a' := ?_) #[true, true, false, false, false, false, false, false, false, false, false, false, false, false, false, false, false] rfl rfl (by kernel_rfl) (fun _ _ _ h => h) (Or.inl ⟨by rfl, ?_⟩) ?_ ?_
  rotate_left
  ·intro w'
   go_simp
   with_reducible rfl
  rotate_left
  ·simp only [Act.put, List.setIfInBounds_toArray, List.set_cons_zero, List.set_cons_succ, i64_w, i32_w]
   rfl
  refine pure_ (i := 2) (N := some 70) (v := ?_) (a' := ?_) #[true, true, true, false, false, false, false, false, false, false, false, false, false, false, false, false, false] rfl rfl (by kernel_rfl) (fun _ _ _ h => h) (Or.inl ⟨by rfl, ?_⟩) ?_ ?_
  rotate_left
  ·intro w'
   go_simp
   with_reducible rfl
  rotate_left
  ·simp only [Act.put, List.setIfInBounds_toArray, List.set_cons_zero, List.set_cons_succ, i64_w, i32_w]
   rfl
  refine pure_ (i := 3) (N := some 71) (v := ?_) (a' := ?_) #[true, true, true, true, false, false, false, false, false, false, false, false, false, false, false, false, false] rfl rfl (by kernel_rfl) (fun _ _ _ h => h) (Or.inl ⟨by rfl, ?_⟩) ?_ ?_
  rotate_left
  ·intro w'
   go_simp
   with_reducible rfl
  rotate_left
  ·simp only [Act.put, List.setIfInBounds_toArray, List.set_cons_zero, List.set_cons_succ, i64_w, i32_w]
   rfl
  refine pure_ (i := 4) (N := some 72) (v := ?_) (a' := ?_) #[true, true, true, true, true, false, false, false, false, false, false, false, false, false, false, false, false] rfl rfl (by kernel_rfl) (fun _ _ _ h => h) (Or.inl ⟨by rfl, ?_⟩) ?_ ?_
  rotate_left
  ·intro w'
   go_simp
   with_reducible rfl
  rotate_left
  ·simp only [Act.put, List.setIfInBounds_toArray, List.set_cons_zero, List.set_cons_succ, i64_w, i32_w]
   rfl
  refine pure_ (i := 5) (N := some 73) (v := ?_) (a' := ?_) #[true, true, true, true, true, true, false, false, false, false, false, false, false, false, false, false, false] rfl rfl (by kernel_rfl) (fun _ _ _ h => h) (Or.inl ⟨by rfl, ?_⟩) ?_ ?_
  rotate_left
  ·intro w'
   go_simp
   with_reducible rfl
  rotate_left
  ·simp only [Act.put, List.setIfInBounds_toArray, List.set_cons_zero, List.set_cons_succ, i64_w, i32_w]
   rfl
  refine pure_ (i := 6) (N := some 74) (v := ?_) (a' := ?_) #[true, true, true, true, true, true, true, false, false, false, false, false, false, false, false, false, false] rfl rfl (by kernel_rfl) (fun _ _ _ h => h) (Or.inl ⟨by rfl, ?_⟩) ?_ ?_
  rotate_left
  ·intro w'
   go_simp
   with_reducible rfl
  rotate_left
  ·simp only [Act.put, List.setIfInBounds_toArray, List.set_cons_zero, List.set_cons_succ, i64_w, i32_w]
   rfl
  refine one_ (i := 7) (N := some 75) #[true, true, true, true, true, true, true, true, false, false, false, false, false, false, false, false, false] rfl rfl (by kernel_rfl) (by decide) (fun K hK => ?_)
  refine goes_ Tryd.func47 (by kernel_rfl) rfl #[.int .i64 (n : Int), .int .i64 0, .int .i64 99] (by rfl) rfl rfl (by (try simp only [List.map_toArray, List.map_cons, List.map_nil]); first | done | rfl) ?_
  refine (in_b (n : Int) _).mono ?_
  rintro e we ⟨rfl, hb⟩
  rw [DV.out]
  refine ⟨_, rfl, ?_⟩
  replace RC := RC.b hb
  replace HB := Bw.sw w hb
  clear hb
  refine hK.out _ _ RC (fun hH => ?_)
  clear hK K
  refine norm_ (a' := ?_) ?_ ?_
  rotate_left
  ·show Act.put _ (some 75) _ = _
   simp only [Act.put, List.setIfInBounds_toArray, List.set_cons_zero, List.set_cons_succ, i64_w, i32_w]
   rfl
  refine pure_ (i := 8) (N := some 76) (v := ?_) (a' := ?_) #[true, true, true, true, true, true, true, true, true, false, false, false, false, false, false, false, false] rfl rfl (by kernel_rfl) (fun _ _ _ h => h) (Or.inl ⟨by rfl, ?_⟩) ?_ ?_
  rotate_left
  ·intro w'
   go_simp
   with_reducible rfl
  rotate_left
  ·simp only [Act.put, List.setIfInBounds_toArray, List.set_cons_zero, List.set_cons_succ, i64_w, i32_w]
   rfl
  refine pure_ (i := 9) (N := some 77) (v := ?_) (a' := ?_) #[true, true, true, true, true, true, true, true, true, true, false, false, false, false, false, false, false] rfl rfl (by kernel_rfl) (fun _ _ _ h => h) (Or.inl ⟨by rfl, ?_⟩) ?_ ?_
  rotate_left
  ·intro w'
   go_simp
   with_reducible rfl
  rotate_left
  ·simp only [Act.put, List.setIfInBounds_toArray, List.set_cons_zero, List.set_cons_succ, i64_w, i32_w]
   rfl
  refine pure_ (i := 10) (N := some 78) (v := ?_) (a' := ?_) #[true, true, true, true, true, true, true, true, true, true, true, false, false, false, false, false, false] rfl rfl (by kernel_rfl) (fun _ _ _ h => h) (Or.inl ⟨by rfl, ?_⟩) ?_ ?_
  rotate_left
  ·intro w'
   go_simp
   with_reducible rfl
  rotate_left
  ·simp only [Act.put, List.setIfInBounds_toArray, List.set_cons_zero, List.set_cons_succ, i64_w, i32_w]
   rfl
  refine pure_ (i := 12) (N := some 80) (v := ?_) (a' := ?_) #[true, true, true, true, true, true, true, true, true, true, true, false, true, false, false, false, false] rfl rfl (by kernel_rfl) (fun _ _ _ h => h) (Or.inl ⟨by rfl, ?_⟩) ?_ ?_
  rotate_left
  ·intro w'
   go_simp
   with_reducible rfl
  rotate_left
  ·simp only [Act.put, List.setIfInBounds_toArray, List.set_cons_zero, List.set_cons_succ, i64_w, i32_w]
   rfl
  refine take_ (i := 13) (N := some 81) (v := ?_) (a' := ?_) #[true, true, true, true, true, true, true, true, true, true, true, false, true, true, false, false, false] rfl rfl (by kernel_rfl) (fun _ _ _ h => h) (Or.inl ⟨by rfl, ?_⟩) hH ?_ ?_
  rotate_left
  ·rintro w' s0
   have hcs := Kd.C_string (P := Tryd.prog) (A := A1) (c := c1) Tryd.underlying22 Tryd.underlying5 Tryd.underlying9 s0.h
   go_simp
   with_reducible rfl
  rotate_left
  ·simp only [Act.put, List.setIfInBounds_toArray, List.set_cons_zero, List.set_cons_succ, i64_w, i32_w]
   rfl
  refine one_ (i := 11) (N := some 79) #[true, true, true, true, true, true, true, true, true, true, true, true, true, true, false, false, false] rfl rfl (by kernel_rfl) (by decide) (fun K hK => ?_)
  refine goes_ Tryd.func69 (by kernel_rfl) rfl #[.int .i64 (n : Int)] (by rfl) rfl rfl (by (try simp only [List.map_toArray, List.map_cons, List.map_nil]); first | done | rfl) ?_
  have hn9 := HNN.out
  refine (Any.strconv_Itoa_small (P := Tryd.prog) laysItoa n hn9 _).mono ?_
  rintro e we ⟨rfl, rfl⟩
  refine ⟨_, rfl, ?_⟩
  refine hK.out _ _ RC (fun hH => ?_)
  clear hK K
  refine norm_ (a' := ?_) ?_ ?_
  rotate_left
  ·show Act.put _ (some 79) _ = _
   simp only [Act.put, List.setIfInBounds_toArray, List.set_cons_zero, List.set_cons_succ, i64_w, i32_w]
   rfl
  refine pure_ (i := 14) (N := some 82) (v := ?_) (a' := ?_) #[true, true, true, true, true, true, true, true, true, true, true, true, true, true, true, false, false] rfl rfl (by kernel_rfl) (fun _ _ _ h => h) (Or.inl ⟨by rfl, ?_⟩) ?_ ?_
  rotate_left
  ·intro w'
   go_simp
   with_reducible rfl
  rotate_left
  ·simp only [Act.put, List.setIfInBounds_toArray, List.set_cons_zero, List.set_cons_succ, i64_w, i32_w]
   rfl
  refine pure_ (i := 15) (N := some 83) (v := ?_) (a' := ?_) #[true, true, true, true, true, true, true, true, true, true, true, true, true, true, true, true, false] rfl rfl (by kernel_rfl) (fun _ _ _ h => h) (Or.inl ⟨by rfl, ?_⟩) ?_ ?_
  rotate_left
  ·intro w'
   go_simp
   with_reducible rfl
  rotate_left
  ·simp only [Act.put, List.setIfInBounds_toArray, List.set_cons_zero, List.set_cons_succ, i64_w, i32_w]
   rfl
  refine pure_ (i := 16) (N := some 2) (v := ?_) (a' := ?_) #[true, true, true, true, true, true, true, true, true, true, true, true, true, true, true, true, true] rfl rfl (by kernel_rfl) (fun _ _ _ h => h) (Or.inl ⟨by rfl, ?_⟩) ?_ ?_
  rotate_left
  ·intro w'
   go_simp
   with_reducible rfl
  rotate_left
  ·simp only [Act.put, List.setIfInBounds_toArray, List.set_cons_zero, List.set_cons_succ, i64_w, i32_w]
   rfl
  refine done_ (by kernel_rfl) ?_
  try go_wp2
  go_ret
  exact ⟨by rw [HR.out]; rfl, HB.out⟩
end Go.Proofs.YtockllljeeakaaaDoor.PFnAddrs
