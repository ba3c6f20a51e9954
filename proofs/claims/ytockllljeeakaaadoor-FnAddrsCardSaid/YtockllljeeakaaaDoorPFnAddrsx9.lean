/- What a function comes to, walked by hand. No condition. -/
import Derived.Test.YtockllljeeakaaaDoorPFnAddrsx0
import Derived.Test.YtockllljeeakaaaDoorPFnAddrsx4
import Derived.Test.YtockllljeeakaaaDoorPFnAddrsx6
import Derived.Test.YtockllljeeakaaaDoorPFnAddrsx7
import Derived.Test.YtockllljeeakaaaDoorPFnAddrsx8
import Derived.Test.YtockllljeeakaaaDoorMkx
import Derived.Test.YtockllljeeakaaaDoorMcore
namespace Go.Proofs.YtockllljeeakaaaDoor.PFnAddrs
open Go.RowKit Go.Proofs.YtockllljeeakaaaDoorW.PrintWords Go.Proofs.YtockllljeeakaaaDoorW.PrintLast Go.Proofs.YtockllljeeakaaaDoorW.PrintMore Go.Proofs.YtockllljeeakaaaDoor.M
attribute [local go_sem] max2_int min2_int max_two min_two max_three min_three max_four min_four Go.Proofs.YtockllljeeakaaaDoor.M.str_gtr Go.Proofs.YtockllljeeakaaaDoor.M.str_leq Go.Proofs.YtockllljeeakaaaDoor.M.str_geq   -- for this text's walks alone
set_option linter.unusedVariables false
set_option linter.unusedSimpArgs false
-- KC impl_AddrName {"params":[["slice","(Kd.int .u8)",5,"List Int"]],"res":["slice","(Kd.int .u8)",5,"List Int","R"],"hasK":true,"fn":19,"f":"impl_AddrName.g","tab":true}
theorem frY : Fr Tryd.prog 41 := ⟨_, Tryd.func41, by kernel_rfl, rfl⟩
theorem cpB_eq (l : List Int) (h : l.length < 140737488355328) : impl_copyBytes.f l = some l := by
  unfold impl_copyBytes.f
  simp only [Option.bind_some, List.length_nil, Nat.zero_add, List.nil_append]
  rw [if_pos h]
def nmOf (l : List Int) : List Int := if posB l < 0 then l else l.take (posB l).toNat
def impl_AddrName.g (k : Nat) (l : List Int) : Option (List Int) := if okB l = true then (isAddr_g k l).bind fun t => if t = true then some (nmOf l) else some [] else none
set_option maxRecDepth 100000 in
set_option maxHeartbeats 8000000 in
theorem implName_no (A : Option Addr) (c : Nat) (l : List Int) (w : World) (hi : Calls Tryd.prog 35 #[.slice A l.length c] w fun e w' => e = .returned (.bool false) ∧ Below w.heap.size w w') :
    Calls Tryd.prog 19 #[.slice A l.length c] w fun e w' => e = .returned (.slice none 0 0) ∧ Below w.heap.size w w' := by
  have hcv := fun (w' : World) (x : Int) => Lib.run_convert_bytes_const (P := Tryd.prog) w' 22 5 #[.int .u8 x] 1 1 Tryd.underlying22 Tryd.underlying5
  have HCV := Aside0.mk hcv
  have HI := Aside0.mk hi
  have HB := Bw.refl w
  clear hi
  go_enter Tryd.func19, Tryd.ntmps19
  go_wp2_with (first
    | ((with_reducible refine gate_dst (N := 7) rfl ?_); refine gg (some 7) rfl rfl rfl frZ2 ?_; refine onc HI.out rfl ?_; rintro e w1 ⟨rfl, hb⟩; refine ⟨_, rfl, ?_⟩; replace HB := Bw.sw w hb; clear hb; have hcv := HCV.out; simp only [Act.put, List.setIfInBounds_toArray, List.set_cons_zero, List.set_cons_succ]))
  go_ret
  exact ⟨rfl, HB.out⟩
set_option maxRecDepth 100000 in
set_option maxHeartbeats 8000000 in
theorem implName_all (A : Option Addr) (c : Nat) (l r : List Int) (w : World) (hr : r = l) (hp : posB l < 0) (hl : l.length ≤ 1048576) (hc : l.length ≤ c) (h : (Kd.int .u8).C w A l.length l) (hi : Calls Tryd.prog 35 #[.slice A l.length c] w fun e w' => e = .returned (.bool true) ∧ Below w.heap.size w w') :
    Calls Tryd.prog 19 #[.slice A l.length c] w fun e w' => ∃ v : Value, e = .returned v ∧ Own (Kd.slice 5 (Kd.int .u8)) w' w.heap.size w'.heap.size r [v] ∧ Below w.heap.size w w' := by
  have hcv := fun (w' : World) (x : Int) => Lib.run_convert_bytes_const (P := Tryd.prog) w' 22 5 #[.int .u8 x] 1 1 Tryd.underlying22 Tryd.underlying5
  have HCV := Aside0.mk hcv
  have HI := Aside0.mk hi
  have HB := Bw.refl w
  have P0 := Aside0.mk hp
  have G1 := Aside0.mk h
  have L1 := Aside0.mk hc
  have CP := Aside0.mk (cpB_eq l (by omega))
  clear hi hp h hc hl
  go_enter Tryd.func19, Tryd.ntmps19
  go_wp2_with (first
    | ((with_reducible refine gate_dst (N := 7) rfl ?_); refine gg (some 7) rfl rfl rfl frZ2 ?_; refine onc HI.out rfl ?_; rintro e w1 ⟨rfl, hb⟩; refine ⟨_, rfl, ?_⟩; replace HB := Bw.sw w hb; clear hb; have hcv := HCV.out; simp only [Act.put, List.setIfInBounds_toArray, List.set_cons_zero, List.set_cons_succ])
    | ((with_reducible refine gate_dst (N := 13) rfl ?_); refine gg (some 13) rfl rfl rfl frC1 ?_; refine onc (cut_no2 A c l _ P0.out (cb G1)) rfl ?_; rintro e w2 ⟨rfl, hb⟩; refine ⟨_, rfl, ?_⟩; replace HB := Bw.sw w hb; clear hb; have hcv := HCV.out; simp only [Act.put, List.setIfInBounds_toArray, List.set_cons_zero, List.set_cons_succ])
    | ((with_reducible refine gate_dst (N := 18) rfl ?_); refine gg (some 18) rfl rfl rfl frY ?_; refine onc (impl_copyBytes.calls _ _ l l _ (cb G1) L1.out CP.out) rfl ?_; rintro e w3 ⟨v3, rfl, ho, hb⟩; refine ⟨_, rfl, ?_⟩; have HO3 := Aside0.mk (Kd.R_lower ho (bzz w)); replace HB := Bw.sw w hb; clear ho hb; have hcv := HCV.out; simp only [Act.put, List.setIfInBounds_toArray, List.set_cons_zero, List.set_cons_succ]))
  go_ret
  subst hr
  exact ⟨_, rfl, Own.of (ok := fun _ => True) ⟨_, rfl, HO3.out⟩ HB.out.size, HB.out⟩
set_option maxRecDepth 100000 in
set_option maxHeartbeats 8000000 in
theorem implName_cut (A : Option Addr) (c : Nat) (l la lb r : List Int) (j : Nat) (w : World) (hr : r = la) (ea : l.take j = la) (eb : l.drop (j + 1) = lb) (hp : posB l = j) (hj : j < l.length) (hl : l.length ≤ 1048576) (hc : l.length ≤ c) (h : (Kd.int .u8).C w A l.length l) (hi : Calls Tryd.prog 35 #[.slice A l.length c] w fun e w' => e = .returned (.bool true) ∧ Below w.heap.size w w') :
    Calls Tryd.prog 19 #[.slice A l.length c] w fun e w' => ∃ v : Value, e = .returned v ∧ Own (Kd.slice 5 (Kd.int .u8)) w' w.heap.size w'.heap.size r [v] ∧ Below w.heap.size w w' := by
  have hcv := fun (w' : World) (x : Int) => Lib.run_convert_bytes_const (P := Tryd.prog) w' 22 5 #[.int .u8 x] 1 1 Tryd.underlying22 Tryd.underlying5
  have HCV := Aside0.mk hcv
  have HI := Aside0.mk hi
  have HB := Bw.refl w
  have P0 := Aside0.mk hp
  have PJ := Aside0.mk hj
  have EA := Aside0.mk ea
  have EB := Aside0.mk eb
  have G1 := Aside0.mk h
  have L1 := Aside0.mk hc
  have L0 := Aside0.mk (show l.length ≤ 4611686018427387904 by omega)
  have G2 := Aside0.mk (show (Kd.int .u8).C w A la.length la by rw [← ea]; exact Kd.C_take (m := j) G1.out (by omega))
  have LT : la.length ≤ c := by rw [← ea, List.length_take]; omega
  have CP := Aside0.mk (cpB_eq la (by rw [← ea, List.length_take]; omega))
  replace LT := Aside0.mk LT
  clear hi hp h hc hl ea eb hj
  go_enter Tryd.func19, Tryd.ntmps19
  go_wp2_with (first
    | ((with_reducible refine gate_dst (N := 7) rfl ?_); refine gg (some 7) rfl rfl rfl frZ2 ?_; refine onc HI.out rfl ?_; rintro e w1 ⟨rfl, hb⟩; refine ⟨_, rfl, ?_⟩; replace HB := Bw.sw w hb; clear hb; have hcv := HCV.out; simp only [Act.put, List.setIfInBounds_toArray, List.set_cons_zero, List.set_cons_succ])
    | ((with_reducible refine gate_dst (N := 13) rfl ?_); refine gg (some 13) rfl rfl rfl frC1 ?_; refine onc (cut_yes2 A c l la lb j _ EA.out EB.out P0.out PJ.out L0.out L1.out (cb G1)) rfl ?_; rintro e w2 ⟨A1, c1, rfl, hb, m1, r1⟩; refine ⟨_, rfl, ?_⟩; clear m1 r1; replace HB := Bw.sw w hb; clear hb; have hcv := HCV.out; simp only [Act.put, List.setIfInBounds_toArray, List.set_cons_zero, List.set_cons_succ])
    | ((with_reducible refine gate_dst (N := 18) rfl ?_); refine gg (some 18) rfl rfl rfl frY ?_; refine onc (impl_copyBytes.calls _ _ la la _ (cb G2) LT.out CP.out) rfl ?_; rintro e w3 ⟨v3, rfl, ho, hb⟩; refine ⟨_, rfl, ?_⟩; have HO3 := Aside0.mk (Kd.R_lower ho (bzz w)); replace HB := Bw.sw w hb; clear ho hb; have hcv := HCV.out; simp only [Act.put, List.setIfInBounds_toArray, List.set_cons_zero, List.set_cons_succ]))
  go_ret
  subst hr
  exact ⟨_, rfl, Own.of (ok := fun _ => True) ⟨_, rfl, HO3.out⟩ HB.out.size, HB.out⟩
theorem impl_AddrName.kc (k : Nat) (l0 : List Int) (v0 : Value) (r : List Int) (w : World) (h0 : Rd (Kd.slice 5 (Kd.int .u8)) w l0 [v0]) (TB : Tb w) (h : impl_AddrName.g k l0 = some r) :
    Calls Tryd.prog 19 #[v0] w fun e w' => ∃ v : Value, e = .returned v ∧ Own (Kd.slice 5 (Kd.int .u8)) w' w.heap.size w'.heap.size r [v] ∧ Below w.heap.size w w' := by
  obtain ⟨A, c, e1, lc, g⟩ := h0.k
  injection e1 with e1
  subst e1
  obtain ⟨hok, hs⟩ := yesO h
  obtain ⟨t, ht, hs⟩ := bnd hs
  obtain ⟨hn, hby⟩ := okB_of hok
  have hi := isAddr_w k A c l0 t w hn lc g hby TB ht
  cases t with
  | false =>
    rw [if_neg (by decide)] at hs
    obtain rfl := Option.some.inj hs
    refine (implName_no A c l0 w hi).mono ?_
    rintro e w' ⟨rfl, hb⟩
    exact ⟨_, rfl, Own.of (ok := fun _ => True) ⟨_, rfl, Kd.R_nil _ _ _ _ _⟩ hb.size, hb⟩
  | true =>
    rw [if_pos rfl] at hs
    have hs := Option.some.inj hs
    obtain ⟨hp1, hp2⟩ := posB_ge l0
    unfold nmOf at hs
    by_cases hp : posB l0 < 0
    · rw [if_pos hp] at hs
      exact implName_all A c l0 r w hs.symm hp hn lc g hi
    · rw [if_neg hp] at hs
      exact implName_cut A c l0 _ _ r (posB l0).toNat w hs.symm rfl rfl (by omega) (by omega) hn lc g hi
end Go.Proofs.YtockllljeeakaaaDoor.PFnAddrs
