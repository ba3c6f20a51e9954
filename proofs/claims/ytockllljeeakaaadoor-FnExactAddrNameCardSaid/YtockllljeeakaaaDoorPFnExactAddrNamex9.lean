/- What a function comes to, walked by hand. No condition. -/
import Derived.Test.YtockllljeeakaaaDoorPFnExactAddrNamex0
import Derived.Test.YtockllljeeakaaaDoorPFnExactAddrNamex4
import Derived.Test.YtockllljeeakaaaDoorPFnExactAddrNamex5
import Derived.Test.YtockllljeeakaaaDoorPFnExactAddrNamex6
import Derived.Test.YtockllljeeakaaaDoorPFnExactAddrNamex8
import Derived.Test.YtockllljeeakaaaDoorMkx
import Derived.Test.YtockllljeeakaaaDoorMcore
namespace Go.Proofs.YtockllljeeakaaaDoor.PFnExactAddrName
open Go.RowKit Go.Proofs.YtockllljeeakaaaDoorW.PrintWords Go.Proofs.YtockllljeeakaaaDoorW.PrintLast Go.Proofs.YtockllljeeakaaaDoorW.PrintMore Go.Proofs.YtockllljeeakaaaDoor.M
attribute [local go_sem] max2_int min2_int max_two min_two max_three min_three max_four min_four Go.Proofs.YtockllljeeakaaaDoor.M.str_gtr Go.Proofs.YtockllljeeakaaaDoor.M.str_leq Go.Proofs.YtockllljeeakaaaDoor.M.str_geq   -- for this text's walks alone
set_option linter.unusedVariables false
set_option linter.unusedSimpArgs false
-- KC spec_AddrName {"params":[["slice","(Kd.int .u8)",5,"List Int"]],"res":["slice","(Kd.int .u8)",5,"List Int","R"],"hasK":true,"fn":18,"f":"spec_AddrName.g"}
-- KC impl_AddrName {"params":[["slice","(Kd.int .u8)",5,"List Int"]],"res":["slice","(Kd.int .u8)",5,"List Int","R"],"hasK":true,"fn":19,"f":"impl_AddrName.g","tab":true}
theorem SpPost.inv1 {A : Option Addr} {la : List Int} {c : Nat} {e : Ending} (h : SpPost A la c true e) : ∃ v2, e = .returned (.tuple #[.slice A la.length c, v2, .bool true]) := by
  cases h; exact ⟨_, rfl⟩
theorem frY : Fr Tryd.prog 41 := ⟨_, Tryd.func41, by kernel_rfl, rfl⟩
theorem cpB_eq (l : List Int) (h : l.length < 140737488355328) : impl_copyBytes.f l = some l := by
  unfold impl_copyBytes.f
  simp only [Option.bind_some, List.length_nil, Nat.zero_add, List.nil_append]
  rw [if_pos h]
def spec_AddrName.g (k : Nat) (l : List Int) : Option (List Int) := if okB l = true then (spl k (laOf l) (lbOf l)).bind fun t => if t = true then some (laOf l) else some [] else none
def nmOf (l : List Int) : List Int := if posB l < 0 then l else l.take (posB l).toNat
def impl_AddrName.g (k : Nat) (l : List Int) : Option (List Int) := if okB l = true then (isAddr_g k l).bind fun t => if t = true then some (nmOf l) else some [] else none
set_option maxRecDepth 100000 in
set_option maxHeartbeats 8000000 in
theorem specName_no (A : Option Addr) (c n : Nat) (w : World) (la : List Int) (hsp : Calls Tryd.prog 34 #[.slice A n c] w fun e w' => SpPost A la c false e ∧ Below w.heap.size w w') :
    Calls Tryd.prog 18 #[.slice A n c] w fun e w' => e = .returned (.slice none 0 0) ∧ Below w.heap.size w w' := by
  have HSP := Aside0.mk hsp
  clear hsp
  go_enter Tryd.func18, Tryd.ntmps18
  go_wp2_with (first
    | ((with_reducible refine gate_dst (N := 8) rfl ?_); refine gg (some 8) rfl rfl rfl frZ1 ?_; refine onc HSP.out rfl ?_; rintro e w1 ⟨hp, hb⟩; obtain ⟨v1, v2, rfl⟩ := hp.inv; clear hp; refine ⟨_, rfl, ?_⟩; have HB := Aside0.mk hb; clear hb; simp only [Act.put, List.setIfInBounds_toArray, List.set_cons_zero, List.set_cons_succ]))
  go_ret
  exact ⟨rfl, HB.out⟩
set_option maxRecDepth 100000 in
set_option maxHeartbeats 8000000 in
theorem specName_yes (A : Option Addr) (c n : Nat) (la r : List Int) (w : World) (hc : la.length ≤ c) (h : (Kd.int .u8).C w A la.length la) (hl : la.length ≤ 1048576) (hr : r = la) (hsp : Calls Tryd.prog 34 #[.slice A n c] w fun e w' => SpPost A la c true e ∧ Below w.heap.size w w') :
    Calls Tryd.prog 18 #[.slice A n c] w fun e w' => ∃ v : Value, e = .returned v ∧ Own (Kd.slice 5 (Kd.int .u8)) w' w.heap.size w'.heap.size r [v] ∧ Below w.heap.size w w' := by
  have HSP := Aside0.mk hsp
  have G2 := Aside0.mk h
  have LC := Aside0.mk hc
  have HB := Bw.refl w
  obtain ⟨y, hy⟩ : ∃ y : List Int, y = [] := ⟨_, rfl⟩
  obtain ⟨z, hz⟩ : ∃ z : List Int, z = y ++ la := ⟨_, rfl⟩
  have Ny := Aside0.mk hy
  have Nz := Aside0.mk hz
  have LM := Aside0.mk (show y.length + la.length < 140737488355328 by rw [hy]; simp; omega)
  clear hsp h hc hy hz hl
  go_enter Tryd.func18, Tryd.ntmps18
  go_wp2_with (first
    | ((with_reducible refine gate_dst (N := 8) rfl ?_); refine gg (some 8) rfl rfl rfl frZ1 ?_; refine onc HSP.out rfl ?_; rintro e w1 ⟨hp, hb⟩; obtain ⟨v2, rfl⟩ := hp.inv1; clear hp; refine ⟨_, rfl, ?_⟩; replace HB := Bw.sw w hb; clear hb; simp only [Act.put, List.setIfInBounds_toArray, List.set_cons_zero, List.set_cons_succ])
    | ((with_reducible refine gate_dst (N := 14) rfl ?_); refine Kd.R_lit (Kd.int .u8) _ 5 ?hg (N := 14) ?hd (xs := ([] : List Int)) (inner := []) (ok := fun _ => True) (okp := fun _ => True) ?hr ?hp (fun _ hk => hk) trivial (Below.refl _ _) (Nat.le_refl _) (by simp) ?_; (case hd => rfl); (case hg => rfl); (case hr => first | (go_simp; done) | (go_simp; rfl)); (case hp => exact (Reps.none _ _)); intro v183 w3 ho4 hb hg_ hnew_; clear hg_ hnew_; (first | rw [← Ny.out] at ho4 | (simp only [Int.reduceToNat] at ho4; rw [← Ny.out] at ho4)); have HO4 := Aside0.mk (Kd.R_lower ho4 (bzz w)); replace HB := (Bw.sw w hb); clear hb ho4)
    | ((with_reducible refine gate_builtin (b := .append) (xs := #[.tmp 14, .tmp 15]) rfl ?_); at_builtin; refine Kd.R_append_rows (Kd.int .u8) (w0 := w) w.heap.size rfl (.tmp 14) (.tmp 15) 22 5 (.int .u8 0) 1 rfl Tryd.underlying22 info5 rfl (by decide) (by omega) v183 y la _ _ _ (fun _ => True) (fun _ => False) rfl rfl ?aO ?aR (fun _ _ h => h) (fun _ h => h.elim) ?aF ?aB ?aS ?aL ?_; (case aR => repeat (first | exact (Kd.C_below G2.out HB.out) | (with_reducible refine Kd.C_alloc ?_ _) | (with_reducible refine Kd.C_drewN ?_ _) | (with_reducible refine Kd.C_drew ?_))); (case aB => exact bw); (case aF => exact (fun _ _ => trivial)); (case aO => exact (by (with_reducible repeat (first | apply Kd.R_alloc | apply Kd.R_drewN | apply Kd.R_drew)); exact HO4.out)); (case aS => exact (bzz w)); (case aL => have := LM.out; omega); intro v186 w5 ho hb hg hat; rw [← Nz.out] at ho; replace HB := Bw.mk (w := w) (hb); have HO5 := Aside0.mk (ho); clear HO4; clear ho hb hg hat))
  go_ret
  have ez : z = r := by rw [Nz.out, Ny.out, hr]; rfl
  subst ez
  exact ⟨_, rfl, Own.of (ok := fun _ => True) ⟨_, rfl, HO5.out⟩ HB.out.size, HB.out⟩
theorem spec_AddrName.kc (k : Nat) (l0 : List Int) (v0 : Value) (r : List Int) (w : World) (h0 : Rd (Kd.slice 5 (Kd.int .u8)) w l0 [v0]) (h : spec_AddrName.g k l0 = some r) :
    Calls Tryd.prog 18 #[v0] w fun e w' => ∃ v : Value, e = .returned v ∧ Own (Kd.slice 5 (Kd.int .u8)) w' w.heap.size w'.heap.size r [v] ∧ Below w.heap.size w w' := by
  obtain ⟨A, c, e1, lc, g⟩ := h0.k
  injection e1 with e1
  subst e1
  obtain ⟨hok, hs⟩ := yesO h
  obtain ⟨t, ht, hs⟩ := bnd hs
  obtain ⟨hn, hby⟩ := okB_of hok
  have hl : (laOf l0).length + (lbOf l0).length = l0.length := by rw [← List.length_append, la_lb]
  have hsp := split_w k A c (laOf l0) (lbOf l0) t w (by omega) (by omega) (by rw [la_lb]; exact g) (la_no l0) (lb_first l0) ht
  rw [hl] at hsp
  cases t with
  | false =>
    rw [if_neg (by decide)] at hs
    obtain rfl := Option.some.inj hs
    refine (specName_no A c l0.length w (laOf l0) hsp).mono ?_
    rintro e w' ⟨rfl, hb⟩
    exact ⟨_, rfl, Own.of (ok := fun _ => True) ⟨_, rfl, Kd.R_nil _ _ _ _ _⟩ hb.size, hb⟩
  | true =>
    rw [if_pos rfl] at hs
    obtain rfl := Option.some.inj hs
    have hla : (Kd.int .u8).C w A (laOf l0).length (laOf l0) := by
      rw [← la_lb l0] at g
      have := Kd.C_take (m := (laOf l0).length) g (by rw [List.length_append]; omega)
      rwa [List.take_left' rfl] at this
    exact specName_yes A c l0.length (laOf l0) _ w (by omega) hla (by omega) rfl hsp
set_option maxRecDepth 100000 in
set_option maxHeartbeats 8000000 in
theorem implName_no (A : Option Addr) (c : Nat) (l : List Int) (w : World) (hi : Calls Tryd.prog 35 #[.slice A l.length c] w fun e w' => e = .returned (.bool false) ∧ Below w.heap.size w w') :
    Calls Tryd.prog 19 #[.slice A l.length c] w fun e w' => e = .returned (.slice none 0 0) ∧ Below w.heap.size w w' := by
  have hcv := fun (w' : World) (x : Int) => Lib.run_convert_bytes_const (P := Tryd.prog) w' 22 5 #[.int .u8 x] 1 1 Tryd.underlying22 Tryd.underlying5
  have HCV := Aside0.mk hcv
  have HI := Aside0.mk hi
  have HB := Bw.refl w
  clear hi
  go_enter Tryd.func19, Tryd.ntmps19
  go_wp2_with (first
    | ((with_reducible refine gate_dst (N := 7) rfl ?_); refine gg (some 7) rfl rfl rfl frZ2 ?_; refine onc HI.out rfl ?_; rintro e w1 ⟨rfl, hb⟩; refine ⟨_, rfl, ?_⟩; replace HB := Bw.sw w hb; clear hb; have hcv := HCV.out; simp only [Act.put, List.setIfInBounds_toArray, List.set_cons_zero, List.set_cons_succ]))
  go_ret
  exact ⟨rfl, HB.out⟩
set_option maxRecDepth 100000 in
set_option maxHeartbeats 8000000 in
theorem implName_all (A : Option Addr) (c : Nat) (l r : List Int) (w : World) (hr : r = l) (hp : posB l < 0) (hl : l.length ≤ 1048576) (hc : l.length ≤ c) (h : (Kd.int .u8).C w A l.length l) (hi : Calls Tryd.prog 35 #[.slice A l.length c] w fun e w' => e = .returned (.bool true) ∧ Below w.heap.size w w') :
    Calls Tryd.prog 19 #[.slice A l.length c] w fun e w' => ∃ v : Value, e = .returned v ∧ Own (Kd.slice 5 (Kd.int .u8)) w' w.heap.size w'.heap.size r [v] ∧ Below w.heap.size w w' := by
  have hcv := fun (w' : World) (x : Int) => Lib.run_convert_bytes_const (P := Tryd.prog) w' 22 5 #[.int .u8 x] 1 1 Tryd.underlying22 Tryd.underlying5
  have HCV := Aside0.mk hcv
  have HI := Aside0.mk hi
  have HB := Bw.refl w
  have P0 := Aside0.mk hp
  have G1 := Aside0.mk h
  have L1 := Aside0.mk hc
  have CP := Aside0.mk (cpB_eq l (by omega))
  clear hi hp h hc hl
  go_enter Tryd.func19, Tryd.ntmps19
  go_wp2_with (first
    | ((with_reducible refine gate_dst (N := 7) rfl ?_); refine gg (some 7) rfl rfl rfl frZ2 ?_; refine onc HI.out rfl ?_; rintro e w1 ⟨rfl, hb⟩; refine ⟨_, rfl, ?_⟩; replace HB := Bw.sw w hb; clear hb; have hcv := HCV.out; simp only [Act.put, List.setIfInBounds_toArray, List.set_cons_zero, List.set_cons_succ])
    | ((with_reducible refine gate_dst (N := 13) rfl ?_); refine gg (some 13) rfl rfl rfl frC1 ?_; refine onc (cut_no2 A c l _ P0.out (cb G1)) rfl ?_; rintro e w2 ⟨rfl, hb⟩; refine ⟨_, rfl, ?_⟩; replace HB := Bw.sw w hb; clear hb; have hcv := HCV.out; simp only [Act.put, List.setIfInBounds_toArray, List.set_cons_zero, List.set_cons_succ])
    | ((with_reducible refine gate_dst (N := 18) rfl ?_); refine gg (some 18) rfl rfl rfl frY ?_; refine onc (impl_copyBytes.calls _ _ l l _ (cb G1) L1.out CP.out) rfl ?_; rintro e w3 ⟨v3, rfl, ho, hb⟩; refine ⟨_, rfl, ?_⟩; have HO3 := Aside0.mk (Kd.R_lower ho (bzz w)); replace HB := Bw.sw w hb; clear ho hb; have hcv := HCV.out; simp only [Act.put, List.setIfInBounds_toArray, List.set_cons_zero, List.set_cons_succ]))
  go_ret
  subst hr
  exact ⟨_, rfl, Own.of (ok := fun _ => True) ⟨_, rfl, HO3.out⟩ HB.out.size, HB.out⟩
set_option maxRecDepth 100000 in
set_option maxHeartbeats 8000000 in
theorem implName_cut (A : Option Addr) (c : Nat) (l la lb r : List Int) (j : Nat) (w : World) (hr : r = la) (ea : l.take j = la) (eb : l.drop (j + 1) = lb) (hp : posB l = j) (hj : j < l.length) (hl : l.length ≤ 1048576) (hc : l.length ≤ c) (h : (Kd.int .u8).C w A l.length l) (hi : Calls Tryd.prog 35 #[.slice A l.length c] w fun e w' => e = .returned (.bool true) ∧ Below w.heap.size w w') :
    Calls Tryd.prog 19 #[.slice A l.length c] w fun e w' => ∃ v : Value, e = .returned v ∧ Own (Kd.slice 5 (Kd.int .u8)) w' w.heap.size w'.heap.size r [v] ∧ Below w.heap.size w w' := by
  have hcv := fun (w' : World) (x : Int) => Lib.run_convert_bytes_const (P := Tryd.prog) w' 22 5 #[.int .u8 x] 1 1 Tryd.underlying22 Tryd.underlying5
  have HCV := Aside0.mk hcv
  have HI := Aside0.mk hi
  have HB := Bw.refl w
  have P0 := Aside0.mk hp
  have PJ := Aside0.mk hj
  have EA := Aside0.mk ea
  have EB := Aside0.mk eb
  have G1 := Aside0.mk h
  have L1 := Aside0.mk hc
  have L0 := Aside0.mk (show l.length ≤ 4611686018427387904 by omega)
  have G2 := Aside0.mk (show (Kd.int .u8).C w A la.length la by rw [← ea]; exact Kd.C_take (m := j) G1.out (by omega))
  have LT : la.length ≤ c := by rw [← ea, List.length_take]; omega
  have CP := Aside0.mk (cpB_eq la (by rw [← ea, List.length_take]; omega))
  replace LT := Aside0.mk LT
  clear hi hp h hc hl ea eb hj
  go_enter Tryd.func19, Tryd.ntmps19
  go_wp2_with (first
    | ((with_reducible refine gate_dst (N := 7) rfl ?_); refine gg (some 7) rfl rfl rfl frZ2 ?_; refine onc HI.out rfl ?_; rintro e w1 ⟨rfl, hb⟩; refine ⟨_, rfl, ?_⟩; replace HB := Bw.sw w hb; clear hb; have hcv := HCV.out; simp only [Act.put, List.setIfInBounds_toArray, List.set_cons_zero, List.set_cons_succ])
    | ((with_reducible refine gate_dst (N := 13) rfl ?_); refine gg (some 13) rfl rfl rfl frC1 ?_; refine onc (cut_yes2 A c l la lb j _ EA.out EB.out P0.out PJ.out L0.out L1.out (cb G1)) rfl ?_; rintro e w2 ⟨A1, c1, rfl, hb, m1, r1⟩; refine ⟨_, rfl, ?_⟩; clear m1 r1; replace HB := Bw.sw w hb; clear hb; have hcv := HCV.out; simp only [Act.put, List.setIfInBounds_toArray, List.set_cons_zero, List.set_cons_succ])
    | ((with_reducible refine gate_dst (N := 18) rfl ?_); refine gg (some 18) rfl rfl rfl frY ?_; refine onc (impl_copyBytes.calls _ _ la la _ (cb G2) LT.out CP.out) rfl ?_; rintro e w3 ⟨v3, rfl, ho, hb⟩; refine ⟨_, rfl, ?_⟩; have HO3 := Aside0.mk (Kd.R_lower ho (bzz w)); replace HB := Bw.sw w hb; clear ho hb; have hcv := HCV.out; simp only [Act.put, List.setIfInBounds_toArray, List.set_cons_zero, List.set_cons_succ]))
  go_ret
  subst hr
  exact ⟨_, rfl, Own.of (ok := fun _ => True) ⟨_, rfl, HO3.out⟩ HB.out.size, HB.out⟩
theorem impl_AddrName.kc (k : Nat) (l0 : List Int) (v0 : Value) (r : List Int) (w : World) (h0 : Rd (Kd.slice 5 (Kd.int .u8)) w l0 [v0]) (TB : Tb w) (h : impl_AddrName.g k l0 = some r) :
    Calls Tryd.prog 19 #[v0] w fun e w' => ∃ v : Value, e = .returned v ∧ Own (Kd.slice 5 (Kd.int .u8)) w' w.heap.size w'.heap.size r [v] ∧ Below w.heap.size w w' := by
  obtain ⟨A, c, e1, lc, g⟩ := h0.k
  injection e1 with e1
  subst e1
  obtain ⟨hok, hs⟩ := yesO h
  obtain ⟨t, ht, hs⟩ := bnd hs
  obtain ⟨hn, hby⟩ := okB_of hok
  have hi := isAddr_w k A c l0 t w hn lc g hby TB ht
  cases t with
  | false =>
    rw [if_neg (by decide)] at hs
    obtain rfl := Option.some.inj hs
    refine (implName_no A c l0 w hi).mono ?_
    rintro e w' ⟨rfl, hb⟩
    exact ⟨_, rfl, Own.of (ok := fun _ => True) ⟨_, rfl, Kd.R_nil _ _ _ _ _⟩ hb.size, hb⟩
  | true =>
    rw [if_pos rfl] at hs
    have hs := Option.some.inj hs
    obtain ⟨hp1, hp2⟩ := posB_ge l0
    unfold nmOf at hs
    by_cases hp : posB l0 < 0
    · rw [if_pos hp] at hs
      exact implName_all A c l0 r w hs.symm hp hn lc g hi
    · rw [if_neg hp] at hs
      exact implName_cut A c l0 _ _ r (posB l0).toNat w hs.symm rfl rfl (by omega) (by omega) hn lc g hi
end Go.Proofs.YtockllljeeakaaaDoor.PFnExactAddrName
