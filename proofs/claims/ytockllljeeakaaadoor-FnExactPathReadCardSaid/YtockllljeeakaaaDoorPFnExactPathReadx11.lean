/- What a function comes to, walked by hand. No condition. -/
import Derived.Test.YtockllljeeakaaaDoorPFnExactPathReadx0
import Derived.Test.YtockllljeeakaaaDoorPFnExactPathReadx2
import Derived.Test.YtockllljeeakaaaDoorPFnExactPathReadx3
import Derived.Test.YtockllljeeakaaaDoorPFnExactPathReadx5
import Derived.Test.YtockllljeeakaaaDoorPFnExactPathReadx7
import Derived.Test.YtockllljeeakaaaDoorPFnExactPathReadx10
import Derived.Test.YtockllljeeakaaaDoorMlaw
import Derived.Test.YtockllljeeakaaaDoorMcore
namespace Go.Proofs.YtockllljeeakaaaDoor.PFnExactPathRead
open Go.RowKit Go.Proofs.YtockllljeeakaaaDoorW.PrintWords Go.Proofs.YtockllljeeakaaaDoorW.PrintLast Go.Proofs.YtockllljeeakaaaDoorW.PrintMore Go.Proofs.YtockllljeeakaaaDoor.M
attribute [local go_sem] max2_int min2_int max_two min_two max_three min_three max_four min_four Go.Proofs.YtockllljeeakaaaDoor.M.str_gtr Go.Proofs.YtockllljeeakaaaDoor.M.str_leq Go.Proofs.YtockllljeeakaaaDoor.M.str_geq   -- for this text's walks alone
set_option linter.unusedVariables false
set_option linter.unusedSimpArgs false
-- KC impl_PathRead {"params":[["slice","(Kd.int .u8)",5,"List Int"]],"res":["tuple",[["slice","k56",56,"List (S56)","S"],["bool"]]],"hasK":true,"fn":13,"tab":true}
def atoiO (l : List Int) : Option Int := match Lib.atoiAll (strOfNums l).data.toList with
  | .ok v => some v
  | _ => none
theorem atoiO_some {l : List Int} {v : Int} (h : atoiO l = some v) : Lib.atoiAll (strOfNums l).data.toList = .ok v := by
  unfold atoiO at h
  split at h
  · rename_i x hx; rw [hx, Option.some.inj h]
  · cases h
theorem atoiO_none {l : List Int} (h : atoiO l = none) : ∀ v, Lib.atoiAll (strOfNums l).data.toList ≠ .ok v := fun v e => by
  unfold atoiO at h
  rw [e] at h
  cases h
def impl_pathRead.r : Nat → List Int → List S56 → Option (Option (List S56))
  | 0, _, _ => none
  | k + 1, l, out =>
    if 0 < l.length then
      if out.length < 3518437208883 then
        if rd l 0 = 46 then impl_pathRead.r k (l.drop (1 + spanL (l.drop 1))) (out ++ [⟨0, (l.take (1 + spanL (l.drop 1))).drop 1, 0⟩])
        else if rd l 0 = 91 ∧ 1 ≤ posC l then
          (match atoiO ((l.take (posC l).toNat).drop 1) with
          | some v => impl_pathRead.r k (l.drop ((posC l).toNat + 1)) (out ++ [⟨1, [], v⟩])
          | none => some none)
        else some none
      else none
    else some (some out)
def impl_pathRead.f (k : Nat) (l0 : List Int) : Option (List S56 × Bool) :=
  if l0.length ≤ 1048576 then (impl_pathRead.r k l0 []).bind fun o => match o with
    | none => some ([], false)
    | some out => (impl_isPath.f k out).bind fun b => if b = true then (impl_pathText.f k out).bind fun t => (bytes_Equal.f t l0).bind fun q => if q = true then some (out, true) else some ([], false) else some ([], false)
  else none
theorem fr41 : Fr Tryd.prog 41 := ⟨_, Tryd.func41, by kernel_rfl, rfl⟩
theorem fr72 : Fr Tryd.prog 72 := ⟨_, Tryd.func72, by kernel_rfl, rfl⟩
theorem fr74 : Fr Tryd.prog 74 := ⟨_, Tryd.func74, by kernel_rfl, rfl⟩
theorem fr73 : Fr Tryd.prog 73 := ⟨_, Tryd.func73, by kernel_rfl, rfl⟩
theorem mid_b (A : Option Addr) (c : Nat) (l : List Int) (b : Int) (w : World) (h1 : 1 ≤ b) (hm : b ≤ l.length) (hc : l.length ≤ c) (h : (Kd.int .u8).C w A l.length l) :
    ∃ (A' : Option Addr) (s : List Int), s = (l.take b.toNat).drop 1 ∧ (∀ W : World, (Instr.slice 22 (.slice A l.length c) (some (.int .i64 1)) (some (.int .i64 b)) none).run Tryd.prog W = .ok (.slice A' s.length (c - 1)) W) ∧ (Kd.int .u8).C w A' s.length s ∧ s.length ≤ c - 1 := by
  obtain ⟨i062, hi062, _, hsz62, _⟩ := info_parts info5
  obtain ⟨A', h2, h3, h4⟩ := print_mid_of (P := Tryd.prog) (Value.int .u8) 0 22 5 .i64 .i64 Tryd.underlying22 hi062 hsz62 A c l 1 b (by decide) h1 hm hc
  exact ⟨A', _, rfl, h2, Kd.C_of_reads (h1 := fun _ => rfl) (h3 _ (Kd.reads_of_C h)), h4⟩
theorem tail_b (A : Option Addr) (c : Nat) (l : List Int) (b : Int) (w : World) (h1 : 0 ≤ b) (hm : b ≤ l.length) (hc : l.length ≤ c) (h : (Kd.int .u8).C w A l.length l) :
    ∃ (A' : Option Addr) (s : List Int), s = l.drop b.toNat ∧ (∀ W : World, (Instr.slice 22 (.slice A l.length c) (some (.int .i64 b)) none none).run Tryd.prog W = .ok (.slice A' s.length (c - b.toNat)) W) ∧ (Kd.int .u8).C w A' s.length s ∧ s.length ≤ c - b.toNat := by
  obtain ⟨i062, hi062, _, hsz62, _⟩ := info_parts info5
  obtain ⟨A', h2, h3, h4⟩ := print_drop_of (P := Tryd.prog) (Value.int .u8) 0 22 5 .i64 Tryd.underlying22 hi062 hsz62 A c l b h1 hm hc
  exact ⟨A', _, rfl, h2, Kd.C_of_reads (h1 := fun _ => rfl) (h3 _ (Kd.reads_of_C h)), h4⟩
theorem posC_0 {l : List Int} (h : rd l 0 = 91) : posC l ≠ 0 := by
  intro e
  cases l with
  | nil => simp [rd] at h
  | cons x r =>
    have hx : x = 91 := h
    subst hx
    have h2 := (Lib.indexByte_some (l := Lib.bytesOf (91 :: r)) (c := 93) (o := 0) e).1
    simp [Lib.bytesOf] at h2
theorem ic_b (A : Option Addr) (c : Nat) (l : List Int) (w : World) (h : (Kd.int .u8).C w A l.length l) :
    Calls Tryd.prog 71 #[.slice A l.length c, .int .u8 93] w fun e w' => e = .returned (.int .i64 (posC l)) ∧ Below w.heap.size w w' := by
  refine (indexByte_ka A c l w h).mono ?_
  rintro e w' ⟨rfl, rfl⟩
  exact ⟨rfl, Below.refl _ _⟩
theorem eq_b (A : Option Addr) (c : Nat) (l : List Int) (A1 : Option Addr) (c1 : Nat) (l1 : List Int) (r : Bool) (w : World) (h : (Kd.int .u8).C w A l.length l) (hc : l.length ≤ c) (h1 : (Kd.int .u8).C w A1 l1.length l1) (hc1 : l1.length ≤ c1) (he : bytes_Equal.f l l1 = some r) :
    Calls Tryd.prog 73 #[.slice A l.length c, .slice A1 l1.length c1] w fun e w' => e = .returned (.bool r) ∧ Below w.heap.size w w' := by
  refine (bytes_Equal.calls A c l A1 c1 l1 r w h hc h1 hc1 he).mono ?_
  rintro e w' ⟨rfl, nd, rfl⟩
  exact ⟨rfl, pw_below_drewN (Below.refl _ _) nd⟩
set_option maxHeartbeats 8000000 in
set_option maxRecDepth 100000 in
theorem impl_pathRead.calls (k : Nat) (A0 : Option Addr) (c0 : Nat) (l0 : List Int) (r1 : List (S56)) (r2 : Bool) (w : World) (hr0 : Kd.C (Kd.int .u8) w A0 l0.length l0) (hc0 : l0.length ≤ c0) (TB : Tb w) (h : impl_pathRead.f k l0 = some (r1, r2)) :
  Calls Tryd.prog 38 #[.slice A0 l0.length c0] w fun e w' => ∃ v0_ : Value, e = .returned (.tuple #[v0_, .bool r2]) ∧ Kd.S k56 56 w' w.heap.size (fun _ => True) v0_ r1 ∧ Below w.heap.size w w' := by
 have hu56 := Tryd.underlying56
 have HR0 := Aside0.mk hr0
 have HC0 := Aside0.mk hc0
 have HTB := Aside0.mk TB
 clear hr0 hc0 TB
 have HB := Bw.refl w
 unfold impl_pathRead.f at h
 by_cases hln : l0.length ≤ 1048576
 case neg => rw [if_neg hln] at h; cases h
 rw [if_pos hln] at h
 have h9 := bnd h
 clear h
 obtain ⟨o, ho, h⟩ := h9
 have H' := Aside0.mk ho
 have HF := Aside0.mk h
 clear h ho
 go_enter Tryd.func38, Tryd.ntmps38
 go_wp2_with ((with_reducible refine gate_dst (N := 10) rfl ?_); refine Kd.R_lit (Kd.tag (fun _ => 0) k56) _ 56 ?hg (N := 10) ?hd (xs := ([] : List (S56 × Nat))) (inner := []) (ok := fun _ => True) (okp := fun _ => True) ?hr ?hp (fun _ hk => hk) trivial (Below.refl _ _) (Nat.le_refl _) (by simp) ?_; (case hd => rfl); (case hg => rfl); (case hr => first | (go_simp; done) | (go_simp; rfl)); (case hp => exact (Reps.none _ _)); intro v10 w2 ho hb hg_ hnew_; clear hg_ hnew_; have HO_4 := Aside0.mk (show Kd.S k56 56 w2 w.heap.size (fun _ => True) v10 [] from ⟨fun _ => 0, Kd.R_lower ho (bzz w)⟩); replace HB := Bw.sw w hb; clear hb ho)
 go_loopg [4, 5] k (fun kq v4 v5 w' => ∃ (out : List S56) (A : Option Addr) (c : Nat) (l : List Int), v5 = .slice A l.length c ∧ l.length ≤ 1048576 ∧ Aside0 (l.length ≤ c) ∧ Aside0 (Kd.C (Kd.int .u8) w A l.length l) ∧ Aside0 (impl_pathRead.r kq l out = some o) ∧ Aside0 (kq ≤ k) ∧ Aside0 (Kd.S k56 56 w' w.heap.size (fun _ => True) v4 out) ∧ Bw w w')
 case atStart => exact ⟨[], A0, c0, l0, rfl, hln, HC0, HR0, H', ⟨Nat.le_refl _⟩, HO_4, ⟨bw⟩⟩
 case round =>
  clear H' HO_4
  obtain ⟨out, A, c, l, rfl, hll, HLC, HL, HA, HK1, HO_4, HB⟩ := hrel
  cases gk with
  | zero => exact absurd HA.out (by simp [impl_pathRead.r])
  | succ k1 =>
   have H := HA.out
   clear HA
   rw [impl_pathRead.r] at H
   by_cases hlt : 0 < l.length
   case neg =>
    as_aux_lemma =>
    rw [if_neg hlt] at H
    obtain rfl := Option.some.inj H
    have c2b0 : ((l.length : Int) > 0) = False := eq_false (by omega)
    have c2b1 : (0 < (l.length : Int)) = False := eq_false (by omega)
    obtain rfl : l = [] := List.eq_nil_of_length_eq_zero (by omega)
    have H2 := HF.out
    clear HF H
    dsimp only at H2
    obtain ⟨Ao, co, eo⟩ := Kd.S_slice HO_4.out
    subst eo
    have h9 := bnd H2
    clear H2
    obtain ⟨b, hb1, H2⟩ := h9
    have A1 := Aside0.mk hb1
    clear hb1
    cases b with
    | false =>
     rw [if_neg (by decide)] at H2
     obtain ⟨rfl, rfl⟩ := Prod.mk.inj (Option.some.inj H2)
     clear H2
     go_wp2_with (first
       | ((with_reducible refine gg (f := 72) (some 80) rfl rfl rfl fr72 ?_); refine onc (impl_isPath.calls k _ _ out false _ (Kd.S_reads' HO_4.out).2.2 (Kd.S_reads' HO_4.out).2.1 A1.out) rfl ?_; rintro e9 w9 ⟨rfl, hb⟩; refine ⟨_, rfl, ?_⟩; replace HO_4 := Aside0.mk (Kd.S_below HO_4.out hb); replace HB := Bw.sw w hb; clear hb))
     go_ret2
     exact ⟨_, rfl, Kd.S_nil _ _ _ _ _, bw⟩
    | true =>
     rw [if_pos rfl] at H2
     have h9 := bnd H2
     clear H2
     obtain ⟨t, ht, H2⟩ := h9
     have h9 := bnd H2
     clear H2
     obtain ⟨q, hq, H2⟩ := h9
     have A2 := Aside0.mk ht
     have A3 := Aside0.mk hq
     clear ht hq
     cases q with
     | false =>
      rw [if_neg (by decide)] at H2
      obtain ⟨rfl, rfl⟩ := Prod.mk.inj (Option.some.inj H2)
      clear H2
      go_wp2_with (first
        | ((with_reducible refine gg (f := 72) (some 80) rfl rfl rfl fr72 ?_); refine onc (impl_isPath.calls k _ _ out true _ (Kd.S_reads' HO_4.out).2.2 (Kd.S_reads' HO_4.out).2.1 A1.out) rfl ?_; rintro e9 w9 ⟨rfl, hb⟩; refine ⟨_, rfl, ?_⟩; replace HO_4 := Aside0.mk (Kd.S_below HO_4.out hb); replace HB := Bw.sw w hb; clear hb)
        | ((with_reducible refine gate_dst (N := 84) rfl ?_); refine ggw (some 84) rfl (by rfl) rfl fr74 ?_; refine onc (impl_pathText.calls k _ _ out t _ (Kd.S_reads' HO_4.out).2.2 (Kd.S_reads' HO_4.out).2.1 A2.out) rfl ?_; rintro e9 w9 ⟨v84, rfl, ho, hb⟩; refine ⟨_, rfl, ?_⟩; replace HO_4 := Aside0.mk (Kd.S_below HO_4.out hb); have HT := Aside0.mk ho; replace HB := Bw.sw w hb; clear hb ho; obtain ⟨At, ct, et⟩ := Kd.R_slice HT.out; subst et)
        | ((with_reducible refine gate_dst (N := 86) rfl ?_); refine ggw (some 86) rfl (by rfl) rfl fr73 ?_; refine onc (eq_b _ _ t A0 c0 l0 false _ (Kd.R_reads' HT.out).2.2 (Kd.R_reads' HT.out).2.1 (cb HR0) HC0.out A3.out) rfl ?_; rintro e9 w9 ⟨rfl, hb⟩; refine ⟨_, rfl, ?_⟩; replace HO_4 := Aside0.mk (Kd.S_below HO_4.out hb); replace HB := Bw.sw w hb; clear hb))
      go_ret2
      exact ⟨_, rfl, Kd.S_nil _ _ _ _ _, bw⟩
     | true =>
      rw [if_pos rfl] at H2
      obtain ⟨rfl, rfl⟩ := Prod.mk.inj (Option.some.inj H2)
      clear H2
      go_wp2_with (first
        | ((with_reducible refine gg (f := 72) (some 80) rfl rfl rfl fr72 ?_); refine onc (impl_isPath.calls k _ _ out true _ (Kd.S_reads' HO_4.out).2.2 (Kd.S_reads' HO_4.out).2.1 A1.out) rfl ?_; rintro e9 w9 ⟨rfl, hb⟩; refine ⟨_, rfl, ?_⟩; replace HO_4 := Aside0.mk (Kd.S_below HO_4.out hb); replace HB := Bw.sw w hb; clear hb)
        | ((with_reducible refine gate_dst (N := 84) rfl ?_); refine ggw (some 84) rfl (by rfl) rfl fr74 ?_; refine onc (impl_pathText.calls k _ _ out t _ (Kd.S_reads' HO_4.out).2.2 (Kd.S_reads' HO_4.out).2.1 A2.out) rfl ?_; rintro e9 w9 ⟨v84, rfl, ho, hb⟩; refine ⟨_, rfl, ?_⟩; replace HO_4 := Aside0.mk (Kd.S_below HO_4.out hb); have HT := Aside0.mk ho; replace HB := Bw.sw w hb; clear hb ho; obtain ⟨At, ct, et⟩ := Kd.R_slice HT.out; subst et)
        | ((with_reducible refine gate_dst (N := 86) rfl ?_); refine ggw (some 86) rfl (by rfl) rfl fr73 ?_; refine onc (eq_b _ _ t A0 c0 l0 true _ (Kd.R_reads' HT.out).2.2 (Kd.R_reads' HT.out).2.1 (cb HR0) HC0.out A3.out) rfl ?_; rintro e9 w9 ⟨rfl, hb⟩; refine ⟨_, rfl, ?_⟩; replace HO_4 := Aside0.mk (Kd.S_below HO_4.out hb); replace HB := Bw.sw w hb; clear hb))
      go_ret2
      exact ⟨_, rfl, HO_4.out, bw⟩
   rw [if_pos hlt] at H
   by_cases hol : out.length < 3518437208883
   case neg => rw [if_neg hol] at H; cases H
   rw [if_pos hol] at H
   have c2b0 : ((l.length : Int) > 0) = True := eq_true (by omega)
   have c2b1 : (0 < (l.length : Int)) = True := eq_true (by omega)
   have HOL := Aside0.mk hol
   clear hol
   obtain ⟨ad, eA, hx⟩ := Kd.at_int HL.out 0 (by omega) (by omega)
   subst eA
   replace hx := (HB.out.cell (World.block_lt_of_cell? w _ hx)).trans hx
   rw [show (0 : Int).toNat = 0 from rfl, show ad.add 0 = ad from rfl] at hx
   obtain ⟨x, hxx⟩ : ∃ y, y = rd l 0 := ⟨_, rfl⟩
   rw [← hxx] at hx H
   have HXX := Aside0.mk hxx.symm
   clear hxx
   by_cases c46 : x = 46
   · as_aux_lemma =>
    subst c46
    rw [if_pos rfl] at H
    obtain ⟨e, he⟩ : ∃ y, y = 1 + spanL (l.drop 1) := ⟨_, rfl⟩
    rw [← he] at H
    have hel := spanL_le (l.drop 1)
    rw [List.length_drop] at hel
    have HE := Aside0.mk (show 1 ≤ e ∧ e ≤ l.length by omega)
    have H' := Aside0.mk H
    have SIN := Aside0.mk (show ∀ j : Nat, 1 ≤ j → j < e → 97 ≤ rd l (j : Int) ∧ rd l (j : Int) ≤ 122 from fun j h1 h2 => by rw [← rd_drop l 1 j h1]; exact spanL_in _ _ (by omega))
    have SEN := Aside0.mk (show e < l.length → ¬ (97 ≤ rd l (e : Int) ∧ rd l (e : Int) ≤ 122) from fun h2 => by rw [← rd_drop l 1 e (by omega), show e - 1 = spanL (l.drop 1) by omega]; exact spanL_end _ (by rw [List.length_drop]; omega))
    clear H he hel
    go_upto_block 2 with (fail)
    go_cut [6] (fun v6 wc => v6 = .int .i64 (e : Int) ∧ Aside0 (Kd.S k56 56 wc w.heap.size (fun _ => True) u4 out) ∧ Bw w wc)
    case first =>
     as_aux_lemma =>
     go_wp2
     go_loopw [6] (fun v6 w' => ∃ j : Nat, 1 ≤ j ∧ j ≤ e ∧ v6 = .int .i64 (j : Int) ∧ Aside0 (Kd.S k56 56 w' w.heap.size (fun _ => True) u4 out) ∧ Bw w w') (fun v6 _ => e - (intOf v6).toNat)
     case atStart => exact ⟨1, Nat.le_refl _, HE.out.1, by go_num, HO_4, HB⟩
     case round =>
      clear hx HB HO_4
      obtain ⟨j, hj1, hj2, rfl, HO_4, HB⟩ := hrel
      by_cases hje : j < e
      · obtain ⟨s1, s2⟩ := SIN.out j hj1 hje
        have hjl : j < l.length := by have := HE.out; omega
        have c5b0 : ((j : Int) < (l.length : Int)) = True := eq_true (by omega)
        have c7b0 : decide (97 ≤ rd l (j : Int)) = true := decide_eq_true s1
        have c8b0 : decide (rd l (j : Int) ≤ 122) = true := decide_eq_true s2
        obtain ⟨ad2, eA, hx⟩ := Kd.at_int HL.out (j : Int) (by omega) (by omega)
        obtain rfl : ad = ad2 := by injection eA
        replace hx := (HB.out.cell (World.block_lt_of_cell? w _ hx)).trans hx
        rw [Int.toNat_natCast] at hx
        have p127 : (0 ≤ (j : Int)) = True := eq_true (by omega)
        have q127 : ((j : Int) < (l.length : Int)) = True := eq_true (by omega)
        have w4 : wrap64 ((j : Int) + 1) = (j : Int) + 1 := w64 (by omega) (by omega)
        go_wp2
        go_roundw
        case rel => exact ⟨j + 1, by omega, by omega, by go_num, HO_4, HB⟩
        case measure => first | (with_reducible exact ms0 hje) | exact ms1 hje (by have := HE.out; omega)
      · obtain rfl : j = e := by omega
        by_cases hjl : j < l.length
        · have hn := SEN.out hjl
          have c5b0 : ((j : Int) < (l.length : Int)) = True := eq_true (by omega)
          obtain ⟨ad2, eA, hx⟩ := Kd.at_int HL.out (j : Int) (by omega) (by omega)
          obtain rfl : ad = ad2 := by injection eA
          replace hx := (HB.out.cell (World.block_lt_of_cell? w _ hx)).trans hx
          rw [Int.toNat_natCast] at hx
          have p127 : (0 ≤ (j : Int)) = True := eq_true (by omega)
          have q127 : ((j : Int) < (l.length : Int)) = True := eq_true (by omega)
          by_cases s1 : 97 ≤ rd l (j : Int)
          · have c7b0 : decide (97 ≤ rd l (j : Int)) = true := decide_eq_true s1
            have c8b0 : decide (rd l (j : Int) ≤ 122) = false := decide_eq_false (fun s2 => hn ⟨s1, s2⟩)
            clear hn
            go_wp2
            go_meet
            case rel => exact ⟨rfl, HO_4, HB⟩
          · have c7b0 : decide (97 ≤ rd l (j : Int)) = false := decide_eq_false s1
            clear hn
            go_wp2
            go_meet
            case rel => exact ⟨rfl, HO_4, HB⟩
        · have c5b0 : ((j : Int) < (l.length : Int)) = False := eq_false (by omega)
          go_wp2
          go_meet
          case rel => exact ⟨rfl, HO_4, HB⟩
    case rest =>
     as_aux_lemma =>
     clear HO_4 HB hx
     obtain ⟨rfl, HO_4, HB⟩ := hcut
     obtain ⟨x6_2, hx6⟩ : ∃ x : Int, x = (e : Int) := ⟨_, rfl⟩
     rw [← hx6]
     have HEE := HE.out
     have c35b0 : (1 ≤ x6_2) = True := eq_true (by omega)
     have c34b0 : (0 ≤ x6_2) = True := eq_true (by omega)
     have c36b0 : (x6_2 ≤ (l.length : Int)) = True := eq_true (by omega)
     obtain ⟨A1, s1, es1, hcut1, hA1, hC1⟩ := mid_b (some ad) c l x6_2 w (by omega) (by omega) HLC.out HL.out
     obtain ⟨A2, s2, es2, hcut2, hA2, hC2⟩ := tail_b (some ad) c l x6_2 w (by omega) (by omega) HLC.out HL.out
     have HA1 := Aside0.mk hA1
     have HC1 := Aside0.mk hC1
     have HA2 := Aside0.mk hA2
     have HC2 := Aside0.mk hC2
     have HN2 := Aside0.mk (show s2.length ≤ 1048576 by rw [es2, List.length_drop]; omega)
     have CB := Aside0.mk (show impl_copyBytes.f s1 = some s1 by simp only [impl_copyBytes.f, Option.bind_some, List.length_nil, Nat.zero_add, List.nil_append]; rw [if_pos (by rw [es1, List.length_drop, List.length_take]; omega)])
     have HREL := Aside0.mk (show impl_pathRead.r k1 s2 (out ++ [⟨0, s1, 0⟩]) = some o by
      have h9 := H'.out
      rw [es1, es2, hx6, Int.toNat_natCast]
      exact h9)
     clear es1 es2 hA1 hC1 hA2 hC2 hx6 HEE H'
     go_wp2_with (first
      | ((with_reducible refine gg (f := 41) (some 43) rfl rfl rfl fr41 ?_); refine onc (impl_copyBytes.calls A1 _ s1 s1 _ (cb HA1) HC1.out CB.out) rfl ?_; rintro e9 w9 ⟨v43, rfl, ho, hb⟩; refine ⟨_, rfl, ?_⟩; replace HO_4 := Aside0.mk (Kd.S_elder' HO_4.out (Kd.R_base ho) hb); have HO155 := Aside0.mk (Kd.R_lower ho (bzz w)); replace HB := Bw.sw w hb; clear ho hb; obtain ⟨Ao43, co43, eo43⟩ := Kd.R_slice HO155.out; subst eo43)
      | ((with_reducible refine gate_builtin (b := .append) (xs := #[.tmp 39, .tmp 45]) rfl ?_); at_builtin; refine Kd.S_append k56 (w0 := w) w.heap.size rfl (.tmp 39) (.tmp 45) 26 56 (.agg #[(.int .i64 0), (.slice none 0 0), (.int .i64 0)]) 40 rfl Tryd.underlying26 info56 rfl (by decide) (by omega) u4 out (⟨0, s1, 0⟩ : S56) [.int .i64 0, .slice Ao43 s1.length co43, .int .i64 0] (fun _ => True) (fun k_ => some k_ = (.slice Ao43 s1.length co43 : Value).ownBlock) rfl rfl ?aP (fun k_ hk_ => ((Kd.R_mono (ok' := fun k_ => ((fun _ => True)) k_ ∧ some k_ ≠ (u4 : Value).ownBlock) (Kd.R_apart' (HO155.out) (Kd.S_typed HO_4.out) (by decide)) (fun k_ hk => ⟨trivial, hk.2⟩))).1 k_ hk_.symm) ?aF ?aO ?aB ?aS ?aL ?_; (case aP => exact k56_mkM _ _ _ (⟨0, s1, 0⟩ : S56) (Kd.R_mono (Kd.R_tight rfl (Kd.R_mono (ok' := fun k_ => ((fun _ => True)) k_ ∧ some k_ ≠ (u4 : Value).ownBlock) (Kd.R_apart' (HO155.out) (Kd.S_typed HO_4.out) (by decide)) (fun k_ hk => ⟨trivial, hk.2⟩))) (fun _ h_ => h_))); (case aB => exact bw); (case aF => exact (fun _ _ => trivial)); (case aO => exact Kd.S_mono HO_4.out (fun k_ hk => ⟨trivial, fun e_ => hk.2 e_⟩)); (case aS => exact (bzz w)); (case aL => have := HOL.out; omega); intro v168 w67 ho hb hg hat; replace HB := Bw.mk (w := w) hb; have HO169 := Aside0.mk ho; clear HO_4; clear ho hb hg hat))
     go_roundg k1
     case rel => exact ⟨_, A2, _, s2, rfl, HN2.out, HC2, HA2, HREL, ⟨by have := HK1.out; omega⟩, HO169, ⟨bw⟩⟩
     case measure => have := HK1.out; omega
   · rw [if_neg c46] at H
     have c46b0 : (x == 46) = false := beq_eq_false_iff_ne.mpr c46
     have c46b1 : (x != 46) = true := bne_iff_ne.mpr c46
     clear c46
     have hpr := posC_ge l
     by_cases c91 : x = 91
     · subst c91
       by_cases cp : 1 ≤ posC l
       · as_aux_lemma =>
         rw [if_pos ⟨rfl, cp⟩] at H
         have c7b0 : (posC l < 0) = False := eq_false (by omega)
         have c7b1 : decide (posC l < 0) = false := decide_eq_false (by omega)
         have c35b0 : (1 ≤ posC l) = True := eq_true (by omega)
         have c34b0 : (0 ≤ posC l) = True := eq_true (by omega)
         have c36b0 : (posC l ≤ (l.length : Int)) = True := eq_true (by omega)
         have w5 : wrap64 (posC l + 1) = posC l + 1 := w64 (by omega) (by omega)
         have c37b0 : (0 ≤ posC l + 1) = True := eq_true (by omega)
         have c38b0 : (posC l + 1 ≤ (l.length : Int)) = True := eq_true (by omega)
         obtain ⟨A1, s1, es1, hcut1, hA1, hC1⟩ := mid_b (some ad) c l (posC l) w (by omega) (by omega) HLC.out HL.out
         obtain ⟨A2, s2, es2, hcut2, hA2, hC2⟩ := tail_b (some ad) c l (posC l + 1) w (by omega) (by omega) HLC.out HL.out
         have HA1 := Aside0.mk hA1
         have HC1 := Aside0.mk hC1
         have HA2 := Aside0.mk hA2
         have HC2 := Aside0.mk hC2
         have HN1 := Aside0.mk (show s1.length ≤ 1048576 by rw [es1, List.length_drop, List.length_take]; omega)
         have HN2 := Aside0.mk (show s2.length ≤ 1048576 by rw [es2, List.length_drop]; omega)
         rw [← es1, show (posC l).toNat + 1 = (posC l + 1).toNat by omega, ← es2] at H
         clear es1 es2 hA1 hC1 hA2 hC2 hpr cp
         have hcs := Kd.C_string (P := Tryd.prog) (A := A1) (c := c - 1) Tryd.underlying22 Tryd.underlying5 Tryd.underlying9 (Kd.C_below HA1.out HB.out)
         cases hv : atoiO s1 with
         | none =>
           rw [hv] at H
           obtain rfl := Option.some.inj H
           have H2 := HF.out
           dsimp only at H2
           obtain ⟨rfl, rfl⟩ := Prod.mk.inj (Option.some.inj H2)
           have HV := Aside0.mk (atoiO_none hv)
           clear H H2 HF hv
           go_wp2_with (first
             | ((with_reducible refine gg (f := 71) (some 51) rfl rfl rfl frC0 ?_); refine onc (ic_b (some ad) c l _ (cb HL)) rfl ?_; rintro e9 w9 ⟨rfl, hb⟩; refine ⟨_, rfl, ?_⟩; replace HO_4 := Aside0.mk (Kd.S_below HO_4.out hb); replace hx := (hb.cell (World.block_lt_of_cell? _ _ hx)).trans hx; replace HB := Bw.sw w hb; replace hcs := Kd.C_string (P := Tryd.prog) (A := A1) (c := c - 1) Tryd.underlying22 Tryd.underlying5 Tryd.underlying9 (Kd.C_below HA1.out HB.out); clear hb)
             | ((with_reducible refine gg (f := 68) (some 65) rfl rfl rfl frC5 ?_); refine onc (atoi_no s1 HN1.out HV.out _ (Tb.b HTB.out HB.out)) rfl ?_; rintro e9 w9 ⟨v65, t65, p65, rfl, hb⟩; refine ⟨_, rfl, ?_⟩; replace HO_4 := Aside0.mk (Kd.S_below HO_4.out hb); replace HB := Bw.sw w hb; clear hb))
           go_ret2
           exact ⟨_, rfl, Kd.S_nil _ _ _ _ _, bw⟩
         | some v =>
           rw [hv] at H
           dsimp only at H
           have H' := Aside0.mk H
           have HV := Aside0.mk (atoiO_some hv)
           clear H hv
           go_wp2_with (first
             | ((with_reducible refine gg (f := 71) (some 51) rfl rfl rfl frC0 ?_); refine onc (ic_b (some ad) c l _ (cb HL)) rfl ?_; rintro e9 w9 ⟨rfl, hb⟩; refine ⟨_, rfl, ?_⟩; replace HO_4 := Aside0.mk (Kd.S_below HO_4.out hb); replace hx := (hb.cell (World.block_lt_of_cell? _ _ hx)).trans hx; replace HB := Bw.sw w hb; replace hcs := Kd.C_string (P := Tryd.prog) (A := A1) (c := c - 1) Tryd.underlying22 Tryd.underlying5 Tryd.underlying9 (Kd.C_below HA1.out HB.out); clear hb)
             | ((with_reducible refine gg (f := 68) (some 65) rfl rfl rfl frC5 ?_); refine onc (atoi_ok s1 HN1.out v HV.out _) rfl ?_; rintro e9 w9 ⟨rfl, hb⟩; refine ⟨_, rfl, ?_⟩; replace HO_4 := Aside0.mk (Kd.S_below HO_4.out hb); replace HB := Bw.sw w hb; clear hb)
             | ((with_reducible refine gate_builtin (b := .append) (xs := #[.tmp 70, .tmp 73]) rfl ?_); at_builtin; refine Kd.S_append k56 (w0 := w) w.heap.size rfl (.tmp 70) (.tmp 73) 26 56 (.agg #[(.int .i64 0), (.slice none 0 0), (.int .i64 0)]) 40 rfl Tryd.underlying26 info56 rfl (by decide) (by omega) u4 out (⟨1, ([] : List Int), v⟩ : S56) [.int .i64 1, .slice none 0 0, .int .i64 v] (fun _ => True) (fun _ => False) rfl rfl ?aP (fun k_ hk_ => hk_.elim) ?aF ?aO ?aB ?aS ?aL ?_; (case aP => exact k56_mkM _ _ _ (⟨1, ([] : List Int), v⟩ : S56) (Kd.R_nil _ _ _ _ _)); (case aB => exact bw); (case aF => exact (fun _ _ => trivial)); (case aO => exact Kd.S_mono HO_4.out (fun k_ hk => ⟨trivial, fun e_ => e_⟩)); (case aS => exact (bzz w)); (case aL => have := HOL.out; omega); intro v168 w67 ho hb hg hat; replace HB := Bw.mk (w := w) hb; have HO169 := Aside0.mk ho; clear HO_4; clear ho hb hg hat))
           go_roundg k1
           case rel => exact ⟨_, A2, _, s2, rfl, HN2.out, HC2, HA2, H', ⟨by have := HK1.out; omega⟩, HO169, ⟨bw⟩⟩
           case measure => have := HK1.out; omega
       · as_aux_lemma =>
         rw [if_neg (fun q => cp q.2)] at H
         obtain rfl := Option.some.inj H
         have H2 := HF.out
         dsimp only at H2
         obtain ⟨rfl, rfl⟩ := Prod.mk.inj (Option.some.inj H2)
         have hp0 : posC l ≠ 0 := posC_0 HXX.out
         have c7b0 : (posC l < 0) = True := eq_true (by omega)
         have c7b1 : decide (posC l < 0) = true := decide_eq_true (by omega)
         clear H H2 HF cp hp0 hpr
         go_wp2_with (first | ((with_reducible refine gg (f := 71) (some 51) rfl rfl rfl frC0 ?_); refine onc (ic_b (some ad) c l _ (cb HL)) rfl ?_; rintro e9 w9 ⟨rfl, hb⟩; refine ⟨_, rfl, ?_⟩; replace HO_4 := Aside0.mk (Kd.S_below HO_4.out hb); replace hx := (hb.cell (World.block_lt_of_cell? _ _ hx)).trans hx; replace HB := Bw.sw w hb; clear hb))
         go_ret2
         exact ⟨_, rfl, Kd.S_nil _ _ _ _ _, bw⟩
     · as_aux_lemma =>
       rw [if_neg (fun q => c91 q.1)] at H
       obtain rfl := Option.some.inj H
       have H2 := HF.out
       dsimp only at H2
       obtain ⟨rfl, rfl⟩ := Prod.mk.inj (Option.some.inj H2)
       have c91b0 : (x == 91) = false := beq_eq_false_iff_ne.mpr c91
       have c91b1 : (x != 91) = true := bne_iff_ne.mpr c91
       clear H H2 HF c91 hpr
       go_wp2_with (first | ((with_reducible refine gg (f := 71) (some 51) rfl rfl rfl frC0 ?_); refine onc (ic_b (some ad) c l _ (cb HL)) rfl ?_; rintro e9 w9 ⟨rfl, hb⟩; refine ⟨_, rfl, ?_⟩; replace HO_4 := Aside0.mk (Kd.S_below HO_4.out hb); replace hx := (hb.cell (World.block_lt_of_cell? _ _ hx)).trans hx; replace HB := Bw.sw w hb; clear hb))
       go_ret2
       exact ⟨_, rfl, Kd.S_nil _ _ _ _ _, bw⟩
theorem fr38 : Fr Tryd.prog 38 := ⟨_, Tryd.func38, by kernel_rfl, rfl⟩
def impl_PathRead.f (k : Nat) (l0 : List Int) : Option (List S56 × Bool) := impl_pathRead.f k l0
theorem impl_PathRead.kc (k : Nat) (l0 : List Int) (v0 : Value) (r1 : List S56) (r2 : Bool) (w : World) (h0 : Rd (Kd.slice 5 (Kd.int .u8)) w l0 [v0]) (TB : Tb w) (h : impl_PathRead.f k l0 = some (r1, r2)) :
    Calls Tryd.prog 13 #[v0] w fun e w' => ∃ v : Value, e = .returned (.tuple #[v, .bool r2]) ∧ OwnS k56 56 w' w.heap.size w'.heap.size r1 v ∧ Below w.heap.size w w' := by
  obtain ⟨A, c, e1, lc, g⟩ := h0.k
  injection e1 with e1
  subst e1
  have H := Aside0.mk h
  have G := Aside0.mk g
  have HTB := Aside0.mk TB
  clear h g h0 TB
  go_enter Tryd.func13, Tryd.ntmps13
  go_wp2_with ((with_reducible refine gg (f := 38) (some 5) rfl rfl rfl fr38 ?_); refine onc (impl_pathRead.calls k A c l0 r1 r2 _ G.out lc HTB.out H.out) rfl ?_; rintro e9 w9 ⟨v5, rfl, ho, hb⟩; refine ⟨_, rfl, ?_⟩; have HO := Aside0.mk ho; have HB := Aside0.mk hb; clear ho hb)
  go_ret2
  exact ⟨_, rfl, OwnS.of HO.out HB.out.size, HB.out⟩
end Go.Proofs.YtockllljeeakaaaDoor.PFnExactPathRead
