/- What a function comes to, walked by hand. No condition. -/
import Derived.Test.YtockllljeeakaaaPFnExactChangesOkx0
import Derived.Test.YtockllljeeakaaaPFnExactChangesOkx9
import Derived.Test.YtockllljeeakaaaMlaw
import Derived.Test.YtockllljeeakaaaMcore
namespace Go.Proofs.Ytockllljeeakaaa.PFnExactChangesOk
open Go.RowKit Go.Proofs.YtockllljeeakaaaW.PrintWords Go.Proofs.YtockllljeeakaaaW.PrintLast Go.Proofs.YtockllljeeakaaaW.PrintMore Go.Proofs.Ytockllljeeakaaa.M
attribute [local go_sem] max2_int min2_int max_two min_two max_three min_three max_four min_four Go.Proofs.Ytockllljeeakaaa.M.str_gtr Go.Proofs.Ytockllljeeakaaa.M.str_leq Go.Proofs.Ytockllljeeakaaa.M.str_geq   -- for this text's walks alone
set_option linter.unusedVariables false
set_option linter.unusedSimpArgs false
def spec_l2cmp.z (K n : Int) (l : List S79) : Option Int := if K = 0 then (if n = 0 then spec_l2num.f (l.length : Int) 0 else spec_l2num.f n 0) else spec_l2num.f K 0
set_option maxHeartbeats 8000000 in
set_option maxRecDepth 100000 in
theorem spec_l2cmp.callsz (a0_0 : Int) (a0_1 : Int) (A0_2 : Option Addr) (c0_2 : Nat) (l0_2 : List Int) (A0_3 : Option Addr) (c0_3 : Nat) (l0_3 : List (List Int)) (A0_4 : Option Addr) (c0_4 : Nat) (l0_4 : List (S79)) (r : Int) (w : World) (h : spec_l2cmp.z a0_0 a0_1 l0_4 = some r) :
  Calls Try.prog 109 #[.agg #[.int .i64 a0_0, .int .i64 a0_1, .slice A0_2 l0_2.length c0_2, .slice A0_3 l0_3.length c0_3, .slice A0_4 l0_4.length c0_4], .agg #[.int .i64 0, .int .i64 0, .slice none 0 0, .slice none 0 0, .slice none 0 0]] w fun e w' => e = .returned (.int .i64 r) ∧ Below w.heap.size w w' := by
 have HB := Bw.refl w
 unfold spec_l2cmp.z at h
 have H' := Aside0.mk h
 clear h
 go_enter Try.func109, Try.ntmps109
 go_upto_region 1 with (first
   | ((with_reducible refine gate_dst (N := 2) rfl ?_); refine box_event rfl (N := 2) rfl (cs := #[.int .i64 a0_0, .int .i64 a0_1, .slice A0_2 l0_2.length c0_2, .slice A0_3 l0_3.length c0_3, .slice A0_4 l0_4.length c0_4]) (t := 79) (by go_simp <;> rfl) ?_; intro g2 hg wb hbox hb; have BX : Bx wb g2 79 #[.int .i64 a0_0, .int .i64 a0_1, .slice A0_2 l0_2.length c0_2, .slice A0_3 l0_3.length c0_3, .slice A0_4 l0_4.length c0_4] := ⟨hbox⟩; have GEg2 := (Ge.of hg : Ge w.heap.size g2); replace HB := Bw.sw w hb; clear hb hbox hg)
   | ((with_reducible refine gate_dst (N := 3) rfl ?_); refine box_event rfl (N := 3) rfl (cs := #[.int .i64 0, .int .i64 0, .slice none 0 0, .slice none 0 0, .slice none 0 0]) (t := 79) (by go_simp <;> rfl) ?_; intro g3 hg wb hbox hb; replace BX := BX.b hb; have BY : Bx wb g3 79 #[.int .i64 0, .int .i64 0, .slice none 0 0, .slice none 0 0, .slice none 0 0] := ⟨hbox⟩; have GEg3 := (Ge.of hg : Ge w.heap.size g3); replace HB := Bw.sw w hb; clear hb hbox hg))
 obtain ⟨p0, p1, p2, p3, p4, p5, p6, p7, p8, p9⟩ := blk5 BX.h
 obtain ⟨q0, q1, q2, q3, q4, q5, q6, q7, q8, q9⟩ := blk5 BY.h
 by_cases hK : a0_0 = 0
 case neg =>
  have h := H'.out
  clear H'
  rw [if_neg hK] at h
  have b0 : (a0_0 != 0) = true := bne_iff_ne.mpr hK
  have b1 : (a0_0 = 0) = False := eq_false hK
  have h' := Aside0.mk h
  clear hK h
  go_wp2_with (first
    | ((with_reducible refine gate_dst (N := 17) rfl ?_); refine gg (some 17) rfl rfl rfl fr111 ?_; refine onc (spec_l2num.calls _ _ _ _ h'.out) rfl ?_; rintro e9 w9 ⟨rfl, ⟨nd, rfl⟩⟩; refine ⟨_, rfl, ?_⟩))
  go_ret
  exact ⟨rfl, bw⟩
 subst hK
 by_cases hn : a0_1 = 0
 case neg =>
  have h := H'.out
  clear H'
  rw [if_pos rfl, if_neg hn] at h
  have b0 : (a0_1 != 0) = true := bne_iff_ne.mpr hn
  have b1 : (a0_1 = 0) = False := eq_false hn
  have h' := Aside0.mk h
  clear hn h
  go_wp2_with (first
    | ((with_reducible refine gate_dst (N := 35) rfl ?_); refine gg (some 35) rfl rfl rfl fr111 ?_; refine onc (spec_l2num.calls _ _ _ _ h'.out) rfl ?_; rintro e9 w9 ⟨rfl, ⟨nd, rfl⟩⟩; refine ⟨_, rfl, ?_⟩))
  go_ret
  exact ⟨rfl, bw⟩
 subst hn
 have h := H'.out
 clear H'
 rw [if_pos rfl, if_pos rfl] at h
 have H' := Aside0.mk h
 clear h
 go_wp2
 go_loopg [5] 0 (fun kq v5 w' => v5 = .int .i64 0 ∧ Bx w' g2 79 #[.int .i64 0, .int .i64 0, .slice A0_2 l0_2.length c0_2, .slice A0_3 l0_3.length c0_3, .slice A0_4 l0_4.length c0_4] ∧ Bx w' g3 79 #[.int .i64 0, .int .i64 0, .slice none 0 0, .slice none 0 0, .slice none 0 0] ∧ Bw w w')
 case atStart => exact ⟨rfl, BX, BY, HB⟩
 case round =>
  clear BX BY HB p0 p1 p2 p3 p4 p5 p6 p7 p8 p9 q0 q1 q2 q3 q4 q5 q6 q7 q8 q9
  obtain ⟨rfl, BX, BY, HB⟩ := hrel
  obtain ⟨p0, p1, p2, p3, p4, p5, p6, p7, p8, p9⟩ := blk5 BX.h
  obtain ⟨q0, q1, q2, q3, q4, q5, q6, q7, q8, q9⟩ := blk5 BY.h
  by_cases hl : l0_4.length = 0
  · have b0 : ((0 : Int) < (l0_4.length : Int)) = False := eq_false (by omega)
    have b1 : (l0_4.length = 0) = True := eq_true hl
    clear hl
    go_wp2_with (first
      | ((with_reducible refine gate_dst (N := 87) rfl ?_); refine gg (some 87) rfl rfl rfl fr111 ?_; refine onc (spec_l2num.calls _ _ _ _ H'.out) rfl ?_; rintro e9 w9 ⟨rfl, ⟨nd, rfl⟩⟩; refine ⟨_, rfl, ?_⟩))
    all_goals go_ret
    all_goals exact ⟨rfl, bw⟩
  · have b0 : ((0 : Int) < (l0_4.length : Int)) = True := eq_true (by omega)
    have b1 : (l0_4.length = 0) = False := eq_false hl
    clear hl
    go_wp2_with (first
      | ((with_reducible refine gate_dst (N := 87) rfl ?_); refine gg (some 87) rfl rfl rfl fr111 ?_; refine onc (spec_l2num.calls _ _ _ _ H'.out) rfl ?_; rintro e9 w9 ⟨rfl, ⟨nd, rfl⟩⟩; refine ⟨_, rfl, ?_⟩))
    all_goals go_ret
    all_goals exact ⟨rfl, bw⟩
def spec_l3zero.f (_ : Nat) (a0_0 a0_1 : Int) (_ : List Int) (_ : List (List Int)) (l : List S79) : Option Bool := (spec_l2cmp.z a0_0 a0_1 l).bind fun t => some (t == 0)
theorem fr109 : Fr Try.prog 109 := ⟨_, Try.func109, by kernel_rfl, rfl⟩
set_option maxHeartbeats 8000000 in
set_option maxRecDepth 100000 in
theorem spec_l3zero.calls (k : Nat) (a0_0 : Int) (a0_1 : Int) (A0_2 : Option Addr) (c0_2 : Nat) (l0_2 : List Int) (A0_3 : Option Addr) (c0_3 : Nat) (l0_3 : List (List Int)) (A0_4 : Option Addr) (c0_4 : Nat) (l0_4 : List (S79)) (r : Bool) (w : World) (hr0_2 : Kd.C (Kd.int .u8) w A0_2 l0_2.length l0_2) (hc0_2 : l0_2.length ≤ c0_2) (hr0_3 : Kd.C (Kd.slice 5 (Kd.int .u8)) w A0_3 l0_3.length l0_3) (hc0_3 : l0_3.length ≤ c0_3) (hr0_4 : Kd.C k79 w A0_4 l0_4.length l0_4) (hc0_4 : l0_4.length ≤ c0_4) (h : spec_l3zero.f k a0_0 a0_1 l0_2 l0_3 l0_4 = some r) :
  Calls Try.prog 74 #[.agg #[.int .i64 a0_0, .int .i64 a0_1, .slice A0_2 l0_2.length c0_2, .slice A0_3 l0_3.length c0_3, .slice A0_4 l0_4.length c0_4]] w fun e w' => e = .returned (.bool r) ∧ Below w.heap.size w w' := by
 clear hr0_2 hr0_3 hr0_4 hc0_2 hc0_3 hc0_4
 have HB := Bw.refl w
 obtain ⟨t, A2, H⟩ := bnd h
 clear h
 obtain rfl := Option.some.inj H
 clear H
 go_enter Try.func74, Try.ntmps74
 go_wp2_with (first
   | ((with_reducible refine gate_dst (N := 1) rfl ?_); refine box_event rfl (N := 1) rfl (cs := #[.int .i64 a0_0, .int .i64 a0_1, .slice A0_2 l0_2.length c0_2, .slice A0_3 l0_3.length c0_3, .slice A0_4 l0_4.length c0_4]) (t := 79) (by go_simp <;> rfl) ?_; intro g2 hg wb hbox hb; have BX : Bx wb g2 79 #[.int .i64 a0_0, .int .i64 a0_1, .slice A0_2 l0_2.length c0_2, .slice A0_3 l0_3.length c0_3, .slice A0_4 l0_4.length c0_4] := ⟨hbox⟩; have GEg2 := (Ge.of hg : Ge w.heap.size g2); replace HB := Bw.sw w hb; clear hb hbox hg; obtain ⟨p0, p1, p2, p3, p4, p5, p6, p7, p8, p9⟩ := blk5 BX.h)
   | ((with_reducible refine gate_callee (f := 109) rfl ?_); refine goesL_ (some 5) rfl rfl Try.func109 (by kernel_rfl) rfl #[.agg #[.int .i64 a0_0, .int .i64 a0_1, .slice A0_2 l0_2.length c0_2, .slice A0_3 l0_3.length c0_3, .slice A0_4 l0_4.length c0_4], .agg #[.int .i64 0, .int .i64 0, .slice none 0 0, .slice none 0 0, .slice none 0 0]] rfl (by (try simp only [List.map_toArray, List.map_cons, List.map_nil]); first | done | rfl) ?_; refine (spec_l2cmp.callsz _ _ _ _ _ _ _ _ _ _ _ _ _ A2).mono ?_; rintro e w5 ⟨rfl, hb⟩; refine ⟨_, rfl, ?_⟩; replace HB := Bw.sw w hb; clear hb))
 go_ret
 exact ⟨rfl, bw⟩
end Go.Proofs.Ytockllljeeakaaa.PFnExactChangesOk
