/- What a function comes to, walked by hand. No condition. -/
import Derived.Test.YtmigpeaiepdmbaaPFnExactValBytesx0
import Derived.Test.YtmigpeaiepdmbaaPFnExactValBytesx10
import Derived.Test.YtmigpeaiepdmbaaMlend
namespace Go.Proofs.Ytmigpeaiepdmbaa.PFnExactValBytes
open Go.RowKit Go.Proofs.YtmigpeaiepdmbaaW.PrintWords Go.Proofs.YtmigpeaiepdmbaaW.PrintLast Go.Proofs.YtmigpeaiepdmbaaW.PrintMore Go.Proofs.Ytmigpeaiepdmbaa.M
attribute [local go_sem] max2_int min2_int max_two min_two max_three min_three max_four min_four Go.Proofs.Ytmigpeaiepdmbaa.M.str_gtr Go.Proofs.Ytmigpeaiepdmbaa.M.str_leq Go.Proofs.Ytmigpeaiepdmbaa.M.str_geq   -- for this text's walks alone
set_option linter.unusedVariables false
set_option linter.unusedSimpArgs false
mutual
/-- What a row is put to: the parts. -/
def impl_Value_bytes.l0 : Nat → S40 → List Int → Nat → Option (List Int)
  | 0, _, _, _ => none
  | k + 1, x, b, i => if i < x.f4.length then (if x.f0 = 5 then (if i < x.f3.length then impl_putText.f k b (rd_L1 x.f3 (i : Int)) else none) else some b).bind fun t => (impl_Value_bytes.f k (rd_T40 x.f4 (i : Int)) t).bind fun u => impl_Value_bytes.l0 k x u (i + 1) else some b
/-- What a row is put to. -/
def impl_Value_bytes.f : Nat → S40 → List Int → Option (List Int)
  | 0, _, _ => none
  | k + 1, x, b => (impl_putNum.f k b x.f0).bind fun t => if x.f0 = 1 then impl_putNum.f k t x.f1 else if x.f0 = 2 then (if x.f1 < 0 then (impl_putNum.f k t 1).bind fun u => (impl_putNum.f k u (wrap64 (Int.tdiv (wrap64 (-x.f1)) 1000000))).bind fun s => impl_putNum.f k s (Int.tmod (wrap64 (-x.f1)) 1000000) else (impl_putNum.f k t 0).bind fun u => (impl_putNum.f k u (wrap64 (Int.tdiv x.f1 1000000))).bind fun s => impl_putNum.f k s (Int.tmod x.f1 1000000)) else if x.f0 = 3 then impl_putText.f k t x.f2 else if x.f0 = 4 ∨ x.f0 = 5 then (impl_putNum.f k t (x.f4.length : Int)).bind fun u => impl_Value_bytes.l0 k x u 0 else some t
end
theorem putNum_ka (k : Nat) (l : List Int) (v : Value) (n : Int) (r : List Int) (w0 w : World) (Q : Nat → Prop) (hb : Below w0.heap.size w0 w) (h0 : Ln 5 w0 Q w l v) (h : impl_putNum.f k l n = some r) :
    Calls Try.prog 105 #[v, .int .i64 n] w fun e w' => ∃ v', e = .returned v' ∧ Put 5 w0 Q w r v' w' := by
  refine (impl_putNum.calls k Q v l n r w0 w hb h0.r h).mono ?_
  rintro e w' ⟨v', rfl, h1, h2, h3⟩
  exact ⟨_, rfl, ⟨⟨h1⟩, h2, h3⟩⟩
theorem putText_ka (k : Nat) (l : List Int) (v : Value) (A : Option Addr) (c : Nat) (t : List Int) (r : List Int) (w0 w : World) (Q : Nat → Prop) (hQ : ∀ k, Q k → w0.heap.size ≤ k) (hb : Below w0.heap.size w0 w) (h0 : Ln 5 w0 Q w l v) (h1 : (Kd.int .u8).C w0 A t.length t) (hc : t.length ≤ c) (h : impl_putText.f k l t = some r) :
    Calls Try.prog 106 #[v, .slice A t.length c] w fun e w' => ∃ v', e = .returned v' ∧ Put 5 w0 Q w r v' w' := by
  refine (impl_putText.calls k Q v l A c t r w0 w hb h0.r (fun W' hk => cbytes_kept h1 hb hQ hk) hc h).mono ?_
  rintro e w' ⟨v', rfl, h1, h2, h3⟩
  exact ⟨_, rfl, ⟨⟨h1⟩, h2, h3⟩⟩
theorem frn105 : Fr Try.prog 105 := ⟨_, Try.func105, by kernel_rfl, rfl⟩
theorem frn106 : Fr Try.prog 106 := ⟨_, Try.func106, by kernel_rfl, rfl⟩
theorem frnB : Fr Try.prog 81 := ⟨_, Try.func81, by kernel_rfl, rfl⟩
set_option maxRecDepth 100000 in
set_option maxHeartbeats 8000000 in
theorem impl_Value_bytes.ka (k : Nat) : ∀ (x : S40) (b0 : Array Value) (l : List Int) (v : Value) (r : List Int) (w0 w : World) (P : Nat → Prop), (∀ k, P k → w0.heap.size ≤ k) → Below w0.heap.size w0 w → Ln 5 w0 P w l v → Rd k40 w0 x b0.toList → impl_Value_bytes.f k x l = some r →
    Calls Try.prog 81 #[.agg b0, v] w fun e w' => ∃ v', e = .returned v' ∧ Put 5 w0 P w r v' w' := by
  induction k using Nat.strongRecOn with
  | ind k ih =>
  intro x b0 l v r w0 w P hP hB h0 hx h
  cases k with
  | zero => simp [impl_Value_bytes.f] at h
  | succ kk =>
  obtain ⟨A2, c2, A3, c3, A4, c4, e0, lc2, g2, lc3, g3, lc4, g4⟩ := k40_open hx.k
  obtain ⟨a0, a1, l2, l3, l4⟩ := x
  obtain rfl : b0 = #[.int .i64 a0, .int .i64 a1, .slice A2 l2.length c2, .slice A3 l3.length c3, .slice A4 l4.length c4] := by rw [← b0.toArray_toList, e0]
  simp only at lc2 g2 lc3 g3 lc4 g4
  simp only [impl_Value_bytes.f] at h
  have HB := Aside0.mk hB
  have H0 := h0
  have HP := Aside0.mk hP
  have G2 := Aside0.mk g2
  have G3 := Aside0.mk g3
  have G4 := Aside0.mk g4
  have LC2 := Aside0.mk lc2
  have hu := Try.underlying40
  clear hP hB h0 g2 g3 g4 e0 hx
  have h9 := bnd h
  clear h
  obtain ⟨t1, A1, h⟩ := h9
  replace A1 := Aside0.mk A1
  by_cases n1 : a0 = 1
  · subst n1
    rw [if_pos rfl] at h
    have A2_ := Aside0.mk h
    clear h
    go_enter Try.func81, Try.ntmps81
    go_wp2_with (first
      | ((with_reducible refine gate_dst (N := 2) rfl ?_); refine bxb (bs := #[.int .i64 1, .int .i64 a1, .slice A2 l2.length c2, .slice A3 l3.length c3, .slice A4 l4.length c4]) 2 rfl rfl rfl rfl ?_; intro gb w1 BX hb1 hle hlt; have I := (In.start HB.out H0 HP.out).box hb1 hle hlt; clear hb1; obtain ⟨hc0, hc1, hc2, hc3, hc4, hf0, hf1, hf2, hf3, hf4⟩ := blk5 BX.h; simp only [Act.put, List.setIfInBounds_toArray, List.set_cons_zero, List.set_cons_succ])
      | ((with_reducible refine gate_dst (N := 12) rfl ?_); refine gg (some 12) rfl rfl rfl frn105 ?_; refine onc (putNum_ka kk _ _ 1 t1 w0 _ _ I.hb I.ln A1.out) rfl ?_; rintro e q1 ⟨vq1, rfl, p⟩; refine ⟨_, rfl, ?_⟩; replace BX := BX.put p (fun h => h.2 rfl); replace I := I.put p; clear p; obtain ⟨hc0, hc1, hc2, hc3, hc4, hf0, hf1, hf2, hf3, hf4⟩ := blk5 BX.h; simp only [Act.put, List.setIfInBounds_toArray, List.set_cons_zero, List.set_cons_succ])
      | ((with_reducible refine gate_dst (N := 20) rfl ?_); refine gg (some 20) rfl rfl rfl frn105 ?_; refine onc (putNum_ka kk _ _ a1 r w0 _ _ I.hb I.ln A2_.out) rfl ?_; rintro e q2 ⟨vq2, rfl, p⟩; refine ⟨_, rfl, ?_⟩; replace BX := BX.put p (fun h => h.2 rfl); replace I := I.put p; clear p; obtain ⟨hc0, hc1, hc2, hc3, hc4, hf0, hf1, hf2, hf3, hf4⟩ := blk5 BX.h; simp only [Act.put, List.setIfInBounds_toArray, List.set_cons_zero, List.set_cons_succ]))
    go_ret
    exact ⟨_, rfl, I.done⟩
  rw [if_neg n1] at h
  by_cases n2 : a0 = 2
  · subst n2
    rw [if_pos rfl] at h
    by_cases m : a1 < 0
    · rw [if_pos m] at h
      have dm : decide (a1 < 0) = true := decide_eq_true m
      clear m
      have h9 := bnd h
      clear h
      obtain ⟨t2, A2_, h⟩ := h9
      replace A2_ := Aside0.mk A2_
      have h9 := bnd h
      clear h
      obtain ⟨t3, A3_, h⟩ := h9
      replace A3_ := Aside0.mk A3_
      have A4_ := Aside0.mk h
      clear h
      go_enter Try.func81, Try.ntmps81
      go_wp2_with (first
        | ((with_reducible refine gate_dst (N := 2) rfl ?_); refine bxb (bs := #[.int .i64 2, .int .i64 a1, .slice A2 l2.length c2, .slice A3 l3.length c3, .slice A4 l4.length c4]) 2 rfl rfl rfl rfl ?_; intro gb w1 BX hb1 hle hlt; have I := (In.start HB.out H0 HP.out).box hb1 hle hlt; clear hb1; obtain ⟨hc0, hc1, hc2, hc3, hc4, hf0, hf1, hf2, hf3, hf4⟩ := blk5 BX.h; simp only [Act.put, List.setIfInBounds_toArray, List.set_cons_zero, List.set_cons_succ])
        | ((with_reducible refine gate_dst (N := 12) rfl ?_); refine gg (some 12) rfl rfl rfl frn105 ?_; refine onc (putNum_ka kk _ _ 2 t1 w0 _ _ I.hb I.ln A1.out) rfl ?_; rintro e q3 ⟨vq3, rfl, p⟩; refine ⟨_, rfl, ?_⟩; replace BX := BX.put p (fun h => h.2 rfl); replace I := I.put p; clear p; obtain ⟨hc0, hc1, hc2, hc3, hc4, hf0, hf1, hf2, hf3, hf4⟩ := blk5 BX.h; simp only [Act.put, List.setIfInBounds_toArray, List.set_cons_zero, List.set_cons_succ])
        | ((with_reducible refine gate_dst (N := 31) rfl ?_); refine gg (some 31) rfl rfl rfl frn105 ?_; refine onc (putNum_ka kk _ _ 1 t2 w0 _ _ I.hb I.ln A2_.out) rfl ?_; rintro e q4 ⟨vq4, rfl, p⟩; refine ⟨_, rfl, ?_⟩; replace BX := BX.put p (fun h => h.2 rfl); replace I := I.put p; clear p; obtain ⟨hc0, hc1, hc2, hc3, hc4, hf0, hf1, hf2, hf3, hf4⟩ := blk5 BX.h; simp only [Act.put, List.setIfInBounds_toArray, List.set_cons_zero, List.set_cons_succ])
        | ((with_reducible refine gate_dst (N := 34) rfl ?_); refine gg (some 34) rfl rfl rfl frn105 ?_; refine onc (putNum_ka kk _ _ (wrap64 (Int.tdiv (wrap64 (-a1)) 1000000)) t3 w0 _ _ I.hb I.ln A3_.out) rfl ?_; rintro e q5 ⟨vq5, rfl, p⟩; refine ⟨_, rfl, ?_⟩; replace BX := BX.put p (fun h => h.2 rfl); replace I := I.put p; clear p; obtain ⟨hc0, hc1, hc2, hc3, hc4, hf0, hf1, hf2, hf3, hf4⟩ := blk5 BX.h; simp only [Act.put, List.setIfInBounds_toArray, List.set_cons_zero, List.set_cons_succ])
        | ((with_reducible refine gate_dst (N := 37) rfl ?_); refine gg (some 37) rfl rfl rfl frn105 ?_; refine onc (putNum_ka kk _ _ (Int.tmod (wrap64 (-a1)) 1000000) r w0 _ _ I.hb I.ln A4_.out) rfl ?_; rintro e q6 ⟨vq6, rfl, p⟩; refine ⟨_, rfl, ?_⟩; replace BX := BX.put p (fun h => h.2 rfl); replace I := I.put p; clear p; obtain ⟨hc0, hc1, hc2, hc3, hc4, hf0, hf1, hf2, hf3, hf4⟩ := blk5 BX.h; simp only [Act.put, List.setIfInBounds_toArray, List.set_cons_zero, List.set_cons_succ]))
      go_ret
      exact ⟨_, rfl, I.done⟩
    · rw [if_neg m] at h
      have dm : decide (a1 < 0) = false := decide_eq_false m
      clear m
      have h9 := bnd h
      clear h
      obtain ⟨t2, A2_, h⟩ := h9
      replace A2_ := Aside0.mk A2_
      have h9 := bnd h
      clear h
      obtain ⟨t3, A3_, h⟩ := h9
      replace A3_ := Aside0.mk A3_
      have A4_ := Aside0.mk h
      clear h
      go_enter Try.func81, Try.ntmps81
      go_wp2_with (first
        | ((with_reducible refine gate_dst (N := 2) rfl ?_); refine bxb (bs := #[.int .i64 2, .int .i64 a1, .slice A2 l2.length c2, .slice A3 l3.length c3, .slice A4 l4.length c4]) 2 rfl rfl rfl rfl ?_; intro gb w1 BX hb1 hle hlt; have I := (In.start HB.out H0 HP.out).box hb1 hle hlt; clear hb1; obtain ⟨hc0, hc1, hc2, hc3, hc4, hf0, hf1, hf2, hf3, hf4⟩ := blk5 BX.h; simp only [Act.put, List.setIfInBounds_toArray, List.set_cons_zero, List.set_cons_succ])
        | ((with_reducible refine gate_dst (N := 12) rfl ?_); refine gg (some 12) rfl rfl rfl frn105 ?_; refine onc (putNum_ka kk _ _ 2 t1 w0 _ _ I.hb I.ln A1.out) rfl ?_; rintro e q7 ⟨vq7, rfl, p⟩; refine ⟨_, rfl, ?_⟩; replace BX := BX.put p (fun h => h.2 rfl); replace I := I.put p; clear p; obtain ⟨hc0, hc1, hc2, hc3, hc4, hf0, hf1, hf2, hf3, hf4⟩ := blk5 BX.h; simp only [Act.put, List.setIfInBounds_toArray, List.set_cons_zero, List.set_cons_succ])
        | ((with_reducible refine gate_dst (N := 31) rfl ?_); refine gg (some 31) rfl rfl rfl frn105 ?_; refine onc (putNum_ka kk _ _ 0 t2 w0 _ _ I.hb I.ln A2_.out) rfl ?_; rintro e q8 ⟨vq8, rfl, p⟩; refine ⟨_, rfl, ?_⟩; replace BX := BX.put p (fun h => h.2 rfl); replace I := I.put p; clear p; obtain ⟨hc0, hc1, hc2, hc3, hc4, hf0, hf1, hf2, hf3, hf4⟩ := blk5 BX.h; simp only [Act.put, List.setIfInBounds_toArray, List.set_cons_zero, List.set_cons_succ])
        | ((with_reducible refine gate_dst (N := 34) rfl ?_); refine gg (some 34) rfl rfl rfl frn105 ?_; refine onc (putNum_ka kk _ _ (wrap64 (Int.tdiv a1 1000000)) t3 w0 _ _ I.hb I.ln A3_.out) rfl ?_; rintro e q9 ⟨vq9, rfl, p⟩; refine ⟨_, rfl, ?_⟩; replace BX := BX.put p (fun h => h.2 rfl); replace I := I.put p; clear p; obtain ⟨hc0, hc1, hc2, hc3, hc4, hf0, hf1, hf2, hf3, hf4⟩ := blk5 BX.h; simp only [Act.put, List.setIfInBounds_toArray, List.set_cons_zero, List.set_cons_succ])
        | ((with_reducible refine gate_dst (N := 37) rfl ?_); refine gg (some 37) rfl rfl rfl frn105 ?_; refine onc (putNum_ka kk _ _ (Int.tmod a1 1000000) r w0 _ _ I.hb I.ln A4_.out) rfl ?_; rintro e q10 ⟨vq10, rfl, p⟩; refine ⟨_, rfl, ?_⟩; replace BX := BX.put p (fun h => h.2 rfl); replace I := I.put p; clear p; obtain ⟨hc0, hc1, hc2, hc3, hc4, hf0, hf1, hf2, hf3, hf4⟩ := blk5 BX.h; simp only [Act.put, List.setIfInBounds_toArray, List.set_cons_zero, List.set_cons_succ]))
      go_ret
      exact ⟨_, rfl, I.done⟩
  rw [if_neg n2] at h
  by_cases n3 : a0 = 3
  · subst n3
    rw [if_pos rfl] at h
    have A2_ := Aside0.mk h
    clear h
    go_enter Try.func81, Try.ntmps81
    go_wp2_with (first
      | ((with_reducible refine gate_dst (N := 2) rfl ?_); refine bxb (bs := #[.int .i64 3, .int .i64 a1, .slice A2 l2.length c2, .slice A3 l3.length c3, .slice A4 l4.length c4]) 2 rfl rfl rfl rfl ?_; intro gb w1 BX hb1 hle hlt; have I := (In.start HB.out H0 HP.out).box hb1 hle hlt; clear hb1; obtain ⟨hc0, hc1, hc2, hc3, hc4, hf0, hf1, hf2, hf3, hf4⟩ := blk5 BX.h; simp only [Act.put, List.setIfInBounds_toArray, List.set_cons_zero, List.set_cons_succ])
      | ((with_reducible refine gate_dst (N := 12) rfl ?_); refine gg (some 12) rfl rfl rfl frn105 ?_; refine onc (putNum_ka kk _ _ 3 t1 w0 _ _ I.hb I.ln A1.out) rfl ?_; rintro e q11 ⟨vq11, rfl, p⟩; refine ⟨_, rfl, ?_⟩; replace BX := BX.put p (fun h => h.2 rfl); replace I := I.put p; clear p; obtain ⟨hc0, hc1, hc2, hc3, hc4, hf0, hf1, hf2, hf3, hf4⟩ := blk5 BX.h; simp only [Act.put, List.setIfInBounds_toArray, List.set_cons_zero, List.set_cons_succ])
      | ((with_reducible refine gate_dst (N := 43) rfl ?_); refine gg (some 43) rfl rfl rfl frn106 ?_; refine onc (putText_ka kk _ _ A2 c2 l2 r w0 _ _ I.lo I.hb I.ln G2.out LC2.out A2_.out) rfl ?_; rintro e q12 ⟨vq12, rfl, p⟩; refine ⟨_, rfl, ?_⟩; replace BX := BX.put p (fun h => h.2 rfl); replace I := I.put p; clear p; obtain ⟨hc0, hc1, hc2, hc3, hc4, hf0, hf1, hf2, hf3, hf4⟩ := blk5 BX.h; simp only [Act.put, List.setIfInBounds_toArray, List.set_cons_zero, List.set_cons_succ]))
    go_ret
    exact ⟨_, rfl, I.done⟩
  rw [if_neg n3] at h
  by_cases n45 : a0 = 4 ∨ a0 = 5
  · rw [if_pos n45] at h
    have h9 := bnd h
    clear h
    obtain ⟨t2, A2_, h⟩ := h9
    replace A2_ := Aside0.mk A2_
    have A3_ := Aside0.mk h
    clear h
    have hll : l4.length ≤ 9223372036854775807 := G4.out.2.1
    have e1 : (a0 == 1) = false := beq_eq_false_iff_ne.mpr n1
    have d1 : decide (a0 = 1) = false := decide_eq_false n1
    have e2 : (a0 == 2) = false := beq_eq_false_iff_ne.mpr n2
    have d2 : decide (a0 = 2) = false := decide_eq_false n2
    have e3 : (a0 == 3) = false := beq_eq_false_iff_ne.mpr n3
    have d3 : decide (a0 = 3) = false := decide_eq_false n3
    have e45 : (a0 == 4) = true ∨ (a0 == 4) = false ∧ (a0 == 5) = true := by rcases n45 with rfl | rfl <;> simp
    rcases n45 with rfl | rfl
    · clear e45 n1 n2 n3
      go_enter Try.func81, Try.ntmps81
      go_wp2_with (first
        | ((with_reducible refine gate_dst (N := 2) rfl ?_); refine bxb (bs := #[.int .i64 4, .int .i64 a1, .slice A2 l2.length c2, .slice A3 l3.length c3, .slice A4 l4.length c4]) 2 rfl rfl rfl rfl ?_; intro gb w1 BX hb1 hle hlt; have I := (In.start HB.out H0 HP.out).box hb1 hle hlt; clear hb1; obtain ⟨hc0, hc1, hc2, hc3, hc4, hf0, hf1, hf2, hf3, hf4⟩ := blk5 BX.h; simp only [Act.put, List.setIfInBounds_toArray, List.set_cons_zero, List.set_cons_succ])
        | ((with_reducible refine gate_dst (N := 12) rfl ?_); refine gg (some 12) rfl rfl rfl frn105 ?_; refine onc (putNum_ka kk _ _ 4 t1 w0 _ _ I.hb I.ln A1.out) rfl ?_; rintro e q13 ⟨vq13, rfl, p⟩; refine ⟨_, rfl, ?_⟩; replace BX := BX.put p (fun h => h.2 rfl); replace I := I.put p; clear p; obtain ⟨hc0, hc1, hc2, hc3, hc4, hf0, hf1, hf2, hf3, hf4⟩ := blk5 BX.h; simp only [Act.put, List.setIfInBounds_toArray, List.set_cons_zero, List.set_cons_succ])
        | ((with_reducible refine gate_dst (N := 51) rfl ?_); refine gg (some 51) rfl rfl rfl frn105 ?_; refine onc (putNum_ka kk _ _ (l4.length : Int) t2 w0 _ _ I.hb I.ln A2_.out) rfl ?_; rintro e q14 ⟨vq14, rfl, p⟩; refine ⟨_, rfl, ?_⟩; replace BX := BX.put p (fun h => h.2 rfl); replace I := I.put p; clear p; obtain ⟨hc0, hc1, hc2, hc3, hc4, hf0, hf1, hf2, hf3, hf4⟩ := blk5 BX.h; simp only [Act.put, List.setIfInBounds_toArray, List.set_cons_zero, List.set_cons_succ]))
      go_loopw [1, 55] (fun v1 v55 wr => ∃ (i kq : Nat) (b : List Int), i ≤ l4.length ∧ v55 = .int .i64 i ∧ kq ≤ kk ∧ Aside0 (impl_Value_bytes.l0 kq ⟨4, a1, l2, l3, l4⟩ b i = some r) ∧ In 5 w0 w P (fun k => (P k ∨ w.heap.size ≤ k) ∧ k ≠ gb) wr b v1 ∧ Bx wr gb 40 #[.int .i64 4, .int .i64 a1, .slice A2 l2.length c2, .slice A3 l3.length c3, .slice A4 l4.length c4]) (fun _ v55 _ => l4.length - (intOf v55).toNat)
      case atStart => exact ⟨0, kk, t2, Nat.zero_le _, rfl, Nat.le_refl _, A3_, I, BX⟩
      case round =>
        clear A3_ A2_ A1 I BX hc0 hc1 hc2 hc3 hc4 hf0 hf1 hf2 hf3 hf4
        obtain ⟨i, kq, b, hil, rfl, hkq, HL, I, BX⟩ := hrel
        have h := HL.out
        clear HL
        cases kq with
        | zero => simp [impl_Value_bytes.l0] at h
        | succ kq =>
        simp only [impl_Value_bytes.l0] at h
        obtain ⟨hc0, hc1, hc2, hc3, hc4, hf0, hf1, hf2, hf3, hf4⟩ := blk5 BX.h
        by_cases hlt : i < l4.length
        · rw [if_pos hlt] at h
          have h9 := bnd h
          clear h
          obtain ⟨t3, B1, h⟩ := h9
          have h9 := bnd h
          clear h
          obtain ⟨t4, B2, h⟩ := h9
          have HL := Aside0.mk h
          clear h
          replace B2 := Aside0.mk B2
          obtain ⟨ad, D2, d2, D3, d3, D4, d4, rfl, x0, x1, x2, x3, x4, y2, z2, y3, z3, y4, z4⟩ := at_T40 G4.out (i : Int) (by omega) (by omega)
          rw [Int.toNat_natCast] at x0 x1 x2 x3 x4
          replace x0 := (I.hb.cell (World.block_lt_of_cell? w0 _ x0)).trans x0
          replace x1 := (I.hb.cell (World.block_lt_of_cell? w0 _ x1)).trans x1
          replace x2 := (I.hb.cell (World.block_lt_of_cell? w0 _ x2)).trans x2
          replace x3 := (I.hb.cell (World.block_lt_of_cell? w0 _ x3)).trans x3
          replace x4 := (I.hb.cell (World.block_lt_of_cell? w0 _ x4)).trans x4
          have C0 := Aside0.mk (k40_mk w0 (rd_T40 l4 (i : Int)) y2 z2 y3 z3 y4 z4)
          clear y2 z2 y3 z3 y4 z4
          have p1 : (0 ≤ (i : Int)) = True := eq_true (by omega)
          have p2 : ((i : Int) < (l4.length : Int)) = True := eq_true (by omega)
          obtain ⟨xx, hxx⟩ : ∃ y, y = rd_T40 l4 (i : Int) := ⟨_, rfl⟩
          rw [← hxx] at x0 x1 x2 x3 x4 C0 B2
          clear hxx
          rw [if_neg (by decide)] at B1
          obtain rfl := Option.some.inj B1
          clear B1
          have NB : gb ≠ wr.heap.size := Nat.ne_of_lt BX.lt
          go_wp2_with (first
            | ((with_reducible refine gate_dst (N := 8) rfl ?_); refine alas 8 7 rfl rfl rfl rfl rfl rfl rfl rfl rfl rfl (fun _ => rfl) (fun _ => rfl) (fun _ => rfl) (v := .int .i64 (i : Int)) (bs := #[.int .i64 xx.f0, .int .i64 xx.f1, .slice D2 xx.f2.length d2, .slice D3 xx.f3.length d3, .slice D4 xx.f4.length d4]) (cs := #[.int .i64 0, .int .i64 0, .slice none 0 0, .slice none 0 0, .slice none 0 0]) (t := 40) (by kernel_rfl) rfl (by simp [Value.oneCell']) ?_; intro gl hgl wl hyl hbl; have BY := Bx.mk hyl; have I2 := I.box hbl (Nat.le_of_eq hgl.symm) BY.lt; replace BX := BX.b hbl; have NG := Aside0.mk (show gb ≠ gl from fun e_ => NB (e_.trans hgl)); clear hyl hbl hgl; obtain ⟨hc0, hc1, hc2, hc3, hc4, hf0, hf1, hf2, hf3, hf4⟩ := blk5 BX.h; obtain ⟨gc0, gc1, gc2, gc3, gc4, gf0, gf1, gf2, gf3, gf4⟩ := blk5 BY.h; simp only [Act.put, List.setIfInBounds_toArray, List.set_cons_zero, List.set_cons_succ])
            | ((with_reducible refine gate_dst (N := 72) rfl ?_); refine gg (some 72) rfl rfl rfl frnB ?_; refine onc (ih kq (by omega) xx #[.int .i64 xx.f0, .int .i64 xx.f1, .slice D2 xx.f2.length d2, .slice D3 xx.f3.length d3, .slice D4 xx.f4.length d4] _ _ t4 w0 _ _ I2.lo I2.hb I2.ln ⟨C0.out⟩ B2.out) rfl ?_; rintro e q16 ⟨vq16, rfl, p⟩; refine ⟨_, rfl, ?_⟩; replace BX := BX.put p (fun h => h.1.2 rfl); replace I2 := I2.put p; clear p; simp only [Act.put, List.setIfInBounds_toArray, List.set_cons_zero, List.set_cons_succ]))
          go_roundw
          case rel => exact ⟨i + 1, kq, t4, by omega, by go_num, by omega, HL, I2.back I, BX⟩
          case measure => simp [intOf]; omega
        · rw [if_neg hlt] at h
          obtain rfl := Option.some.inj h
          have p2 : ((i : Int) < (l4.length : Int)) = False := eq_false (by omega)
          go_wp2
          go_ret
          exact ⟨_, rfl, I.done⟩
    · clear e45 n1 n2 n3
      go_enter Try.func81, Try.ntmps81
      go_wp2_with (first
        | ((with_reducible refine gate_dst (N := 2) rfl ?_); refine bxb (bs := #[.int .i64 5, .int .i64 a1, .slice A2 l2.length c2, .slice A3 l3.length c3, .slice A4 l4.length c4]) 2 rfl rfl rfl rfl ?_; intro gb w1 BX hb1 hle hlt; have I := (In.start HB.out H0 HP.out).box hb1 hle hlt; clear hb1; obtain ⟨hc0, hc1, hc2, hc3, hc4, hf0, hf1, hf2, hf3, hf4⟩ := blk5 BX.h; simp only [Act.put, List.setIfInBounds_toArray, List.set_cons_zero, List.set_cons_succ])
        | ((with_reducible refine gate_dst (N := 12) rfl ?_); refine gg (some 12) rfl rfl rfl frn105 ?_; refine onc (putNum_ka kk _ _ 5 t1 w0 _ _ I.hb I.ln A1.out) rfl ?_; rintro e q17 ⟨vq17, rfl, p⟩; refine ⟨_, rfl, ?_⟩; replace BX := BX.put p (fun h => h.2 rfl); replace I := I.put p; clear p; obtain ⟨hc0, hc1, hc2, hc3, hc4, hf0, hf1, hf2, hf3, hf4⟩ := blk5 BX.h; simp only [Act.put, List.setIfInBounds_toArray, List.set_cons_zero, List.set_cons_succ])
        | ((with_reducible refine gate_dst (N := 51) rfl ?_); refine gg (some 51) rfl rfl rfl frn105 ?_; refine onc (putNum_ka kk _ _ (l4.length : Int) t2 w0 _ _ I.hb I.ln A2_.out) rfl ?_; rintro e q18 ⟨vq18, rfl, p⟩; refine ⟨_, rfl, ?_⟩; replace BX := BX.put p (fun h => h.2 rfl); replace I := I.put p; clear p; obtain ⟨hc0, hc1, hc2, hc3, hc4, hf0, hf1, hf2, hf3, hf4⟩ := blk5 BX.h; simp only [Act.put, List.setIfInBounds_toArray, List.set_cons_zero, List.set_cons_succ]))
      go_loopw [1, 55] (fun v1 v55 wr => ∃ (i kq : Nat) (b : List Int), i ≤ l4.length ∧ v55 = .int .i64 i ∧ kq ≤ kk ∧ Aside0 (impl_Value_bytes.l0 kq ⟨5, a1, l2, l3, l4⟩ b i = some r) ∧ In 5 w0 w P (fun k => (P k ∨ w.heap.size ≤ k) ∧ k ≠ gb) wr b v1 ∧ Bx wr gb 40 #[.int .i64 5, .int .i64 a1, .slice A2 l2.length c2, .slice A3 l3.length c3, .slice A4 l4.length c4]) (fun _ v55 _ => l4.length - (intOf v55).toNat)
      case atStart => exact ⟨0, kk, t2, Nat.zero_le _, rfl, Nat.le_refl _, A3_, I, BX⟩
      case round =>
        clear A3_ A2_ A1 I BX hc0 hc1 hc2 hc3 hc4 hf0 hf1 hf2 hf3 hf4
        obtain ⟨i, kq, b, hil, rfl, hkq, HL, I, BX⟩ := hrel
        have h := HL.out
        clear HL
        cases kq with
        | zero => simp [impl_Value_bytes.l0] at h
        | succ kq =>
        simp only [impl_Value_bytes.l0] at h
        obtain ⟨hc0, hc1, hc2, hc3, hc4, hf0, hf1, hf2, hf3, hf4⟩ := blk5 BX.h
        by_cases hlt : i < l4.length
        · rw [if_pos hlt] at h
          have h9 := bnd h
          clear h
          obtain ⟨t3, B1, h⟩ := h9
          have h9 := bnd h
          clear h
          obtain ⟨t4, B2, h⟩ := h9
          have HL := Aside0.mk h
          clear h
          replace B2 := Aside0.mk B2
          obtain ⟨ad, D2, d2, D3, d3, D4, d4, rfl, x0, x1, x2, x3, x4, y2, z2, y3, z3, y4, z4⟩ := at_T40 G4.out (i : Int) (by omega) (by omega)
          rw [Int.toNat_natCast] at x0 x1 x2 x3 x4
          replace x0 := (I.hb.cell (World.block_lt_of_cell? w0 _ x0)).trans x0
          replace x1 := (I.hb.cell (World.block_lt_of_cell? w0 _ x1)).trans x1
          replace x2 := (I.hb.cell (World.block_lt_of_cell? w0 _ x2)).trans x2
          replace x3 := (I.hb.cell (World.block_lt_of_cell? w0 _ x3)).trans x3
          replace x4 := (I.hb.cell (World.block_lt_of_cell? w0 _ x4)).trans x4
          have C0 := Aside0.mk (k40_mk w0 (rd_T40 l4 (i : Int)) y2 z2 y3 z3 y4 z4)
          clear y2 z2 y3 z3 y4 z4
          have p1 : (0 ≤ (i : Int)) = True := eq_true (by omega)
          have p2 : ((i : Int) < (l4.length : Int)) = True := eq_true (by omega)
          obtain ⟨xx, hxx⟩ : ∃ y, y = rd_T40 l4 (i : Int) := ⟨_, rfl⟩
          rw [← hxx] at x0 x1 x2 x3 x4 C0 B2
          clear hxx
          rw [if_pos trivial] at B1
          have h3 : i < l3.length := Decidable.byContradiction fun q => by rw [if_neg q] at B1; cases B1
          rw [if_pos h3] at B1
          replace B1 := Aside0.mk B1
          obtain ⟨ae, E0, f0_, rfl, s0, s1, s2⟩ := at_L1 G3.out (i : Int) (by omega) (by omega)
          rw [Int.toNat_natCast] at s0
          replace s0 := (I.hb.cell (World.block_lt_of_cell? w0 _ s0)).trans s0
          have S1 := Aside0.mk s1
          have S2 := Aside0.mk s2
          clear s1 s2
          have p3 : ((i : Int) < (l3.length : Int)) = True := eq_true (by omega)
          obtain ⟨te, hte⟩ : ∃ y, y = rd_L1 l3 (i : Int) := ⟨_, rfl⟩
          rw [← hte] at s0 S1 S2 B1
          clear hte
          have s0_ := Aside0.mk s0
          have NB : gb ≠ wr.heap.size := Nat.ne_of_lt BX.lt
          go_wp2_with (first
            | ((with_reducible refine gate_dst (N := 8) rfl ?_); refine alas 8 7 rfl rfl rfl rfl rfl rfl rfl rfl rfl rfl (fun _ => rfl) (fun _ => rfl) (fun _ => rfl) (v := .int .i64 (i : Int)) (bs := #[.int .i64 xx.f0, .int .i64 xx.f1, .slice D2 xx.f2.length d2, .slice D3 xx.f3.length d3, .slice D4 xx.f4.length d4]) (cs := #[.int .i64 0, .int .i64 0, .slice none 0 0, .slice none 0 0, .slice none 0 0]) (t := 40) (by kernel_rfl) rfl (by simp [Value.oneCell']) ?_; intro gl hgl wl hyl hbl; have BY := Bx.mk hyl; have I2 := I.box hbl (Nat.le_of_eq hgl.symm) BY.lt; replace BX := BX.b hbl; have NG := Aside0.mk (show gb ≠ gl from fun e_ => NB (e_.trans hgl)); replace s0 := (hbl.cell (World.block_lt_of_cell? _ _ s0)).trans s0; clear hyl hbl hgl; obtain ⟨hc0, hc1, hc2, hc3, hc4, hf0, hf1, hf2, hf3, hf4⟩ := blk5 BX.h; obtain ⟨gc0, gc1, gc2, gc3, gc4, gf0, gf1, gf2, gf3, gf4⟩ := blk5 BY.h; simp only [Act.put, List.setIfInBounds_toArray, List.set_cons_zero, List.set_cons_succ])
            | ((with_reducible refine gate_dst (N := 69) rfl ?_); refine gg (some 69) rfl rfl rfl frn106 ?_; refine onc (putText_ka kq _ _ E0 f0_ te t3 w0 _ _ I2.lo I2.hb I2.ln S2.out S1.out B1.out) rfl ?_; rintro e q19 ⟨vq19, rfl, p⟩; refine ⟨_, rfl, ?_⟩; replace BX := BX.put p (fun h => h.1.2 rfl); replace BY := BY.put p (fun h => h.2 rfl); replace I2 := I2.put p; clear p; obtain ⟨hc0, hc1, hc2, hc3, hc4, hf0, hf1, hf2, hf3, hf4⟩ := blk5 BX.h; obtain ⟨gc0, gc1, gc2, gc3, gc4, gf0, gf1, gf2, gf3, gf4⟩ := blk5 BY.h; simp only [Act.put, List.setIfInBounds_toArray, List.set_cons_zero, List.set_cons_succ])
            | ((with_reducible refine gate_dst (N := 72) rfl ?_); refine gg (some 72) rfl rfl rfl frnB ?_; refine onc (ih kq (by omega) xx #[.int .i64 xx.f0, .int .i64 xx.f1, .slice D2 xx.f2.length d2, .slice D3 xx.f3.length d3, .slice D4 xx.f4.length d4] _ _ t4 w0 _ _ I2.lo I2.hb I2.ln ⟨C0.out⟩ B2.out) rfl ?_; rintro e q20 ⟨vq20, rfl, p⟩; refine ⟨_, rfl, ?_⟩; replace BX := BX.put p (fun h => h.1.2 rfl); replace I2 := I2.put p; clear p; simp only [Act.put, List.setIfInBounds_toArray, List.set_cons_zero, List.set_cons_succ]))
          go_roundw
          case rel => exact ⟨i + 1, kq, t4, by omega, by go_num, by omega, HL, I2.back I, BX⟩
          case measure => simp [intOf]; omega
        · rw [if_neg hlt] at h
          obtain rfl := Option.some.inj h
          have p2 : ((i : Int) < (l4.length : Int)) = False := eq_false (by omega)
          go_wp2
          go_ret
          exact ⟨_, rfl, I.done⟩
  rw [if_neg n45] at h
  obtain rfl := Option.some.inj h
  have n4 : ¬ a0 = 4 := fun q => n45 (.inl q)
  have n5 : ¬ a0 = 5 := fun q => n45 (.inr q)
  have e1 : (a0 == 1) = false := beq_eq_false_iff_ne.mpr n1
  have d1 : decide (a0 = 1) = false := decide_eq_false n1
  have e2 : (a0 == 2) = false := beq_eq_false_iff_ne.mpr n2
  have d2 : decide (a0 = 2) = false := decide_eq_false n2
  have e3 : (a0 == 3) = false := beq_eq_false_iff_ne.mpr n3
  have d3 : decide (a0 = 3) = false := decide_eq_false n3
  have e4 : (a0 == 4) = false := beq_eq_false_iff_ne.mpr n4
  have d4 : decide (a0 = 4) = false := decide_eq_false n4
  have e5 : (a0 == 5) = false := beq_eq_false_iff_ne.mpr n5
  have d5 : decide (a0 = 5) = false := decide_eq_false n5
  go_enter Try.func81, Try.ntmps81
  go_wp2_with (first
    | ((with_reducible refine gate_dst (N := 2) rfl ?_); refine bxb (bs := #[.int .i64 a0, .int .i64 a1, .slice A2 l2.length c2, .slice A3 l3.length c3, .slice A4 l4.length c4]) 2 rfl rfl rfl rfl ?_; intro gb w1 BX hb1 hle hlt; have I := (In.start HB.out H0 HP.out).box hb1 hle hlt; clear hb1; obtain ⟨hc0, hc1, hc2, hc3, hc4, hf0, hf1, hf2, hf3, hf4⟩ := blk5 BX.h; simp only [Act.put, List.setIfInBounds_toArray, List.set_cons_zero, List.set_cons_succ])
    | ((with_reducible refine gate_dst (N := 12) rfl ?_); refine gg (some 12) rfl rfl rfl frn105 ?_; refine onc (putNum_ka kk _ _ a0 t1 w0 _ _ I.hb I.ln A1.out) rfl ?_; rintro e q21 ⟨vq21, rfl, p⟩; refine ⟨_, rfl, ?_⟩; replace BX := BX.put p (fun h => h.2 rfl); replace I := I.put p; clear p; obtain ⟨hc0, hc1, hc2, hc3, hc4, hf0, hf1, hf2, hf3, hf4⟩ := blk5 BX.h; simp only [Act.put, List.setIfInBounds_toArray, List.set_cons_zero, List.set_cons_succ]))
  go_ret
  exact ⟨_, rfl, I.done⟩
-- KC impl_ValBytes {"params":[["agg",40,["f0","f1","f2","f3","f4"]]],"res":["tuple",[["slice","(Kd.int .u8)",5,"List Int","R"],["bool"]]],"hasK":true,"fn":44}
def impl_ValBytes.f (k : Nat) (a0_0 : Int) (a0_1 : Int) (l0_2 : List Int) (l0_3 : List (List Int)) (l0_4 : List (S40)) : Option (List Int × Bool) := (impl_isValue.f k a0_0 a0_1 l0_2 l0_3 l0_4).bind fun t => if t = true then (impl_Value_bytes.f k ⟨a0_0, a0_1, l0_2, l0_3, l0_4⟩ []).bind fun b => some (b, true) else some ([], false)
theorem frnV : Fr Try.prog 62 := ⟨_, Try.func62, by kernel_rfl, rfl⟩
set_option maxRecDepth 100000 in
set_option maxHeartbeats 8000000 in
theorem impl_ValBytes.kc (k : Nat) (x0 : S40) (b0 : Array Value) (r1 : List Int) (r2 : Bool) (w : World) (h0 : Rd k40 w x0 b0.toList) (h : impl_ValBytes.f k x0.f0 x0.f1 x0.f2 x0.f3 x0.f4 = some (r1, r2)) :
    Calls Try.prog 44 #[.agg b0] w fun e w' => ∃ v : Value, e = .returned (.tuple #[v, .bool r2]) ∧ Own (Kd.slice 5 (Kd.int .u8)) w' w.heap.size w'.heap.size r1 [v] ∧ Below w.heap.size w w' := by
  have hx := h0
  obtain ⟨A2, c2, A3, c3, A4, c4, e0, lc2, g2, lc3, g3, lc4, g4⟩ := k40_open h0.k
  obtain ⟨a0, a1, l2, l3, l4⟩ := x0
  obtain rfl : b0 = #[.int .i64 a0, .int .i64 a1, .slice A2 l2.length c2, .slice A3 l3.length c3, .slice A4 l4.length c4] := by rw [← b0.toArray_toList, e0]
  simp only at lc2 g2 lc3 g3 lc4 g4
  have HX := Aside0.mk hx
  have G2 := Aside0.mk g2
  have G3 := Aside0.mk g3
  have G4 := Aside0.mk g4
  have L2 := Aside0.mk lc2
  have L3 := Aside0.mk lc3
  have L4 := Aside0.mk lc4
  have HB := Bw.refl w
  clear g2 g3 g4 lc2 lc3 lc4 e0 hx h0
  unfold impl_ValBytes.f at h
  have h9 := bnd h
  clear h
  obtain ⟨t, A1, h⟩ := h9
  replace A1 := Aside0.mk A1
  cases t with
  | false =>
    rw [if_neg (by decide)] at h
    have h9 := Option.some.inj h
    clear h
    obtain ⟨rfl, rfl⟩ := Prod.mk.inj h9
    clear h9
    go_enter Try.func44, Try.ntmps44
    go_wp2_with (first
      | ((with_reducible refine gate_dst (N := 1) rfl ?_); refine bxb (bs := #[.int .i64 a0, .int .i64 a1, .slice A2 l2.length c2, .slice A3 l3.length c3, .slice A4 l4.length c4]) 1 rfl rfl rfl rfl ?_; intro gb w1 BX hb1 hle hlt; replace HB := Bw.sw w hb1; clear hb1 hle hlt; obtain ⟨hc0, hc1, hc2, hc3, hc4, hf0, hf1, hf2, hf3, hf4⟩ := blk5 BX.h; simp only [Act.put, List.setIfInBounds_toArray, List.set_cons_zero, List.set_cons_succ])
      | ((with_reducible refine gate_dst (N := 5) rfl ?_); refine gg (some 5) rfl rfl rfl frnV ?_; refine onc (impl_isValue.calls k a0 a1 _ _ l2 _ _ l3 _ _ l4 false _ (cb G2) L2.out (cb G3) L3.out (cb G4) L4.out A1.out) rfl ?_; rintro e w2 ⟨rfl, hb⟩; refine ⟨_, rfl, ?_⟩; replace HB := Bw.sw w hb; clear hb; simp only [Act.put, List.setIfInBounds_toArray, List.set_cons_zero, List.set_cons_succ]))
    go_ret2
    exact ⟨_, rfl, Own.of (ok := fun _ => True) ⟨_, rfl, Kd.R_nil _ _ _ _ _⟩ HB.out.size, HB.out⟩
  | true =>
    rw [if_pos rfl] at h
    have h9 := bnd h
    clear h
    obtain ⟨b, A2_, h⟩ := h9
    have h9 := Option.some.inj h
    clear h
    obtain ⟨rfl, rfl⟩ := Prod.mk.inj h9
    clear h9
    replace A2_ := Aside0.mk A2_
    go_enter Try.func44, Try.ntmps44
    go_wp2_with (first
      | ((with_reducible refine gate_dst (N := 1) rfl ?_); refine bxb (bs := #[.int .i64 a0, .int .i64 a1, .slice A2 l2.length c2, .slice A3 l3.length c3, .slice A4 l4.length c4]) 1 rfl rfl rfl rfl ?_; intro gb w1 BX hb1 hle hlt; replace HB := Bw.sw w hb1; clear hb1 hle hlt; obtain ⟨hc0, hc1, hc2, hc3, hc4, hf0, hf1, hf2, hf3, hf4⟩ := blk5 BX.h; simp only [Act.put, List.setIfInBounds_toArray, List.set_cons_zero, List.set_cons_succ])
      | ((with_reducible refine gate_dst (N := 5) rfl ?_); refine gg (some 5) rfl rfl rfl frnV ?_; refine onc (impl_isValue.calls k a0 a1 _ _ l2 _ _ l3 _ _ l4 true _ (cb G2) L2.out (cb G3) L3.out (cb G4) L4.out A1.out) rfl ?_; rintro e w2 ⟨rfl, hb⟩; refine ⟨_, rfl, ?_⟩; replace HB := Bw.sw w hb; replace BX := BX.b hb; clear hb; obtain ⟨hc0, hc1, hc2, hc3, hc4, hf0, hf1, hf2, hf3, hf4⟩ := blk5 BX.h; simp only [Act.put, List.setIfInBounds_toArray, List.set_cons_zero, List.set_cons_succ])
      | ((with_reducible refine gate_dst (N := 8) rfl ?_); refine gg (some 8) rfl rfl rfl frnB ?_; refine onc (impl_Value_bytes.ka k ⟨a0, a1, l2, l3, l4⟩ #[.int .i64 a0, .int .i64 a1, .slice A2 l2.length c2, .slice A3 l3.length c3, .slice A4 l4.length c4] [] (.slice none 0 0) b _ _ (fun _ => False) (fun _ h => h.elim) (Below.refl _ _) ⟨Kd.R_nil _ _ _ _ _⟩ (HX.out.b HB.out) A2_.out) rfl ?_; rintro e w3 ⟨v3, rfl, p⟩; refine ⟨_, rfl, ?_⟩; have PP := Aside0.mk p; have HB2 := HB; replace HB := Bw.sw w p.hb; clear p; simp only [Act.put, List.setIfInBounds_toArray, List.set_cons_zero, List.set_cons_succ]))
    go_ret2
    exact ⟨_, rfl, Own.of ⟨_, rfl, Kd.R_lower PP.out.ln.r HB2.out.size⟩ HB.out.size, HB.out⟩
end Go.Proofs.Ytmigpeaiepdmbaa.PFnExactValBytes
