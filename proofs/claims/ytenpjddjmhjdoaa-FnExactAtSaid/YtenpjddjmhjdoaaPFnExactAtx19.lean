/- What a function comes to, walked by hand. No condition. -/
import Derived.Test.YtenpjddjmhjdoaaPFnExactAtx0
import Derived.Test.YtenpjddjmhjdoaaPFnExactAtx7
import Derived.Test.YtenpjddjmhjdoaaPFnExactAtx8
import Derived.Test.YtenpjddjmhjdoaaPFnExactAtx9
import Derived.Test.YtenpjddjmhjdoaaPFnExactAtx10
import Derived.Test.YtenpjddjmhjdoaaPFnExactAtx12
import Derived.Test.YtenpjddjmhjdoaaPFnExactAtx15
import Derived.Test.YtenpjddjmhjdoaaPFnExactAtx17
import Derived.Test.YtenpjddjmhjdoaaPFnExactAtx18
import Derived.Test.YtenpjddjmhjdoaaMkx
namespace Go.Proofs.Ytenpjddjmhjdoaa.PFnExactAt
open Go.RowKit Go.Proofs.YtenpjddjmhjdoaaW.PrintWords Go.Proofs.YtenpjddjmhjdoaaW.PrintLast Go.Proofs.YtenpjddjmhjdoaaW.PrintMore Go.Proofs.Ytenpjddjmhjdoaa.M
attribute [local go_sem] max2_int min2_int max_two min_two max_three min_three max_four min_four Go.Proofs.Ytenpjddjmhjdoaa.M.str_gtr Go.Proofs.Ytenpjddjmhjdoaa.M.str_leq Go.Proofs.Ytenpjddjmhjdoaa.M.str_geq   -- for this text's walks alone
set_option linter.unusedVariables false
set_option linter.unusedSimpArgs false
-- KC impl_At {"params":[["agg",30,["f0","f1","f2","f3","f4"]],["slice","k79",79,"List (S79)"]],"res":["tuple",[["agg",30,["f0","f1","f2","f3","f4"],"D"],["bool"]]],"hasK":true,"fn":44,"f":"impl_At.g"}
/-- A place that reads as a value. -/
structure Pl (w : World) (Q : Addr) (y : S30) (E2 : Option Addr) (d2 : Nat) (E3 : Option Addr) (d3 : Nat) (E4 : Option Addr) (d4 : Nat) : Prop where
  x0 : w.cell? Q = some (.int .i64 y.f0)
  x1 : w.cell? ⟨Q.block, Q.off + 1, none⟩ = some (.int .i64 y.f1)
  x2 : w.cell? ⟨Q.block, Q.off + 2, none⟩ = some (.slice E2 y.f2.length d2)
  x3 : w.cell? ⟨Q.block, Q.off + 3, none⟩ = some (.slice E3 y.f3.length d3)
  x4 : w.cell? ⟨Q.block, Q.off + 4, none⟩ = some (.slice E4 y.f4.length d4)
  y2 : y.f2.length ≤ d2
  z2 : (Kd.int .u8).C w E2 y.f2.length y.f2
  y3 : y.f3.length ≤ d3
  z3 : (Kd.slice 5 (Kd.int .u8)).C w E3 y.f3.length y.f3
  y4 : y.f4.length ≤ d4
  z4 : k30.C w E4 y.f4.length y.f4
theorem Pl.b {w w1 : World} {Q : Addr} {y : S30} {E2 E3 E4 : Option Addr} {d2 d3 d4 : Nat} (h : Pl w Q y E2 d2 E3 d3 E4 d4) (hb : Below w.heap.size w w1) : Pl w1 Q y E2 d2 E3 d3 E4 d4 :=
  ⟨(hb.cell (World.block_lt_of_cell? w _ h.x0)).trans h.x0, (hb.cell (World.block_lt_of_cell? w _ h.x1)).trans h.x1, (hb.cell (World.block_lt_of_cell? w _ h.x2)).trans h.x2, (hb.cell (World.block_lt_of_cell? w _ h.x3)).trans h.x3, (hb.cell (World.block_lt_of_cell? w _ h.x4)).trans h.x4, h.y2, Kd.C_below h.z2 hb, h.y3, Kd.C_below h.z3 hb, h.y4, Kd.C_below h.z4 hb⟩
theorem Pl.of {w : World} {xs : List S30} {A : Option Addr} {n : Nat} (h : k30.C w A n xs) (i : Int) (h0 : 0 ≤ i) (h1 : i < n) : ∃ ad E2 d2 E3 d3 E4 d4, A = some ad ∧ Pl w (ad.add (i.toNat * 5)) (rd_T30 xs i) E2 d2 E3 d3 E4 d4 := by
  obtain ⟨ad, D2, d2, D3, d3, D4, d4, e4, x0, x1, x2, x3, x4, y2, z2, y3, z3, y4, z4⟩ := at_T30 h i h0 h1
  exact ⟨ad, D2, d2, D3, d3, D4, d4, e4, ⟨x0, x1, x2, x3, x4, y2, z2, y3, z3, y4, z4⟩⟩
/-- What lies at a path, from step i on: nothing, or a part. -/
def at_l0 (k : Nat) (l : List (S79)) : Nat → S30 → Int → Option (Option S30)
  | 0, _, _ => none
  | m + 1, x, i => if i < (l.length : Int) then (if 0 ≤ i then (if (rd_T79 l i).f0 = 0 then ((impl_Value_keyAt.f k x.f0 x.f1 x.f2 x.f3 x.f4 (rd_T79 l i).f1).bind fun q => if x.f0 = 5 then (if q.2 = true then (if 0 ≤ q.1 then (if q.1 < (x.f4.length : Int) then at_l0 k l m (rd_T30 x.f4 q.1) (wrap64 (i + 1)) else none) else none) else some none) else some none)
      else (if x.f0 = 4 then (if (rd_T79 l i).f2 < (x.f4.length : Int) then (if 0 ≤ (rd_T79 l i).f2 then at_l0 k l m (rd_T30 x.f4 (rd_T79 l i).f2) (wrap64 (i + 1)) else none) else some none) else some none)) else none) else some (some x)
inductive AtPost : Option S30 → Ending → World → Prop
  | nil {w : World} : AtPost none (.returned (.pointer none)) w
  | at {w : World} {R : Addr} {y : S30} {F2 : Option Addr} {e2 : Nat} {F3 : Option Addr} {e3 : Nat} {F4 : Option Addr} {e4 : Nat} (h : Pl w R y F2 e2 F3 e3 F4 e4) : AtPost (some y) (.returned (.pointer (some R))) w
set_option maxRecDepth 100000 in
set_option maxHeartbeats 8000000 in
theorem at_calls (k m : Nat) (l : List (S79)) (A : Option Addr) (c : Nat) (x : S30) (Q : Addr) (E2 : Option Addr) (d2 : Nat) (E3 : Option Addr) (d3 : Nat) (E4 : Option Addr) (d4 : Nat) (r : Option S30) (w : World) (hl : k79.C w A l.length l) (hc : l.length ≤ c) (hp : Pl w Q x E2 d2 E3 d3 E4 d4) (h : at_l0 k l m x 0 = some r) :
    Calls Try.prog 94 #[.pointer (some Q), .slice A l.length c] w fun e w' => AtPost r e w' ∧ Below w.heap.size w w' := by
  have HL := Aside0.mk hl
  have LL := Aside0.mk hc
  have HP0 := Aside0.mk hp
  have H' := Aside0.mk h
  clear hl hc hp h
  have hu := Try.underlying30
  have HB := Bw.refl w
  go_enter Try.func94, Try.ntmps94
  go_wp2
  go_loopg [0, 12] m (fun kq v0 v12 wr => ∃ (R : Addr) (y : S30) (i : Int) (F2 : Option Addr) (e2 : Nat) (F3 : Option Addr) (e3 : Nat) (F4 : Option Addr) (e4 : Nat), v0 = .pointer (some R) ∧ v12 = .int .i64 i ∧ Aside0 (at_l0 k l kq y i = some r) ∧ Aside0 (kq ≤ m) ∧ Aside0 (Pl w R y F2 e2 F3 e3 F4 e4) ∧ Bw w wr)
  case atStart => exact ⟨Q, x, 0, _, _, _, _, _, _, rfl, rfl, H', ⟨Nat.le_refl _⟩, HP0, HB⟩
  case round =>
  clear H' HP0 HB
  obtain ⟨R, y, i, F2, e2, F3, e3, F4, e4, rfl, rfl, HA, HK1, HP, HB⟩ := hrel
  cases gk with
  | zero => exact absurd HA.out (by simp [at_l0])
  | succ m1 =>
   have H := HA.out
   clear HA
   rw [at_l0] at H
   by_cases ci : i < (l.length : Int)
   · rw [if_pos ci] at H
     have h9 := yesN H
     clear H
     obtain ⟨i0, H⟩ := h9
     obtain ⟨ad, A1, c1, e5, s0, s1, s2, sl, sC⟩ := at_T79 HL.out i i0 ci
     cases e5
     have cb0 : decide (i < (l.length : Int)) = true := decide_eq_true ci
     have ci0 := eq_true i0
     have ci1 := eq_true ci
     clear i0 ci
     obtain ⟨s, hs⟩ : ∃ s, s = rd_T79 l i := ⟨_, rfl⟩
     rw [← hs] at s0 s1 s2 sl sC H
     clear hs
     replace s0 := (HB.out.cell (World.block_lt_of_cell? w _ s0)).trans s0
     replace s1 := (HB.out.cell (World.block_lt_of_cell? w _ s1)).trans s1
     replace s2 := (HB.out.cell (World.block_lt_of_cell? w _ s2)).trans s2
     have SL := Aside0.mk sl
     have SC := Aside0.mk sC
     clear sl sC
     by_cases c0 : s.f0 = 0
     · rw [if_pos c0] at H
       have cb1 : (s.f0 == 0) = true := by simpa using c0
       clear c0
       have h9 := bnd H
       clear H
       obtain ⟨⟨q, there⟩, T, H⟩ := h9
       replace T := Aside0.mk T
       dsimp only at H
       go_wp2_with (first
  | ((with_reducible refine gate_dst (N := 6) rfl ?_); refine alst (bs := #[.int .i64 s.f0, .slice A1 s.f1.length c1, .int .i64 s.f2]) (cs := #[.int .i64 0, .slice none 0 0, .int .i64 0]) 6 rfl rfl rfl rfl rfl rfl (fun _ => rfl) (fun _ => rfl) (by kernel_rfl) rfl (by simp [Value.oneCell']) ?_; intro gs ws BS hbs hle hlt; replace HB := Bw.sw w hbs; clear hbs hle hlt s0 s1 s2; obtain ⟨t0, t1, t2, tf0, tf1, tf2⟩ := blk3 BS.h; obtain ⟨x0, x1, x2, x3, x4, -⟩ := HP.out.b HB.out; simp only [Act.put, List.setIfInBounds_toArray, List.set_cons_zero, List.set_cons_succ]))
       have HQ := HP.out.b HB.out
       have hdr : Below ws.heap.size ws ws.drew := below_drew1 (Below.refl _ _)
       refine start_ (n := 11) (S := fun w' => Bx w' gs 79 #[.int .i64 s.f0, .slice A1 s.f1.length c1, .int .i64 s.f2] ∧ Pl w' R y F2 e2 F3 e3 F4 e4) (ds := []) #[false, false, false, false, false, false, false, false, false, false, false] (by kernel_rfl) rfl rfl ⟨BS.b hdr, HQ.b hdr⟩ (fun hH => ?_)
       generalize ws.drew = wd at hdr hH ⊢
       replace BS := BS.b hdr
       replace HQ := HQ.b hdr
       replace HB := Bw.sw w hdr
       clear hdr
       refine pure_ (i := 0) (N := some 22) (v := ?_) (a' := ?_) #[true, false, false, false, false, false, false, false, false, false, false] rfl rfl (by kernel_rfl) (fun _ _ _ h => h) (Or.inl ⟨by rfl, ?_⟩) ?_ ?_
       rotate_left
       ·intro w'
        go_simp
        with_reducible rfl
       rotate_left
       ·simp only [Act.put, List.setIfInBounds_toArray, List.set_cons_zero, List.set_cons_succ, i64_w, i32_w]
        rfl
       refine pure_ (i := 1) (N := some 23) (v := ?_) (a' := ?_) #[true, true, false, false, false, false, false, false, false, false, false] rfl rfl (by kernel_rfl) (fun _ _ _ h => h) (Or.inl ⟨by rfl, ?_⟩) ?_ ?_
       rotate_left
       ·intro w'
        go_simp
        with_reducible rfl
       rotate_left
       ·simp only [Act.put, List.setIfInBounds_toArray, List.set_cons_zero, List.set_cons_succ, i64_w, i32_w]
        rfl
       refine take_ (i := 2) (N := some 24) (v := ?_) (a' := ?_) #[true, true, true, false, false, false, false, false, false, false, false] rfl rfl (by kernel_rfl) (fun _ _ _ h => h) (Or.inl ⟨by rfl, ?_⟩) hH ?_ ?_
       rotate_left
       ·rintro w' ⟨s0, s1⟩
        obtain ⟨x0, x1, x2, x3, x4, -⟩ := s1
        go_simp
        with_reducible rfl
       rotate_left
       ·simp only [Act.put, List.setIfInBounds_toArray, List.set_cons_zero, List.set_cons_succ, i64_w, i32_w]
        rfl
       refine pure_ (i := 3) (N := some 25) (v := ?_) (a' := ?_) #[true, true, true, true, false, false, false, false, false, false, false] rfl rfl (by kernel_rfl) (fun _ _ _ h => h) (Or.inl ⟨by rfl, ?_⟩) ?_ ?_
       rotate_left
       ·intro w'
        go_simp
        with_reducible rfl
       rotate_left
       ·simp only [Act.put, List.setIfInBounds_toArray, List.set_cons_zero, List.set_cons_succ, i64_w, i32_w]
        rfl
       refine take_ (i := 4) (N := some 26) (v := ?_) (a' := ?_) #[true, true, true, true, true, false, false, false, false, false, false] rfl rfl (by kernel_rfl) (fun _ _ _ h => h) (Or.inl ⟨by rfl, ?_⟩) hH ?_ ?_
       rotate_left
       ·rintro w' ⟨s0, s1⟩
        obtain ⟨t0, t1, t2, tf0, tf1, tf2⟩ := blk3 s0.h
        go_simp
        with_reducible rfl
       rotate_left
       ·simp only [Act.put, List.setIfInBounds_toArray, List.set_cons_zero, List.set_cons_succ, i64_w, i32_w]
        rfl
       refine one_ (i := 5) (N := some 27) #[true, true, true, true, true, true, false, false, false, false, false] rfl rfl (by kernel_rfl) (by decide) (fun K hK => ?_)
       refine goes_ Try.func58 (by kernel_rfl) rfl #[.agg #[.int .i64 y.f0, .int .i64 y.f1, .slice F2 y.f2.length e2, .slice F3 y.f3.length e3, .slice F4 y.f4.length e4], .slice A1 s.f1.length c1] (by rfl) rfl rfl (by (try simp only [List.map_toArray, List.map_cons, List.map_nil]); first | done | rfl) ?_
       refine (impl_Value_keyAt.calls k _ _ _ _ y.f2 _ _ y.f3 _ _ y.f4 _ _ s.f1 q there _ (Kd.C_below HP.out.z2 HB.out) HP.out.y2 (Kd.C_below HP.out.z3 HB.out) HP.out.y3 (Kd.C_below HP.out.z4 HB.out) HP.out.y4 (Kd.C_below SC.out HB.out) SL.out T.out).mono ?_
       rintro e we ⟨rfl, hb⟩
       refine ⟨_, rfl, ?_⟩
       replace BS := BS.b hb
       replace HQ := HQ.b hb
       replace HB := Bw.sw w hb
       clear hb
       refine hK.out _ _ ⟨BS, HQ⟩ (fun hH => ?_)
       clear hK K
       refine norm_ (a' := ?_) ?_ ?_
       rotate_left
       ·show Act.put _ (some 27) _ = _
        simp only [Act.put, List.setIfInBounds_toArray, List.set_cons_zero, List.set_cons_succ, i64_w, i32_w]
        rfl
       refine pure_ (i := 6) (N := some 21) (v := ?_) (a' := ?_) #[true, true, true, true, true, true, true, false, false, false, false] rfl rfl (by kernel_rfl) (fun _ _ _ h => h) (Or.inl ⟨by rfl, ?_⟩) ?_ ?_
       rotate_left
       ·intro w'
        go_simp
        with_reducible rfl
       rotate_left
       ·simp only [Act.put, List.setIfInBounds_toArray, List.set_cons_zero, List.set_cons_succ, i64_w, i32_w]
        rfl
       refine pure_ (i := 7) (N := some 28) (v := ?_) (a' := ?_) #[true, true, true, true, true, true, true, true, false, false, false] rfl rfl (by kernel_rfl) (fun _ _ _ h => h) (Or.inl ⟨by rfl, ?_⟩) ?_ ?_
       rotate_left
       ·intro w'
        go_simp
        with_reducible rfl
       rotate_left
       ·simp only [Act.put, List.setIfInBounds_toArray, List.set_cons_zero, List.set_cons_succ, i64_w, i32_w]
        rfl
       refine pure_ (i := 8) (N := some 29) (v := ?_) (a' := ?_) #[true, true, true, true, true, true, true, true, true, false, false] rfl rfl (by kernel_rfl) (fun _ _ _ h => h) (Or.inl ⟨by rfl, ?_⟩) ?_ ?_
       rotate_left
       ·intro w'
        go_simp
        with_reducible rfl
       rotate_left
       ·simp only [Act.put, List.setIfInBounds_toArray, List.set_cons_zero, List.set_cons_succ, i64_w, i32_w]
        rfl
       refine pure_ (i := 9) (N := some 8) (v := ?_) (a' := ?_) #[true, true, true, true, true, true, true, true, true, true, false] rfl rfl (by kernel_rfl) (fun _ _ _ h => h) (Or.inl ⟨by rfl, ?_⟩) ?_ ?_
       rotate_left
       ·intro w'
        go_simp
        with_reducible rfl
       rotate_left
       ·simp only [Act.put, List.setIfInBounds_toArray, List.set_cons_zero, List.set_cons_succ, i64_w, i32_w]
        rfl
       refine pure_ (i := 10) (N := some 9) (v := ?_) (a' := ?_) #[true, true, true, true, true, true, true, true, true, true, true] rfl rfl (by kernel_rfl) (fun _ _ _ h => h) (Or.inl ⟨by rfl, ?_⟩) ?_ ?_
       rotate_left
       ·intro w'
        go_simp
        with_reducible rfl
       rotate_left
       ·simp only [Act.put, List.setIfInBounds_toArray, List.set_cons_zero, List.set_cons_succ, i64_w, i32_w]
        rfl
       refine done_ (by kernel_rfl) ?_
       obtain ⟨x0, x1, x2, x3, x4, -⟩ := HQ
       obtain ⟨t0, t1, t2, tf0, tf1, tf2⟩ := blk3 BS.h
       by_cases c5 : y.f0 = 5
       · rw [if_pos c5] at H
         have cb5 : (y.f0 == 5) = true := by simpa using c5
         cases there with
         | false =>
           rw [if_neg (by decide)] at H
           obtain rfl := Option.some.inj H
           try go_wp2
           go_ret
           exact ⟨.nil, HB.out⟩
         | true =>
           rw [if_pos rfl] at H
           have h9 := yesN H
           clear H
           obtain ⟨n0, H⟩ := h9
           have h9 := yesN H
           clear H
           obtain ⟨n1, H⟩ := h9
           obtain ⟨ad4, G2, f2, G3, f3, G4, f4, e6, HP2⟩ := Pl.of HP.out.z4 q n0 n1
           cases e6
           have n2 := eq_true n0
           have n3 := eq_true n1
           clear n0 n1
           have H' := Aside0.mk H
           clear H
           try go_wp2
           go_roundg m1
           case measure => have := HK1.out; omega
           case rel => exact ⟨ad4.add (q.toNat * 5), rd_T30 y.f4 q, wrap64 (i + 1), _, _, _, _, _, _, (by first | rfl | (simp; done) | (simp [*]; done)), (by first | rfl | (simp; done) | (simp [*]; done)), H', ⟨by have := HK1.out; omega⟩, ⟨HP2⟩, HB⟩
       · rw [if_neg c5] at H
         have cb5 : (y.f0 == 5) = false := by simpa using c5
         obtain rfl := Option.some.inj H
         try go_wp2
         go_ret
         exact ⟨.nil, HB.out⟩
     · rw [if_neg c0] at H
       have cb1 : (s.f0 == 0) = false := by simpa using c0
       clear c0
       by_cases c4 : y.f0 = 4
       · rw [if_pos c4] at H
         have cb4 : (y.f0 == 4) = true := by simpa using c4
         by_cases cl : s.f2 < (y.f4.length : Int)
         · rw [if_pos cl] at H
           have h9 := yesN H
           clear H
           obtain ⟨n0, H⟩ := h9
           have n1 := cl
           have cbl : decide (s.f2 ≥ (y.f4.length : Int)) = false := decide_eq_false (by omega)
           clear cl
           obtain ⟨ad4, G2, f2, G3, f3, G4, f4, e6, HP2⟩ := Pl.of HP.out.z4 s.f2 n0 n1
           cases e6
           have n2 := eq_true n0
           have n3 := eq_true n1
           clear n0 n1
           have H' := Aside0.mk H
           clear H
           go_wp2_with (first
  | ((with_reducible refine gate_dst (N := 6) rfl ?_); refine alst (bs := #[.int .i64 s.f0, .slice A1 s.f1.length c1, .int .i64 s.f2]) (cs := #[.int .i64 0, .slice none 0 0, .int .i64 0]) 6 rfl rfl rfl rfl rfl rfl (fun _ => rfl) (fun _ => rfl) (by kernel_rfl) rfl (by simp [Value.oneCell']) ?_; intro gs ws BS hbs hle hlt; replace HB := Bw.sw w hbs; clear hbs hle hlt s0 s1 s2; obtain ⟨t0, t1, t2, tf0, tf1, tf2⟩ := blk3 BS.h; obtain ⟨x0, x1, x2, x3, x4, -⟩ := HP.out.b HB.out; simp only [Act.put, List.setIfInBounds_toArray, List.set_cons_zero, List.set_cons_succ]))
           try go_wp2
           go_roundg m1
           case measure => have := HK1.out; omega
           case rel => exact ⟨ad4.add (s.f2.toNat * 5), rd_T30 y.f4 s.f2, wrap64 (i + 1), _, _, _, _, _, _, (by first | rfl | (simp; done) | (simp [*]; done)), (by first | rfl | (simp; done) | (simp [*]; done)), H', ⟨by have := HK1.out; omega⟩, ⟨HP2⟩, HB⟩
         · rw [if_neg cl] at H
           have cbl : decide (s.f2 ≥ (y.f4.length : Int)) = true := decide_eq_true (by omega)
           clear cl
           go_wp2_with (first
  | ((with_reducible refine gate_dst (N := 6) rfl ?_); refine alst (bs := #[.int .i64 s.f0, .slice A1 s.f1.length c1, .int .i64 s.f2]) (cs := #[.int .i64 0, .slice none 0 0, .int .i64 0]) 6 rfl rfl rfl rfl rfl rfl (fun _ => rfl) (fun _ => rfl) (by kernel_rfl) rfl (by simp [Value.oneCell']) ?_; intro gs ws BS hbs hle hlt; replace HB := Bw.sw w hbs; clear hbs hle hlt s0 s1 s2; obtain ⟨t0, t1, t2, tf0, tf1, tf2⟩ := blk3 BS.h; obtain ⟨x0, x1, x2, x3, x4, -⟩ := HP.out.b HB.out; simp only [Act.put, List.setIfInBounds_toArray, List.set_cons_zero, List.set_cons_succ]))
           obtain rfl := Option.some.inj H
           try go_wp2
           go_ret
           exact ⟨.nil, HB.out⟩
       · rw [if_neg c4] at H
         have cb4 : (y.f0 == 4) = false := by simpa using c4
         go_wp2_with (first
  | ((with_reducible refine gate_dst (N := 6) rfl ?_); refine alst (bs := #[.int .i64 s.f0, .slice A1 s.f1.length c1, .int .i64 s.f2]) (cs := #[.int .i64 0, .slice none 0 0, .int .i64 0]) 6 rfl rfl rfl rfl rfl rfl (fun _ => rfl) (fun _ => rfl) (by kernel_rfl) rfl (by simp [Value.oneCell']) ?_; intro gs ws BS hbs hle hlt; replace HB := Bw.sw w hbs; clear hbs hle hlt s0 s1 s2; obtain ⟨t0, t1, t2, tf0, tf1, tf2⟩ := blk3 BS.h; obtain ⟨x0, x1, x2, x3, x4, -⟩ := HP.out.b HB.out; simp only [Act.put, List.setIfInBounds_toArray, List.set_cons_zero, List.set_cons_succ]))
         obtain rfl := Option.some.inj H
         try go_wp2
         go_ret
         exact ⟨.nil, HB.out⟩
   · rw [if_neg ci] at H
     have cb0 : decide (i < (l.length : Int)) = false := decide_eq_false ci
     obtain rfl := Option.some.inj H
     go_wp2
     go_ret
     exact ⟨.at (HP.out.b HB.out), HB.out⟩
/-- What At gives, as a value. -/
def impl_At.g (k : Nat) (a0_0 a0_1 : Int) (l0_2 : List Int) (l0_3 : List (List Int)) (l0_4 : List S30) (l1 : List (S79)) : Option (S30 × Bool) :=
  (impl_isValue.f k a0_0 a0_1 l0_2 l0_3 l0_4).bind fun t => if t = true then (impl_isPath.f k l1).bind fun t2 => if t2 = true then (at_l0 k l1 k ⟨a0_0, a0_1, l0_2, l0_3, l0_4⟩ 0).bind fun q =>
    (match q with | none => some (⟨0, 0, [], [], []⟩, false) | some y => (impl_copyValue.f k y.f0 y.f1 y.f2 y.f3 y.f4).bind fun c => some (⟨c.1, c.2.1, c.2.2.1, c.2.2.2.1, c.2.2.2.2⟩, true)) else some (⟨0, 0, [], [], []⟩, false) else some (⟨0, 0, [], [], []⟩, false)
theorem AtPost.inv_none {e : Ending} {w : World} (h : AtPost none e w) : e = .returned (.pointer none) := by cases h; rfl
theorem AtPost.inv_some {y : S30} {e : Ending} {w : World} (h : AtPost (some y) e w) : ∃ R F2 e2 F3 e3 F4 e4, e = .returned (.pointer (some R)) ∧ Pl w R y F2 e2 F3 e3 F4 e4 := by cases h; rename_i hq; exact ⟨_, _, _, _, _, _, _, rfl, hq⟩
theorem frA1 : Fr Try.prog 68 := ⟨_, Try.func68, by kernel_rfl, rfl⟩
theorem frA3 : Fr Try.prog 59 := ⟨_, Try.func59, by kernel_rfl, rfl⟩
theorem frA4 : Fr Try.prog 93 := ⟨_, Try.func93, by kernel_rfl, rfl⟩
theorem frA5 : Fr Try.prog 94 := ⟨_, Try.func94, by kernel_rfl, rfl⟩
theorem dV_zero (w : World) (base : Nat) (ok : Nat → Prop) : dV.M w base ok ⟨0, 0, [], [], []⟩ [.int .i64 0, .int .i64 0, .slice none 0 0, .slice none 0 0, .slice none 0 0] :=
  dV_mkM (o2 := fun _ => False) (o3 := fun _ => False) (o4 := fun _ => False) ⟨0, 0, [], [], []⟩ (Kd.R_nil _ _ _ _ _) (Kd.S_nil _ _ _ _ _) (Kd.S_nil _ _ _ _ _) (fun _ h => h.elim) (fun _ h => h.elim) (fun _ h => h.elim) (fun _ h => h.elim) (fun _ h => h.elim) (fun _ h => h.elim)
set_option maxRecDepth 100000 in
set_option maxHeartbeats 8000000 in
theorem impl_At.kc (k : Nat) (x0 : S30) (b0 : Array Value) (l1 : List (S79)) (v1 : Value) (y : S30) (r2 : Bool) (w : World) (h0 : Rd k30 w x0 b0.toList) (h1 : Rd (Kd.slice 79 k79) w l1 [v1]) (h : impl_At.g k x0.f0 x0.f1 x0.f2 x0.f3 x0.f4 l1 = some (y, r2)) :
    Calls Try.prog 44 #[.agg b0, v1] w fun e w' => ∃ b : Array Value, e = .returned (.tuple #[.agg b, .bool r2]) ∧ Own dV w' w.heap.size w'.heap.size y b.toList ∧ Below w.heap.size w w' := by
  obtain ⟨A2, c2, A3, c3, A4, c4, e0, lc2, g2, lc3, g3, lc4, g4⟩ := k30_open h0.k
  obtain ⟨a0, a1, l2, l3, l4⟩ := x0
  obtain rfl : b0 = #[.int .i64 a0, .int .i64 a1, .slice A2 l2.length c2, .slice A3 l3.length c3, .slice A4 l4.length c4] := by rw [← b0.toArray_toList, e0]
  simp only at lc2 g2 lc3 g3 lc4 g4
  obtain ⟨A1, c1, e1, lc1, g1⟩ := h1.k
  injection e1 with e1
  subst e1
  have hu := Try.underlying30
  have G1 := Aside0.mk g1
  have L1 := Aside0.mk lc1
  have G2 := Aside0.mk g2
  have L2 := Aside0.mk lc2
  have G3 := Aside0.mk g3
  have L3 := Aside0.mk lc3
  have G4 := Aside0.mk g4
  have L4 := Aside0.mk lc4
  have HB := Bw.refl w
  clear g1 g2 g3 g4 lc1 lc2 lc3 lc4 e0 h0 h1
  unfold impl_At.g at h
  have h9 := bnd h
  clear h
  obtain ⟨t, T1, h⟩ := h9
  replace T1 := Aside0.mk T1
  cases t with
  | false =>
    rw [if_neg (by decide)] at h
    obtain ⟨rfl, rfl⟩ := Prod.mk.inj (Option.some.inj h)
    clear h
    go_enter Try.func44, Try.ntmps44
    go_wp2_with (first
      | ((with_reducible refine gate_dst (N := 2) rfl ?_); refine bxb (bs := #[.int .i64 a0, .int .i64 a1, .slice A2 l2.length c2, .slice A3 l3.length c3, .slice A4 l4.length c4]) 2 rfl rfl rfl rfl ?_; intro gb w1 BX hb1 hle hlt; replace HB := Bw.sw w hb1; clear hb1 hle hlt; obtain ⟨hc0, hc1, hc2, hc3, hc4, hf0, hf1, hf2, hf3, hf4⟩ := blk5 BX.h; simp only [Act.put, List.setIfInBounds_toArray, List.set_cons_zero, List.set_cons_succ])
      | ((with_reducible refine gate_dst (N := 4) rfl ?_); refine alb (n := 5) (cs := #[.int .i64 0, .int .i64 0, .slice none 0 0, .slice none 0 0, .slice none 0 0]) 4 rfl rfl rfl (by kernel_rfl) ?_; intro gr w2 BR hb2 hle hlt; have NB := Aside0.mk (Nat.ne_of_lt (Nat.lt_of_lt_of_le BX.lt hle)); have GE := Aside0.mk (Nat.le_trans HB.out.size hle); replace BX := BX.b hb2; replace HB := Bw.sw w hb2; clear hb2 hle hlt; obtain ⟨hc0, hc1, hc2, hc3, hc4, hf0, hf1, hf2, hf3, hf4⟩ := blk5 BX.h; simp only [Act.put, List.setIfInBounds_toArray, List.set_cons_zero, List.set_cons_succ])
      | ((with_reducible refine gate_dst (N := 8) rfl ?_); refine gg (some 8) rfl rfl rfl frA1 ?_; refine onc (impl_isValue.calls k a0 a1 _ _ l2 _ _ l3 _ _ l4 false _ (cb G2) L2.out (cb G3) L3.out (cb G4) L4.out T1.out) rfl ?_; rintro e w3 ⟨rfl, hb⟩; refine ⟨_, rfl, ?_⟩; replace BX := BX.b hb; replace BR := BR.b hb; replace HB := Bw.sw w hb; clear hb; obtain ⟨hc0, hc1, hc2, hc3, hc4, hf0, hf1, hf2, hf3, hf4⟩ := blk5 BX.h; obtain ⟨gc0, gc1, gc2, gc3, gc4, gf0, gf1, gf2, gf3, gf4⟩ := blk5 BR.h; have hnb := NB.out; have hnc := NB.out.symm; simp only [Act.put, List.setIfInBounds_toArray, List.set_cons_zero, List.set_cons_succ]))
    refine bodyPost_ret (results_ct rfl _ _ gr 30 #[.int .i64 0, .int .i64 0, .slice none 0 0, .slice none 0 0, .slice none 0 0] (0, 0) _ rfl BR.sets5.h Try.underlying30 rfl (by kernel_rfl)) rfl ?_
    exact ⟨_, rfl, Own.of (dV_zero _ _ (fun _ => True)) (M.Below.sets5 HB.out GE.out).size, M.Below.sets5 HB.out GE.out⟩
  | true =>
  rw [if_pos rfl] at h
  have h9 := bnd h
  clear h
  obtain ⟨t2, T2, h⟩ := h9
  replace T2 := Aside0.mk T2
  cases t2 with
  | false =>
    rw [if_neg (by decide)] at h
    obtain ⟨rfl, rfl⟩ := Prod.mk.inj (Option.some.inj h)
    clear h
    go_enter Try.func44, Try.ntmps44
    go_wp2_with (first
      | ((with_reducible refine gate_dst (N := 2) rfl ?_); refine bxb (bs := #[.int .i64 a0, .int .i64 a1, .slice A2 l2.length c2, .slice A3 l3.length c3, .slice A4 l4.length c4]) 2 rfl rfl rfl rfl ?_; intro gb w1 BX hb1 hle hlt; replace HB := Bw.sw w hb1; clear hb1 hle hlt; obtain ⟨hc0, hc1, hc2, hc3, hc4, hf0, hf1, hf2, hf3, hf4⟩ := blk5 BX.h; simp only [Act.put, List.setIfInBounds_toArray, List.set_cons_zero, List.set_cons_succ])
      | ((with_reducible refine gate_dst (N := 4) rfl ?_); refine alb (n := 5) (cs := #[.int .i64 0, .int .i64 0, .slice none 0 0, .slice none 0 0, .slice none 0 0]) 4 rfl rfl rfl (by kernel_rfl) ?_; intro gr w2 BR hb2 hle hlt; have NB := Aside0.mk (Nat.ne_of_lt (Nat.lt_of_lt_of_le BX.lt hle)); have GE := Aside0.mk (Nat.le_trans HB.out.size hle); replace BX := BX.b hb2; replace HB := Bw.sw w hb2; clear hb2 hle hlt; obtain ⟨hc0, hc1, hc2, hc3, hc4, hf0, hf1, hf2, hf3, hf4⟩ := blk5 BX.h; simp only [Act.put, List.setIfInBounds_toArray, List.set_cons_zero, List.set_cons_succ])
      | ((with_reducible refine gate_dst (N := 8) rfl ?_); refine gg (some 8) rfl rfl rfl frA1 ?_; refine onc (impl_isValue.calls k a0 a1 _ _ l2 _ _ l3 _ _ l4 true _ (cb G2) L2.out (cb G3) L3.out (cb G4) L4.out T1.out) rfl ?_; rintro e w3 ⟨rfl, hb⟩; refine ⟨_, rfl, ?_⟩; replace BX := BX.b hb; replace BR := BR.b hb; replace HB := Bw.sw w hb; clear hb; obtain ⟨hc0, hc1, hc2, hc3, hc4, hf0, hf1, hf2, hf3, hf4⟩ := blk5 BX.h; obtain ⟨gc0, gc1, gc2, gc3, gc4, gf0, gf1, gf2, gf3, gf4⟩ := blk5 BR.h; have hnb := NB.out; have hnc := NB.out.symm; simp only [Act.put, List.setIfInBounds_toArray, List.set_cons_zero, List.set_cons_succ])
      | ((with_reducible refine gate_dst (N := 12) rfl ?_); refine ggw (some 12) rfl (by rfl) rfl frA4 ?_; refine onc (impl_isPath.calls k _ _ l1 false _ (cb G1) L1.out T2.out) rfl ?_; rintro e w4 ⟨rfl, hb⟩; refine ⟨_, rfl, ?_⟩; replace BX := BX.b hb; replace BR := BR.b hb; replace HB := Bw.sw w hb; clear hb; obtain ⟨hc0, hc1, hc2, hc3, hc4, hf0, hf1, hf2, hf3, hf4⟩ := blk5 BX.h; obtain ⟨gc0, gc1, gc2, gc3, gc4, gf0, gf1, gf2, gf3, gf4⟩ := blk5 BR.h; have hnb := NB.out; have hnc := NB.out.symm; simp only [Act.put, List.setIfInBounds_toArray, List.set_cons_zero, List.set_cons_succ]))
    refine bodyPost_ret (results_ct rfl _ _ gr 30 #[.int .i64 0, .int .i64 0, .slice none 0 0, .slice none 0 0, .slice none 0 0] (0, 0) _ rfl BR.sets5.h Try.underlying30 rfl (by kernel_rfl)) rfl ?_
    exact ⟨_, rfl, Own.of (dV_zero _ _ (fun _ => True)) (M.Below.sets5 HB.out GE.out).size, M.Below.sets5 HB.out GE.out⟩
  | true =>
  rw [if_pos rfl] at h
  have h9 := bnd h
  clear h
  obtain ⟨q, T3, h⟩ := h9
  replace T3 := Aside0.mk T3
  cases q with
  | none =>
    dsimp only at h
    obtain ⟨rfl, rfl⟩ := Prod.mk.inj (Option.some.inj h)
    clear h
    go_enter Try.func44, Try.ntmps44
    go_wp2_with (first
      | ((with_reducible refine gate_dst (N := 2) rfl ?_); refine bxb (bs := #[.int .i64 a0, .int .i64 a1, .slice A2 l2.length c2, .slice A3 l3.length c3, .slice A4 l4.length c4]) 2 rfl rfl rfl rfl ?_; intro gb w1 BX hb1 hle hlt; replace HB := Bw.sw w hb1; clear hb1 hle hlt; obtain ⟨hc0, hc1, hc2, hc3, hc4, hf0, hf1, hf2, hf3, hf4⟩ := blk5 BX.h; simp only [Act.put, List.setIfInBounds_toArray, List.set_cons_zero, List.set_cons_succ])
      | ((with_reducible refine gate_dst (N := 4) rfl ?_); refine alb (n := 5) (cs := #[.int .i64 0, .int .i64 0, .slice none 0 0, .slice none 0 0, .slice none 0 0]) 4 rfl rfl rfl (by kernel_rfl) ?_; intro gr w2 BR hb2 hle hlt; have NB := Aside0.mk (Nat.ne_of_lt (Nat.lt_of_lt_of_le BX.lt hle)); have GE := Aside0.mk (Nat.le_trans HB.out.size hle); replace BX := BX.b hb2; replace HB := Bw.sw w hb2; clear hb2 hle hlt; obtain ⟨hc0, hc1, hc2, hc3, hc4, hf0, hf1, hf2, hf3, hf4⟩ := blk5 BX.h; simp only [Act.put, List.setIfInBounds_toArray, List.set_cons_zero, List.set_cons_succ])
      | ((with_reducible refine gate_dst (N := 8) rfl ?_); refine gg (some 8) rfl rfl rfl frA1 ?_; refine onc (impl_isValue.calls k a0 a1 _ _ l2 _ _ l3 _ _ l4 true _ (cb G2) L2.out (cb G3) L3.out (cb G4) L4.out T1.out) rfl ?_; rintro e w3 ⟨rfl, hb⟩; refine ⟨_, rfl, ?_⟩; replace BX := BX.b hb; replace BR := BR.b hb; replace HB := Bw.sw w hb; clear hb; obtain ⟨hc0, hc1, hc2, hc3, hc4, hf0, hf1, hf2, hf3, hf4⟩ := blk5 BX.h; obtain ⟨gc0, gc1, gc2, gc3, gc4, gf0, gf1, gf2, gf3, gf4⟩ := blk5 BR.h; have hnb := NB.out; have hnc := NB.out.symm; simp only [Act.put, List.setIfInBounds_toArray, List.set_cons_zero, List.set_cons_succ])
      | ((with_reducible refine gate_dst (N := 12) rfl ?_); refine ggw (some 12) rfl (by rfl) rfl frA4 ?_; refine onc (impl_isPath.calls k _ _ l1 true _ (cb G1) L1.out T2.out) rfl ?_; rintro e w4 ⟨rfl, hb⟩; refine ⟨_, rfl, ?_⟩; replace BX := BX.b hb; replace BR := BR.b hb; replace HB := Bw.sw w hb; clear hb; obtain ⟨hc0, hc1, hc2, hc3, hc4, hf0, hf1, hf2, hf3, hf4⟩ := blk5 BX.h; obtain ⟨gc0, gc1, gc2, gc3, gc4, gf0, gf1, gf2, gf3, gf4⟩ := blk5 BR.h; have hnb := NB.out; have hnc := NB.out.symm; simp only [Act.put, List.setIfInBounds_toArray, List.set_cons_zero, List.set_cons_succ])
      | ((with_reducible refine gate_dst (N := 17) rfl ?_); refine gg (some 17) rfl rfl rfl frA5 ?_; refine onc (at_calls k k l1 _ _ ⟨a0, a1, l2, l3, l4⟩ ⟨gb, 0, none⟩ A2 c2 A3 c3 A4 c4 _ _ (cb G1) L1.out ⟨hc0, hc1, hc2, hc3, hc4, L2.out, cb G2, L3.out, cb G3, L4.out, cb G4⟩ T3.out) rfl ?_; rintro e w5 ⟨hp, hb⟩; obtain rfl := hp.inv_none; clear hp; refine ⟨_, rfl, ?_⟩; replace BX := BX.b hb; replace BR := BR.b hb; replace HB := Bw.sw w hb; clear hb; obtain ⟨hc0, hc1, hc2, hc3, hc4, hf0, hf1, hf2, hf3, hf4⟩ := blk5 BX.h; obtain ⟨gc0, gc1, gc2, gc3, gc4, gf0, gf1, gf2, gf3, gf4⟩ := blk5 BR.h; have hnb := NB.out; have hnc := NB.out.symm; simp only [Act.put, List.setIfInBounds_toArray, List.set_cons_zero, List.set_cons_succ]))
    refine bodyPost_ret (results_ct rfl _ _ gr 30 #[.int .i64 0, .int .i64 0, .slice none 0 0, .slice none 0 0, .slice none 0 0] (0, 0) _ rfl BR.sets5.h Try.underlying30 rfl (by kernel_rfl)) rfl ?_
    exact ⟨_, rfl, Own.of (dV_zero _ _ (fun _ => True)) (M.Below.sets5 HB.out GE.out).size, M.Below.sets5 HB.out GE.out⟩
  | some yy =>
  dsimp only at h
  have h9 := bnd h
  clear h
  obtain ⟨⟨t1, t2, t3, t4, t5⟩, T4, h⟩ := h9
  replace T4 := Aside0.mk T4
  obtain ⟨rfl, rfl⟩ := Prod.mk.inj (Option.some.inj h)
  clear h
  go_enter Try.func44, Try.ntmps44
  go_wp2_with (first
    | ((with_reducible refine gate_dst (N := 2) rfl ?_); refine bxb (bs := #[.int .i64 a0, .int .i64 a1, .slice A2 l2.length c2, .slice A3 l3.length c3, .slice A4 l4.length c4]) 2 rfl rfl rfl rfl ?_; intro gb w1 BX hb1 hle hlt; replace HB := Bw.sw w hb1; clear hb1 hle hlt; obtain ⟨hc0, hc1, hc2, hc3, hc4, hf0, hf1, hf2, hf3, hf4⟩ := blk5 BX.h; simp only [Act.put, List.setIfInBounds_toArray, List.set_cons_zero, List.set_cons_succ])
    | ((with_reducible refine gate_dst (N := 4) rfl ?_); refine alb (n := 5) (cs := #[.int .i64 0, .int .i64 0, .slice none 0 0, .slice none 0 0, .slice none 0 0]) 4 rfl rfl rfl (by kernel_rfl) ?_; intro gr w2 BR hb2 hle hlt; have NB := Aside0.mk (Nat.ne_of_lt (Nat.lt_of_lt_of_le BX.lt hle)); have GE := Aside0.mk (Nat.le_trans HB.out.size hle); replace BX := BX.b hb2; replace HB := Bw.sw w hb2; clear hb2 hle hlt; obtain ⟨hc0, hc1, hc2, hc3, hc4, hf0, hf1, hf2, hf3, hf4⟩ := blk5 BX.h; simp only [Act.put, List.setIfInBounds_toArray, List.set_cons_zero, List.set_cons_succ])
    | ((with_reducible refine gate_dst (N := 8) rfl ?_); refine gg (some 8) rfl rfl rfl frA1 ?_; refine onc (impl_isValue.calls k a0 a1 _ _ l2 _ _ l3 _ _ l4 true _ (cb G2) L2.out (cb G3) L3.out (cb G4) L4.out T1.out) rfl ?_; rintro e w3 ⟨rfl, hb⟩; refine ⟨_, rfl, ?_⟩; replace BX := BX.b hb; replace BR := BR.b hb; replace HB := Bw.sw w hb; clear hb; obtain ⟨hc0, hc1, hc2, hc3, hc4, hf0, hf1, hf2, hf3, hf4⟩ := blk5 BX.h; obtain ⟨gc0, gc1, gc2, gc3, gc4, gf0, gf1, gf2, gf3, gf4⟩ := blk5 BR.h; have hnb := NB.out; have hnc := NB.out.symm; simp only [Act.put, List.setIfInBounds_toArray, List.set_cons_zero, List.set_cons_succ])
    | ((with_reducible refine gate_dst (N := 12) rfl ?_); refine ggw (some 12) rfl (by rfl) rfl frA4 ?_; refine onc (impl_isPath.calls k _ _ l1 true _ (cb G1) L1.out T2.out) rfl ?_; rintro e w4 ⟨rfl, hb⟩; refine ⟨_, rfl, ?_⟩; replace BX := BX.b hb; replace BR := BR.b hb; replace HB := Bw.sw w hb; clear hb; obtain ⟨hc0, hc1, hc2, hc3, hc4, hf0, hf1, hf2, hf3, hf4⟩ := blk5 BX.h; obtain ⟨gc0, gc1, gc2, gc3, gc4, gf0, gf1, gf2, gf3, gf4⟩ := blk5 BR.h; have hnb := NB.out; have hnc := NB.out.symm; simp only [Act.put, List.setIfInBounds_toArray, List.set_cons_zero, List.set_cons_succ])
    | ((with_reducible refine gate_dst (N := 17) rfl ?_); refine gg (some 17) rfl rfl rfl frA5 ?_; refine onc (at_calls k k l1 _ _ ⟨a0, a1, l2, l3, l4⟩ ⟨gb, 0, none⟩ A2 c2 A3 c3 A4 c4 _ _ (cb G1) L1.out ⟨hc0, hc1, hc2, hc3, hc4, L2.out, cb G2, L3.out, cb G3, L4.out, cb G4⟩ T3.out) rfl ?_; rintro e w5 ⟨hp, hb⟩; obtain ⟨R, F2, e2, F3, e3, F4, e4, rfl, hq⟩ := hp.inv_some; clear hp; have HQ := Aside0.mk hq; refine ⟨_, rfl, ?_⟩; replace BX := BX.b hb; replace BR := BR.b hb; replace HB := Bw.sw w hb; clear hb hq; obtain ⟨gc0, gc1, gc2, gc3, gc4, gf0, gf1, gf2, gf3, gf4⟩ := blk5 BR.h; obtain ⟨x0, x1, x2, x3, x4, -⟩ := HQ.out; have hnb := NB.out; have hnc := NB.out.symm; simp only [Act.put, List.setIfInBounds_toArray, List.set_cons_zero, List.set_cons_succ])
    | ((with_reducible refine gate_dst (N := 24) rfl ?_); refine gg (some 24) rfl rfl rfl frA3 ?_; refine onc (impl_copyValue.dcalls k _ _ _ _ _ _ _ _ _ _ _ t1 t2 t3 t4 t5 _ HQ.out.z2 HQ.out.y2 HQ.out.z3 HQ.out.y3 HQ.out.z4 HQ.out.y4 T4.out) rfl ?_; rintro e w6 ⟨v2, v3, v4, rfl, hD, hb⟩; obtain ⟨B2, f2, B3, f3, B4, f4, ec, -⟩ := k30_open (dV_toK (dV.K_of_M hD)); simp only [List.cons.injEq] at ec; obtain ⟨-, -, rfl, rfl, rfl, -⟩ := ec; refine ⟨_, rfl, ?_⟩; have NG := Aside0.mk BR.lt; replace BR := BR.b hb; have HD := Aside0.mk (dV.M_bound hD); have GL := Aside0.mk HB.out.size; replace HB := Bw.sw w hb; clear hb hD; obtain ⟨gc0, gc1, gc2, gc3, gc4, gf0, gf1, gf2, gf3, gf4⟩ := blk5 BR.h; simp only [Act.put, List.setIfInBounds_toArray, List.set_cons_zero, List.set_cons_succ]))
  refine bodyPost_ret (results_ct rfl _ _ gr 30 #[.int .i64 t1, .int .i64 t2, .slice B2 t3.length f2, .slice B3 t4.length f3, .slice B4 t5.length f4] (0, 0) _ rfl BR.sets5.h Try.underlying30 rfl (by kernel_rfl)) rfl ?_
  refine ⟨_, rfl, Own.of (ok := fun _ => True) (dV.M_lower GL.out (dV.M_mono (fun _ _ => trivial) (dV.M_move (fun z hz => ?_) HD.out))) (M.Below.sets5 HB.out GE.out).size, M.Below.sets5 HB.out GE.out⟩
  have hzg : z ≠ gr := fun e => by have := hz.2.1; rw [e] at this; exact Nat.not_lt.2 this NG.out
  exact heap_sets5 hzg
-- KC spec_At {"params":[["agg",30,["f0","f1","f2","f3","f4"]],["slice","k79",79,"List (S79)"]],"res":["tuple",[["agg",30,["f0","f1","f2","f3","f4"],"P"],["bool"]]],"hasK":true,"fn":42}
theorem frS1 : Fr Try.prog 52 := ⟨_, Try.func52, by kernel_rfl, rfl⟩
theorem frS2 : Fr Try.prog 90 := ⟨_, Try.func90, by kernel_rfl, rfl⟩
theorem frS3 : Fr Try.prog 54 := ⟨_, Try.func54, by kernel_rfl, rfl⟩
theorem k_zero (w : World) (base : Nat) (ok : Nat → Prop) : k30.M w base ok ⟨0, 0, [], [], []⟩ [.int .i64 0, .int .i64 0, .slice none 0 0, .slice none 0 0, .slice none 0 0] :=
  k30_mkM w base ok ⟨0, 0, [], [], []⟩ (Kd.R_nil _ _ _ _ _) (Kd.R_nil _ _ _ _ _) (Kd.R_nil _ _ _ _ _)
/-- l2own, what it gives in one. -/
theorem l2own_m (k : Nat) (x : S30) (A2 : Option Addr) (c2 : Nat) (A3 : Option Addr) (c3 : Nat) (A4 : Option Addr) (c4 : Nat) (t1 t2 : Int) (t3 : List Int) (t4 : List (List Int)) (t5 : List S30) (w : World)
    (g2 : Kd.C (Kd.int .u8) w A2 x.f2.length x.f2) (m2 : x.f2.length ≤ c2) (g3 : Kd.C (Kd.slice 5 (Kd.int .u8)) w A3 x.f3.length x.f3) (m3 : x.f3.length ≤ c3) (g4 : Kd.C k30 w A4 x.f4.length x.f4) (m4 : x.f4.length ≤ c4) (h : spec_l2own.f k x.f0 x.f1 x.f2 x.f3 x.f4 = some (t1, t2, t3, t4, t5)) :
    Calls Try.prog 54 #[.agg #[.int .i64 x.f0, .int .i64 x.f1, .slice A2 x.f2.length c2, .slice A3 x.f3.length c3, .slice A4 x.f4.length c4]] w fun e w' => ∃ B2 f2 B3 f3 B4 f4, e = .returned (.agg #[.int .i64 t1, .int .i64 t2, .slice B2 t3.length f2, .slice B3 t4.length f3, .slice B4 t5.length f4]) ∧ k30.M w' w.heap.size (fun _ => True) ⟨t1, t2, t3, t4, t5⟩ [.int .i64 t1, .int .i64 t2, .slice B2 t3.length f2, .slice B3 t4.length f3, .slice B4 t5.length f4] ∧ Below w.heap.size w w' := by
  refine (spec_l2own.calls k _ _ _ _ _ _ _ _ _ _ _ t1 t2 t3 t4 t5 w g2 m2 g3 m3 g4 m4 h).mono ?_
  rintro e w' ⟨v2, v3, v4, rfl, h2, h3, h4, hb⟩
  obtain ⟨B2, f2, rfl⟩ := Kd.R_slice h2
  obtain ⟨B3, f3, rfl⟩ := Kd.S_slice h3
  obtain ⟨B4, f4, rfl⟩ := Kd.R_slice h4
  exact ⟨_, _, _, _, _, _, rfl, k30_mkM w' w.heap.size (fun _ => True) ⟨t1, t2, t3, t4, t5⟩ (Kd.R_mono h2 (fun _ _ => trivial)) (Kd.R_mono (Kd.S_R h3) (fun _ _ => trivial)) (Kd.R_mono h4 (fun _ _ => trivial)), hb⟩
/-- Cells that read as a step. -/
structure Ps (w : World) (Q : Addr) (s : S79) (B1 : Option Addr) (b1 : Nat) : Prop where
  x0 : w.cell? Q = some (.int .i64 s.f0)
  x1 : w.cell? ⟨Q.block, Q.off + 1, none⟩ = some (.slice B1 s.f1.length b1)
  x2 : w.cell? ⟨Q.block, Q.off + 2, none⟩ = some (.int .i64 s.f2)
theorem Ps.b {w w1 : World} {Q : Addr} {s : S79} {B1 : Option Addr} {b1 : Nat} (h : Ps w Q s B1 b1) (hb : Below w.heap.size w w1) : Ps w1 Q s B1 b1 :=
  ⟨(hb.cell (World.block_lt_of_cell? w _ h.x0)).trans h.x0, (hb.cell (World.block_lt_of_cell? w _ h.x1)).trans h.x1, (hb.cell (World.block_lt_of_cell? w _ h.x2)).trans h.x2⟩
/-- What a value's fields lead to. -/
structure Cv (w : World) (y : S30) (F2 : Option Addr) (e2 : Nat) (F3 : Option Addr) (e3 : Nat) (F4 : Option Addr) (e4 : Nat) : Prop where
  y2 : y.f2.length ≤ e2
  z2 : (Kd.int .u8).C w F2 y.f2.length y.f2
  y3 : y.f3.length ≤ e3
  z3 : (Kd.slice 5 (Kd.int .u8)).C w F3 y.f3.length y.f3
  y4 : y.f4.length ≤ e4
  z4 : k30.C w F4 y.f4.length y.f4
theorem Bx.oth5 {w : World} {b t g : Nat} {cs : Array Value} {v0 v1 v2 v3 v4 : Value} (h : Bx w b t cs) (hne : b ≠ g) : Bx (((((w.setCell ⟨g, 0, none⟩ v0).setCell ⟨g, 1, none⟩ v1).setCell ⟨g, 2, none⟩ v2).setCell ⟨g, 3, none⟩ v3).setCell ⟨g, 4, none⟩ v4) b t cs := ⟨(heap_sets5 hne).trans h.h⟩
set_option maxRecDepth 100000 in
set_option maxHeartbeats 8000000 in
theorem spec_At.kc (k : Nat) (x0 : S30) (b0 : Array Value) (l1 : List (S79)) (v1 : Value) (y1 : S30) (r6 : Bool) (w : World) (h0 : Rd k30 w x0 b0.toList) (h1 : Rd (Kd.slice 79 k79) w l1 [v1]) (h : spec_At.f k x0.f0 x0.f1 x0.f2 x0.f3 x0.f4 l1 = some (y1.f0, y1.f1, y1.f2, y1.f3, y1.f4, r6)) :
    Calls Try.prog 42 #[.agg b0, v1] w fun e w' => ∃ b : Array Value, e = .returned (.tuple #[.agg b, .bool r6]) ∧ Own k30 w' w.heap.size w'.heap.size y1 b.toList ∧ Below w.heap.size w w' := by
  obtain ⟨A2, c2, A3, c3, A4, c4, e0, lc2, g2, lc3, g3, lc4, g4⟩ := k30_open h0.k
  obtain ⟨a0, a1, l2, l3, l4⟩ := x0
  obtain ⟨y10, y11, y12, y13, y14⟩ := y1
  obtain rfl : b0 = #[.int .i64 a0, .int .i64 a1, .slice A2 l2.length c2, .slice A3 l3.length c3, .slice A4 l4.length c4] := by rw [← b0.toArray_toList, e0]
  simp only at lc2 g2 lc3 g3 lc4 g4
  obtain ⟨A1, c1, e1, lc1, g1⟩ := h1.k
  injection e1 with e1
  subst e1
  have hu := Try.underlying30
  have G1 := Aside0.mk g1
  have L1 := Aside0.mk lc1
  have G2 := Aside0.mk g2
  have L2 := Aside0.mk lc2
  have G3 := Aside0.mk g3
  have L3 := Aside0.mk lc3
  have G4 := Aside0.mk g4
  have L4 := Aside0.mk lc4
  have HB := Bw.refl w
  clear g1 g2 g3 g4 lc1 lc2 lc3 lc4 e0 h0 h1
  unfold spec_At.f at h
  dsimp only at h
  have h9 := bnd h
  clear h
  obtain ⟨t, T1, h⟩ := h9
  replace T1 := Aside0.mk T1
  have hk : k = 0 ∨ ∃ kj, k = kj + 1 := by cases k with | zero => exact .inl rfl | succ n => exact .inr ⟨n, rfl⟩
  obtain rfl | ⟨kj, rfl⟩ := hk
  · cases t with
    | false => simp [spec_At.j0] at h
    | true =>
      rw [if_pos rfl] at h
      have h9 := bnd h
      obtain ⟨t2, T2, h⟩ := h9
      simp [spec_At.j0] at h
  cases t with
  | false =>
    rw [if_neg (by decide), spec_At.j0, if_pos rfl] at h
    simp only [Option.some.injEq, Prod.mk.injEq] at h
    obtain ⟨rfl, rfl, rfl, rfl, rfl, rfl⟩ := h
    go_enter Try.func42, Try.ntmps42
    go_wp2_with (first
      | ((with_reducible refine gate_dst (N := 2) rfl ?_); refine bxb (bs := #[.int .i64 a0, .int .i64 a1, .slice A2 l2.length c2, .slice A3 l3.length c3, .slice A4 l4.length c4]) 2 rfl rfl rfl rfl ?_; intro gb w1 BX hb1 hle hlt; have GEb := Aside0.mk (Nat.le_trans HB.out.size hle); replace HB := Bw.sw w hb1; clear hb1 hle hlt; obtain ⟨hc0, hc1, hc2, hc3, hc4, hf0, hf1, hf2, hf3, hf4⟩ := blk5 BX.h; simp only [Act.put, List.setIfInBounds_toArray, List.set_cons_zero, List.set_cons_succ])
      | ((with_reducible refine gate_dst (N := 4) rfl ?_); refine alb (n := 5) (cs := #[.int .i64 0, .int .i64 0, .slice none 0 0, .slice none 0 0, .slice none 0 0]) 4 rfl rfl rfl (by kernel_rfl) ?_; intro gr w2 BR hb2 hle hlt; have NB := Aside0.mk (Nat.ne_of_lt (Nat.lt_of_lt_of_le BX.lt hle)); have GE := Aside0.mk (Nat.le_trans HB.out.size hle); replace BX := BX.b hb2; replace HB := Bw.sw w hb2; clear hb2 hle hlt; obtain ⟨hc0, hc1, hc2, hc3, hc4, hf0, hf1, hf2, hf3, hf4⟩ := blk5 BX.h; simp only [Act.put, List.setIfInBounds_toArray, List.set_cons_zero, List.set_cons_succ])
      | ((with_reducible refine gate_dst (N := 9) rfl ?_); refine gg (some 9) rfl rfl rfl frS1 ?_; refine onc (spec_ValOk.calls (kj + 1) a0 a1 _ _ l2 _ _ l3 _ _ l4 false _ (cb G2) L2.out (cb G3) L3.out (cb G4) L4.out T1.out) rfl ?_; rintro e w3 ⟨rfl, hb⟩; refine ⟨_, rfl, ?_⟩; replace BX := BX.b hb; replace BR := BR.b hb; replace HB := Bw.sw w hb; clear hb; obtain ⟨hc0, hc1, hc2, hc3, hc4, hf0, hf1, hf2, hf3, hf4⟩ := blk5 BX.h; obtain ⟨gc0, gc1, gc2, gc3, gc4, gf0, gf1, gf2, gf3, gf4⟩ := blk5 BR.h; have hnb := NB.out; have hnc := NB.out.symm; simp only [Act.put, List.setIfInBounds_toArray, List.set_cons_zero, List.set_cons_succ]))
    refine bodyPost_ret (results_ct rfl _ _ gr 30 #[.int .i64 0, .int .i64 0, .slice none 0 0, .slice none 0 0, .slice none 0 0] (0, 0) _ rfl BR.sets5.h Try.underlying30 rfl (by kernel_rfl)) rfl ?_
    exact ⟨_, rfl, Own.of (k_zero _ _ (fun _ => True)) (M.Below.sets5 HB.out GE.out).size, M.Below.sets5 HB.out GE.out⟩
  | true =>
  rw [if_pos rfl] at h
  have h9 := bnd h
  clear h
  obtain ⟨t2, T2, h⟩ := h9
  replace T2 := Aside0.mk T2
  rw [spec_At.j0] at h
  cases t2 with
  | false =>
    rw [if_pos (by decide)] at h
    simp only [Option.some.injEq, Prod.mk.injEq] at h
    obtain ⟨rfl, rfl, rfl, rfl, rfl, rfl⟩ := h
    go_enter Try.func42, Try.ntmps42
    go_wp2_with (first
      | ((with_reducible refine gate_dst (N := 2) rfl ?_); refine bxb (bs := #[.int .i64 a0, .int .i64 a1, .slice A2 l2.length c2, .slice A3 l3.length c3, .slice A4 l4.length c4]) 2 rfl rfl rfl rfl ?_; intro gb w1 BX hb1 hle hlt; have GEb := Aside0.mk (Nat.le_trans HB.out.size hle); replace HB := Bw.sw w hb1; clear hb1 hle hlt; obtain ⟨hc0, hc1, hc2, hc3, hc4, hf0, hf1, hf2, hf3, hf4⟩ := blk5 BX.h; simp only [Act.put, List.setIfInBounds_toArray, List.set_cons_zero, List.set_cons_succ])
      | ((with_reducible refine gate_dst (N := 4) rfl ?_); refine alb (n := 5) (cs := #[.int .i64 0, .int .i64 0, .slice none 0 0, .slice none 0 0, .slice none 0 0]) 4 rfl rfl rfl (by kernel_rfl) ?_; intro gr w2 BR hb2 hle hlt; have NB := Aside0.mk (Nat.ne_of_lt (Nat.lt_of_lt_of_le BX.lt hle)); have GE := Aside0.mk (Nat.le_trans HB.out.size hle); replace BX := BX.b hb2; replace HB := Bw.sw w hb2; clear hb2 hle hlt; obtain ⟨hc0, hc1, hc2, hc3, hc4, hf0, hf1, hf2, hf3, hf4⟩ := blk5 BX.h; simp only [Act.put, List.setIfInBounds_toArray, List.set_cons_zero, List.set_cons_succ])
      | ((with_reducible refine gate_dst (N := 9) rfl ?_); refine gg (some 9) rfl rfl rfl frS1 ?_; refine onc (spec_ValOk.calls (kj + 1) a0 a1 _ _ l2 _ _ l3 _ _ l4 true _ (cb G2) L2.out (cb G3) L3.out (cb G4) L4.out T1.out) rfl ?_; rintro e w3 ⟨rfl, hb⟩; refine ⟨_, rfl, ?_⟩; replace BX := BX.b hb; replace BR := BR.b hb; replace HB := Bw.sw w hb; clear hb; obtain ⟨hc0, hc1, hc2, hc3, hc4, hf0, hf1, hf2, hf3, hf4⟩ := blk5 BX.h; obtain ⟨gc0, gc1, gc2, gc3, gc4, gf0, gf1, gf2, gf3, gf4⟩ := blk5 BR.h; have hnb := NB.out; have hnc := NB.out.symm; simp only [Act.put, List.setIfInBounds_toArray, List.set_cons_zero, List.set_cons_succ])
      | ((with_reducible refine gate_dst (N := 13) rfl ?_); refine ggw (some 13) rfl (by rfl) rfl frS2 ?_; refine onc (spec_PathOk.calls (kj + 1) _ _ l1 false _ (cb G1) L1.out T2.out) rfl ?_; rintro e w4 ⟨rfl, hb⟩; refine ⟨_, rfl, ?_⟩; replace BX := BX.b hb; replace BR := BR.b hb; replace HB := Bw.sw w hb; clear hb; obtain ⟨hc0, hc1, hc2, hc3, hc4, hf0, hf1, hf2, hf3, hf4⟩ := blk5 BX.h; obtain ⟨gc0, gc1, gc2, gc3, gc4, gf0, gf1, gf2, gf3, gf4⟩ := blk5 BR.h; have hnb := NB.out; have hnc := NB.out.symm; simp only [Act.put, List.setIfInBounds_toArray, List.set_cons_zero, List.set_cons_succ]))
    refine bodyPost_ret (results_ct rfl _ _ gr 30 #[.int .i64 0, .int .i64 0, .slice none 0 0, .slice none 0 0, .slice none 0 0] (0, 0) _ rfl BR.sets5.h Try.underlying30 rfl (by kernel_rfl)) rfl ?_
    exact ⟨_, rfl, Own.of (k_zero _ _ (fun _ => True)) (M.Below.sets5 HB.out GE.out).size, M.Below.sets5 HB.out GE.out⟩
  | true =>
  rw [if_neg (by decide)] at h
  have H' := Aside0.mk h
  clear h
  go_enter Try.func42, Try.ntmps42
  go_wp2_with (first
    | ((with_reducible refine gate_dst (N := 2) rfl ?_); refine bxb (bs := #[.int .i64 a0, .int .i64 a1, .slice A2 l2.length c2, .slice A3 l3.length c3, .slice A4 l4.length c4]) 2 rfl rfl rfl rfl ?_; intro gb w1 BX hb1 hle hlt; have GEb := Aside0.mk (Nat.le_trans HB.out.size hle); replace HB := Bw.sw w hb1; clear hb1 hle hlt; obtain ⟨hc0, hc1, hc2, hc3, hc4, hf0, hf1, hf2, hf3, hf4⟩ := blk5 BX.h; simp only [Act.put, List.setIfInBounds_toArray, List.set_cons_zero, List.set_cons_succ])
    | ((with_reducible refine gate_dst (N := 4) rfl ?_); refine alb (n := 5) (cs := #[.int .i64 0, .int .i64 0, .slice none 0 0, .slice none 0 0, .slice none 0 0]) 4 rfl rfl rfl (by kernel_rfl) ?_; intro gr w2 BR hb2 hle hlt; have NB := Aside0.mk (Nat.ne_of_lt (Nat.lt_of_lt_of_le BX.lt hle)); have GE := Aside0.mk (Nat.le_trans HB.out.size hle); replace BX := BX.b hb2; replace HB := Bw.sw w hb2; clear hb2 hle hlt; obtain ⟨hc0, hc1, hc2, hc3, hc4, hf0, hf1, hf2, hf3, hf4⟩ := blk5 BX.h; simp only [Act.put, List.setIfInBounds_toArray, List.set_cons_zero, List.set_cons_succ])
    | ((with_reducible refine gate_dst (N := 9) rfl ?_); refine gg (some 9) rfl rfl rfl frS1 ?_; refine onc (spec_ValOk.calls (kj + 1) a0 a1 _ _ l2 _ _ l3 _ _ l4 true _ (cb G2) L2.out (cb G3) L3.out (cb G4) L4.out T1.out) rfl ?_; rintro e w3 ⟨rfl, hb⟩; refine ⟨_, rfl, ?_⟩; replace BX := BX.b hb; replace BR := BR.b hb; replace HB := Bw.sw w hb; clear hb; obtain ⟨hc0, hc1, hc2, hc3, hc4, hf0, hf1, hf2, hf3, hf4⟩ := blk5 BX.h; obtain ⟨gc0, gc1, gc2, gc3, gc4, gf0, gf1, gf2, gf3, gf4⟩ := blk5 BR.h; have hnb := NB.out; have hnc := NB.out.symm; simp only [Act.put, List.setIfInBounds_toArray, List.set_cons_zero, List.set_cons_succ])
    | ((with_reducible refine gate_dst (N := 13) rfl ?_); refine ggw (some 13) rfl (by rfl) rfl frS2 ?_; refine onc (spec_PathOk.calls (kj + 1) _ _ l1 true _ (cb G1) L1.out T2.out) rfl ?_; rintro e w4 ⟨rfl, hb⟩; refine ⟨_, rfl, ?_⟩; replace BX := BX.b hb; replace BR := BR.b hb; replace HB := Bw.sw w hb; clear hb; obtain ⟨hc0, hc1, hc2, hc3, hc4, hf0, hf1, hf2, hf3, hf4⟩ := blk5 BX.h; obtain ⟨gc0, gc1, gc2, gc3, gc4, gf0, gf1, gf2, gf3, gf4⟩ := blk5 BR.h; have hnb := NB.out; have hnc := NB.out.symm; simp only [Act.put, List.setIfInBounds_toArray, List.set_cons_zero, List.set_cons_succ]))
  go_loopg [6] kj (fun kq v6 wr => ∃ (i : Int) (y : S30) (F2 : Option Addr) (e2 : Nat) (F3 : Option Addr) (e3 : Nat) (F4 : Option Addr) (e4 : Nat), v6 = .int .i64 i ∧ Aside0 (spec_At.l0 kq l1 i y.f0 y.f1 y.f2 y.f3 y.f4 = some (y10, y11, y12, y13, y14, r6)) ∧ Aside0 (kq ≤ kj) ∧ Aside0 (Cv w y F2 e2 F3 e3 F4 e4) ∧ Bx wr gb 30 #[.int .i64 y.f0, .int .i64 y.f1, .slice F2 y.f2.length e2, .slice F3 y.f3.length e3, .slice F4 y.f4.length e4] ∧ Bx wr gr 30 #[.int .i64 0, .int .i64 0, .slice none 0 0, .slice none 0 0, .slice none 0 0] ∧ Bw w wr)
  case atStart => exact ⟨0, ⟨a0, a1, l2, l3, l4⟩, _, _, _, _, _, _, rfl, H', ⟨Nat.le_refl _⟩, ⟨⟨L2.out, G2.out, L3.out, G3.out, L4.out, G4.out⟩⟩, BX, BR, HB⟩
  case round =>
  clear H' HB BX BR hc0 hc1 hc2 hc3 hc4 hf0 hf1 hf2 hf3 hf4 gc0 gc1 gc2 gc3 gc4 gf0 gf1 gf2 gf3 gf4
  obtain ⟨i, y, F2, e2, F3, e3, F4, e4, rfl, HA, HK1, HV, BX, BR, HB⟩ := hrel
  cases gk with
  | zero => exact absurd HA.out (by simp [spec_At.l0])
  | succ m1 =>
   have H := HA.out
   clear HA
   rw [spec_At.l0] at H
   obtain ⟨hc0, hc1, hc2, hc3, hc4, hf0, hf1, hf2, hf3, hf4⟩ := blk5 BX.h
   obtain ⟨gc0, gc1, gc2, gc3, gc4, gf0, gf1, gf2, gf3, gf4⟩ := blk5 BR.h
   by_cases ci : i < (l1.length : Int)
   · rw [if_pos ci] at H
     have h9 := yesN H
     clear H
     obtain ⟨i0, H⟩ := h9
     have h9 := bnd H
     clear H
     obtain ⟨t, T, H⟩ := h9
     obtain ⟨ad, B1, b1, e5, s0, s1, s2, sl, sC⟩ := at_T79 G1.out i i0 ci
     cases e5
     have cb0 : decide (i < (l1.length : Int)) = true := decide_eq_true ci
     have ci0 := eq_true i0
     have ci1 := eq_true ci
     clear i0 ci
     obtain ⟨s, hs⟩ : ∃ s, s = rd_T79 l1 i := ⟨_, rfl⟩
     rw [← hs] at s0 s1 s2 sl sC T
     clear hs
     replace T := Aside0.mk T
     have HS := Ps.b ⟨s0, s1, s2⟩ HB.out
     have SL := Aside0.mk sl
     have SC := Aside0.mk sC
     clear sl sC s0 s1 s2
     try go_wp2
     have hdr : Below wr.heap.size wr wr.drew := below_drew1 (Below.refl _ _)
     refine start_ (n := 7) (S := fun w' => Bx w' gb 30 #[.int .i64 y.f0, .int .i64 y.f1, .slice F2 y.f2.length e2, .slice F3 y.f3.length e3, .slice F4 y.f4.length e4] ∧ Ps w' (ad.add (i.toNat * 3)) s B1 b1) (ds := []) #[false, false, false, false, false, false, false] (by kernel_rfl) rfl rfl ⟨BX.b hdr, HS.b hdr⟩ (fun hH => ?_)
     generalize wr.drew = wd at hdr hH ⊢
     replace BX := BX.b hdr
     replace HS := HS.b hdr
     replace BR := BR.b hdr
     replace HB := Bw.sw w hdr
     clear hdr
     refine take_ (i := 0) (N := some 23) (v := ?_) (a' := ?_) #[true, false, false, false, false, false, false] rfl rfl (by kernel_rfl) (fun _ _ _ h => h) (Or.inl ⟨by rfl, ?_⟩) hH ?_ ?_
     rotate_left
     ·rintro w' ⟨s0, s1⟩
      obtain ⟨hc0, hc1, hc2, hc3, hc4, hf0, hf1, hf2, hf3, hf4⟩ := blk5 s0.h
      go_simp
      with_reducible rfl
     rotate_left
     ·simp only [Act.put, List.setIfInBounds_toArray, List.set_cons_zero, List.set_cons_succ, i64_w, i32_w]
      rfl
     refine pure_ (i := 1) (N := some 24) (v := ?_) (a' := ?_) #[true, true, false, false, false, false, false] rfl rfl (by kernel_rfl) (fun _ _ _ h => h) (Or.inl ⟨by rfl, ?_⟩) ?_ ?_
     rotate_left
     ·intro w'
      go_simp
      with_reducible rfl
     rotate_left
     ·simp only [Act.put, List.setIfInBounds_toArray, List.set_cons_zero, List.set_cons_succ, i64_w, i32_w]
      rfl
     refine pure_ (i := 2) (N := some 25) (v := ?_) (a' := ?_) #[true, true, true, false, false, false, false] rfl rfl (by kernel_rfl) (fun _ _ _ h => h) (Or.inl ⟨by rfl, ?_⟩) ?_ ?_
     rotate_left
     ·intro w'
      go_simp
      with_reducible rfl
     rotate_left
     ·simp only [Act.put, List.setIfInBounds_toArray, List.set_cons_zero, List.set_cons_succ, i64_w, i32_w]
      rfl
     refine pure_ (i := 3) (N := some 26) (v := ?_) (a' := ?_) #[true, true, true, true, false, false, false] rfl rfl (by kernel_rfl) (fun _ _ _ h => h) (Or.inl ⟨by rfl, ?_⟩) ?_ ?_
     rotate_left
     ·intro w'
      go_simp
      with_reducible rfl
     rotate_left
     ·simp only [Act.put, List.setIfInBounds_toArray, List.set_cons_zero, List.set_cons_succ, i64_w, i32_w]
      rfl
     refine take_ (i := 4) (N := some 27) (v := ?_) (a' := ?_) #[true, true, true, true, true, false, false] rfl rfl (by kernel_rfl) (fun _ _ _ h => h) (Or.inl ⟨by rfl, ?_⟩) hH ?_ ?_
     rotate_left
     ·rintro w' ⟨s0, s1⟩
      obtain ⟨t0, t1, t2⟩ := s1
      go_simp
      with_reducible rfl
     rotate_left
     ·simp only [Act.put, List.setIfInBounds_toArray, List.set_cons_zero, List.set_cons_succ, i64_w, i32_w]
      rfl
     refine one_ (i := 5) (N := some 28) #[true, true, true, true, true, true, false] rfl rfl (by kernel_rfl) (by decide) (fun K hK => ?_)
     refine goes_ Try.func91 (by kernel_rfl) rfl #[.agg #[.int .i64 y.f0, .int .i64 y.f1, .slice F2 y.f2.length e2, .slice F3 y.f3.length e3, .slice F4 y.f4.length e4], .agg #[.int .i64 s.f0, .slice B1 s.f1.length b1, .int .i64 s.f2]] (by rfl) rfl rfl (by (try simp only [List.map_toArray, List.map_cons, List.map_nil]); first | done | rfl) ?_
     refine (spec_l3kid.calls m1 _ _ _ _ y.f2 _ _ y.f3 _ _ y.f4 _ _ _ s.f1 _ t _ (Kd.C_below HV.out.z2 HB.out) HV.out.y2 (Kd.C_below HV.out.z3 HB.out) HV.out.y3 (Kd.C_below HV.out.z4 HB.out) HV.out.y4 (Kd.C_below SC.out HB.out) SL.out T.out).mono ?_
     rintro e we ⟨rfl, hb⟩
     refine ⟨_, rfl, ?_⟩
     replace BX := BX.b hb
     replace HS := HS.b hb
     replace BR := BR.b hb
     replace HB := Bw.sw w hb
     clear hb
     refine hK.out _ _ ⟨BX, HS⟩ (fun hH => ?_)
     clear hK K
     refine norm_ (a' := ?_) ?_ ?_
     rotate_left
     ·show Act.put _ (some 28) _ = _
      simp only [Act.put, List.setIfInBounds_toArray, List.set_cons_zero, List.set_cons_succ, i64_w, i32_w]
      rfl
     refine pure_ (i := 6) (N := some 7) (v := ?_) (a' := ?_) #[true, true, true, true, true, true, true] rfl rfl (by kernel_rfl) (fun _ _ _ h => h) (Or.inl ⟨by rfl, ?_⟩) ?_ ?_
     rotate_left
     ·intro w'
      go_simp
      with_reducible rfl
     rotate_left
     ·simp only [Act.put, List.setIfInBounds_toArray, List.set_cons_zero, List.set_cons_succ, i64_w, i32_w]
      rfl
     refine done_ (by kernel_rfl) ?_
     clear HS
     obtain ⟨hc0, hc1, hc2, hc3, hc4, hf0, hf1, hf2, hf3, hf4⟩ := blk5 BX.h
     obtain ⟨gc0, gc1, gc2, gc3, gc4, gf0, gf1, gf2, gf3, gf4⟩ := blk5 BR.h
     have hnb := NB.out
     have hnc := NB.out.symm
     by_cases ct : t < 0
     · rw [if_pos ct] at H
       have cb1 : decide (t < 0) = true := decide_eq_true ct
       clear ct
       simp only [Option.some.injEq, Prod.mk.injEq] at H
       obtain ⟨rfl, rfl, rfl, rfl, rfl, rfl⟩ := H
       go_wp2
       refine bodyPost_ret (results_ct rfl _ _ gr 30 #[.int .i64 0, .int .i64 0, .slice none 0 0, .slice none 0 0, .slice none 0 0] (0, 0) _ rfl BR.sets5.h Try.underlying30 rfl (by kernel_rfl)) rfl ?_
       exact ⟨_, rfl, Own.of (k_zero _ _ (fun _ => True)) (M.Below.sets5 HB.out GE.out).size, M.Below.sets5 HB.out GE.out⟩
     · rw [if_neg ct] at H
       have cb1 : decide (t < 0) = false := decide_eq_false ct
       clear ct
       have h9 := yesN H
       clear H
       obtain ⟨n0, H⟩ := h9
       have h9 := yesN H
       clear H
       obtain ⟨n1, H⟩ := h9
       obtain ⟨ad4, G2_, f2, G3_, f3, G4_, f4, e6, HP2⟩ := Pl.of HV.out.z4 t n0 n1
       cases e6
       have n2 := eq_true n0
       have n3 := eq_true n1
       clear n0 n1
       obtain ⟨x0, x1, x2, x3, x4, -⟩ := HP2.b HB.out
       have H' := Aside0.mk H
       clear H
       go_wp2
       go_roundg m1
       case measure => have := HK1.out; omega
       case rel => exact ⟨wrap64 (i + 1), rd_T30 y.f4 t, _, _, _, _, _, _, (by first | rfl | (simp; done) | (simp [*]; done)), H', ⟨by have := HK1.out; omega⟩, ⟨⟨HP2.y2, HP2.z2, HP2.y3, HP2.z3, HP2.y4, HP2.z4⟩⟩, BX.sets5, Bx.oth5 BR NB.out.symm, ⟨M.Below.sets5 HB.out GEb.out⟩⟩
   · rw [if_neg ci] at H
     have cb0 : decide (i < (l1.length : Int)) = false := decide_eq_false ci
     clear ci
     have h9 := bnd H
     clear H
     obtain ⟨⟨t1, t2, t3, t4, t5⟩, T3, H⟩ := h9
     replace T3 := Aside0.mk T3
     simp only [Option.some.injEq, Prod.mk.injEq] at H
     obtain ⟨rfl, rfl, rfl, rfl, rfl, rfl⟩ := H
     have hnb := NB.out
     have hnc := NB.out.symm
     go_wp2_with (first
       | ((with_reducible refine gate_dst (N := 38) rfl ?_); refine gg (some 38) rfl rfl rfl frS3 ?_; refine onc (l2own_m m1 y _ _ _ _ _ _ t1 t2 t3 t4 t5 _ (Kd.C_below HV.out.z2 HB.out) HV.out.y2 (Kd.C_below HV.out.z3 HB.out) HV.out.y3 (Kd.C_below HV.out.z4 HB.out) HV.out.y4 T3.out) rfl ?_; rintro e w6 ⟨B2, f2, B3, f3, B4, f4, rfl, hD, hb⟩; refine ⟨_, rfl, ?_⟩; have NG := Aside0.mk BR.lt; replace BX := BX.b hb; replace BR := BR.b hb; have HD := Aside0.mk hD; have GL := Aside0.mk HB.out.size; replace HB := Bw.sw w hb; clear hb hD; obtain ⟨gc0, gc1, gc2, gc3, gc4, gf0, gf1, gf2, gf3, gf4⟩ := blk5 BR.h; simp only [Act.put, List.setIfInBounds_toArray, List.set_cons_zero, List.set_cons_succ]))
     refine bodyPost_ret (results_ct rfl _ _ gr 30 #[.int .i64 t1, .int .i64 t2, .slice B2 t3.length f2, .slice B3 t4.length f3, .slice B4 t5.length f4] (0, 0) _ rfl BR.sets5.h Try.underlying30 rfl (by kernel_rfl)) rfl ?_
     refine ⟨_, rfl, Own.of (ok := fun _ => True) (k30.M_lower GL.out (k30.M_mono (fun _ _ => trivial) (k30.M_move (fun z hz => ?_) (k30.M_bound HD.out)))) (M.Below.sets5 HB.out GE.out).size, M.Below.sets5 HB.out GE.out⟩
     have hzg : z ≠ gr := fun e => by have := hz.2.1; rw [e] at this; exact Nat.not_lt.2 this NG.out
     exact heap_sets5 hzg
end Go.Proofs.Ytenpjddjmhjdoaa.PFnExactAt
