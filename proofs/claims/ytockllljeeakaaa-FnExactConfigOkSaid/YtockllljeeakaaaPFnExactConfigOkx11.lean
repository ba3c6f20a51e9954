/- What the law reaches: each function as a plain Lean function, and that each call comes to it. No condition. -/
import Derived.Test.YtockllljeeakaaaPFnExactConfigOkx0
import Derived.Test.YtockllljeeakaaaPFnExactConfigOkx9
import Derived.Test.YtockllljeeakaaaPFnExactConfigOkx10
namespace Go.Proofs.Ytockllljeeakaaa.PFnExactConfigOk
open Go.RowKit Go.Proofs.YtockllljeeakaaaW.PrintWords Go.Proofs.YtockllljeeakaaaW.PrintLast Go.Proofs.YtockllljeeakaaaW.PrintMore Go.Proofs.Ytockllljeeakaaa.M
attribute [local go_sem] max2_int min2_int max_two min_two max_three min_three max_four min_four Go.Proofs.Ytockllljeeakaaa.M.str_gtr Go.Proofs.Ytockllljeeakaaa.M.str_leq Go.Proofs.Ytockllljeeakaaa.M.str_geq   -- for this text's walks alone
set_option linter.unusedVariables false
set_option linter.unusedSimpArgs false

/-! ### impl_isFormed_1: function 122 -/
/-! ### x_IndexFunc_at_impl_isFormed_1: function 146 -/
/-! ### x_ContainsFunc_at_impl_isFormed_1: function 121 -/
/-! ### impl_isFormed: function 81 -/
mutual
def impl_isFormed_1.f : Nat → Int → Int → List Int → List (List Int) → List (S31) → Int → Option (Bool)
 | 0, _, _, _, _, _, _ => none
 | k + 1, a0_0, a0_1, l0_2, l0_3, l0_4, a1 => (impl_isFormed.f k a0_0 a0_1 l0_2 l0_3 l0_4 (wrap64 (a1 - 1))).bind fun t326 => (some (!t326))
def x_IndexFunc_at_impl_isFormed_1.l0 : Nat → List (S31) → Int → Int → Int → Option (Int)
 | 0, _, _, _, _ => none
 | k + 1, x0, x1, x7, x8 => if x8 < x7 then (if 0 ≤ x8 then (if x8 < (x0.length : Int) then ((impl_isFormed_1.f k ((rd_T31 x0 x8).f0) ((rd_T31 x0 x8).f1) ((rd_T31 x0 x8).f2) ((rd_T31 x0 x8).f3) ((rd_T31 x0 x8).f4) x1).bind fun t328 => (if t328 = true then (some x8) else (x_IndexFunc_at_impl_isFormed_1.l0 k x0 x1 x7 (wrap64 (x8 + 1))))) else (none)) else (none)) else (some (-1))
def x_IndexFunc_at_impl_isFormed_1.f : Nat → List (S31) → Int → Option (Int)
 | 0, _, _ => none
 | k + 1, l0, a1 => x_IndexFunc_at_impl_isFormed_1.l0 k l0 a1 (l0.length : Int) 0
def x_ContainsFunc_at_impl_isFormed_1.f : Nat → List (S31) → Int → Option (Bool)
 | 0, _, _ => none
 | k + 1, l0, a1 => (x_IndexFunc_at_impl_isFormed_1.f k l0 a1).bind fun t329 => (some (decide (t329 ≥ 0)))
def impl_isFormed.j0 : Nat → Bool → Int → Int → List Int → List (List Int) → List (S31) → Int → Option (Bool)
 | 0, _, _, _, _, _, _, _ => none
 | k + 1, x36, x331000, x331001, x331002, x331003, x331004, x332000 => if x36 = true then (some false) else (if x331000 = 1 then ((impl_in.f x331001 0 1).bind fun t332 => (if t332 = true then (impl_isFormed.j7 k 0 false x331000 x331001 x331002 x331003 x331004 x332000) else (some false))) else (if x331000 = 2 then ((impl_in.f x331001 0 1000000000000).bind fun t333 => (if t333 = true then (impl_isFormed.j7 k 0 false x331000 x331001 x331002 x331003 x331004 x332000) else (some false))) else (if x331000 = 0 then (impl_isFormed.j1 k 0 false x331000 (x331000 == 0) x331000 x331001 x331002 x331003 x331004 x332000) else (if x331000 = 10 then (impl_isFormed.j1 k 0 false x331000 (x331000 == 10) x331000 x331001 x331002 x331003 x331004 x332000) else (if x331000 = 11 then (impl_isFormed.j1 k 0 false x331000 (x331000 == 11) x331000 x331001 x331002 x331003 x331004 x332000) else (impl_isFormed.j1 k 0 false x331000 (x331000 == 12) x331000 x331001 x331002 x331003 x331004 x332000))))))
def impl_isFormed.j7 : Nat → Int → Bool → Int → Int → List Int → List (List Int) → List (S31) → Int → Option (Bool)
 | 0, _, _, _, _, _, _, _, _ => none
 | k + 1, x5, x6, x331000, x331001, x331002, x331003, x331004, x332000 => if x6 = true then (if (x331004.length : Int) = x5 then (impl_isFormed.j8 k (decide (x5 > 150)) x331000 x331001 x331002 x331003 x331004 x332000) else (impl_isFormed.j8 k true x331000 x331001 x331002 x331003 x331004 x332000)) else (if (x331002.length : Int) > 0 then (impl_isFormed.j8 k true x331000 x331001 x331002 x331003 x331004 x332000) else (if (x331004.length : Int) = x5 then (impl_isFormed.j8 k (decide (x5 > 150)) x331000 x331001 x331002 x331003 x331004 x332000) else (impl_isFormed.j8 k true x331000 x331001 x331002 x331003 x331004 x332000)))
def impl_isFormed.j8 : Nat → Bool → Int → Int → List Int → List (List Int) → List (S31) → Int → Option (Bool)
 | 0, _, _, _, _, _, _, _ => none
 | k + 1, x154, x331000, x331001, x331002, x331003, x331004, x332000 => if x154 = true then (some false) else ((x_ContainsFunc_at_impl_isFormed_1.f k x331004 x332000).bind fun t341 => (some (!t341)))
def impl_isFormed.j1 : Nat → Int → Bool → Int → Bool → Int → Int → List Int → List (List Int) → List (S31) → Int → Option (Bool)
 | 0, _, _, _, _, _, _, _, _, _, _ => none
 | k + 1, x5, x6, x38, x51, x331000, x331001, x331002, x331003, x331004, x332000 => if x51 = true then (impl_isFormed.j7 k x5 x6 x331000 x331001 x331002 x331003 x331004 x332000) else (if x38 = 3 then ((impl_isText.f k x331002).bind fun t334 => (if t334 = true then (impl_isFormed.j7 k x5 true x331000 x331001 x331002 x331003 x331004 x332000) else (some false))) else (if x38 = 6 then (impl_isFormed.j2 k x5 x6 x38 (x38 == 6) x331000 x331001 x331002 x331003 x331004 x332000) else (impl_isFormed.j2 k x5 x6 x38 (x38 == 8) x331000 x331001 x331002 x331003 x331004 x332000)))
def impl_isFormed.j2 : Nat → Int → Bool → Int → Bool → Int → Int → List Int → List (List Int) → List (S31) → Int → Option (Bool)
 | 0, _, _, _, _, _, _, _, _, _, _ => none
 | k + 1, x5, x6, x38, x62, x331000, x331001, x331002, x331003, x331004, x332000 => if x62 = true then ((impl_isName.f k x331002).bind fun t335 => (if t335 = true then (if x331000 = 8 then (impl_isFormed.j7 k 1 true x331000 x331001 x331002 x331003 x331004 x332000) else (impl_isFormed.j7 k x5 true x331000 x331001 x331002 x331003 x331004 x332000)) else (some false))) else (if x38 = 7 then (impl_isFormed.j3 k x5 x6 x38 (x38 == 7) x331000 x331001 x331002 x331003 x331004 x332000) else (impl_isFormed.j3 k x5 x6 x38 (x38 == 23) x331000 x331001 x331002 x331003 x331004 x332000))
def impl_isFormed.j3 : Nat → Int → Bool → Int → Bool → Int → Int → List Int → List (List Int) → List (S31) → Int → Option (Bool)
 | 0, _, _, _, _, _, _, _, _, _, _ => none
 | k + 1, x5, x6, x38, x72, x331000, x331001, x331002, x331003, x331004, x332000 => if x72 = true then ((impl_isWord.f k x331002).bind fun t336 => (if t336 = true then (if x331000 = 23 then (impl_isFormed.j7 k (x331004.length : Int) true x331000 x331001 x331002 x331003 x331004 x332000) else (impl_isFormed.j7 k x5 true x331000 x331001 x331002 x331003 x331004 x332000)) else (some false))) else (if x38 = 4 then (impl_isFormed.j7 k (x331004.length : Int) x6 x331000 x331001 x331002 x331003 x331004 x332000) else (if x38 = 5 then (impl_isFormed.l0 k (x331003.length : Int) x6 x331003 (x331003.length : Int) 0 x331000 x331001 x331002 x331003 x331004 x332000) else (if x38 = 13 then (impl_isFormed.j5 k x6 x38 (x38 == 13) x331000 x331001 x331002 x331003 x331004 x332000) else (impl_isFormed.j5 k x6 x38 (x38 == 14) x331000 x331001 x331002 x331003 x331004 x332000))))
def impl_isFormed.l0 : Nat → Int → Bool → List (List Int) → Int → Int → Int → Int → List Int → List (List Int) → List (S31) → Int → Option (Bool)
 | 0, _, _, _, _, _, _, _, _, _, _, _ => none
 | k + 1, x5, x6, x96, x97, x98, x331000, x331001, x331002, x331003, x331004, x332000 => if x98 < x97 then (if 0 ≤ x98 then (if x98 < (x96.length : Int) then ((impl_isName.f k (rd_L1 x96 x98)).bind fun t338 => (if t338 = true then (if x98 > 0 then (if 0 ≤ (wrap64 (x98 - 1)) then (if (wrap64 (x98 - 1)) < (x331003.length : Int) then ((bytes_Compare.f (rd_L1 x331003 (wrap64 (x98 - 1))) (rd_L1 x96 x98)).bind fun t340 => (if t340 ≥ 0 then (some false) else (impl_isFormed.l0 k x5 x6 x96 x97 (wrap64 (x98 + 1)) x331000 x331001 x331002 x331003 x331004 x332000))) else (none)) else (none)) else (impl_isFormed.l0 k x5 x6 x96 x97 (wrap64 (x98 + 1)) x331000 x331001 x331002 x331003 x331004 x332000)) else (some false))) else (none)) else (none)) else (impl_isFormed.j7 k x5 x6 x331000 x331001 x331002 x331003 x331004 x332000)
def impl_isFormed.j5 : Nat → Bool → Int → Bool → Int → Int → List Int → List (List Int) → List (S31) → Int → Option (Bool)
 | 0, _, _, _, _, _, _, _, _, _ => none
 | k + 1, x6, x38, x122, x331000, x331001, x331002, x331003, x331004, x332000 => if x122 = true then (impl_isFormed.j7 k 1 x6 x331000 x331001 x331002 x331003 x331004 x332000) else (if x38 = 9 then (impl_isFormed.j6 k x6 x38 (x38 == 9) x331000 x331001 x331002 x331003 x331004 x332000) else (if x38 = 15 then (impl_isFormed.j6 k x6 x38 (x38 == 15) x331000 x331001 x331002 x331003 x331004 x332000) else (if x38 = 16 then (impl_isFormed.j6 k x6 x38 (x38 == 16) x331000 x331001 x331002 x331003 x331004 x332000) else (if x38 = 17 then (impl_isFormed.j6 k x6 x38 (x38 == 17) x331000 x331001 x331002 x331003 x331004 x332000) else (if x38 = 18 then (impl_isFormed.j6 k x6 x38 (x38 == 18) x331000 x331001 x331002 x331003 x331004 x332000) else (if x38 = 19 then (impl_isFormed.j6 k x6 x38 (x38 == 19) x331000 x331001 x331002 x331003 x331004 x332000) else (if x38 = 20 then (impl_isFormed.j6 k x6 x38 (x38 == 20) x331000 x331001 x331002 x331003 x331004 x332000) else (impl_isFormed.j6 k x6 x38 (x38 == 21) x331000 x331001 x331002 x331003 x331004 x332000))))))))
def impl_isFormed.j6 : Nat → Bool → Int → Bool → Int → Int → List Int → List (List Int) → List (S31) → Int → Option (Bool)
 | 0, _, _, _, _, _, _, _, _, _ => none
 | k + 1, x6, x38, x125, x331000, x331001, x331002, x331003, x331004, x332000 => if x125 = true then (impl_isFormed.j7 k 2 x6 x331000 x331001 x331002 x331003 x331004 x332000) else (if x38 = 22 then (impl_isFormed.j7 k 3 x6 x331000 x331001 x331002 x331003 x331004 x332000) else (some false))
def impl_isFormed.f : Nat → Int → Int → List Int → List (List Int) → List (S31) → Int → Option (Bool)
 | 0, _, _, _, _, _, _ => none
 | k + 1, a0_0, a0_1, l0_2, l0_3, l0_4, a1 => if a1 = 0 then (impl_isFormed.j0 k true a0_0 a0_1 l0_2 l0_3 l0_4 a1) else (if a0_0 = 5 then (if a0_0 = 1 then (none) else (if a0_0 = 2 then (none) else (impl_isFormed.j0 k (a0_1 != 0) a0_0 a0_1 l0_2 l0_3 l0_4 a1))) else (if (l0_3.length : Int) > 0 then (impl_isFormed.j0 k true a0_0 a0_1 l0_2 l0_3 l0_4 a1) else (if a0_0 = 1 then (impl_isFormed.j0 k false a0_0 a0_1 l0_2 l0_3 l0_4 a1) else (if a0_0 = 2 then (impl_isFormed.j0 k false a0_0 a0_1 l0_2 l0_3 l0_4 a1) else (impl_isFormed.j0 k (a0_1 != 0) a0_0 a0_1 l0_2 l0_3 l0_4 a1)))))
end
set_option maxHeartbeats 8000000 in
set_option maxRecDepth 100000 in
theorem impl_isFormed_1.step (k : Nat) (ih : ∀ j, j < k → ∀ (a0_0 : Int) (a0_1 : Int) (A0_2 : Option Addr) (c0_2 : Nat) (l0_2 : List Int) (A0_3 : Option Addr) (c0_3 : Nat) (l0_3 : List (List Int)) (A0_4 : Option Addr) (c0_4 : Nat) (l0_4 : List (S31)) (a1 : Int) (bl : Nat) (r : Bool) (w : World) (hr0_2 : Kd.C (Kd.int .u8) w A0_2 l0_2.length l0_2) (hc0_2 : l0_2.length ≤ c0_2) (hr0_3 : Kd.C (Kd.slice 5 (Kd.int .u8)) w A0_3 l0_3.length l0_3) (hc0_3 : l0_3.length ≤ c0_3) (hr0_4 : Kd.C k31 w A0_4 l0_4.length l0_4) (hc0_4 : l0_4.length ≤ c0_4) (hbl : w.cell? ⟨bl, 0, none⟩ = some (.int .i64 a1)) (h : impl_isFormed_1.f j a0_0 a0_1 l0_2 l0_3 l0_4 a1 = some r),
  Calls Try.prog 122 #[.agg #[.int .i64 a0_0, .int .i64 a0_1, .slice A0_2 l0_2.length c0_2, .slice A0_3 l0_3.length c0_3, .slice A0_4 l0_4.length c0_4], .pointer (some ⟨bl, 0, none⟩)] w fun e w' => e = .returned (.bool r) ∧ Below w.heap.size w w') (ih_x_IndexFunc_at_impl_isFormed_1 : ∀ j, j < k → ∀ (A0 : Option Addr) (c0 : Nat) (l0 : List (S31)) (a1 : Int) (bl : Nat) (r : Int) (w : World) (hr0 : Kd.C k31 w A0 l0.length l0) (hc0 : l0.length ≤ c0) (hbl : w.cell? ⟨bl, 0, none⟩ = some (.int .i64 a1)) (h : x_IndexFunc_at_impl_isFormed_1.f j l0 a1 = some r),
  Calls Try.prog 146 #[.slice A0 l0.length c0, .func (.func 122) #[] #[.pointer (some ⟨bl, 0, none⟩)]] w fun e w' => e = .returned (.int .i64 r) ∧ Below w.heap.size w w') (ih_x_ContainsFunc_at_impl_isFormed_1 : ∀ j, j < k → ∀ (A0 : Option Addr) (c0 : Nat) (l0 : List (S31)) (a1 : Int) (bl : Nat) (r : Bool) (w : World) (hr0 : Kd.C k31 w A0 l0.length l0) (hc0 : l0.length ≤ c0) (hbl : w.cell? ⟨bl, 0, none⟩ = some (.int .i64 a1)) (h : x_ContainsFunc_at_impl_isFormed_1.f j l0 a1 = some r),
  Calls Try.prog 121 #[.slice A0 l0.length c0, .func (.func 122) #[] #[.pointer (some ⟨bl, 0, none⟩)]] w fun e w' => e = .returned (.bool r) ∧ Below w.heap.size w w') (ih_impl_isFormed : ∀ j, j < k → ∀ (a0_0 : Int) (a0_1 : Int) (A0_2 : Option Addr) (c0_2 : Nat) (l0_2 : List Int) (A0_3 : Option Addr) (c0_3 : Nat) (l0_3 : List (List Int)) (A0_4 : Option Addr) (c0_4 : Nat) (l0_4 : List (S31)) (a1 : Int) (r : Bool) (w : World) (hr0_2 : Kd.C (Kd.int .u8) w A0_2 l0_2.length l0_2) (hc0_2 : l0_2.length ≤ c0_2) (hr0_3 : Kd.C (Kd.slice 5 (Kd.int .u8)) w A0_3 l0_3.length l0_3) (hc0_3 : l0_3.length ≤ c0_3) (hr0_4 : Kd.C k31 w A0_4 l0_4.length l0_4) (hc0_4 : l0_4.length ≤ c0_4) (h : impl_isFormed.f j a0_0 a0_1 l0_2 l0_3 l0_4 a1 = some r),
  Calls Try.prog 81 #[.agg #[.int .i64 a0_0, .int .i64 a0_1, .slice A0_2 l0_2.length c0_2, .slice A0_3 l0_3.length c0_3, .slice A0_4 l0_4.length c0_4], .int .i64 a1] w fun e w' => e = .returned (.bool r) ∧ Below w.heap.size w w') :
  ∀ (a0_0 : Int) (a0_1 : Int) (A0_2 : Option Addr) (c0_2 : Nat) (l0_2 : List Int) (A0_3 : Option Addr) (c0_3 : Nat) (l0_3 : List (List Int)) (A0_4 : Option Addr) (c0_4 : Nat) (l0_4 : List (S31)) (a1 : Int) (bl : Nat) (r : Bool) (w : World) (hr0_2 : Kd.C (Kd.int .u8) w A0_2 l0_2.length l0_2) (hc0_2 : l0_2.length ≤ c0_2) (hr0_3 : Kd.C (Kd.slice 5 (Kd.int .u8)) w A0_3 l0_3.length l0_3) (hc0_3 : l0_3.length ≤ c0_3) (hr0_4 : Kd.C k31 w A0_4 l0_4.length l0_4) (hc0_4 : l0_4.length ≤ c0_4) (hbl : w.cell? ⟨bl, 0, none⟩ = some (.int .i64 a1)) (h : impl_isFormed_1.f k a0_0 a0_1 l0_2 l0_3 l0_4 a1 = some r),
  Calls Try.prog 122 #[.agg #[.int .i64 a0_0, .int .i64 a0_1, .slice A0_2 l0_2.length c0_2, .slice A0_3 l0_3.length c0_3, .slice A0_4 l0_4.length c0_4], .pointer (some ⟨bl, 0, none⟩)] w fun e w' => e = .returned (.bool r) ∧ Below w.heap.size w w' := by
 intro a0_0 a0_1 A0_2 c0_2 l0_2 A0_3 c0_3 l0_3 A0_4 c0_4 l0_4 a1 bl r w hr0_2 hc0_2 hr0_3 hc0_3 hr0_4 hc0_4 hbl h
 cases k with
 | zero => exact absurd h (by simp [impl_isFormed_1.f])
 | succ k =>
 simp only [impl_isFormed_1.f] at h
 have hu31 := Try.underlying31
 have HR0_2 := Aside0.mk hr0_2
 have HC0_2 := Aside0.mk hc0_2
 clear hr0_2 hc0_2
 have HR0_3 := Aside0.mk hr0_3
 have HC0_3 := Aside0.mk hc0_3
 clear hr0_3 hc0_3
 have HR0_4 := Aside0.mk hr0_4
 have HC0_4 := Aside0.mk hc0_4
 clear hr0_4 hc0_4
 have HB := Bw.refl w
 have H : ((impl_isFormed.f k a0_0 a0_1 l0_2 l0_3 l0_4 (wrap64 (a1 - 1))).bind fun t326 => (some (!t326))) = some r := h
 clear h
 replace H := Option.bind_eq_some_iff.mp H
 obtain ⟨t326, A30, H⟩ := H
 have A3 := Aside0.mk A30
 clear A30
 obtain rfl := Option.some.inj H
 go_enter Try.func122, Try.ntmps122
 go_wp2_with (first | ((with_reducible refine gate_dst (N := 2) rfl ?_); refine box_event rfl (N := 2) rfl (cs := #[.int .i64 a0_0, .int .i64 a0_1, .slice A0_2 l0_2.length c0_2, .slice A0_3 l0_3.length c0_3, .slice A0_4 l0_4.length c0_4]) (t := 31) (by go_simp <;> rfl) ?_; intro gb325 hg w4 hbox hb; have BK325 := Aside0.mk (hbox); have GE325 := (Ge.of hg : Ge w.heap.size gb325); replace HB := (Bw.sw w hb); clear hb hbox hg; have hcb := (HB.out.cell (World.block_lt_of_cell? w _ hbl)).trans hbl; obtain ⟨hcz5_0, hcz5_1, hcz5_2, hcz5_3, hcz5_4, hfz5_0, hfz5_1, hfz5_2, hfz5_3, hfz5_4⟩ := blk5 BK325.out) | ((with_reducible refine gg (f := 81) (some 7) rfl rfl rfl fr81 ?_); refine onc (ih_impl_isFormed k (by omega) a0_0 a0_1 _ _ l0_2 _ _ l0_3 _ _ l0_4 (wrap64 (a1 - 1)) t326 _ (cb HR0_2) HC0_2.out (cb HR0_3) HC0_3.out (cb HR0_4) HC0_4.out A3.out) rfl ?_; rintro e w6 ⟨rfl, hb⟩; refine ⟨_, rfl, ?_⟩; replace BK325 := Aside0.mk (blk_below (g := gb325) (o := .cells #[.int .i64 a0_0, .int .i64 a0_1, .slice A0_2 l0_2.length c0_2, .slice A0_3 l0_3.length c0_3, .slice A0_4 l0_4.length c0_4] 31 (0, 0)) (by (with_reducible repeat (first | refine blk_drewN ?_ _ | refine blk_drew ?_ | refine blk_alloc ?_ _)); exact BK325.out) hb); replace HB := (Bw.sw w hb); (try clear hb)))
 go_ret
 exact ⟨by first | rfl | (simp [errW_none, errW_some] <;> rfl) | (simp [*, errW_none, errW_some] <;> rfl), bw⟩
set_option maxHeartbeats 8000000 in
set_option maxRecDepth 100000 in
theorem x_IndexFunc_at_impl_isFormed_1.step (k : Nat) (ih_impl_isFormed_1 : ∀ j, j < k → ∀ (a0_0 : Int) (a0_1 : Int) (A0_2 : Option Addr) (c0_2 : Nat) (l0_2 : List Int) (A0_3 : Option Addr) (c0_3 : Nat) (l0_3 : List (List Int)) (A0_4 : Option Addr) (c0_4 : Nat) (l0_4 : List (S31)) (a1 : Int) (bl : Nat) (r : Bool) (w : World) (hr0_2 : Kd.C (Kd.int .u8) w A0_2 l0_2.length l0_2) (hc0_2 : l0_2.length ≤ c0_2) (hr0_3 : Kd.C (Kd.slice 5 (Kd.int .u8)) w A0_3 l0_3.length l0_3) (hc0_3 : l0_3.length ≤ c0_3) (hr0_4 : Kd.C k31 w A0_4 l0_4.length l0_4) (hc0_4 : l0_4.length ≤ c0_4) (hbl : w.cell? ⟨bl, 0, none⟩ = some (.int .i64 a1)) (h : impl_isFormed_1.f j a0_0 a0_1 l0_2 l0_3 l0_4 a1 = some r),
  Calls Try.prog 122 #[.agg #[.int .i64 a0_0, .int .i64 a0_1, .slice A0_2 l0_2.length c0_2, .slice A0_3 l0_3.length c0_3, .slice A0_4 l0_4.length c0_4], .pointer (some ⟨bl, 0, none⟩)] w fun e w' => e = .returned (.bool r) ∧ Below w.heap.size w w') (ih : ∀ j, j < k → ∀ (A0 : Option Addr) (c0 : Nat) (l0 : List (S31)) (a1 : Int) (bl : Nat) (r : Int) (w : World) (hr0 : Kd.C k31 w A0 l0.length l0) (hc0 : l0.length ≤ c0) (hbl : w.cell? ⟨bl, 0, none⟩ = some (.int .i64 a1)) (h : x_IndexFunc_at_impl_isFormed_1.f j l0 a1 = some r),
  Calls Try.prog 146 #[.slice A0 l0.length c0, .func (.func 122) #[] #[.pointer (some ⟨bl, 0, none⟩)]] w fun e w' => e = .returned (.int .i64 r) ∧ Below w.heap.size w w') (ih_x_ContainsFunc_at_impl_isFormed_1 : ∀ j, j < k → ∀ (A0 : Option Addr) (c0 : Nat) (l0 : List (S31)) (a1 : Int) (bl : Nat) (r : Bool) (w : World) (hr0 : Kd.C k31 w A0 l0.length l0) (hc0 : l0.length ≤ c0) (hbl : w.cell? ⟨bl, 0, none⟩ = some (.int .i64 a1)) (h : x_ContainsFunc_at_impl_isFormed_1.f j l0 a1 = some r),
  Calls Try.prog 121 #[.slice A0 l0.length c0, .func (.func 122) #[] #[.pointer (some ⟨bl, 0, none⟩)]] w fun e w' => e = .returned (.bool r) ∧ Below w.heap.size w w') (ih_impl_isFormed : ∀ j, j < k → ∀ (a0_0 : Int) (a0_1 : Int) (A0_2 : Option Addr) (c0_2 : Nat) (l0_2 : List Int) (A0_3 : Option Addr) (c0_3 : Nat) (l0_3 : List (List Int)) (A0_4 : Option Addr) (c0_4 : Nat) (l0_4 : List (S31)) (a1 : Int) (r : Bool) (w : World) (hr0_2 : Kd.C (Kd.int .u8) w A0_2 l0_2.length l0_2) (hc0_2 : l0_2.length ≤ c0_2) (hr0_3 : Kd.C (Kd.slice 5 (Kd.int .u8)) w A0_3 l0_3.length l0_3) (hc0_3 : l0_3.length ≤ c0_3) (hr0_4 : Kd.C k31 w A0_4 l0_4.length l0_4) (hc0_4 : l0_4.length ≤ c0_4) (h : impl_isFormed.f j a0_0 a0_1 l0_2 l0_3 l0_4 a1 = some r),
  Calls Try.prog 81 #[.agg #[.int .i64 a0_0, .int .i64 a0_1, .slice A0_2 l0_2.length c0_2, .slice A0_3 l0_3.length c0_3, .slice A0_4 l0_4.length c0_4], .int .i64 a1] w fun e w' => e = .returned (.bool r) ∧ Below w.heap.size w w') :
  ∀ (A0 : Option Addr) (c0 : Nat) (l0 : List (S31)) (a1 : Int) (bl : Nat) (r : Int) (w : World) (hr0 : Kd.C k31 w A0 l0.length l0) (hc0 : l0.length ≤ c0) (hbl : w.cell? ⟨bl, 0, none⟩ = some (.int .i64 a1)) (h : x_IndexFunc_at_impl_isFormed_1.f k l0 a1 = some r),
  Calls Try.prog 146 #[.slice A0 l0.length c0, .func (.func 122) #[] #[.pointer (some ⟨bl, 0, none⟩)]] w fun e w' => e = .returned (.int .i64 r) ∧ Below w.heap.size w w' := by
 intro A0 c0 l0 a1 bl r w hr0 hc0 hbl h
 cases k with
 | zero => exact absurd h (by simp [x_IndexFunc_at_impl_isFormed_1.f])
 | succ k =>
 simp only [x_IndexFunc_at_impl_isFormed_1.f] at h
 have hu31 := Try.underlying31
 have HR0 := Aside0.mk hr0
 have HC0 := Aside0.mk hc0
 clear hr0 hc0
 have HB := Bw.refl w
 have H : (x_IndexFunc_at_impl_isFormed_1.l0 k l0 a1 (l0.length : Int) 0) = some r := h
 clear h
 have H' := Aside0.mk H
 clear H
 go_enter Try.func146, Try.ntmps146
 go_wp2
 go_loopg [8] k (fun kq v8 w' => ∃ (x8_1 : Int), v8 = .int .i64 x8_1 ∧ Aside0 (x_IndexFunc_at_impl_isFormed_1.l0 kq l0 a1 (l0.length : Int) x8_1 = some r) ∧ Aside0 (kq ≤ k) ∧ Bw w w')
 case atStart => exact ⟨(0), (by first | rfl | (simp; done) | (simp [*]; done)), H', ⟨Nat.le_refl _⟩, ⟨bw⟩⟩
 case round =>
  clear H'
  obtain ⟨x8_1, rfl, HA, HK1, HB⟩ := hrel
  cases gk with
  | zero => exact absurd HA.out (by simp [x_IndexFunc_at_impl_isFormed_1.l0])
  | succ k1 =>
   have H := HA.out
   clear HA
   simp only [x_IndexFunc_at_impl_isFormed_1.l0] at H
   by_cases c3 : x8_1 < (l0.length : Int)
   rotate_left
   ·rw [if_neg c3] at H
    have c3b0 : decide (x8_1 < (l0.length : Int)) = false := decide_eq_false c3
    clear c3
    obtain rfl := Option.some.inj H
    go_wp2
    go_ret
    exact ⟨by first | rfl | (simp [errW_none, errW_some] <;> rfl) | (simp [*, errW_none, errW_some] <;> rfl), bw⟩
   rw [if_pos c3] at H
   have c3b0 : decide (x8_1 < (l0.length : Int)) = true := decide_eq_true c3
   clear c3
   by_cases c4 : 0 ≤ x8_1
   rotate_left
   ·rw [if_neg c4] at H
    exact absurd H (by simp)
   rw [if_pos c4] at H
   have c4b0 : decide (0 ≤ x8_1) = true := decide_eq_true c4
   clear c4
   by_cases c5 : x8_1 < (l0.length : Int)
   rotate_left
   ·rw [if_neg c5] at H
    exact absurd H (by simp)
   rw [if_pos c5] at H
   have c5b0 : decide (x8_1 < (l0.length : Int)) = true := decide_eq_true c5
   clear c5
   replace H := Option.bind_eq_some_iff.mp H
   obtain ⟨t328, A60, H⟩ := H
   have A6 := Aside0.mk A60
   clear A60
   by_cases c7 : t328 = true
   ·subst c7
    replace H := (if_pos rfl).symm.trans H
    obtain rfl := Option.some.inj H
    have p327 : 0 ≤ (x8_1 : Int) := of_decide_eq_true (by first | (with_reducible assumption) | assumption)
    have q327 : x8_1 < (l0.length : Int) := of_decide_eq_true (by first | (with_reducible assumption) | assumption)
    obtain ⟨ad327, A327_2, c327_2, A327_3, c327_3, A327_4, c327_4, e327, hx327_0, hx327_1, hx327_2, hx327_3, hx327_4, hl327_2, hi327_2, hl327_3, hi327_3, hl327_4, hi327_4⟩ := at_T31 HR0.out x8_1 p327 q327
    cases e327
    replace hx327_0 := (HB.out.cell (World.block_lt_of_cell? w _ hx327_0)).trans hx327_0
    replace hx327_1 := (HB.out.cell (World.block_lt_of_cell? w _ hx327_1)).trans hx327_1
    replace hx327_2 := (HB.out.cell (World.block_lt_of_cell? w _ hx327_2)).trans hx327_2
    replace hx327_3 := (HB.out.cell (World.block_lt_of_cell? w _ hx327_3)).trans hx327_3
    replace hx327_4 := (HB.out.cell (World.block_lt_of_cell? w _ hx327_4)).trans hx327_4
    have HR327_2 := Aside0.mk hi327_2
    have HC327_2 := Aside0.mk hl327_2
    clear hi327_2 hl327_2
    have HR327_3 := Aside0.mk hi327_3
    have HC327_3 := Aside0.mk hl327_3
    clear hi327_3 hl327_3
    have HR327_4 := Aside0.mk hi327_4
    have HC327_4 := Aside0.mk hl327_4
    clear hi327_4 hl327_4
    replace p327 := eq_true p327
    replace q327 := eq_true q327
    go_wp2_with (first | (go_at_call 122; (with_reducible refine (ih_impl_isFormed_1 k1 (by have := HK1.out; omega) ((rd_T31 l0 x8_1).f0) ((rd_T31 l0 x8_1).f1) _ _ ((rd_T31 l0 x8_1).f2) _ _ ((rd_T31 l0 x8_1).f3) _ _ ((rd_T31 l0 x8_1).f4) a1 bl true _ ?side1 ?side2 ?side3 ?side4 ?side5 ?side6 ?sidebl A6.out).mono ?_); (case sidebl => first | exact hbl | exact (HB.out.cell (World.block_lt_of_cell? w _ hbl)).trans hbl); (case side1 => repeat (first | exact (Kd.C_below HR327_2.out HB.out) | (with_reducible refine Kd.C_alloc ?_ _) | (with_reducible refine Kd.C_drewN ?_ _) | (with_reducible refine Kd.C_drew ?_))); (case side2 => exact HC327_2.out); (case side3 => repeat (first | exact (Kd.C_below HR327_3.out HB.out) | (with_reducible refine Kd.C_alloc ?_ _) | (with_reducible refine Kd.C_drewN ?_ _) | (with_reducible refine Kd.C_drew ?_))); (case side4 => exact HC327_3.out); (case side5 => repeat (first | exact (Kd.C_below HR327_4.out HB.out) | (with_reducible refine Kd.C_alloc ?_ _) | (with_reducible refine Kd.C_drewN ?_ _) | (with_reducible refine Kd.C_drew ?_))); (case side6 => exact HC327_4.out); rintro e w8 ⟨rfl, hb⟩; replace HB := (Bw.sw w hb); (try clear hb)))
    go_ret
    exact ⟨by first | rfl | (simp [errW_none, errW_some] <;> rfl) | (simp [*, errW_none, errW_some] <;> rfl), bw⟩
   replace c7 := Bool.eq_false_iff.mpr c7
   subst c7
   replace H := (if_neg (show ¬ (false = true) by decide)).symm.trans H
   have H' := Aside0.mk H
   clear H
   have p327 : 0 ≤ (x8_1 : Int) := of_decide_eq_true (by first | (with_reducible assumption) | assumption)
   have q327 : x8_1 < (l0.length : Int) := of_decide_eq_true (by first | (with_reducible assumption) | assumption)
   obtain ⟨ad327, A327_2, c327_2, A327_3, c327_3, A327_4, c327_4, e327, hx327_0, hx327_1, hx327_2, hx327_3, hx327_4, hl327_2, hi327_2, hl327_3, hi327_3, hl327_4, hi327_4⟩ := at_T31 HR0.out x8_1 p327 q327
   cases e327
   replace hx327_0 := (HB.out.cell (World.block_lt_of_cell? w _ hx327_0)).trans hx327_0
   replace hx327_1 := (HB.out.cell (World.block_lt_of_cell? w _ hx327_1)).trans hx327_1
   replace hx327_2 := (HB.out.cell (World.block_lt_of_cell? w _ hx327_2)).trans hx327_2
   replace hx327_3 := (HB.out.cell (World.block_lt_of_cell? w _ hx327_3)).trans hx327_3
   replace hx327_4 := (HB.out.cell (World.block_lt_of_cell? w _ hx327_4)).trans hx327_4
   have HR327_2 := Aside0.mk hi327_2
   have HC327_2 := Aside0.mk hl327_2
   clear hi327_2 hl327_2
   have HR327_3 := Aside0.mk hi327_3
   have HC327_3 := Aside0.mk hl327_3
   clear hi327_3 hl327_3
   have HR327_4 := Aside0.mk hi327_4
   have HC327_4 := Aside0.mk hl327_4
   clear hi327_4 hl327_4
   replace p327 := eq_true p327
   replace q327 := eq_true q327
   go_wp2_with (first | (go_at_call 122; (with_reducible refine (ih_impl_isFormed_1 k1 (by have := HK1.out; omega) ((rd_T31 l0 x8_1).f0) ((rd_T31 l0 x8_1).f1) _ _ ((rd_T31 l0 x8_1).f2) _ _ ((rd_T31 l0 x8_1).f3) _ _ ((rd_T31 l0 x8_1).f4) a1 bl false _ ?side1 ?side2 ?side3 ?side4 ?side5 ?side6 ?sidebl A6.out).mono ?_); (case sidebl => first | exact hbl | exact (HB.out.cell (World.block_lt_of_cell? w _ hbl)).trans hbl); (case side1 => repeat (first | exact (Kd.C_below HR327_2.out HB.out) | (with_reducible refine Kd.C_alloc ?_ _) | (with_reducible refine Kd.C_drewN ?_ _) | (with_reducible refine Kd.C_drew ?_))); (case side2 => exact HC327_2.out); (case side3 => repeat (first | exact (Kd.C_below HR327_3.out HB.out) | (with_reducible refine Kd.C_alloc ?_ _) | (with_reducible refine Kd.C_drewN ?_ _) | (with_reducible refine Kd.C_drew ?_))); (case side4 => exact HC327_3.out); (case side5 => repeat (first | exact (Kd.C_below HR327_4.out HB.out) | (with_reducible refine Kd.C_alloc ?_ _) | (with_reducible refine Kd.C_drewN ?_ _) | (with_reducible refine Kd.C_drew ?_))); (case side6 => exact HC327_4.out); rintro e w9 ⟨rfl, hb⟩; replace HB := (Bw.sw w hb); (try clear hb)))
   go_roundg k1
   case measure => have := HK1.out; omega
   case rel => exact ⟨(wrap64 (x8_1 + 1)), (by first | rfl | (simp; done) | (simp [*]; done)), H', ⟨by have := HK1.out; omega⟩, ⟨bw⟩⟩
set_option maxHeartbeats 8000000 in
set_option maxRecDepth 100000 in
theorem x_ContainsFunc_at_impl_isFormed_1.step (k : Nat) (ih_impl_isFormed_1 : ∀ j, j < k → ∀ (a0_0 : Int) (a0_1 : Int) (A0_2 : Option Addr) (c0_2 : Nat) (l0_2 : List Int) (A0_3 : Option Addr) (c0_3 : Nat) (l0_3 : List (List Int)) (A0_4 : Option Addr) (c0_4 : Nat) (l0_4 : List (S31)) (a1 : Int) (bl : Nat) (r : Bool) (w : World) (hr0_2 : Kd.C (Kd.int .u8) w A0_2 l0_2.length l0_2) (hc0_2 : l0_2.length ≤ c0_2) (hr0_3 : Kd.C (Kd.slice 5 (Kd.int .u8)) w A0_3 l0_3.length l0_3) (hc0_3 : l0_3.length ≤ c0_3) (hr0_4 : Kd.C k31 w A0_4 l0_4.length l0_4) (hc0_4 : l0_4.length ≤ c0_4) (hbl : w.cell? ⟨bl, 0, none⟩ = some (.int .i64 a1)) (h : impl_isFormed_1.f j a0_0 a0_1 l0_2 l0_3 l0_4 a1 = some r),
  Calls Try.prog 122 #[.agg #[.int .i64 a0_0, .int .i64 a0_1, .slice A0_2 l0_2.length c0_2, .slice A0_3 l0_3.length c0_3, .slice A0_4 l0_4.length c0_4], .pointer (some ⟨bl, 0, none⟩)] w fun e w' => e = .returned (.bool r) ∧ Below w.heap.size w w') (ih_x_IndexFunc_at_impl_isFormed_1 : ∀ j, j < k → ∀ (A0 : Option Addr) (c0 : Nat) (l0 : List (S31)) (a1 : Int) (bl : Nat) (r : Int) (w : World) (hr0 : Kd.C k31 w A0 l0.length l0) (hc0 : l0.length ≤ c0) (hbl : w.cell? ⟨bl, 0, none⟩ = some (.int .i64 a1)) (h : x_IndexFunc_at_impl_isFormed_1.f j l0 a1 = some r),
  Calls Try.prog 146 #[.slice A0 l0.length c0, .func (.func 122) #[] #[.pointer (some ⟨bl, 0, none⟩)]] w fun e w' => e = .returned (.int .i64 r) ∧ Below w.heap.size w w') (ih : ∀ j, j < k → ∀ (A0 : Option Addr) (c0 : Nat) (l0 : List (S31)) (a1 : Int) (bl : Nat) (r : Bool) (w : World) (hr0 : Kd.C k31 w A0 l0.length l0) (hc0 : l0.length ≤ c0) (hbl : w.cell? ⟨bl, 0, none⟩ = some (.int .i64 a1)) (h : x_ContainsFunc_at_impl_isFormed_1.f j l0 a1 = some r),
  Calls Try.prog 121 #[.slice A0 l0.length c0, .func (.func 122) #[] #[.pointer (some ⟨bl, 0, none⟩)]] w fun e w' => e = .returned (.bool r) ∧ Below w.heap.size w w') (ih_impl_isFormed : ∀ j, j < k → ∀ (a0_0 : Int) (a0_1 : Int) (A0_2 : Option Addr) (c0_2 : Nat) (l0_2 : List Int) (A0_3 : Option Addr) (c0_3 : Nat) (l0_3 : List (List Int)) (A0_4 : Option Addr) (c0_4 : Nat) (l0_4 : List (S31)) (a1 : Int) (r : Bool) (w : World) (hr0_2 : Kd.C (Kd.int .u8) w A0_2 l0_2.length l0_2) (hc0_2 : l0_2.length ≤ c0_2) (hr0_3 : Kd.C (Kd.slice 5 (Kd.int .u8)) w A0_3 l0_3.length l0_3) (hc0_3 : l0_3.length ≤ c0_3) (hr0_4 : Kd.C k31 w A0_4 l0_4.length l0_4) (hc0_4 : l0_4.length ≤ c0_4) (h : impl_isFormed.f j a0_0 a0_1 l0_2 l0_3 l0_4 a1 = some r),
  Calls Try.prog 81 #[.agg #[.int .i64 a0_0, .int .i64 a0_1, .slice A0_2 l0_2.length c0_2, .slice A0_3 l0_3.length c0_3, .slice A0_4 l0_4.length c0_4], .int .i64 a1] w fun e w' => e = .returned (.bool r) ∧ Below w.heap.size w w') :
  ∀ (A0 : Option Addr) (c0 : Nat) (l0 : List (S31)) (a1 : Int) (bl : Nat) (r : Bool) (w : World) (hr0 : Kd.C k31 w A0 l0.length l0) (hc0 : l0.length ≤ c0) (hbl : w.cell? ⟨bl, 0, none⟩ = some (.int .i64 a1)) (h : x_ContainsFunc_at_impl_isFormed_1.f k l0 a1 = some r),
  Calls Try.prog 121 #[.slice A0 l0.length c0, .func (.func 122) #[] #[.pointer (some ⟨bl, 0, none⟩)]] w fun e w' => e = .returned (.bool r) ∧ Below w.heap.size w w' := by
 intro A0 c0 l0 a1 bl r w hr0 hc0 hbl h
 cases k with
 | zero => exact absurd h (by simp [x_ContainsFunc_at_impl_isFormed_1.f])
 | succ k =>
 simp only [x_ContainsFunc_at_impl_isFormed_1.f] at h
 have HR0 := Aside0.mk hr0
 have HC0 := Aside0.mk hc0
 clear hr0 hc0
 have HB := Bw.refl w
 have H : ((x_IndexFunc_at_impl_isFormed_1.f k l0 a1).bind fun t329 => (some (decide (t329 ≥ 0)))) = some r := h
 clear h
 replace H := Option.bind_eq_some_iff.mp H
 obtain ⟨t329, A30, H⟩ := H
 have A3 := Aside0.mk A30
 clear A30
 obtain rfl := Option.some.inj H
 go_enter Try.func121, Try.ntmps121
 go_wp2_with (first | ((with_reducible refine gate_callee (f := 146) rfl ?_); refine goesL_ (some 7) rfl rfl Try.func146 (by kernel_rfl) rfl #[.slice A0 l0.length c0, .func (.func 122) #[] #[.pointer (some ⟨bl, 0, none⟩)]] rfl (by (try simp only [List.map_toArray, List.map_cons, List.map_nil]); first | done | rfl | (simp only [List.length_drop, List.length_take]; rfl)) ?_; (with_reducible refine (ih_x_IndexFunc_at_impl_isFormed_1 k (by omega) _ _ l0 a1 bl t329 _ ?side1 ?side2 ?sidebl A3.out).mono ?_); (case sidebl => first | exact hbl | exact (HB.out.cell (World.block_lt_of_cell? w _ hbl)).trans hbl); (case side1 => repeat (first | exact HR0.out | (with_reducible refine Kd.C_alloc ?_ _) | (with_reducible refine Kd.C_drewN ?_ _) | (with_reducible refine Kd.C_drew ?_))); (case side2 => exact HC0.out); rintro e w4 ⟨rfl, hb⟩; refine ⟨_, rfl, ?_⟩; replace HB := (Bw.sw w hb); (try clear hb)))
 go_ret
 exact ⟨by first | rfl | (simp [errW_none, errW_some] <;> rfl) | (simp [*, errW_none, errW_some] <;> rfl), bw⟩
set_option maxHeartbeats 8000000 in
set_option maxRecDepth 100000 in
theorem impl_isFormed.step (k : Nat) (ih_impl_isFormed_1 : ∀ j, j < k → ∀ (a0_0 : Int) (a0_1 : Int) (A0_2 : Option Addr) (c0_2 : Nat) (l0_2 : List Int) (A0_3 : Option Addr) (c0_3 : Nat) (l0_3 : List (List Int)) (A0_4 : Option Addr) (c0_4 : Nat) (l0_4 : List (S31)) (a1 : Int) (bl : Nat) (r : Bool) (w : World) (hr0_2 : Kd.C (Kd.int .u8) w A0_2 l0_2.length l0_2) (hc0_2 : l0_2.length ≤ c0_2) (hr0_3 : Kd.C (Kd.slice 5 (Kd.int .u8)) w A0_3 l0_3.length l0_3) (hc0_3 : l0_3.length ≤ c0_3) (hr0_4 : Kd.C k31 w A0_4 l0_4.length l0_4) (hc0_4 : l0_4.length ≤ c0_4) (hbl : w.cell? ⟨bl, 0, none⟩ = some (.int .i64 a1)) (h : impl_isFormed_1.f j a0_0 a0_1 l0_2 l0_3 l0_4 a1 = some r),
  Calls Try.prog 122 #[.agg #[.int .i64 a0_0, .int .i64 a0_1, .slice A0_2 l0_2.length c0_2, .slice A0_3 l0_3.length c0_3, .slice A0_4 l0_4.length c0_4], .pointer (some ⟨bl, 0, none⟩)] w fun e w' => e = .returned (.bool r) ∧ Below w.heap.size w w') (ih_x_IndexFunc_at_impl_isFormed_1 : ∀ j, j < k → ∀ (A0 : Option Addr) (c0 : Nat) (l0 : List (S31)) (a1 : Int) (bl : Nat) (r : Int) (w : World) (hr0 : Kd.C k31 w A0 l0.length l0) (hc0 : l0.length ≤ c0) (hbl : w.cell? ⟨bl, 0, none⟩ = some (.int .i64 a1)) (h : x_IndexFunc_at_impl_isFormed_1.f j l0 a1 = some r),
  Calls Try.prog 146 #[.slice A0 l0.length c0, .func (.func 122) #[] #[.pointer (some ⟨bl, 0, none⟩)]] w fun e w' => e = .returned (.int .i64 r) ∧ Below w.heap.size w w') (ih_x_ContainsFunc_at_impl_isFormed_1 : ∀ j, j < k → ∀ (A0 : Option Addr) (c0 : Nat) (l0 : List (S31)) (a1 : Int) (bl : Nat) (r : Bool) (w : World) (hr0 : Kd.C k31 w A0 l0.length l0) (hc0 : l0.length ≤ c0) (hbl : w.cell? ⟨bl, 0, none⟩ = some (.int .i64 a1)) (h : x_ContainsFunc_at_impl_isFormed_1.f j l0 a1 = some r),
  Calls Try.prog 121 #[.slice A0 l0.length c0, .func (.func 122) #[] #[.pointer (some ⟨bl, 0, none⟩)]] w fun e w' => e = .returned (.bool r) ∧ Below w.heap.size w w') (ih : ∀ j, j < k → ∀ (a0_0 : Int) (a0_1 : Int) (A0_2 : Option Addr) (c0_2 : Nat) (l0_2 : List Int) (A0_3 : Option Addr) (c0_3 : Nat) (l0_3 : List (List Int)) (A0_4 : Option Addr) (c0_4 : Nat) (l0_4 : List (S31)) (a1 : Int) (r : Bool) (w : World) (hr0_2 : Kd.C (Kd.int .u8) w A0_2 l0_2.length l0_2) (hc0_2 : l0_2.length ≤ c0_2) (hr0_3 : Kd.C (Kd.slice 5 (Kd.int .u8)) w A0_3 l0_3.length l0_3) (hc0_3 : l0_3.length ≤ c0_3) (hr0_4 : Kd.C k31 w A0_4 l0_4.length l0_4) (hc0_4 : l0_4.length ≤ c0_4) (h : impl_isFormed.f j a0_0 a0_1 l0_2 l0_3 l0_4 a1 = some r),
  Calls Try.prog 81 #[.agg #[.int .i64 a0_0, .int .i64 a0_1, .slice A0_2 l0_2.length c0_2, .slice A0_3 l0_3.length c0_3, .slice A0_4 l0_4.length c0_4], .int .i64 a1] w fun e w' => e = .returned (.bool r) ∧ Below w.heap.size w w') :
  ∀ (a0_0 : Int) (a0_1 : Int) (A0_2 : Option Addr) (c0_2 : Nat) (l0_2 : List Int) (A0_3 : Option Addr) (c0_3 : Nat) (l0_3 : List (List Int)) (A0_4 : Option Addr) (c0_4 : Nat) (l0_4 : List (S31)) (a1 : Int) (r : Bool) (w : World) (hr0_2 : Kd.C (Kd.int .u8) w A0_2 l0_2.length l0_2) (hc0_2 : l0_2.length ≤ c0_2) (hr0_3 : Kd.C (Kd.slice 5 (Kd.int .u8)) w A0_3 l0_3.length l0_3) (hc0_3 : l0_3.length ≤ c0_3) (hr0_4 : Kd.C k31 w A0_4 l0_4.length l0_4) (hc0_4 : l0_4.length ≤ c0_4) (h : impl_isFormed.f k a0_0 a0_1 l0_2 l0_3 l0_4 a1 = some r),
  Calls Try.prog 81 #[.agg #[.int .i64 a0_0, .int .i64 a0_1, .slice A0_2 l0_2.length c0_2, .slice A0_3 l0_3.length c0_3, .slice A0_4 l0_4.length c0_4], .int .i64 a1] w fun e w' => e = .returned (.bool r) ∧ Below w.heap.size w w' := by
 intro a0_0 a0_1 A0_2 c0_2 l0_2 A0_3 c0_3 l0_3 A0_4 c0_4 l0_4 a1 r w hr0_2 hc0_2 hr0_3 hc0_3 hr0_4 hc0_4 h
 cases k with
 | zero => exact absurd h (by simp [impl_isFormed.f])
 | succ k =>
 simp only [impl_isFormed.f] at h
 have hu31 := Try.underlying31
 have HR0_2 := Aside0.mk hr0_2
 have HC0_2 := Aside0.mk hc0_2
 clear hr0_2 hc0_2
 have HR0_3 := Aside0.mk hr0_3
 have HC0_3 := Aside0.mk hc0_3
 clear hr0_3 hc0_3
 have HR0_4 := Aside0.mk hr0_4
 have HC0_4 := Aside0.mk hc0_4
 clear hr0_4 hc0_4
 have HB := Bw.refl w
 have H : (if a1 = 0 then (impl_isFormed.j0 k true a0_0 a0_1 l0_2 l0_3 l0_4 a1) else (if a0_0 = 5 then (if a0_0 = 1 then (none) else (if a0_0 = 2 then (none) else (impl_isFormed.j0 k (a0_1 != 0) a0_0 a0_1 l0_2 l0_3 l0_4 a1))) else (if (l0_3.length : Int) > 0 then (impl_isFormed.j0 k true a0_0 a0_1 l0_2 l0_3 l0_4 a1) else (if a0_0 = 1 then (impl_isFormed.j0 k false a0_0 a0_1 l0_2 l0_3 l0_4 a1) else (if a0_0 = 2 then (impl_isFormed.j0 k false a0_0 a0_1 l0_2 l0_3 l0_4 a1) else (impl_isFormed.j0 k (a0_1 != 0) a0_0 a0_1 l0_2 l0_3 l0_4 a1)))))) = some r := h
 clear h
 have HC3 := Aside0.mk H
 clear H
 go_enter Try.func81, Try.ntmps81
 go_upto_region 1 with (first | ((with_reducible refine gate_dst (N := 2) rfl ?_); (try (refine gate_guard (by rfl) ?_; dsimp only)); refine box_event rfl (N := 2) rfl (cs := #[.int .i64 a0_0, .int .i64 a0_1, .slice A0_2 l0_2.length c0_2, .slice A0_3 l0_3.length c0_3, .slice A0_4 l0_4.length c0_4]) (t := 31) (by go_simp <;> rfl) ?_; intro gb330 hg w4 hbox hb; have BK330 := Aside0.mk (hbox); have GE330 := (Ge.of hg : Ge w.heap.size gb330); replace HB := (Bw.sw w hb); clear hb hbox hg) | ((with_reducible refine gate_dst (N := 3) rfl ?_); (try (refine gate_guard (by rfl) ?_; dsimp only)); refine box_event rfl (N := 3) rfl (cs := #[.int .i64 a1]) (t := 3) (by go_simp <;> rfl) ?_; intro gb331 hg w5 hbox hb; have BK331 := Aside0.mk (hbox); have GE331 := (Ge.of hg : Ge w.heap.size gb331); replace HB := (Bw.sw w hb); have NB330_331 := Aside0.mk ((by rw [hg]; exact Nat.ne_of_lt (blk_lt (g := gb330) (o := .cells #[.int .i64 a0_0, .int .i64 a0_1, .slice A0_2 l0_2.length c0_2, .slice A0_3 l0_3.length c0_3, .slice A0_4 l0_4.length c0_4] 31 (0, 0)) (by (with_reducible repeat (first | refine blk_drewN ?_ _ | refine blk_drew ?_ | refine blk_alloc ?_ _)); exact BK330.out)) : gb330 ≠ gb331)); have NB331_330 := Aside0.mk ((by rw [hg]; exact Nat.ne_of_gt (blk_lt (g := gb330) (o := .cells #[.int .i64 a0_0, .int .i64 a0_1, .slice A0_2 l0_2.length c0_2, .slice A0_3 l0_3.length c0_3, .slice A0_4 l0_4.length c0_4] 31 (0, 0)) (by (with_reducible repeat (first | refine blk_drewN ?_ _ | refine blk_drew ?_ | refine blk_alloc ?_ _)); exact BK330.out)) : gb331 ≠ gb330)); replace BK330 := Aside0.mk (blk_below (g := gb330) (o := .cells #[.int .i64 a0_0, .int .i64 a0_1, .slice A0_2 l0_2.length c0_2, .slice A0_3 l0_3.length c0_3, .slice A0_4 l0_4.length c0_4] 31 (0, 0)) (by (with_reducible repeat (first | refine blk_drewN ?_ _ | refine blk_drew ?_ | refine blk_alloc ?_ _)); exact BK330.out) hb); clear hb hbox hg))
 (try simp only [Act.put, List.setIfInBounds_toArray, List.set_cons_zero, List.set_cons_succ])
 go_cut [36] (fun v36 wc => ∃ (kq : Nat) (x36_2 : Bool), v36 = .bool x36_2 ∧ Aside0 (impl_isFormed.j0 kq x36_2 a0_0 a0_1 l0_2 l0_3 l0_4 a1 = some r) ∧ Aside0 (kq ≤ k) ∧ Aside0 (wc.heap[gb330]? = some (.cells #[.int .i64 a0_0, .int .i64 a0_1, (.slice A0_2 l0_2.length c0_2), (.slice A0_3 l0_3.length c0_3), (.slice A0_4 l0_4.length c0_4)] 31 (0, 0))) ∧ Aside0 (wc.heap[gb331]? = some (.cells #[.int .i64 a1] 3 (0, 0))) ∧ Bw w wc)
 case first =>
  have H := HC3.out
  clear HC3
  by_cases c6 : a1 = 0
  ·rw [if_pos c6] at H
   have c6b0 : (a1 == 0) = true := beq_iff_eq.mpr c6
   have c6b1 : (a1 != 0) = false := bne_eq_false_iff_eq.mpr c6
   clear c6
   (first | rw [c6b0] | (simp only [i64_w, i32_w]; rw [c6b0]) | skip)
   have H' := Aside0.mk H
   clear H
   have hnb7 := NB331_330.out
   have hnc7 := NB330_331.out
   obtain ⟨hcz8_0, hfz8_0⟩ := blk1 BK331.out
   go_wp2
   go_meet
   case rel => exact ⟨_, (true), (by first | rfl | (simp; done) | (simp [*]; done)), H', ⟨by first | omega | exact Nat.le_refl _⟩, ⟨by (with_reducible repeat (first | refine blk_drewN ?_ _ | refine blk_drew ?_ | refine blk_alloc ?_ _)); exact BK330.out⟩, ⟨by (with_reducible repeat (first | refine blk_drewN ?_ _ | refine blk_drew ?_ | refine blk_alloc ?_ _)); exact BK331.out⟩, ⟨bw⟩⟩
  rw [if_neg c6] at H
  have c6b0 : (a1 == 0) = false := beq_eq_false_iff_ne.mpr c6
  have c6b1 : (a1 != 0) = true := bne_iff_ne.mpr c6
  (first | rw [c6b0] | (simp only [i64_w, i32_w]; rw [c6b0]) | skip)
  by_cases c9 : a0_0 = 5
  ·rw [if_pos c9] at H
   have c9b0 : (a0_0 == 5) = true := beq_iff_eq.mpr c9
   have c9b1 : (a0_0 != 5) = false := bne_eq_false_iff_eq.mpr c9
   clear c9
   by_cases c10 : a0_0 = 1
   ·rw [if_pos c10] at H
    exact absurd H (by simp)
   rw [if_neg c10] at H
   have c10b0 : (a0_0 == 1) = false := beq_eq_false_iff_ne.mpr c10
   have c10b1 : (a0_0 != 1) = true := bne_iff_ne.mpr c10
   by_cases c11 : a0_0 = 2
   ·rw [if_pos c11] at H
    exact absurd H (by simp)
   rw [if_neg c11] at H
   have c11b0 : (a0_0 == 2) = false := beq_eq_false_iff_ne.mpr c11
   have c11b1 : (a0_0 != 2) = true := bne_iff_ne.mpr c11
   have H' := Aside0.mk H
   clear H
   have hnb12 := NB331_330.out
   have hnc12 := NB330_331.out
   obtain ⟨hcz13_0, hfz13_0⟩ := blk1 BK331.out
   obtain ⟨hcz14_0, hcz14_1, hcz14_2, hcz14_3, hcz14_4, hfz14_0, hfz14_1, hfz14_2, hfz14_3, hfz14_4⟩ := blk5 BK330.out
   go_wp2
   go_meet
   case rel => exact ⟨_, ((a0_1 != 0)), (by first | rfl | (simp; done) | (simp [*]; done)), H', ⟨by first | omega | exact Nat.le_refl _⟩, ⟨by (with_reducible repeat (first | refine blk_drewN ?_ _ | refine blk_drew ?_ | refine blk_alloc ?_ _)); exact BK330.out⟩, ⟨by (with_reducible repeat (first | refine blk_drewN ?_ _ | refine blk_drew ?_ | refine blk_alloc ?_ _)); exact BK331.out⟩, ⟨bw⟩⟩
  rw [if_neg c9] at H
  have c9b0 : (a0_0 == 5) = false := beq_eq_false_iff_ne.mpr c9
  have c9b1 : (a0_0 != 5) = true := bne_iff_ne.mpr c9
  by_cases c15 : (l0_3.length : Int) > 0
  ·rw [if_pos c15] at H
   have c15b0 : decide (0 < (l0_3.length : Int)) = true := decide_eq_true c15
   have c15b1 : decide (0 < l0_3.length) = true := decide_eq_true (by omega)
   clear c15
   have H' := Aside0.mk H
   clear H
   have hnb16 := NB331_330.out
   have hnc16 := NB330_331.out
   obtain ⟨hcz17_0, hfz17_0⟩ := blk1 BK331.out
   obtain ⟨hcz18_0, hcz18_1, hcz18_2, hcz18_3, hcz18_4, hfz18_0, hfz18_1, hfz18_2, hfz18_3, hfz18_4⟩ := blk5 BK330.out
   go_wp2
   go_meet
   case rel => exact ⟨_, (true), (by first | rfl | (simp; done) | (simp [*]; done)), H', ⟨by first | omega | exact Nat.le_refl _⟩, ⟨by (with_reducible repeat (first | refine blk_drewN ?_ _ | refine blk_drew ?_ | refine blk_alloc ?_ _)); exact BK330.out⟩, ⟨by (with_reducible repeat (first | refine blk_drewN ?_ _ | refine blk_drew ?_ | refine blk_alloc ?_ _)); exact BK331.out⟩, ⟨bw⟩⟩
  rw [if_neg c15] at H
  have c15b0 : decide (0 < (l0_3.length : Int)) = false := decide_eq_false c15
  have c15b1 : decide (0 < l0_3.length) = false := decide_eq_false (by omega)
  clear c15
  by_cases c19 : a0_0 = 1
  ·rw [if_pos c19] at H
   have c19b0 : (a0_0 == 1) = true := beq_iff_eq.mpr c19
   have c19b1 : (a0_0 != 1) = false := bne_eq_false_iff_eq.mpr c19
   clear c19
   have H' := Aside0.mk H
   clear H
   have hnb20 := NB331_330.out
   have hnc20 := NB330_331.out
   obtain ⟨hcz21_0, hfz21_0⟩ := blk1 BK331.out
   obtain ⟨hcz22_0, hcz22_1, hcz22_2, hcz22_3, hcz22_4, hfz22_0, hfz22_1, hfz22_2, hfz22_3, hfz22_4⟩ := blk5 BK330.out
   go_wp2
   go_meet
   case rel => exact ⟨_, (false), (by first | rfl | (simp; done) | (simp [*]; done)), H', ⟨by first | omega | exact Nat.le_refl _⟩, ⟨by (with_reducible repeat (first | refine blk_drewN ?_ _ | refine blk_drew ?_ | refine blk_alloc ?_ _)); exact BK330.out⟩, ⟨by (with_reducible repeat (first | refine blk_drewN ?_ _ | refine blk_drew ?_ | refine blk_alloc ?_ _)); exact BK331.out⟩, ⟨bw⟩⟩
  rw [if_neg c19] at H
  have c19b0 : (a0_0 == 1) = false := beq_eq_false_iff_ne.mpr c19
  have c19b1 : (a0_0 != 1) = true := bne_iff_ne.mpr c19
  by_cases c23 : a0_0 = 2
  ·rw [if_pos c23] at H
   have c23b0 : (a0_0 == 2) = true := beq_iff_eq.mpr c23
   have c23b1 : (a0_0 != 2) = false := bne_eq_false_iff_eq.mpr c23
   clear c23
   have H' := Aside0.mk H
   clear H
   have hnb24 := NB331_330.out
   have hnc24 := NB330_331.out
   obtain ⟨hcz25_0, hfz25_0⟩ := blk1 BK331.out
   obtain ⟨hcz26_0, hcz26_1, hcz26_2, hcz26_3, hcz26_4, hfz26_0, hfz26_1, hfz26_2, hfz26_3, hfz26_4⟩ := blk5 BK330.out
   go_wp2
   go_meet
   case rel => exact ⟨_, (false), (by first | rfl | (simp; done) | (simp [*]; done)), H', ⟨by first | omega | exact Nat.le_refl _⟩, ⟨by (with_reducible repeat (first | refine blk_drewN ?_ _ | refine blk_drew ?_ | refine blk_alloc ?_ _)); exact BK330.out⟩, ⟨by (with_reducible repeat (first | refine blk_drewN ?_ _ | refine blk_drew ?_ | refine blk_alloc ?_ _)); exact BK331.out⟩, ⟨bw⟩⟩
  rw [if_neg c23] at H
  have c23b0 : (a0_0 == 2) = false := beq_eq_false_iff_ne.mpr c23
  have c23b1 : (a0_0 != 2) = true := bne_iff_ne.mpr c23
  have H' := Aside0.mk H
  clear H
  have hnb27 := NB331_330.out
  have hnc27 := NB330_331.out
  obtain ⟨hcz28_0, hfz28_0⟩ := blk1 BK331.out
  obtain ⟨hcz29_0, hcz29_1, hcz29_2, hcz29_3, hcz29_4, hfz29_0, hfz29_1, hfz29_2, hfz29_3, hfz29_4⟩ := blk5 BK330.out
  go_wp2
  go_meet
  case rel => exact ⟨_, ((a0_1 != 0)), (by first | rfl | (simp; done) | (simp [*]; done)), H', ⟨by first | omega | exact Nat.le_refl _⟩, ⟨by (with_reducible repeat (first | refine blk_drewN ?_ _ | refine blk_drew ?_ | refine blk_alloc ?_ _)); exact BK330.out⟩, ⟨by (with_reducible repeat (first | refine blk_drewN ?_ _ | refine blk_drew ?_ | refine blk_alloc ?_ _)); exact BK331.out⟩, ⟨bw⟩⟩
 case rest =>
  as_aux_lemma =>
  clear HC3
  try clear c6
  try clear c6b0
  try clear c6b1
  try clear c9
  try clear c9b0
  try clear c9b1
  try clear c10
  try clear c10b0
  try clear c10b1
  try clear c11
  try clear c11b0
  try clear c11b1
  try clear c15
  try clear c15b0
  try clear c15b1
  try clear c19
  try clear c19b0
  try clear c19b1
  try clear c23
  try clear c23b0
  try clear c23b1
  try clear hcz13_0
  try clear hcz14_0 hcz14_1 hcz14_2 hcz14_3 hcz14_4
  try clear hcz17_0
  try clear hcz18_0 hcz18_1 hcz18_2 hcz18_3 hcz18_4
  try clear hcz21_0
  try clear hcz22_0 hcz22_1 hcz22_2 hcz22_3 hcz22_4
  try clear hcz25_0
  try clear hcz26_0 hcz26_1 hcz26_2 hcz26_3 hcz26_4
  try clear hcz28_0
  try clear hcz29_0 hcz29_1 hcz29_2 hcz29_3 hcz29_4
  try clear hcz8_0
  try clear hfz13_0
  try clear hfz14_0 hfz14_1 hfz14_2 hfz14_3 hfz14_4
  try clear hfz17_0
  try clear hfz18_0 hfz18_1 hfz18_2 hfz18_3 hfz18_4
  try clear hfz21_0
  try clear hfz22_0 hfz22_1 hfz22_2 hfz22_3 hfz22_4
  try clear hfz25_0
  try clear hfz26_0 hfz26_1 hfz26_2 hfz26_3 hfz26_4
  try clear hfz28_0
  try clear hfz29_0 hfz29_1 hfz29_2 hfz29_3 hfz29_4
  try clear hfz8_0
  obtain ⟨kq, x36_2, rfl, HA, HJ2, BK330, BK331, HB⟩ := hcut
  cases kq with
  | zero => exact absurd HA.out (by simp [impl_isFormed.j0])
  | succ kj2 =>
   have H := HA.out
   clear HA
   simp only [impl_isFormed.j0] at H
   by_cases c30 : x36_2 = true
   ·subst c30
    replace H := (if_pos rfl).symm.trans H
    obtain rfl := Option.some.inj H
    go_wp2
    go_ret
    exact ⟨by first | rfl | (simp [errW_none, errW_some] <;> rfl) | (simp [*, errW_none, errW_some] <;> rfl), bw⟩
   as_aux_lemma =>
   replace c30 := Bool.eq_false_iff.mpr c30
   subst c30
   replace H := (if_neg (show ¬ (false = true) by decide)).symm.trans H
   have HC31 := Aside0.mk H
   clear H
   have hnb32 := NB330_331.out
   have hnc32 := NB331_330.out
   obtain ⟨hcz33_0, hcz33_1, hcz33_2, hcz33_3, hcz33_4, hfz33_0, hfz33_1, hfz33_2, hfz33_3, hfz33_4⟩ := blk5 BK330.out
   go_upto_block 0 with (fail)
   go_cut [5, 6] (fun v5 v6 wc => ∃ (kq : Nat) (x5_30 : Int) (x6_30 : Bool), v5 = .int .i64 x5_30 ∧ v6 = .bool x6_30 ∧ Aside0 (impl_isFormed.j7 kq x5_30 x6_30 a0_0 a0_1 l0_2 l0_3 l0_4 a1 = some r) ∧ Aside0 (kq ≤ kj2) ∧ Aside0 (wc.heap[gb330]? = some (.cells #[.int .i64 a0_0, .int .i64 a0_1, (.slice A0_2 l0_2.length c0_2), (.slice A0_3 l0_3.length c0_3), (.slice A0_4 l0_4.length c0_4)] 31 (0, 0))) ∧ Aside0 (wc.heap[gb331]? = some (.cells #[.int .i64 a1] 3 (0, 0))) ∧ Bw w wc)
   case first =>
    as_aux_lemma =>
    have H := HC31.out
    clear HC31
    by_cases c34 : a0_0 = 1
    ·rw [if_pos c34] at H
     have c34b0 : (a0_0 == 1) = true := beq_iff_eq.mpr c34
     have c34b1 : (a0_0 != 1) = false := bne_eq_false_iff_eq.mpr c34
     clear c34
     (first | rw [c34b0] | (simp only [i64_w, i32_w]; rw [c34b0]) | skip)
     replace H := Option.bind_eq_some_iff.mp H
     obtain ⟨t332, A350, H⟩ := H
     have A35 := Aside0.mk A350
     clear A350
     by_cases c36 : t332 = true
     ·subst c36
      replace H := (if_pos rfl).symm.trans H
      have H' := Aside0.mk H
      clear H
      have hnb37 := NB330_331.out
      have hnc37 := NB331_330.out
      obtain ⟨hcz38_0, hcz38_1, hcz38_2, hcz38_3, hcz38_4, hfz38_0, hfz38_1, hfz38_2, hfz38_3, hfz38_4⟩ := blk5 BK330.out
      go_wp2_with (first | ((with_reducible refine gg (f := 117) (some 43) rfl rfl rfl fr117 ?_); refine onc (impl_in.calls a0_1 0 1 true _ A35.out) rfl ?_; rintro e w' ⟨rfl, ⟨nd, rfl⟩⟩; refine ⟨_, rfl, ?_⟩))
      go_meet
      case rel => exact ⟨_, (0), (false), (by first | rfl | (simp; done) | (simp [*]; done)), (by first | rfl | (simp; done) | (simp [*]; done)), H', ⟨by have := HJ2.out; first | omega | exact Nat.le_refl _⟩, ⟨by (with_reducible repeat (first | refine blk_drewN ?_ _ | refine blk_drew ?_ | refine blk_alloc ?_ _)); exact BK330.out⟩, ⟨by (with_reducible repeat (first | refine blk_drewN ?_ _ | refine blk_drew ?_ | refine blk_alloc ?_ _)); exact BK331.out⟩, ⟨bw⟩⟩
     replace c36 := Bool.eq_false_iff.mpr c36
     subst c36
     replace H := (if_neg (show ¬ (false = true) by decide)).symm.trans H
     obtain rfl := Option.some.inj H
     have hnb39 := NB330_331.out
     have hnc39 := NB331_330.out
     obtain ⟨hcz40_0, hcz40_1, hcz40_2, hcz40_3, hcz40_4, hfz40_0, hfz40_1, hfz40_2, hfz40_3, hfz40_4⟩ := blk5 BK330.out
     go_wp2_with (first | ((with_reducible refine gg (f := 117) (some 43) rfl rfl rfl fr117 ?_); refine onc (impl_in.calls a0_1 0 1 false _ A35.out) rfl ?_; rintro e w' ⟨rfl, ⟨nd, rfl⟩⟩; refine ⟨_, rfl, ?_⟩))
     go_ret
     exact ⟨by first | rfl | (simp [errW_none, errW_some] <;> rfl) | (simp [*, errW_none, errW_some] <;> rfl), bw⟩
    as_aux_lemma =>
    rw [if_neg c34] at H
    have c34b0 : (a0_0 == 1) = false := beq_eq_false_iff_ne.mpr c34
    have c34b1 : (a0_0 != 1) = true := bne_iff_ne.mpr c34
    (first | rw [c34b0] | (simp only [i64_w, i32_w]; rw [c34b0]) | skip)
    by_cases c41 : a0_0 = 2
    ·rw [if_pos c41] at H
     have c41b0 : (a0_0 == 2) = true := beq_iff_eq.mpr c41
     have c41b1 : (a0_0 != 2) = false := bne_eq_false_iff_eq.mpr c41
     clear c41
     replace H := Option.bind_eq_some_iff.mp H
     obtain ⟨t333, A420, H⟩ := H
     have A42 := Aside0.mk A420
     clear A420
     by_cases c43 : t333 = true
     ·subst c43
      replace H := (if_pos rfl).symm.trans H
      have H' := Aside0.mk H
      clear H
      have hnb44 := NB330_331.out
      have hnc44 := NB331_330.out
      obtain ⟨hcz45_0, hcz45_1, hcz45_2, hcz45_3, hcz45_4, hfz45_0, hfz45_1, hfz45_2, hfz45_3, hfz45_4⟩ := blk5 BK330.out
      go_wp2_with (first | ((with_reducible refine gg (f := 117) (some 49) rfl rfl rfl fr117 ?_); refine onc (impl_in.calls a0_1 0 1000000000000 true _ A42.out) rfl ?_; rintro e w' ⟨rfl, ⟨nd, rfl⟩⟩; refine ⟨_, rfl, ?_⟩))
      go_meet
      case rel => exact ⟨_, (0), (false), (by first | rfl | (simp; done) | (simp [*]; done)), (by first | rfl | (simp; done) | (simp [*]; done)), H', ⟨by have := HJ2.out; first | omega | exact Nat.le_refl _⟩, ⟨by (with_reducible repeat (first | refine blk_drewN ?_ _ | refine blk_drew ?_ | refine blk_alloc ?_ _)); exact BK330.out⟩, ⟨by (with_reducible repeat (first | refine blk_drewN ?_ _ | refine blk_drew ?_ | refine blk_alloc ?_ _)); exact BK331.out⟩, ⟨bw⟩⟩
     replace c43 := Bool.eq_false_iff.mpr c43
     subst c43
     replace H := (if_neg (show ¬ (false = true) by decide)).symm.trans H
     obtain rfl := Option.some.inj H
     have hnb46 := NB330_331.out
     have hnc46 := NB331_330.out
     obtain ⟨hcz47_0, hcz47_1, hcz47_2, hcz47_3, hcz47_4, hfz47_0, hfz47_1, hfz47_2, hfz47_3, hfz47_4⟩ := blk5 BK330.out
     go_wp2_with (first | ((with_reducible refine gg (f := 117) (some 49) rfl rfl rfl fr117 ?_); refine onc (impl_in.calls a0_1 0 1000000000000 false _ A42.out) rfl ?_; rintro e w' ⟨rfl, ⟨nd, rfl⟩⟩; refine ⟨_, rfl, ?_⟩))
     go_ret
     exact ⟨by first | rfl | (simp [errW_none, errW_some] <;> rfl) | (simp [*, errW_none, errW_some] <;> rfl), bw⟩
    as_aux_lemma =>
    rw [if_neg c41] at H
    have c41b0 : (a0_0 == 2) = false := beq_eq_false_iff_ne.mpr c41
    have c41b1 : (a0_0 != 2) = true := bne_iff_ne.mpr c41
    have HC48 := Aside0.mk H
    clear H
    go_upto_if 51 with (fail)
    go_cut [51] (fun v51 wc => ∃ (kq : Nat) (x51_47 : Bool), v51 = .bool x51_47 ∧ Aside0 (impl_isFormed.j1 kq 0 false a0_0 x51_47 a0_0 a0_1 l0_2 l0_3 l0_4 a1 = some r) ∧ Aside0 (kq ≤ kj2) ∧ Aside0 (wc.heap[gb330]? = some (.cells #[.int .i64 a0_0, .int .i64 a0_1, (.slice A0_2 l0_2.length c0_2), (.slice A0_3 l0_3.length c0_3), (.slice A0_4 l0_4.length c0_4)] 31 (0, 0))) ∧ Aside0 (wc.heap[gb331]? = some (.cells #[.int .i64 a1] 3 (0, 0))) ∧ Bw w wc)
    case first =>
     have H := HC48.out
     clear HC48
     by_cases c49 : a0_0 = 0
     ·rw [if_pos c49] at H
      have c49b0 : (a0_0 == 0) = true := beq_iff_eq.mpr c49
      have c49b1 : (a0_0 != 0) = false := bne_eq_false_iff_eq.mpr c49
      clear c49
      (first | rw [c49b0] | (simp only [i64_w, i32_w]; rw [c49b0]) | skip)
      have H' := Aside0.mk H
      clear H
      go_wp2
      go_meet
      case rel => exact ⟨_, ((a0_0 == 0)), (by first | rfl | (simp; done) | (simp [*]; done)), H', ⟨by have := HJ2.out; first | omega | exact Nat.le_refl _⟩, ⟨by (with_reducible repeat (first | refine blk_drewN ?_ _ | refine blk_drew ?_ | refine blk_alloc ?_ _)); exact BK330.out⟩, ⟨by (with_reducible repeat (first | refine blk_drewN ?_ _ | refine blk_drew ?_ | refine blk_alloc ?_ _)); exact BK331.out⟩, ⟨bw⟩⟩
     rw [if_neg c49] at H
     have c49b0 : (a0_0 == 0) = false := beq_eq_false_iff_ne.mpr c49
     have c49b1 : (a0_0 != 0) = true := bne_iff_ne.mpr c49
     (first | rw [c49b0] | (simp only [i64_w, i32_w]; rw [c49b0]) | skip)
     by_cases c50 : a0_0 = 10
     ·rw [if_pos c50] at H
      have c50b0 : (a0_0 == 10) = true := beq_iff_eq.mpr c50
      have c50b1 : (a0_0 != 10) = false := bne_eq_false_iff_eq.mpr c50
      clear c50
      have H' := Aside0.mk H
      clear H
      go_wp2
      go_meet
      case rel => exact ⟨_, ((a0_0 == 10)), (by first | rfl | (simp; done) | (simp [*]; done)), H', ⟨by have := HJ2.out; first | omega | exact Nat.le_refl _⟩, ⟨by (with_reducible repeat (first | refine blk_drewN ?_ _ | refine blk_drew ?_ | refine blk_alloc ?_ _)); exact BK330.out⟩, ⟨by (with_reducible repeat (first | refine blk_drewN ?_ _ | refine blk_drew ?_ | refine blk_alloc ?_ _)); exact BK331.out⟩, ⟨bw⟩⟩
     rw [if_neg c50] at H
     have c50b0 : (a0_0 == 10) = false := beq_eq_false_iff_ne.mpr c50
     have c50b1 : (a0_0 != 10) = true := bne_iff_ne.mpr c50
     by_cases c51 : a0_0 = 11
     ·rw [if_pos c51] at H
      have c51b0 : (a0_0 == 11) = true := beq_iff_eq.mpr c51
      have c51b1 : (a0_0 != 11) = false := bne_eq_false_iff_eq.mpr c51
      clear c51
      have H' := Aside0.mk H
      clear H
      go_wp2
      go_meet
      case rel => exact ⟨_, ((a0_0 == 11)), (by first | rfl | (simp; done) | (simp [*]; done)), H', ⟨by have := HJ2.out; first | omega | exact Nat.le_refl _⟩, ⟨by (with_reducible repeat (first | refine blk_drewN ?_ _ | refine blk_drew ?_ | refine blk_alloc ?_ _)); exact BK330.out⟩, ⟨by (with_reducible repeat (first | refine blk_drewN ?_ _ | refine blk_drew ?_ | refine blk_alloc ?_ _)); exact BK331.out⟩, ⟨bw⟩⟩
     rw [if_neg c51] at H
     have c51b0 : (a0_0 == 11) = false := beq_eq_false_iff_ne.mpr c51
     have c51b1 : (a0_0 != 11) = true := bne_iff_ne.mpr c51
     have H' := Aside0.mk H
     clear H
     go_wp2
     go_meet
     case rel => exact ⟨_, ((a0_0 == 12)), (by first | rfl | (simp; done) | (simp [*]; done)), H', ⟨by have := HJ2.out; first | omega | exact Nat.le_refl _⟩, ⟨by (with_reducible repeat (first | refine blk_drewN ?_ _ | refine blk_drew ?_ | refine blk_alloc ?_ _)); exact BK330.out⟩, ⟨by (with_reducible repeat (first | refine blk_drewN ?_ _ | refine blk_drew ?_ | refine blk_alloc ?_ _)); exact BK331.out⟩, ⟨bw⟩⟩
    case rest =>
     as_aux_lemma =>
     clear HC48
     try clear c6
     try clear c6b0
     try clear c6b1
     try clear c9
     try clear c9b0
     try clear c9b1
     try clear c10
     try clear c10b0
     try clear c10b1
     try clear c11
     try clear c11b0
     try clear c11b1
     try clear c15
     try clear c15b0
     try clear c15b1
     try clear c19
     try clear c19b0
     try clear c19b1
     try clear c23
     try clear c23b0
     try clear c23b1
     try clear c30
     try clear c34
     try clear c34b0
     try clear c34b1
     try clear c36
     try clear c41
     try clear c41b0
     try clear c41b1
     try clear c43
     try clear c49
     try clear c49b0
     try clear c49b1
     try clear c50
     try clear c50b0
     try clear c50b1
     try clear c51
     try clear c51b0
     try clear c51b1
     try clear hcz13_0
     try clear hcz14_0 hcz14_1 hcz14_2 hcz14_3 hcz14_4
     try clear hcz17_0
     try clear hcz18_0 hcz18_1 hcz18_2 hcz18_3 hcz18_4
     try clear hcz21_0
     try clear hcz22_0 hcz22_1 hcz22_2 hcz22_3 hcz22_4
     try clear hcz25_0
     try clear hcz26_0 hcz26_1 hcz26_2 hcz26_3 hcz26_4
     try clear hcz28_0
     try clear hcz29_0 hcz29_1 hcz29_2 hcz29_3 hcz29_4
     try clear hcz33_0 hcz33_1 hcz33_2 hcz33_3 hcz33_4
     try clear hcz38_0 hcz38_1 hcz38_2 hcz38_3 hcz38_4
     try clear hcz40_0 hcz40_1 hcz40_2 hcz40_3 hcz40_4
     try clear hcz45_0 hcz45_1 hcz45_2 hcz45_3 hcz45_4
     try clear hcz47_0 hcz47_1 hcz47_2 hcz47_3 hcz47_4
     try clear hcz8_0
     try clear hfz13_0
     try clear hfz14_0 hfz14_1 hfz14_2 hfz14_3 hfz14_4
     try clear hfz17_0
     try clear hfz18_0 hfz18_1 hfz18_2 hfz18_3 hfz18_4
     try clear hfz21_0
     try clear hfz22_0 hfz22_1 hfz22_2 hfz22_3 hfz22_4
     try clear hfz25_0
     try clear hfz26_0 hfz26_1 hfz26_2 hfz26_3 hfz26_4
     try clear hfz28_0
     try clear hfz29_0 hfz29_1 hfz29_2 hfz29_3 hfz29_4
     try clear hfz33_0 hfz33_1 hfz33_2 hfz33_3 hfz33_4
     try clear hfz38_0 hfz38_1 hfz38_2 hfz38_3 hfz38_4
     try clear hfz40_0 hfz40_1 hfz40_2 hfz40_3 hfz40_4
     try clear hfz45_0 hfz45_1 hfz45_2 hfz45_3 hfz45_4
     try clear hfz47_0 hfz47_1 hfz47_2 hfz47_3 hfz47_4
     try clear hfz8_0
     obtain ⟨kq, x51_47, rfl, HA, HJ47, BK330, BK331, HB⟩ := hcut
     cases kq with
     | zero => exact absurd HA.out (by simp [impl_isFormed.j1])
     | succ kj47 =>
      have H := HA.out
      clear HA
      simp only [impl_isFormed.j1] at H
      by_cases c52 : x51_47 = true
      ·subst c52
       replace H := (if_pos rfl).symm.trans H
       have H' := Aside0.mk H
       clear H
       go_wp2
       go_meet
       case rel => exact ⟨_, (0), (false), (by first | rfl | (simp; done) | (simp [*]; done)), (by first | rfl | (simp; done) | (simp [*]; done)), H', ⟨by have := HJ2.out; have := HJ47.out; first | omega | exact Nat.le_refl _⟩, ⟨by (with_reducible repeat (first | refine blk_drewN ?_ _ | refine blk_drew ?_ | refine blk_alloc ?_ _)); exact BK330.out⟩, ⟨by (with_reducible repeat (first | refine blk_drewN ?_ _ | refine blk_drew ?_ | refine blk_alloc ?_ _)); exact BK331.out⟩, ⟨bw⟩⟩
      as_aux_lemma =>
      replace c52 := Bool.eq_false_iff.mpr c52
      subst c52
      replace H := (if_neg (show ¬ (false = true) by decide)).symm.trans H
      by_cases c53 : a0_0 = 3
      ·rw [if_pos c53] at H
       have c53b0 : (a0_0 == 3) = true := beq_iff_eq.mpr c53
       have c53b1 : (a0_0 != 3) = false := bne_eq_false_iff_eq.mpr c53
       clear c53
       replace H := Option.bind_eq_some_iff.mp H
       obtain ⟨t334, A540, H⟩ := H
       have A54 := Aside0.mk A540
       clear A540
       by_cases c55 : t334 = true
       ·subst c55
        replace H := (if_pos rfl).symm.trans H
        have H' := Aside0.mk H
        clear H
        have hnb56 := NB330_331.out
        have hnc56 := NB331_330.out
        obtain ⟨hcz57_0, hcz57_1, hcz57_2, hcz57_3, hcz57_4, hfz57_0, hfz57_1, hfz57_2, hfz57_3, hfz57_4⟩ := blk5 BK330.out
        go_wp2_with (first | ((with_reducible refine gg (f := 118) (some 60) rfl rfl rfl fr118 ?_); refine onc (impl_isText.calls kj47 _ _ l0_2 true _ (cb HR0_2) HC0_2.out A54.out) rfl ?_; rintro e w' ⟨rfl, ⟨nd, rfl⟩⟩; refine ⟨_, rfl, ?_⟩))
        go_meet
        case rel => exact ⟨_, (0), (true), (by first | rfl | (simp; done) | (simp [*]; done)), (by first | rfl | (simp; done) | (simp [*]; done)), H', ⟨by have := HJ2.out; have := HJ47.out; first | omega | exact Nat.le_refl _⟩, ⟨by (with_reducible repeat (first | refine blk_drewN ?_ _ | refine blk_drew ?_ | refine blk_alloc ?_ _)); exact BK330.out⟩, ⟨by (with_reducible repeat (first | refine blk_drewN ?_ _ | refine blk_drew ?_ | refine blk_alloc ?_ _)); exact BK331.out⟩, ⟨bw⟩⟩
       replace c55 := Bool.eq_false_iff.mpr c55
       subst c55
       replace H := (if_neg (show ¬ (false = true) by decide)).symm.trans H
       obtain rfl := Option.some.inj H
       have hnb58 := NB330_331.out
       have hnc58 := NB331_330.out
       obtain ⟨hcz59_0, hcz59_1, hcz59_2, hcz59_3, hcz59_4, hfz59_0, hfz59_1, hfz59_2, hfz59_3, hfz59_4⟩ := blk5 BK330.out
       go_wp2_with (first | ((with_reducible refine gg (f := 118) (some 60) rfl rfl rfl fr118 ?_); refine onc (impl_isText.calls kj47 _ _ l0_2 false _ (cb HR0_2) HC0_2.out A54.out) rfl ?_; rintro e w' ⟨rfl, ⟨nd, rfl⟩⟩; refine ⟨_, rfl, ?_⟩))
       go_ret
       exact ⟨by first | rfl | (simp [errW_none, errW_some] <;> rfl) | (simp [*, errW_none, errW_some] <;> rfl), bw⟩
      as_aux_lemma =>
      rw [if_neg c53] at H
      have c53b0 : (a0_0 == 3) = false := beq_eq_false_iff_ne.mpr c53
      have c53b1 : (a0_0 != 3) = true := bne_iff_ne.mpr c53
      have HC60 := Aside0.mk H
      clear H
      go_upto_if 62 with (fail)
      go_cut [62] (fun v62 wc => ∃ (kq : Nat) (x62_59 : Bool), v62 = .bool x62_59 ∧ Aside0 (impl_isFormed.j2 kq 0 false a0_0 x62_59 a0_0 a0_1 l0_2 l0_3 l0_4 a1 = some r) ∧ Aside0 (kq ≤ kj47) ∧ Aside0 (wc.heap[gb330]? = some (.cells #[.int .i64 a0_0, .int .i64 a0_1, (.slice A0_2 l0_2.length c0_2), (.slice A0_3 l0_3.length c0_3), (.slice A0_4 l0_4.length c0_4)] 31 (0, 0))) ∧ Aside0 (wc.heap[gb331]? = some (.cells #[.int .i64 a1] 3 (0, 0))) ∧ Bw w wc)
      case first =>
       have H := HC60.out
       clear HC60
       by_cases c61 : a0_0 = 6
       ·rw [if_pos c61] at H
        have c61b0 : (a0_0 == 6) = true := beq_iff_eq.mpr c61
        have c61b1 : (a0_0 != 6) = false := bne_eq_false_iff_eq.mpr c61
        clear c61
        (first | rw [c61b0] | (simp only [i64_w, i32_w]; rw [c61b0]) | skip)
        have H' := Aside0.mk H
        clear H
        go_wp2
        go_meet
        case rel => exact ⟨_, ((a0_0 == 6)), (by first | rfl | (simp; done) | (simp [*]; done)), H', ⟨by have := HJ2.out; have := HJ47.out; first | omega | exact Nat.le_refl _⟩, ⟨by (with_reducible repeat (first | refine blk_drewN ?_ _ | refine blk_drew ?_ | refine blk_alloc ?_ _)); exact BK330.out⟩, ⟨by (with_reducible repeat (first | refine blk_drewN ?_ _ | refine blk_drew ?_ | refine blk_alloc ?_ _)); exact BK331.out⟩, ⟨bw⟩⟩
       rw [if_neg c61] at H
       have c61b0 : (a0_0 == 6) = false := beq_eq_false_iff_ne.mpr c61
       have c61b1 : (a0_0 != 6) = true := bne_iff_ne.mpr c61
       (first | rw [c61b0] | (simp only [i64_w, i32_w]; rw [c61b0]) | skip)
       have H' := Aside0.mk H
       clear H
       go_wp2
       go_meet
       case rel => exact ⟨_, ((a0_0 == 8)), (by first | rfl | (simp; done) | (simp [*]; done)), H', ⟨by have := HJ2.out; have := HJ47.out; first | omega | exact Nat.le_refl _⟩, ⟨by (with_reducible repeat (first | refine blk_drewN ?_ _ | refine blk_drew ?_ | refine blk_alloc ?_ _)); exact BK330.out⟩, ⟨by (with_reducible repeat (first | refine blk_drewN ?_ _ | refine blk_drew ?_ | refine blk_alloc ?_ _)); exact BK331.out⟩, ⟨bw⟩⟩
      case rest =>
       as_aux_lemma =>
       clear HC60
       try clear c6
       try clear c6b0
       try clear c6b1
       try clear c9
       try clear c9b0
       try clear c9b1
       try clear c10
       try clear c10b0
       try clear c10b1
       try clear c11
       try clear c11b0
       try clear c11b1
       try clear c15
       try clear c15b0
       try clear c15b1
       try clear c19
       try clear c19b0
       try clear c19b1
       try clear c23
       try clear c23b0
       try clear c23b1
       try clear c30
       try clear c34
       try clear c34b0
       try clear c34b1
       try clear c36
       try clear c41
       try clear c41b0
       try clear c41b1
       try clear c43
       try clear c49
       try clear c49b0
       try clear c49b1
       try clear c50
       try clear c50b0
       try clear c50b1
       try clear c51
       try clear c51b0
       try clear c51b1
       try clear c52
       try clear c53
       try clear c53b0
       try clear c53b1
       try clear c55
       try clear c61
       try clear c61b0
       try clear c61b1
       try clear hcz13_0
       try clear hcz14_0 hcz14_1 hcz14_2 hcz14_3 hcz14_4
       try clear hcz17_0
       try clear hcz18_0 hcz18_1 hcz18_2 hcz18_3 hcz18_4
       try clear hcz21_0
       try clear hcz22_0 hcz22_1 hcz22_2 hcz22_3 hcz22_4
       try clear hcz25_0
       try clear hcz26_0 hcz26_1 hcz26_2 hcz26_3 hcz26_4
       try clear hcz28_0
       try clear hcz29_0 hcz29_1 hcz29_2 hcz29_3 hcz29_4
       try clear hcz33_0 hcz33_1 hcz33_2 hcz33_3 hcz33_4
       try clear hcz38_0 hcz38_1 hcz38_2 hcz38_3 hcz38_4
       try clear hcz40_0 hcz40_1 hcz40_2 hcz40_3 hcz40_4
       try clear hcz45_0 hcz45_1 hcz45_2 hcz45_3 hcz45_4
       try clear hcz47_0 hcz47_1 hcz47_2 hcz47_3 hcz47_4
       try clear hcz57_0 hcz57_1 hcz57_2 hcz57_3 hcz57_4
       try clear hcz59_0 hcz59_1 hcz59_2 hcz59_3 hcz59_4
       try clear hcz8_0
       try clear hfz13_0
       try clear hfz14_0 hfz14_1 hfz14_2 hfz14_3 hfz14_4
       try clear hfz17_0
       try clear hfz18_0 hfz18_1 hfz18_2 hfz18_3 hfz18_4
       try clear hfz21_0
       try clear hfz22_0 hfz22_1 hfz22_2 hfz22_3 hfz22_4
       try clear hfz25_0
       try clear hfz26_0 hfz26_1 hfz26_2 hfz26_3 hfz26_4
       try clear hfz28_0
       try clear hfz29_0 hfz29_1 hfz29_2 hfz29_3 hfz29_4
       try clear hfz33_0 hfz33_1 hfz33_2 hfz33_3 hfz33_4
       try clear hfz38_0 hfz38_1 hfz38_2 hfz38_3 hfz38_4
       try clear hfz40_0 hfz40_1 hfz40_2 hfz40_3 hfz40_4
       try clear hfz45_0 hfz45_1 hfz45_2 hfz45_3 hfz45_4
       try clear hfz47_0 hfz47_1 hfz47_2 hfz47_3 hfz47_4
       try clear hfz57_0 hfz57_1 hfz57_2 hfz57_3 hfz57_4
       try clear hfz59_0 hfz59_1 hfz59_2 hfz59_3 hfz59_4
       try clear hfz8_0
       obtain ⟨kq, x62_59, rfl, HA, HJ59, BK330, BK331, HB⟩ := hcut
       cases kq with
       | zero => exact absurd HA.out (by simp [impl_isFormed.j2])
       | succ kj59 =>
        have H := HA.out
        clear HA
        simp only [impl_isFormed.j2] at H
        by_cases c62 : x62_59 = true
        ·subst c62
         replace H := (if_pos rfl).symm.trans H
         replace H := Option.bind_eq_some_iff.mp H
         obtain ⟨t335, A630, H⟩ := H
         have A63 := Aside0.mk A630
         clear A630
         by_cases c64 : t335 = true
         rotate_left
         ·replace c64 := Bool.eq_false_iff.mpr c64
          subst c64
          replace H := (if_neg (show ¬ (false = true) by decide)).symm.trans H
          obtain rfl := Option.some.inj H
          have hnb70 := NB330_331.out
          have hnc70 := NB331_330.out
          obtain ⟨hcz71_0, hcz71_1, hcz71_2, hcz71_3, hcz71_4, hfz71_0, hfz71_1, hfz71_2, hfz71_3, hfz71_4⟩ := blk5 BK330.out
          go_wp2_with (first | ((with_reducible refine gg (f := 119) (some 67) rfl rfl rfl fr119 ?_); refine onc (impl_isName.calls kj59 _ _ l0_2 false _ (cb HR0_2) HC0_2.out A63.out) rfl ?_; rintro e w' ⟨rfl, ⟨nd, rfl⟩⟩; refine ⟨_, rfl, ?_⟩))
          go_ret
          exact ⟨by first | rfl | (simp [errW_none, errW_some] <;> rfl) | (simp [*, errW_none, errW_some] <;> rfl), bw⟩
         subst c64
         replace H := (if_pos rfl).symm.trans H
         by_cases c65 : a0_0 = 8
         ·rw [if_pos c65] at H
          have c65b0 : (a0_0 == 8) = true := beq_iff_eq.mpr c65
          have c65b1 : (a0_0 != 8) = false := bne_eq_false_iff_eq.mpr c65
          clear c65
          have H' := Aside0.mk H
          clear H
          have hnb66 := NB330_331.out
          have hnc66 := NB331_330.out
          obtain ⟨hcz67_0, hcz67_1, hcz67_2, hcz67_3, hcz67_4, hfz67_0, hfz67_1, hfz67_2, hfz67_3, hfz67_4⟩ := blk5 BK330.out
          go_wp2_with (first | ((with_reducible refine gg (f := 119) (some 67) rfl rfl rfl fr119 ?_); refine onc (impl_isName.calls kj59 _ _ l0_2 true _ (cb HR0_2) HC0_2.out A63.out) rfl ?_; rintro e w' ⟨rfl, ⟨nd, rfl⟩⟩; refine ⟨_, rfl, ?_⟩))
          go_meet
          case rel => exact ⟨_, (1), (true), (by first | rfl | (simp; done) | (simp [*]; done)), (by first | rfl | (simp; done) | (simp [*]; done)), H', ⟨by have := HJ2.out; have := HJ47.out; have := HJ59.out; first | omega | exact Nat.le_refl _⟩, ⟨by (with_reducible repeat (first | refine blk_drewN ?_ _ | refine blk_drew ?_ | refine blk_alloc ?_ _)); exact BK330.out⟩, ⟨by (with_reducible repeat (first | refine blk_drewN ?_ _ | refine blk_drew ?_ | refine blk_alloc ?_ _)); exact BK331.out⟩, ⟨bw⟩⟩
         rw [if_neg c65] at H
         have c65b0 : (a0_0 == 8) = false := beq_eq_false_iff_ne.mpr c65
         have c65b1 : (a0_0 != 8) = true := bne_iff_ne.mpr c65
         have H' := Aside0.mk H
         clear H
         have hnb68 := NB330_331.out
         have hnc68 := NB331_330.out
         obtain ⟨hcz69_0, hcz69_1, hcz69_2, hcz69_3, hcz69_4, hfz69_0, hfz69_1, hfz69_2, hfz69_3, hfz69_4⟩ := blk5 BK330.out
         go_wp2_with (first | ((with_reducible refine gg (f := 119) (some 67) rfl rfl rfl fr119 ?_); refine onc (impl_isName.calls kj59 _ _ l0_2 true _ (cb HR0_2) HC0_2.out A63.out) rfl ?_; rintro e w' ⟨rfl, ⟨nd, rfl⟩⟩; refine ⟨_, rfl, ?_⟩))
         go_meet
         case rel => exact ⟨_, (0), (true), (by first | rfl | (simp; done) | (simp [*]; done)), (by first | rfl | (simp; done) | (simp [*]; done)), H', ⟨by have := HJ2.out; have := HJ47.out; have := HJ59.out; first | omega | exact Nat.le_refl _⟩, ⟨by (with_reducible repeat (first | refine blk_drewN ?_ _ | refine blk_drew ?_ | refine blk_alloc ?_ _)); exact BK330.out⟩, ⟨by (with_reducible repeat (first | refine blk_drewN ?_ _ | refine blk_drew ?_ | refine blk_alloc ?_ _)); exact BK331.out⟩, ⟨bw⟩⟩
        as_aux_lemma =>
        replace c62 := Bool.eq_false_iff.mpr c62
        subst c62
        replace H := (if_neg (show ¬ (false = true) by decide)).symm.trans H
        have HC72 := Aside0.mk H
        clear H
        go_upto_if 72 with (fail)
        go_cut [72] (fun v72 wc => ∃ (kq : Nat) (x72_71 : Bool), v72 = .bool x72_71 ∧ Aside0 (impl_isFormed.j3 kq 0 false a0_0 x72_71 a0_0 a0_1 l0_2 l0_3 l0_4 a1 = some r) ∧ Aside0 (kq ≤ kj59) ∧ Aside0 (wc.heap[gb330]? = some (.cells #[.int .i64 a0_0, .int .i64 a0_1, (.slice A0_2 l0_2.length c0_2), (.slice A0_3 l0_3.length c0_3), (.slice A0_4 l0_4.length c0_4)] 31 (0, 0))) ∧ Aside0 (wc.heap[gb331]? = some (.cells #[.int .i64 a1] 3 (0, 0))) ∧ Bw w wc)
        case first =>
         have H := HC72.out
         clear HC72
         by_cases c73 : a0_0 = 7
         ·rw [if_pos c73] at H
          have c73b0 : (a0_0 == 7) = true := beq_iff_eq.mpr c73
          have c73b1 : (a0_0 != 7) = false := bne_eq_false_iff_eq.mpr c73
          clear c73
          (first | rw [c73b0] | (simp only [i64_w, i32_w]; rw [c73b0]) | skip)
          have H' := Aside0.mk H
          clear H
          go_wp2
          go_meet
          case rel => exact ⟨_, ((a0_0 == 7)), (by first | rfl | (simp; done) | (simp [*]; done)), H', ⟨by have := HJ2.out; have := HJ47.out; have := HJ59.out; first | omega | exact Nat.le_refl _⟩, ⟨by (with_reducible repeat (first | refine blk_drewN ?_ _ | refine blk_drew ?_ | refine blk_alloc ?_ _)); exact BK330.out⟩, ⟨by (with_reducible repeat (first | refine blk_drewN ?_ _ | refine blk_drew ?_ | refine blk_alloc ?_ _)); exact BK331.out⟩, ⟨bw⟩⟩
         rw [if_neg c73] at H
         have c73b0 : (a0_0 == 7) = false := beq_eq_false_iff_ne.mpr c73
         have c73b1 : (a0_0 != 7) = true := bne_iff_ne.mpr c73
         (first | rw [c73b0] | (simp only [i64_w, i32_w]; rw [c73b0]) | skip)
         have H' := Aside0.mk H
         clear H
         go_wp2
         go_meet
         case rel => exact ⟨_, ((a0_0 == 23)), (by first | rfl | (simp; done) | (simp [*]; done)), H', ⟨by have := HJ2.out; have := HJ47.out; have := HJ59.out; first | omega | exact Nat.le_refl _⟩, ⟨by (with_reducible repeat (first | refine blk_drewN ?_ _ | refine blk_drew ?_ | refine blk_alloc ?_ _)); exact BK330.out⟩, ⟨by (with_reducible repeat (first | refine blk_drewN ?_ _ | refine blk_drew ?_ | refine blk_alloc ?_ _)); exact BK331.out⟩, ⟨bw⟩⟩
        case rest =>
         as_aux_lemma =>
         clear HC72
         try clear c6
         try clear c6b0
         try clear c6b1
         try clear c9
         try clear c9b0
         try clear c9b1
         try clear c10
         try clear c10b0
         try clear c10b1
         try clear c11
         try clear c11b0
         try clear c11b1
         try clear c15
         try clear c15b0
         try clear c15b1
         try clear c19
         try clear c19b0
         try clear c19b1
         try clear c23
         try clear c23b0
         try clear c23b1
         try clear c30
         try clear c34
         try clear c34b0
         try clear c34b1
         try clear c36
         try clear c41
         try clear c41b0
         try clear c41b1
         try clear c43
         try clear c49
         try clear c49b0
         try clear c49b1
         try clear c50
         try clear c50b0
         try clear c50b1
         try clear c51
         try clear c51b0
         try clear c51b1
         try clear c52
         try clear c53
         try clear c53b0
         try clear c53b1
         try clear c55
         try clear c61
         try clear c61b0
         try clear c61b1
         try clear c62
         try clear c64
         try clear c65
         try clear c65b0
         try clear c65b1
         try clear c73
         try clear c73b0
         try clear c73b1
         try clear hcz13_0
         try clear hcz14_0 hcz14_1 hcz14_2 hcz14_3 hcz14_4
         try clear hcz17_0
         try clear hcz18_0 hcz18_1 hcz18_2 hcz18_3 hcz18_4
         try clear hcz21_0
         try clear hcz22_0 hcz22_1 hcz22_2 hcz22_3 hcz22_4
         try clear hcz25_0
         try clear hcz26_0 hcz26_1 hcz26_2 hcz26_3 hcz26_4
         try clear hcz28_0
         try clear hcz29_0 hcz29_1 hcz29_2 hcz29_3 hcz29_4
         try clear hcz33_0 hcz33_1 hcz33_2 hcz33_3 hcz33_4
         try clear hcz38_0 hcz38_1 hcz38_2 hcz38_3 hcz38_4
         try clear hcz40_0 hcz40_1 hcz40_2 hcz40_3 hcz40_4
         try clear hcz45_0 hcz45_1 hcz45_2 hcz45_3 hcz45_4
         try clear hcz47_0 hcz47_1 hcz47_2 hcz47_3 hcz47_4
         try clear hcz57_0 hcz57_1 hcz57_2 hcz57_3 hcz57_4
         try clear hcz59_0 hcz59_1 hcz59_2 hcz59_3 hcz59_4
         try clear hcz67_0 hcz67_1 hcz67_2 hcz67_3 hcz67_4
         try clear hcz69_0 hcz69_1 hcz69_2 hcz69_3 hcz69_4
         try clear hcz71_0 hcz71_1 hcz71_2 hcz71_3 hcz71_4
         try clear hcz8_0
         try clear hfz13_0
         try clear hfz14_0 hfz14_1 hfz14_2 hfz14_3 hfz14_4
         try clear hfz17_0
         try clear hfz18_0 hfz18_1 hfz18_2 hfz18_3 hfz18_4
         try clear hfz21_0
         try clear hfz22_0 hfz22_1 hfz22_2 hfz22_3 hfz22_4
         try clear hfz25_0
         try clear hfz26_0 hfz26_1 hfz26_2 hfz26_3 hfz26_4
         try clear hfz28_0
         try clear hfz29_0 hfz29_1 hfz29_2 hfz29_3 hfz29_4
         try clear hfz33_0 hfz33_1 hfz33_2 hfz33_3 hfz33_4
         try clear hfz38_0 hfz38_1 hfz38_2 hfz38_3 hfz38_4
         try clear hfz40_0 hfz40_1 hfz40_2 hfz40_3 hfz40_4
         try clear hfz45_0 hfz45_1 hfz45_2 hfz45_3 hfz45_4
         try clear hfz47_0 hfz47_1 hfz47_2 hfz47_3 hfz47_4
         try clear hfz57_0 hfz57_1 hfz57_2 hfz57_3 hfz57_4
         try clear hfz59_0 hfz59_1 hfz59_2 hfz59_3 hfz59_4
         try clear hfz67_0 hfz67_1 hfz67_2 hfz67_3 hfz67_4
         try clear hfz69_0 hfz69_1 hfz69_2 hfz69_3 hfz69_4
         try clear hfz71_0 hfz71_1 hfz71_2 hfz71_3 hfz71_4
         try clear hfz8_0
         obtain ⟨kq, x72_71, rfl, HA, HJ71, BK330, BK331, HB⟩ := hcut
         cases kq with
         | zero => exact absurd HA.out (by simp [impl_isFormed.j3])
         | succ kj71 =>
          have H := HA.out
          clear HA
          simp only [impl_isFormed.j3] at H
          by_cases c74 : x72_71 = true
          ·subst c74
           replace H := (if_pos rfl).symm.trans H
           replace H := Option.bind_eq_some_iff.mp H
           obtain ⟨t336, A750, H⟩ := H
           have A75 := Aside0.mk A750
           clear A750
           by_cases c76 : t336 = true
           rotate_left
           ·replace c76 := Bool.eq_false_iff.mpr c76
            subst c76
            replace H := (if_neg (show ¬ (false = true) by decide)).symm.trans H
            obtain rfl := Option.some.inj H
            have hnb86 := NB330_331.out
            have hnc86 := NB331_330.out
            obtain ⟨hcz87_0, hcz87_1, hcz87_2, hcz87_3, hcz87_4, hfz87_0, hfz87_1, hfz87_2, hfz87_3, hfz87_4⟩ := blk5 BK330.out
            go_wp2_with (first | ((with_reducible refine gg (f := 120) (some 77) rfl rfl rfl fr120 ?_); refine onc (impl_isWord.calls kj71 _ _ l0_2 false _ (cb HR0_2) HC0_2.out A75.out) rfl ?_; rintro e w88 ⟨rfl, hb⟩; refine ⟨_, rfl, ?_⟩; replace BK330 := Aside0.mk (blk_below (g := gb330) (o := .cells #[.int .i64 a0_0, .int .i64 a0_1, .slice A0_2 l0_2.length c0_2, .slice A0_3 l0_3.length c0_3, .slice A0_4 l0_4.length c0_4] 31 (0, 0)) (by (with_reducible repeat (first | refine blk_drewN ?_ _ | refine blk_drew ?_ | refine blk_alloc ?_ _)); exact BK330.out) hb); replace BK331 := Aside0.mk (blk_below (g := gb331) (o := .cells #[.int .i64 a1] 3 (0, 0)) (by (with_reducible repeat (first | refine blk_drewN ?_ _ | refine blk_drew ?_ | refine blk_alloc ?_ _)); exact BK331.out) hb); replace HB := (Bw.sw w hb); (try clear hb)))
            go_ret
            exact ⟨by first | rfl | (simp [errW_none, errW_some] <;> rfl) | (simp [*, errW_none, errW_some] <;> rfl), bw⟩
           subst c76
           replace H := (if_pos rfl).symm.trans H
           by_cases c77 : a0_0 = 23
           ·rw [if_pos c77] at H
            have c77b0 : (a0_0 == 23) = true := beq_iff_eq.mpr c77
            have c77b1 : (a0_0 != 23) = false := bne_eq_false_iff_eq.mpr c77
            clear c77
            have H' := Aside0.mk H
            clear H
            have hnb78 := NB330_331.out
            have hnc78 := NB331_330.out
            obtain ⟨hcz79_0, hcz79_1, hcz79_2, hcz79_3, hcz79_4, hfz79_0, hfz79_1, hfz79_2, hfz79_3, hfz79_4⟩ := blk5 BK330.out
            go_wp2_with (first | ((with_reducible refine gg (f := 120) (some 77) rfl rfl rfl fr120 ?_); refine onc (impl_isWord.calls kj71 _ _ l0_2 true _ (cb HR0_2) HC0_2.out A75.out) rfl ?_; rintro e w80 ⟨rfl, hb⟩; refine ⟨_, rfl, ?_⟩; replace BK330 := Aside0.mk (blk_below (g := gb330) (o := .cells #[.int .i64 a0_0, .int .i64 a0_1, .slice A0_2 l0_2.length c0_2, .slice A0_3 l0_3.length c0_3, .slice A0_4 l0_4.length c0_4] 31 (0, 0)) (by (with_reducible repeat (first | refine blk_drewN ?_ _ | refine blk_drew ?_ | refine blk_alloc ?_ _)); exact BK330.out) hb); replace BK331 := Aside0.mk (blk_below (g := gb331) (o := .cells #[.int .i64 a1] 3 (0, 0)) (by (with_reducible repeat (first | refine blk_drewN ?_ _ | refine blk_drew ?_ | refine blk_alloc ?_ _)); exact BK331.out) hb); replace HB := (Bw.sw w hb); (try clear hb); obtain ⟨hcz81_0, hcz81_1, hcz81_2, hcz81_3, hcz81_4, hfz81_0, hfz81_1, hfz81_2, hfz81_3, hfz81_4⟩ := blk5 BK330.out))
            go_meet
            case rel => exact ⟨_, ((l0_4.length : Int)), (true), (by first | rfl | (simp; done) | (simp [*]; done)), (by first | rfl | (simp; done) | (simp [*]; done)), H', ⟨by have := HJ2.out; have := HJ47.out; have := HJ59.out; have := HJ71.out; first | omega | exact Nat.le_refl _⟩, ⟨by (with_reducible repeat (first | refine blk_drewN ?_ _ | refine blk_drew ?_ | refine blk_alloc ?_ _)); exact BK330.out⟩, ⟨by (with_reducible repeat (first | refine blk_drewN ?_ _ | refine blk_drew ?_ | refine blk_alloc ?_ _)); exact BK331.out⟩, ⟨bw⟩⟩
           rw [if_neg c77] at H
           have c77b0 : (a0_0 == 23) = false := beq_eq_false_iff_ne.mpr c77
           have c77b1 : (a0_0 != 23) = true := bne_iff_ne.mpr c77
           have H' := Aside0.mk H
           clear H
           have hnb82 := NB330_331.out
           have hnc82 := NB331_330.out
           obtain ⟨hcz83_0, hcz83_1, hcz83_2, hcz83_3, hcz83_4, hfz83_0, hfz83_1, hfz83_2, hfz83_3, hfz83_4⟩ := blk5 BK330.out
           go_wp2_with (first | ((with_reducible refine gg (f := 120) (some 77) rfl rfl rfl fr120 ?_); refine onc (impl_isWord.calls kj71 _ _ l0_2 true _ (cb HR0_2) HC0_2.out A75.out) rfl ?_; rintro e w84 ⟨rfl, hb⟩; refine ⟨_, rfl, ?_⟩; replace BK330 := Aside0.mk (blk_below (g := gb330) (o := .cells #[.int .i64 a0_0, .int .i64 a0_1, .slice A0_2 l0_2.length c0_2, .slice A0_3 l0_3.length c0_3, .slice A0_4 l0_4.length c0_4] 31 (0, 0)) (by (with_reducible repeat (first | refine blk_drewN ?_ _ | refine blk_drew ?_ | refine blk_alloc ?_ _)); exact BK330.out) hb); replace BK331 := Aside0.mk (blk_below (g := gb331) (o := .cells #[.int .i64 a1] 3 (0, 0)) (by (with_reducible repeat (first | refine blk_drewN ?_ _ | refine blk_drew ?_ | refine blk_alloc ?_ _)); exact BK331.out) hb); replace HB := (Bw.sw w hb); (try clear hb); obtain ⟨hcz85_0, hcz85_1, hcz85_2, hcz85_3, hcz85_4, hfz85_0, hfz85_1, hfz85_2, hfz85_3, hfz85_4⟩ := blk5 BK330.out))
           go_meet
           case rel => exact ⟨_, (0), (true), (by first | rfl | (simp; done) | (simp [*]; done)), (by first | rfl | (simp; done) | (simp [*]; done)), H', ⟨by have := HJ2.out; have := HJ47.out; have := HJ59.out; have := HJ71.out; first | omega | exact Nat.le_refl _⟩, ⟨by (with_reducible repeat (first | refine blk_drewN ?_ _ | refine blk_drew ?_ | refine blk_alloc ?_ _)); exact BK330.out⟩, ⟨by (with_reducible repeat (first | refine blk_drewN ?_ _ | refine blk_drew ?_ | refine blk_alloc ?_ _)); exact BK331.out⟩, ⟨bw⟩⟩
          as_aux_lemma =>
          replace c74 := Bool.eq_false_iff.mpr c74
          subst c74
          replace H := (if_neg (show ¬ (false = true) by decide)).symm.trans H
          by_cases c89 : a0_0 = 4
          ·rw [if_pos c89] at H
           have c89b0 : (a0_0 == 4) = true := beq_iff_eq.mpr c89
           have c89b1 : (a0_0 != 4) = false := bne_eq_false_iff_eq.mpr c89
           clear c89
           have H' := Aside0.mk H
           clear H
           have hnb90 := NB330_331.out
           have hnc90 := NB331_330.out
           obtain ⟨hcz91_0, hcz91_1, hcz91_2, hcz91_3, hcz91_4, hfz91_0, hfz91_1, hfz91_2, hfz91_3, hfz91_4⟩ := blk5 BK330.out
           go_wp2
           go_meet
           case rel => exact ⟨_, ((l0_4.length : Int)), (false), (by first | rfl | (simp; done) | (simp [*]; done)), (by first | rfl | (simp; done) | (simp [*]; done)), H', ⟨by have := HJ2.out; have := HJ47.out; have := HJ59.out; have := HJ71.out; first | omega | exact Nat.le_refl _⟩, ⟨by (with_reducible repeat (first | refine blk_drewN ?_ _ | refine blk_drew ?_ | refine blk_alloc ?_ _)); exact BK330.out⟩, ⟨by (with_reducible repeat (first | refine blk_drewN ?_ _ | refine blk_drew ?_ | refine blk_alloc ?_ _)); exact BK331.out⟩, ⟨bw⟩⟩
          as_aux_lemma =>
          rw [if_neg c89] at H
          have c89b0 : (a0_0 == 4) = false := beq_eq_false_iff_ne.mpr c89
          have c89b1 : (a0_0 != 4) = true := bne_iff_ne.mpr c89
          by_cases c92 : a0_0 = 5
          ·as_aux_lemma =>
           rw [if_pos c92] at H
           have c92b0 : (a0_0 == 5) = true := beq_iff_eq.mpr c92
           have c92b1 : (a0_0 != 5) = false := bne_eq_false_iff_eq.mpr c92
           clear c92
           have H' := Aside0.mk H
           clear H
           have hnb93 := NB330_331.out
           have hnc93 := NB331_330.out
           obtain ⟨hcz94_0, hcz94_1, hcz94_2, hcz94_3, hcz94_4, hfz94_0, hfz94_1, hfz94_2, hfz94_3, hfz94_4⟩ := blk5 BK330.out
           go_wp2
           go_loopg [98] kj71 (fun kq v98 w' => ∃ (x98_5 : Int), v98 = .int .i64 x98_5 ∧ Aside0 (impl_isFormed.l0 kq (l0_3.length : Int) false l0_3 (l0_3.length : Int) x98_5 a0_0 a0_1 l0_2 l0_3 l0_4 a1 = some r) ∧ Aside0 (kq ≤ kj71) ∧ Aside0 (w'.heap[gb330]? = some (.cells #[.int .i64 a0_0, .int .i64 a0_1, (.slice A0_2 l0_2.length c0_2), (.slice A0_3 l0_3.length c0_3), (.slice A0_4 l0_4.length c0_4)] 31 (0, 0))) ∧ Aside0 (w'.heap[gb331]? = some (.cells #[.int .i64 a1] 3 (0, 0))) ∧ Bw w w')
           case atStart => exact ⟨(0), (by first | rfl | (simp; done) | (simp [*]; done)), H', ⟨Nat.le_refl _⟩, ⟨by (with_reducible repeat (first | refine blk_drewN ?_ _ | refine blk_drew ?_ | refine blk_alloc ?_ _)); exact BK330.out⟩, ⟨by (with_reducible repeat (first | refine blk_drewN ?_ _ | refine blk_drew ?_ | refine blk_alloc ?_ _)); exact BK331.out⟩, ⟨bw⟩⟩
           case round =>
            as_aux_lemma =>
            clear H'
            try clear c6
            try clear c6b0
            try clear c6b1
            try clear c9
            try clear c9b0
            try clear c9b1
            try clear c10
            try clear c10b0
            try clear c10b1
            try clear c11
            try clear c11b0
            try clear c11b1
            try clear c15
            try clear c15b0
            try clear c15b1
            try clear c19
            try clear c19b0
            try clear c19b1
            try clear c23
            try clear c23b0
            try clear c23b1
            try clear c30
            try clear c34
            try clear c34b0
            try clear c34b1
            try clear c36
            try clear c41
            try clear c41b0
            try clear c41b1
            try clear c43
            try clear c49
            try clear c49b0
            try clear c49b1
            try clear c50
            try clear c50b0
            try clear c50b1
            try clear c51
            try clear c51b0
            try clear c51b1
            try clear c52
            try clear c53
            try clear c53b0
            try clear c53b1
            try clear c55
            try clear c61
            try clear c61b0
            try clear c61b1
            try clear c62
            try clear c64
            try clear c65
            try clear c65b0
            try clear c65b1
            try clear c73
            try clear c73b0
            try clear c73b1
            try clear c74
            try clear c76
            try clear c77
            try clear c77b0
            try clear c77b1
            try clear c89
            try clear c89b0
            try clear c89b1
            try clear c92
            try clear c92b0
            try clear c92b1
            try clear hcz13_0
            try clear hcz14_0 hcz14_1 hcz14_2 hcz14_3 hcz14_4
            try clear hcz17_0
            try clear hcz18_0 hcz18_1 hcz18_2 hcz18_3 hcz18_4
            try clear hcz21_0
            try clear hcz22_0 hcz22_1 hcz22_2 hcz22_3 hcz22_4
            try clear hcz25_0
            try clear hcz26_0 hcz26_1 hcz26_2 hcz26_3 hcz26_4
            try clear hcz28_0
            try clear hcz29_0 hcz29_1 hcz29_2 hcz29_3 hcz29_4
            try clear hcz33_0 hcz33_1 hcz33_2 hcz33_3 hcz33_4
            try clear hcz38_0 hcz38_1 hcz38_2 hcz38_3 hcz38_4
            try clear hcz40_0 hcz40_1 hcz40_2 hcz40_3 hcz40_4
            try clear hcz45_0 hcz45_1 hcz45_2 hcz45_3 hcz45_4
            try clear hcz47_0 hcz47_1 hcz47_2 hcz47_3 hcz47_4
            try clear hcz57_0 hcz57_1 hcz57_2 hcz57_3 hcz57_4
            try clear hcz59_0 hcz59_1 hcz59_2 hcz59_3 hcz59_4
            try clear hcz67_0 hcz67_1 hcz67_2 hcz67_3 hcz67_4
            try clear hcz69_0 hcz69_1 hcz69_2 hcz69_3 hcz69_4
            try clear hcz71_0 hcz71_1 hcz71_2 hcz71_3 hcz71_4
            try clear hcz79_0 hcz79_1 hcz79_2 hcz79_3 hcz79_4
            try clear hcz81_0 hcz81_1 hcz81_2 hcz81_3 hcz81_4
            try clear hcz83_0 hcz83_1 hcz83_2 hcz83_3 hcz83_4
            try clear hcz85_0 hcz85_1 hcz85_2 hcz85_3 hcz85_4
            try clear hcz87_0 hcz87_1 hcz87_2 hcz87_3 hcz87_4
            try clear hcz8_0
            try clear hcz91_0 hcz91_1 hcz91_2 hcz91_3 hcz91_4
            try clear hcz94_0 hcz94_1 hcz94_2 hcz94_3 hcz94_4
            try clear hfz13_0
            try clear hfz14_0 hfz14_1 hfz14_2 hfz14_3 hfz14_4
            try clear hfz17_0
            try clear hfz18_0 hfz18_1 hfz18_2 hfz18_3 hfz18_4
            try clear hfz21_0
            try clear hfz22_0 hfz22_1 hfz22_2 hfz22_3 hfz22_4
            try clear hfz25_0
            try clear hfz26_0 hfz26_1 hfz26_2 hfz26_3 hfz26_4
            try clear hfz28_0
            try clear hfz29_0 hfz29_1 hfz29_2 hfz29_3 hfz29_4
            try clear hfz33_0 hfz33_1 hfz33_2 hfz33_3 hfz33_4
            try clear hfz38_0 hfz38_1 hfz38_2 hfz38_3 hfz38_4
            try clear hfz40_0 hfz40_1 hfz40_2 hfz40_3 hfz40_4
            try clear hfz45_0 hfz45_1 hfz45_2 hfz45_3 hfz45_4
            try clear hfz47_0 hfz47_1 hfz47_2 hfz47_3 hfz47_4
            try clear hfz57_0 hfz57_1 hfz57_2 hfz57_3 hfz57_4
            try clear hfz59_0 hfz59_1 hfz59_2 hfz59_3 hfz59_4
            try clear hfz67_0 hfz67_1 hfz67_2 hfz67_3 hfz67_4
            try clear hfz69_0 hfz69_1 hfz69_2 hfz69_3 hfz69_4
            try clear hfz71_0 hfz71_1 hfz71_2 hfz71_3 hfz71_4
            try clear hfz79_0 hfz79_1 hfz79_2 hfz79_3 hfz79_4
            try clear hfz81_0 hfz81_1 hfz81_2 hfz81_3 hfz81_4
            try clear hfz83_0 hfz83_1 hfz83_2 hfz83_3 hfz83_4
            try clear hfz85_0 hfz85_1 hfz85_2 hfz85_3 hfz85_4
            try clear hfz87_0 hfz87_1 hfz87_2 hfz87_3 hfz87_4
            try clear hfz8_0
            try clear hfz91_0 hfz91_1 hfz91_2 hfz91_3 hfz91_4
            try clear hfz94_0 hfz94_1 hfz94_2 hfz94_3 hfz94_4
            obtain ⟨x98_5, rfl, HA, HK5, BK330, BK331, HB⟩ := hrel
            cases gk with
            | zero => exact absurd HA.out (by simp [impl_isFormed.l0])
            | succ k5 =>
             have H := HA.out
             clear HA
             simp only [impl_isFormed.l0] at H
             by_cases c95 : x98_5 < (l0_3.length : Int)
             rotate_left
             ·rw [if_neg c95] at H
              have c95b0 : decide (x98_5 < (l0_3.length : Int)) = false := decide_eq_false c95
              clear c95
              have H' := Aside0.mk H
              clear H
              go_wp2
              go_meet
              case rel => exact ⟨_, ((l0_3.length : Int)), (false), (by first | rfl | (simp; done) | (simp [*]; done)), (by first | rfl | (simp; done) | (simp [*]; done)), H', ⟨by have := HJ2.out; have := HJ47.out; have := HJ59.out; have := HJ71.out; have := HK5.out; first | omega | exact Nat.le_refl _⟩, ⟨by (with_reducible repeat (first | refine blk_drewN ?_ _ | refine blk_drew ?_ | refine blk_alloc ?_ _)); exact BK330.out⟩, ⟨by (with_reducible repeat (first | refine blk_drewN ?_ _ | refine blk_drew ?_ | refine blk_alloc ?_ _)); exact BK331.out⟩, ⟨bw⟩⟩
             as_aux_lemma =>
             rw [if_pos c95] at H
             have c95b0 : decide (x98_5 < (l0_3.length : Int)) = true := decide_eq_true c95
             clear c95
             by_cases c96 : 0 ≤ x98_5
             rotate_left
             ·rw [if_neg c96] at H
              exact absurd H (by simp)
             as_aux_lemma =>
             rw [if_pos c96] at H
             have c96b0 : decide (0 ≤ x98_5) = true := decide_eq_true c96
             clear c96
             by_cases c97 : x98_5 < (l0_3.length : Int)
             rotate_left
             ·rw [if_neg c97] at H
              exact absurd H (by simp)
             as_aux_lemma =>
             rw [if_pos c97] at H
             have c97b0 : decide (x98_5 < (l0_3.length : Int)) = true := decide_eq_true c97
             clear c97
             replace H := Option.bind_eq_some_iff.mp H
             obtain ⟨t338, A980, H⟩ := H
             have A98 := Aside0.mk A980
             clear A980
             by_cases c99 : t338 = true
             rotate_left
             ·replace c99 := Bool.eq_false_iff.mpr c99
              subst c99
              replace H := (if_neg (show ¬ (false = true) by decide)).symm.trans H
              obtain rfl := Option.some.inj H
              have p337 : 0 ≤ (x98_5 : Int) := of_decide_eq_true (by first | (with_reducible assumption) | assumption)
              have q337 : x98_5 < (l0_3.length : Int) := of_decide_eq_true (by first | (with_reducible assumption) | assumption)
              obtain ⟨ad337, A337_0, c337_0, e337, hx337_0, hl337_0, hi337_0⟩ := at_L1 HR0_3.out x98_5 p337 q337
              cases e337
              replace hx337_0 := (HB.out.cell (World.block_lt_of_cell? w _ hx337_0)).trans hx337_0
              have HR337_0 := Aside0.mk hi337_0
              have HC337_0 := Aside0.mk hl337_0
              clear hi337_0 hl337_0
              replace p337 := eq_true p337
              replace q337 := eq_true q337
              go_wp2_with (first | ((with_reducible refine gg (f := 119) (some 104) rfl rfl rfl fr119 ?_); refine onc (impl_isName.calls k5 _ _ (rd_L1 l0_3 x98_5) false _ (cb HR337_0) HC337_0.out A98.out) rfl ?_; rintro e w' ⟨rfl, ⟨nd, rfl⟩⟩; refine ⟨_, rfl, ?_⟩))
              go_ret
              exact ⟨by first | rfl | (simp [errW_none, errW_some] <;> rfl) | (simp [*, errW_none, errW_some] <;> rfl), bw⟩
             as_aux_lemma =>
             subst c99
             replace H := (if_pos rfl).symm.trans H
             by_cases c100 : x98_5 > 0
             rotate_left
             ·rw [if_neg c100] at H
              have c100b0 : decide (0 < x98_5) = false := decide_eq_false c100
              clear c100
              have H' := Aside0.mk H
              clear H
              have p337 : 0 ≤ (x98_5 : Int) := of_decide_eq_true (by first | (with_reducible assumption) | assumption)
              have q337 : x98_5 < (l0_3.length : Int) := of_decide_eq_true (by first | (with_reducible assumption) | assumption)
              obtain ⟨ad337, A337_0, c337_0, e337, hx337_0, hl337_0, hi337_0⟩ := at_L1 HR0_3.out x98_5 p337 q337
              cases e337
              replace hx337_0 := (HB.out.cell (World.block_lt_of_cell? w _ hx337_0)).trans hx337_0
              have HR337_0 := Aside0.mk hi337_0
              have HC337_0 := Aside0.mk hl337_0
              clear hi337_0 hl337_0
              replace p337 := eq_true p337
              replace q337 := eq_true q337
              go_wp2_with (first | ((with_reducible refine gg (f := 119) (some 104) rfl rfl rfl fr119 ?_); refine onc (impl_isName.calls k5 _ _ (rd_L1 l0_3 x98_5) true _ (cb HR337_0) HC337_0.out A98.out) rfl ?_; rintro e w' ⟨rfl, ⟨nd, rfl⟩⟩; refine ⟨_, rfl, ?_⟩))
              go_roundg k5
              case measure => have := HJ2.out; have := HJ47.out; have := HJ59.out; have := HJ71.out; have := HK5.out; omega
              case rel => exact ⟨(wrap64 (x98_5 + 1)), (by first | rfl | (simp; done) | (simp [*]; done)), H', ⟨by have := HJ2.out; have := HJ47.out; have := HJ59.out; have := HJ71.out; have := HK5.out; omega⟩, ⟨by (with_reducible repeat (first | refine blk_drewN ?_ _ | refine blk_drew ?_ | refine blk_alloc ?_ _)); exact BK330.out⟩, ⟨by (with_reducible repeat (first | refine blk_drewN ?_ _ | refine blk_drew ?_ | refine blk_alloc ?_ _)); exact BK331.out⟩, ⟨bw⟩⟩
             rw [if_pos c100] at H
             have c100b0 : decide (0 < x98_5) = true := decide_eq_true c100
             clear c100
             obtain ⟨ji101, hji101⟩ : ∃ j_ : Int, (wrap64 (x98_5 - 1)) = j_ := ⟨_, rfl⟩
             replace H : (if 0 ≤ (ji101) then (if (ji101) < (l0_3.length : Int) then ((bytes_Compare.f (rd_L1 l0_3 (ji101)) (rd_L1 l0_3 x98_5)).bind fun t340 => (if t340 ≥ 0 then (some false) else (impl_isFormed.l0 k5 (l0_3.length : Int) false l0_3 (l0_3.length : Int) (wrap64 (x98_5 + 1)) a0_0 a0_1 l0_2 l0_3 l0_4 a1))) else (none)) else (none)) = some r := by first | (rw [hji101] at H; exact H) | (simp only [hji101] at H ⊢; exact H)
             (try rw [hji101] at A98)
             have hji101w : (IntKind.i64.wrap (x98_5 - 1)) = ji101 := (i64_w _).trans hji101
             by_cases c102 : 0 ≤ (ji101)
             rotate_left
             ·rw [if_neg c102] at H
              exact absurd H (by simp)
             rw [if_pos c102] at H
             have c102b0 : decide (0 ≤ (ji101)) = true := decide_eq_true c102
             clear c102
             by_cases c103 : (ji101) < (l0_3.length : Int)
             rotate_left
             ·rw [if_neg c103] at H
              exact absurd H (by simp)
             rw [if_pos c103] at H
             have c103b0 : decide ((ji101) < (l0_3.length : Int)) = true := decide_eq_true c103
             clear c103
             replace H := Option.bind_eq_some_iff.mp H
             obtain ⟨t340, A1040, H⟩ := H
             have A104 := Aside0.mk A1040
             clear A1040
             by_cases c105 : t340 ≥ 0
             ·rw [if_pos c105] at H
              have c105b0 : decide (0 ≤ t340) = true := decide_eq_true c105
              clear c105
              obtain rfl := Option.some.inj H
              have p337 : 0 ≤ (x98_5 : Int) := of_decide_eq_true (by first | (with_reducible assumption) | assumption)
              have q337 : x98_5 < (l0_3.length : Int) := of_decide_eq_true (by first | (with_reducible assumption) | assumption)
              obtain ⟨ad337, A337_0, c337_0, e337, hx337_0, hl337_0, hi337_0⟩ := at_L1 HR0_3.out x98_5 p337 q337
              cases e337
              replace hx337_0 := (HB.out.cell (World.block_lt_of_cell? w _ hx337_0)).trans hx337_0
              have HR337_0 := Aside0.mk hi337_0
              have HC337_0 := Aside0.mk hl337_0
              clear hi337_0 hl337_0
              replace p337 := eq_true p337
              replace q337 := eq_true q337
              go_wp2_with (first | ((with_reducible refine gg (f := 119) (some 104) rfl rfl rfl fr119 ?_); refine onc (impl_isName.calls k5 _ _ (rd_L1 l0_3 x98_5) true _ (cb HR337_0) HC337_0.out A98.out) rfl ?_; rintro e w' ⟨rfl, ⟨nd, rfl⟩⟩; refine ⟨_, rfl, ?_⟩; have hnb106 := NB330_331.out; have hnc106 := NB331_330.out; obtain ⟨hcz107_0, hcz107_1, hcz107_2, hcz107_3, hcz107_4, hfz107_0, hfz107_1, hfz107_2, hfz107_3, hfz107_4⟩ := blk5 BK330.out; have p339 : 0 ≤ ((ji101) : Int) := of_decide_eq_true (by first | (with_reducible assumption) | assumption); have q339 : (ji101) < (l0_3.length : Int) := of_decide_eq_true (by first | (with_reducible assumption) | assumption); obtain ⟨ad339, A339_0, c339_0, e339, hx339_0, hl339_0, hi339_0⟩ := at_L1 HR0_3.out (ji101) p339 q339; obtain rfl : ad337 = ad339 := (by injection e339); replace hx339_0 := (HB.out.cell (World.block_lt_of_cell? w _ hx339_0)).trans hx339_0; have HR339_0 := Aside0.mk hi339_0; have HC339_0 := Aside0.mk hl339_0; clear hi339_0 hl339_0; replace p339 := eq_true p339; replace q339 := eq_true q339) | (go_at_call 85; (with_reducible refine (bytes_Compare.calls _ _ (rd_L1 l0_3 (ji101)) _ _ (rd_L1 l0_3 x98_5) t340 _ ?side1 ?side2 ?side3 ?side4 A104.out).mono ?_); (case side1 => repeat (first | exact (Kd.C_below HR339_0.out bw) | (with_reducible refine Kd.C_alloc ?_ _) | (with_reducible refine Kd.C_drewN ?_ _) | (with_reducible refine Kd.C_drew ?_))); (case side2 => exact HC339_0.out); (case side3 => repeat (first | exact (Kd.C_below HR337_0.out bw) | (with_reducible refine Kd.C_alloc ?_ _) | (with_reducible refine Kd.C_drewN ?_ _) | (with_reducible refine Kd.C_drew ?_))); (case side4 => exact HC337_0.out); rintro e w' ⟨rfl, ⟨nd, rfl⟩⟩))
              go_ret
              exact ⟨by first | rfl | (simp [errW_none, errW_some] <;> rfl) | (simp only [← hji101]; first | rfl | (simp [errW_none, errW_some] <;> rfl)) | (simp [*, errW_none, errW_some] <;> rfl), bw⟩
             rw [if_neg c105] at H
             have c105b0 : decide (0 ≤ t340) = false := decide_eq_false c105
             clear c105
             have H' := Aside0.mk H
             clear H
             have p337 : 0 ≤ (x98_5 : Int) := of_decide_eq_true (by first | (with_reducible assumption) | assumption)
             have q337 : x98_5 < (l0_3.length : Int) := of_decide_eq_true (by first | (with_reducible assumption) | assumption)
             obtain ⟨ad337, A337_0, c337_0, e337, hx337_0, hl337_0, hi337_0⟩ := at_L1 HR0_3.out x98_5 p337 q337
             cases e337
             replace hx337_0 := (HB.out.cell (World.block_lt_of_cell? w _ hx337_0)).trans hx337_0
             have HR337_0 := Aside0.mk hi337_0
             have HC337_0 := Aside0.mk hl337_0
             clear hi337_0 hl337_0
             replace p337 := eq_true p337
             replace q337 := eq_true q337
             go_wp2_with (first | ((with_reducible refine gg (f := 119) (some 104) rfl rfl rfl fr119 ?_); refine onc (impl_isName.calls k5 _ _ (rd_L1 l0_3 x98_5) true _ (cb HR337_0) HC337_0.out A98.out) rfl ?_; rintro e w' ⟨rfl, ⟨nd, rfl⟩⟩; refine ⟨_, rfl, ?_⟩; have hnb108 := NB330_331.out; have hnc108 := NB331_330.out; obtain ⟨hcz109_0, hcz109_1, hcz109_2, hcz109_3, hcz109_4, hfz109_0, hfz109_1, hfz109_2, hfz109_3, hfz109_4⟩ := blk5 BK330.out; have p339 : 0 ≤ ((ji101) : Int) := of_decide_eq_true (by first | (with_reducible assumption) | assumption); have q339 : (ji101) < (l0_3.length : Int) := of_decide_eq_true (by first | (with_reducible assumption) | assumption); obtain ⟨ad339, A339_0, c339_0, e339, hx339_0, hl339_0, hi339_0⟩ := at_L1 HR0_3.out (ji101) p339 q339; obtain rfl : ad337 = ad339 := (by injection e339); replace hx339_0 := (HB.out.cell (World.block_lt_of_cell? w _ hx339_0)).trans hx339_0; have HR339_0 := Aside0.mk hi339_0; have HC339_0 := Aside0.mk hl339_0; clear hi339_0 hl339_0; replace p339 := eq_true p339; replace q339 := eq_true q339) | (go_at_call 85; (with_reducible refine (bytes_Compare.calls _ _ (rd_L1 l0_3 (ji101)) _ _ (rd_L1 l0_3 x98_5) t340 _ ?side1 ?side2 ?side3 ?side4 A104.out).mono ?_); (case side1 => repeat (first | exact (Kd.C_below HR339_0.out bw) | (with_reducible refine Kd.C_alloc ?_ _) | (with_reducible refine Kd.C_drewN ?_ _) | (with_reducible refine Kd.C_drew ?_))); (case side2 => exact HC339_0.out); (case side3 => repeat (first | exact (Kd.C_below HR337_0.out bw) | (with_reducible refine Kd.C_alloc ?_ _) | (with_reducible refine Kd.C_drewN ?_ _) | (with_reducible refine Kd.C_drew ?_))); (case side4 => exact HC337_0.out); rintro e w' ⟨rfl, ⟨nd, rfl⟩⟩))
             go_roundg k5
             case measure => have := HJ2.out; have := HJ47.out; have := HJ59.out; have := HJ71.out; have := HK5.out; omega
             case rel => exact ⟨(wrap64 (x98_5 + 1)), (by first | rfl | (simp; done) | (simp [*]; done)), H', ⟨by have := HJ2.out; have := HJ47.out; have := HJ59.out; have := HJ71.out; have := HK5.out; omega⟩, ⟨by (with_reducible repeat (first | refine blk_drewN ?_ _ | refine blk_drew ?_ | refine blk_alloc ?_ _)); exact BK330.out⟩, ⟨by (with_reducible repeat (first | refine blk_drewN ?_ _ | refine blk_drew ?_ | refine blk_alloc ?_ _)); exact BK331.out⟩, ⟨bw⟩⟩
          as_aux_lemma =>
          rw [if_neg c92] at H
          have c92b0 : (a0_0 == 5) = false := beq_eq_false_iff_ne.mpr c92
          have c92b1 : (a0_0 != 5) = true := bne_iff_ne.mpr c92
          have HC110 := Aside0.mk H
          clear H
          go_upto_if 122 with (fail)
          go_cut [122] (fun v122 wc => ∃ (kq : Nat) (x122_109 : Bool), v122 = .bool x122_109 ∧ Aside0 (impl_isFormed.j5 kq false a0_0 x122_109 a0_0 a0_1 l0_2 l0_3 l0_4 a1 = some r) ∧ Aside0 (kq ≤ kj71) ∧ Aside0 (wc.heap[gb330]? = some (.cells #[.int .i64 a0_0, .int .i64 a0_1, (.slice A0_2 l0_2.length c0_2), (.slice A0_3 l0_3.length c0_3), (.slice A0_4 l0_4.length c0_4)] 31 (0, 0))) ∧ Aside0 (wc.heap[gb331]? = some (.cells #[.int .i64 a1] 3 (0, 0))) ∧ Bw w wc)
          case first =>
           have H := HC110.out
           clear HC110
           by_cases c111 : a0_0 = 13
           ·rw [if_pos c111] at H
            have c111b0 : (a0_0 == 13) = true := beq_iff_eq.mpr c111
            have c111b1 : (a0_0 != 13) = false := bne_eq_false_iff_eq.mpr c111
            clear c111
            (first | rw [c111b0] | (simp only [i64_w, i32_w]; rw [c111b0]) | skip)
            have H' := Aside0.mk H
            clear H
            go_wp2
            go_meet
            case rel => exact ⟨_, ((a0_0 == 13)), (by first | rfl | (simp; done) | (simp [*]; done)), H', ⟨by have := HJ2.out; have := HJ47.out; have := HJ59.out; have := HJ71.out; first | omega | exact Nat.le_refl _⟩, ⟨by (with_reducible repeat (first | refine blk_drewN ?_ _ | refine blk_drew ?_ | refine blk_alloc ?_ _)); exact BK330.out⟩, ⟨by (with_reducible repeat (first | refine blk_drewN ?_ _ | refine blk_drew ?_ | refine blk_alloc ?_ _)); exact BK331.out⟩, ⟨bw⟩⟩
           rw [if_neg c111] at H
           have c111b0 : (a0_0 == 13) = false := beq_eq_false_iff_ne.mpr c111
           have c111b1 : (a0_0 != 13) = true := bne_iff_ne.mpr c111
           (first | rw [c111b0] | (simp only [i64_w, i32_w]; rw [c111b0]) | skip)
           have H' := Aside0.mk H
           clear H
           go_wp2
           go_meet
           case rel => exact ⟨_, ((a0_0 == 14)), (by first | rfl | (simp; done) | (simp [*]; done)), H', ⟨by have := HJ2.out; have := HJ47.out; have := HJ59.out; have := HJ71.out; first | omega | exact Nat.le_refl _⟩, ⟨by (with_reducible repeat (first | refine blk_drewN ?_ _ | refine blk_drew ?_ | refine blk_alloc ?_ _)); exact BK330.out⟩, ⟨by (with_reducible repeat (first | refine blk_drewN ?_ _ | refine blk_drew ?_ | refine blk_alloc ?_ _)); exact BK331.out⟩, ⟨bw⟩⟩
          case rest =>
           as_aux_lemma =>
           clear HC110
           try clear c6
           try clear c6b0
           try clear c6b1
           try clear c9
           try clear c9b0
           try clear c9b1
           try clear c10
           try clear c10b0
           try clear c10b1
           try clear c11
           try clear c11b0
           try clear c11b1
           try clear c15
           try clear c15b0
           try clear c15b1
           try clear c19
           try clear c19b0
           try clear c19b1
           try clear c23
           try clear c23b0
           try clear c23b1
           try clear c30
           try clear c34
           try clear c34b0
           try clear c34b1
           try clear c36
           try clear c41
           try clear c41b0
           try clear c41b1
           try clear c43
           try clear c49
           try clear c49b0
           try clear c49b1
           try clear c50
           try clear c50b0
           try clear c50b1
           try clear c51
           try clear c51b0
           try clear c51b1
           try clear c52
           try clear c53
           try clear c53b0
           try clear c53b1
           try clear c55
           try clear c61
           try clear c61b0
           try clear c61b1
           try clear c62
           try clear c64
           try clear c65
           try clear c65b0
           try clear c65b1
           try clear c73
           try clear c73b0
           try clear c73b1
           try clear c74
           try clear c76
           try clear c77
           try clear c77b0
           try clear c77b1
           try clear c89
           try clear c89b0
           try clear c89b1
           try clear c92
           try clear c92b0
           try clear c92b1
           try clear c95
           try clear c95b0
           try clear c96
           try clear c96b0
           try clear c97
           try clear c97b0
           try clear c99
           try clear c100
           try clear c100b0
           try clear c102
           try clear c102b0
           try clear c103
           try clear c103b0
           try clear c105
           try clear c105b0
           try clear c111
           try clear c111b0
           try clear c111b1
           try clear hcz107_0 hcz107_1 hcz107_2 hcz107_3 hcz107_4
           try clear hcz109_0 hcz109_1 hcz109_2 hcz109_3 hcz109_4
           try clear hcz13_0
           try clear hcz14_0 hcz14_1 hcz14_2 hcz14_3 hcz14_4
           try clear hcz17_0
           try clear hcz18_0 hcz18_1 hcz18_2 hcz18_3 hcz18_4
           try clear hcz21_0
           try clear hcz22_0 hcz22_1 hcz22_2 hcz22_3 hcz22_4
           try clear hcz25_0
           try clear hcz26_0 hcz26_1 hcz26_2 hcz26_3 hcz26_4
           try clear hcz28_0
           try clear hcz29_0 hcz29_1 hcz29_2 hcz29_3 hcz29_4
           try clear hcz33_0 hcz33_1 hcz33_2 hcz33_3 hcz33_4
           try clear hcz38_0 hcz38_1 hcz38_2 hcz38_3 hcz38_4
           try clear hcz40_0 hcz40_1 hcz40_2 hcz40_3 hcz40_4
           try clear hcz45_0 hcz45_1 hcz45_2 hcz45_3 hcz45_4
           try clear hcz47_0 hcz47_1 hcz47_2 hcz47_3 hcz47_4
           try clear hcz57_0 hcz57_1 hcz57_2 hcz57_3 hcz57_4
           try clear hcz59_0 hcz59_1 hcz59_2 hcz59_3 hcz59_4
           try clear hcz67_0 hcz67_1 hcz67_2 hcz67_3 hcz67_4
           try clear hcz69_0 hcz69_1 hcz69_2 hcz69_3 hcz69_4
           try clear hcz71_0 hcz71_1 hcz71_2 hcz71_3 hcz71_4
           try clear hcz79_0 hcz79_1 hcz79_2 hcz79_3 hcz79_4
           try clear hcz81_0 hcz81_1 hcz81_2 hcz81_3 hcz81_4
           try clear hcz83_0 hcz83_1 hcz83_2 hcz83_3 hcz83_4
           try clear hcz85_0 hcz85_1 hcz85_2 hcz85_3 hcz85_4
           try clear hcz87_0 hcz87_1 hcz87_2 hcz87_3 hcz87_4
           try clear hcz8_0
           try clear hcz91_0 hcz91_1 hcz91_2 hcz91_3 hcz91_4
           try clear hcz94_0 hcz94_1 hcz94_2 hcz94_3 hcz94_4
           try clear hfz107_0 hfz107_1 hfz107_2 hfz107_3 hfz107_4
           try clear hfz109_0 hfz109_1 hfz109_2 hfz109_3 hfz109_4
           try clear hfz13_0
           try clear hfz14_0 hfz14_1 hfz14_2 hfz14_3 hfz14_4
           try clear hfz17_0
           try clear hfz18_0 hfz18_1 hfz18_2 hfz18_3 hfz18_4
           try clear hfz21_0
           try clear hfz22_0 hfz22_1 hfz22_2 hfz22_3 hfz22_4
           try clear hfz25_0
           try clear hfz26_0 hfz26_1 hfz26_2 hfz26_3 hfz26_4
           try clear hfz28_0
           try clear hfz29_0 hfz29_1 hfz29_2 hfz29_3 hfz29_4
           try clear hfz33_0 hfz33_1 hfz33_2 hfz33_3 hfz33_4
           try clear hfz38_0 hfz38_1 hfz38_2 hfz38_3 hfz38_4
           try clear hfz40_0 hfz40_1 hfz40_2 hfz40_3 hfz40_4
           try clear hfz45_0 hfz45_1 hfz45_2 hfz45_3 hfz45_4
           try clear hfz47_0 hfz47_1 hfz47_2 hfz47_3 hfz47_4
           try clear hfz57_0 hfz57_1 hfz57_2 hfz57_3 hfz57_4
           try clear hfz59_0 hfz59_1 hfz59_2 hfz59_3 hfz59_4
           try clear hfz67_0 hfz67_1 hfz67_2 hfz67_3 hfz67_4
           try clear hfz69_0 hfz69_1 hfz69_2 hfz69_3 hfz69_4
           try clear hfz71_0 hfz71_1 hfz71_2 hfz71_3 hfz71_4
           try clear hfz79_0 hfz79_1 hfz79_2 hfz79_3 hfz79_4
           try clear hfz81_0 hfz81_1 hfz81_2 hfz81_3 hfz81_4
           try clear hfz83_0 hfz83_1 hfz83_2 hfz83_3 hfz83_4
           try clear hfz85_0 hfz85_1 hfz85_2 hfz85_3 hfz85_4
           try clear hfz87_0 hfz87_1 hfz87_2 hfz87_3 hfz87_4
           try clear hfz8_0
           try clear hfz91_0 hfz91_1 hfz91_2 hfz91_3 hfz91_4
           try clear hfz94_0 hfz94_1 hfz94_2 hfz94_3 hfz94_4
           try clear hx337_0
           try clear hx339_0
           try clear p337
           try clear p339
           try clear q337
           try clear q339
           obtain ⟨kq, x122_109, rfl, HA, HJ109, BK330, BK331, HB⟩ := hcut
           cases kq with
           | zero => exact absurd HA.out (by simp [impl_isFormed.j5])
           | succ kj109 =>
            have H := HA.out
            clear HA
            simp only [impl_isFormed.j5] at H
            by_cases c112 : x122_109 = true
            ·subst c112
             replace H := (if_pos rfl).symm.trans H
             have H' := Aside0.mk H
             clear H
             go_wp2
             go_meet
             case rel => exact ⟨_, (1), (false), (by first | rfl | (simp; done) | (simp [*]; done)), (by first | rfl | (simp; done) | (simp [*]; done)), H', ⟨by have := HJ2.out; have := HJ47.out; have := HJ59.out; have := HJ71.out; have := HJ109.out; first | omega | exact Nat.le_refl _⟩, ⟨by (with_reducible repeat (first | refine blk_drewN ?_ _ | refine blk_drew ?_ | refine blk_alloc ?_ _)); exact BK330.out⟩, ⟨by (with_reducible repeat (first | refine blk_drewN ?_ _ | refine blk_drew ?_ | refine blk_alloc ?_ _)); exact BK331.out⟩, ⟨bw⟩⟩
            as_aux_lemma =>
            replace c112 := Bool.eq_false_iff.mpr c112
            subst c112
            replace H := (if_neg (show ¬ (false = true) by decide)).symm.trans H
            have HC113 := Aside0.mk H
            clear H
            go_upto_if 125 with (fail)
            go_cut [125] (fun v125 wc => ∃ (kq : Nat) (x125_112 : Bool), v125 = .bool x125_112 ∧ Aside0 (impl_isFormed.j6 kq false a0_0 x125_112 a0_0 a0_1 l0_2 l0_3 l0_4 a1 = some r) ∧ Aside0 (kq ≤ kj109) ∧ Aside0 (wc.heap[gb330]? = some (.cells #[.int .i64 a0_0, .int .i64 a0_1, (.slice A0_2 l0_2.length c0_2), (.slice A0_3 l0_3.length c0_3), (.slice A0_4 l0_4.length c0_4)] 31 (0, 0))) ∧ Aside0 (wc.heap[gb331]? = some (.cells #[.int .i64 a1] 3 (0, 0))) ∧ Bw w wc)
            case first =>
             have H := HC113.out
             clear HC113
             by_cases c114 : a0_0 = 9
             ·rw [if_pos c114] at H
              have c114b0 : (a0_0 == 9) = true := beq_iff_eq.mpr c114
              have c114b1 : (a0_0 != 9) = false := bne_eq_false_iff_eq.mpr c114
              clear c114
              (first | rw [c114b0] | (simp only [i64_w, i32_w]; rw [c114b0]) | skip)
              have H' := Aside0.mk H
              clear H
              go_wp2
              go_meet
              case rel => exact ⟨_, ((a0_0 == 9)), (by first | rfl | (simp; done) | (simp [*]; done)), H', ⟨by have := HJ2.out; have := HJ47.out; have := HJ59.out; have := HJ71.out; have := HJ109.out; first | omega | exact Nat.le_refl _⟩, ⟨by (with_reducible repeat (first | refine blk_drewN ?_ _ | refine blk_drew ?_ | refine blk_alloc ?_ _)); exact BK330.out⟩, ⟨by (with_reducible repeat (first | refine blk_drewN ?_ _ | refine blk_drew ?_ | refine blk_alloc ?_ _)); exact BK331.out⟩, ⟨bw⟩⟩
             rw [if_neg c114] at H
             have c114b0 : (a0_0 == 9) = false := beq_eq_false_iff_ne.mpr c114
             have c114b1 : (a0_0 != 9) = true := bne_iff_ne.mpr c114
             (first | rw [c114b0] | (simp only [i64_w, i32_w]; rw [c114b0]) | skip)
             by_cases c115 : a0_0 = 15
             ·rw [if_pos c115] at H
              have c115b0 : (a0_0 == 15) = true := beq_iff_eq.mpr c115
              have c115b1 : (a0_0 != 15) = false := bne_eq_false_iff_eq.mpr c115
              clear c115
              have H' := Aside0.mk H
              clear H
              go_wp2
              go_meet
              case rel => exact ⟨_, ((a0_0 == 15)), (by first | rfl | (simp; done) | (simp [*]; done)), H', ⟨by have := HJ2.out; have := HJ47.out; have := HJ59.out; have := HJ71.out; have := HJ109.out; first | omega | exact Nat.le_refl _⟩, ⟨by (with_reducible repeat (first | refine blk_drewN ?_ _ | refine blk_drew ?_ | refine blk_alloc ?_ _)); exact BK330.out⟩, ⟨by (with_reducible repeat (first | refine blk_drewN ?_ _ | refine blk_drew ?_ | refine blk_alloc ?_ _)); exact BK331.out⟩, ⟨bw⟩⟩
             rw [if_neg c115] at H
             have c115b0 : (a0_0 == 15) = false := beq_eq_false_iff_ne.mpr c115
             have c115b1 : (a0_0 != 15) = true := bne_iff_ne.mpr c115
             by_cases c116 : a0_0 = 16
             ·rw [if_pos c116] at H
              have c116b0 : (a0_0 == 16) = true := beq_iff_eq.mpr c116
              have c116b1 : (a0_0 != 16) = false := bne_eq_false_iff_eq.mpr c116
              clear c116
              have H' := Aside0.mk H
              clear H
              go_wp2
              go_meet
              case rel => exact ⟨_, ((a0_0 == 16)), (by first | rfl | (simp; done) | (simp [*]; done)), H', ⟨by have := HJ2.out; have := HJ47.out; have := HJ59.out; have := HJ71.out; have := HJ109.out; first | omega | exact Nat.le_refl _⟩, ⟨by (with_reducible repeat (first | refine blk_drewN ?_ _ | refine blk_drew ?_ | refine blk_alloc ?_ _)); exact BK330.out⟩, ⟨by (with_reducible repeat (first | refine blk_drewN ?_ _ | refine blk_drew ?_ | refine blk_alloc ?_ _)); exact BK331.out⟩, ⟨bw⟩⟩
             rw [if_neg c116] at H
             have c116b0 : (a0_0 == 16) = false := beq_eq_false_iff_ne.mpr c116
             have c116b1 : (a0_0 != 16) = true := bne_iff_ne.mpr c116
             by_cases c117 : a0_0 = 17
             ·rw [if_pos c117] at H
              have c117b0 : (a0_0 == 17) = true := beq_iff_eq.mpr c117
              have c117b1 : (a0_0 != 17) = false := bne_eq_false_iff_eq.mpr c117
              clear c117
              have H' := Aside0.mk H
              clear H
              go_wp2
              go_meet
              case rel => exact ⟨_, ((a0_0 == 17)), (by first | rfl | (simp; done) | (simp [*]; done)), H', ⟨by have := HJ2.out; have := HJ47.out; have := HJ59.out; have := HJ71.out; have := HJ109.out; first | omega | exact Nat.le_refl _⟩, ⟨by (with_reducible repeat (first | refine blk_drewN ?_ _ | refine blk_drew ?_ | refine blk_alloc ?_ _)); exact BK330.out⟩, ⟨by (with_reducible repeat (first | refine blk_drewN ?_ _ | refine blk_drew ?_ | refine blk_alloc ?_ _)); exact BK331.out⟩, ⟨bw⟩⟩
             rw [if_neg c117] at H
             have c117b0 : (a0_0 == 17) = false := beq_eq_false_iff_ne.mpr c117
             have c117b1 : (a0_0 != 17) = true := bne_iff_ne.mpr c117
             by_cases c118 : a0_0 = 18
             ·rw [if_pos c118] at H
              have c118b0 : (a0_0 == 18) = true := beq_iff_eq.mpr c118
              have c118b1 : (a0_0 != 18) = false := bne_eq_false_iff_eq.mpr c118
              clear c118
              have H' := Aside0.mk H
              clear H
              go_wp2
              go_meet
              case rel => exact ⟨_, ((a0_0 == 18)), (by first | rfl | (simp; done) | (simp [*]; done)), H', ⟨by have := HJ2.out; have := HJ47.out; have := HJ59.out; have := HJ71.out; have := HJ109.out; first | omega | exact Nat.le_refl _⟩, ⟨by (with_reducible repeat (first | refine blk_drewN ?_ _ | refine blk_drew ?_ | refine blk_alloc ?_ _)); exact BK330.out⟩, ⟨by (with_reducible repeat (first | refine blk_drewN ?_ _ | refine blk_drew ?_ | refine blk_alloc ?_ _)); exact BK331.out⟩, ⟨bw⟩⟩
             rw [if_neg c118] at H
             have c118b0 : (a0_0 == 18) = false := beq_eq_false_iff_ne.mpr c118
             have c118b1 : (a0_0 != 18) = true := bne_iff_ne.mpr c118
             by_cases c119 : a0_0 = 19
             ·rw [if_pos c119] at H
              have c119b0 : (a0_0 == 19) = true := beq_iff_eq.mpr c119
              have c119b1 : (a0_0 != 19) = false := bne_eq_false_iff_eq.mpr c119
              clear c119
              have H' := Aside0.mk H
              clear H
              go_wp2
              go_meet
              case rel => exact ⟨_, ((a0_0 == 19)), (by first | rfl | (simp; done) | (simp [*]; done)), H', ⟨by have := HJ2.out; have := HJ47.out; have := HJ59.out; have := HJ71.out; have := HJ109.out; first | omega | exact Nat.le_refl _⟩, ⟨by (with_reducible repeat (first | refine blk_drewN ?_ _ | refine blk_drew ?_ | refine blk_alloc ?_ _)); exact BK330.out⟩, ⟨by (with_reducible repeat (first | refine blk_drewN ?_ _ | refine blk_drew ?_ | refine blk_alloc ?_ _)); exact BK331.out⟩, ⟨bw⟩⟩
             rw [if_neg c119] at H
             have c119b0 : (a0_0 == 19) = false := beq_eq_false_iff_ne.mpr c119
             have c119b1 : (a0_0 != 19) = true := bne_iff_ne.mpr c119
             by_cases c120 : a0_0 = 20
             ·rw [if_pos c120] at H
              have c120b0 : (a0_0 == 20) = true := beq_iff_eq.mpr c120
              have c120b1 : (a0_0 != 20) = false := bne_eq_false_iff_eq.mpr c120
              clear c120
              have H' := Aside0.mk H
              clear H
              go_wp2
              go_meet
              case rel => exact ⟨_, ((a0_0 == 20)), (by first | rfl | (simp; done) | (simp [*]; done)), H', ⟨by have := HJ2.out; have := HJ47.out; have := HJ59.out; have := HJ71.out; have := HJ109.out; first | omega | exact Nat.le_refl _⟩, ⟨by (with_reducible repeat (first | refine blk_drewN ?_ _ | refine blk_drew ?_ | refine blk_alloc ?_ _)); exact BK330.out⟩, ⟨by (with_reducible repeat (first | refine blk_drewN ?_ _ | refine blk_drew ?_ | refine blk_alloc ?_ _)); exact BK331.out⟩, ⟨bw⟩⟩
             rw [if_neg c120] at H
             have c120b0 : (a0_0 == 20) = false := beq_eq_false_iff_ne.mpr c120
             have c120b1 : (a0_0 != 20) = true := bne_iff_ne.mpr c120
             have H' := Aside0.mk H
             clear H
             go_wp2
             go_meet
             case rel => exact ⟨_, ((a0_0 == 21)), (by first | rfl | (simp; done) | (simp [*]; done)), H', ⟨by have := HJ2.out; have := HJ47.out; have := HJ59.out; have := HJ71.out; have := HJ109.out; first | omega | exact Nat.le_refl _⟩, ⟨by (with_reducible repeat (first | refine blk_drewN ?_ _ | refine blk_drew ?_ | refine blk_alloc ?_ _)); exact BK330.out⟩, ⟨by (with_reducible repeat (first | refine blk_drewN ?_ _ | refine blk_drew ?_ | refine blk_alloc ?_ _)); exact BK331.out⟩, ⟨bw⟩⟩
            case rest =>
             clear HC113
             try clear c6
             try clear c6b0
             try clear c6b1
             try clear c9
             try clear c9b0
             try clear c9b1
             try clear c10
             try clear c10b0
             try clear c10b1
             try clear c11
             try clear c11b0
             try clear c11b1
             try clear c15
             try clear c15b0
             try clear c15b1
             try clear c19
             try clear c19b0
             try clear c19b1
             try clear c23
             try clear c23b0
             try clear c23b1
             try clear c30
             try clear c34
             try clear c34b0
             try clear c34b1
             try clear c36
             try clear c41
             try clear c41b0
             try clear c41b1
             try clear c43
             try clear c49
             try clear c49b0
             try clear c49b1
             try clear c50
             try clear c50b0
             try clear c50b1
             try clear c51
             try clear c51b0
             try clear c51b1
             try clear c52
             try clear c53
             try clear c53b0
             try clear c53b1
             try clear c55
             try clear c61
             try clear c61b0
             try clear c61b1
             try clear c62
             try clear c64
             try clear c65
             try clear c65b0
             try clear c65b1
             try clear c73
             try clear c73b0
             try clear c73b1
             try clear c74
             try clear c76
             try clear c77
             try clear c77b0
             try clear c77b1
             try clear c89
             try clear c89b0
             try clear c89b1
             try clear c92
             try clear c92b0
             try clear c92b1
             try clear c95
             try clear c95b0
             try clear c96
             try clear c96b0
             try clear c97
             try clear c97b0
             try clear c99
             try clear c100
             try clear c100b0
             try clear c102
             try clear c102b0
             try clear c103
             try clear c103b0
             try clear c105
             try clear c105b0
             try clear c111
             try clear c111b0
             try clear c111b1
             try clear c112
             try clear c114
             try clear c114b0
             try clear c114b1
             try clear c115
             try clear c115b0
             try clear c115b1
             try clear c116
             try clear c116b0
             try clear c116b1
             try clear c117
             try clear c117b0
             try clear c117b1
             try clear c118
             try clear c118b0
             try clear c118b1
             try clear c119
             try clear c119b0
             try clear c119b1
             try clear c120
             try clear c120b0
             try clear c120b1
             try clear hcz107_0 hcz107_1 hcz107_2 hcz107_3 hcz107_4
             try clear hcz109_0 hcz109_1 hcz109_2 hcz109_3 hcz109_4
             try clear hcz13_0
             try clear hcz14_0 hcz14_1 hcz14_2 hcz14_3 hcz14_4
             try clear hcz17_0
             try clear hcz18_0 hcz18_1 hcz18_2 hcz18_3 hcz18_4
             try clear hcz21_0
             try clear hcz22_0 hcz22_1 hcz22_2 hcz22_3 hcz22_4
             try clear hcz25_0
             try clear hcz26_0 hcz26_1 hcz26_2 hcz26_3 hcz26_4
             try clear hcz28_0
             try clear hcz29_0 hcz29_1 hcz29_2 hcz29_3 hcz29_4
             try clear hcz33_0 hcz33_1 hcz33_2 hcz33_3 hcz33_4
             try clear hcz38_0 hcz38_1 hcz38_2 hcz38_3 hcz38_4
             try clear hcz40_0 hcz40_1 hcz40_2 hcz40_3 hcz40_4
             try clear hcz45_0 hcz45_1 hcz45_2 hcz45_3 hcz45_4
             try clear hcz47_0 hcz47_1 hcz47_2 hcz47_3 hcz47_4
             try clear hcz57_0 hcz57_1 hcz57_2 hcz57_3 hcz57_4
             try clear hcz59_0 hcz59_1 hcz59_2 hcz59_3 hcz59_4
             try clear hcz67_0 hcz67_1 hcz67_2 hcz67_3 hcz67_4
             try clear hcz69_0 hcz69_1 hcz69_2 hcz69_3 hcz69_4
             try clear hcz71_0 hcz71_1 hcz71_2 hcz71_3 hcz71_4
             try clear hcz79_0 hcz79_1 hcz79_2 hcz79_3 hcz79_4
             try clear hcz81_0 hcz81_1 hcz81_2 hcz81_3 hcz81_4
             try clear hcz83_0 hcz83_1 hcz83_2 hcz83_3 hcz83_4
             try clear hcz85_0 hcz85_1 hcz85_2 hcz85_3 hcz85_4
             try clear hcz87_0 hcz87_1 hcz87_2 hcz87_3 hcz87_4
             try clear hcz8_0
             try clear hcz91_0 hcz91_1 hcz91_2 hcz91_3 hcz91_4
             try clear hcz94_0 hcz94_1 hcz94_2 hcz94_3 hcz94_4
             try clear hfz107_0 hfz107_1 hfz107_2 hfz107_3 hfz107_4
             try clear hfz109_0 hfz109_1 hfz109_2 hfz109_3 hfz109_4
             try clear hfz13_0
             try clear hfz14_0 hfz14_1 hfz14_2 hfz14_3 hfz14_4
             try clear hfz17_0
             try clear hfz18_0 hfz18_1 hfz18_2 hfz18_3 hfz18_4
             try clear hfz21_0
             try clear hfz22_0 hfz22_1 hfz22_2 hfz22_3 hfz22_4
             try clear hfz25_0
             try clear hfz26_0 hfz26_1 hfz26_2 hfz26_3 hfz26_4
             try clear hfz28_0
             try clear hfz29_0 hfz29_1 hfz29_2 hfz29_3 hfz29_4
             try clear hfz33_0 hfz33_1 hfz33_2 hfz33_3 hfz33_4
             try clear hfz38_0 hfz38_1 hfz38_2 hfz38_3 hfz38_4
             try clear hfz40_0 hfz40_1 hfz40_2 hfz40_3 hfz40_4
             try clear hfz45_0 hfz45_1 hfz45_2 hfz45_3 hfz45_4
             try clear hfz47_0 hfz47_1 hfz47_2 hfz47_3 hfz47_4
             try clear hfz57_0 hfz57_1 hfz57_2 hfz57_3 hfz57_4
             try clear hfz59_0 hfz59_1 hfz59_2 hfz59_3 hfz59_4
             try clear hfz67_0 hfz67_1 hfz67_2 hfz67_3 hfz67_4
             try clear hfz69_0 hfz69_1 hfz69_2 hfz69_3 hfz69_4
             try clear hfz71_0 hfz71_1 hfz71_2 hfz71_3 hfz71_4
             try clear hfz79_0 hfz79_1 hfz79_2 hfz79_3 hfz79_4
             try clear hfz81_0 hfz81_1 hfz81_2 hfz81_3 hfz81_4
             try clear hfz83_0 hfz83_1 hfz83_2 hfz83_3 hfz83_4
             try clear hfz85_0 hfz85_1 hfz85_2 hfz85_3 hfz85_4
             try clear hfz87_0 hfz87_1 hfz87_2 hfz87_3 hfz87_4
             try clear hfz8_0
             try clear hfz91_0 hfz91_1 hfz91_2 hfz91_3 hfz91_4
             try clear hfz94_0 hfz94_1 hfz94_2 hfz94_3 hfz94_4
             try clear hx337_0
             try clear hx339_0
             try clear p337
             try clear p339
             try clear q337
             try clear q339
             obtain ⟨kq, x125_112, rfl, HA, HJ112, BK330, BK331, HB⟩ := hcut
             cases kq with
             | zero => exact absurd HA.out (by simp [impl_isFormed.j6])
             | succ kj112 =>
              have H := HA.out
              clear HA
              simp only [impl_isFormed.j6] at H
              by_cases c121 : x125_112 = true
              ·subst c121
               replace H := (if_pos rfl).symm.trans H
               have H' := Aside0.mk H
               clear H
               go_wp2
               go_meet
               case rel => exact ⟨_, (2), (false), (by first | rfl | (simp; done) | (simp [*]; done)), (by first | rfl | (simp; done) | (simp [*]; done)), H', ⟨by have := HJ2.out; have := HJ47.out; have := HJ59.out; have := HJ71.out; have := HJ109.out; have := HJ112.out; first | omega | exact Nat.le_refl _⟩, ⟨by (with_reducible repeat (first | refine blk_drewN ?_ _ | refine blk_drew ?_ | refine blk_alloc ?_ _)); exact BK330.out⟩, ⟨by (with_reducible repeat (first | refine blk_drewN ?_ _ | refine blk_drew ?_ | refine blk_alloc ?_ _)); exact BK331.out⟩, ⟨bw⟩⟩
              replace c121 := Bool.eq_false_iff.mpr c121
              subst c121
              replace H := (if_neg (show ¬ (false = true) by decide)).symm.trans H
              by_cases c122 : a0_0 = 22
              ·rw [if_pos c122] at H
               have c122b0 : (a0_0 == 22) = true := beq_iff_eq.mpr c122
               have c122b1 : (a0_0 != 22) = false := bne_eq_false_iff_eq.mpr c122
               clear c122
               have H' := Aside0.mk H
               clear H
               go_wp2
               go_meet
               case rel => exact ⟨_, (3), (false), (by first | rfl | (simp; done) | (simp [*]; done)), (by first | rfl | (simp; done) | (simp [*]; done)), H', ⟨by have := HJ2.out; have := HJ47.out; have := HJ59.out; have := HJ71.out; have := HJ109.out; have := HJ112.out; first | omega | exact Nat.le_refl _⟩, ⟨by (with_reducible repeat (first | refine blk_drewN ?_ _ | refine blk_drew ?_ | refine blk_alloc ?_ _)); exact BK330.out⟩, ⟨by (with_reducible repeat (first | refine blk_drewN ?_ _ | refine blk_drew ?_ | refine blk_alloc ?_ _)); exact BK331.out⟩, ⟨bw⟩⟩
              rw [if_neg c122] at H
              have c122b0 : (a0_0 == 22) = false := beq_eq_false_iff_ne.mpr c122
              have c122b1 : (a0_0 != 22) = true := bne_iff_ne.mpr c122
              obtain rfl := Option.some.inj H
              go_wp2
              go_ret
              exact ⟨by first | rfl | (simp [errW_none, errW_some] <;> rfl) | (simp [*, errW_none, errW_some] <;> rfl), bw⟩
   case rest =>
    as_aux_lemma =>
    clear HC31
    try clear c6
    try clear c6b0
    try clear c6b1
    try clear c9
    try clear c9b0
    try clear c9b1
    try clear c10
    try clear c10b0
    try clear c10b1
    try clear c11
    try clear c11b0
    try clear c11b1
    try clear c15
    try clear c15b0
    try clear c15b1
    try clear c19
    try clear c19b0
    try clear c19b1
    try clear c23
    try clear c23b0
    try clear c23b1
    try clear c30
    try clear c34
    try clear c34b0
    try clear c34b1
    try clear c36
    try clear c41
    try clear c41b0
    try clear c41b1
    try clear c43
    try clear c49
    try clear c49b0
    try clear c49b1
    try clear c50
    try clear c50b0
    try clear c50b1
    try clear c51
    try clear c51b0
    try clear c51b1
    try clear c52
    try clear c53
    try clear c53b0
    try clear c53b1
    try clear c55
    try clear c61
    try clear c61b0
    try clear c61b1
    try clear c62
    try clear c64
    try clear c65
    try clear c65b0
    try clear c65b1
    try clear c73
    try clear c73b0
    try clear c73b1
    try clear c74
    try clear c76
    try clear c77
    try clear c77b0
    try clear c77b1
    try clear c89
    try clear c89b0
    try clear c89b1
    try clear c92
    try clear c92b0
    try clear c92b1
    try clear c95
    try clear c95b0
    try clear c96
    try clear c96b0
    try clear c97
    try clear c97b0
    try clear c99
    try clear c100
    try clear c100b0
    try clear c102
    try clear c102b0
    try clear c103
    try clear c103b0
    try clear c105
    try clear c105b0
    try clear c111
    try clear c111b0
    try clear c111b1
    try clear c112
    try clear c114
    try clear c114b0
    try clear c114b1
    try clear c115
    try clear c115b0
    try clear c115b1
    try clear c116
    try clear c116b0
    try clear c116b1
    try clear c117
    try clear c117b0
    try clear c117b1
    try clear c118
    try clear c118b0
    try clear c118b1
    try clear c119
    try clear c119b0
    try clear c119b1
    try clear c120
    try clear c120b0
    try clear c120b1
    try clear c121
    try clear c122
    try clear c122b0
    try clear c122b1
    try clear hcz107_0 hcz107_1 hcz107_2 hcz107_3 hcz107_4
    try clear hcz109_0 hcz109_1 hcz109_2 hcz109_3 hcz109_4
    try clear hcz13_0
    try clear hcz14_0 hcz14_1 hcz14_2 hcz14_3 hcz14_4
    try clear hcz17_0
    try clear hcz18_0 hcz18_1 hcz18_2 hcz18_3 hcz18_4
    try clear hcz21_0
    try clear hcz22_0 hcz22_1 hcz22_2 hcz22_3 hcz22_4
    try clear hcz25_0
    try clear hcz26_0 hcz26_1 hcz26_2 hcz26_3 hcz26_4
    try clear hcz28_0
    try clear hcz29_0 hcz29_1 hcz29_2 hcz29_3 hcz29_4
    try clear hcz33_0 hcz33_1 hcz33_2 hcz33_3 hcz33_4
    try clear hcz38_0 hcz38_1 hcz38_2 hcz38_3 hcz38_4
    try clear hcz40_0 hcz40_1 hcz40_2 hcz40_3 hcz40_4
    try clear hcz45_0 hcz45_1 hcz45_2 hcz45_3 hcz45_4
    try clear hcz47_0 hcz47_1 hcz47_2 hcz47_3 hcz47_4
    try clear hcz57_0 hcz57_1 hcz57_2 hcz57_3 hcz57_4
    try clear hcz59_0 hcz59_1 hcz59_2 hcz59_3 hcz59_4
    try clear hcz67_0 hcz67_1 hcz67_2 hcz67_3 hcz67_4
    try clear hcz69_0 hcz69_1 hcz69_2 hcz69_3 hcz69_4
    try clear hcz71_0 hcz71_1 hcz71_2 hcz71_3 hcz71_4
    try clear hcz79_0 hcz79_1 hcz79_2 hcz79_3 hcz79_4
    try clear hcz81_0 hcz81_1 hcz81_2 hcz81_3 hcz81_4
    try clear hcz83_0 hcz83_1 hcz83_2 hcz83_3 hcz83_4
    try clear hcz85_0 hcz85_1 hcz85_2 hcz85_3 hcz85_4
    try clear hcz87_0 hcz87_1 hcz87_2 hcz87_3 hcz87_4
    try clear hcz8_0
    try clear hcz91_0 hcz91_1 hcz91_2 hcz91_3 hcz91_4
    try clear hcz94_0 hcz94_1 hcz94_2 hcz94_3 hcz94_4
    try clear hfz107_0 hfz107_1 hfz107_2 hfz107_3 hfz107_4
    try clear hfz109_0 hfz109_1 hfz109_2 hfz109_3 hfz109_4
    try clear hfz13_0
    try clear hfz14_0 hfz14_1 hfz14_2 hfz14_3 hfz14_4
    try clear hfz17_0
    try clear hfz18_0 hfz18_1 hfz18_2 hfz18_3 hfz18_4
    try clear hfz21_0
    try clear hfz22_0 hfz22_1 hfz22_2 hfz22_3 hfz22_4
    try clear hfz25_0
    try clear hfz26_0 hfz26_1 hfz26_2 hfz26_3 hfz26_4
    try clear hfz28_0
    try clear hfz29_0 hfz29_1 hfz29_2 hfz29_3 hfz29_4
    try clear hfz33_0 hfz33_1 hfz33_2 hfz33_3 hfz33_4
    try clear hfz38_0 hfz38_1 hfz38_2 hfz38_3 hfz38_4
    try clear hfz40_0 hfz40_1 hfz40_2 hfz40_3 hfz40_4
    try clear hfz45_0 hfz45_1 hfz45_2 hfz45_3 hfz45_4
    try clear hfz47_0 hfz47_1 hfz47_2 hfz47_3 hfz47_4
    try clear hfz57_0 hfz57_1 hfz57_2 hfz57_3 hfz57_4
    try clear hfz59_0 hfz59_1 hfz59_2 hfz59_3 hfz59_4
    try clear hfz67_0 hfz67_1 hfz67_2 hfz67_3 hfz67_4
    try clear hfz69_0 hfz69_1 hfz69_2 hfz69_3 hfz69_4
    try clear hfz71_0 hfz71_1 hfz71_2 hfz71_3 hfz71_4
    try clear hfz79_0 hfz79_1 hfz79_2 hfz79_3 hfz79_4
    try clear hfz81_0 hfz81_1 hfz81_2 hfz81_3 hfz81_4
    try clear hfz83_0 hfz83_1 hfz83_2 hfz83_3 hfz83_4
    try clear hfz85_0 hfz85_1 hfz85_2 hfz85_3 hfz85_4
    try clear hfz87_0 hfz87_1 hfz87_2 hfz87_3 hfz87_4
    try clear hfz8_0
    try clear hfz91_0 hfz91_1 hfz91_2 hfz91_3 hfz91_4
    try clear hfz94_0 hfz94_1 hfz94_2 hfz94_3 hfz94_4
    try clear hx337_0
    try clear hx339_0
    try clear p337
    try clear p339
    try clear q337
    try clear q339
    obtain ⟨kq, x5_30, x6_30, rfl, rfl, HA, HJ30, BK330, BK331, HB⟩ := hcut
    cases kq with
    | zero => exact absurd HA.out (by simp [impl_isFormed.j7])
    | succ kj30 =>
     have H := HA.out
     clear HA
     simp only [impl_isFormed.j7] at H
     have HC123 := Aside0.mk H
     clear H
     go_upto_region 58 with (fail)
     go_cut [154] (fun v154 wc => ∃ (kq : Nat) (x154_122 : Bool), v154 = .bool x154_122 ∧ Aside0 (impl_isFormed.j8 kq x154_122 a0_0 a0_1 l0_2 l0_3 l0_4 a1 = some r) ∧ Aside0 (kq ≤ kj30) ∧ Aside0 (wc.heap[gb330]? = some (.cells #[.int .i64 a0_0, .int .i64 a0_1, (.slice A0_2 l0_2.length c0_2), (.slice A0_3 l0_3.length c0_3), (.slice A0_4 l0_4.length c0_4)] 31 (0, 0))) ∧ Aside0 (wc.heap[gb331]? = some (.cells #[.int .i64 a1] 3 (0, 0))) ∧ Bw w wc)
     case first =>
      have H := HC123.out
      clear HC123
      by_cases c124 : x6_30 = true
      ·subst c124
       replace H := (if_pos rfl).symm.trans H
       by_cases c125 : (l0_4.length : Int) = x5_30
       ·rw [if_pos c125] at H
        have c125b0 : ((l0_4.length : Int) == x5_30) = true := beq_iff_eq.mpr c125
        have c125b1 : ((l0_4.length : Int) != x5_30) = false := bne_eq_false_iff_eq.mpr c125
        clear c125
        (first | rw [c125b0] | (simp only [i64_w, i32_w]; rw [c125b0]) | skip)
        have H' := Aside0.mk H
        clear H
        have hnb126 := NB330_331.out
        have hnc126 := NB331_330.out
        obtain ⟨hcz127_0, hcz127_1, hcz127_2, hcz127_3, hcz127_4, hfz127_0, hfz127_1, hfz127_2, hfz127_3, hfz127_4⟩ := blk5 BK330.out
        go_wp2
        go_meet
        case rel => exact ⟨_, (decide (x5_30 > 150)), (by first | rfl | (simp; done) | (simp [*]; done)), H', ⟨by have := HJ2.out; have := HJ30.out; first | omega | exact Nat.le_refl _⟩, ⟨by (with_reducible repeat (first | refine blk_drewN ?_ _ | refine blk_drew ?_ | refine blk_alloc ?_ _)); exact BK330.out⟩, ⟨by (with_reducible repeat (first | refine blk_drewN ?_ _ | refine blk_drew ?_ | refine blk_alloc ?_ _)); exact BK331.out⟩, ⟨bw⟩⟩
       rw [if_neg c125] at H
       have c125b0 : ((l0_4.length : Int) == x5_30) = false := beq_eq_false_iff_ne.mpr c125
       have c125b1 : ((l0_4.length : Int) != x5_30) = true := bne_iff_ne.mpr c125
       (first | rw [c125b0] | (simp only [i64_w, i32_w]; rw [c125b0]) | skip)
       have H' := Aside0.mk H
       clear H
       have hnb128 := NB330_331.out
       have hnc128 := NB331_330.out
       obtain ⟨hcz129_0, hcz129_1, hcz129_2, hcz129_3, hcz129_4, hfz129_0, hfz129_1, hfz129_2, hfz129_3, hfz129_4⟩ := blk5 BK330.out
       go_wp2
       go_meet
       case rel => exact ⟨_, (true), (by first | rfl | (simp; done) | (simp [*]; done)), H', ⟨by have := HJ2.out; have := HJ30.out; first | omega | exact Nat.le_refl _⟩, ⟨by (with_reducible repeat (first | refine blk_drewN ?_ _ | refine blk_drew ?_ | refine blk_alloc ?_ _)); exact BK330.out⟩, ⟨by (with_reducible repeat (first | refine blk_drewN ?_ _ | refine blk_drew ?_ | refine blk_alloc ?_ _)); exact BK331.out⟩, ⟨bw⟩⟩
      replace c124 := Bool.eq_false_iff.mpr c124
      subst c124
      replace H := (if_neg (show ¬ (false = true) by decide)).symm.trans H
      by_cases c130 : (l0_2.length : Int) > 0
      ·rw [if_pos c130] at H
       have c130b0 : decide (0 < (l0_2.length : Int)) = true := decide_eq_true c130
       have c130b1 : decide (0 < l0_2.length) = true := decide_eq_true (by omega)
       clear c130
       have H' := Aside0.mk H
       clear H
       have hnb131 := NB330_331.out
       have hnc131 := NB331_330.out
       obtain ⟨hcz132_0, hcz132_1, hcz132_2, hcz132_3, hcz132_4, hfz132_0, hfz132_1, hfz132_2, hfz132_3, hfz132_4⟩ := blk5 BK330.out
       go_wp2
       go_meet
       case rel => exact ⟨_, (true), (by first | rfl | (simp; done) | (simp [*]; done)), H', ⟨by have := HJ2.out; have := HJ30.out; first | omega | exact Nat.le_refl _⟩, ⟨by (with_reducible repeat (first | refine blk_drewN ?_ _ | refine blk_drew ?_ | refine blk_alloc ?_ _)); exact BK330.out⟩, ⟨by (with_reducible repeat (first | refine blk_drewN ?_ _ | refine blk_drew ?_ | refine blk_alloc ?_ _)); exact BK331.out⟩, ⟨bw⟩⟩
      rw [if_neg c130] at H
      have c130b0 : decide (0 < (l0_2.length : Int)) = false := decide_eq_false c130
      have c130b1 : decide (0 < l0_2.length) = false := decide_eq_false (by omega)
      clear c130
      by_cases c133 : (l0_4.length : Int) = x5_30
      ·rw [if_pos c133] at H
       have c133b0 : ((l0_4.length : Int) == x5_30) = true := beq_iff_eq.mpr c133
       have c133b1 : ((l0_4.length : Int) != x5_30) = false := bne_eq_false_iff_eq.mpr c133
       clear c133
       have H' := Aside0.mk H
       clear H
       have hnb134 := NB330_331.out
       have hnc134 := NB331_330.out
       obtain ⟨hcz135_0, hcz135_1, hcz135_2, hcz135_3, hcz135_4, hfz135_0, hfz135_1, hfz135_2, hfz135_3, hfz135_4⟩ := blk5 BK330.out
       go_wp2
       go_meet
       case rel => exact ⟨_, (decide (x5_30 > 150)), (by first | rfl | (simp; done) | (simp [*]; done)), H', ⟨by have := HJ2.out; have := HJ30.out; first | omega | exact Nat.le_refl _⟩, ⟨by (with_reducible repeat (first | refine blk_drewN ?_ _ | refine blk_drew ?_ | refine blk_alloc ?_ _)); exact BK330.out⟩, ⟨by (with_reducible repeat (first | refine blk_drewN ?_ _ | refine blk_drew ?_ | refine blk_alloc ?_ _)); exact BK331.out⟩, ⟨bw⟩⟩
      rw [if_neg c133] at H
      have c133b0 : ((l0_4.length : Int) == x5_30) = false := beq_eq_false_iff_ne.mpr c133
      have c133b1 : ((l0_4.length : Int) != x5_30) = true := bne_iff_ne.mpr c133
      have H' := Aside0.mk H
      clear H
      have hnb136 := NB330_331.out
      have hnc136 := NB331_330.out
      obtain ⟨hcz137_0, hcz137_1, hcz137_2, hcz137_3, hcz137_4, hfz137_0, hfz137_1, hfz137_2, hfz137_3, hfz137_4⟩ := blk5 BK330.out
      go_wp2
      go_meet
      case rel => exact ⟨_, (true), (by first | rfl | (simp; done) | (simp [*]; done)), H', ⟨by have := HJ2.out; have := HJ30.out; first | omega | exact Nat.le_refl _⟩, ⟨by (with_reducible repeat (first | refine blk_drewN ?_ _ | refine blk_drew ?_ | refine blk_alloc ?_ _)); exact BK330.out⟩, ⟨by (with_reducible repeat (first | refine blk_drewN ?_ _ | refine blk_drew ?_ | refine blk_alloc ?_ _)); exact BK331.out⟩, ⟨bw⟩⟩
     case rest =>
      clear HC123
      try clear c6
      try clear c6b0
      try clear c6b1
      try clear c9
      try clear c9b0
      try clear c9b1
      try clear c10
      try clear c10b0
      try clear c10b1
      try clear c11
      try clear c11b0
      try clear c11b1
      try clear c15
      try clear c15b0
      try clear c15b1
      try clear c19
      try clear c19b0
      try clear c19b1
      try clear c23
      try clear c23b0
      try clear c23b1
      try clear c30
      try clear c34
      try clear c34b0
      try clear c34b1
      try clear c36
      try clear c41
      try clear c41b0
      try clear c41b1
      try clear c43
      try clear c49
      try clear c49b0
      try clear c49b1
      try clear c50
      try clear c50b0
      try clear c50b1
      try clear c51
      try clear c51b0
      try clear c51b1
      try clear c52
      try clear c53
      try clear c53b0
      try clear c53b1
      try clear c55
      try clear c61
      try clear c61b0
      try clear c61b1
      try clear c62
      try clear c64
      try clear c65
      try clear c65b0
      try clear c65b1
      try clear c73
      try clear c73b0
      try clear c73b1
      try clear c74
      try clear c76
      try clear c77
      try clear c77b0
      try clear c77b1
      try clear c89
      try clear c89b0
      try clear c89b1
      try clear c92
      try clear c92b0
      try clear c92b1
      try clear c95
      try clear c95b0
      try clear c96
      try clear c96b0
      try clear c97
      try clear c97b0
      try clear c99
      try clear c100
      try clear c100b0
      try clear c102
      try clear c102b0
      try clear c103
      try clear c103b0
      try clear c105
      try clear c105b0
      try clear c111
      try clear c111b0
      try clear c111b1
      try clear c112
      try clear c114
      try clear c114b0
      try clear c114b1
      try clear c115
      try clear c115b0
      try clear c115b1
      try clear c116
      try clear c116b0
      try clear c116b1
      try clear c117
      try clear c117b0
      try clear c117b1
      try clear c118
      try clear c118b0
      try clear c118b1
      try clear c119
      try clear c119b0
      try clear c119b1
      try clear c120
      try clear c120b0
      try clear c120b1
      try clear c121
      try clear c122
      try clear c122b0
      try clear c122b1
      try clear c124
      try clear c125
      try clear c125b0
      try clear c125b1
      try clear c130
      try clear c130b0
      try clear c130b1
      try clear c133
      try clear c133b0
      try clear c133b1
      try clear hcz107_0 hcz107_1 hcz107_2 hcz107_3 hcz107_4
      try clear hcz109_0 hcz109_1 hcz109_2 hcz109_3 hcz109_4
      try clear hcz127_0 hcz127_1 hcz127_2 hcz127_3 hcz127_4
      try clear hcz129_0 hcz129_1 hcz129_2 hcz129_3 hcz129_4
      try clear hcz132_0 hcz132_1 hcz132_2 hcz132_3 hcz132_4
      try clear hcz135_0 hcz135_1 hcz135_2 hcz135_3 hcz135_4
      try clear hcz137_0 hcz137_1 hcz137_2 hcz137_3 hcz137_4
      try clear hcz13_0
      try clear hcz14_0 hcz14_1 hcz14_2 hcz14_3 hcz14_4
      try clear hcz17_0
      try clear hcz18_0 hcz18_1 hcz18_2 hcz18_3 hcz18_4
      try clear hcz21_0
      try clear hcz22_0 hcz22_1 hcz22_2 hcz22_3 hcz22_4
      try clear hcz25_0
      try clear hcz26_0 hcz26_1 hcz26_2 hcz26_3 hcz26_4
      try clear hcz28_0
      try clear hcz29_0 hcz29_1 hcz29_2 hcz29_3 hcz29_4
      try clear hcz33_0 hcz33_1 hcz33_2 hcz33_3 hcz33_4
      try clear hcz38_0 hcz38_1 hcz38_2 hcz38_3 hcz38_4
      try clear hcz40_0 hcz40_1 hcz40_2 hcz40_3 hcz40_4
      try clear hcz45_0 hcz45_1 hcz45_2 hcz45_3 hcz45_4
      try clear hcz47_0 hcz47_1 hcz47_2 hcz47_3 hcz47_4
      try clear hcz57_0 hcz57_1 hcz57_2 hcz57_3 hcz57_4
      try clear hcz59_0 hcz59_1 hcz59_2 hcz59_3 hcz59_4
      try clear hcz67_0 hcz67_1 hcz67_2 hcz67_3 hcz67_4
      try clear hcz69_0 hcz69_1 hcz69_2 hcz69_3 hcz69_4
      try clear hcz71_0 hcz71_1 hcz71_2 hcz71_3 hcz71_4
      try clear hcz79_0 hcz79_1 hcz79_2 hcz79_3 hcz79_4
      try clear hcz81_0 hcz81_1 hcz81_2 hcz81_3 hcz81_4
      try clear hcz83_0 hcz83_1 hcz83_2 hcz83_3 hcz83_4
      try clear hcz85_0 hcz85_1 hcz85_2 hcz85_3 hcz85_4
      try clear hcz87_0 hcz87_1 hcz87_2 hcz87_3 hcz87_4
      try clear hcz8_0
      try clear hcz91_0 hcz91_1 hcz91_2 hcz91_3 hcz91_4
      try clear hcz94_0 hcz94_1 hcz94_2 hcz94_3 hcz94_4
      try clear hfz107_0 hfz107_1 hfz107_2 hfz107_3 hfz107_4
      try clear hfz109_0 hfz109_1 hfz109_2 hfz109_3 hfz109_4
      try clear hfz127_0 hfz127_1 hfz127_2 hfz127_3 hfz127_4
      try clear hfz129_0 hfz129_1 hfz129_2 hfz129_3 hfz129_4
      try clear hfz132_0 hfz132_1 hfz132_2 hfz132_3 hfz132_4
      try clear hfz135_0 hfz135_1 hfz135_2 hfz135_3 hfz135_4
      try clear hfz137_0 hfz137_1 hfz137_2 hfz137_3 hfz137_4
      try clear hfz13_0
      try clear hfz14_0 hfz14_1 hfz14_2 hfz14_3 hfz14_4
      try clear hfz17_0
      try clear hfz18_0 hfz18_1 hfz18_2 hfz18_3 hfz18_4
      try clear hfz21_0
      try clear hfz22_0 hfz22_1 hfz22_2 hfz22_3 hfz22_4
      try clear hfz25_0
      try clear hfz26_0 hfz26_1 hfz26_2 hfz26_3 hfz26_4
      try clear hfz28_0
      try clear hfz29_0 hfz29_1 hfz29_2 hfz29_3 hfz29_4
      try clear hfz33_0 hfz33_1 hfz33_2 hfz33_3 hfz33_4
      try clear hfz38_0 hfz38_1 hfz38_2 hfz38_3 hfz38_4
      try clear hfz40_0 hfz40_1 hfz40_2 hfz40_3 hfz40_4
      try clear hfz45_0 hfz45_1 hfz45_2 hfz45_3 hfz45_4
      try clear hfz47_0 hfz47_1 hfz47_2 hfz47_3 hfz47_4
      try clear hfz57_0 hfz57_1 hfz57_2 hfz57_3 hfz57_4
      try clear hfz59_0 hfz59_1 hfz59_2 hfz59_3 hfz59_4
      try clear hfz67_0 hfz67_1 hfz67_2 hfz67_3 hfz67_4
      try clear hfz69_0 hfz69_1 hfz69_2 hfz69_3 hfz69_4
      try clear hfz71_0 hfz71_1 hfz71_2 hfz71_3 hfz71_4
      try clear hfz79_0 hfz79_1 hfz79_2 hfz79_3 hfz79_4
      try clear hfz81_0 hfz81_1 hfz81_2 hfz81_3 hfz81_4
      try clear hfz83_0 hfz83_1 hfz83_2 hfz83_3 hfz83_4
      try clear hfz85_0 hfz85_1 hfz85_2 hfz85_3 hfz85_4
      try clear hfz87_0 hfz87_1 hfz87_2 hfz87_3 hfz87_4
      try clear hfz8_0
      try clear hfz91_0 hfz91_1 hfz91_2 hfz91_3 hfz91_4
      try clear hfz94_0 hfz94_1 hfz94_2 hfz94_3 hfz94_4
      try clear hx337_0
      try clear hx339_0
      try clear p337
      try clear p339
      try clear q337
      try clear q339
      obtain ⟨kq, x154_122, rfl, HA, HJ122, BK330, BK331, HB⟩ := hcut
      cases kq with
      | zero => exact absurd HA.out (by simp [impl_isFormed.j8])
      | succ kj122 =>
       have H := HA.out
       clear HA
       simp only [impl_isFormed.j8] at H
       by_cases c138 : x154_122 = true
       ·subst c138
        replace H := (if_pos rfl).symm.trans H
        obtain rfl := Option.some.inj H
        go_wp2
        go_ret
        exact ⟨by first | rfl | (simp [errW_none, errW_some] <;> rfl) | (simp [*, errW_none, errW_some] <;> rfl), bw⟩
       replace c138 := Bool.eq_false_iff.mpr c138
       subst c138
       replace H := (if_neg (show ¬ (false = true) by decide)).symm.trans H
       replace H := Option.bind_eq_some_iff.mp H
       obtain ⟨t341, A1390, H⟩ := H
       have A139 := Aside0.mk A1390
       clear A1390
       obtain rfl := Option.some.inj H
       have hnb140 := NB330_331.out
       have hnc140 := NB331_330.out
       obtain ⟨hcz141_0, hcz141_1, hcz141_2, hcz141_3, hcz141_4, hfz141_0, hfz141_1, hfz141_2, hfz141_3, hfz141_4⟩ := blk5 BK330.out
       obtain ⟨hcz142_0, hfz142_0⟩ := blk1 BK331.out
       go_wp2_with (first | ((with_reducible refine gate_callee (f := 121) rfl ?_); refine goesL_ (some 158) rfl rfl Try.func121 (by kernel_rfl) rfl #[.slice A0_4 l0_4.length c0_4, .func (.func 122) #[] #[.pointer (some ⟨gb331, 0, none⟩)]] rfl (by (try simp only [List.map_toArray, List.map_cons, List.map_nil]); first | done | rfl | (simp only [List.length_drop, List.length_take]; rfl)) ?_; (with_reducible refine (ih_x_ContainsFunc_at_impl_isFormed_1 kj122 (by have := HJ2.out; have := HJ30.out; have := HJ122.out; omega) _ _ l0_4 a1 gb331 t341 _ ?side1 ?side2 ?sidebl A139.out).mono ?_); (case sidebl => exact (blk_cell (by (with_reducible repeat (first | refine blk_drewN ?_ _ | refine blk_drew ?_ | refine blk_alloc ?_ _)); exact BK331.out) 0).trans rfl); (case side1 => repeat (first | exact (Kd.C_below HR0_4.out HB.out) | (with_reducible refine Kd.C_alloc ?_ _) | (with_reducible refine Kd.C_drewN ?_ _) | (with_reducible refine Kd.C_drew ?_))); (case side2 => exact HC0_4.out); rintro e w143 ⟨rfl, hb⟩; refine ⟨_, rfl, ?_⟩; replace BK330 := Aside0.mk (blk_below (g := gb330) (o := .cells #[.int .i64 a0_0, .int .i64 a0_1, .slice A0_2 l0_2.length c0_2, .slice A0_3 l0_3.length c0_3, .slice A0_4 l0_4.length c0_4] 31 (0, 0)) (by (with_reducible repeat (first | refine blk_drewN ?_ _ | refine blk_drew ?_ | refine blk_alloc ?_ _)); exact BK330.out) hb); replace BK331 := Aside0.mk (blk_below (g := gb331) (o := .cells #[.int .i64 a1] 3 (0, 0)) (by (with_reducible repeat (first | refine blk_drewN ?_ _ | refine blk_drew ?_ | refine blk_alloc ?_ _)); exact BK331.out) hb); replace HB := (Bw.sw w hb); (try clear hb)))
       go_ret
       exact ⟨by first | rfl | (simp [errW_none, errW_some] <;> rfl) | (simp [*, errW_none, errW_some] <;> rfl), bw⟩
theorem impl_isFormed.all : ∀ k, (∀ (a0_0 : Int) (a0_1 : Int) (A0_2 : Option Addr) (c0_2 : Nat) (l0_2 : List Int) (A0_3 : Option Addr) (c0_3 : Nat) (l0_3 : List (List Int)) (A0_4 : Option Addr) (c0_4 : Nat) (l0_4 : List (S31)) (a1 : Int) (bl : Nat) (r : Bool) (w : World) (hr0_2 : Kd.C (Kd.int .u8) w A0_2 l0_2.length l0_2) (hc0_2 : l0_2.length ≤ c0_2) (hr0_3 : Kd.C (Kd.slice 5 (Kd.int .u8)) w A0_3 l0_3.length l0_3) (hc0_3 : l0_3.length ≤ c0_3) (hr0_4 : Kd.C k31 w A0_4 l0_4.length l0_4) (hc0_4 : l0_4.length ≤ c0_4) (hbl : w.cell? ⟨bl, 0, none⟩ = some (.int .i64 a1)) (h : impl_isFormed_1.f k a0_0 a0_1 l0_2 l0_3 l0_4 a1 = some r),
  Calls Try.prog 122 #[.agg #[.int .i64 a0_0, .int .i64 a0_1, .slice A0_2 l0_2.length c0_2, .slice A0_3 l0_3.length c0_3, .slice A0_4 l0_4.length c0_4], .pointer (some ⟨bl, 0, none⟩)] w fun e w' => e = .returned (.bool r) ∧ Below w.heap.size w w') ∧ (∀ (A0 : Option Addr) (c0 : Nat) (l0 : List (S31)) (a1 : Int) (bl : Nat) (r : Int) (w : World) (hr0 : Kd.C k31 w A0 l0.length l0) (hc0 : l0.length ≤ c0) (hbl : w.cell? ⟨bl, 0, none⟩ = some (.int .i64 a1)) (h : x_IndexFunc_at_impl_isFormed_1.f k l0 a1 = some r),
  Calls Try.prog 146 #[.slice A0 l0.length c0, .func (.func 122) #[] #[.pointer (some ⟨bl, 0, none⟩)]] w fun e w' => e = .returned (.int .i64 r) ∧ Below w.heap.size w w') ∧ (∀ (A0 : Option Addr) (c0 : Nat) (l0 : List (S31)) (a1 : Int) (bl : Nat) (r : Bool) (w : World) (hr0 : Kd.C k31 w A0 l0.length l0) (hc0 : l0.length ≤ c0) (hbl : w.cell? ⟨bl, 0, none⟩ = some (.int .i64 a1)) (h : x_ContainsFunc_at_impl_isFormed_1.f k l0 a1 = some r),
  Calls Try.prog 121 #[.slice A0 l0.length c0, .func (.func 122) #[] #[.pointer (some ⟨bl, 0, none⟩)]] w fun e w' => e = .returned (.bool r) ∧ Below w.heap.size w w') ∧ (∀ (a0_0 : Int) (a0_1 : Int) (A0_2 : Option Addr) (c0_2 : Nat) (l0_2 : List Int) (A0_3 : Option Addr) (c0_3 : Nat) (l0_3 : List (List Int)) (A0_4 : Option Addr) (c0_4 : Nat) (l0_4 : List (S31)) (a1 : Int) (r : Bool) (w : World) (hr0_2 : Kd.C (Kd.int .u8) w A0_2 l0_2.length l0_2) (hc0_2 : l0_2.length ≤ c0_2) (hr0_3 : Kd.C (Kd.slice 5 (Kd.int .u8)) w A0_3 l0_3.length l0_3) (hc0_3 : l0_3.length ≤ c0_3) (hr0_4 : Kd.C k31 w A0_4 l0_4.length l0_4) (hc0_4 : l0_4.length ≤ c0_4) (h : impl_isFormed.f k a0_0 a0_1 l0_2 l0_3 l0_4 a1 = some r),
  Calls Try.prog 81 #[.agg #[.int .i64 a0_0, .int .i64 a0_1, .slice A0_2 l0_2.length c0_2, .slice A0_3 l0_3.length c0_3, .slice A0_4 l0_4.length c0_4], .int .i64 a1] w fun e w' => e = .returned (.bool r) ∧ Below w.heap.size w w') := by
 intro k
 induction k using Nat.strongRecOn with
 | _ k ih =>
 refine ⟨?_, ?_, ?_, ?_⟩
 ·exact impl_isFormed_1.step k (fun j hj => (ih j hj).1) (fun j hj => (ih j hj).2.1) (fun j hj => (ih j hj).2.2.1) (fun j hj => (ih j hj).2.2.2)
 ·exact x_IndexFunc_at_impl_isFormed_1.step k (fun j hj => (ih j hj).1) (fun j hj => (ih j hj).2.1) (fun j hj => (ih j hj).2.2.1) (fun j hj => (ih j hj).2.2.2)
 ·exact x_ContainsFunc_at_impl_isFormed_1.step k (fun j hj => (ih j hj).1) (fun j hj => (ih j hj).2.1) (fun j hj => (ih j hj).2.2.1) (fun j hj => (ih j hj).2.2.2)
 exact impl_isFormed.step k (fun j hj => (ih j hj).1) (fun j hj => (ih j hj).2.1) (fun j hj => (ih j hj).2.2.1) (fun j hj => (ih j hj).2.2.2)
theorem impl_isFormed.calls (k : Nat) : ∀ (a0_0 : Int) (a0_1 : Int) (A0_2 : Option Addr) (c0_2 : Nat) (l0_2 : List Int) (A0_3 : Option Addr) (c0_3 : Nat) (l0_3 : List (List Int)) (A0_4 : Option Addr) (c0_4 : Nat) (l0_4 : List (S31)) (a1 : Int) (r : Bool) (w : World) (hr0_2 : Kd.C (Kd.int .u8) w A0_2 l0_2.length l0_2) (hc0_2 : l0_2.length ≤ c0_2) (hr0_3 : Kd.C (Kd.slice 5 (Kd.int .u8)) w A0_3 l0_3.length l0_3) (hc0_3 : l0_3.length ≤ c0_3) (hr0_4 : Kd.C k31 w A0_4 l0_4.length l0_4) (hc0_4 : l0_4.length ≤ c0_4) (h : impl_isFormed.f k a0_0 a0_1 l0_2 l0_3 l0_4 a1 = some r),
  Calls Try.prog 81 #[.agg #[.int .i64 a0_0, .int .i64 a0_1, .slice A0_2 l0_2.length c0_2, .slice A0_3 l0_3.length c0_3, .slice A0_4 l0_4.length c0_4], .int .i64 a1] w fun e w' => e = .returned (.bool r) ∧ Below w.heap.size w w' := (impl_isFormed.all k).2.2.2

end Go.Proofs.Ytockllljeeakaaa.PFnExactConfigOk
