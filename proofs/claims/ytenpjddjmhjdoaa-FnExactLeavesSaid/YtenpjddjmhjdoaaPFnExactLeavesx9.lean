/- What the law reaches: each function as a plain Lean function, and that each call comes to it. No condition. -/
import Derived.Test.YtenpjddjmhjdoaaPFnExactLeavesx0
import Derived.Test.YtenpjddjmhjdoaaPFnExactLeavesx8
namespace Go.Proofs.Ytenpjddjmhjdoaa.PFnExactLeaves
open Go.RowKit Go.Proofs.YtenpjddjmhjdoaaW.PrintWords Go.Proofs.YtenpjddjmhjdoaaW.PrintLast Go.Proofs.YtenpjddjmhjdoaaW.PrintMore Go.Proofs.Ytenpjddjmhjdoaa.M
attribute [local go_sem] max2_int min2_int max_two min_two max_three min_three max_four min_four Go.Proofs.Ytenpjddjmhjdoaa.M.str_gtr Go.Proofs.Ytenpjddjmhjdoaa.M.str_leq Go.Proofs.Ytenpjddjmhjdoaa.M.str_geq   -- for this text's walks alone
set_option linter.unusedVariables false
set_option linter.unusedSimpArgs false

/-! ### impl_isShaped_1: function 130 -/
/-! ### x_IndexFunc_at_impl_isShaped_1: function 138 -/
/-! ### x_ContainsFunc_at_impl_isShaped_1: function 118 -/
/-! ### impl_isShaped: function 102 -/
mutual
def impl_isShaped_1.f : Nat → Int → Int → List Int → List (List Int) → List (S30) → Int → Option (Bool)
 | 0, _, _, _, _, _, _ => none
 | k + 1, a0_0, a0_1, l0_2, l0_3, l0_4, a1 => (impl_isShaped.f k a0_0 a0_1 l0_2 l0_3 l0_4 (wrap64 (a1 - 1))).bind fun t331 => (some (!t331))
def x_IndexFunc_at_impl_isShaped_1.l0 : Nat → List (S30) → Int → Int → Int → Option (Int)
 | 0, _, _, _, _ => none
 | k + 1, x0, x1, x7, x8 => if x8 < x7 then (if 0 ≤ x8 then (if x8 < (x0.length : Int) then ((impl_isShaped_1.f k ((rd_T30 x0 x8).f0) ((rd_T30 x0 x8).f1) ((rd_T30 x0 x8).f2) ((rd_T30 x0 x8).f3) ((rd_T30 x0 x8).f4) x1).bind fun t333 => (if t333 = true then (some x8) else (x_IndexFunc_at_impl_isShaped_1.l0 k x0 x1 x7 (wrap64 (x8 + 1))))) else (none)) else (none)) else (some (-1))
def x_IndexFunc_at_impl_isShaped_1.f : Nat → List (S30) → Int → Option (Int)
 | 0, _, _ => none
 | k + 1, l0, a1 => x_IndexFunc_at_impl_isShaped_1.l0 k l0 a1 (l0.length : Int) 0
def x_ContainsFunc_at_impl_isShaped_1.f : Nat → List (S30) → Int → Option (Bool)
 | 0, _, _ => none
 | k + 1, l0, a1 => (x_IndexFunc_at_impl_isShaped_1.f k l0 a1).bind fun t334 => (some (decide (t334 ≥ 0)))
def impl_isShaped.j0 : Nat → Bool → Bool → Bool → Bool → Int → Bool → Int → Int → List Int → List (List Int) → List (S30) → Int → Option (Bool)
 | 0, _, _, _, _, _, _, _, _, _, _, _, _ => none
 | k + 1, x5, x6, x7, x8, x29, x30, x336000, x336001, x336002, x336003, x336004, x337000 => if x30 = true then (if x5 = true then (if x6 = true then (if x7 = true then (some x8) else (some false)) else (some false)) else (some false)) else (if x29 = 1 then ((impl_in.f x336001 0 1).bind fun t337 => (if t337 = true then (if x6 = true then (if x7 = true then (some x8) else (some false)) else (some false)) else (some false))) else (if x29 = 2 then ((impl_in.f x336001 (-1000000000000) 1000000000000).bind fun t338 => (if t338 = true then (if x6 = true then (if x7 = true then (some x8) else (some false)) else (some false)) else (some false))) else (if x29 = 3 then ((impl_isText.f k x336002).bind fun t339 => (if t339 = true then (if x5 = true then (if x7 = true then (some x8) else (some false)) else (some false)) else (some false))) else (if x29 = 4 then (if x7 = true then (if x5 = true then (if x6 = true then (if (x336004.length : Int) ≤ 40 then ((x_ContainsFunc_at_impl_isShaped_1.f k x336004 x337000).bind fun t340 => (some (!t340))) else (some false)) else (some false)) else (some false)) else (some false)) else (if x29 = 5 then (if (x336003.length : Int) = (x336004.length : Int) then (impl_isShaped.l0 k x5 x6 x336003 (x336003.length : Int) 0 x336000 x336001 x336002 x336003 x336004 x337000) else (some false)) else (some false))))))
def impl_isShaped.l0 : Nat → Bool → Bool → List (List Int) → Int → Int → Int → Int → List Int → List (List Int) → List (S30) → Int → Option (Bool)
 | 0, _, _, _, _, _, _, _, _, _, _, _ => none
 | k + 1, x5, x6, x99, x100, x101, x336000, x336001, x336002, x336003, x336004, x337000 => if x101 < x100 then (if 0 ≤ x101 then (if x101 < (x99.length : Int) then ((impl_isName.f k (rd_L1 x99 x101)).bind fun t343 => (if t343 = true then (if x101 > 0 then (if 0 ≤ (wrap64 (x101 - 1)) then (if (wrap64 (x101 - 1)) < (x336003.length : Int) then ((bytes_Compare.f (rd_L1 x336003 (wrap64 (x101 - 1))) (rd_L1 x99 x101)).bind fun t345 => (if t345 ≥ 0 then (some false) else (impl_isShaped.l0 k x5 x6 x99 x100 (wrap64 (x101 + 1)) x336000 x336001 x336002 x336003 x336004 x337000))) else (none)) else (none)) else (impl_isShaped.l0 k x5 x6 x99 x100 (wrap64 (x101 + 1)) x336000 x336001 x336002 x336003 x336004 x337000)) else (some false))) else (none)) else (none)) else (if x5 = true then (if x6 = true then (if (x336004.length : Int) ≤ 40 then ((x_ContainsFunc_at_impl_isShaped_1.f k x336004 x337000).bind fun t341 => (some (!t341))) else (some false)) else (some false)) else (some false))
def impl_isShaped.f : Nat → Int → Int → List Int → List (List Int) → List (S30) → Int → Option (Bool)
 | 0, _, _, _, _, _, _ => none
 | k + 1, a0_0, a0_1, l0_2, l0_3, l0_4, a1 => if a1 = 0 then (some false) else (if a0_0 = 0 then (impl_isShaped.j0 k (a0_1 == 0) ((l0_2.length : Int) == 0) ((l0_3.length : Int) == 0) ((l0_4.length : Int) == 0) a0_0 (a0_0 == 0) a0_0 a0_1 l0_2 l0_3 l0_4 a1) else (impl_isShaped.j0 k (a0_1 == 0) ((l0_2.length : Int) == 0) ((l0_3.length : Int) == 0) ((l0_4.length : Int) == 0) a0_0 (a0_0 == 6) a0_0 a0_1 l0_2 l0_3 l0_4 a1))
end
set_option maxHeartbeats 8000000 in
set_option maxRecDepth 100000 in
theorem impl_isShaped_1.step (k : Nat) (ih : ∀ j, j < k → ∀ (a0_0 : Int) (a0_1 : Int) (A0_2 : Option Addr) (c0_2 : Nat) (l0_2 : List Int) (A0_3 : Option Addr) (c0_3 : Nat) (l0_3 : List (List Int)) (A0_4 : Option Addr) (c0_4 : Nat) (l0_4 : List (S30)) (a1 : Int) (bl : Nat) (r : Bool) (w : World) (hr0_2 : Kd.C (Kd.int .u8) w A0_2 l0_2.length l0_2) (hc0_2 : l0_2.length ≤ c0_2) (hr0_3 : Kd.C (Kd.slice 5 (Kd.int .u8)) w A0_3 l0_3.length l0_3) (hc0_3 : l0_3.length ≤ c0_3) (hr0_4 : Kd.C k30 w A0_4 l0_4.length l0_4) (hc0_4 : l0_4.length ≤ c0_4) (hbl : w.cell? ⟨bl, 0, none⟩ = some (.int .i64 a1)) (h : impl_isShaped_1.f j a0_0 a0_1 l0_2 l0_3 l0_4 a1 = some r),
  Calls Try.prog 130 #[.agg #[.int .i64 a0_0, .int .i64 a0_1, .slice A0_2 l0_2.length c0_2, .slice A0_3 l0_3.length c0_3, .slice A0_4 l0_4.length c0_4], .pointer (some ⟨bl, 0, none⟩)] w fun e w' => e = .returned (.bool r) ∧ Below w.heap.size w w') (ih_x_IndexFunc_at_impl_isShaped_1 : ∀ j, j < k → ∀ (A0 : Option Addr) (c0 : Nat) (l0 : List (S30)) (a1 : Int) (bl : Nat) (r : Int) (w : World) (hr0 : Kd.C k30 w A0 l0.length l0) (hc0 : l0.length ≤ c0) (hbl : w.cell? ⟨bl, 0, none⟩ = some (.int .i64 a1)) (h : x_IndexFunc_at_impl_isShaped_1.f j l0 a1 = some r),
  Calls Try.prog 138 #[.slice A0 l0.length c0, .func (.func 130) #[] #[.pointer (some ⟨bl, 0, none⟩)]] w fun e w' => e = .returned (.int .i64 r) ∧ Below w.heap.size w w') (ih_x_ContainsFunc_at_impl_isShaped_1 : ∀ j, j < k → ∀ (A0 : Option Addr) (c0 : Nat) (l0 : List (S30)) (a1 : Int) (bl : Nat) (r : Bool) (w : World) (hr0 : Kd.C k30 w A0 l0.length l0) (hc0 : l0.length ≤ c0) (hbl : w.cell? ⟨bl, 0, none⟩ = some (.int .i64 a1)) (h : x_ContainsFunc_at_impl_isShaped_1.f j l0 a1 = some r),
  Calls Try.prog 118 #[.slice A0 l0.length c0, .func (.func 130) #[] #[.pointer (some ⟨bl, 0, none⟩)]] w fun e w' => e = .returned (.bool r) ∧ Below w.heap.size w w') (ih_impl_isShaped : ∀ j, j < k → ∀ (a0_0 : Int) (a0_1 : Int) (A0_2 : Option Addr) (c0_2 : Nat) (l0_2 : List Int) (A0_3 : Option Addr) (c0_3 : Nat) (l0_3 : List (List Int)) (A0_4 : Option Addr) (c0_4 : Nat) (l0_4 : List (S30)) (a1 : Int) (r : Bool) (w : World) (hr0_2 : Kd.C (Kd.int .u8) w A0_2 l0_2.length l0_2) (hc0_2 : l0_2.length ≤ c0_2) (hr0_3 : Kd.C (Kd.slice 5 (Kd.int .u8)) w A0_3 l0_3.length l0_3) (hc0_3 : l0_3.length ≤ c0_3) (hr0_4 : Kd.C k30 w A0_4 l0_4.length l0_4) (hc0_4 : l0_4.length ≤ c0_4) (h : impl_isShaped.f j a0_0 a0_1 l0_2 l0_3 l0_4 a1 = some r),
  Calls Try.prog 102 #[.agg #[.int .i64 a0_0, .int .i64 a0_1, .slice A0_2 l0_2.length c0_2, .slice A0_3 l0_3.length c0_3, .slice A0_4 l0_4.length c0_4], .int .i64 a1] w fun e w' => e = .returned (.bool r) ∧ Below w.heap.size w w') :
  ∀ (a0_0 : Int) (a0_1 : Int) (A0_2 : Option Addr) (c0_2 : Nat) (l0_2 : List Int) (A0_3 : Option Addr) (c0_3 : Nat) (l0_3 : List (List Int)) (A0_4 : Option Addr) (c0_4 : Nat) (l0_4 : List (S30)) (a1 : Int) (bl : Nat) (r : Bool) (w : World) (hr0_2 : Kd.C (Kd.int .u8) w A0_2 l0_2.length l0_2) (hc0_2 : l0_2.length ≤ c0_2) (hr0_3 : Kd.C (Kd.slice 5 (Kd.int .u8)) w A0_3 l0_3.length l0_3) (hc0_3 : l0_3.length ≤ c0_3) (hr0_4 : Kd.C k30 w A0_4 l0_4.length l0_4) (hc0_4 : l0_4.length ≤ c0_4) (hbl : w.cell? ⟨bl, 0, none⟩ = some (.int .i64 a1)) (h : impl_isShaped_1.f k a0_0 a0_1 l0_2 l0_3 l0_4 a1 = some r),
  Calls Try.prog 130 #[.agg #[.int .i64 a0_0, .int .i64 a0_1, .slice A0_2 l0_2.length c0_2, .slice A0_3 l0_3.length c0_3, .slice A0_4 l0_4.length c0_4], .pointer (some ⟨bl, 0, none⟩)] w fun e w' => e = .returned (.bool r) ∧ Below w.heap.size w w' := by
 intro a0_0 a0_1 A0_2 c0_2 l0_2 A0_3 c0_3 l0_3 A0_4 c0_4 l0_4 a1 bl r w hr0_2 hc0_2 hr0_3 hc0_3 hr0_4 hc0_4 hbl h
 cases k with
 | zero => exact absurd h (by simp [impl_isShaped_1.f])
 | succ k =>
 simp only [impl_isShaped_1.f] at h
 have hu30 := Try.underlying30
 have HR0_2 := Aside0.mk hr0_2
 have HC0_2 := Aside0.mk hc0_2
 clear hr0_2 hc0_2
 have HR0_3 := Aside0.mk hr0_3
 have HC0_3 := Aside0.mk hc0_3
 clear hr0_3 hc0_3
 have HR0_4 := Aside0.mk hr0_4
 have HC0_4 := Aside0.mk hc0_4
 clear hr0_4 hc0_4
 have HB := Bw.refl w
 have H : ((impl_isShaped.f k a0_0 a0_1 l0_2 l0_3 l0_4 (wrap64 (a1 - 1))).bind fun t331 => (some (!t331))) = some r := h
 clear h
 replace H := Option.bind_eq_some_iff.mp H
 obtain ⟨t331, A30, H⟩ := H
 have A3 := Aside0.mk A30
 clear A30
 obtain rfl := Option.some.inj H
 go_enter Try.func130, Try.ntmps130
 go_wp2_with (first | ((with_reducible refine gate_dst (N := 2) rfl ?_); refine box_event rfl (N := 2) rfl (cs := #[.int .i64 a0_0, .int .i64 a0_1, .slice A0_2 l0_2.length c0_2, .slice A0_3 l0_3.length c0_3, .slice A0_4 l0_4.length c0_4]) (t := 30) (by go_simp <;> rfl) ?_; intro gb330 hg w4 hbox hb; have BK330 := Aside0.mk (hbox); have GE330 := (Ge.of hg : Ge w.heap.size gb330); replace HB := (Bw.sw w hb); clear hb hbox hg; have hcb := (HB.out.cell (World.block_lt_of_cell? w _ hbl)).trans hbl; obtain ⟨hcz5_0, hcz5_1, hcz5_2, hcz5_3, hcz5_4, hfz5_0, hfz5_1, hfz5_2, hfz5_3, hfz5_4⟩ := blk5 BK330.out) | ((with_reducible refine gg (f := 102) (some 7) rfl rfl rfl fr102 ?_); refine onc (ih_impl_isShaped k (by omega) a0_0 a0_1 _ _ l0_2 _ _ l0_3 _ _ l0_4 (wrap64 (a1 - 1)) t331 _ (cb HR0_2) HC0_2.out (cb HR0_3) HC0_3.out (cb HR0_4) HC0_4.out A3.out) rfl ?_; rintro e w6 ⟨rfl, hb⟩; refine ⟨_, rfl, ?_⟩; replace BK330 := Aside0.mk (blk_below (g := gb330) (o := .cells #[.int .i64 a0_0, .int .i64 a0_1, .slice A0_2 l0_2.length c0_2, .slice A0_3 l0_3.length c0_3, .slice A0_4 l0_4.length c0_4] 30 (0, 0)) (by (with_reducible repeat (first | refine blk_drewN ?_ _ | refine blk_drew ?_ | refine blk_alloc ?_ _)); exact BK330.out) hb); replace HB := (Bw.sw w hb); (try clear hb)))
 go_ret
 exact ⟨by first | rfl | (simp [errW_none, errW_some] <;> rfl) | (simp [*, errW_none, errW_some] <;> rfl), bw⟩
set_option maxHeartbeats 8000000 in
set_option maxRecDepth 100000 in
theorem x_IndexFunc_at_impl_isShaped_1.step (k : Nat) (ih_impl_isShaped_1 : ∀ j, j < k → ∀ (a0_0 : Int) (a0_1 : Int) (A0_2 : Option Addr) (c0_2 : Nat) (l0_2 : List Int) (A0_3 : Option Addr) (c0_3 : Nat) (l0_3 : List (List Int)) (A0_4 : Option Addr) (c0_4 : Nat) (l0_4 : List (S30)) (a1 : Int) (bl : Nat) (r : Bool) (w : World) (hr0_2 : Kd.C (Kd.int .u8) w A0_2 l0_2.length l0_2) (hc0_2 : l0_2.length ≤ c0_2) (hr0_3 : Kd.C (Kd.slice 5 (Kd.int .u8)) w A0_3 l0_3.length l0_3) (hc0_3 : l0_3.length ≤ c0_3) (hr0_4 : Kd.C k30 w A0_4 l0_4.length l0_4) (hc0_4 : l0_4.length ≤ c0_4) (hbl : w.cell? ⟨bl, 0, none⟩ = some (.int .i64 a1)) (h : impl_isShaped_1.f j a0_0 a0_1 l0_2 l0_3 l0_4 a1 = some r),
  Calls Try.prog 130 #[.agg #[.int .i64 a0_0, .int .i64 a0_1, .slice A0_2 l0_2.length c0_2, .slice A0_3 l0_3.length c0_3, .slice A0_4 l0_4.length c0_4], .pointer (some ⟨bl, 0, none⟩)] w fun e w' => e = .returned (.bool r) ∧ Below w.heap.size w w') (ih : ∀ j, j < k → ∀ (A0 : Option Addr) (c0 : Nat) (l0 : List (S30)) (a1 : Int) (bl : Nat) (r : Int) (w : World) (hr0 : Kd.C k30 w A0 l0.length l0) (hc0 : l0.length ≤ c0) (hbl : w.cell? ⟨bl, 0, none⟩ = some (.int .i64 a1)) (h : x_IndexFunc_at_impl_isShaped_1.f j l0 a1 = some r),
  Calls Try.prog 138 #[.slice A0 l0.length c0, .func (.func 130) #[] #[.pointer (some ⟨bl, 0, none⟩)]] w fun e w' => e = .returned (.int .i64 r) ∧ Below w.heap.size w w') (ih_x_ContainsFunc_at_impl_isShaped_1 : ∀ j, j < k → ∀ (A0 : Option Addr) (c0 : Nat) (l0 : List (S30)) (a1 : Int) (bl : Nat) (r : Bool) (w : World) (hr0 : Kd.C k30 w A0 l0.length l0) (hc0 : l0.length ≤ c0) (hbl : w.cell? ⟨bl, 0, none⟩ = some (.int .i64 a1)) (h : x_ContainsFunc_at_impl_isShaped_1.f j l0 a1 = some r),
  Calls Try.prog 118 #[.slice A0 l0.length c0, .func (.func 130) #[] #[.pointer (some ⟨bl, 0, none⟩)]] w fun e w' => e = .returned (.bool r) ∧ Below w.heap.size w w') (ih_impl_isShaped : ∀ j, j < k → ∀ (a0_0 : Int) (a0_1 : Int) (A0_2 : Option Addr) (c0_2 : Nat) (l0_2 : List Int) (A0_3 : Option Addr) (c0_3 : Nat) (l0_3 : List (List Int)) (A0_4 : Option Addr) (c0_4 : Nat) (l0_4 : List (S30)) (a1 : Int) (r : Bool) (w : World) (hr0_2 : Kd.C (Kd.int .u8) w A0_2 l0_2.length l0_2) (hc0_2 : l0_2.length ≤ c0_2) (hr0_3 : Kd.C (Kd.slice 5 (Kd.int .u8)) w A0_3 l0_3.length l0_3) (hc0_3 : l0_3.length ≤ c0_3) (hr0_4 : Kd.C k30 w A0_4 l0_4.length l0_4) (hc0_4 : l0_4.length ≤ c0_4) (h : impl_isShaped.f j a0_0 a0_1 l0_2 l0_3 l0_4 a1 = some r),
  Calls Try.prog 102 #[.agg #[.int .i64 a0_0, .int .i64 a0_1, .slice A0_2 l0_2.length c0_2, .slice A0_3 l0_3.length c0_3, .slice A0_4 l0_4.length c0_4], .int .i64 a1] w fun e w' => e = .returned (.bool r) ∧ Below w.heap.size w w') :
  ∀ (A0 : Option Addr) (c0 : Nat) (l0 : List (S30)) (a1 : Int) (bl : Nat) (r : Int) (w : World) (hr0 : Kd.C k30 w A0 l0.length l0) (hc0 : l0.length ≤ c0) (hbl : w.cell? ⟨bl, 0, none⟩ = some (.int .i64 a1)) (h : x_IndexFunc_at_impl_isShaped_1.f k l0 a1 = some r),
  Calls Try.prog 138 #[.slice A0 l0.length c0, .func (.func 130) #[] #[.pointer (some ⟨bl, 0, none⟩)]] w fun e w' => e = .returned (.int .i64 r) ∧ Below w.heap.size w w' := by
 intro A0 c0 l0 a1 bl r w hr0 hc0 hbl h
 cases k with
 | zero => exact absurd h (by simp [x_IndexFunc_at_impl_isShaped_1.f])
 | succ k =>
 simp only [x_IndexFunc_at_impl_isShaped_1.f] at h
 have hu30 := Try.underlying30
 have HR0 := Aside0.mk hr0
 have HC0 := Aside0.mk hc0
 clear hr0 hc0
 have HB := Bw.refl w
 have H : (x_IndexFunc_at_impl_isShaped_1.l0 k l0 a1 (l0.length : Int) 0) = some r := h
 clear h
 have H' := Aside0.mk H
 clear H
 go_enter Try.func138, Try.ntmps138
 go_wp2
 go_loopg [8] k (fun kq v8 w' => ∃ (x8_1 : Int), v8 = .int .i64 x8_1 ∧ Aside0 (x_IndexFunc_at_impl_isShaped_1.l0 kq l0 a1 (l0.length : Int) x8_1 = some r) ∧ Aside0 (kq ≤ k) ∧ Bw w w')
 case atStart => exact ⟨(0), (by first | rfl | (simp; done) | (simp [*]; done)), H', ⟨Nat.le_refl _⟩, ⟨bw⟩⟩
 case round =>
  clear H'
  obtain ⟨x8_1, rfl, HA, HK1, HB⟩ := hrel
  cases gk with
  | zero => exact absurd HA.out (by simp [x_IndexFunc_at_impl_isShaped_1.l0])
  | succ k1 =>
   have H := HA.out
   clear HA
   simp only [x_IndexFunc_at_impl_isShaped_1.l0] at H
   by_cases c3 : x8_1 < (l0.length : Int)
   rotate_left
   ·rw [if_neg c3] at H
    have c3b0 : decide (x8_1 < (l0.length : Int)) = false := decide_eq_false c3
    clear c3
    obtain rfl := Option.some.inj H
    go_wp2
    go_ret
    exact ⟨by first | rfl | (simp [errW_none, errW_some] <;> rfl) | (simp [*, errW_none, errW_some] <;> rfl), bw⟩
   rw [if_pos c3] at H
   have c3b0 : decide (x8_1 < (l0.length : Int)) = true := decide_eq_true c3
   clear c3
   by_cases c4 : 0 ≤ x8_1
   rotate_left
   ·rw [if_neg c4] at H
    exact absurd H (by simp)
   rw [if_pos c4] at H
   have c4b0 : decide (0 ≤ x8_1) = true := decide_eq_true c4
   clear c4
   by_cases c5 : x8_1 < (l0.length : Int)
   rotate_left
   ·rw [if_neg c5] at H
    exact absurd H (by simp)
   rw [if_pos c5] at H
   have c5b0 : decide (x8_1 < (l0.length : Int)) = true := decide_eq_true c5
   clear c5
   replace H := Option.bind_eq_some_iff.mp H
   obtain ⟨t333, A60, H⟩ := H
   have A6 := Aside0.mk A60
   clear A60
   by_cases c7 : t333 = true
   ·subst c7
    replace H := (if_pos rfl).symm.trans H
    obtain rfl := Option.some.inj H
    have p332 : 0 ≤ (x8_1 : Int) := of_decide_eq_true (by first | (with_reducible assumption) | assumption)
    have q332 : x8_1 < (l0.length : Int) := of_decide_eq_true (by first | (with_reducible assumption) | assumption)
    obtain ⟨ad332, A332_2, c332_2, A332_3, c332_3, A332_4, c332_4, e332, hx332_0, hx332_1, hx332_2, hx332_3, hx332_4, hl332_2, hi332_2, hl332_3, hi332_3, hl332_4, hi332_4⟩ := at_T30 HR0.out x8_1 p332 q332
    cases e332
    replace hx332_0 := (HB.out.cell (World.block_lt_of_cell? w _ hx332_0)).trans hx332_0
    replace hx332_1 := (HB.out.cell (World.block_lt_of_cell? w _ hx332_1)).trans hx332_1
    replace hx332_2 := (HB.out.cell (World.block_lt_of_cell? w _ hx332_2)).trans hx332_2
    replace hx332_3 := (HB.out.cell (World.block_lt_of_cell? w _ hx332_3)).trans hx332_3
    replace hx332_4 := (HB.out.cell (World.block_lt_of_cell? w _ hx332_4)).trans hx332_4
    have HR332_2 := Aside0.mk hi332_2
    have HC332_2 := Aside0.mk hl332_2
    clear hi332_2 hl332_2
    have HR332_3 := Aside0.mk hi332_3
    have HC332_3 := Aside0.mk hl332_3
    clear hi332_3 hl332_3
    have HR332_4 := Aside0.mk hi332_4
    have HC332_4 := Aside0.mk hl332_4
    clear hi332_4 hl332_4
    replace p332 := eq_true p332
    replace q332 := eq_true q332
    go_wp2_with (first | (go_at_call 130; (with_reducible refine (ih_impl_isShaped_1 k1 (by have := HK1.out; omega) ((rd_T30 l0 x8_1).f0) ((rd_T30 l0 x8_1).f1) _ _ ((rd_T30 l0 x8_1).f2) _ _ ((rd_T30 l0 x8_1).f3) _ _ ((rd_T30 l0 x8_1).f4) a1 bl true _ ?side1 ?side2 ?side3 ?side4 ?side5 ?side6 ?sidebl A6.out).mono ?_); (case sidebl => first | exact hbl | exact (HB.out.cell (World.block_lt_of_cell? w _ hbl)).trans hbl); (case side1 => repeat (first | exact (Kd.C_below HR332_2.out HB.out) | (with_reducible refine Kd.C_alloc ?_ _) | (with_reducible refine Kd.C_drewN ?_ _) | (with_reducible refine Kd.C_drew ?_))); (case side2 => exact HC332_2.out); (case side3 => repeat (first | exact (Kd.C_below HR332_3.out HB.out) | (with_reducible refine Kd.C_alloc ?_ _) | (with_reducible refine Kd.C_drewN ?_ _) | (with_reducible refine Kd.C_drew ?_))); (case side4 => exact HC332_3.out); (case side5 => repeat (first | exact (Kd.C_below HR332_4.out HB.out) | (with_reducible refine Kd.C_alloc ?_ _) | (with_reducible refine Kd.C_drewN ?_ _) | (with_reducible refine Kd.C_drew ?_))); (case side6 => exact HC332_4.out); rintro e w8 ⟨rfl, hb⟩; replace HB := (Bw.sw w hb); (try clear hb)))
    go_ret
    exact ⟨by first | rfl | (simp [errW_none, errW_some] <;> rfl) | (simp [*, errW_none, errW_some] <;> rfl), bw⟩
   replace c7 := Bool.eq_false_iff.mpr c7
   subst c7
   replace H := (if_neg (show ¬ (false = true) by decide)).symm.trans H
   have H' := Aside0.mk H
   clear H
   have p332 : 0 ≤ (x8_1 : Int) := of_decide_eq_true (by first | (with_reducible assumption) | assumption)
   have q332 : x8_1 < (l0.length : Int) := of_decide_eq_true (by first | (with_reducible assumption) | assumption)
   obtain ⟨ad332, A332_2, c332_2, A332_3, c332_3, A332_4, c332_4, e332, hx332_0, hx332_1, hx332_2, hx332_3, hx332_4, hl332_2, hi332_2, hl332_3, hi332_3, hl332_4, hi332_4⟩ := at_T30 HR0.out x8_1 p332 q332
   cases e332
   replace hx332_0 := (HB.out.cell (World.block_lt_of_cell? w _ hx332_0)).trans hx332_0
   replace hx332_1 := (HB.out.cell (World.block_lt_of_cell? w _ hx332_1)).trans hx332_1
   replace hx332_2 := (HB.out.cell (World.block_lt_of_cell? w _ hx332_2)).trans hx332_2
   replace hx332_3 := (HB.out.cell (World.block_lt_of_cell? w _ hx332_3)).trans hx332_3
   replace hx332_4 := (HB.out.cell (World.block_lt_of_cell? w _ hx332_4)).trans hx332_4
   have HR332_2 := Aside0.mk hi332_2
   have HC332_2 := Aside0.mk hl332_2
   clear hi332_2 hl332_2
   have HR332_3 := Aside0.mk hi332_3
   have HC332_3 := Aside0.mk hl332_3
   clear hi332_3 hl332_3
   have HR332_4 := Aside0.mk hi332_4
   have HC332_4 := Aside0.mk hl332_4
   clear hi332_4 hl332_4
   replace p332 := eq_true p332
   replace q332 := eq_true q332
   go_wp2_with (first | (go_at_call 130; (with_reducible refine (ih_impl_isShaped_1 k1 (by have := HK1.out; omega) ((rd_T30 l0 x8_1).f0) ((rd_T30 l0 x8_1).f1) _ _ ((rd_T30 l0 x8_1).f2) _ _ ((rd_T30 l0 x8_1).f3) _ _ ((rd_T30 l0 x8_1).f4) a1 bl false _ ?side1 ?side2 ?side3 ?side4 ?side5 ?side6 ?sidebl A6.out).mono ?_); (case sidebl => first | exact hbl | exact (HB.out.cell (World.block_lt_of_cell? w _ hbl)).trans hbl); (case side1 => repeat (first | exact (Kd.C_below HR332_2.out HB.out) | (with_reducible refine Kd.C_alloc ?_ _) | (with_reducible refine Kd.C_drewN ?_ _) | (with_reducible refine Kd.C_drew ?_))); (case side2 => exact HC332_2.out); (case side3 => repeat (first | exact (Kd.C_below HR332_3.out HB.out) | (with_reducible refine Kd.C_alloc ?_ _) | (with_reducible refine Kd.C_drewN ?_ _) | (with_reducible refine Kd.C_drew ?_))); (case side4 => exact HC332_3.out); (case side5 => repeat (first | exact (Kd.C_below HR332_4.out HB.out) | (with_reducible refine Kd.C_alloc ?_ _) | (with_reducible refine Kd.C_drewN ?_ _) | (with_reducible refine Kd.C_drew ?_))); (case side6 => exact HC332_4.out); rintro e w9 ⟨rfl, hb⟩; replace HB := (Bw.sw w hb); (try clear hb)))
   go_roundg k1
   case measure => have := HK1.out; omega
   case rel => exact ⟨(wrap64 (x8_1 + 1)), (by first | rfl | (simp; done) | (simp [*]; done)), H', ⟨by have := HK1.out; omega⟩, ⟨bw⟩⟩
set_option maxHeartbeats 8000000 in
set_option maxRecDepth 100000 in
theorem x_ContainsFunc_at_impl_isShaped_1.step (k : Nat) (ih_impl_isShaped_1 : ∀ j, j < k → ∀ (a0_0 : Int) (a0_1 : Int) (A0_2 : Option Addr) (c0_2 : Nat) (l0_2 : List Int) (A0_3 : Option Addr) (c0_3 : Nat) (l0_3 : List (List Int)) (A0_4 : Option Addr) (c0_4 : Nat) (l0_4 : List (S30)) (a1 : Int) (bl : Nat) (r : Bool) (w : World) (hr0_2 : Kd.C (Kd.int .u8) w A0_2 l0_2.length l0_2) (hc0_2 : l0_2.length ≤ c0_2) (hr0_3 : Kd.C (Kd.slice 5 (Kd.int .u8)) w A0_3 l0_3.length l0_3) (hc0_3 : l0_3.length ≤ c0_3) (hr0_4 : Kd.C k30 w A0_4 l0_4.length l0_4) (hc0_4 : l0_4.length ≤ c0_4) (hbl : w.cell? ⟨bl, 0, none⟩ = some (.int .i64 a1)) (h : impl_isShaped_1.f j a0_0 a0_1 l0_2 l0_3 l0_4 a1 = some r),
  Calls Try.prog 130 #[.agg #[.int .i64 a0_0, .int .i64 a0_1, .slice A0_2 l0_2.length c0_2, .slice A0_3 l0_3.length c0_3, .slice A0_4 l0_4.length c0_4], .pointer (some ⟨bl, 0, none⟩)] w fun e w' => e = .returned (.bool r) ∧ Below w.heap.size w w') (ih_x_IndexFunc_at_impl_isShaped_1 : ∀ j, j < k → ∀ (A0 : Option Addr) (c0 : Nat) (l0 : List (S30)) (a1 : Int) (bl : Nat) (r : Int) (w : World) (hr0 : Kd.C k30 w A0 l0.length l0) (hc0 : l0.length ≤ c0) (hbl : w.cell? ⟨bl, 0, none⟩ = some (.int .i64 a1)) (h : x_IndexFunc_at_impl_isShaped_1.f j l0 a1 = some r),
  Calls Try.prog 138 #[.slice A0 l0.length c0, .func (.func 130) #[] #[.pointer (some ⟨bl, 0, none⟩)]] w fun e w' => e = .returned (.int .i64 r) ∧ Below w.heap.size w w') (ih : ∀ j, j < k → ∀ (A0 : Option Addr) (c0 : Nat) (l0 : List (S30)) (a1 : Int) (bl : Nat) (r : Bool) (w : World) (hr0 : Kd.C k30 w A0 l0.length l0) (hc0 : l0.length ≤ c0) (hbl : w.cell? ⟨bl, 0, none⟩ = some (.int .i64 a1)) (h : x_ContainsFunc_at_impl_isShaped_1.f j l0 a1 = some r),
  Calls Try.prog 118 #[.slice A0 l0.length c0, .func (.func 130) #[] #[.pointer (some ⟨bl, 0, none⟩)]] w fun e w' => e = .returned (.bool r) ∧ Below w.heap.size w w') (ih_impl_isShaped : ∀ j, j < k → ∀ (a0_0 : Int) (a0_1 : Int) (A0_2 : Option Addr) (c0_2 : Nat) (l0_2 : List Int) (A0_3 : Option Addr) (c0_3 : Nat) (l0_3 : List (List Int)) (A0_4 : Option Addr) (c0_4 : Nat) (l0_4 : List (S30)) (a1 : Int) (r : Bool) (w : World) (hr0_2 : Kd.C (Kd.int .u8) w A0_2 l0_2.length l0_2) (hc0_2 : l0_2.length ≤ c0_2) (hr0_3 : Kd.C (Kd.slice 5 (Kd.int .u8)) w A0_3 l0_3.length l0_3) (hc0_3 : l0_3.length ≤ c0_3) (hr0_4 : Kd.C k30 w A0_4 l0_4.length l0_4) (hc0_4 : l0_4.length ≤ c0_4) (h : impl_isShaped.f j a0_0 a0_1 l0_2 l0_3 l0_4 a1 = some r),
  Calls Try.prog 102 #[.agg #[.int .i64 a0_0, .int .i64 a0_1, .slice A0_2 l0_2.length c0_2, .slice A0_3 l0_3.length c0_3, .slice A0_4 l0_4.length c0_4], .int .i64 a1] w fun e w' => e = .returned (.bool r) ∧ Below w.heap.size w w') :
  ∀ (A0 : Option Addr) (c0 : Nat) (l0 : List (S30)) (a1 : Int) (bl : Nat) (r : Bool) (w : World) (hr0 : Kd.C k30 w A0 l0.length l0) (hc0 : l0.length ≤ c0) (hbl : w.cell? ⟨bl, 0, none⟩ = some (.int .i64 a1)) (h : x_ContainsFunc_at_impl_isShaped_1.f k l0 a1 = some r),
  Calls Try.prog 118 #[.slice A0 l0.length c0, .func (.func 130) #[] #[.pointer (some ⟨bl, 0, none⟩)]] w fun e w' => e = .returned (.bool r) ∧ Below w.heap.size w w' := by
 intro A0 c0 l0 a1 bl r w hr0 hc0 hbl h
 cases k with
 | zero => exact absurd h (by simp [x_ContainsFunc_at_impl_isShaped_1.f])
 | succ k =>
 simp only [x_ContainsFunc_at_impl_isShaped_1.f] at h
 have HR0 := Aside0.mk hr0
 have HC0 := Aside0.mk hc0
 clear hr0 hc0
 have HB := Bw.refl w
 have H : ((x_IndexFunc_at_impl_isShaped_1.f k l0 a1).bind fun t334 => (some (decide (t334 ≥ 0)))) = some r := h
 clear h
 replace H := Option.bind_eq_some_iff.mp H
 obtain ⟨t334, A30, H⟩ := H
 have A3 := Aside0.mk A30
 clear A30
 obtain rfl := Option.some.inj H
 go_enter Try.func118, Try.ntmps118
 go_wp2_with (first | ((with_reducible refine gate_callee (f := 138) rfl ?_); refine goesL_ (some 7) rfl rfl Try.func138 (by kernel_rfl) rfl #[.slice A0 l0.length c0, .func (.func 130) #[] #[.pointer (some ⟨bl, 0, none⟩)]] rfl (by (try simp only [List.map_toArray, List.map_cons, List.map_nil]); first | done | rfl | (simp only [List.length_drop, List.length_take]; rfl)) ?_; (with_reducible refine (ih_x_IndexFunc_at_impl_isShaped_1 k (by omega) _ _ l0 a1 bl t334 _ ?side1 ?side2 ?sidebl A3.out).mono ?_); (case sidebl => first | exact hbl | exact (HB.out.cell (World.block_lt_of_cell? w _ hbl)).trans hbl); (case side1 => repeat (first | exact HR0.out | (with_reducible refine Kd.C_alloc ?_ _) | (with_reducible refine Kd.C_drewN ?_ _) | (with_reducible refine Kd.C_drew ?_))); (case side2 => exact HC0.out); rintro e w4 ⟨rfl, hb⟩; refine ⟨_, rfl, ?_⟩; replace HB := (Bw.sw w hb); (try clear hb)))
 go_ret
 exact ⟨by first | rfl | (simp [errW_none, errW_some] <;> rfl) | (simp [*, errW_none, errW_some] <;> rfl), bw⟩
set_option maxHeartbeats 8000000 in
set_option maxRecDepth 100000 in
theorem impl_isShaped.step (k : Nat) (ih_impl_isShaped_1 : ∀ j, j < k → ∀ (a0_0 : Int) (a0_1 : Int) (A0_2 : Option Addr) (c0_2 : Nat) (l0_2 : List Int) (A0_3 : Option Addr) (c0_3 : Nat) (l0_3 : List (List Int)) (A0_4 : Option Addr) (c0_4 : Nat) (l0_4 : List (S30)) (a1 : Int) (bl : Nat) (r : Bool) (w : World) (hr0_2 : Kd.C (Kd.int .u8) w A0_2 l0_2.length l0_2) (hc0_2 : l0_2.length ≤ c0_2) (hr0_3 : Kd.C (Kd.slice 5 (Kd.int .u8)) w A0_3 l0_3.length l0_3) (hc0_3 : l0_3.length ≤ c0_3) (hr0_4 : Kd.C k30 w A0_4 l0_4.length l0_4) (hc0_4 : l0_4.length ≤ c0_4) (hbl : w.cell? ⟨bl, 0, none⟩ = some (.int .i64 a1)) (h : impl_isShaped_1.f j a0_0 a0_1 l0_2 l0_3 l0_4 a1 = some r),
  Calls Try.prog 130 #[.agg #[.int .i64 a0_0, .int .i64 a0_1, .slice A0_2 l0_2.length c0_2, .slice A0_3 l0_3.length c0_3, .slice A0_4 l0_4.length c0_4], .pointer (some ⟨bl, 0, none⟩)] w fun e w' => e = .returned (.bool r) ∧ Below w.heap.size w w') (ih_x_IndexFunc_at_impl_isShaped_1 : ∀ j, j < k → ∀ (A0 : Option Addr) (c0 : Nat) (l0 : List (S30)) (a1 : Int) (bl : Nat) (r : Int) (w : World) (hr0 : Kd.C k30 w A0 l0.length l0) (hc0 : l0.length ≤ c0) (hbl : w.cell? ⟨bl, 0, none⟩ = some (.int .i64 a1)) (h : x_IndexFunc_at_impl_isShaped_1.f j l0 a1 = some r),
  Calls Try.prog 138 #[.slice A0 l0.length c0, .func (.func 130) #[] #[.pointer (some ⟨bl, 0, none⟩)]] w fun e w' => e = .returned (.int .i64 r) ∧ Below w.heap.size w w') (ih_x_ContainsFunc_at_impl_isShaped_1 : ∀ j, j < k → ∀ (A0 : Option Addr) (c0 : Nat) (l0 : List (S30)) (a1 : Int) (bl : Nat) (r : Bool) (w : World) (hr0 : Kd.C k30 w A0 l0.length l0) (hc0 : l0.length ≤ c0) (hbl : w.cell? ⟨bl, 0, none⟩ = some (.int .i64 a1)) (h : x_ContainsFunc_at_impl_isShaped_1.f j l0 a1 = some r),
  Calls Try.prog 118 #[.slice A0 l0.length c0, .func (.func 130) #[] #[.pointer (some ⟨bl, 0, none⟩)]] w fun e w' => e = .returned (.bool r) ∧ Below w.heap.size w w') (ih : ∀ j, j < k → ∀ (a0_0 : Int) (a0_1 : Int) (A0_2 : Option Addr) (c0_2 : Nat) (l0_2 : List Int) (A0_3 : Option Addr) (c0_3 : Nat) (l0_3 : List (List Int)) (A0_4 : Option Addr) (c0_4 : Nat) (l0_4 : List (S30)) (a1 : Int) (r : Bool) (w : World) (hr0_2 : Kd.C (Kd.int .u8) w A0_2 l0_2.length l0_2) (hc0_2 : l0_2.length ≤ c0_2) (hr0_3 : Kd.C (Kd.slice 5 (Kd.int .u8)) w A0_3 l0_3.length l0_3) (hc0_3 : l0_3.length ≤ c0_3) (hr0_4 : Kd.C k30 w A0_4 l0_4.length l0_4) (hc0_4 : l0_4.length ≤ c0_4) (h : impl_isShaped.f j a0_0 a0_1 l0_2 l0_3 l0_4 a1 = some r),
  Calls Try.prog 102 #[.agg #[.int .i64 a0_0, .int .i64 a0_1, .slice A0_2 l0_2.length c0_2, .slice A0_3 l0_3.length c0_3, .slice A0_4 l0_4.length c0_4], .int .i64 a1] w fun e w' => e = .returned (.bool r) ∧ Below w.heap.size w w') :
  ∀ (a0_0 : Int) (a0_1 : Int) (A0_2 : Option Addr) (c0_2 : Nat) (l0_2 : List Int) (A0_3 : Option Addr) (c0_3 : Nat) (l0_3 : List (List Int)) (A0_4 : Option Addr) (c0_4 : Nat) (l0_4 : List (S30)) (a1 : Int) (r : Bool) (w : World) (hr0_2 : Kd.C (Kd.int .u8) w A0_2 l0_2.length l0_2) (hc0_2 : l0_2.length ≤ c0_2) (hr0_3 : Kd.C (Kd.slice 5 (Kd.int .u8)) w A0_3 l0_3.length l0_3) (hc0_3 : l0_3.length ≤ c0_3) (hr0_4 : Kd.C k30 w A0_4 l0_4.length l0_4) (hc0_4 : l0_4.length ≤ c0_4) (h : impl_isShaped.f k a0_0 a0_1 l0_2 l0_3 l0_4 a1 = some r),
  Calls Try.prog 102 #[.agg #[.int .i64 a0_0, .int .i64 a0_1, .slice A0_2 l0_2.length c0_2, .slice A0_3 l0_3.length c0_3, .slice A0_4 l0_4.length c0_4], .int .i64 a1] w fun e w' => e = .returned (.bool r) ∧ Below w.heap.size w w' := by
 intro a0_0 a0_1 A0_2 c0_2 l0_2 A0_3 c0_3 l0_3 A0_4 c0_4 l0_4 a1 r w hr0_2 hc0_2 hr0_3 hc0_3 hr0_4 hc0_4 h
 cases k with
 | zero => exact absurd h (by simp [impl_isShaped.f])
 | succ k =>
 simp only [impl_isShaped.f] at h
 have hu30 := Try.underlying30
 have HR0_2 := Aside0.mk hr0_2
 have HC0_2 := Aside0.mk hc0_2
 clear hr0_2 hc0_2
 have HR0_3 := Aside0.mk hr0_3
 have HC0_3 := Aside0.mk hc0_3
 clear hr0_3 hc0_3
 have HR0_4 := Aside0.mk hr0_4
 have HC0_4 := Aside0.mk hc0_4
 clear hr0_4 hc0_4
 have HB := Bw.refl w
 have H : (if a1 = 0 then (some false) else (if a0_0 = 0 then (impl_isShaped.j0 k (a0_1 == 0) ((l0_2.length : Int) == 0) ((l0_3.length : Int) == 0) ((l0_4.length : Int) == 0) a0_0 (a0_0 == 0) a0_0 a0_1 l0_2 l0_3 l0_4 a1) else (impl_isShaped.j0 k (a0_1 == 0) ((l0_2.length : Int) == 0) ((l0_3.length : Int) == 0) ((l0_4.length : Int) == 0) a0_0 (a0_0 == 6) a0_0 a0_1 l0_2 l0_3 l0_4 a1))) = some r := h
 clear h
 by_cases c3 : a1 = 0
 ·rw [if_pos c3] at H
  have c3b0 : (a1 == 0) = true := beq_iff_eq.mpr c3
  have c3b1 : (a1 != 0) = false := bne_eq_false_iff_eq.mpr c3
  clear c3
  obtain rfl := Option.some.inj H
  go_enter Try.func102, Try.ntmps102
  go_wp2_with (first | ((with_reducible refine gate_dst (N := 2) rfl ?_); (try (refine gate_guard (by rfl) ?_; dsimp only)); refine box_event rfl (N := 2) rfl (cs := #[.int .i64 a0_0, .int .i64 a0_1, .slice A0_2 l0_2.length c0_2, .slice A0_3 l0_3.length c0_3, .slice A0_4 l0_4.length c0_4]) (t := 30) (by go_simp <;> rfl) ?_; intro gb335 hg w4 hbox hb; have BK335 := Aside0.mk (hbox); have GE335 := (Ge.of hg : Ge w.heap.size gb335); replace HB := (Bw.sw w hb); clear hb hbox hg) | ((with_reducible refine gate_dst (N := 3) rfl ?_); (try (refine gate_guard (by rfl) ?_; dsimp only)); refine box_event rfl (N := 3) rfl (cs := #[.int .i64 a1]) (t := 3) (by go_simp <;> rfl) ?_; intro gb336 hg w5 hbox hb; have BK336 := Aside0.mk (hbox); have GE336 := (Ge.of hg : Ge w.heap.size gb336); replace HB := (Bw.sw w hb); have NB335_336 := Aside0.mk ((by rw [hg]; exact Nat.ne_of_lt (blk_lt (g := gb335) (o := .cells #[.int .i64 a0_0, .int .i64 a0_1, .slice A0_2 l0_2.length c0_2, .slice A0_3 l0_3.length c0_3, .slice A0_4 l0_4.length c0_4] 30 (0, 0)) (by (with_reducible repeat (first | refine blk_drewN ?_ _ | refine blk_drew ?_ | refine blk_alloc ?_ _)); exact BK335.out)) : gb335 ≠ gb336)); have NB336_335 := Aside0.mk ((by rw [hg]; exact Nat.ne_of_gt (blk_lt (g := gb335) (o := .cells #[.int .i64 a0_0, .int .i64 a0_1, .slice A0_2 l0_2.length c0_2, .slice A0_3 l0_3.length c0_3, .slice A0_4 l0_4.length c0_4] 30 (0, 0)) (by (with_reducible repeat (first | refine blk_drewN ?_ _ | refine blk_drew ?_ | refine blk_alloc ?_ _)); exact BK335.out)) : gb336 ≠ gb335)); replace BK335 := Aside0.mk (blk_below (g := gb335) (o := .cells #[.int .i64 a0_0, .int .i64 a0_1, .slice A0_2 l0_2.length c0_2, .slice A0_3 l0_3.length c0_3, .slice A0_4 l0_4.length c0_4] 30 (0, 0)) (by (with_reducible repeat (first | refine blk_drewN ?_ _ | refine blk_drew ?_ | refine blk_alloc ?_ _)); exact BK335.out) hb); clear hb hbox hg; have hnb6 := NB336_335.out; have hnc6 := NB335_336.out; obtain ⟨hcz7_0, hfz7_0⟩ := blk1 BK336.out))
  repeat (go_quiet (first | ((with_reducible refine gate_dst (N := 2) rfl ?_); (try (refine gate_guard (by rfl) ?_; dsimp only)); refine box_event rfl (N := 2) rfl (cs := #[.int .i64 a0_0, .int .i64 a0_1, .slice A0_2 l0_2.length c0_2, .slice A0_3 l0_3.length c0_3, .slice A0_4 l0_4.length c0_4]) (t := 30) (by go_simp <;> rfl) ?_; intro gb335 hg w4 hbox hb; have BK335 := Aside0.mk (hbox); have GE335 := (Ge.of hg : Ge w.heap.size gb335); replace HB := (Bw.sw w hb); clear hb hbox hg) | ((with_reducible refine gate_dst (N := 3) rfl ?_); (try (refine gate_guard (by rfl) ?_; dsimp only)); refine box_event rfl (N := 3) rfl (cs := #[.int .i64 a1]) (t := 3) (by go_simp <;> rfl) ?_; intro gb336 hg w5 hbox hb; have BK336 := Aside0.mk (hbox); have GE336 := (Ge.of hg : Ge w.heap.size gb336); replace HB := (Bw.sw w hb); have NB335_336 := Aside0.mk ((by rw [hg]; exact Nat.ne_of_lt (blk_lt (g := gb335) (o := .cells #[.int .i64 a0_0, .int .i64 a0_1, .slice A0_2 l0_2.length c0_2, .slice A0_3 l0_3.length c0_3, .slice A0_4 l0_4.length c0_4] 30 (0, 0)) (by (with_reducible repeat (first | refine blk_drewN ?_ _ | refine blk_drew ?_ | refine blk_alloc ?_ _)); exact BK335.out)) : gb335 ≠ gb336)); have NB336_335 := Aside0.mk ((by rw [hg]; exact Nat.ne_of_gt (blk_lt (g := gb335) (o := .cells #[.int .i64 a0_0, .int .i64 a0_1, .slice A0_2 l0_2.length c0_2, .slice A0_3 l0_3.length c0_3, .slice A0_4 l0_4.length c0_4] 30 (0, 0)) (by (with_reducible repeat (first | refine blk_drewN ?_ _ | refine blk_drew ?_ | refine blk_alloc ?_ _)); exact BK335.out)) : gb336 ≠ gb335)); replace BK335 := Aside0.mk (blk_below (g := gb335) (o := .cells #[.int .i64 a0_0, .int .i64 a0_1, .slice A0_2 l0_2.length c0_2, .slice A0_3 l0_3.length c0_3, .slice A0_4 l0_4.length c0_4] 30 (0, 0)) (by (with_reducible repeat (first | refine blk_drewN ?_ _ | refine blk_drew ?_ | refine blk_alloc ?_ _)); exact BK335.out) hb); clear hb hbox hg; have hnb6 := NB336_335.out; have hnc6 := NB335_336.out; obtain ⟨hcz7_0, hfz7_0⟩ := blk1 BK336.out)); try go_wp2_with (first | ((with_reducible refine gate_dst (N := 2) rfl ?_); (try (refine gate_guard (by rfl) ?_; dsimp only)); refine box_event rfl (N := 2) rfl (cs := #[.int .i64 a0_0, .int .i64 a0_1, .slice A0_2 l0_2.length c0_2, .slice A0_3 l0_3.length c0_3, .slice A0_4 l0_4.length c0_4]) (t := 30) (by go_simp <;> rfl) ?_; intro gb335 hg w4 hbox hb; have BK335 := Aside0.mk (hbox); have GE335 := (Ge.of hg : Ge w.heap.size gb335); replace HB := (Bw.sw w hb); clear hb hbox hg) | ((with_reducible refine gate_dst (N := 3) rfl ?_); (try (refine gate_guard (by rfl) ?_; dsimp only)); refine box_event rfl (N := 3) rfl (cs := #[.int .i64 a1]) (t := 3) (by go_simp <;> rfl) ?_; intro gb336 hg w5 hbox hb; have BK336 := Aside0.mk (hbox); have GE336 := (Ge.of hg : Ge w.heap.size gb336); replace HB := (Bw.sw w hb); have NB335_336 := Aside0.mk ((by rw [hg]; exact Nat.ne_of_lt (blk_lt (g := gb335) (o := .cells #[.int .i64 a0_0, .int .i64 a0_1, .slice A0_2 l0_2.length c0_2, .slice A0_3 l0_3.length c0_3, .slice A0_4 l0_4.length c0_4] 30 (0, 0)) (by (with_reducible repeat (first | refine blk_drewN ?_ _ | refine blk_drew ?_ | refine blk_alloc ?_ _)); exact BK335.out)) : gb335 ≠ gb336)); have NB336_335 := Aside0.mk ((by rw [hg]; exact Nat.ne_of_gt (blk_lt (g := gb335) (o := .cells #[.int .i64 a0_0, .int .i64 a0_1, .slice A0_2 l0_2.length c0_2, .slice A0_3 l0_3.length c0_3, .slice A0_4 l0_4.length c0_4] 30 (0, 0)) (by (with_reducible repeat (first | refine blk_drewN ?_ _ | refine blk_drew ?_ | refine blk_alloc ?_ _)); exact BK335.out)) : gb336 ≠ gb335)); replace BK335 := Aside0.mk (blk_below (g := gb335) (o := .cells #[.int .i64 a0_0, .int .i64 a0_1, .slice A0_2 l0_2.length c0_2, .slice A0_3 l0_3.length c0_3, .slice A0_4 l0_4.length c0_4] 30 (0, 0)) (by (with_reducible repeat (first | refine blk_drewN ?_ _ | refine blk_drew ?_ | refine blk_alloc ?_ _)); exact BK335.out) hb); clear hb hbox hg; have hnb6 := NB336_335.out; have hnc6 := NB335_336.out; obtain ⟨hcz7_0, hfz7_0⟩ := blk1 BK336.out)))
  go_ret
  exact ⟨by first | rfl | (simp [errW_none, errW_some] <;> rfl) | (simp [*, errW_none, errW_some] <;> rfl), bw⟩
 as_aux_lemma =>
 rw [if_neg c3] at H
 have c3b0 : (a1 == 0) = false := beq_eq_false_iff_ne.mpr c3
 have c3b1 : (a1 != 0) = true := bne_iff_ne.mpr c3
 have HC8 := Aside0.mk H
 clear H
 go_enter Try.func102, Try.ntmps102
 go_upto_if 30 with (first | ((with_reducible refine gate_dst (N := 2) rfl ?_); (try (refine gate_guard (by rfl) ?_; dsimp only)); refine box_event rfl (N := 2) rfl (cs := #[.int .i64 a0_0, .int .i64 a0_1, .slice A0_2 l0_2.length c0_2, .slice A0_3 l0_3.length c0_3, .slice A0_4 l0_4.length c0_4]) (t := 30) (by go_simp <;> rfl) ?_; intro gb335 hg w9 hbox hb; have BK335 := Aside0.mk (hbox); have GE335 := (Ge.of hg : Ge w.heap.size gb335); replace HB := (Bw.sw w hb); clear hb hbox hg) | ((with_reducible refine gate_dst (N := 3) rfl ?_); (try (refine gate_guard (by rfl) ?_; dsimp only)); refine box_event rfl (N := 3) rfl (cs := #[.int .i64 a1]) (t := 3) (by go_simp <;> rfl) ?_; intro gb336 hg w10 hbox hb; have BK336 := Aside0.mk (hbox); have GE336 := (Ge.of hg : Ge w.heap.size gb336); replace HB := (Bw.sw w hb); have NB335_336 := Aside0.mk ((by rw [hg]; exact Nat.ne_of_lt (blk_lt (g := gb335) (o := .cells #[.int .i64 a0_0, .int .i64 a0_1, .slice A0_2 l0_2.length c0_2, .slice A0_3 l0_3.length c0_3, .slice A0_4 l0_4.length c0_4] 30 (0, 0)) (by (with_reducible repeat (first | refine blk_drewN ?_ _ | refine blk_drew ?_ | refine blk_alloc ?_ _)); exact BK335.out)) : gb335 ≠ gb336)); have NB336_335 := Aside0.mk ((by rw [hg]; exact Nat.ne_of_gt (blk_lt (g := gb335) (o := .cells #[.int .i64 a0_0, .int .i64 a0_1, .slice A0_2 l0_2.length c0_2, .slice A0_3 l0_3.length c0_3, .slice A0_4 l0_4.length c0_4] 30 (0, 0)) (by (with_reducible repeat (first | refine blk_drewN ?_ _ | refine blk_drew ?_ | refine blk_alloc ?_ _)); exact BK335.out)) : gb336 ≠ gb335)); replace BK335 := Aside0.mk (blk_below (g := gb335) (o := .cells #[.int .i64 a0_0, .int .i64 a0_1, .slice A0_2 l0_2.length c0_2, .slice A0_3 l0_3.length c0_3, .slice A0_4 l0_4.length c0_4] 30 (0, 0)) (by (with_reducible repeat (first | refine blk_drewN ?_ _ | refine blk_drew ?_ | refine blk_alloc ?_ _)); exact BK335.out) hb); clear hb hbox hg; have hnb11 := NB336_335.out; have hnc11 := NB335_336.out; obtain ⟨hcz12_0, hfz12_0⟩ := blk1 BK336.out; obtain ⟨hcz13_0, hcz13_1, hcz13_2, hcz13_3, hcz13_4, hfz13_0, hfz13_1, hfz13_2, hfz13_3, hfz13_4⟩ := blk5 BK335.out))
 repeat (go_quiet (first | ((with_reducible refine gate_dst (N := 2) rfl ?_); (try (refine gate_guard (by rfl) ?_; dsimp only)); refine box_event rfl (N := 2) rfl (cs := #[.int .i64 a0_0, .int .i64 a0_1, .slice A0_2 l0_2.length c0_2, .slice A0_3 l0_3.length c0_3, .slice A0_4 l0_4.length c0_4]) (t := 30) (by go_simp <;> rfl) ?_; intro gb335 hg w9 hbox hb; have BK335 := Aside0.mk (hbox); have GE335 := (Ge.of hg : Ge w.heap.size gb335); replace HB := (Bw.sw w hb); clear hb hbox hg) | ((with_reducible refine gate_dst (N := 3) rfl ?_); (try (refine gate_guard (by rfl) ?_; dsimp only)); refine box_event rfl (N := 3) rfl (cs := #[.int .i64 a1]) (t := 3) (by go_simp <;> rfl) ?_; intro gb336 hg w10 hbox hb; have BK336 := Aside0.mk (hbox); have GE336 := (Ge.of hg : Ge w.heap.size gb336); replace HB := (Bw.sw w hb); have NB335_336 := Aside0.mk ((by rw [hg]; exact Nat.ne_of_lt (blk_lt (g := gb335) (o := .cells #[.int .i64 a0_0, .int .i64 a0_1, .slice A0_2 l0_2.length c0_2, .slice A0_3 l0_3.length c0_3, .slice A0_4 l0_4.length c0_4] 30 (0, 0)) (by (with_reducible repeat (first | refine blk_drewN ?_ _ | refine blk_drew ?_ | refine blk_alloc ?_ _)); exact BK335.out)) : gb335 ≠ gb336)); have NB336_335 := Aside0.mk ((by rw [hg]; exact Nat.ne_of_gt (blk_lt (g := gb335) (o := .cells #[.int .i64 a0_0, .int .i64 a0_1, .slice A0_2 l0_2.length c0_2, .slice A0_3 l0_3.length c0_3, .slice A0_4 l0_4.length c0_4] 30 (0, 0)) (by (with_reducible repeat (first | refine blk_drewN ?_ _ | refine blk_drew ?_ | refine blk_alloc ?_ _)); exact BK335.out)) : gb336 ≠ gb335)); replace BK335 := Aside0.mk (blk_below (g := gb335) (o := .cells #[.int .i64 a0_0, .int .i64 a0_1, .slice A0_2 l0_2.length c0_2, .slice A0_3 l0_3.length c0_3, .slice A0_4 l0_4.length c0_4] 30 (0, 0)) (by (with_reducible repeat (first | refine blk_drewN ?_ _ | refine blk_drew ?_ | refine blk_alloc ?_ _)); exact BK335.out) hb); clear hb hbox hg; have hnb11 := NB336_335.out; have hnc11 := NB335_336.out; obtain ⟨hcz12_0, hfz12_0⟩ := blk1 BK336.out; obtain ⟨hcz13_0, hcz13_1, hcz13_2, hcz13_3, hcz13_4, hfz13_0, hfz13_1, hfz13_2, hfz13_3, hfz13_4⟩ := blk5 BK335.out)); go_upto_if 30 with (first | ((with_reducible refine gate_dst (N := 2) rfl ?_); (try (refine gate_guard (by rfl) ?_; dsimp only)); refine box_event rfl (N := 2) rfl (cs := #[.int .i64 a0_0, .int .i64 a0_1, .slice A0_2 l0_2.length c0_2, .slice A0_3 l0_3.length c0_3, .slice A0_4 l0_4.length c0_4]) (t := 30) (by go_simp <;> rfl) ?_; intro gb335 hg w9 hbox hb; have BK335 := Aside0.mk (hbox); have GE335 := (Ge.of hg : Ge w.heap.size gb335); replace HB := (Bw.sw w hb); clear hb hbox hg) | ((with_reducible refine gate_dst (N := 3) rfl ?_); (try (refine gate_guard (by rfl) ?_; dsimp only)); refine box_event rfl (N := 3) rfl (cs := #[.int .i64 a1]) (t := 3) (by go_simp <;> rfl) ?_; intro gb336 hg w10 hbox hb; have BK336 := Aside0.mk (hbox); have GE336 := (Ge.of hg : Ge w.heap.size gb336); replace HB := (Bw.sw w hb); have NB335_336 := Aside0.mk ((by rw [hg]; exact Nat.ne_of_lt (blk_lt (g := gb335) (o := .cells #[.int .i64 a0_0, .int .i64 a0_1, .slice A0_2 l0_2.length c0_2, .slice A0_3 l0_3.length c0_3, .slice A0_4 l0_4.length c0_4] 30 (0, 0)) (by (with_reducible repeat (first | refine blk_drewN ?_ _ | refine blk_drew ?_ | refine blk_alloc ?_ _)); exact BK335.out)) : gb335 ≠ gb336)); have NB336_335 := Aside0.mk ((by rw [hg]; exact Nat.ne_of_gt (blk_lt (g := gb335) (o := .cells #[.int .i64 a0_0, .int .i64 a0_1, .slice A0_2 l0_2.length c0_2, .slice A0_3 l0_3.length c0_3, .slice A0_4 l0_4.length c0_4] 30 (0, 0)) (by (with_reducible repeat (first | refine blk_drewN ?_ _ | refine blk_drew ?_ | refine blk_alloc ?_ _)); exact BK335.out)) : gb336 ≠ gb335)); replace BK335 := Aside0.mk (blk_below (g := gb335) (o := .cells #[.int .i64 a0_0, .int .i64 a0_1, .slice A0_2 l0_2.length c0_2, .slice A0_3 l0_3.length c0_3, .slice A0_4 l0_4.length c0_4] 30 (0, 0)) (by (with_reducible repeat (first | refine blk_drewN ?_ _ | refine blk_drew ?_ | refine blk_alloc ?_ _)); exact BK335.out) hb); clear hb hbox hg; have hnb11 := NB336_335.out; have hnc11 := NB335_336.out; obtain ⟨hcz12_0, hfz12_0⟩ := blk1 BK336.out; obtain ⟨hcz13_0, hcz13_1, hcz13_2, hcz13_3, hcz13_4, hfz13_0, hfz13_1, hfz13_2, hfz13_3, hfz13_4⟩ := blk5 BK335.out)))
 (try simp only [Act.put, List.setIfInBounds_toArray, List.set_cons_zero, List.set_cons_succ])
 go_cut [30] (fun v30 wc => ∃ (kq : Nat) (x30_7 : Bool), v30 = .bool x30_7 ∧ Aside0 (impl_isShaped.j0 kq (a0_1 == 0) ((l0_2.length : Int) == 0) ((l0_3.length : Int) == 0) ((l0_4.length : Int) == 0) a0_0 x30_7 a0_0 a0_1 l0_2 l0_3 l0_4 a1 = some r) ∧ Aside0 (kq ≤ k) ∧ Aside0 (wc.heap[gb335]? = some (.cells #[.int .i64 a0_0, .int .i64 a0_1, (.slice A0_2 l0_2.length c0_2), (.slice A0_3 l0_3.length c0_3), (.slice A0_4 l0_4.length c0_4)] 30 (0, 0))) ∧ Aside0 (wc.heap[gb336]? = some (.cells #[.int .i64 a1] 3 (0, 0))) ∧ Bw w wc)
 case first =>
  have H := HC8.out
  clear HC8
  by_cases c14 : a0_0 = 0
  ·rw [if_pos c14] at H
   have c14b0 : (a0_0 == 0) = true := beq_iff_eq.mpr c14
   have c14b1 : (a0_0 != 0) = false := bne_eq_false_iff_eq.mpr c14
   clear c14
   (first | rw [c14b0] | (simp only [i64_w, i32_w]; rw [c14b0]) | skip)
   have H' := Aside0.mk H
   clear H
   go_wp2
   repeat (go_quiet (fail); try go_wp2)
   go_meet
   case rel => exact ⟨_, ((a0_0 == 0)), (by first | rfl | (simp; done) | (simp [*]; done)), H', ⟨by first | omega | exact Nat.le_refl _⟩, ⟨by (with_reducible repeat (first | refine blk_drewN ?_ _ | refine blk_drew ?_ | refine blk_alloc ?_ _)); exact BK335.out⟩, ⟨by (with_reducible repeat (first | refine blk_drewN ?_ _ | refine blk_drew ?_ | refine blk_alloc ?_ _)); exact BK336.out⟩, ⟨bw⟩⟩
  rw [if_neg c14] at H
  have c14b0 : (a0_0 == 0) = false := beq_eq_false_iff_ne.mpr c14
  have c14b1 : (a0_0 != 0) = true := bne_iff_ne.mpr c14
  (first | rw [c14b0] | (simp only [i64_w, i32_w]; rw [c14b0]) | skip)
  have H' := Aside0.mk H
  clear H
  go_wp2
  repeat (go_quiet (fail); try go_wp2)
  go_meet
  case rel => exact ⟨_, ((a0_0 == 6)), (by first | rfl | (simp; done) | (simp [*]; done)), H', ⟨by first | omega | exact Nat.le_refl _⟩, ⟨by (with_reducible repeat (first | refine blk_drewN ?_ _ | refine blk_drew ?_ | refine blk_alloc ?_ _)); exact BK335.out⟩, ⟨by (with_reducible repeat (first | refine blk_drewN ?_ _ | refine blk_drew ?_ | refine blk_alloc ?_ _)); exact BK336.out⟩, ⟨bw⟩⟩
 case rest =>
  as_aux_lemma =>
  clear HC8
  try clear c3
  try clear c3b0
  try clear c3b1
  try clear c14
  try clear c14b0
  try clear c14b1
  try clear hcz12_0
  try clear hcz13_0 hcz13_1 hcz13_2 hcz13_3 hcz13_4
  try clear hcz7_0
  try clear hfz12_0
  try clear hfz13_0 hfz13_1 hfz13_2 hfz13_3 hfz13_4
  try clear hfz7_0
  obtain ⟨kq, x30_7, rfl, HA, HJ7, BK335, BK336, HB⟩ := hcut
  cases kq with
  | zero => exact absurd HA.out (by simp [impl_isShaped.j0])
  | succ kj7 =>
   have H := HA.out
   clear HA
   simp only [impl_isShaped.j0] at H
   by_cases c15 : x30_7 = true
   ·subst c15
    replace H := (if_pos rfl).symm.trans H
    by_cases c16 : (a0_1 == 0) = true
    rotate_left
    ·rw [if_neg c16] at H
     have c16b0 : (a0_1 == 0) = false := by simpa using c16
     (try (have c16b1 : decide (a0_1 = 0) = false := by simpa using c16))
     (try (have c16b2 : (a0_1 == 0) = false := by simpa using c16))
     (try (have c16b3 : ¬ (a0_1 = 0) := by simpa using c16))
     clear c16
     obtain rfl := Option.some.inj H
     go_wp2
     repeat (go_quiet (fail); try go_wp2)
     go_ret
     exact ⟨by first | rfl | (simp [errW_none, errW_some] <;> rfl) | (simp [*, errW_none, errW_some] <;> rfl), bw⟩
    rw [if_pos c16] at H
    have c16b0 : (a0_1 == 0) = true := c16
    (try (have c16b1 : decide (a0_1 = 0) = true := by simpa using c16))
    (try (have c16b2 : (a0_1 == 0) = true := by simpa using c16))
    clear c16
    by_cases c17 : ((l0_2.length : Int) == 0) = true
    rotate_left
    ·rw [if_neg c17] at H
     have c17b0 : ((l0_2.length : Int) == 0) = false := by simpa using c17
     (try (have c17b1 : decide ((l0_2.length : Int) = 0) = false := by simpa using c17))
     (try (have c17b2 : ((l0_2.length : Int) == 0) = false := by simpa using c17))
     (try (have c17b3 : ¬ ((l0_2.length : Int) = 0) := by simpa using c17))
     clear c17
     obtain rfl := Option.some.inj H
     go_wp2
     repeat (go_quiet (fail); try go_wp2)
     go_ret
     exact ⟨by first | rfl | (simp [errW_none, errW_some] <;> rfl) | (simp [*, errW_none, errW_some] <;> rfl), bw⟩
    rw [if_pos c17] at H
    have c17b0 : ((l0_2.length : Int) == 0) = true := c17
    (try (have c17b1 : decide ((l0_2.length : Int) = 0) = true := by simpa using c17))
    (try (have c17b2 : ((l0_2.length : Int) == 0) = true := by simpa using c17))
    clear c17
    by_cases c18 : ((l0_3.length : Int) == 0) = true
    ·rw [if_pos c18] at H
     have c18b0 : ((l0_3.length : Int) == 0) = true := c18
     (try (have c18b1 : decide ((l0_3.length : Int) = 0) = true := by simpa using c18))
     (try (have c18b2 : ((l0_3.length : Int) == 0) = true := by simpa using c18))
     clear c18
     obtain rfl := Option.some.inj H
     go_wp2
     repeat (go_quiet (fail); try go_wp2)
     go_ret
     exact ⟨by first | rfl | (simp [errW_none, errW_some] <;> rfl) | (simp [*, errW_none, errW_some] <;> rfl), bw⟩
    rw [if_neg c18] at H
    have c18b0 : ((l0_3.length : Int) == 0) = false := by simpa using c18
    (try (have c18b1 : decide ((l0_3.length : Int) = 0) = false := by simpa using c18))
    (try (have c18b2 : ((l0_3.length : Int) == 0) = false := by simpa using c18))
    (try (have c18b3 : ¬ ((l0_3.length : Int) = 0) := by simpa using c18))
    clear c18
    obtain rfl := Option.some.inj H
    go_wp2
    repeat (go_quiet (fail); try go_wp2)
    go_ret
    exact ⟨by first | rfl | (simp [errW_none, errW_some] <;> rfl) | (simp [*, errW_none, errW_some] <;> rfl), bw⟩
   as_aux_lemma =>
   replace c15 := Bool.eq_false_iff.mpr c15
   subst c15
   replace H := (if_neg (show ¬ (false = true) by decide)).symm.trans H
   by_cases c19 : a0_0 = 1
   ·rw [if_pos c19] at H
    have c19b0 : (a0_0 == 1) = true := beq_iff_eq.mpr c19
    have c19b1 : (a0_0 != 1) = false := bne_eq_false_iff_eq.mpr c19
    clear c19
    replace H := Option.bind_eq_some_iff.mp H
    obtain ⟨t337, A200, H⟩ := H
    have A20 := Aside0.mk A200
    clear A200
    by_cases c21 : t337 = true
    rotate_left
    ·replace c21 := Bool.eq_false_iff.mpr c21
     subst c21
     replace H := (if_neg (show ¬ (false = true) by decide)).symm.trans H
     obtain rfl := Option.some.inj H
     have hnb30 := NB335_336.out
     have hnc30 := NB336_335.out
     obtain ⟨hcz31_0, hcz31_1, hcz31_2, hcz31_3, hcz31_4, hfz31_0, hfz31_1, hfz31_2, hfz31_3, hfz31_4⟩ := blk5 BK335.out
     go_wp2_with (first | (go_at_call 124; (with_reducible refine (impl_in.calls a0_1 0 1 false _ A20.out).mono ?_); rintro e w' ⟨rfl, ⟨nd, rfl⟩⟩; (try first | exact ⟨rfl, _, World.drewN_drewN _ _ _⟩ | exact ⟨rfl, _, Eq.trans (World.drewN_drewN _ _ _) (congrArg (World.drewN _) (Nat.add_assoc _ _ _))⟩)))
     repeat (go_quiet (first | (go_at_call 124; (with_reducible refine (impl_in.calls a0_1 0 1 false _ A20.out).mono ?_); rintro e w' ⟨rfl, ⟨nd, rfl⟩⟩; (try first | exact ⟨rfl, _, World.drewN_drewN _ _ _⟩ | exact ⟨rfl, _, Eq.trans (World.drewN_drewN _ _ _) (congrArg (World.drewN _) (Nat.add_assoc _ _ _))⟩))); try go_wp2_with (first | (go_at_call 124; (with_reducible refine (impl_in.calls a0_1 0 1 false _ A20.out).mono ?_); rintro e w' ⟨rfl, ⟨nd, rfl⟩⟩; (try first | exact ⟨rfl, _, World.drewN_drewN _ _ _⟩ | exact ⟨rfl, _, Eq.trans (World.drewN_drewN _ _ _) (congrArg (World.drewN _) (Nat.add_assoc _ _ _))⟩))))
     go_ret
     exact ⟨by first | rfl | (simp [errW_none, errW_some] <;> rfl) | (simp [*, errW_none, errW_some] <;> rfl), bw⟩
    subst c21
    replace H := (if_pos rfl).symm.trans H
    by_cases c22 : ((l0_2.length : Int) == 0) = true
    rotate_left
    ·rw [if_neg c22] at H
     have c22b0 : ((l0_2.length : Int) == 0) = false := by simpa using c22
     (try (have c22b1 : decide ((l0_2.length : Int) = 0) = false := by simpa using c22))
     (try (have c22b2 : ((l0_2.length : Int) == 0) = false := by simpa using c22))
     (try (have c22b3 : ¬ ((l0_2.length : Int) = 0) := by simpa using c22))
     clear c22
     obtain rfl := Option.some.inj H
     have hnb28 := NB335_336.out
     have hnc28 := NB336_335.out
     obtain ⟨hcz29_0, hcz29_1, hcz29_2, hcz29_3, hcz29_4, hfz29_0, hfz29_1, hfz29_2, hfz29_3, hfz29_4⟩ := blk5 BK335.out
     go_wp2_with (first | (go_at_call 124; (with_reducible refine (impl_in.calls a0_1 0 1 true _ A20.out).mono ?_); rintro e w' ⟨rfl, ⟨nd, rfl⟩⟩; (try first | exact ⟨rfl, _, World.drewN_drewN _ _ _⟩ | exact ⟨rfl, _, Eq.trans (World.drewN_drewN _ _ _) (congrArg (World.drewN _) (Nat.add_assoc _ _ _))⟩)))
     repeat (go_quiet (first | (go_at_call 124; (with_reducible refine (impl_in.calls a0_1 0 1 true _ A20.out).mono ?_); rintro e w' ⟨rfl, ⟨nd, rfl⟩⟩; (try first | exact ⟨rfl, _, World.drewN_drewN _ _ _⟩ | exact ⟨rfl, _, Eq.trans (World.drewN_drewN _ _ _) (congrArg (World.drewN _) (Nat.add_assoc _ _ _))⟩))); try go_wp2_with (first | (go_at_call 124; (with_reducible refine (impl_in.calls a0_1 0 1 true _ A20.out).mono ?_); rintro e w' ⟨rfl, ⟨nd, rfl⟩⟩; (try first | exact ⟨rfl, _, World.drewN_drewN _ _ _⟩ | exact ⟨rfl, _, Eq.trans (World.drewN_drewN _ _ _) (congrArg (World.drewN _) (Nat.add_assoc _ _ _))⟩))))
     go_ret
     exact ⟨by first | rfl | (simp [errW_none, errW_some] <;> rfl) | (simp [*, errW_none, errW_some] <;> rfl), bw⟩
    rw [if_pos c22] at H
    have c22b0 : ((l0_2.length : Int) == 0) = true := c22
    (try (have c22b1 : decide ((l0_2.length : Int) = 0) = true := by simpa using c22))
    (try (have c22b2 : ((l0_2.length : Int) == 0) = true := by simpa using c22))
    clear c22
    by_cases c23 : ((l0_3.length : Int) == 0) = true
    ·rw [if_pos c23] at H
     have c23b0 : ((l0_3.length : Int) == 0) = true := c23
     (try (have c23b1 : decide ((l0_3.length : Int) = 0) = true := by simpa using c23))
     (try (have c23b2 : ((l0_3.length : Int) == 0) = true := by simpa using c23))
     clear c23
     obtain rfl := Option.some.inj H
     have hnb24 := NB335_336.out
     have hnc24 := NB336_335.out
     obtain ⟨hcz25_0, hcz25_1, hcz25_2, hcz25_3, hcz25_4, hfz25_0, hfz25_1, hfz25_2, hfz25_3, hfz25_4⟩ := blk5 BK335.out
     go_wp2_with (first | (go_at_call 124; (with_reducible refine (impl_in.calls a0_1 0 1 true _ A20.out).mono ?_); rintro e w' ⟨rfl, ⟨nd, rfl⟩⟩; (try first | exact ⟨rfl, _, World.drewN_drewN _ _ _⟩ | exact ⟨rfl, _, Eq.trans (World.drewN_drewN _ _ _) (congrArg (World.drewN _) (Nat.add_assoc _ _ _))⟩)))
     repeat (go_quiet (first | (go_at_call 124; (with_reducible refine (impl_in.calls a0_1 0 1 true _ A20.out).mono ?_); rintro e w' ⟨rfl, ⟨nd, rfl⟩⟩; (try first | exact ⟨rfl, _, World.drewN_drewN _ _ _⟩ | exact ⟨rfl, _, Eq.trans (World.drewN_drewN _ _ _) (congrArg (World.drewN _) (Nat.add_assoc _ _ _))⟩))); try go_wp2_with (first | (go_at_call 124; (with_reducible refine (impl_in.calls a0_1 0 1 true _ A20.out).mono ?_); rintro e w' ⟨rfl, ⟨nd, rfl⟩⟩; (try first | exact ⟨rfl, _, World.drewN_drewN _ _ _⟩ | exact ⟨rfl, _, Eq.trans (World.drewN_drewN _ _ _) (congrArg (World.drewN _) (Nat.add_assoc _ _ _))⟩))))
     go_ret
     exact ⟨by first | rfl | (simp [errW_none, errW_some] <;> rfl) | (simp [*, errW_none, errW_some] <;> rfl), bw⟩
    rw [if_neg c23] at H
    have c23b0 : ((l0_3.length : Int) == 0) = false := by simpa using c23
    (try (have c23b1 : decide ((l0_3.length : Int) = 0) = false := by simpa using c23))
    (try (have c23b2 : ((l0_3.length : Int) == 0) = false := by simpa using c23))
    (try (have c23b3 : ¬ ((l0_3.length : Int) = 0) := by simpa using c23))
    clear c23
    obtain rfl := Option.some.inj H
    have hnb26 := NB335_336.out
    have hnc26 := NB336_335.out
    obtain ⟨hcz27_0, hcz27_1, hcz27_2, hcz27_3, hcz27_4, hfz27_0, hfz27_1, hfz27_2, hfz27_3, hfz27_4⟩ := blk5 BK335.out
    go_wp2_with (first | (go_at_call 124; (with_reducible refine (impl_in.calls a0_1 0 1 true _ A20.out).mono ?_); rintro e w' ⟨rfl, ⟨nd, rfl⟩⟩; (try first | exact ⟨rfl, _, World.drewN_drewN _ _ _⟩ | exact ⟨rfl, _, Eq.trans (World.drewN_drewN _ _ _) (congrArg (World.drewN _) (Nat.add_assoc _ _ _))⟩)))
    repeat (go_quiet (first | (go_at_call 124; (with_reducible refine (impl_in.calls a0_1 0 1 true _ A20.out).mono ?_); rintro e w' ⟨rfl, ⟨nd, rfl⟩⟩; (try first | exact ⟨rfl, _, World.drewN_drewN _ _ _⟩ | exact ⟨rfl, _, Eq.trans (World.drewN_drewN _ _ _) (congrArg (World.drewN _) (Nat.add_assoc _ _ _))⟩))); try go_wp2_with (first | (go_at_call 124; (with_reducible refine (impl_in.calls a0_1 0 1 true _ A20.out).mono ?_); rintro e w' ⟨rfl, ⟨nd, rfl⟩⟩; (try first | exact ⟨rfl, _, World.drewN_drewN _ _ _⟩ | exact ⟨rfl, _, Eq.trans (World.drewN_drewN _ _ _) (congrArg (World.drewN _) (Nat.add_assoc _ _ _))⟩))))
    go_ret
    exact ⟨by first | rfl | (simp [errW_none, errW_some] <;> rfl) | (simp [*, errW_none, errW_some] <;> rfl), bw⟩
   as_aux_lemma =>
   rw [if_neg c19] at H
   have c19b0 : (a0_0 == 1) = false := beq_eq_false_iff_ne.mpr c19
   have c19b1 : (a0_0 != 1) = true := bne_iff_ne.mpr c19
   by_cases c32 : a0_0 = 2
   ·rw [if_pos c32] at H
    have c32b0 : (a0_0 == 2) = true := beq_iff_eq.mpr c32
    have c32b1 : (a0_0 != 2) = false := bne_eq_false_iff_eq.mpr c32
    clear c32
    replace H := Option.bind_eq_some_iff.mp H
    obtain ⟨t338, A330, H⟩ := H
    have A33 := Aside0.mk A330
    clear A330
    by_cases c34 : t338 = true
    rotate_left
    ·replace c34 := Bool.eq_false_iff.mpr c34
     subst c34
     replace H := (if_neg (show ¬ (false = true) by decide)).symm.trans H
     obtain rfl := Option.some.inj H
     have hnb43 := NB335_336.out
     have hnc43 := NB336_335.out
     obtain ⟨hcz44_0, hcz44_1, hcz44_2, hcz44_3, hcz44_4, hfz44_0, hfz44_1, hfz44_2, hfz44_3, hfz44_4⟩ := blk5 BK335.out
     go_wp2_with (first | (go_at_call 124; (with_reducible refine (impl_in.calls a0_1 (-1000000000000) 1000000000000 false _ A33.out).mono ?_); rintro e w' ⟨rfl, ⟨nd, rfl⟩⟩; (try first | exact ⟨rfl, _, World.drewN_drewN _ _ _⟩ | exact ⟨rfl, _, Eq.trans (World.drewN_drewN _ _ _) (congrArg (World.drewN _) (Nat.add_assoc _ _ _))⟩)))
     repeat (go_quiet (first | (go_at_call 124; (with_reducible refine (impl_in.calls a0_1 (-1000000000000) 1000000000000 false _ A33.out).mono ?_); rintro e w' ⟨rfl, ⟨nd, rfl⟩⟩; (try first | exact ⟨rfl, _, World.drewN_drewN _ _ _⟩ | exact ⟨rfl, _, Eq.trans (World.drewN_drewN _ _ _) (congrArg (World.drewN _) (Nat.add_assoc _ _ _))⟩))); try go_wp2_with (first | (go_at_call 124; (with_reducible refine (impl_in.calls a0_1 (-1000000000000) 1000000000000 false _ A33.out).mono ?_); rintro e w' ⟨rfl, ⟨nd, rfl⟩⟩; (try first | exact ⟨rfl, _, World.drewN_drewN _ _ _⟩ | exact ⟨rfl, _, Eq.trans (World.drewN_drewN _ _ _) (congrArg (World.drewN _) (Nat.add_assoc _ _ _))⟩))))
     go_ret
     exact ⟨by first | rfl | (simp [errW_none, errW_some] <;> rfl) | (simp [*, errW_none, errW_some] <;> rfl), bw⟩
    subst c34
    replace H := (if_pos rfl).symm.trans H
    by_cases c35 : ((l0_2.length : Int) == 0) = true
    rotate_left
    ·rw [if_neg c35] at H
     have c35b0 : ((l0_2.length : Int) == 0) = false := by simpa using c35
     (try (have c35b1 : decide ((l0_2.length : Int) = 0) = false := by simpa using c35))
     (try (have c35b2 : ((l0_2.length : Int) == 0) = false := by simpa using c35))
     (try (have c35b3 : ¬ ((l0_2.length : Int) = 0) := by simpa using c35))
     clear c35
     obtain rfl := Option.some.inj H
     have hnb41 := NB335_336.out
     have hnc41 := NB336_335.out
     obtain ⟨hcz42_0, hcz42_1, hcz42_2, hcz42_3, hcz42_4, hfz42_0, hfz42_1, hfz42_2, hfz42_3, hfz42_4⟩ := blk5 BK335.out
     go_wp2_with (first | (go_at_call 124; (with_reducible refine (impl_in.calls a0_1 (-1000000000000) 1000000000000 true _ A33.out).mono ?_); rintro e w' ⟨rfl, ⟨nd, rfl⟩⟩; (try first | exact ⟨rfl, _, World.drewN_drewN _ _ _⟩ | exact ⟨rfl, _, Eq.trans (World.drewN_drewN _ _ _) (congrArg (World.drewN _) (Nat.add_assoc _ _ _))⟩)))
     repeat (go_quiet (first | (go_at_call 124; (with_reducible refine (impl_in.calls a0_1 (-1000000000000) 1000000000000 true _ A33.out).mono ?_); rintro e w' ⟨rfl, ⟨nd, rfl⟩⟩; (try first | exact ⟨rfl, _, World.drewN_drewN _ _ _⟩ | exact ⟨rfl, _, Eq.trans (World.drewN_drewN _ _ _) (congrArg (World.drewN _) (Nat.add_assoc _ _ _))⟩))); try go_wp2_with (first | (go_at_call 124; (with_reducible refine (impl_in.calls a0_1 (-1000000000000) 1000000000000 true _ A33.out).mono ?_); rintro e w' ⟨rfl, ⟨nd, rfl⟩⟩; (try first | exact ⟨rfl, _, World.drewN_drewN _ _ _⟩ | exact ⟨rfl, _, Eq.trans (World.drewN_drewN _ _ _) (congrArg (World.drewN _) (Nat.add_assoc _ _ _))⟩))))
     go_ret
     exact ⟨by first | rfl | (simp [errW_none, errW_some] <;> rfl) | (simp [*, errW_none, errW_some] <;> rfl), bw⟩
    rw [if_pos c35] at H
    have c35b0 : ((l0_2.length : Int) == 0) = true := c35
    (try (have c35b1 : decide ((l0_2.length : Int) = 0) = true := by simpa using c35))
    (try (have c35b2 : ((l0_2.length : Int) == 0) = true := by simpa using c35))
    clear c35
    by_cases c36 : ((l0_3.length : Int) == 0) = true
    ·rw [if_pos c36] at H
     have c36b0 : ((l0_3.length : Int) == 0) = true := c36
     (try (have c36b1 : decide ((l0_3.length : Int) = 0) = true := by simpa using c36))
     (try (have c36b2 : ((l0_3.length : Int) == 0) = true := by simpa using c36))
     clear c36
     obtain rfl := Option.some.inj H
     have hnb37 := NB335_336.out
     have hnc37 := NB336_335.out
     obtain ⟨hcz38_0, hcz38_1, hcz38_2, hcz38_3, hcz38_4, hfz38_0, hfz38_1, hfz38_2, hfz38_3, hfz38_4⟩ := blk5 BK335.out
     go_wp2_with (first | (go_at_call 124; (with_reducible refine (impl_in.calls a0_1 (-1000000000000) 1000000000000 true _ A33.out).mono ?_); rintro e w' ⟨rfl, ⟨nd, rfl⟩⟩; (try first | exact ⟨rfl, _, World.drewN_drewN _ _ _⟩ | exact ⟨rfl, _, Eq.trans (World.drewN_drewN _ _ _) (congrArg (World.drewN _) (Nat.add_assoc _ _ _))⟩)))
     repeat (go_quiet (first | (go_at_call 124; (with_reducible refine (impl_in.calls a0_1 (-1000000000000) 1000000000000 true _ A33.out).mono ?_); rintro e w' ⟨rfl, ⟨nd, rfl⟩⟩; (try first | exact ⟨rfl, _, World.drewN_drewN _ _ _⟩ | exact ⟨rfl, _, Eq.trans (World.drewN_drewN _ _ _) (congrArg (World.drewN _) (Nat.add_assoc _ _ _))⟩))); try go_wp2_with (first | (go_at_call 124; (with_reducible refine (impl_in.calls a0_1 (-1000000000000) 1000000000000 true _ A33.out).mono ?_); rintro e w' ⟨rfl, ⟨nd, rfl⟩⟩; (try first | exact ⟨rfl, _, World.drewN_drewN _ _ _⟩ | exact ⟨rfl, _, Eq.trans (World.drewN_drewN _ _ _) (congrArg (World.drewN _) (Nat.add_assoc _ _ _))⟩))))
     go_ret
     exact ⟨by first | rfl | (simp [errW_none, errW_some] <;> rfl) | (simp [*, errW_none, errW_some] <;> rfl), bw⟩
    rw [if_neg c36] at H
    have c36b0 : ((l0_3.length : Int) == 0) = false := by simpa using c36
    (try (have c36b1 : decide ((l0_3.length : Int) = 0) = false := by simpa using c36))
    (try (have c36b2 : ((l0_3.length : Int) == 0) = false := by simpa using c36))
    (try (have c36b3 : ¬ ((l0_3.length : Int) = 0) := by simpa using c36))
    clear c36
    obtain rfl := Option.some.inj H
    have hnb39 := NB335_336.out
    have hnc39 := NB336_335.out
    obtain ⟨hcz40_0, hcz40_1, hcz40_2, hcz40_3, hcz40_4, hfz40_0, hfz40_1, hfz40_2, hfz40_3, hfz40_4⟩ := blk5 BK335.out
    go_wp2_with (first | (go_at_call 124; (with_reducible refine (impl_in.calls a0_1 (-1000000000000) 1000000000000 true _ A33.out).mono ?_); rintro e w' ⟨rfl, ⟨nd, rfl⟩⟩; (try first | exact ⟨rfl, _, World.drewN_drewN _ _ _⟩ | exact ⟨rfl, _, Eq.trans (World.drewN_drewN _ _ _) (congrArg (World.drewN _) (Nat.add_assoc _ _ _))⟩)))
    repeat (go_quiet (first | (go_at_call 124; (with_reducible refine (impl_in.calls a0_1 (-1000000000000) 1000000000000 true _ A33.out).mono ?_); rintro e w' ⟨rfl, ⟨nd, rfl⟩⟩; (try first | exact ⟨rfl, _, World.drewN_drewN _ _ _⟩ | exact ⟨rfl, _, Eq.trans (World.drewN_drewN _ _ _) (congrArg (World.drewN _) (Nat.add_assoc _ _ _))⟩))); try go_wp2_with (first | (go_at_call 124; (with_reducible refine (impl_in.calls a0_1 (-1000000000000) 1000000000000 true _ A33.out).mono ?_); rintro e w' ⟨rfl, ⟨nd, rfl⟩⟩; (try first | exact ⟨rfl, _, World.drewN_drewN _ _ _⟩ | exact ⟨rfl, _, Eq.trans (World.drewN_drewN _ _ _) (congrArg (World.drewN _) (Nat.add_assoc _ _ _))⟩))))
    go_ret
    exact ⟨by first | rfl | (simp [errW_none, errW_some] <;> rfl) | (simp [*, errW_none, errW_some] <;> rfl), bw⟩
   as_aux_lemma =>
   rw [if_neg c32] at H
   have c32b0 : (a0_0 == 2) = false := beq_eq_false_iff_ne.mpr c32
   have c32b1 : (a0_0 != 2) = true := bne_iff_ne.mpr c32
   by_cases c45 : a0_0 = 3
   ·as_aux_lemma =>
    rw [if_pos c45] at H
    have c45b0 : (a0_0 == 3) = true := beq_iff_eq.mpr c45
    have c45b1 : (a0_0 != 3) = false := bne_eq_false_iff_eq.mpr c45
    clear c45
    replace H := Option.bind_eq_some_iff.mp H
    obtain ⟨t339, A460, H⟩ := H
    have A46 := Aside0.mk A460
    clear A460
    by_cases c47 : t339 = true
    rotate_left
    ·replace c47 := Bool.eq_false_iff.mpr c47
     subst c47
     replace H := (if_neg (show ¬ (false = true) by decide)).symm.trans H
     obtain rfl := Option.some.inj H
     have hnb56 := NB335_336.out
     have hnc56 := NB336_335.out
     obtain ⟨hcz57_0, hcz57_1, hcz57_2, hcz57_3, hcz57_4, hfz57_0, hfz57_1, hfz57_2, hfz57_3, hfz57_4⟩ := blk5 BK335.out
     go_wp2_with (first | (go_at_call 129; (with_reducible refine (impl_isText.calls kj7 _ _ l0_2 false _ ?side1 ?side2 A46.out).mono ?_); (case side1 => repeat (first | exact (Kd.C_below HR0_2.out HB.out) | (with_reducible refine Kd.C_alloc ?_ _) | (with_reducible refine Kd.C_drewN ?_ _) | (with_reducible refine Kd.C_drew ?_))); (case side2 => exact HC0_2.out); rintro e w' ⟨rfl, ⟨nd, rfl⟩⟩; (try first | exact ⟨rfl, _, World.drewN_drewN _ _ _⟩ | exact ⟨rfl, _, Eq.trans (World.drewN_drewN _ _ _) (congrArg (World.drewN _) (Nat.add_assoc _ _ _))⟩)))
     repeat (go_quiet (first | (go_at_call 129; (with_reducible refine (impl_isText.calls kj7 _ _ l0_2 false _ ?side1 ?side2 A46.out).mono ?_); (case side1 => repeat (first | exact (Kd.C_below HR0_2.out HB.out) | (with_reducible refine Kd.C_alloc ?_ _) | (with_reducible refine Kd.C_drewN ?_ _) | (with_reducible refine Kd.C_drew ?_))); (case side2 => exact HC0_2.out); rintro e w' ⟨rfl, ⟨nd, rfl⟩⟩; (try first | exact ⟨rfl, _, World.drewN_drewN _ _ _⟩ | exact ⟨rfl, _, Eq.trans (World.drewN_drewN _ _ _) (congrArg (World.drewN _) (Nat.add_assoc _ _ _))⟩))); try go_wp2_with (first | (go_at_call 129; (with_reducible refine (impl_isText.calls kj7 _ _ l0_2 false _ ?side1 ?side2 A46.out).mono ?_); (case side1 => repeat (first | exact (Kd.C_below HR0_2.out HB.out) | (with_reducible refine Kd.C_alloc ?_ _) | (with_reducible refine Kd.C_drewN ?_ _) | (with_reducible refine Kd.C_drew ?_))); (case side2 => exact HC0_2.out); rintro e w' ⟨rfl, ⟨nd, rfl⟩⟩; (try first | exact ⟨rfl, _, World.drewN_drewN _ _ _⟩ | exact ⟨rfl, _, Eq.trans (World.drewN_drewN _ _ _) (congrArg (World.drewN _) (Nat.add_assoc _ _ _))⟩))))
     go_ret
     exact ⟨by first | rfl | (simp [errW_none, errW_some] <;> rfl) | (simp [*, errW_none, errW_some] <;> rfl), bw⟩
    subst c47
    replace H := (if_pos rfl).symm.trans H
    by_cases c48 : (a0_1 == 0) = true
    rotate_left
    ·rw [if_neg c48] at H
     have c48b0 : (a0_1 == 0) = false := by simpa using c48
     (try (have c48b1 : decide (a0_1 = 0) = false := by simpa using c48))
     (try (have c48b2 : (a0_1 == 0) = false := by simpa using c48))
     (try (have c48b3 : ¬ (a0_1 = 0) := by simpa using c48))
     clear c48
     obtain rfl := Option.some.inj H
     have hnb54 := NB335_336.out
     have hnc54 := NB336_335.out
     obtain ⟨hcz55_0, hcz55_1, hcz55_2, hcz55_3, hcz55_4, hfz55_0, hfz55_1, hfz55_2, hfz55_3, hfz55_4⟩ := blk5 BK335.out
     go_wp2_with (first | (go_at_call 129; (with_reducible refine (impl_isText.calls kj7 _ _ l0_2 true _ ?side1 ?side2 A46.out).mono ?_); (case side1 => repeat (first | exact (Kd.C_below HR0_2.out HB.out) | (with_reducible refine Kd.C_alloc ?_ _) | (with_reducible refine Kd.C_drewN ?_ _) | (with_reducible refine Kd.C_drew ?_))); (case side2 => exact HC0_2.out); rintro e w' ⟨rfl, ⟨nd, rfl⟩⟩; (try first | exact ⟨rfl, _, World.drewN_drewN _ _ _⟩ | exact ⟨rfl, _, Eq.trans (World.drewN_drewN _ _ _) (congrArg (World.drewN _) (Nat.add_assoc _ _ _))⟩)))
     repeat (go_quiet (first | (go_at_call 129; (with_reducible refine (impl_isText.calls kj7 _ _ l0_2 true _ ?side1 ?side2 A46.out).mono ?_); (case side1 => repeat (first | exact (Kd.C_below HR0_2.out HB.out) | (with_reducible refine Kd.C_alloc ?_ _) | (with_reducible refine Kd.C_drewN ?_ _) | (with_reducible refine Kd.C_drew ?_))); (case side2 => exact HC0_2.out); rintro e w' ⟨rfl, ⟨nd, rfl⟩⟩; (try first | exact ⟨rfl, _, World.drewN_drewN _ _ _⟩ | exact ⟨rfl, _, Eq.trans (World.drewN_drewN _ _ _) (congrArg (World.drewN _) (Nat.add_assoc _ _ _))⟩))); try go_wp2_with (first | (go_at_call 129; (with_reducible refine (impl_isText.calls kj7 _ _ l0_2 true _ ?side1 ?side2 A46.out).mono ?_); (case side1 => repeat (first | exact (Kd.C_below HR0_2.out HB.out) | (with_reducible refine Kd.C_alloc ?_ _) | (with_reducible refine Kd.C_drewN ?_ _) | (with_reducible refine Kd.C_drew ?_))); (case side2 => exact HC0_2.out); rintro e w' ⟨rfl, ⟨nd, rfl⟩⟩; (try first | exact ⟨rfl, _, World.drewN_drewN _ _ _⟩ | exact ⟨rfl, _, Eq.trans (World.drewN_drewN _ _ _) (congrArg (World.drewN _) (Nat.add_assoc _ _ _))⟩))))
     go_ret
     exact ⟨by first | rfl | (simp [errW_none, errW_some] <;> rfl) | (simp [*, errW_none, errW_some] <;> rfl), bw⟩
    rw [if_pos c48] at H
    have c48b0 : (a0_1 == 0) = true := c48
    (try (have c48b1 : decide (a0_1 = 0) = true := by simpa using c48))
    (try (have c48b2 : (a0_1 == 0) = true := by simpa using c48))
    clear c48
    by_cases c49 : ((l0_3.length : Int) == 0) = true
    ·rw [if_pos c49] at H
     have c49b0 : ((l0_3.length : Int) == 0) = true := c49
     (try (have c49b1 : decide ((l0_3.length : Int) = 0) = true := by simpa using c49))
     (try (have c49b2 : ((l0_3.length : Int) == 0) = true := by simpa using c49))
     clear c49
     obtain rfl := Option.some.inj H
     have hnb50 := NB335_336.out
     have hnc50 := NB336_335.out
     obtain ⟨hcz51_0, hcz51_1, hcz51_2, hcz51_3, hcz51_4, hfz51_0, hfz51_1, hfz51_2, hfz51_3, hfz51_4⟩ := blk5 BK335.out
     go_wp2_with (first | (go_at_call 129; (with_reducible refine (impl_isText.calls kj7 _ _ l0_2 true _ ?side1 ?side2 A46.out).mono ?_); (case side1 => repeat (first | exact (Kd.C_below HR0_2.out HB.out) | (with_reducible refine Kd.C_alloc ?_ _) | (with_reducible refine Kd.C_drewN ?_ _) | (with_reducible refine Kd.C_drew ?_))); (case side2 => exact HC0_2.out); rintro e w' ⟨rfl, ⟨nd, rfl⟩⟩; (try first | exact ⟨rfl, _, World.drewN_drewN _ _ _⟩ | exact ⟨rfl, _, Eq.trans (World.drewN_drewN _ _ _) (congrArg (World.drewN _) (Nat.add_assoc _ _ _))⟩)))
     repeat (go_quiet (first | (go_at_call 129; (with_reducible refine (impl_isText.calls kj7 _ _ l0_2 true _ ?side1 ?side2 A46.out).mono ?_); (case side1 => repeat (first | exact (Kd.C_below HR0_2.out HB.out) | (with_reducible refine Kd.C_alloc ?_ _) | (with_reducible refine Kd.C_drewN ?_ _) | (with_reducible refine Kd.C_drew ?_))); (case side2 => exact HC0_2.out); rintro e w' ⟨rfl, ⟨nd, rfl⟩⟩; (try first | exact ⟨rfl, _, World.drewN_drewN _ _ _⟩ | exact ⟨rfl, _, Eq.trans (World.drewN_drewN _ _ _) (congrArg (World.drewN _) (Nat.add_assoc _ _ _))⟩))); try go_wp2_with (first | (go_at_call 129; (with_reducible refine (impl_isText.calls kj7 _ _ l0_2 true _ ?side1 ?side2 A46.out).mono ?_); (case side1 => repeat (first | exact (Kd.C_below HR0_2.out HB.out) | (with_reducible refine Kd.C_alloc ?_ _) | (with_reducible refine Kd.C_drewN ?_ _) | (with_reducible refine Kd.C_drew ?_))); (case side2 => exact HC0_2.out); rintro e w' ⟨rfl, ⟨nd, rfl⟩⟩; (try first | exact ⟨rfl, _, World.drewN_drewN _ _ _⟩ | exact ⟨rfl, _, Eq.trans (World.drewN_drewN _ _ _) (congrArg (World.drewN _) (Nat.add_assoc _ _ _))⟩))))
     go_ret
     exact ⟨by first | rfl | (simp [errW_none, errW_some] <;> rfl) | (simp [*, errW_none, errW_some] <;> rfl), bw⟩
    rw [if_neg c49] at H
    have c49b0 : ((l0_3.length : Int) == 0) = false := by simpa using c49
    (try (have c49b1 : decide ((l0_3.length : Int) = 0) = false := by simpa using c49))
    (try (have c49b2 : ((l0_3.length : Int) == 0) = false := by simpa using c49))
    (try (have c49b3 : ¬ ((l0_3.length : Int) = 0) := by simpa using c49))
    clear c49
    obtain rfl := Option.some.inj H
    have hnb52 := NB335_336.out
    have hnc52 := NB336_335.out
    obtain ⟨hcz53_0, hcz53_1, hcz53_2, hcz53_3, hcz53_4, hfz53_0, hfz53_1, hfz53_2, hfz53_3, hfz53_4⟩ := blk5 BK335.out
    go_wp2_with (first | (go_at_call 129; (with_reducible refine (impl_isText.calls kj7 _ _ l0_2 true _ ?side1 ?side2 A46.out).mono ?_); (case side1 => repeat (first | exact (Kd.C_below HR0_2.out HB.out) | (with_reducible refine Kd.C_alloc ?_ _) | (with_reducible refine Kd.C_drewN ?_ _) | (with_reducible refine Kd.C_drew ?_))); (case side2 => exact HC0_2.out); rintro e w' ⟨rfl, ⟨nd, rfl⟩⟩; (try first | exact ⟨rfl, _, World.drewN_drewN _ _ _⟩ | exact ⟨rfl, _, Eq.trans (World.drewN_drewN _ _ _) (congrArg (World.drewN _) (Nat.add_assoc _ _ _))⟩)))
    repeat (go_quiet (first | (go_at_call 129; (with_reducible refine (impl_isText.calls kj7 _ _ l0_2 true _ ?side1 ?side2 A46.out).mono ?_); (case side1 => repeat (first | exact (Kd.C_below HR0_2.out HB.out) | (with_reducible refine Kd.C_alloc ?_ _) | (with_reducible refine Kd.C_drewN ?_ _) | (with_reducible refine Kd.C_drew ?_))); (case side2 => exact HC0_2.out); rintro e w' ⟨rfl, ⟨nd, rfl⟩⟩; (try first | exact ⟨rfl, _, World.drewN_drewN _ _ _⟩ | exact ⟨rfl, _, Eq.trans (World.drewN_drewN _ _ _) (congrArg (World.drewN _) (Nat.add_assoc _ _ _))⟩))); try go_wp2_with (first | (go_at_call 129; (with_reducible refine (impl_isText.calls kj7 _ _ l0_2 true _ ?side1 ?side2 A46.out).mono ?_); (case side1 => repeat (first | exact (Kd.C_below HR0_2.out HB.out) | (with_reducible refine Kd.C_alloc ?_ _) | (with_reducible refine Kd.C_drewN ?_ _) | (with_reducible refine Kd.C_drew ?_))); (case side2 => exact HC0_2.out); rintro e w' ⟨rfl, ⟨nd, rfl⟩⟩; (try first | exact ⟨rfl, _, World.drewN_drewN _ _ _⟩ | exact ⟨rfl, _, Eq.trans (World.drewN_drewN _ _ _) (congrArg (World.drewN _) (Nat.add_assoc _ _ _))⟩))))
    go_ret
    exact ⟨by first | rfl | (simp [errW_none, errW_some] <;> rfl) | (simp [*, errW_none, errW_some] <;> rfl), bw⟩
   as_aux_lemma =>
   rw [if_neg c45] at H
   have c45b0 : (a0_0 == 3) = false := beq_eq_false_iff_ne.mpr c45
   have c45b1 : (a0_0 != 3) = true := bne_iff_ne.mpr c45
   by_cases c58 : a0_0 = 4
   ·rw [if_pos c58] at H
    have c58b0 : (a0_0 == 4) = true := beq_iff_eq.mpr c58
    have c58b1 : (a0_0 != 4) = false := bne_eq_false_iff_eq.mpr c58
    clear c58
    by_cases c59 : ((l0_3.length : Int) == 0) = true
    rotate_left
    ·rw [if_neg c59] at H
     have c59b0 : ((l0_3.length : Int) == 0) = false := by simpa using c59
     (try (have c59b1 : decide ((l0_3.length : Int) = 0) = false := by simpa using c59))
     (try (have c59b2 : ((l0_3.length : Int) == 0) = false := by simpa using c59))
     (try (have c59b3 : ¬ ((l0_3.length : Int) = 0) := by simpa using c59))
     clear c59
     obtain rfl := Option.some.inj H
     go_wp2
     repeat (go_quiet (fail); try go_wp2)
     go_ret
     exact ⟨by first | rfl | (simp [errW_none, errW_some] <;> rfl) | (simp [*, errW_none, errW_some] <;> rfl), bw⟩
    rw [if_pos c59] at H
    have c59b0 : ((l0_3.length : Int) == 0) = true := c59
    (try (have c59b1 : decide ((l0_3.length : Int) = 0) = true := by simpa using c59))
    (try (have c59b2 : ((l0_3.length : Int) == 0) = true := by simpa using c59))
    clear c59
    by_cases c60 : (a0_1 == 0) = true
    rotate_left
    ·rw [if_neg c60] at H
     have c60b0 : (a0_1 == 0) = false := by simpa using c60
     (try (have c60b1 : decide (a0_1 = 0) = false := by simpa using c60))
     (try (have c60b2 : (a0_1 == 0) = false := by simpa using c60))
     (try (have c60b3 : ¬ (a0_1 = 0) := by simpa using c60))
     clear c60
     obtain rfl := Option.some.inj H
     go_wp2
     repeat (go_quiet (fail); try go_wp2)
     go_ret
     exact ⟨by first | rfl | (simp [errW_none, errW_some] <;> rfl) | (simp [*, errW_none, errW_some] <;> rfl), bw⟩
    rw [if_pos c60] at H
    have c60b0 : (a0_1 == 0) = true := c60
    (try (have c60b1 : decide (a0_1 = 0) = true := by simpa using c60))
    (try (have c60b2 : (a0_1 == 0) = true := by simpa using c60))
    clear c60
    by_cases c61 : ((l0_2.length : Int) == 0) = true
    rotate_left
    ·rw [if_neg c61] at H
     have c61b0 : ((l0_2.length : Int) == 0) = false := by simpa using c61
     (try (have c61b1 : decide ((l0_2.length : Int) = 0) = false := by simpa using c61))
     (try (have c61b2 : ((l0_2.length : Int) == 0) = false := by simpa using c61))
     (try (have c61b3 : ¬ ((l0_2.length : Int) = 0) := by simpa using c61))
     clear c61
     obtain rfl := Option.some.inj H
     go_wp2
     repeat (go_quiet (fail); try go_wp2)
     go_ret
     exact ⟨by first | rfl | (simp [errW_none, errW_some] <;> rfl) | (simp [*, errW_none, errW_some] <;> rfl), bw⟩
    rw [if_pos c61] at H
    have c61b0 : ((l0_2.length : Int) == 0) = true := c61
    (try (have c61b1 : decide ((l0_2.length : Int) = 0) = true := by simpa using c61))
    (try (have c61b2 : ((l0_2.length : Int) == 0) = true := by simpa using c61))
    clear c61
    by_cases c62 : (l0_4.length : Int) ≤ 40
    rotate_left
    ·rw [if_neg c62] at H
     have c62b0 : decide ((l0_4.length : Int) ≤ 40) = false := decide_eq_false c62
     have c62b1 : decide (l0_4.length ≤ 40) = false := decide_eq_false (by omega)
     clear c62
     obtain rfl := Option.some.inj H
     have hnb68 := NB335_336.out
     have hnc68 := NB336_335.out
     obtain ⟨hcz69_0, hcz69_1, hcz69_2, hcz69_3, hcz69_4, hfz69_0, hfz69_1, hfz69_2, hfz69_3, hfz69_4⟩ := blk5 BK335.out
     go_wp2
     repeat (go_quiet (fail); try go_wp2)
     go_ret
     exact ⟨by first | rfl | (simp [errW_none, errW_some] <;> rfl) | (simp [*, errW_none, errW_some] <;> rfl), bw⟩
    rw [if_pos c62] at H
    have c62b0 : decide ((l0_4.length : Int) ≤ 40) = true := decide_eq_true c62
    have c62b1 : decide (l0_4.length ≤ 40) = true := decide_eq_true (by omega)
    clear c62
    replace H := Option.bind_eq_some_iff.mp H
    obtain ⟨t340, A630, H⟩ := H
    have A63 := Aside0.mk A630
    clear A630
    obtain rfl := Option.some.inj H
    have hnb64 := NB335_336.out
    have hnc64 := NB336_335.out
    obtain ⟨hcz65_0, hcz65_1, hcz65_2, hcz65_3, hcz65_4, hfz65_0, hfz65_1, hfz65_2, hfz65_3, hfz65_4⟩ := blk5 BK335.out
    obtain ⟨hcz66_0, hfz66_0⟩ := blk1 BK336.out
    go_wp2_with (first | (go_at_call 118; (with_reducible refine (ih_x_ContainsFunc_at_impl_isShaped_1 kj7 (by have := HJ7.out; omega) _ _ l0_4 a1 gb336 t340 _ ?side1 ?side2 ?sidebl A63.out).mono ?_); (case sidebl => exact (blk_cell (by (with_reducible repeat (first | refine blk_drewN ?_ _ | refine blk_drew ?_ | refine blk_alloc ?_ _)); exact BK336.out) 0).trans rfl); (case side1 => repeat (first | exact (Kd.C_below HR0_4.out HB.out) | (with_reducible refine Kd.C_alloc ?_ _) | (with_reducible refine Kd.C_drewN ?_ _) | (with_reducible refine Kd.C_drew ?_))); (case side2 => exact HC0_4.out); rintro e w67 ⟨rfl, hb⟩; replace BK335 := Aside0.mk (blk_below (g := gb335) (o := .cells #[.int .i64 a0_0, .int .i64 a0_1, .slice A0_2 l0_2.length c0_2, .slice A0_3 l0_3.length c0_3, .slice A0_4 l0_4.length c0_4] 30 (0, 0)) (by (with_reducible repeat (first | refine blk_drewN ?_ _ | refine blk_drew ?_ | refine blk_alloc ?_ _)); exact BK335.out) hb); replace BK336 := Aside0.mk (blk_below (g := gb336) (o := .cells #[.int .i64 a1] 3 (0, 0)) (by (with_reducible repeat (first | refine blk_drewN ?_ _ | refine blk_drew ?_ | refine blk_alloc ?_ _)); exact BK336.out) hb); replace HB := (Bw.sw w hb); (try clear hb)))
    repeat (go_quiet (first | (go_at_call 118; (with_reducible refine (ih_x_ContainsFunc_at_impl_isShaped_1 kj7 (by have := HJ7.out; omega) _ _ l0_4 a1 gb336 t340 _ ?side1 ?side2 ?sidebl A63.out).mono ?_); (case sidebl => exact (blk_cell (by (with_reducible repeat (first | refine blk_drewN ?_ _ | refine blk_drew ?_ | refine blk_alloc ?_ _)); exact BK336.out) 0).trans rfl); (case side1 => repeat (first | exact (Kd.C_below HR0_4.out HB.out) | (with_reducible refine Kd.C_alloc ?_ _) | (with_reducible refine Kd.C_drewN ?_ _) | (with_reducible refine Kd.C_drew ?_))); (case side2 => exact HC0_4.out); rintro e w67 ⟨rfl, hb⟩; replace BK335 := Aside0.mk (blk_below (g := gb335) (o := .cells #[.int .i64 a0_0, .int .i64 a0_1, .slice A0_2 l0_2.length c0_2, .slice A0_3 l0_3.length c0_3, .slice A0_4 l0_4.length c0_4] 30 (0, 0)) (by (with_reducible repeat (first | refine blk_drewN ?_ _ | refine blk_drew ?_ | refine blk_alloc ?_ _)); exact BK335.out) hb); replace BK336 := Aside0.mk (blk_below (g := gb336) (o := .cells #[.int .i64 a1] 3 (0, 0)) (by (with_reducible repeat (first | refine blk_drewN ?_ _ | refine blk_drew ?_ | refine blk_alloc ?_ _)); exact BK336.out) hb); replace HB := (Bw.sw w hb); (try clear hb))); try go_wp2_with (first | (go_at_call 118; (with_reducible refine (ih_x_ContainsFunc_at_impl_isShaped_1 kj7 (by have := HJ7.out; omega) _ _ l0_4 a1 gb336 t340 _ ?side1 ?side2 ?sidebl A63.out).mono ?_); (case sidebl => exact (blk_cell (by (with_reducible repeat (first | refine blk_drewN ?_ _ | refine blk_drew ?_ | refine blk_alloc ?_ _)); exact BK336.out) 0).trans rfl); (case side1 => repeat (first | exact (Kd.C_below HR0_4.out HB.out) | (with_reducible refine Kd.C_alloc ?_ _) | (with_reducible refine Kd.C_drewN ?_ _) | (with_reducible refine Kd.C_drew ?_))); (case side2 => exact HC0_4.out); rintro e w67 ⟨rfl, hb⟩; replace BK335 := Aside0.mk (blk_below (g := gb335) (o := .cells #[.int .i64 a0_0, .int .i64 a0_1, .slice A0_2 l0_2.length c0_2, .slice A0_3 l0_3.length c0_3, .slice A0_4 l0_4.length c0_4] 30 (0, 0)) (by (with_reducible repeat (first | refine blk_drewN ?_ _ | refine blk_drew ?_ | refine blk_alloc ?_ _)); exact BK335.out) hb); replace BK336 := Aside0.mk (blk_below (g := gb336) (o := .cells #[.int .i64 a1] 3 (0, 0)) (by (with_reducible repeat (first | refine blk_drewN ?_ _ | refine blk_drew ?_ | refine blk_alloc ?_ _)); exact BK336.out) hb); replace HB := (Bw.sw w hb); (try clear hb))))
    go_ret
    exact ⟨by first | rfl | (simp [errW_none, errW_some] <;> rfl) | (simp [*, errW_none, errW_some] <;> rfl), bw⟩
   as_aux_lemma =>
   rw [if_neg c58] at H
   have c58b0 : (a0_0 == 4) = false := beq_eq_false_iff_ne.mpr c58
   have c58b1 : (a0_0 != 4) = true := bne_iff_ne.mpr c58
   by_cases c70 : a0_0 = 5
   rotate_left
   ·rw [if_neg c70] at H
    have c70b0 : (a0_0 == 5) = false := beq_eq_false_iff_ne.mpr c70
    have c70b1 : (a0_0 != 5) = true := bne_iff_ne.mpr c70
    obtain rfl := Option.some.inj H
    go_wp2
    repeat (go_quiet (fail); try go_wp2)
    go_ret
    exact ⟨by first | rfl | (simp [errW_none, errW_some] <;> rfl) | (simp [*, errW_none, errW_some] <;> rfl), bw⟩
   as_aux_lemma =>
   rw [if_pos c70] at H
   have c70b0 : (a0_0 == 5) = true := beq_iff_eq.mpr c70
   have c70b1 : (a0_0 != 5) = false := bne_eq_false_iff_eq.mpr c70
   clear c70
   by_cases c71 : (l0_3.length : Int) = (l0_4.length : Int)
   rotate_left
   ·rw [if_neg c71] at H
    have c71b0 : ((l0_3.length : Int) == (l0_4.length : Int)) = false := beq_eq_false_iff_ne.mpr c71
    have c71b1 : ((l0_3.length : Int) != (l0_4.length : Int)) = true := bne_iff_ne.mpr c71
    have c71b2 : (l0_3.length == l0_4.length) = false := by first | simpa using c71 | (simp at c71 ⊢; omega)
    obtain rfl := Option.some.inj H
    have hnb99 := NB335_336.out
    have hnc99 := NB336_335.out
    obtain ⟨hcz100_0, hcz100_1, hcz100_2, hcz100_3, hcz100_4, hfz100_0, hfz100_1, hfz100_2, hfz100_3, hfz100_4⟩ := blk5 BK335.out
    go_wp2
    repeat (go_quiet (fail); try go_wp2)
    go_ret
    exact ⟨by first | rfl | (simp [errW_none, errW_some] <;> rfl) | (simp [*, errW_none, errW_some] <;> rfl), bw⟩
   as_aux_lemma =>
   rw [if_pos c71] at H
   have c71b0 : ((l0_3.length : Int) == (l0_4.length : Int)) = true := beq_iff_eq.mpr c71
   have c71b1 : ((l0_3.length : Int) != (l0_4.length : Int)) = false := bne_eq_false_iff_eq.mpr c71
   have c71b2 : (l0_3.length == l0_4.length) = true := by first | simpa using c71 | (simp at c71 ⊢; omega)
   clear c71
   have H' := Aside0.mk H
   clear H
   have hnb72 := NB335_336.out
   have hnc72 := NB336_335.out
   obtain ⟨hcz73_0, hcz73_1, hcz73_2, hcz73_3, hcz73_4, hfz73_0, hfz73_1, hfz73_2, hfz73_3, hfz73_4⟩ := blk5 BK335.out
   go_wp2
   repeat (go_quiet (fail); try go_wp2)
   go_loopg [101] kj7 (fun kq v101 w' => ∃ (x101_2 : Int), v101 = .int .i64 x101_2 ∧ Aside0 (impl_isShaped.l0 kq (a0_1 == 0) ((l0_2.length : Int) == 0) l0_3 (l0_3.length : Int) x101_2 a0_0 a0_1 l0_2 l0_3 l0_4 a1 = some r) ∧ Aside0 (kq ≤ kj7) ∧ Aside0 (w'.heap[gb335]? = some (.cells #[.int .i64 a0_0, .int .i64 a0_1, (.slice A0_2 l0_2.length c0_2), (.slice A0_3 l0_3.length c0_3), (.slice A0_4 l0_4.length c0_4)] 30 (0, 0))) ∧ Aside0 (w'.heap[gb336]? = some (.cells #[.int .i64 a1] 3 (0, 0))) ∧ Bw w w')
   case atStart => exact ⟨(0), (by first | rfl | (simp; done) | (simp [*]; done)), H', ⟨Nat.le_refl _⟩, ⟨by (with_reducible repeat (first | refine blk_drewN ?_ _ | refine blk_drew ?_ | refine blk_alloc ?_ _)); exact BK335.out⟩, ⟨by (with_reducible repeat (first | refine blk_drewN ?_ _ | refine blk_drew ?_ | refine blk_alloc ?_ _)); exact BK336.out⟩, ⟨bw⟩⟩
   case round =>
    as_aux_lemma =>
    clear H'
    try clear c3
    try clear c3b0
    try clear c3b1
    try clear c14
    try clear c14b0
    try clear c14b1
    try clear c15
    try clear c16
    try clear c16b0
    try clear c16b1
    try clear c16b2
    try clear c17
    try clear c17b0
    try clear c17b1
    try clear c17b2
    try clear c18
    try clear c18b0
    try clear c18b1
    try clear c18b2
    try clear c19
    try clear c19b0
    try clear c19b1
    try clear c21
    try clear c22
    try clear c22b0
    try clear c22b1
    try clear c22b2
    try clear c23
    try clear c23b0
    try clear c23b1
    try clear c23b2
    try clear c32
    try clear c32b0
    try clear c32b1
    try clear c34
    try clear c35
    try clear c35b0
    try clear c35b1
    try clear c35b2
    try clear c36
    try clear c36b0
    try clear c36b1
    try clear c36b2
    try clear c45
    try clear c45b0
    try clear c45b1
    try clear c47
    try clear c48
    try clear c48b0
    try clear c48b1
    try clear c48b2
    try clear c49
    try clear c49b0
    try clear c49b1
    try clear c49b2
    try clear c58
    try clear c58b0
    try clear c58b1
    try clear c59
    try clear c59b0
    try clear c59b1
    try clear c59b2
    try clear c60
    try clear c60b0
    try clear c60b1
    try clear c60b2
    try clear c61
    try clear c61b0
    try clear c61b1
    try clear c61b2
    try clear c62
    try clear c62b0
    try clear c62b1
    try clear c70
    try clear c70b0
    try clear c70b1
    try clear c71
    try clear c71b0
    try clear c71b1
    try clear c71b2
    try clear hcz12_0
    try clear hcz13_0 hcz13_1 hcz13_2 hcz13_3 hcz13_4
    try clear hcz25_0 hcz25_1 hcz25_2 hcz25_3 hcz25_4
    try clear hcz27_0 hcz27_1 hcz27_2 hcz27_3 hcz27_4
    try clear hcz29_0 hcz29_1 hcz29_2 hcz29_3 hcz29_4
    try clear hcz31_0 hcz31_1 hcz31_2 hcz31_3 hcz31_4
    try clear hcz38_0 hcz38_1 hcz38_2 hcz38_3 hcz38_4
    try clear hcz40_0 hcz40_1 hcz40_2 hcz40_3 hcz40_4
    try clear hcz42_0 hcz42_1 hcz42_2 hcz42_3 hcz42_4
    try clear hcz44_0 hcz44_1 hcz44_2 hcz44_3 hcz44_4
    try clear hcz51_0 hcz51_1 hcz51_2 hcz51_3 hcz51_4
    try clear hcz53_0 hcz53_1 hcz53_2 hcz53_3 hcz53_4
    try clear hcz55_0 hcz55_1 hcz55_2 hcz55_3 hcz55_4
    try clear hcz57_0 hcz57_1 hcz57_2 hcz57_3 hcz57_4
    try clear hcz65_0 hcz65_1 hcz65_2 hcz65_3 hcz65_4
    try clear hcz66_0
    try clear hcz69_0 hcz69_1 hcz69_2 hcz69_3 hcz69_4
    try clear hcz73_0 hcz73_1 hcz73_2 hcz73_3 hcz73_4
    try clear hcz7_0
    try clear hfz12_0
    try clear hfz13_0 hfz13_1 hfz13_2 hfz13_3 hfz13_4
    try clear hfz25_0 hfz25_1 hfz25_2 hfz25_3 hfz25_4
    try clear hfz27_0 hfz27_1 hfz27_2 hfz27_3 hfz27_4
    try clear hfz29_0 hfz29_1 hfz29_2 hfz29_3 hfz29_4
    try clear hfz31_0 hfz31_1 hfz31_2 hfz31_3 hfz31_4
    try clear hfz38_0 hfz38_1 hfz38_2 hfz38_3 hfz38_4
    try clear hfz40_0 hfz40_1 hfz40_2 hfz40_3 hfz40_4
    try clear hfz42_0 hfz42_1 hfz42_2 hfz42_3 hfz42_4
    try clear hfz44_0 hfz44_1 hfz44_2 hfz44_3 hfz44_4
    try clear hfz51_0 hfz51_1 hfz51_2 hfz51_3 hfz51_4
    try clear hfz53_0 hfz53_1 hfz53_2 hfz53_3 hfz53_4
    try clear hfz55_0 hfz55_1 hfz55_2 hfz55_3 hfz55_4
    try clear hfz57_0 hfz57_1 hfz57_2 hfz57_3 hfz57_4
    try clear hfz65_0 hfz65_1 hfz65_2 hfz65_3 hfz65_4
    try clear hfz66_0
    try clear hfz69_0 hfz69_1 hfz69_2 hfz69_3 hfz69_4
    try clear hfz73_0 hfz73_1 hfz73_2 hfz73_3 hfz73_4
    try clear hfz7_0
    obtain ⟨x101_2, rfl, HA, HK2, BK335, BK336, HB⟩ := hrel
    cases gk with
    | zero => exact absurd HA.out (by simp [impl_isShaped.l0])
    | succ k2 =>
     have H := HA.out
     clear HA
     simp only [impl_isShaped.l0] at H
     by_cases c74 : x101_2 < (l0_3.length : Int)
     rotate_left
     ·rw [if_neg c74] at H
      have c74b0 : decide (x101_2 < (l0_3.length : Int)) = false := decide_eq_false c74
      clear c74
      by_cases c89 : (a0_1 == 0) = true
      rotate_left
      ·rw [if_neg c89] at H
       have c89b0 : (a0_1 == 0) = false := by simpa using c89
       (try (have c89b1 : decide (a0_1 = 0) = false := by simpa using c89))
       (try (have c89b2 : (a0_1 == 0) = false := by simpa using c89))
       (try (have c89b3 : ¬ (a0_1 = 0) := by simpa using c89))
       clear c89
       obtain rfl := Option.some.inj H
       go_wp2
       repeat (go_quiet (fail); try go_wp2)
       go_ret
       exact ⟨by first | rfl | (simp [errW_none, errW_some] <;> rfl) | (simp [*, errW_none, errW_some] <;> rfl), bw⟩
      rw [if_pos c89] at H
      have c89b0 : (a0_1 == 0) = true := c89
      (try (have c89b1 : decide (a0_1 = 0) = true := by simpa using c89))
      (try (have c89b2 : (a0_1 == 0) = true := by simpa using c89))
      clear c89
      by_cases c90 : ((l0_2.length : Int) == 0) = true
      rotate_left
      ·rw [if_neg c90] at H
       have c90b0 : ((l0_2.length : Int) == 0) = false := by simpa using c90
       (try (have c90b1 : decide ((l0_2.length : Int) = 0) = false := by simpa using c90))
       (try (have c90b2 : ((l0_2.length : Int) == 0) = false := by simpa using c90))
       (try (have c90b3 : ¬ ((l0_2.length : Int) = 0) := by simpa using c90))
       clear c90
       obtain rfl := Option.some.inj H
       go_wp2
       repeat (go_quiet (fail); try go_wp2)
       go_ret
       exact ⟨by first | rfl | (simp [errW_none, errW_some] <;> rfl) | (simp [*, errW_none, errW_some] <;> rfl), bw⟩
      rw [if_pos c90] at H
      have c90b0 : ((l0_2.length : Int) == 0) = true := c90
      (try (have c90b1 : decide ((l0_2.length : Int) = 0) = true := by simpa using c90))
      (try (have c90b2 : ((l0_2.length : Int) == 0) = true := by simpa using c90))
      clear c90
      by_cases c91 : (l0_4.length : Int) ≤ 40
      rotate_left
      ·rw [if_neg c91] at H
       have c91b0 : decide ((l0_4.length : Int) ≤ 40) = false := decide_eq_false c91
       have c91b1 : decide (l0_4.length ≤ 40) = false := decide_eq_false (by omega)
       clear c91
       obtain rfl := Option.some.inj H
       have hnb97 := NB335_336.out
       have hnc97 := NB336_335.out
       obtain ⟨hcz98_0, hcz98_1, hcz98_2, hcz98_3, hcz98_4, hfz98_0, hfz98_1, hfz98_2, hfz98_3, hfz98_4⟩ := blk5 BK335.out
       go_wp2
       repeat (go_quiet (fail); try go_wp2)
       go_ret
       exact ⟨by first | rfl | (simp [errW_none, errW_some] <;> rfl) | (simp [*, errW_none, errW_some] <;> rfl), bw⟩
      rw [if_pos c91] at H
      have c91b0 : decide ((l0_4.length : Int) ≤ 40) = true := decide_eq_true c91
      have c91b1 : decide (l0_4.length ≤ 40) = true := decide_eq_true (by omega)
      clear c91
      replace H := Option.bind_eq_some_iff.mp H
      obtain ⟨t341, A920, H⟩ := H
      have A92 := Aside0.mk A920
      clear A920
      obtain rfl := Option.some.inj H
      have hnb93 := NB335_336.out
      have hnc93 := NB336_335.out
      obtain ⟨hcz94_0, hcz94_1, hcz94_2, hcz94_3, hcz94_4, hfz94_0, hfz94_1, hfz94_2, hfz94_3, hfz94_4⟩ := blk5 BK335.out
      obtain ⟨hcz95_0, hfz95_0⟩ := blk1 BK336.out
      go_wp2_with (first | (go_at_call 118; (with_reducible refine (ih_x_ContainsFunc_at_impl_isShaped_1 k2 (by have := HJ7.out; have := HK2.out; omega) _ _ l0_4 a1 gb336 t341 _ ?side1 ?side2 ?sidebl A92.out).mono ?_); (case sidebl => exact (blk_cell (by (with_reducible repeat (first | refine blk_drewN ?_ _ | refine blk_drew ?_ | refine blk_alloc ?_ _)); exact BK336.out) 0).trans rfl); (case side1 => repeat (first | exact (Kd.C_below HR0_4.out HB.out) | (with_reducible refine Kd.C_alloc ?_ _) | (with_reducible refine Kd.C_drewN ?_ _) | (with_reducible refine Kd.C_drew ?_))); (case side2 => exact HC0_4.out); rintro e w96 ⟨rfl, hb⟩; replace BK335 := Aside0.mk (blk_below (g := gb335) (o := .cells #[.int .i64 a0_0, .int .i64 a0_1, .slice A0_2 l0_2.length c0_2, .slice A0_3 l0_3.length c0_3, .slice A0_4 l0_4.length c0_4] 30 (0, 0)) (by (with_reducible repeat (first | refine blk_drewN ?_ _ | refine blk_drew ?_ | refine blk_alloc ?_ _)); exact BK335.out) hb); replace BK336 := Aside0.mk (blk_below (g := gb336) (o := .cells #[.int .i64 a1] 3 (0, 0)) (by (with_reducible repeat (first | refine blk_drewN ?_ _ | refine blk_drew ?_ | refine blk_alloc ?_ _)); exact BK336.out) hb); replace HB := (Bw.sw w hb); (try clear hb)))
      repeat (go_quiet (first | (go_at_call 118; (with_reducible refine (ih_x_ContainsFunc_at_impl_isShaped_1 k2 (by have := HJ7.out; have := HK2.out; omega) _ _ l0_4 a1 gb336 t341 _ ?side1 ?side2 ?sidebl A92.out).mono ?_); (case sidebl => exact (blk_cell (by (with_reducible repeat (first | refine blk_drewN ?_ _ | refine blk_drew ?_ | refine blk_alloc ?_ _)); exact BK336.out) 0).trans rfl); (case side1 => repeat (first | exact (Kd.C_below HR0_4.out HB.out) | (with_reducible refine Kd.C_alloc ?_ _) | (with_reducible refine Kd.C_drewN ?_ _) | (with_reducible refine Kd.C_drew ?_))); (case side2 => exact HC0_4.out); rintro e w96 ⟨rfl, hb⟩; replace BK335 := Aside0.mk (blk_below (g := gb335) (o := .cells #[.int .i64 a0_0, .int .i64 a0_1, .slice A0_2 l0_2.length c0_2, .slice A0_3 l0_3.length c0_3, .slice A0_4 l0_4.length c0_4] 30 (0, 0)) (by (with_reducible repeat (first | refine blk_drewN ?_ _ | refine blk_drew ?_ | refine blk_alloc ?_ _)); exact BK335.out) hb); replace BK336 := Aside0.mk (blk_below (g := gb336) (o := .cells #[.int .i64 a1] 3 (0, 0)) (by (with_reducible repeat (first | refine blk_drewN ?_ _ | refine blk_drew ?_ | refine blk_alloc ?_ _)); exact BK336.out) hb); replace HB := (Bw.sw w hb); (try clear hb))); try go_wp2_with (first | (go_at_call 118; (with_reducible refine (ih_x_ContainsFunc_at_impl_isShaped_1 k2 (by have := HJ7.out; have := HK2.out; omega) _ _ l0_4 a1 gb336 t341 _ ?side1 ?side2 ?sidebl A92.out).mono ?_); (case sidebl => exact (blk_cell (by (with_reducible repeat (first | refine blk_drewN ?_ _ | refine blk_drew ?_ | refine blk_alloc ?_ _)); exact BK336.out) 0).trans rfl); (case side1 => repeat (first | exact (Kd.C_below HR0_4.out HB.out) | (with_reducible refine Kd.C_alloc ?_ _) | (with_reducible refine Kd.C_drewN ?_ _) | (with_reducible refine Kd.C_drew ?_))); (case side2 => exact HC0_4.out); rintro e w96 ⟨rfl, hb⟩; replace BK335 := Aside0.mk (blk_below (g := gb335) (o := .cells #[.int .i64 a0_0, .int .i64 a0_1, .slice A0_2 l0_2.length c0_2, .slice A0_3 l0_3.length c0_3, .slice A0_4 l0_4.length c0_4] 30 (0, 0)) (by (with_reducible repeat (first | refine blk_drewN ?_ _ | refine blk_drew ?_ | refine blk_alloc ?_ _)); exact BK335.out) hb); replace BK336 := Aside0.mk (blk_below (g := gb336) (o := .cells #[.int .i64 a1] 3 (0, 0)) (by (with_reducible repeat (first | refine blk_drewN ?_ _ | refine blk_drew ?_ | refine blk_alloc ?_ _)); exact BK336.out) hb); replace HB := (Bw.sw w hb); (try clear hb))))
      go_ret
      exact ⟨by first | rfl | (simp [errW_none, errW_some] <;> rfl) | (simp [*, errW_none, errW_some] <;> rfl), bw⟩
     as_aux_lemma =>
     rw [if_pos c74] at H
     have c74b0 : decide (x101_2 < (l0_3.length : Int)) = true := decide_eq_true c74
     clear c74
     by_cases c75 : 0 ≤ x101_2
     rotate_left
     ·rw [if_neg c75] at H
      exact absurd H (by simp)
     as_aux_lemma =>
     rw [if_pos c75] at H
     have c75b0 : decide (0 ≤ x101_2) = true := decide_eq_true c75
     clear c75
     by_cases c76 : x101_2 < (l0_3.length : Int)
     rotate_left
     ·rw [if_neg c76] at H
      exact absurd H (by simp)
     as_aux_lemma =>
     rw [if_pos c76] at H
     have c76b0 : decide (x101_2 < (l0_3.length : Int)) = true := decide_eq_true c76
     clear c76
     replace H := Option.bind_eq_some_iff.mp H
     obtain ⟨t343, A770, H⟩ := H
     have A77 := Aside0.mk A770
     clear A770
     by_cases c78 : t343 = true
     rotate_left
     ·replace c78 := Bool.eq_false_iff.mpr c78
      subst c78
      replace H := (if_neg (show ¬ (false = true) by decide)).symm.trans H
      obtain rfl := Option.some.inj H
      have p342 : 0 ≤ (x101_2 : Int) := of_decide_eq_true (by first | (with_reducible assumption) | assumption)
      have q342 : x101_2 < (l0_3.length : Int) := of_decide_eq_true (by first | (with_reducible assumption) | assumption)
      obtain ⟨ad342, A342_0, c342_0, e342, hx342_0, hl342_0, hi342_0⟩ := at_L1 HR0_3.out x101_2 p342 q342
      cases e342
      replace hx342_0 := (HB.out.cell (World.block_lt_of_cell? w _ hx342_0)).trans hx342_0
      have HR342_0 := Aside0.mk hi342_0
      have HC342_0 := Aside0.mk hl342_0
      clear hi342_0 hl342_0
      replace p342 := eq_true p342
      replace q342 := eq_true q342
      go_wp2_with (first | (go_at_call 123; (with_reducible refine (impl_isName.calls k2 _ _ (rd_L1 l0_3 x101_2) false _ ?side1 ?side2 A77.out).mono ?_); (case side1 => repeat (first | exact (Kd.C_below HR342_0.out HB.out) | (with_reducible refine Kd.C_alloc ?_ _) | (with_reducible refine Kd.C_drewN ?_ _) | (with_reducible refine Kd.C_drew ?_))); (case side2 => exact HC342_0.out); rintro e w' ⟨rfl, ⟨nd, rfl⟩⟩; (try first | exact ⟨rfl, _, World.drewN_drewN _ _ _⟩ | exact ⟨rfl, _, Eq.trans (World.drewN_drewN _ _ _) (congrArg (World.drewN _) (Nat.add_assoc _ _ _))⟩)))
      repeat (go_quiet (first | (go_at_call 123; (with_reducible refine (impl_isName.calls k2 _ _ (rd_L1 l0_3 x101_2) false _ ?side1 ?side2 A77.out).mono ?_); (case side1 => repeat (first | exact (Kd.C_below HR342_0.out HB.out) | (with_reducible refine Kd.C_alloc ?_ _) | (with_reducible refine Kd.C_drewN ?_ _) | (with_reducible refine Kd.C_drew ?_))); (case side2 => exact HC342_0.out); rintro e w' ⟨rfl, ⟨nd, rfl⟩⟩; (try first | exact ⟨rfl, _, World.drewN_drewN _ _ _⟩ | exact ⟨rfl, _, Eq.trans (World.drewN_drewN _ _ _) (congrArg (World.drewN _) (Nat.add_assoc _ _ _))⟩))); try go_wp2_with (first | (go_at_call 123; (with_reducible refine (impl_isName.calls k2 _ _ (rd_L1 l0_3 x101_2) false _ ?side1 ?side2 A77.out).mono ?_); (case side1 => repeat (first | exact (Kd.C_below HR342_0.out HB.out) | (with_reducible refine Kd.C_alloc ?_ _) | (with_reducible refine Kd.C_drewN ?_ _) | (with_reducible refine Kd.C_drew ?_))); (case side2 => exact HC342_0.out); rintro e w' ⟨rfl, ⟨nd, rfl⟩⟩; (try first | exact ⟨rfl, _, World.drewN_drewN _ _ _⟩ | exact ⟨rfl, _, Eq.trans (World.drewN_drewN _ _ _) (congrArg (World.drewN _) (Nat.add_assoc _ _ _))⟩))))
      go_ret
      exact ⟨by first | rfl | (simp [errW_none, errW_some] <;> rfl) | (simp [*, errW_none, errW_some] <;> rfl), bw⟩
     as_aux_lemma =>
     subst c78
     replace H := (if_pos rfl).symm.trans H
     by_cases c79 : x101_2 > 0
     rotate_left
     ·rw [if_neg c79] at H
      have c79b0 : decide (0 < x101_2) = false := decide_eq_false c79
      clear c79
      have H' := Aside0.mk H
      clear H
      have p342 : 0 ≤ (x101_2 : Int) := of_decide_eq_true (by first | (with_reducible assumption) | assumption)
      have q342 : x101_2 < (l0_3.length : Int) := of_decide_eq_true (by first | (with_reducible assumption) | assumption)
      obtain ⟨ad342, A342_0, c342_0, e342, hx342_0, hl342_0, hi342_0⟩ := at_L1 HR0_3.out x101_2 p342 q342
      cases e342
      replace hx342_0 := (HB.out.cell (World.block_lt_of_cell? w _ hx342_0)).trans hx342_0
      have HR342_0 := Aside0.mk hi342_0
      have HC342_0 := Aside0.mk hl342_0
      clear hi342_0 hl342_0
      replace p342 := eq_true p342
      replace q342 := eq_true q342
      go_wp2_with (first | (go_at_call 123; (with_reducible refine (impl_isName.calls k2 _ _ (rd_L1 l0_3 x101_2) true _ ?side1 ?side2 A77.out).mono ?_); (case side1 => repeat (first | exact (Kd.C_below HR342_0.out HB.out) | (with_reducible refine Kd.C_alloc ?_ _) | (with_reducible refine Kd.C_drewN ?_ _) | (with_reducible refine Kd.C_drew ?_))); (case side2 => exact HC342_0.out); rintro e w' ⟨rfl, ⟨nd, rfl⟩⟩; (try first | exact ⟨rfl, _, World.drewN_drewN _ _ _⟩ | exact ⟨rfl, _, Eq.trans (World.drewN_drewN _ _ _) (congrArg (World.drewN _) (Nat.add_assoc _ _ _))⟩)))
      repeat (go_quiet (first | (go_at_call 123; (with_reducible refine (impl_isName.calls k2 _ _ (rd_L1 l0_3 x101_2) true _ ?side1 ?side2 A77.out).mono ?_); (case side1 => repeat (first | exact (Kd.C_below HR342_0.out HB.out) | (with_reducible refine Kd.C_alloc ?_ _) | (with_reducible refine Kd.C_drewN ?_ _) | (with_reducible refine Kd.C_drew ?_))); (case side2 => exact HC342_0.out); rintro e w' ⟨rfl, ⟨nd, rfl⟩⟩; (try first | exact ⟨rfl, _, World.drewN_drewN _ _ _⟩ | exact ⟨rfl, _, Eq.trans (World.drewN_drewN _ _ _) (congrArg (World.drewN _) (Nat.add_assoc _ _ _))⟩))); try go_wp2_with (first | (go_at_call 123; (with_reducible refine (impl_isName.calls k2 _ _ (rd_L1 l0_3 x101_2) true _ ?side1 ?side2 A77.out).mono ?_); (case side1 => repeat (first | exact (Kd.C_below HR342_0.out HB.out) | (with_reducible refine Kd.C_alloc ?_ _) | (with_reducible refine Kd.C_drewN ?_ _) | (with_reducible refine Kd.C_drew ?_))); (case side2 => exact HC342_0.out); rintro e w' ⟨rfl, ⟨nd, rfl⟩⟩; (try first | exact ⟨rfl, _, World.drewN_drewN _ _ _⟩ | exact ⟨rfl, _, Eq.trans (World.drewN_drewN _ _ _) (congrArg (World.drewN _) (Nat.add_assoc _ _ _))⟩))))
      go_roundg k2
      case measure => have := HJ7.out; have := HK2.out; omega
      case rel => exact ⟨(wrap64 (x101_2 + 1)), (by first | rfl | (simp; done) | (simp [*]; done)), H', ⟨by have := HJ7.out; have := HK2.out; omega⟩, ⟨by (with_reducible repeat (first | refine blk_drewN ?_ _ | refine blk_drew ?_ | refine blk_alloc ?_ _)); exact BK335.out⟩, ⟨by (with_reducible repeat (first | refine blk_drewN ?_ _ | refine blk_drew ?_ | refine blk_alloc ?_ _)); exact BK336.out⟩, ⟨bw⟩⟩
     as_aux_lemma =>
     rw [if_pos c79] at H
     have c79b0 : decide (0 < x101_2) = true := decide_eq_true c79
     clear c79
     obtain ⟨ji80, hji80⟩ : ∃ j_ : Int, (wrap64 (x101_2 - 1)) = j_ := ⟨_, rfl⟩
     replace H : (if 0 ≤ (ji80) then (if (ji80) < (l0_3.length : Int) then ((bytes_Compare.f (rd_L1 l0_3 (ji80)) (rd_L1 l0_3 x101_2)).bind fun t345 => (if t345 ≥ 0 then (some false) else (impl_isShaped.l0 k2 (a0_1 == 0) ((l0_2.length : Int) == 0) l0_3 (l0_3.length : Int) (wrap64 (x101_2 + 1)) a0_0 a0_1 l0_2 l0_3 l0_4 a1))) else (none)) else (none)) = some r := by first | (rw [hji80] at H; exact H) | (simp only [hji80] at H ⊢; exact H)
     (try rw [hji80] at A77)
     have hji80w : (IntKind.i64.wrap (x101_2 - 1)) = ji80 := (i64_w _).trans hji80
     by_cases c81 : 0 ≤ (ji80)
     rotate_left
     ·rw [if_neg c81] at H
      exact absurd H (by simp)
     as_aux_lemma =>
     rw [if_pos c81] at H
     have c81b0 : decide (0 ≤ (ji80)) = true := decide_eq_true c81
     clear c81
     by_cases c82 : (ji80) < (l0_3.length : Int)
     rotate_left
     ·rw [if_neg c82] at H
      exact absurd H (by simp)
     as_aux_lemma =>
     rw [if_pos c82] at H
     have c82b0 : decide ((ji80) < (l0_3.length : Int)) = true := decide_eq_true c82
     clear c82
     replace H := Option.bind_eq_some_iff.mp H
     obtain ⟨t345, A830, H⟩ := H
     have A83 := Aside0.mk A830
     clear A830
     by_cases c84 : t345 ≥ 0
     ·rw [if_pos c84] at H
      have c84b0 : decide (0 ≤ t345) = true := decide_eq_true c84
      clear c84
      obtain rfl := Option.some.inj H
      have p342 : 0 ≤ (x101_2 : Int) := of_decide_eq_true (by first | (with_reducible assumption) | assumption)
      have q342 : x101_2 < (l0_3.length : Int) := of_decide_eq_true (by first | (with_reducible assumption) | assumption)
      obtain ⟨ad342, A342_0, c342_0, e342, hx342_0, hl342_0, hi342_0⟩ := at_L1 HR0_3.out x101_2 p342 q342
      cases e342
      replace hx342_0 := (HB.out.cell (World.block_lt_of_cell? w _ hx342_0)).trans hx342_0
      have HR342_0 := Aside0.mk hi342_0
      have HC342_0 := Aside0.mk hl342_0
      clear hi342_0 hl342_0
      replace p342 := eq_true p342
      replace q342 := eq_true q342
      go_wp2_with (first | (go_at_call 123; (with_reducible refine (impl_isName.calls k2 _ _ (rd_L1 l0_3 x101_2) true _ ?side1 ?side2 A77.out).mono ?_); (case side1 => repeat (first | exact (Kd.C_below HR342_0.out HB.out) | (with_reducible refine Kd.C_alloc ?_ _) | (with_reducible refine Kd.C_drewN ?_ _) | (with_reducible refine Kd.C_drew ?_))); (case side2 => exact HC342_0.out); rintro e w' ⟨rfl, ⟨nd, rfl⟩⟩; (try first | exact ⟨rfl, _, World.drewN_drewN _ _ _⟩ | exact ⟨rfl, _, Eq.trans (World.drewN_drewN _ _ _) (congrArg (World.drewN _) (Nat.add_assoc _ _ _))⟩); have hnb85 := NB335_336.out; have hnc85 := NB336_335.out; obtain ⟨hcz86_0, hcz86_1, hcz86_2, hcz86_3, hcz86_4, hfz86_0, hfz86_1, hfz86_2, hfz86_3, hfz86_4⟩ := blk5 BK335.out; have p344 : 0 ≤ ((ji80) : Int) := of_decide_eq_true (by first | (with_reducible assumption) | assumption); have q344 : (ji80) < (l0_3.length : Int) := of_decide_eq_true (by first | (with_reducible assumption) | assumption); obtain ⟨ad344, A344_0, c344_0, e344, hx344_0, hl344_0, hi344_0⟩ := at_L1 HR0_3.out (ji80) p344 q344; obtain rfl : ad342 = ad344 := (by injection e344); replace hx344_0 := (HB.out.cell (World.block_lt_of_cell? w _ hx344_0)).trans hx344_0; have HR344_0 := Aside0.mk hi344_0; have HC344_0 := Aside0.mk hl344_0; clear hi344_0 hl344_0; replace p344 := eq_true p344; replace q344 := eq_true q344) | (go_at_call 99; (with_reducible refine (bytes_Compare.calls _ _ (rd_L1 l0_3 (ji80)) _ _ (rd_L1 l0_3 x101_2) t345 _ ?side1 ?side2 ?side3 ?side4 A83.out).mono ?_); (case side1 => repeat (first | exact (Kd.C_below HR344_0.out bw) | (with_reducible refine Kd.C_alloc ?_ _) | (with_reducible refine Kd.C_drewN ?_ _) | (with_reducible refine Kd.C_drew ?_))); (case side2 => exact HC344_0.out); (case side3 => repeat (first | exact (Kd.C_below HR342_0.out bw) | (with_reducible refine Kd.C_alloc ?_ _) | (with_reducible refine Kd.C_drewN ?_ _) | (with_reducible refine Kd.C_drew ?_))); (case side4 => exact HC342_0.out); rintro e w' ⟨rfl, ⟨nd, rfl⟩⟩; (try first | exact ⟨rfl, _, World.drewN_drewN _ _ _⟩ | exact ⟨rfl, _, Eq.trans (World.drewN_drewN _ _ _) (congrArg (World.drewN _) (Nat.add_assoc _ _ _))⟩)))
      repeat (go_quiet (first | (go_at_call 123; (with_reducible refine (impl_isName.calls k2 _ _ (rd_L1 l0_3 x101_2) true _ ?side1 ?side2 A77.out).mono ?_); (case side1 => repeat (first | exact (Kd.C_below HR342_0.out HB.out) | (with_reducible refine Kd.C_alloc ?_ _) | (with_reducible refine Kd.C_drewN ?_ _) | (with_reducible refine Kd.C_drew ?_))); (case side2 => exact HC342_0.out); rintro e w' ⟨rfl, ⟨nd, rfl⟩⟩; (try first | exact ⟨rfl, _, World.drewN_drewN _ _ _⟩ | exact ⟨rfl, _, Eq.trans (World.drewN_drewN _ _ _) (congrArg (World.drewN _) (Nat.add_assoc _ _ _))⟩); have hnb85 := NB335_336.out; have hnc85 := NB336_335.out; obtain ⟨hcz86_0, hcz86_1, hcz86_2, hcz86_3, hcz86_4, hfz86_0, hfz86_1, hfz86_2, hfz86_3, hfz86_4⟩ := blk5 BK335.out; have p344 : 0 ≤ ((ji80) : Int) := of_decide_eq_true (by first | (with_reducible assumption) | assumption); have q344 : (ji80) < (l0_3.length : Int) := of_decide_eq_true (by first | (with_reducible assumption) | assumption); obtain ⟨ad344, A344_0, c344_0, e344, hx344_0, hl344_0, hi344_0⟩ := at_L1 HR0_3.out (ji80) p344 q344; obtain rfl : ad342 = ad344 := (by injection e344); replace hx344_0 := (HB.out.cell (World.block_lt_of_cell? w _ hx344_0)).trans hx344_0; have HR344_0 := Aside0.mk hi344_0; have HC344_0 := Aside0.mk hl344_0; clear hi344_0 hl344_0; replace p344 := eq_true p344; replace q344 := eq_true q344) | (go_at_call 99; (with_reducible refine (bytes_Compare.calls _ _ (rd_L1 l0_3 (ji80)) _ _ (rd_L1 l0_3 x101_2) t345 _ ?side1 ?side2 ?side3 ?side4 A83.out).mono ?_); (case side1 => repeat (first | exact (Kd.C_below HR344_0.out bw) | (with_reducible refine Kd.C_alloc ?_ _) | (with_reducible refine Kd.C_drewN ?_ _) | (with_reducible refine Kd.C_drew ?_))); (case side2 => exact HC344_0.out); (case side3 => repeat (first | exact (Kd.C_below HR342_0.out bw) | (with_reducible refine Kd.C_alloc ?_ _) | (with_reducible refine Kd.C_drewN ?_ _) | (with_reducible refine Kd.C_drew ?_))); (case side4 => exact HC342_0.out); rintro e w' ⟨rfl, ⟨nd, rfl⟩⟩; (try first | exact ⟨rfl, _, World.drewN_drewN _ _ _⟩ | exact ⟨rfl, _, Eq.trans (World.drewN_drewN _ _ _) (congrArg (World.drewN _) (Nat.add_assoc _ _ _))⟩))); try go_wp2_with (first | (go_at_call 123; (with_reducible refine (impl_isName.calls k2 _ _ (rd_L1 l0_3 x101_2) true _ ?side1 ?side2 A77.out).mono ?_); (case side1 => repeat (first | exact (Kd.C_below HR342_0.out HB.out) | (with_reducible refine Kd.C_alloc ?_ _) | (with_reducible refine Kd.C_drewN ?_ _) | (with_reducible refine Kd.C_drew ?_))); (case side2 => exact HC342_0.out); rintro e w' ⟨rfl, ⟨nd, rfl⟩⟩; (try first | exact ⟨rfl, _, World.drewN_drewN _ _ _⟩ | exact ⟨rfl, _, Eq.trans (World.drewN_drewN _ _ _) (congrArg (World.drewN _) (Nat.add_assoc _ _ _))⟩); have hnb85 := NB335_336.out; have hnc85 := NB336_335.out; obtain ⟨hcz86_0, hcz86_1, hcz86_2, hcz86_3, hcz86_4, hfz86_0, hfz86_1, hfz86_2, hfz86_3, hfz86_4⟩ := blk5 BK335.out; have p344 : 0 ≤ ((ji80) : Int) := of_decide_eq_true (by first | (with_reducible assumption) | assumption); have q344 : (ji80) < (l0_3.length : Int) := of_decide_eq_true (by first | (with_reducible assumption) | assumption); obtain ⟨ad344, A344_0, c344_0, e344, hx344_0, hl344_0, hi344_0⟩ := at_L1 HR0_3.out (ji80) p344 q344; obtain rfl : ad342 = ad344 := (by injection e344); replace hx344_0 := (HB.out.cell (World.block_lt_of_cell? w _ hx344_0)).trans hx344_0; have HR344_0 := Aside0.mk hi344_0; have HC344_0 := Aside0.mk hl344_0; clear hi344_0 hl344_0; replace p344 := eq_true p344; replace q344 := eq_true q344) | (go_at_call 99; (with_reducible refine (bytes_Compare.calls _ _ (rd_L1 l0_3 (ji80)) _ _ (rd_L1 l0_3 x101_2) t345 _ ?side1 ?side2 ?side3 ?side4 A83.out).mono ?_); (case side1 => repeat (first | exact (Kd.C_below HR344_0.out bw) | (with_reducible refine Kd.C_alloc ?_ _) | (with_reducible refine Kd.C_drewN ?_ _) | (with_reducible refine Kd.C_drew ?_))); (case side2 => exact HC344_0.out); (case side3 => repeat (first | exact (Kd.C_below HR342_0.out bw) | (with_reducible refine Kd.C_alloc ?_ _) | (with_reducible refine Kd.C_drewN ?_ _) | (with_reducible refine Kd.C_drew ?_))); (case side4 => exact HC342_0.out); rintro e w' ⟨rfl, ⟨nd, rfl⟩⟩; (try first | exact ⟨rfl, _, World.drewN_drewN _ _ _⟩ | exact ⟨rfl, _, Eq.trans (World.drewN_drewN _ _ _) (congrArg (World.drewN _) (Nat.add_assoc _ _ _))⟩))))
      go_ret
      exact ⟨by first | rfl | (simp [errW_none, errW_some] <;> rfl) | (simp only [← hji80]; first | rfl | (simp [errW_none, errW_some] <;> rfl)) | (simp [*, errW_none, errW_some] <;> rfl), bw⟩
     rw [if_neg c84] at H
     have c84b0 : decide (0 ≤ t345) = false := decide_eq_false c84
     clear c84
     have H' := Aside0.mk H
     clear H
     have p342 : 0 ≤ (x101_2 : Int) := of_decide_eq_true (by first | (with_reducible assumption) | assumption)
     have q342 : x101_2 < (l0_3.length : Int) := of_decide_eq_true (by first | (with_reducible assumption) | assumption)
     obtain ⟨ad342, A342_0, c342_0, e342, hx342_0, hl342_0, hi342_0⟩ := at_L1 HR0_3.out x101_2 p342 q342
     cases e342
     replace hx342_0 := (HB.out.cell (World.block_lt_of_cell? w _ hx342_0)).trans hx342_0
     have HR342_0 := Aside0.mk hi342_0
     have HC342_0 := Aside0.mk hl342_0
     clear hi342_0 hl342_0
     replace p342 := eq_true p342
     replace q342 := eq_true q342
     go_wp2_with (first | (go_at_call 123; (with_reducible refine (impl_isName.calls k2 _ _ (rd_L1 l0_3 x101_2) true _ ?side1 ?side2 A77.out).mono ?_); (case side1 => repeat (first | exact (Kd.C_below HR342_0.out HB.out) | (with_reducible refine Kd.C_alloc ?_ _) | (with_reducible refine Kd.C_drewN ?_ _) | (with_reducible refine Kd.C_drew ?_))); (case side2 => exact HC342_0.out); rintro e w' ⟨rfl, ⟨nd, rfl⟩⟩; (try first | exact ⟨rfl, _, World.drewN_drewN _ _ _⟩ | exact ⟨rfl, _, Eq.trans (World.drewN_drewN _ _ _) (congrArg (World.drewN _) (Nat.add_assoc _ _ _))⟩); have hnb87 := NB335_336.out; have hnc87 := NB336_335.out; obtain ⟨hcz88_0, hcz88_1, hcz88_2, hcz88_3, hcz88_4, hfz88_0, hfz88_1, hfz88_2, hfz88_3, hfz88_4⟩ := blk5 BK335.out; have p344 : 0 ≤ ((ji80) : Int) := of_decide_eq_true (by first | (with_reducible assumption) | assumption); have q344 : (ji80) < (l0_3.length : Int) := of_decide_eq_true (by first | (with_reducible assumption) | assumption); obtain ⟨ad344, A344_0, c344_0, e344, hx344_0, hl344_0, hi344_0⟩ := at_L1 HR0_3.out (ji80) p344 q344; obtain rfl : ad342 = ad344 := (by injection e344); replace hx344_0 := (HB.out.cell (World.block_lt_of_cell? w _ hx344_0)).trans hx344_0; have HR344_0 := Aside0.mk hi344_0; have HC344_0 := Aside0.mk hl344_0; clear hi344_0 hl344_0; replace p344 := eq_true p344; replace q344 := eq_true q344) | (go_at_call 99; (with_reducible refine (bytes_Compare.calls _ _ (rd_L1 l0_3 (ji80)) _ _ (rd_L1 l0_3 x101_2) t345 _ ?side1 ?side2 ?side3 ?side4 A83.out).mono ?_); (case side1 => repeat (first | exact (Kd.C_below HR344_0.out bw) | (with_reducible refine Kd.C_alloc ?_ _) | (with_reducible refine Kd.C_drewN ?_ _) | (with_reducible refine Kd.C_drew ?_))); (case side2 => exact HC344_0.out); (case side3 => repeat (first | exact (Kd.C_below HR342_0.out bw) | (with_reducible refine Kd.C_alloc ?_ _) | (with_reducible refine Kd.C_drewN ?_ _) | (with_reducible refine Kd.C_drew ?_))); (case side4 => exact HC342_0.out); rintro e w' ⟨rfl, ⟨nd, rfl⟩⟩; (try first | exact ⟨rfl, _, World.drewN_drewN _ _ _⟩ | exact ⟨rfl, _, Eq.trans (World.drewN_drewN _ _ _) (congrArg (World.drewN _) (Nat.add_assoc _ _ _))⟩)))
     repeat (go_quiet (first | (go_at_call 123; (with_reducible refine (impl_isName.calls k2 _ _ (rd_L1 l0_3 x101_2) true _ ?side1 ?side2 A77.out).mono ?_); (case side1 => repeat (first | exact (Kd.C_below HR342_0.out HB.out) | (with_reducible refine Kd.C_alloc ?_ _) | (with_reducible refine Kd.C_drewN ?_ _) | (with_reducible refine Kd.C_drew ?_))); (case side2 => exact HC342_0.out); rintro e w' ⟨rfl, ⟨nd, rfl⟩⟩; (try first | exact ⟨rfl, _, World.drewN_drewN _ _ _⟩ | exact ⟨rfl, _, Eq.trans (World.drewN_drewN _ _ _) (congrArg (World.drewN _) (Nat.add_assoc _ _ _))⟩); have hnb87 := NB335_336.out; have hnc87 := NB336_335.out; obtain ⟨hcz88_0, hcz88_1, hcz88_2, hcz88_3, hcz88_4, hfz88_0, hfz88_1, hfz88_2, hfz88_3, hfz88_4⟩ := blk5 BK335.out; have p344 : 0 ≤ ((ji80) : Int) := of_decide_eq_true (by first | (with_reducible assumption) | assumption); have q344 : (ji80) < (l0_3.length : Int) := of_decide_eq_true (by first | (with_reducible assumption) | assumption); obtain ⟨ad344, A344_0, c344_0, e344, hx344_0, hl344_0, hi344_0⟩ := at_L1 HR0_3.out (ji80) p344 q344; obtain rfl : ad342 = ad344 := (by injection e344); replace hx344_0 := (HB.out.cell (World.block_lt_of_cell? w _ hx344_0)).trans hx344_0; have HR344_0 := Aside0.mk hi344_0; have HC344_0 := Aside0.mk hl344_0; clear hi344_0 hl344_0; replace p344 := eq_true p344; replace q344 := eq_true q344) | (go_at_call 99; (with_reducible refine (bytes_Compare.calls _ _ (rd_L1 l0_3 (ji80)) _ _ (rd_L1 l0_3 x101_2) t345 _ ?side1 ?side2 ?side3 ?side4 A83.out).mono ?_); (case side1 => repeat (first | exact (Kd.C_below HR344_0.out bw) | (with_reducible refine Kd.C_alloc ?_ _) | (with_reducible refine Kd.C_drewN ?_ _) | (with_reducible refine Kd.C_drew ?_))); (case side2 => exact HC344_0.out); (case side3 => repeat (first | exact (Kd.C_below HR342_0.out bw) | (with_reducible refine Kd.C_alloc ?_ _) | (with_reducible refine Kd.C_drewN ?_ _) | (with_reducible refine Kd.C_drew ?_))); (case side4 => exact HC342_0.out); rintro e w' ⟨rfl, ⟨nd, rfl⟩⟩; (try first | exact ⟨rfl, _, World.drewN_drewN _ _ _⟩ | exact ⟨rfl, _, Eq.trans (World.drewN_drewN _ _ _) (congrArg (World.drewN _) (Nat.add_assoc _ _ _))⟩))); try go_wp2_with (first | (go_at_call 123; (with_reducible refine (impl_isName.calls k2 _ _ (rd_L1 l0_3 x101_2) true _ ?side1 ?side2 A77.out).mono ?_); (case side1 => repeat (first | exact (Kd.C_below HR342_0.out HB.out) | (with_reducible refine Kd.C_alloc ?_ _) | (with_reducible refine Kd.C_drewN ?_ _) | (with_reducible refine Kd.C_drew ?_))); (case side2 => exact HC342_0.out); rintro e w' ⟨rfl, ⟨nd, rfl⟩⟩; (try first | exact ⟨rfl, _, World.drewN_drewN _ _ _⟩ | exact ⟨rfl, _, Eq.trans (World.drewN_drewN _ _ _) (congrArg (World.drewN _) (Nat.add_assoc _ _ _))⟩); have hnb87 := NB335_336.out; have hnc87 := NB336_335.out; obtain ⟨hcz88_0, hcz88_1, hcz88_2, hcz88_3, hcz88_4, hfz88_0, hfz88_1, hfz88_2, hfz88_3, hfz88_4⟩ := blk5 BK335.out; have p344 : 0 ≤ ((ji80) : Int) := of_decide_eq_true (by first | (with_reducible assumption) | assumption); have q344 : (ji80) < (l0_3.length : Int) := of_decide_eq_true (by first | (with_reducible assumption) | assumption); obtain ⟨ad344, A344_0, c344_0, e344, hx344_0, hl344_0, hi344_0⟩ := at_L1 HR0_3.out (ji80) p344 q344; obtain rfl : ad342 = ad344 := (by injection e344); replace hx344_0 := (HB.out.cell (World.block_lt_of_cell? w _ hx344_0)).trans hx344_0; have HR344_0 := Aside0.mk hi344_0; have HC344_0 := Aside0.mk hl344_0; clear hi344_0 hl344_0; replace p344 := eq_true p344; replace q344 := eq_true q344) | (go_at_call 99; (with_reducible refine (bytes_Compare.calls _ _ (rd_L1 l0_3 (ji80)) _ _ (rd_L1 l0_3 x101_2) t345 _ ?side1 ?side2 ?side3 ?side4 A83.out).mono ?_); (case side1 => repeat (first | exact (Kd.C_below HR344_0.out bw) | (with_reducible refine Kd.C_alloc ?_ _) | (with_reducible refine Kd.C_drewN ?_ _) | (with_reducible refine Kd.C_drew ?_))); (case side2 => exact HC344_0.out); (case side3 => repeat (first | exact (Kd.C_below HR342_0.out bw) | (with_reducible refine Kd.C_alloc ?_ _) | (with_reducible refine Kd.C_drewN ?_ _) | (with_reducible refine Kd.C_drew ?_))); (case side4 => exact HC342_0.out); rintro e w' ⟨rfl, ⟨nd, rfl⟩⟩; (try first | exact ⟨rfl, _, World.drewN_drewN _ _ _⟩ | exact ⟨rfl, _, Eq.trans (World.drewN_drewN _ _ _) (congrArg (World.drewN _) (Nat.add_assoc _ _ _))⟩))))
     go_roundg k2
     case measure => have := HJ7.out; have := HK2.out; omega
     case rel => exact ⟨(wrap64 (x101_2 + 1)), (by first | rfl | (simp; done) | (simp [*]; done)), H', ⟨by have := HJ7.out; have := HK2.out; omega⟩, ⟨by (with_reducible repeat (first | refine blk_drewN ?_ _ | refine blk_drew ?_ | refine blk_alloc ?_ _)); exact BK335.out⟩, ⟨by (with_reducible repeat (first | refine blk_drewN ?_ _ | refine blk_drew ?_ | refine blk_alloc ?_ _)); exact BK336.out⟩, ⟨bw⟩⟩
theorem impl_isShaped.all : ∀ k, (∀ (a0_0 : Int) (a0_1 : Int) (A0_2 : Option Addr) (c0_2 : Nat) (l0_2 : List Int) (A0_3 : Option Addr) (c0_3 : Nat) (l0_3 : List (List Int)) (A0_4 : Option Addr) (c0_4 : Nat) (l0_4 : List (S30)) (a1 : Int) (bl : Nat) (r : Bool) (w : World) (hr0_2 : Kd.C (Kd.int .u8) w A0_2 l0_2.length l0_2) (hc0_2 : l0_2.length ≤ c0_2) (hr0_3 : Kd.C (Kd.slice 5 (Kd.int .u8)) w A0_3 l0_3.length l0_3) (hc0_3 : l0_3.length ≤ c0_3) (hr0_4 : Kd.C k30 w A0_4 l0_4.length l0_4) (hc0_4 : l0_4.length ≤ c0_4) (hbl : w.cell? ⟨bl, 0, none⟩ = some (.int .i64 a1)) (h : impl_isShaped_1.f k a0_0 a0_1 l0_2 l0_3 l0_4 a1 = some r),
  Calls Try.prog 130 #[.agg #[.int .i64 a0_0, .int .i64 a0_1, .slice A0_2 l0_2.length c0_2, .slice A0_3 l0_3.length c0_3, .slice A0_4 l0_4.length c0_4], .pointer (some ⟨bl, 0, none⟩)] w fun e w' => e = .returned (.bool r) ∧ Below w.heap.size w w') ∧ (∀ (A0 : Option Addr) (c0 : Nat) (l0 : List (S30)) (a1 : Int) (bl : Nat) (r : Int) (w : World) (hr0 : Kd.C k30 w A0 l0.length l0) (hc0 : l0.length ≤ c0) (hbl : w.cell? ⟨bl, 0, none⟩ = some (.int .i64 a1)) (h : x_IndexFunc_at_impl_isShaped_1.f k l0 a1 = some r),
  Calls Try.prog 138 #[.slice A0 l0.length c0, .func (.func 130) #[] #[.pointer (some ⟨bl, 0, none⟩)]] w fun e w' => e = .returned (.int .i64 r) ∧ Below w.heap.size w w') ∧ (∀ (A0 : Option Addr) (c0 : Nat) (l0 : List (S30)) (a1 : Int) (bl : Nat) (r : Bool) (w : World) (hr0 : Kd.C k30 w A0 l0.length l0) (hc0 : l0.length ≤ c0) (hbl : w.cell? ⟨bl, 0, none⟩ = some (.int .i64 a1)) (h : x_ContainsFunc_at_impl_isShaped_1.f k l0 a1 = some r),
  Calls Try.prog 118 #[.slice A0 l0.length c0, .func (.func 130) #[] #[.pointer (some ⟨bl, 0, none⟩)]] w fun e w' => e = .returned (.bool r) ∧ Below w.heap.size w w') ∧ (∀ (a0_0 : Int) (a0_1 : Int) (A0_2 : Option Addr) (c0_2 : Nat) (l0_2 : List Int) (A0_3 : Option Addr) (c0_3 : Nat) (l0_3 : List (List Int)) (A0_4 : Option Addr) (c0_4 : Nat) (l0_4 : List (S30)) (a1 : Int) (r : Bool) (w : World) (hr0_2 : Kd.C (Kd.int .u8) w A0_2 l0_2.length l0_2) (hc0_2 : l0_2.length ≤ c0_2) (hr0_3 : Kd.C (Kd.slice 5 (Kd.int .u8)) w A0_3 l0_3.length l0_3) (hc0_3 : l0_3.length ≤ c0_3) (hr0_4 : Kd.C k30 w A0_4 l0_4.length l0_4) (hc0_4 : l0_4.length ≤ c0_4) (h : impl_isShaped.f k a0_0 a0_1 l0_2 l0_3 l0_4 a1 = some r),
  Calls Try.prog 102 #[.agg #[.int .i64 a0_0, .int .i64 a0_1, .slice A0_2 l0_2.length c0_2, .slice A0_3 l0_3.length c0_3, .slice A0_4 l0_4.length c0_4], .int .i64 a1] w fun e w' => e = .returned (.bool r) ∧ Below w.heap.size w w') := by
 intro k
 induction k using Nat.strongRecOn with
 | _ k ih =>
 refine ⟨?_, ?_, ?_, ?_⟩
 ·exact impl_isShaped_1.step k (fun j hj => (ih j hj).1) (fun j hj => (ih j hj).2.1) (fun j hj => (ih j hj).2.2.1) (fun j hj => (ih j hj).2.2.2)
 ·exact x_IndexFunc_at_impl_isShaped_1.step k (fun j hj => (ih j hj).1) (fun j hj => (ih j hj).2.1) (fun j hj => (ih j hj).2.2.1) (fun j hj => (ih j hj).2.2.2)
 ·exact x_ContainsFunc_at_impl_isShaped_1.step k (fun j hj => (ih j hj).1) (fun j hj => (ih j hj).2.1) (fun j hj => (ih j hj).2.2.1) (fun j hj => (ih j hj).2.2.2)
 exact impl_isShaped.step k (fun j hj => (ih j hj).1) (fun j hj => (ih j hj).2.1) (fun j hj => (ih j hj).2.2.1) (fun j hj => (ih j hj).2.2.2)
theorem impl_isShaped.calls (k : Nat) : ∀ (a0_0 : Int) (a0_1 : Int) (A0_2 : Option Addr) (c0_2 : Nat) (l0_2 : List Int) (A0_3 : Option Addr) (c0_3 : Nat) (l0_3 : List (List Int)) (A0_4 : Option Addr) (c0_4 : Nat) (l0_4 : List (S30)) (a1 : Int) (r : Bool) (w : World) (hr0_2 : Kd.C (Kd.int .u8) w A0_2 l0_2.length l0_2) (hc0_2 : l0_2.length ≤ c0_2) (hr0_3 : Kd.C (Kd.slice 5 (Kd.int .u8)) w A0_3 l0_3.length l0_3) (hc0_3 : l0_3.length ≤ c0_3) (hr0_4 : Kd.C k30 w A0_4 l0_4.length l0_4) (hc0_4 : l0_4.length ≤ c0_4) (h : impl_isShaped.f k a0_0 a0_1 l0_2 l0_3 l0_4 a1 = some r),
  Calls Try.prog 102 #[.agg #[.int .i64 a0_0, .int .i64 a0_1, .slice A0_2 l0_2.length c0_2, .slice A0_3 l0_3.length c0_3, .slice A0_4 l0_4.length c0_4], .int .i64 a1] w fun e w' => e = .returned (.bool r) ∧ Below w.heap.size w w' := (impl_isShaped.all k).2.2.2

end Go.Proofs.Ytenpjddjmhjdoaa.PFnExactLeaves
