/- What the law reaches: each function as a plain Lean function, and that each call comes to it. No condition. -/
import Derived.Test.YtenpjddjmhjdoaaPFnExactValGetx0
import Derived.Test.YtenpjddjmhjdoaaPFnExactValGetx8
namespace Go.Proofs.Ytenpjddjmhjdoaa.PFnExactValGet
open Go.RowKit Go.Proofs.YtenpjddjmhjdoaaW.PrintWords Go.Proofs.YtenpjddjmhjdoaaW.PrintLast Go.Proofs.YtenpjddjmhjdoaaW.PrintMore Go.Proofs.Ytenpjddjmhjdoaa.M
attribute [local go_sem] max2_int min2_int max_two min_two max_three min_three max_four min_four Go.Proofs.Ytenpjddjmhjdoaa.M.str_gtr Go.Proofs.Ytenpjddjmhjdoaa.M.str_leq Go.Proofs.Ytenpjddjmhjdoaa.M.str_geq   -- for this text's walks alone
set_option linter.unusedVariables false
set_option linter.unusedSimpArgs false

/-! ### impl_copyValue: function 59 -/
mutual
def impl_copyValue.l0 : Nat → List (S30) → Int → Int → Int → Int → List Int → List (List Int) → List (S30) → Option (Int × Int × List Int × (List (List Int)) × (List (S30)))
 | 0, _, _, _, _, _, _, _, _ => none
 | k + 1, x18, x19, x20, x333000, x333001, x333002, x333003, x333004 => if x20 < x19 then (if 0 ≤ x20 then (if x20 < (x18.length : Int) then ((impl_copyValue.f k ((rd_T30 x18 x20).f0) ((rd_T30 x18 x20).f1) ((rd_T30 x18 x20).f2) ((rd_T30 x18 x20).f3) ((rd_T30 x18 x20).f4)).bind fun bt335 => (if x333004.length < 1599289640401 then (impl_copyValue.l0 k x18 x19 (wrap64 (x20 + 1)) x333000 x333001 x333002 x333003 (x333004 ++ [(⟨bt335.1, bt335.2.1, bt335.2.2.1, bt335.2.2.2.1, bt335.2.2.2.2⟩ : S30)])) else (none))) else (none)) else (none)) else (some (x333000, x333001, x333002, x333003, x333004))
def impl_copyValue.f : Nat → Int → Int → List Int → List (List Int) → List (S30) → Option (Int × Int × List Int × (List (List Int)) × (List (S30)))
 | 0, _, _, _, _, _ => none
 | k + 1, a0_0, a0_1, l0_2, l0_3, l0_4 => (impl_copyBytes.f l0_2).bind fun t326 => ((impl_copyTexts.f k l0_3).bind fun t329 => (impl_copyValue.l0 k l0_4 (l0_4.length : Int) 0 a0_0 a0_1 t326 t329 ([] : List (S30))))
end
theorem impl_copyValue.mono_l : ∀ k, (∀ y0 y1 y2 y3 y4, LeO (impl_copyValue.f k y0 y1 y2 y3 y4) (impl_copyValue.f (k + 1) y0 y1 y2 y3 y4)) ∧ (∀ y0 y1 y2 y3 y4 y5 y6 y7, LeO (impl_copyValue.l0 k y0 y1 y2 y3 y4 y5 y6 y7) (impl_copyValue.l0 (k + 1) y0 y1 y2 y3 y4 y5 y6 y7))
 | 0 => ⟨fun _ _ _ _ _ r h => by simp [impl_copyValue.f] at h, fun _ _ _ _ _ _ _ _ r h => by simp [impl_copyValue.l0] at h⟩
 | k + 1 => by
  obtain ⟨ih0, ih1⟩ := impl_copyValue.mono_l k
  refine ⟨?_, ?_⟩
  ·intro y0 y1 y2 y3 y4
   unfold impl_copyValue.f
   repeat' first
   | (with_reducible exact ih0 _ _ _ _ _)
   | (with_reducible exact ih1 _ _ _ _ _ _ _ _)
   | (with_reducible exact impl_copyTexts.mono _ _)
   | (with_reducible exact LeO.refl _)
   | (with_reducible exact LeO.none _)
   | (with_reducible refine LeO.ite ?_ ?_)
   | (with_reducible refine LeO.bind ?_ (fun _ => ?_))
   | exact ih0 _ _ _ _ _
   | exact ih1 _ _ _ _ _ _ _ _
   | exact impl_copyTexts.mono _ _
   | exact LeO.none _
   | refine LeO.ite ?_ ?_
   | refine LeO.bind ?_ (fun _ => ?_)
  ·intro y0 y1 y2 y3 y4 y5 y6 y7
   unfold impl_copyValue.l0
   repeat' first
   | (with_reducible exact ih0 _ _ _ _ _)
   | (with_reducible exact ih1 _ _ _ _ _ _ _ _)
   | (with_reducible exact impl_copyTexts.mono _ _)
   | (with_reducible exact LeO.refl _)
   | (with_reducible exact LeO.none _)
   | (with_reducible refine LeO.ite ?_ ?_)
   | (with_reducible refine LeO.bind ?_ (fun _ => ?_))
   | exact ih0 _ _ _ _ _
   | exact ih1 _ _ _ _ _ _ _ _
   | exact impl_copyTexts.mono _ _
   | exact LeO.none _
   | refine LeO.ite ?_ ?_
   | refine LeO.bind ?_ (fun _ => ?_)
theorem impl_copyValue.mono : ∀ a0 a1 a2 a3 a4 k, LeO (impl_copyValue.f k a0 a1 a2 a3 a4) (impl_copyValue.f (k + 1) a0 a1 a2 a3 a4) := by
 intro a0 a1 a2 a3 a4 k
 obtain ⟨ih0, ih1⟩ := impl_copyValue.mono_l k
 exact ih0 a0 a1 a2 a3 a4
def impl_copyValue.T1 : Bool × List (List Nat × List Nat) := (true, [([], []), ([0], [0]), ([], []), ([2], [2]), ([], []), ([4], [4]), ([5], [5]), ([], []), ([7], [7]), ([8, 6], [8]), ([1, 3, 6, 9], [1, 3, 6, 9]), ([], []), ([11, 10, 9, 0, 1, 2, 3, 4, 5, 6, 7, 8, 9, 10, 11], [10, 11])])
def impl_copyValue.B1 : List Nat := [0, 1, 0, 4, 0, 16, 48, 0, 128, 496, 1023, 0, 4095]
theorem impl_copyValue.tab1 : rtab .any (opsOf Try.f59 1) = impl_copyValue.T1 := by kernel_rfl
theorem impl_copyValue.bits1 : waitsOk impl_copyValue.T1.2 impl_copyValue.B1 = true := by kernel_rfl
def impl_copyValue.T5 : Bool × List (List Nat × List Nat) := (true, [([], []), ([0], [0]), ([], []), ([2], [2]), ([3], [3]), ([1, 4, 3], [1, 4]), ([0, 1, 2, 3, 4, 5], []), ([6, 5, 5, 0, 1, 2, 3, 4, 5], [5, 6])])
def impl_copyValue.B5 : List Nat := [0, 1, 0, 4, 12, 31, 63, 127]
theorem impl_copyValue.tab5 : rtab .any (opsOf Try.f59 5) = impl_copyValue.T5 := by kernel_rfl
theorem impl_copyValue.bits5 : waitsOk impl_copyValue.T5.2 impl_copyValue.B5 = true := by kernel_rfl
-- the walk of impl_copyValue stands in a text of its own
end Go.Proofs.Ytenpjddjmhjdoaa.PFnExactValGet
