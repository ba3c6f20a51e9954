/- What the law reaches: each function as a plain Lean function, and that each call comes to it. No condition. -/
import Derived.Test.YtenpjddjmhjdoaaPFnExactValDropx0
import Derived.Test.YtenpjddjmhjdoaaPFnExactValDropx12
namespace Go.Proofs.Ytenpjddjmhjdoaa.PFnExactValDrop
open Go.RowKit Go.Proofs.YtenpjddjmhjdoaaW.PrintWords Go.Proofs.YtenpjddjmhjdoaaW.PrintLast Go.Proofs.YtenpjddjmhjdoaaW.PrintMore Go.Proofs.Ytenpjddjmhjdoaa.M
attribute [local go_sem] max2_int min2_int max_two min_two max_three min_three max_four min_four Go.Proofs.Ytenpjddjmhjdoaa.M.str_gtr Go.Proofs.Ytenpjddjmhjdoaa.M.str_leq Go.Proofs.Ytenpjddjmhjdoaa.M.str_geq   -- for this text's walks alone
set_option linter.unusedVariables false
set_option linter.unusedSimpArgs false

/-! ### impl_copyValue: function 59 -/
mutual
def impl_copyValue.l0 : Nat → List (S30) → Int → Int → Int → Int → List Int → List (List Int) → List (S30) → Option (Int × Int × List Int × (List (List Int)) × (List (S30)))
 | 0, _, _, _, _, _, _, _, _ => none
 | k + 1, x18, x19, x20, x438000, x438001, x438002, x438003, x438004 => if x20 < x19 then (if 0 ≤ x20 then (if x20 < (x18.length : Int) then ((impl_copyValue.f k ((rd_T30 x18 x20).f0) ((rd_T30 x18 x20).f1) ((rd_T30 x18 x20).f2) ((rd_T30 x18 x20).f3) ((rd_T30 x18 x20).f4)).bind fun bt440 => (if x438004.length < 1599289640401 then (impl_copyValue.l0 k x18 x19 (wrap64 (x20 + 1)) x438000 x438001 x438002 x438003 (x438004 ++ [(⟨bt440.1, bt440.2.1, bt440.2.2.1, bt440.2.2.2.1, bt440.2.2.2.2⟩ : S30)])) else (none))) else (none)) else (none)) else (some (x438000, x438001, x438002, x438003, x438004))
def impl_copyValue.f : Nat → Int → Int → List Int → List (List Int) → List (S30) → Option (Int × Int × List Int × (List (List Int)) × (List (S30)))
 | 0, _, _, _, _, _ => none
 | k + 1, a0_0, a0_1, l0_2, l0_3, l0_4 => (impl_copyBytes.f l0_2).bind fun t431 => ((impl_copyTexts.f k l0_3).bind fun t434 => (impl_copyValue.l0 k l0_4 (l0_4.length : Int) 0 a0_0 a0_1 t431 t434 ([] : List (S30))))
end
def impl_copyValue.T1 : Bool × List (List Nat × List Nat) := (true, [([], []), ([0], [0]), ([], []), ([2], [2]), ([], []), ([4], [4]), ([5], [5]), ([], []), ([7], [7]), ([8, 6], [8]), ([1, 3, 6, 9], [1, 3, 6, 9]), ([], []), ([11, 10, 9, 0, 1, 2, 3, 4, 5, 6, 7, 8, 9, 10, 11], [10, 11])])
def impl_copyValue.B1 : List Nat := [0, 1, 0, 4, 0, 16, 48, 0, 128, 496, 1023, 0, 4095]
theorem impl_copyValue.tab1 : rtab .any (opsOf Try.f59 1) = impl_copyValue.T1 := by kernel_rfl
theorem impl_copyValue.bits1 : waitsOk impl_copyValue.T1.2 impl_copyValue.B1 = true := by kernel_rfl
-- the walk of impl_copyValue stands in a text of its own
end Go.Proofs.Ytenpjddjmhjdoaa.PFnExactValDrop
