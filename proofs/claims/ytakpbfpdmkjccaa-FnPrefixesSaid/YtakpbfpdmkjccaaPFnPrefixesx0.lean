/- What the law reaches: each function as a plain Lean function, and that each call comes to it. No condition. -/
import Derived.Test.YtakpbfpdmkjccaaProg
import Derived.Test.YtakpbfpdmkjccaaMstr
import Derived.Test.YtakpbfpdmkjccaaMz
import Derived.Lib.Bytealg
import Derived.Lib.BytesEntry
import Derived.Laws.Externs
import Derived.Below
import Derived.Deep.Draws
import Derived.Deep.AppendLies
import Derived.Maps.AppendAt
import Derived.OwnWalk
import Derived.Laws.BytesArg
import Derived.Laws.MakeOwn
import Derived.Laws.OwnMore
import Derived.Deep.OwnRows
import Derived.Tactics
import Derived.Lib.ConvBytes
import Derived.Laws.Slices
import Derived.WalkKit
import Derived.KernelRfl
import Derived.RowKit3
import Derived.Deep.LoopGhost
import Derived.Deep.QuietTactic
import Derived.BigQuiet
import Derived.WideLaws
import Derived.Deep.DeepCutAuto
import Derived.Deep.CutBlock
import Derived.Deep.RegionHeld3
import Derived.Laws.Rows
import Derived.Lib.AppendStr
import Derived.ArgAppend
import Derived.Laws.IdiomCopy
import Derived.OrdersHeld
import Derived.Laws.BitsLemmas
import Derived.RowKit
import Derived.Test.YtakpbfpdmkjccaaVWords
import Derived.Test.YtakpbfpdmkjccaaVLast
import Derived.Test.YtakpbfpdmkjccaaVTab
import Derived.Test.YtakpbfpdmkjccaaVFour
import Derived.Test.YtakpbfpdmkjccaaVQPut
import Derived.Test.YtakpbfpdmkjccaaVApart
import Derived.Test.YtakpbfpdmkjccaaVArr
import Derived.Test.YtakpbfpdmkjccaaVZeros
import Derived.Test.YtakpbfpdmkjccaaVFoot
import Derived.Test.YtakpbfpdmkjccaaVKept
import Derived.Test.YtakpbfpdmkjccaaVShare
import Derived.Test.YtakpbfpdmkjccaaVN
import Derived.Test.YtakpbfpdmkjccaaVFootNe
import Derived.Test.YtakpbfpdmkjccaaVAt
import Derived.Test.YtakpbfpdmkjccaaVEqStruct
import Derived.Test.YtakpbfpdmkjccaaVRepsOne
import Derived.Test.YtakpbfpdmkjccaaVInv
import Derived.Test.YtakpbfpdmkjccaaVInvWords
import Derived.Test.YtakpbfpdmkjccaaVGuard
import Derived.Test.YtakpbfpdmkjccaaVNEv
import Derived.Test.YtakpbfpdmkjccaaVMore
namespace Go.Proofs.Ytakpbfpdmkjccaa.PFnPrefixes
open Go.RowKit Go.Proofs.YtakpbfpdmkjccaaW.PrintWords Go.Proofs.YtakpbfpdmkjccaaW.PrintLast Go.Proofs.YtakpbfpdmkjccaaW.PrintMore Go.Proofs.Ytakpbfpdmkjccaa.M
attribute [local go_sem] max2_int min2_int max_two min_two max_three min_three max_four min_four Go.Proofs.Ytakpbfpdmkjccaa.M.str_gtr Go.Proofs.Ytakpbfpdmkjccaa.M.str_leq Go.Proofs.Ytakpbfpdmkjccaa.M.str_geq   -- for this text's walks alone
set_option linter.unusedVariables false
set_option linter.unusedSimpArgs false



def errW : Option Int → Value
 | none => .nilIface
 | some c => .iface 0 (.int .i64 c)
theorem errW_none : errW none = .nilIface := rfl
theorem errW_some (c : Int) : errW (some c) = .iface 0 (.int .i64 c) := rfl

theorem info3 : (Try.prog.info? 3).map (fun i => (i.zero, i.size, i.bytes)) = some (some (.int .i64 0), 1, 8) := by kernel_rfl
theorem info5 : (Try.prog.info? 5).map (fun i => (i.zero, i.size, i.bytes)) = some (some (.int .u8 0), 1, 1) := by kernel_rfl
-- the values' own types

theorem fr22 : Fr Try.prog 22 := ⟨_, Try.func22, by kernel_rfl, rfl⟩
theorem fr37 : Fr Try.prog 37 := ⟨_, Try.func37, by kernel_rfl, rfl⟩
theorem fr38 : Fr Try.prog 38 := ⟨_, Try.func38, by kernel_rfl, rfl⟩
theorem fr39 : Fr Try.prog 39 := ⟨_, Try.func39, by kernel_rfl, rfl⟩
theorem fr45 : Fr Try.prog 45 := ⟨_, Try.func45, by kernel_rfl, rfl⟩
theorem fr48 : Fr Try.prog 48 := ⟨_, Try.func48, by kernel_rfl, rfl⟩
end Go.Proofs.Ytakpbfpdmkjccaa.PFnPrefixes
