/- What the law reaches: each function as a plain Lean function, and that each call comes to it. No condition. -/
import Derived.Test.YtmigpeaiepdmbaaDoorProg
import Derived.Test.YtmigpeaiepdmbaaDoorMstr
import Derived.Test.YtmigpeaiepdmbaaDoorMz
import Derived.Lib.Bytealg
import Derived.Lib.BytesEntry
import Derived.Laws.Externs
import Derived.Below
import Derived.Deep.Draws
import Derived.Deep.AppendLies
import Derived.Maps.AppendAt
import Derived.OwnWalk
import Derived.Laws.BytesArg
import Derived.Laws.MakeOwn
import Derived.Laws.OwnMore
import Derived.Deep.OwnRows
import Derived.Tactics
import Derived.Lib.ConvBytes
import Derived.Laws.Slices
import Derived.WalkKit
import Derived.KernelRfl
import Derived.RowKit3
import Derived.Deep.LoopGhost
import Derived.Deep.QuietTactic
import Derived.BigQuiet
import Derived.WideLaws
import Derived.Deep.DeepCutAuto
import Derived.Deep.CutBlock
import Derived.Deep.RegionHeld3
import Derived.Laws.Rows
import Derived.Lib.AppendStr
import Derived.ArgAppend
import Derived.Laws.IdiomCopy
import Derived.OrdersHeld
import Derived.Laws.BitsLemmas
import Derived.RowKit
import Derived.Test.YtmigpeaiepdmbaaDoorVWords
import Derived.Test.YtmigpeaiepdmbaaDoorVLast
import Derived.Test.YtmigpeaiepdmbaaDoorVTab
import Derived.Test.YtmigpeaiepdmbaaDoorVFour
import Derived.Test.YtmigpeaiepdmbaaDoorVQPut
import Derived.Test.YtmigpeaiepdmbaaDoorVApart
import Derived.Test.YtmigpeaiepdmbaaDoorVArr
import Derived.Test.YtmigpeaiepdmbaaDoorVZeros
import Derived.Test.YtmigpeaiepdmbaaDoorVFoot
import Derived.Test.YtmigpeaiepdmbaaDoorVKept
import Derived.Test.YtmigpeaiepdmbaaDoorVShare
import Derived.Test.YtmigpeaiepdmbaaDoorVN
import Derived.Test.YtmigpeaiepdmbaaDoorVFootNe
import Derived.Test.YtmigpeaiepdmbaaDoorVAt
import Derived.Test.YtmigpeaiepdmbaaDoorVEqStruct
import Derived.Test.YtmigpeaiepdmbaaDoorVRepsOne
import Derived.Test.YtmigpeaiepdmbaaDoorVInv
import Derived.Test.YtmigpeaiepdmbaaDoorVInvWords
import Derived.Test.YtmigpeaiepdmbaaDoorVGuard
import Derived.Test.YtmigpeaiepdmbaaDoorVNEv
import Derived.Test.YtmigpeaiepdmbaaDoorVMore
namespace Go.Proofs.YtmigpeaiepdmbaaDoor.PFnExactAddrItem
open Go.RowKit Go.Proofs.YtmigpeaiepdmbaaDoorW.PrintWords Go.Proofs.YtmigpeaiepdmbaaDoorW.PrintLast Go.Proofs.YtmigpeaiepdmbaaDoorW.PrintMore Go.Proofs.YtmigpeaiepdmbaaDoor.M
attribute [local go_sem] max2_int min2_int max_two min_two max_three min_three max_four min_four Go.Proofs.YtmigpeaiepdmbaaDoor.M.str_gtr Go.Proofs.YtmigpeaiepdmbaaDoor.M.str_leq Go.Proofs.YtmigpeaiepdmbaaDoor.M.str_geq   -- for this text's walks alone
set_option linter.unusedVariables false
set_option linter.unusedSimpArgs false



def errW : Option Int → Value
 | none => .nilIface
 | some c => .iface 0 (.int .i64 c)
theorem errW_none : errW none = .nilIface := rfl
theorem errW_some (c : Int) : errW (some c) = .iface 0 (.int .i64 c) := rfl

theorem info5 : (Tryd.prog.info? 5).map (fun i => (i.zero, i.size, i.bytes)) = some (some (.int .u8 0), 1, 1) := by kernel_rfl
-- the values' own types

theorem fr17 : Fr Tryd.prog 17 := ⟨_, Tryd.func17, by kernel_rfl, rfl⟩
theorem fr18 : Fr Tryd.prog 18 := ⟨_, Tryd.func18, by kernel_rfl, rfl⟩
theorem fr20 : Fr Tryd.prog 20 := ⟨_, Tryd.func20, by kernel_rfl, rfl⟩
theorem fr30 : Fr Tryd.prog 30 := ⟨_, Tryd.func30, by kernel_rfl, rfl⟩
end Go.Proofs.YtmigpeaiepdmbaaDoor.PFnExactAddrItem
