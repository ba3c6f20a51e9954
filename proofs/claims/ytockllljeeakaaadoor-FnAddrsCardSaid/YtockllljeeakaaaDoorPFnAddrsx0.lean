/- What the law reaches: each function as a plain Lean function, and that each call comes to it. No condition. -/
import Derived.Test.YtockllljeeakaaaDoorProg
import Derived.Test.YtockllljeeakaaaDoorMstr
import Derived.Test.YtockllljeeakaaaDoorMz
import Derived.Lib.Bytealg
import Derived.Lib.BytesEntry
import Derived.Laws.Externs
import Derived.Below
import Derived.Deep.Draws
import Derived.Deep.AppendLies
import Derived.Maps.AppendAt
import Derived.OwnWalk
import Derived.Laws.BytesArg
import Derived.Laws.MakeOwn
import Derived.Laws.OwnMore
import Derived.Deep.OwnRows
import Derived.Tactics
import Derived.Lib.ConvBytes
import Derived.Laws.Slices
import Derived.WalkKit
import Derived.KernelRfl
import Derived.RowKit3
import Derived.Deep.LoopGhost
import Derived.Deep.QuietTactic
import Derived.BigQuiet
import Derived.WideLaws
import Derived.Deep.DeepCutAuto
import Derived.Deep.CutBlock
import Derived.Deep.RegionHeld3
import Derived.Laws.Rows
import Derived.Lib.AppendStr
import Derived.ArgAppend
import Derived.Laws.IdiomCopy
import Derived.OrdersHeld
import Derived.Laws.BitsLemmas
import Derived.RowKit
import Derived.Test.YtockllljeeakaaaDoorVWords
import Derived.Test.YtockllljeeakaaaDoorVLast
import Derived.Test.YtockllljeeakaaaDoorVTab
import Derived.Test.YtockllljeeakaaaDoorVFour
import Derived.Test.YtockllljeeakaaaDoorVQPut
import Derived.Test.YtockllljeeakaaaDoorVApart
import Derived.Test.YtockllljeeakaaaDoorVArr
import Derived.Test.YtockllljeeakaaaDoorVZeros
import Derived.Test.YtockllljeeakaaaDoorVFoot
import Derived.Test.YtockllljeeakaaaDoorVKept
import Derived.Test.YtockllljeeakaaaDoorVShare
import Derived.Test.YtockllljeeakaaaDoorVN
import Derived.Test.YtockllljeeakaaaDoorVFootNe
import Derived.Test.YtockllljeeakaaaDoorVAt
import Derived.Test.YtockllljeeakaaaDoorVEqStruct
import Derived.Test.YtockllljeeakaaaDoorVRepsOne
import Derived.Test.YtockllljeeakaaaDoorVInv
import Derived.Test.YtockllljeeakaaaDoorVInvWords
import Derived.Test.YtockllljeeakaaaDoorVGuard
import Derived.Test.YtockllljeeakaaaDoorVNEv
import Derived.Test.YtockllljeeakaaaDoorVMore
namespace Go.Proofs.YtockllljeeakaaaDoor.PFnAddrs
open Go.RowKit Go.Proofs.YtockllljeeakaaaDoorW.PrintWords Go.Proofs.YtockllljeeakaaaDoorW.PrintLast Go.Proofs.YtockllljeeakaaaDoorW.PrintMore Go.Proofs.YtockllljeeakaaaDoor.M
attribute [local go_sem] max2_int min2_int max_two min_two max_three min_three max_four min_four Go.Proofs.YtockllljeeakaaaDoor.M.str_gtr Go.Proofs.YtockllljeeakaaaDoor.M.str_leq Go.Proofs.YtockllljeeakaaaDoor.M.str_geq   -- for this text's walks alone
set_option linter.unusedVariables false
set_option linter.unusedSimpArgs false



def errW : Option Int → Value
 | none => .nilIface
 | some c => .iface 107 (.int .i64 c)
theorem errW_none : errW none = .nilIface := rfl
theorem errW_some (c : Int) : errW (some c) = .iface 107 (.int .i64 c) := rfl

theorem info5 : (Tryd.prog.info? 5).map (fun i => (i.zero, i.size, i.bytes)) = some (some (.int .u8 0), 1, 1) := by kernel_rfl
-- the values' own types

theorem fr41 : Fr Tryd.prog 41 := ⟨_, Tryd.func41, by kernel_rfl, rfl⟩
theorem fr46 : Fr Tryd.prog 46 := ⟨_, Tryd.func46, by kernel_rfl, rfl⟩
theorem fr47 : Fr Tryd.prog 47 := ⟨_, Tryd.func47, by kernel_rfl, rfl⟩
theorem fr70 : Fr Tryd.prog 70 := ⟨_, Tryd.func70, by kernel_rfl, rfl⟩
theorem fr140 : Fr Tryd.prog 140 := ⟨_, Tryd.func140, by kernel_rfl, rfl⟩
end Go.Proofs.YtockllljeeakaaaDoor.PFnAddrs
