/- What a draw's byte can be. No condition. -/
import Derived.Test.YtockllljeeakaaaDoorMcore
set_option linter.unusedVariables false
namespace Go.Proofs.YtockllljeeakaaaDoor.M
open Go.RowKit Go.Proofs.YtockllljeeakaaaDoorW.PrintWords Go.Proofs.YtockllljeeakaaaDoorW.PrintLast Go.Proofs.YtockllljeeakaaaDoorW.PrintMore
theorem and255 (y : Int) : 0 ≤ Go.bits .and .i64 y 255 ∧ Go.bits .and .i64 y 255 ≤ 255 := by
  have h : (BitVec.ofInt 64 y &&& BitVec.ofInt 64 255).toNat ≤ 255 := by
    rw [BitVec.toNat_and]
    exact Nat.and_le_right
  have e : Go.bits .and .i64 y 255 = IntKind.i64.wrap ((BitVec.ofInt 64 y &&& BitVec.ofInt 64 255).toNat : Int) := rfl
  rw [e, i64_w, w64 (by omega) (by omega)]
  omega
end Go.Proofs.YtockllljeeakaaaDoor.M
