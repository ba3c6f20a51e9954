/-
  NARROWER THAN 'FOR EVERY INPUT', by the rows' own cells (each row's printed sentence says how): FnExactLocals: loops · FnExactUses: loops · FnExactBackward: loops · FnExactExprOk: loops · FnExactConfigOk: loops · FnExactChangesOk: loops.
  DERIVED. THE GIVEN ROWS OF THIS SEAT. 7 by the template 'for every input the law returns true; each argument reads behind the call as it read before'; 0 by the template 'total and deterministic' (their statements: YtockllljeeakaaaTotals.lean).
  GIVEN WITH THE SEED: the statements are not yours to turn. If you find one false, say at which input.
  Laid BY PROGRAM, IN A SANDBOX (cutbox-rows.mjs): the forced cells as the released guide's own fill.sh prints them over the translation da20ab97b58e3119… (all of the seat's roots in one cut). By AI agents, Wed Nov 11 2026. No macro, syntax, notation, axiom, sorry.
-/
import Derived.Test.YtockllljeeakaaaChecked
import GoSem.Claim
import GoSem.ClaimJoined
import GoSem.ClaimMapViews
import Derived.JoinedTies
import Derived.KernelRfl
namespace Go.Proofs.Ytockllljeeakaaa
/- THE CELL 'sum', in the pinned program and in every row, IS THE sha256 OF THE DUMP (.gsa) THAT YtockllljeeakaaaProg.lean LOADS. Nothing in Lean hashes anything: it is a label: what it is worth is what the hold of that sum in a sandbox is worth. -/
noncomputable def Try.pinned : Pinned := { name := "ytockllljeeakaaa", sum := "da20ab97b58e3119aa16fe48a96f23f03e0d243d0c6c2d3c0e1815d91c1d3e8f", checked := Try.checked }
namespace Rows
def none {H : Type} : Left H := { results := [], args := [] }

/-- 'laws.FnExactLocals': WHATEVER THE INPUT: true; the input reads as it did. -/
def fnExactLocalsSpec : ChangeSpec := { name := "fnExactLocals", fn := fun _ => fun
  | [d] => { results := [.lit (.bool true)], args := [d] }
  | _ => none }
def fnExactLocalsRow : OpenClaim := { program := "ytockllljeeakaaa", sum := "da20ab97b58e3119aa16fe48a96f23f03e0d243d0c6c2d3c0e1815d91c1d3e8f", func := "loop.example/g00407/laws.FnExactLocals", spec := "fnExactLocals", inPlace := ["internal/bytealg.Compare"], unfollowed := true, recurses := true, loops := true, apart := false }
def FnExactLocalsSaid : Prop := fnExactLocalsRow.holds Try.pinned (OpenSpec.ofChange fnExactLocalsSpec)

/-- ITS FALSE NEIGHBOUR: 'it returns false'. Refute it at one input. -/
def fnExactLocalsWrong : ChangeSpec := { name := "fnExactLocals", fn := fun _ => fun
  | [d] => { results := [.lit (.bool false)], args := [d] }
  | _ => none }
def FnExactLocalsWrongFalsely : Prop := fnExactLocalsRow.holds Try.pinned (OpenSpec.ofChange fnExactLocalsWrong)

/-- 'laws.FnExactUses': WHATEVER THE INPUT: true; the input reads as it did. -/
def fnExactUsesSpec : ChangeSpec := { name := "fnExactUses", fn := fun _ => fun
  | [d] => { results := [.lit (.bool true)], args := [d] }
  | _ => none }
def fnExactUsesRow : OpenClaim := { program := "ytockllljeeakaaa", sum := "da20ab97b58e3119aa16fe48a96f23f03e0d243d0c6c2d3c0e1815d91c1d3e8f", func := "loop.example/g00407/laws.FnExactUses", spec := "fnExactUses", inPlace := ["internal/bytealg.Compare"], unfollowed := true, recurses := true, loops := true, apart := false }
def FnExactUsesSaid : Prop := fnExactUsesRow.holds Try.pinned (OpenSpec.ofChange fnExactUsesSpec)

/-- ITS FALSE NEIGHBOUR: 'it returns false'. Refute it at one input. -/
def fnExactUsesWrong : ChangeSpec := { name := "fnExactUses", fn := fun _ => fun
  | [d] => { results := [.lit (.bool false)], args := [d] }
  | _ => none }
def FnExactUsesWrongFalsely : Prop := fnExactUsesRow.holds Try.pinned (OpenSpec.ofChange fnExactUsesWrong)

/-- 'laws.FnExactBackward': WHATEVER THE INPUT: true; the input reads as it did. -/
def fnExactBackwardSpec : ChangeSpec := { name := "fnExactBackward", fn := fun _ => fun
  | [d] => { results := [.lit (.bool true)], args := [d] }
  | _ => none }
def fnExactBackwardRow : OpenClaim := { program := "ytockllljeeakaaa", sum := "da20ab97b58e3119aa16fe48a96f23f03e0d243d0c6c2d3c0e1815d91c1d3e8f", func := "loop.example/g00407/laws.FnExactBackward", spec := "fnExactBackward", inPlace := ["internal/bytealg.Compare"], unfollowed := true, recurses := true, loops := true, apart := false }
def FnExactBackwardSaid : Prop := fnExactBackwardRow.holds Try.pinned (OpenSpec.ofChange fnExactBackwardSpec)

/-- ITS FALSE NEIGHBOUR: 'it returns false'. Refute it at one input. -/
def fnExactBackwardWrong : ChangeSpec := { name := "fnExactBackward", fn := fun _ => fun
  | [d] => { results := [.lit (.bool false)], args := [d] }
  | _ => none }
def FnExactBackwardWrongFalsely : Prop := fnExactBackwardRow.holds Try.pinned (OpenSpec.ofChange fnExactBackwardWrong)

/-- 'laws.FnExactExprOk': WHATEVER THE INPUT: true; the input reads as it did. -/
def fnExactExprOkSpec : ChangeSpec := { name := "fnExactExprOk", fn := fun _ => fun
  | [d] => { results := [.lit (.bool true)], args := [d] }
  | _ => none }
def fnExactExprOkRow : OpenClaim := { program := "ytockllljeeakaaa", sum := "da20ab97b58e3119aa16fe48a96f23f03e0d243d0c6c2d3c0e1815d91c1d3e8f", func := "loop.example/g00407/laws.FnExactExprOk", spec := "fnExactExprOk", inPlace := ["internal/bytealg.Compare"], unfollowed := true, recurses := true, loops := true, apart := false }
def FnExactExprOkSaid : Prop := fnExactExprOkRow.holds Try.pinned (OpenSpec.ofChange fnExactExprOkSpec)

/-- ITS FALSE NEIGHBOUR: 'it returns false'. Refute it at one input. -/
def fnExactExprOkWrong : ChangeSpec := { name := "fnExactExprOk", fn := fun _ => fun
  | [d] => { results := [.lit (.bool false)], args := [d] }
  | _ => none }
def FnExactExprOkWrongFalsely : Prop := fnExactExprOkRow.holds Try.pinned (OpenSpec.ofChange fnExactExprOkWrong)

/-- 'laws.FnExactConfigOk': WHATEVER THE INPUT: true; the input reads as it did. -/
def fnExactConfigOkSpec : ChangeSpec := { name := "fnExactConfigOk", fn := fun _ => fun
  | [d] => { results := [.lit (.bool true)], args := [d] }
  | _ => none }
def fnExactConfigOkRow : OpenClaim := { program := "ytockllljeeakaaa", sum := "da20ab97b58e3119aa16fe48a96f23f03e0d243d0c6c2d3c0e1815d91c1d3e8f", func := "loop.example/g00407/laws.FnExactConfigOk", spec := "fnExactConfigOk", inPlace := ["internal/bytealg.Compare"], unfollowed := true, recurses := true, loops := true, apart := false }
def FnExactConfigOkSaid : Prop := fnExactConfigOkRow.holds Try.pinned (OpenSpec.ofChange fnExactConfigOkSpec)

/-- ITS FALSE NEIGHBOUR: 'it returns false'. Refute it at one input. -/
def fnExactConfigOkWrong : ChangeSpec := { name := "fnExactConfigOk", fn := fun _ => fun
  | [d] => { results := [.lit (.bool false)], args := [d] }
  | _ => none }
def FnExactConfigOkWrongFalsely : Prop := fnExactConfigOkRow.holds Try.pinned (OpenSpec.ofChange fnExactConfigOkWrong)

/-- 'laws.FnExactChangesOk': WHATEVER THE INPUT: true; the input reads as it did. -/
def fnExactChangesOkSpec : ChangeSpec := { name := "fnExactChangesOk", fn := fun _ => fun
  | [d] => { results := [.lit (.bool true)], args := [d] }
  | _ => none }
def fnExactChangesOkRow : OpenClaim := { program := "ytockllljeeakaaa", sum := "da20ab97b58e3119aa16fe48a96f23f03e0d243d0c6c2d3c0e1815d91c1d3e8f", func := "loop.example/g00407/laws.FnExactChangesOk", spec := "fnExactChangesOk", inPlace := ["internal/bytealg.Compare"], unfollowed := true, recurses := true, loops := true, apart := false }
def FnExactChangesOkSaid : Prop := fnExactChangesOkRow.holds Try.pinned (OpenSpec.ofChange fnExactChangesOkSpec)

/-- ITS FALSE NEIGHBOUR: 'it returns false'. Refute it at one input. -/
def fnExactChangesOkWrong : ChangeSpec := { name := "fnExactChangesOk", fn := fun _ => fun
  | [d] => { results := [.lit (.bool false)], args := [d] }
  | _ => none }
def FnExactChangesOkWrongFalsely : Prop := fnExactChangesOkRow.holds Try.pinned (OpenSpec.ofChange fnExactChangesOkWrong)

/-- 'laws.FnNames': WHATEVER THE INPUT: true; the input reads as it did. -/
def fnNamesSpec : ChangeSpec := { name := "fnNames", fn := fun _ => fun
  | [d] => { results := [.lit (.bool true)], args := [d] }
  | _ => none }
def fnNamesRow : OpenClaim := { program := "ytockllljeeakaaa", sum := "da20ab97b58e3119aa16fe48a96f23f03e0d243d0c6c2d3c0e1815d91c1d3e8f", func := "loop.example/g00407/laws.FnNames", spec := "fnNames", inPlace := ["internal/bytealg.Compare"], unfollowed := true, recurses := true, apart := false }
def FnNamesSaid : Prop := fnNamesRow.holds Try.pinned (OpenSpec.ofChange fnNamesSpec)

/-- ITS FALSE NEIGHBOUR: 'it returns false'. Refute it at one input. -/
def fnNamesWrong : ChangeSpec := { name := "fnNames", fn := fun _ => fun
  | [d] => { results := [.lit (.bool false)], args := [d] }
  | _ => none }
def FnNamesWrongFalsely : Prop := fnNamesRow.holds Try.pinned (OpenSpec.ofChange fnNamesWrong)

/- THE SECOND FORM. 'bulk': how many values and letters a reading holds, each counted each time it is reached (what is shared counts as often as it is met; a slice's spare places count too). A statement '..UptoSaid' is the law's where the arguments, and the package variables that the reading takes, are together of bulk at most 1048576: NARROWER than '..Said'. Prove '..Said' where nothing that the law and all that it calls make is longer than what came in: it says more and counts as full. Else prove '..UptoSaid'. A law counts once. -/
mutual
def uptoBulk {H : Type} : DataW H → Nat
  | .lit (.string bytes) => bytes.length + 1
  | .lit _ => 1
  | .nil => 1
  | .ptr d => uptoBulk d + 1
  | .slice elems spare => uptoBulkAll elems + uptoBulkAll spare + 1
  | .agg parts => uptoBulkAll parts + 1
  | .iface _ d => uptoBulk d + 1
  | .map entries => uptoBulkEntries entries + 1
  | .held _ => 1
def uptoBulkAll {H : Type} : List (DataW H) → Nat
  | [] => 0
  | d :: r => uptoBulk d + uptoBulkAll r
def uptoBulkEntries {H : Type} : List (Lit × DataW H) → Nat
  | [] => 0
  | x :: r => uptoBulkEntry x + uptoBulkEntries r
def uptoBulkEntry {H : Type} : Lit × DataW H → Nat
  | (.string bytes, d) => bytes.length + uptoBulk d + 1
  | (_, d) => uptoBulk d + 1
 end
def uptoSmall : (H : Type) → List (DataW H) → Bool := fun _ ds => decide (uptoBulkAll ds ≤ 1048576)
def OpenSpec.upto (s : _root_.Go.ChangeSpec) : _root_.Go.OpenSpec := { _root_.Go.OpenSpec.ofChange s with cond := some uptoSmall }

/-- 'laws.FnExactLocals', WHERE WHAT IT READS IS OF BULK AT MOST 1048576: true; the input reads as it did. -/
def fnExactLocalsUptoRow : OpenClaim := { program := "ytockllljeeakaaa", sum := "da20ab97b58e3119aa16fe48a96f23f03e0d243d0c6c2d3c0e1815d91c1d3e8f", func := "loop.example/g00407/laws.FnExactLocals", spec := "fnExactLocals", inPlace := ["internal/bytealg.Compare"], unfollowed := true, recurses := true, loops := true, apart := false, narrowed := true }
def FnExactLocalsUptoSaid : Prop := fnExactLocalsUptoRow.holds Try.pinned (OpenSpec.upto fnExactLocalsSpec)

/-- 'laws.FnExactUses', WHERE WHAT IT READS IS OF BULK AT MOST 1048576: true; the input reads as it did. -/
def fnExactUsesUptoRow : OpenClaim := { program := "ytockllljeeakaaa", sum := "da20ab97b58e3119aa16fe48a96f23f03e0d243d0c6c2d3c0e1815d91c1d3e8f", func := "loop.example/g00407/laws.FnExactUses", spec := "fnExactUses", inPlace := ["internal/bytealg.Compare"], unfollowed := true, recurses := true, loops := true, apart := false, narrowed := true }
def FnExactUsesUptoSaid : Prop := fnExactUsesUptoRow.holds Try.pinned (OpenSpec.upto fnExactUsesSpec)

/-- 'laws.FnExactBackward', WHERE WHAT IT READS IS OF BULK AT MOST 1048576: true; the input reads as it did. -/
def fnExactBackwardUptoRow : OpenClaim := { program := "ytockllljeeakaaa", sum := "da20ab97b58e3119aa16fe48a96f23f03e0d243d0c6c2d3c0e1815d91c1d3e8f", func := "loop.example/g00407/laws.FnExactBackward", spec := "fnExactBackward", inPlace := ["internal/bytealg.Compare"], unfollowed := true, recurses := true, loops := true, apart := false, narrowed := true }
def FnExactBackwardUptoSaid : Prop := fnExactBackwardUptoRow.holds Try.pinned (OpenSpec.upto fnExactBackwardSpec)

/-- 'laws.FnExactExprOk', WHERE WHAT IT READS IS OF BULK AT MOST 1048576: true; the input reads as it did. -/
def fnExactExprOkUptoRow : OpenClaim := { program := "ytockllljeeakaaa", sum := "da20ab97b58e3119aa16fe48a96f23f03e0d243d0c6c2d3c0e1815d91c1d3e8f", func := "loop.example/g00407/laws.FnExactExprOk", spec := "fnExactExprOk", inPlace := ["internal/bytealg.Compare"], unfollowed := true, recurses := true, loops := true, apart := false, narrowed := true }
def FnExactExprOkUptoSaid : Prop := fnExactExprOkUptoRow.holds Try.pinned (OpenSpec.upto fnExactExprOkSpec)

/-- 'laws.FnExactConfigOk', WHERE WHAT IT READS IS OF BULK AT MOST 1048576: true; the input reads as it did. -/
def fnExactConfigOkUptoRow : OpenClaim := { program := "ytockllljeeakaaa", sum := "da20ab97b58e3119aa16fe48a96f23f03e0d243d0c6c2d3c0e1815d91c1d3e8f", func := "loop.example/g00407/laws.FnExactConfigOk", spec := "fnExactConfigOk", inPlace := ["internal/bytealg.Compare"], unfollowed := true, recurses := true, loops := true, apart := false, narrowed := true }
def FnExactConfigOkUptoSaid : Prop := fnExactConfigOkUptoRow.holds Try.pinned (OpenSpec.upto fnExactConfigOkSpec)

/-- 'laws.FnExactChangesOk', WHERE WHAT IT READS IS OF BULK AT MOST 1048576: true; the input reads as it did. -/
def fnExactChangesOkUptoRow : OpenClaim := { program := "ytockllljeeakaaa", sum := "da20ab97b58e3119aa16fe48a96f23f03e0d243d0c6c2d3c0e1815d91c1d3e8f", func := "loop.example/g00407/laws.FnExactChangesOk", spec := "fnExactChangesOk", inPlace := ["internal/bytealg.Compare"], unfollowed := true, recurses := true, loops := true, apart := false, narrowed := true }
def FnExactChangesOkUptoSaid : Prop := fnExactChangesOkUptoRow.holds Try.pinned (OpenSpec.upto fnExactChangesOkSpec)

/-- 'laws.FnNames', WHERE WHAT IT READS IS OF BULK AT MOST 1048576: true; the input reads as it did. -/
def fnNamesUptoRow : OpenClaim := { program := "ytockllljeeakaaa", sum := "da20ab97b58e3119aa16fe48a96f23f03e0d243d0c6c2d3c0e1815d91c1d3e8f", func := "loop.example/g00407/laws.FnNames", spec := "fnNames", inPlace := ["internal/bytealg.Compare"], unfollowed := true, recurses := true, apart := false, narrowed := true }
def FnNamesUptoSaid : Prop := fnNamesUptoRow.holds Try.pinned (OpenSpec.upto fnNamesSpec)

end Rows
end Go.Proofs.Ytockllljeeakaaa
