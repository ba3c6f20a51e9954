/-
  NARROWER THAN 'FOR EVERY INPUT', by the rows' own cells (each row's printed sentence says how): FnExactValOk: loops · FnExactValKnown: loops · FnExactValParts: loops · FnExactValDeep: loops · FnExactValKeys: loops · FnExactValCmp: loops · FnExactValBytes: loops.
  DERIVED. THE GIVEN ROWS OF THIS SEAT. 10 by the template 'for every input the law returns true; each argument reads behind the call as it read before'; 0 by the template 'total and deterministic' (their statements: YtmigpeaiepdmbaaTotals.lean).
  GIVEN WITH THE SEED: the statements are not yours to turn. If you find one false, say at which input.
  Laid BY PROGRAM, IN A SANDBOX (cutbox-rows.mjs): the forced cells as the released guide's own fill.sh prints them over the translation fd82c34621a0c0c2… (all of the seat's roots in one cut). By AI agents, Wed Nov 11 2026. No macro, syntax, notation, axiom, sorry.
-/
import Derived.Test.YtmigpeaiepdmbaaChecked
import GoSem.Claim
import GoSem.ClaimJoined
import GoSem.ClaimMapViews
import Derived.JoinedTies
import Derived.KernelRfl
namespace Go.Proofs.Ytmigpeaiepdmbaa
/- THE CELL 'sum', in the pinned program and in every row, IS THE sha256 OF THE DUMP (.gsa) THAT YtmigpeaiepdmbaaProg.lean LOADS. Nothing in Lean hashes anything: it is a label: what it is worth is what the hold of that sum in a sandbox is worth. -/
noncomputable def Try.pinned : Pinned := { name := "ytmigpeaiepdmbaa", sum := "fd82c34621a0c0c2036d0dab0901be583fff7b1295e3108a81285d30fe7b8ea1", checked := Try.checked }
namespace Rows
def none {H : Type} : Left H := { results := [], args := [] }

/-- 'laws.FnExactPathOk': WHATEVER THE INPUT: true; the input reads as it did. -/
def fnExactPathOkSpec : ChangeSpec := { name := "fnExactPathOk", fn := fun _ => fun
  | [d] => { results := [.lit (.bool true)], args := [d] }
  | _ => none }
def fnExactPathOkRow : OpenClaim := { program := "ytmigpeaiepdmbaa", sum := "fd82c34621a0c0c2036d0dab0901be583fff7b1295e3108a81285d30fe7b8ea1", func := "loop.example/g00407/laws.FnExactPathOk", spec := "fnExactPathOk", unfollowed := true, recurses := true, apart := false }
def FnExactPathOkSaid : Prop := fnExactPathOkRow.holds Try.pinned (OpenSpec.ofChange fnExactPathOkSpec)

/-- ITS FALSE NEIGHBOUR: 'it returns false'. Refute it at one input. -/
def fnExactPathOkWrong : ChangeSpec := { name := "fnExactPathOk", fn := fun _ => fun
  | [d] => { results := [.lit (.bool false)], args := [d] }
  | _ => none }
def FnExactPathOkWrongFalsely : Prop := fnExactPathOkRow.holds Try.pinned (OpenSpec.ofChange fnExactPathOkWrong)

/-- 'laws.FnExactPathCmp': WHATEVER THE INPUT: true; the input reads as it did. -/
def fnExactPathCmpSpec : ChangeSpec := { name := "fnExactPathCmp", fn := fun _ => fun
  | [d1, d2] => { results := [.lit (.bool true)], args := [d1, d2] }
  | _ => none }
def fnExactPathCmpRow : OpenClaim := { program := "ytmigpeaiepdmbaa", sum := "fd82c34621a0c0c2036d0dab0901be583fff7b1295e3108a81285d30fe7b8ea1", func := "loop.example/g00407/laws.FnExactPathCmp", spec := "fnExactPathCmp", inPlace := ["internal/bytealg.Compare"], unfollowed := true, recurses := true, apart := false }
def FnExactPathCmpSaid : Prop := fnExactPathCmpRow.holds Try.pinned (OpenSpec.ofChange fnExactPathCmpSpec)

/-- ITS FALSE NEIGHBOUR: 'it returns false'. Refute it at one input. -/
def fnExactPathCmpWrong : ChangeSpec := { name := "fnExactPathCmp", fn := fun _ => fun
  | [d1, d2] => { results := [.lit (.bool false)], args := [d1, d2] }
  | _ => none }
def FnExactPathCmpWrongFalsely : Prop := fnExactPathCmpRow.holds Try.pinned (OpenSpec.ofChange fnExactPathCmpWrong)

/-- 'laws.FnExactValOk': WHATEVER THE INPUT: true; the input reads as it did. -/
def fnExactValOkSpec : ChangeSpec := { name := "fnExactValOk", fn := fun _ => fun
  | [d] => { results := [.lit (.bool true)], args := [d] }
  | _ => none }
def fnExactValOkRow : OpenClaim := { program := "ytmigpeaiepdmbaa", sum := "fd82c34621a0c0c2036d0dab0901be583fff7b1295e3108a81285d30fe7b8ea1", func := "loop.example/g00407/laws.FnExactValOk", spec := "fnExactValOk", inPlace := ["internal/bytealg.Compare"], unfollowed := true, recurses := true, loops := true, apart := false }
def FnExactValOkSaid : Prop := fnExactValOkRow.holds Try.pinned (OpenSpec.ofChange fnExactValOkSpec)

/-- ITS FALSE NEIGHBOUR: 'it returns false'. Refute it at one input. -/
def fnExactValOkWrong : ChangeSpec := { name := "fnExactValOk", fn := fun _ => fun
  | [d] => { results := [.lit (.bool false)], args := [d] }
  | _ => none }
def FnExactValOkWrongFalsely : Prop := fnExactValOkRow.holds Try.pinned (OpenSpec.ofChange fnExactValOkWrong)

/-- 'laws.FnExactValKnown': WHATEVER THE INPUT: true; the input reads as it did. -/
def fnExactValKnownSpec : ChangeSpec := { name := "fnExactValKnown", fn := fun _ => fun
  | [d] => { results := [.lit (.bool true)], args := [d] }
  | _ => none }
def fnExactValKnownRow : OpenClaim := { program := "ytmigpeaiepdmbaa", sum := "fd82c34621a0c0c2036d0dab0901be583fff7b1295e3108a81285d30fe7b8ea1", func := "loop.example/g00407/laws.FnExactValKnown", spec := "fnExactValKnown", inPlace := ["internal/bytealg.Compare"], unfollowed := true, recurses := true, loops := true, apart := false }
def FnExactValKnownSaid : Prop := fnExactValKnownRow.holds Try.pinned (OpenSpec.ofChange fnExactValKnownSpec)

/-- ITS FALSE NEIGHBOUR: 'it returns false'. Refute it at one input. -/
def fnExactValKnownWrong : ChangeSpec := { name := "fnExactValKnown", fn := fun _ => fun
  | [d] => { results := [.lit (.bool false)], args := [d] }
  | _ => none }
def FnExactValKnownWrongFalsely : Prop := fnExactValKnownRow.holds Try.pinned (OpenSpec.ofChange fnExactValKnownWrong)

/-- 'laws.FnExactValParts': WHATEVER THE INPUT: true; the input reads as it did. -/
def fnExactValPartsSpec : ChangeSpec := { name := "fnExactValParts", fn := fun _ => fun
  | [d] => { results := [.lit (.bool true)], args := [d] }
  | _ => none }
def fnExactValPartsRow : OpenClaim := { program := "ytmigpeaiepdmbaa", sum := "fd82c34621a0c0c2036d0dab0901be583fff7b1295e3108a81285d30fe7b8ea1", func := "loop.example/g00407/laws.FnExactValParts", spec := "fnExactValParts", inPlace := ["internal/bytealg.Compare"], unfollowed := true, recurses := true, loops := true, apart := false }
def FnExactValPartsSaid : Prop := fnExactValPartsRow.holds Try.pinned (OpenSpec.ofChange fnExactValPartsSpec)

/-- ITS FALSE NEIGHBOUR: 'it returns false'. Refute it at one input. -/
def fnExactValPartsWrong : ChangeSpec := { name := "fnExactValParts", fn := fun _ => fun
  | [d] => { results := [.lit (.bool false)], args := [d] }
  | _ => none }
def FnExactValPartsWrongFalsely : Prop := fnExactValPartsRow.holds Try.pinned (OpenSpec.ofChange fnExactValPartsWrong)

/-- 'laws.FnExactValDeep': WHATEVER THE INPUT: true; the input reads as it did. -/
def fnExactValDeepSpec : ChangeSpec := { name := "fnExactValDeep", fn := fun _ => fun
  | [d] => { results := [.lit (.bool true)], args := [d] }
  | _ => none }
def fnExactValDeepRow : OpenClaim := { program := "ytmigpeaiepdmbaa", sum := "fd82c34621a0c0c2036d0dab0901be583fff7b1295e3108a81285d30fe7b8ea1", func := "loop.example/g00407/laws.FnExactValDeep", spec := "fnExactValDeep", inPlace := ["internal/bytealg.Compare"], unfollowed := true, recurses := true, loops := true, apart := false }
def FnExactValDeepSaid : Prop := fnExactValDeepRow.holds Try.pinned (OpenSpec.ofChange fnExactValDeepSpec)

/-- ITS FALSE NEIGHBOUR: 'it returns false'. Refute it at one input. -/
def fnExactValDeepWrong : ChangeSpec := { name := "fnExactValDeep", fn := fun _ => fun
  | [d] => { results := [.lit (.bool false)], args := [d] }
  | _ => none }
def FnExactValDeepWrongFalsely : Prop := fnExactValDeepRow.holds Try.pinned (OpenSpec.ofChange fnExactValDeepWrong)

/-- 'laws.FnExactValKeys': WHATEVER THE INPUT: true; the input reads as it did. -/
def fnExactValKeysSpec : ChangeSpec := { name := "fnExactValKeys", fn := fun _ => fun
  | [d] => { results := [.lit (.bool true)], args := [d] }
  | _ => none }
def fnExactValKeysRow : OpenClaim := { program := "ytmigpeaiepdmbaa", sum := "fd82c34621a0c0c2036d0dab0901be583fff7b1295e3108a81285d30fe7b8ea1", func := "loop.example/g00407/laws.FnExactValKeys", spec := "fnExactValKeys", inPlace := ["internal/bytealg.Compare"], unfollowed := true, recurses := true, loops := true, apart := false }
def FnExactValKeysSaid : Prop := fnExactValKeysRow.holds Try.pinned (OpenSpec.ofChange fnExactValKeysSpec)

/-- ITS FALSE NEIGHBOUR: 'it returns false'. Refute it at one input. -/
def fnExactValKeysWrong : ChangeSpec := { name := "fnExactValKeys", fn := fun _ => fun
  | [d] => { results := [.lit (.bool false)], args := [d] }
  | _ => none }
def FnExactValKeysWrongFalsely : Prop := fnExactValKeysRow.holds Try.pinned (OpenSpec.ofChange fnExactValKeysWrong)

/-- 'laws.FnExactValCmp': WHATEVER THE INPUT: true; the input reads as it did. -/
def fnExactValCmpSpec : ChangeSpec := { name := "fnExactValCmp", fn := fun _ => fun
  | [d1, d2] => { results := [.lit (.bool true)], args := [d1, d2] }
  | _ => none }
def fnExactValCmpRow : OpenClaim := { program := "ytmigpeaiepdmbaa", sum := "fd82c34621a0c0c2036d0dab0901be583fff7b1295e3108a81285d30fe7b8ea1", func := "loop.example/g00407/laws.FnExactValCmp", spec := "fnExactValCmp", inPlace := ["internal/bytealg.Compare"], unfollowed := true, recurses := true, loops := true, apart := false }
def FnExactValCmpSaid : Prop := fnExactValCmpRow.holds Try.pinned (OpenSpec.ofChange fnExactValCmpSpec)

/-- ITS FALSE NEIGHBOUR: 'it returns false'. Refute it at one input. -/
def fnExactValCmpWrong : ChangeSpec := { name := "fnExactValCmp", fn := fun _ => fun
  | [d1, d2] => { results := [.lit (.bool false)], args := [d1, d2] }
  | _ => none }
def FnExactValCmpWrongFalsely : Prop := fnExactValCmpRow.holds Try.pinned (OpenSpec.ofChange fnExactValCmpWrong)

/-- 'laws.FnOrder': WHATEVER THE INPUT: true; the input reads as it did. -/
def fnOrderSpec : ChangeSpec := { name := "fnOrder", fn := fun _ => fun
  | [d] => { results := [.lit (.bool true)], args := [d] }
  | _ => none }
def fnOrderRow : OpenClaim := { program := "ytmigpeaiepdmbaa", sum := "fd82c34621a0c0c2036d0dab0901be583fff7b1295e3108a81285d30fe7b8ea1", func := "loop.example/g00407/laws.FnOrder", spec := "fnOrder", inPlace := ["internal/bytealg.Compare"], unfollowed := true, recurses := true, apart := false }
def FnOrderSaid : Prop := fnOrderRow.holds Try.pinned (OpenSpec.ofChange fnOrderSpec)

/-- ITS FALSE NEIGHBOUR: 'it returns false'. Refute it at one input. -/
def fnOrderWrong : ChangeSpec := { name := "fnOrder", fn := fun _ => fun
  | [d] => { results := [.lit (.bool false)], args := [d] }
  | _ => none }
def FnOrderWrongFalsely : Prop := fnOrderRow.holds Try.pinned (OpenSpec.ofChange fnOrderWrong)

/-- 'laws.FnExactValBytes': WHATEVER THE INPUT: true; the input reads as it did. -/
def fnExactValBytesSpec : ChangeSpec := { name := "fnExactValBytes", fn := fun _ => fun
  | [d] => { results := [.lit (.bool true)], args := [d] }
  | _ => none }
def fnExactValBytesRow : OpenClaim := { program := "ytmigpeaiepdmbaa", sum := "fd82c34621a0c0c2036d0dab0901be583fff7b1295e3108a81285d30fe7b8ea1", func := "loop.example/g00407/laws.FnExactValBytes", spec := "fnExactValBytes", inPlace := ["internal/bytealg.Compare"], unfollowed := true, recurses := true, loops := true, apart := false }
def FnExactValBytesSaid : Prop := fnExactValBytesRow.holds Try.pinned (OpenSpec.ofChange fnExactValBytesSpec)

/-- ITS FALSE NEIGHBOUR: 'it returns false'. Refute it at one input. -/
def fnExactValBytesWrong : ChangeSpec := { name := "fnExactValBytes", fn := fun _ => fun
  | [d] => { results := [.lit (.bool false)], args := [d] }
  | _ => none }
def FnExactValBytesWrongFalsely : Prop := fnExactValBytesRow.holds Try.pinned (OpenSpec.ofChange fnExactValBytesWrong)

/- THE SECOND FORM. 'bulk': how many values and letters a reading holds, each counted each time it is reached (what is shared counts as often as it is met; a slice's spare places count too). A statement '..UptoSaid' is the law's where the arguments, and the package variables that the reading takes, are together of bulk at most 1048576: NARROWER than '..Said'. Prove '..Said' where nothing that the law and all that it calls make is longer than what came in: it says more and counts as full. Else prove '..UptoSaid'. A law counts once. -/
mutual
def uptoBulk {H : Type} : DataW H → Nat
  | .lit (.string bytes) => bytes.length + 1
  | .lit _ => 1
  | .nil => 1
  | .ptr d => uptoBulk d + 1
  | .slice elems spare => uptoBulkAll elems + uptoBulkAll spare + 1
  | .agg parts => uptoBulkAll parts + 1
  | .iface _ d => uptoBulk d + 1
  | .map entries => uptoBulkEntries entries + 1
  | .held _ => 1
def uptoBulkAll {H : Type} : List (DataW H) → Nat
  | [] => 0
  | d :: r => uptoBulk d + uptoBulkAll r
def uptoBulkEntries {H : Type} : List (Lit × DataW H) → Nat
  | [] => 0
  | x :: r => uptoBulkEntry x + uptoBulkEntries r
def uptoBulkEntry {H : Type} : Lit × DataW H → Nat
  | (.string bytes, d) => bytes.length + uptoBulk d + 1
  | (_, d) => uptoBulk d + 1
 end
def uptoSmall : (H : Type) → List (DataW H) → Bool := fun _ ds => decide (uptoBulkAll ds ≤ 1048576)
def OpenSpec.upto (s : _root_.Go.ChangeSpec) : _root_.Go.OpenSpec := { _root_.Go.OpenSpec.ofChange s with cond := some uptoSmall }

/-- 'laws.FnExactPathOk', WHERE WHAT IT READS IS OF BULK AT MOST 1048576: true; the input reads as it did. -/
def fnExactPathOkUptoRow : OpenClaim := { program := "ytmigpeaiepdmbaa", sum := "fd82c34621a0c0c2036d0dab0901be583fff7b1295e3108a81285d30fe7b8ea1", func := "loop.example/g00407/laws.FnExactPathOk", spec := "fnExactPathOk", unfollowed := true, recurses := true, apart := false, narrowed := true }
def FnExactPathOkUptoSaid : Prop := fnExactPathOkUptoRow.holds Try.pinned (OpenSpec.upto fnExactPathOkSpec)

/-- 'laws.FnExactPathCmp', WHERE WHAT IT READS IS OF BULK AT MOST 1048576: true; the input reads as it did. -/
def fnExactPathCmpUptoRow : OpenClaim := { program := "ytmigpeaiepdmbaa", sum := "fd82c34621a0c0c2036d0dab0901be583fff7b1295e3108a81285d30fe7b8ea1", func := "loop.example/g00407/laws.FnExactPathCmp", spec := "fnExactPathCmp", inPlace := ["internal/bytealg.Compare"], unfollowed := true, recurses := true, apart := false, narrowed := true }
def FnExactPathCmpUptoSaid : Prop := fnExactPathCmpUptoRow.holds Try.pinned (OpenSpec.upto fnExactPathCmpSpec)

/-- 'laws.FnExactValOk', WHERE WHAT IT READS IS OF BULK AT MOST 1048576: true; the input reads as it did. -/
def fnExactValOkUptoRow : OpenClaim := { program := "ytmigpeaiepdmbaa", sum := "fd82c34621a0c0c2036d0dab0901be583fff7b1295e3108a81285d30fe7b8ea1", func := "loop.example/g00407/laws.FnExactValOk", spec := "fnExactValOk", inPlace := ["internal/bytealg.Compare"], unfollowed := true, recurses := true, loops := true, apart := false, narrowed := true }
def FnExactValOkUptoSaid : Prop := fnExactValOkUptoRow.holds Try.pinned (OpenSpec.upto fnExactValOkSpec)

/-- 'laws.FnExactValKnown', WHERE WHAT IT READS IS OF BULK AT MOST 1048576: true; the input reads as it did. -/
def fnExactValKnownUptoRow : OpenClaim := { program := "ytmigpeaiepdmbaa", sum := "fd82c34621a0c0c2036d0dab0901be583fff7b1295e3108a81285d30fe7b8ea1", func := "loop.example/g00407/laws.FnExactValKnown", spec := "fnExactValKnown", inPlace := ["internal/bytealg.Compare"], unfollowed := true, recurses := true, loops := true, apart := false, narrowed := true }
def FnExactValKnownUptoSaid : Prop := fnExactValKnownUptoRow.holds Try.pinned (OpenSpec.upto fnExactValKnownSpec)

/-- 'laws.FnExactValParts', WHERE WHAT IT READS IS OF BULK AT MOST 1048576: true; the input reads as it did. -/
def fnExactValPartsUptoRow : OpenClaim := { program := "ytmigpeaiepdmbaa", sum := "fd82c34621a0c0c2036d0dab0901be583fff7b1295e3108a81285d30fe7b8ea1", func := "loop.example/g00407/laws.FnExactValParts", spec := "fnExactValParts", inPlace := ["internal/bytealg.Compare"], unfollowed := true, recurses := true, loops := true, apart := false, narrowed := true }
def FnExactValPartsUptoSaid : Prop := fnExactValPartsUptoRow.holds Try.pinned (OpenSpec.upto fnExactValPartsSpec)

/-- 'laws.FnExactValDeep', WHERE WHAT IT READS IS OF BULK AT MOST 1048576: true; the input reads as it did. -/
def fnExactValDeepUptoRow : OpenClaim := { program := "ytmigpeaiepdmbaa", sum := "fd82c34621a0c0c2036d0dab0901be583fff7b1295e3108a81285d30fe7b8ea1", func := "loop.example/g00407/laws.FnExactValDeep", spec := "fnExactValDeep", inPlace := ["internal/bytealg.Compare"], unfollowed := true, recurses := true, loops := true, apart := false, narrowed := true }
def FnExactValDeepUptoSaid : Prop := fnExactValDeepUptoRow.holds Try.pinned (OpenSpec.upto fnExactValDeepSpec)

/-- 'laws.FnExactValKeys', WHERE WHAT IT READS IS OF BULK AT MOST 1048576: true; the input reads as it did. -/
def fnExactValKeysUptoRow : OpenClaim := { program := "ytmigpeaiepdmbaa", sum := "fd82c34621a0c0c2036d0dab0901be583fff7b1295e3108a81285d30fe7b8ea1", func := "loop.example/g00407/laws.FnExactValKeys", spec := "fnExactValKeys", inPlace := ["internal/bytealg.Compare"], unfollowed := true, recurses := true, loops := true, apart := false, narrowed := true }
def FnExactValKeysUptoSaid : Prop := fnExactValKeysUptoRow.holds Try.pinned (OpenSpec.upto fnExactValKeysSpec)

/-- 'laws.FnExactValCmp', WHERE WHAT IT READS IS OF BULK AT MOST 1048576: true; the input reads as it did. -/
def fnExactValCmpUptoRow : OpenClaim := { program := "ytmigpeaiepdmbaa", sum := "fd82c34621a0c0c2036d0dab0901be583fff7b1295e3108a81285d30fe7b8ea1", func := "loop.example/g00407/laws.FnExactValCmp", spec := "fnExactValCmp", inPlace := ["internal/bytealg.Compare"], unfollowed := true, recurses := true, loops := true, apart := false, narrowed := true }
def FnExactValCmpUptoSaid : Prop := fnExactValCmpUptoRow.holds Try.pinned (OpenSpec.upto fnExactValCmpSpec)

/-- 'laws.FnOrder', WHERE WHAT IT READS IS OF BULK AT MOST 1048576: true; the input reads as it did. -/
def fnOrderUptoRow : OpenClaim := { program := "ytmigpeaiepdmbaa", sum := "fd82c34621a0c0c2036d0dab0901be583fff7b1295e3108a81285d30fe7b8ea1", func := "loop.example/g00407/laws.FnOrder", spec := "fnOrder", inPlace := ["internal/bytealg.Compare"], unfollowed := true, recurses := true, apart := false, narrowed := true }
def FnOrderUptoSaid : Prop := fnOrderUptoRow.holds Try.pinned (OpenSpec.upto fnOrderSpec)

/-- 'laws.FnExactValBytes', WHERE WHAT IT READS IS OF BULK AT MOST 1048576: true; the input reads as it did. -/
def fnExactValBytesUptoRow : OpenClaim := { program := "ytmigpeaiepdmbaa", sum := "fd82c34621a0c0c2036d0dab0901be583fff7b1295e3108a81285d30fe7b8ea1", func := "loop.example/g00407/laws.FnExactValBytes", spec := "fnExactValBytes", inPlace := ["internal/bytealg.Compare"], unfollowed := true, recurses := true, loops := true, apart := false, narrowed := true }
def FnExactValBytesUptoSaid : Prop := fnExactValBytesUptoRow.holds Try.pinned (OpenSpec.upto fnExactValBytesSpec)

end Rows
end Go.Proofs.Ytmigpeaiepdmbaa
