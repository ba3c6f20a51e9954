/-
  NARROWER THAN 'FOR EVERY INPUT', by the rows' own cells (each row's printed sentence says how): FnExactValGet: loops · FnExactLeaves: loops · FnExactValDrop: loops · FnExactAt: loops · FnExactValSet: loops · FnExactValMerge: loops.
  DERIVED. THE GIVEN ROWS OF THIS SEAT. 9 by the template 'for every input the law returns true; each argument reads behind the call as it read before'; 0 by the template 'total and deterministic' (their statements: YtenpjddjmhjdoaaTotals.lean).
  GIVEN WITH THE SEED: the statements are not yours to turn. If you find one false, say at which input.
  Laid BY PROGRAM, IN A SANDBOX (cutbox-rows.mjs): the forced cells as the released guide's own fill.sh prints them over the translation a8e9f52a93f6487f… (all of the seat's roots in one cut). By AI agents, Wed Nov 11 2026. No macro, syntax, notation, axiom, sorry.
-/
import Derived.Test.YtenpjddjmhjdoaaChecked
import GoSem.Claim
import GoSem.ClaimJoined
import GoSem.ClaimMapViews
import Derived.JoinedTies
import Derived.KernelRfl
namespace Go.Proofs.Ytenpjddjmhjdoaa
/- THE CELL 'sum', in the pinned program and in every row, IS THE sha256 OF THE DUMP (.gsa) THAT YtenpjddjmhjdoaaProg.lean LOADS. Nothing in Lean hashes anything: it is a label: what it is worth is what the hold of that sum in a sandbox is worth. -/
noncomputable def Try.pinned : Pinned := { name := "ytenpjddjmhjdoaa", sum := "a8e9f52a93f6487ffe534ace9bc8b1b13ff1da46507948337205bcbdf2b57eff", checked := Try.checked }
namespace Rows
def none {H : Type} : Left H := { results := [], args := [] }

/-- 'laws.FnExactValGet': WHATEVER THE INPUT: true; the input reads as it did. -/
def fnExactValGetSpec : ChangeSpec := { name := "fnExactValGet", fn := fun _ => fun
  | [d1, d2] => { results := [.lit (.bool true)], args := [d1, d2] }
  | _ => none }
def fnExactValGetRow : OpenClaim := { program := "ytenpjddjmhjdoaa", sum := "a8e9f52a93f6487ffe534ace9bc8b1b13ff1da46507948337205bcbdf2b57eff", func := "loop.example/g00407/laws.FnExactValGet", spec := "fnExactValGet", inPlace := ["internal/bytealg.Compare"], unfollowed := true, recurses := true, loops := true, apart := false }
def FnExactValGetSaid : Prop := fnExactValGetRow.holds Try.pinned (OpenSpec.ofChange fnExactValGetSpec)

/-- ITS FALSE NEIGHBOUR: 'it returns false'. Refute it at one input. -/
def fnExactValGetWrong : ChangeSpec := { name := "fnExactValGet", fn := fun _ => fun
  | [d1, d2] => { results := [.lit (.bool false)], args := [d1, d2] }
  | _ => none }
def FnExactValGetWrongFalsely : Prop := fnExactValGetRow.holds Try.pinned (OpenSpec.ofChange fnExactValGetWrong)

/-- 'laws.FnExactLeaves': WHATEVER THE INPUT: true; the input reads as it did. -/
def fnExactLeavesSpec : ChangeSpec := { name := "fnExactLeaves", fn := fun _ => fun
  | [d] => { results := [.lit (.bool true)], args := [d] }
  | _ => none }
def fnExactLeavesRow : OpenClaim := { program := "ytenpjddjmhjdoaa", sum := "a8e9f52a93f6487ffe534ace9bc8b1b13ff1da46507948337205bcbdf2b57eff", func := "loop.example/g00407/laws.FnExactLeaves", spec := "fnExactLeaves", inPlace := ["internal/bytealg.Compare"], unfollowed := true, recurses := true, loops := true, apart := false }
def FnExactLeavesSaid : Prop := fnExactLeavesRow.holds Try.pinned (OpenSpec.ofChange fnExactLeavesSpec)

/-- ITS FALSE NEIGHBOUR: 'it returns false'. Refute it at one input. -/
def fnExactLeavesWrong : ChangeSpec := { name := "fnExactLeaves", fn := fun _ => fun
  | [d] => { results := [.lit (.bool false)], args := [d] }
  | _ => none }
def FnExactLeavesWrongFalsely : Prop := fnExactLeavesRow.holds Try.pinned (OpenSpec.ofChange fnExactLeavesWrong)

/-- 'laws.FnExactValDrop': WHATEVER THE INPUT: true; the input reads as it did. -/
def fnExactValDropSpec : ChangeSpec := { name := "fnExactValDrop", fn := fun _ => fun
  | [d1, d2] => { results := [.lit (.bool true)], args := [d1, d2] }
  | _ => none }
def fnExactValDropRow : OpenClaim := { program := "ytenpjddjmhjdoaa", sum := "a8e9f52a93f6487ffe534ace9bc8b1b13ff1da46507948337205bcbdf2b57eff", func := "loop.example/g00407/laws.FnExactValDrop", spec := "fnExactValDrop", inPlace := ["internal/bytealg.Compare"], unfollowed := true, recurses := true, loops := true, apart := false }
def FnExactValDropSaid : Prop := fnExactValDropRow.holds Try.pinned (OpenSpec.ofChange fnExactValDropSpec)

/-- ITS FALSE NEIGHBOUR: 'it returns false'. Refute it at one input. -/
def fnExactValDropWrong : ChangeSpec := { name := "fnExactValDrop", fn := fun _ => fun
  | [d1, d2] => { results := [.lit (.bool false)], args := [d1, d2] }
  | _ => none }
def FnExactValDropWrongFalsely : Prop := fnExactValDropRow.holds Try.pinned (OpenSpec.ofChange fnExactValDropWrong)

/-- 'laws.FnMerges': WHATEVER THE INPUT: true; the input reads as it did. -/
def fnMergesSpec : ChangeSpec := { name := "fnMerges", fn := fun _ => fun
  | [d] => { results := [.lit (.bool true)], args := [d] }
  | _ => none }
def fnMergesRow : OpenClaim := { program := "ytenpjddjmhjdoaa", sum := "a8e9f52a93f6487ffe534ace9bc8b1b13ff1da46507948337205bcbdf2b57eff", func := "loop.example/g00407/laws.FnMerges", spec := "fnMerges", inPlace := ["internal/bytealg.Compare", "slices.overlaps[[]byte]", "slices.overlaps[loop.example/g00407/impl.Value]"], unfollowed := true, recurses := true, apart := false }
def FnMergesSaid : Prop := fnMergesRow.holds Try.pinned (OpenSpec.ofChange fnMergesSpec)

/-- ITS FALSE NEIGHBOUR: 'it returns false'. Refute it at one input. -/
def fnMergesWrong : ChangeSpec := { name := "fnMerges", fn := fun _ => fun
  | [d] => { results := [.lit (.bool false)], args := [d] }
  | _ => none }
def FnMergesWrongFalsely : Prop := fnMergesRow.holds Try.pinned (OpenSpec.ofChange fnMergesWrong)

/-- 'laws.FnExactValRead': WHATEVER THE INPUT: true; the input reads as it did. -/
def fnExactValReadSpec : ChangeSpec := { name := "fnExactValRead", fn := fun _ => fun
  | [d] => { results := [.lit (.bool true)], args := [d] }
  | _ => none }
def fnExactValReadRow : OpenClaim := { program := "ytenpjddjmhjdoaa", sum := "a8e9f52a93f6487ffe534ace9bc8b1b13ff1da46507948337205bcbdf2b57eff", func := "loop.example/g00407/laws.FnExactValRead", spec := "fnExactValRead", inPlace := ["internal/bytealg.Compare"], unfollowed := true, recurses := true, apart := false }
def FnExactValReadSaid : Prop := fnExactValReadRow.holds Try.pinned (OpenSpec.ofChange fnExactValReadSpec)

/-- ITS FALSE NEIGHBOUR: 'it returns false'. Refute it at one input. -/
def fnExactValReadWrong : ChangeSpec := { name := "fnExactValRead", fn := fun _ => fun
  | [d] => { results := [.lit (.bool false)], args := [d] }
  | _ => none }
def FnExactValReadWrongFalsely : Prop := fnExactValReadRow.holds Try.pinned (OpenSpec.ofChange fnExactValReadWrong)

/-- 'laws.FnSets': WHATEVER THE INPUT: true; the input reads as it did. -/
def fnSetsSpec : ChangeSpec := { name := "fnSets", fn := fun _ => fun
  | [d] => { results := [.lit (.bool true)], args := [d] }
  | _ => none }
def fnSetsRow : OpenClaim := { program := "ytenpjddjmhjdoaa", sum := "a8e9f52a93f6487ffe534ace9bc8b1b13ff1da46507948337205bcbdf2b57eff", func := "loop.example/g00407/laws.FnSets", spec := "fnSets", inPlace := ["internal/bytealg.Compare", "slices.overlaps[[]byte]", "slices.overlaps[loop.example/g00407/impl.Value]"], unfollowed := true, recurses := true, apart := false }
def FnSetsSaid : Prop := fnSetsRow.holds Try.pinned (OpenSpec.ofChange fnSetsSpec)

/-- ITS FALSE NEIGHBOUR: 'it returns false'. Refute it at one input. -/
def fnSetsWrong : ChangeSpec := { name := "fnSets", fn := fun _ => fun
  | [d] => { results := [.lit (.bool false)], args := [d] }
  | _ => none }
def FnSetsWrongFalsely : Prop := fnSetsRow.holds Try.pinned (OpenSpec.ofChange fnSetsWrong)

/-- 'laws.FnExactAt': WHATEVER THE INPUT: true; the input reads as it did. -/
def fnExactAtSpec : ChangeSpec := { name := "fnExactAt", fn := fun _ => fun
  | [d1, d2] => { results := [.lit (.bool true)], args := [d1, d2] }
  | _ => none }
def fnExactAtRow : OpenClaim := { program := "ytenpjddjmhjdoaa", sum := "a8e9f52a93f6487ffe534ace9bc8b1b13ff1da46507948337205bcbdf2b57eff", func := "loop.example/g00407/laws.FnExactAt", spec := "fnExactAt", inPlace := ["internal/bytealg.Compare"], unfollowed := true, recurses := true, loops := true, apart := false }
def FnExactAtSaid : Prop := fnExactAtRow.holds Try.pinned (OpenSpec.ofChange fnExactAtSpec)

/-- ITS FALSE NEIGHBOUR: 'it returns false'. Refute it at one input. -/
def fnExactAtWrong : ChangeSpec := { name := "fnExactAt", fn := fun _ => fun
  | [d1, d2] => { results := [.lit (.bool false)], args := [d1, d2] }
  | _ => none }
def FnExactAtWrongFalsely : Prop := fnExactAtRow.holds Try.pinned (OpenSpec.ofChange fnExactAtWrong)

/-- 'laws.FnExactValSet': WHATEVER THE INPUT: true; the input reads as it did. -/
def fnExactValSetSpec : ChangeSpec := { name := "fnExactValSet", fn := fun _ => fun
  | [d1, d2, d3] => { results := [.lit (.bool true)], args := [d1, d2, d3] }
  | _ => none }
def fnExactValSetRow : OpenClaim := { program := "ytenpjddjmhjdoaa", sum := "a8e9f52a93f6487ffe534ace9bc8b1b13ff1da46507948337205bcbdf2b57eff", func := "loop.example/g00407/laws.FnExactValSet", spec := "fnExactValSet", inPlace := ["internal/bytealg.Compare", "slices.overlaps[[]byte]", "slices.overlaps[loop.example/g00407/impl.Value]"], unfollowed := true, recurses := true, loops := true, apart := false }
def FnExactValSetSaid : Prop := fnExactValSetRow.holds Try.pinned (OpenSpec.ofChange fnExactValSetSpec)

/-- ITS FALSE NEIGHBOUR: 'it returns false'. Refute it at one input. -/
def fnExactValSetWrong : ChangeSpec := { name := "fnExactValSet", fn := fun _ => fun
  | [d1, d2, d3] => { results := [.lit (.bool false)], args := [d1, d2, d3] }
  | _ => none }
def FnExactValSetWrongFalsely : Prop := fnExactValSetRow.holds Try.pinned (OpenSpec.ofChange fnExactValSetWrong)

/-- 'laws.FnExactValMerge': WHATEVER THE INPUT: true; the input reads as it did. -/
def fnExactValMergeSpec : ChangeSpec := { name := "fnExactValMerge", fn := fun _ => fun
  | [d1, d2] => { results := [.lit (.bool true)], args := [d1, d2] }
  | _ => none }
def fnExactValMergeRow : OpenClaim := { program := "ytenpjddjmhjdoaa", sum := "a8e9f52a93f6487ffe534ace9bc8b1b13ff1da46507948337205bcbdf2b57eff", func := "loop.example/g00407/laws.FnExactValMerge", spec := "fnExactValMerge", inPlace := ["internal/bytealg.Compare", "slices.overlaps[[]byte]", "slices.overlaps[loop.example/g00407/impl.Value]"], unfollowed := true, recurses := true, loops := true, apart := false }
def FnExactValMergeSaid : Prop := fnExactValMergeRow.holds Try.pinned (OpenSpec.ofChange fnExactValMergeSpec)

/-- ITS FALSE NEIGHBOUR: 'it returns false'. Refute it at one input. -/
def fnExactValMergeWrong : ChangeSpec := { name := "fnExactValMerge", fn := fun _ => fun
  | [d1, d2] => { results := [.lit (.bool false)], args := [d1, d2] }
  | _ => none }
def FnExactValMergeWrongFalsely : Prop := fnExactValMergeRow.holds Try.pinned (OpenSpec.ofChange fnExactValMergeWrong)

/- THE SECOND FORM. 'bulk': how many values and letters a reading holds, each counted each time it is reached (what is shared counts as often as it is met; a slice's spare places count too). A statement '..UptoSaid' is the law's where the arguments, and the package variables that the reading takes, are together of bulk at most 1048576: NARROWER than '..Said'. Prove '..Said' where nothing that the law and all that it calls make is longer than what came in: it says more and counts as full. Else prove '..UptoSaid'. A law counts once. -/
mutual
def uptoBulk {H : Type} : DataW H → Nat
  | .lit (.string bytes) => bytes.length + 1
  | .lit _ => 1
  | .nil => 1
  | .ptr d => uptoBulk d + 1
  | .slice elems spare => uptoBulkAll elems + uptoBulkAll spare + 1
  | .agg parts => uptoBulkAll parts + 1
  | .iface _ d => uptoBulk d + 1
  | .map entries => uptoBulkEntries entries + 1
  | .held _ => 1
def uptoBulkAll {H : Type} : List (DataW H) → Nat
  | [] => 0
  | d :: r => uptoBulk d + uptoBulkAll r
def uptoBulkEntries {H : Type} : List (Lit × DataW H) → Nat
  | [] => 0
  | x :: r => uptoBulkEntry x + uptoBulkEntries r
def uptoBulkEntry {H : Type} : Lit × DataW H → Nat
  | (.string bytes, d) => bytes.length + uptoBulk d + 1
  | (_, d) => uptoBulk d + 1
 end
def uptoSmall : (H : Type) → List (DataW H) → Bool := fun _ ds => decide (uptoBulkAll ds ≤ 1048576)
def OpenSpec.upto (s : _root_.Go.ChangeSpec) : _root_.Go.OpenSpec := { _root_.Go.OpenSpec.ofChange s with cond := some uptoSmall }

/-- 'laws.FnExactValGet', WHERE WHAT IT READS IS OF BULK AT MOST 1048576: true; the input reads as it did. -/
def fnExactValGetUptoRow : OpenClaim := { program := "ytenpjddjmhjdoaa", sum := "a8e9f52a93f6487ffe534ace9bc8b1b13ff1da46507948337205bcbdf2b57eff", func := "loop.example/g00407/laws.FnExactValGet", spec := "fnExactValGet", inPlace := ["internal/bytealg.Compare"], unfollowed := true, recurses := true, loops := true, apart := false, narrowed := true }
def FnExactValGetUptoSaid : Prop := fnExactValGetUptoRow.holds Try.pinned (OpenSpec.upto fnExactValGetSpec)

/-- 'laws.FnExactLeaves', WHERE WHAT IT READS IS OF BULK AT MOST 1048576: true; the input reads as it did. -/
def fnExactLeavesUptoRow : OpenClaim := { program := "ytenpjddjmhjdoaa", sum := "a8e9f52a93f6487ffe534ace9bc8b1b13ff1da46507948337205bcbdf2b57eff", func := "loop.example/g00407/laws.FnExactLeaves", spec := "fnExactLeaves", inPlace := ["internal/bytealg.Compare"], unfollowed := true, recurses := true, loops := true, apart := false, narrowed := true }
def FnExactLeavesUptoSaid : Prop := fnExactLeavesUptoRow.holds Try.pinned (OpenSpec.upto fnExactLeavesSpec)

/-- 'laws.FnExactValDrop', WHERE WHAT IT READS IS OF BULK AT MOST 1048576: true; the input reads as it did. -/
def fnExactValDropUptoRow : OpenClaim := { program := "ytenpjddjmhjdoaa", sum := "a8e9f52a93f6487ffe534ace9bc8b1b13ff1da46507948337205bcbdf2b57eff", func := "loop.example/g00407/laws.FnExactValDrop", spec := "fnExactValDrop", inPlace := ["internal/bytealg.Compare"], unfollowed := true, recurses := true, loops := true, apart := false, narrowed := true }
def FnExactValDropUptoSaid : Prop := fnExactValDropUptoRow.holds Try.pinned (OpenSpec.upto fnExactValDropSpec)

/-- 'laws.FnMerges', WHERE WHAT IT READS IS OF BULK AT MOST 1048576: true; the input reads as it did. -/
def fnMergesUptoRow : OpenClaim := { program := "ytenpjddjmhjdoaa", sum := "a8e9f52a93f6487ffe534ace9bc8b1b13ff1da46507948337205bcbdf2b57eff", func := "loop.example/g00407/laws.FnMerges", spec := "fnMerges", inPlace := ["internal/bytealg.Compare", "slices.overlaps[[]byte]", "slices.overlaps[loop.example/g00407/impl.Value]"], unfollowed := true, recurses := true, apart := false, narrowed := true }
def FnMergesUptoSaid : Prop := fnMergesUptoRow.holds Try.pinned (OpenSpec.upto fnMergesSpec)

/-- 'laws.FnExactValRead', WHERE WHAT IT READS IS OF BULK AT MOST 1048576: true; the input reads as it did. -/
def fnExactValReadUptoRow : OpenClaim := { program := "ytenpjddjmhjdoaa", sum := "a8e9f52a93f6487ffe534ace9bc8b1b13ff1da46507948337205bcbdf2b57eff", func := "loop.example/g00407/laws.FnExactValRead", spec := "fnExactValRead", inPlace := ["internal/bytealg.Compare"], unfollowed := true, recurses := true, apart := false, narrowed := true }
def FnExactValReadUptoSaid : Prop := fnExactValReadUptoRow.holds Try.pinned (OpenSpec.upto fnExactValReadSpec)

/-- 'laws.FnSets', WHERE WHAT IT READS IS OF BULK AT MOST 1048576: true; the input reads as it did. -/
def fnSetsUptoRow : OpenClaim := { program := "ytenpjddjmhjdoaa", sum := "a8e9f52a93f6487ffe534ace9bc8b1b13ff1da46507948337205bcbdf2b57eff", func := "loop.example/g00407/laws.FnSets", spec := "fnSets", inPlace := ["internal/bytealg.Compare", "slices.overlaps[[]byte]", "slices.overlaps[loop.example/g00407/impl.Value]"], unfollowed := true, recurses := true, apart := false, narrowed := true }
def FnSetsUptoSaid : Prop := fnSetsUptoRow.holds Try.pinned (OpenSpec.upto fnSetsSpec)

/-- 'laws.FnExactAt', WHERE WHAT IT READS IS OF BULK AT MOST 1048576: true; the input reads as it did. -/
def fnExactAtUptoRow : OpenClaim := { program := "ytenpjddjmhjdoaa", sum := "a8e9f52a93f6487ffe534ace9bc8b1b13ff1da46507948337205bcbdf2b57eff", func := "loop.example/g00407/laws.FnExactAt", spec := "fnExactAt", inPlace := ["internal/bytealg.Compare"], unfollowed := true, recurses := true, loops := true, apart := false, narrowed := true }
def FnExactAtUptoSaid : Prop := fnExactAtUptoRow.holds Try.pinned (OpenSpec.upto fnExactAtSpec)

/-- 'laws.FnExactValSet', WHERE WHAT IT READS IS OF BULK AT MOST 1048576: true; the input reads as it did. -/
def fnExactValSetUptoRow : OpenClaim := { program := "ytenpjddjmhjdoaa", sum := "a8e9f52a93f6487ffe534ace9bc8b1b13ff1da46507948337205bcbdf2b57eff", func := "loop.example/g00407/laws.FnExactValSet", spec := "fnExactValSet", inPlace := ["internal/bytealg.Compare", "slices.overlaps[[]byte]", "slices.overlaps[loop.example/g00407/impl.Value]"], unfollowed := true, recurses := true, loops := true, apart := false, narrowed := true }
def FnExactValSetUptoSaid : Prop := fnExactValSetUptoRow.holds Try.pinned (OpenSpec.upto fnExactValSetSpec)

/-- 'laws.FnExactValMerge', WHERE WHAT IT READS IS OF BULK AT MOST 1048576: true; the input reads as it did. -/
def fnExactValMergeUptoRow : OpenClaim := { program := "ytenpjddjmhjdoaa", sum := "a8e9f52a93f6487ffe534ace9bc8b1b13ff1da46507948337205bcbdf2b57eff", func := "loop.example/g00407/laws.FnExactValMerge", spec := "fnExactValMerge", inPlace := ["internal/bytealg.Compare", "slices.overlaps[[]byte]", "slices.overlaps[loop.example/g00407/impl.Value]"], unfollowed := true, recurses := true, loops := true, apart := false, narrowed := true }
def FnExactValMergeUptoSaid : Prop := fnExactValMergeUptoRow.holds Try.pinned (OpenSpec.upto fnExactValMergeSpec)

end Rows
end Go.Proofs.Ytenpjddjmhjdoaa
