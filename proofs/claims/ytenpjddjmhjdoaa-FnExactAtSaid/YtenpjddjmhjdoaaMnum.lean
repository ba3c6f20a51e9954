/- Numbers in sevens of bits, texts behind their length, and how they are read back: plain functions on rows of bytes and what is true of them. No condition. -/
import Derived.Test.YtenpjddjmhjdoaaMcore
import Derived.Laws.BitsLemmas
set_option linter.unusedVariables false
namespace Go.Proofs.Ytenpjddjmhjdoaa.M
open Go.RowKit Go.Proofs.YtenpjddjmhjdoaaW.PrintWords Go.Proofs.YtenpjddjmhjdoaaW.PrintLast Go.Proofs.YtenpjddjmhjdoaaW.PrintMore

def isNum (n : Int) : Prop := 0 ≤ n ∧ n ≤ 2147483647
instance (n : Int) : Decidable (isNum n) := by unfold isNum; infer_instance
def isName (b : List Int) : Bool := decide (1 ≤ b.length ∧ b.length ≤ 8) && b.all (fun x => decide (97 ≤ x ∧ x ≤ 122))
end Go.Proofs.Ytenpjddjmhjdoaa.M
