/- Strings compared the other way round, in one form: 'a > b' is 'b < a', 'a <= b' is 'not b < a', 'a >= b' is 'not a < b'. No condition. -/
import Derived.Laws.Strings
import Derived.Lib.Bytealg
namespace Go.Proofs.Ytenpjddjmhjdoaa.M
theorem less_swap : ∀ x y : List UInt8, (Op.bytesLess x y || x == y) = !(Op.bytesLess y x)
  | [], [] => rfl
  | [], _ :: _ => rfl
  | _ :: _, [] => rfl
  | a :: x, b :: y => by
    have ih := less_swap x y
    by_cases h : a = b
    · subst h
      have hl : ¬ a < a := UInt8.lt_irrefl a
      have e : (a :: x == a :: y) = (x == y) := by simp
      rw [e]
      simp only [Op.bytesLess, hl, decide_false, Bool.false_or, beq_self_eq_true, Bool.true_and]
      exact ih
    · have hn : (a == b) = false := by simpa using h
      have hn' : (b == a) = false := by simpa using Ne.symm h
      have e : (a :: x == b :: y) = false := by simp [h]
      rw [e]
      simp only [Op.bytesLess, hn, hn', Bool.false_and, Bool.or_false]
      by_cases hlt : a < b
      · have : ¬ b < a := UInt8.lt_asymm hlt
        simp [hlt, this]
      · have : b < a := UInt8.lt_of_le_of_ne (UInt8.not_lt.1 hlt) (Ne.symm h)
        simp [hlt, this]
theorem str_gtr (t : TypeId) (a b : ByteArray) : binOp .gtr t (.string a) (.string b) = pure (.bool (Op.bytesLess b.toList a.toList)) := by
  have h := less_swap a.toList b.toList
  simp only [binOp, Op.stringOp]
  rw [h, Bool.not_not]
theorem str_leq (t : TypeId) (a b : ByteArray) : binOp .leq t (.string a) (.string b) = pure (.bool !(Op.bytesLess b.toList a.toList)) := by
  have h := less_swap a.toList b.toList
  simp only [binOp, Op.stringOp]
  rw [h]
theorem str_geq (t : TypeId) (a b : ByteArray) : binOp .geq t (.string a) (.string b) = pure (.bool !(Op.bytesLess a.toList b.toList)) := by simp [binOp, Op.stringOp]
end Go.Proofs.Ytenpjddjmhjdoaa.M
