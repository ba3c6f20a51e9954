/- Rows of bytes in order, as the strings of them are and as bytes.Compare tells. No condition. -/
import Derived.Test.YtenpjddjmhjdoaaMcore
import Derived.Lib.Bytealg
import Derived.Lib.BytesEntry
set_option linter.unusedVariables false
namespace Go.Proofs.Ytenpjddjmhjdoaa.M
open Go.RowKit Go.Proofs.YtenpjddjmhjdoaaW.PrintWords Go.Proofs.YtenpjddjmhjdoaaW.PrintLast Go.Proofs.YtenpjddjmhjdoaaW.PrintMore
def numC (a b : Int) : Int := if a < b then -1 else if a > b then 1 else 0
def cmpB : List Int → List Int → Int
  | [], [] => 0
  | [], _ :: _ => -1
  | _ :: _, [] => 1
  | x :: a, y :: b => if x < y then -1 else if y < x then 1 else cmpB a b
theorem cmpB_cons (x y : Int) (a b : List Int) : cmpB (x :: a) (y :: b) = if x < y then -1 else if y < x then 1 else cmpB a b := by rw [cmpB]
theorem cmpB_range : ∀ a b, cmpB a b = -1 ∨ cmpB a b = 0 ∨ cmpB a b = 1
  | [], [] => Or.inr (Or.inl rfl)
  | [], _ :: _ => Or.inl rfl
  | _ :: _, [] => Or.inr (Or.inr rfl)
  | x :: a, y :: b => by
    rw [cmpB_cons]
    split
    · exact Or.inl rfl
    · split
      · exact Or.inr (Or.inr rfl)
      · exact cmpB_range a b
theorem cmpB_swap : ∀ a b, cmpB b a = - cmpB a b
  | [], [] => rfl
  | [], _ :: _ => rfl
  | _ :: _, [] => rfl
  | x :: a, y :: b => by
    rw [cmpB_cons, cmpB_cons]
    by_cases h : x < y
    · rw [if_pos h, if_neg (by omega), if_pos h]; rfl
    · rw [if_neg h]
      by_cases h2 : y < x
      · rw [if_pos h2, if_neg h, if_pos h2]
      · rw [if_neg h2, if_neg h, if_neg h2]
        exact cmpB_swap a b
theorem cmpB_eq : ∀ {a b : List Int}, cmpB a b = 0 → a = b
  | [], [], _ => rfl
  | [], _ :: _, h => by simp [cmpB] at h
  | _ :: _, [], h => by simp [cmpB] at h
  | x :: a, y :: b, h => by
    rw [cmpB_cons] at h
    split at h
    · simp at h
    · split at h
      · simp at h
      · rw [cmpB_eq h, show x = y by omega]
theorem cmpB_refl : ∀ a, cmpB a a = 0
  | [] => rfl
  | x :: a => by
    rw [cmpB_cons]
    rw [if_neg (by omega), if_neg (by omega)]
    exact cmpB_refl a
theorem u8_lt {x y : Int} (hx : 0 ≤ x ∧ x ≤ 255) (hy : 0 ≤ y ∧ y ≤ 255) : (UInt8.ofNat x.toNat < UInt8.ofNat y.toNat) ↔ x < y := by
  rw [UInt8.lt_iff_toNat_lt]
  simp
  omega
theorem u8_eq {x y : Int} (hx : 0 ≤ x ∧ x ≤ 255) (hy : 0 ≤ y ∧ y ≤ 255) : (UInt8.ofNat x.toNat = UInt8.ofNat y.toNat) ↔ x = y := by
  rw [← UInt8.toNat_inj]
  simp
  omega
theorem less_cmp : ∀ {a b : List Int}, By a → By b → Op.bytesLess (a.map fun n => UInt8.ofNat n.toNat) (b.map fun n => UInt8.ofNat n.toNat) = decide (cmpB a b = -1)
  | [], [], _, _ => rfl
  | [], _ :: _, _, _ => rfl
  | _ :: _, [], _, _ => rfl
  | x :: a, y :: b, ha, hb => by
    obtain ⟨hx, ha⟩ := By_cons.1 ha
    obtain ⟨hy, hb⟩ := By_cons.1 hb
    have ih := less_cmp ha hb
    simp only [List.map_cons, Op.bytesLess]
    rw [ih]
    rw [cmpB_cons]
    by_cases h : x < y
    · simp [u8_lt hx hy, h]
    · rw [if_neg h]
      by_cases h2 : y < x
      · have : ¬ (UInt8.ofNat x.toNat = UInt8.ofNat y.toNat) := fun e => by have := (u8_eq hx hy).1 e; omega
        simp [u8_lt hx hy, h, h2, this]
      · obtain rfl : x = y := by omega
        simp
theorem str_less {a b : List Int} (ha : By a) (hb : By b) : Op.bytesLess (strOfNums a).toList (strOfNums b).toList = decide (cmpB a b = -1) := by
  rw [ByteArray.toList_eq, ByteArray.toList_eq, strOfNums_data, strOfNums_data, less_cmp ha hb]
theorem bytes_cmp : ∀ {a b : List Int}, By a → By b → Lib.compareBytes (Lib.bytesOf a) (Lib.bytesOf b) = cmpB a b
  | [], [], _, _ => rfl
  | [], _ :: _, _, _ => rfl
  | _ :: _, [], _, _ => rfl
  | x :: a, y :: b, ha, hb => by
    obtain ⟨hx, ha⟩ := By_cons.1 ha
    obtain ⟨hy, hb⟩ := By_cons.1 hb
    have ih := bytes_cmp ha hb
    have e1 : (UInt8.ofNat x.toNat < UInt8.ofNat y.toNat) ↔ x < y := u8_lt hx hy
    have e2 : (UInt8.ofNat y.toNat < UInt8.ofNat x.toNat) ↔ y < x := u8_lt hy hx
    show (if UInt8.ofNat x.toNat < UInt8.ofNat y.toNat then (-1 : Int) else if UInt8.ofNat y.toNat < UInt8.ofNat x.toNat then 1 else Lib.compareBytes (Lib.bytesOf a) (Lib.bytesOf b)) = _
    rw [ih]
    rw [cmpB_cons]
    simp only [e1, e2]
end Go.Proofs.Ytenpjddjmhjdoaa.M
