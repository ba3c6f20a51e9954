/- Numbers in sevens of bits, texts behind their length, and how they are read back: plain functions on rows of bytes and what is true of them. No condition. -/
import Derived.Test.YtenpjddjmhjdoaaMcore
import Derived.Laws.BitsLemmas
set_option linter.unusedVariables false
namespace Go.Proofs.Ytenpjddjmhjdoaa.M
open Go.RowKit Go.Proofs.YtenpjddjmhjdoaaW.PrintWords Go.Proofs.YtenpjddjmhjdoaaW.PrintLast Go.Proofs.YtenpjddjmhjdoaaW.PrintMore

/-- A number's bytes. -/
def num7 (n : Nat) : List Int := if n < 128 then [(n : Int)] else (((n % 128 + 128 : Nat) : Int)) :: num7 (n / 128)
termination_by n
decreasing_by omega
theorem num7_small {n : Nat} (h : n < 128) : num7 n = [(n : Int)] := by rw [num7, if_pos h]
theorem num7_great {n : Nat} (h : ¬ n < 128) : num7 n = (((n % 128 + 128 : Nat) : Int)) :: num7 (n / 128) := by rw [num7, if_neg h]
theorem num7_len : ∀ (m n : Nat), n < 128 ^ (m + 1) → (num7 n).length ≤ m + 1
  | 0, n, h => by rw [num7_small (by simpa using h)]; simp
  | m + 1, n, h => by
    by_cases hn : n < 128
    · rw [num7_small hn]; simp
    · rw [num7_great hn]
      have := num7_len m (n / 128) (Nat.div_lt_of_lt_mul (by rw [Nat.pow_succ] at h; omega))
      simp only [List.length_cons]; omega
theorem num7_pos (n : Nat) : 0 < (num7 n).length := by
  by_cases h : n < 128
  · rw [num7_small h]; simp
  · rw [num7_great h]; simp
theorem num7_By (n : Nat) : By (num7 n) := by
  induction n using Nat.strongRecOn with
  | ind n ih =>
    by_cases h : n < 128
    · rw [num7_small h]; exact By_single (by omega) (by omega)
    · rw [num7_great h]; exact By_cons.2 ⟨by omega, ih _ (by omega)⟩
def isNum (n : Int) : Prop := 0 ≤ n ∧ n ≤ 2147483647
instance (n : Int) : Decidable (isNum n) := by unfold isNum; infer_instance
def putN (b : List Int) (n : Int) : List Int := if isNum n then b ++ num7 n.toNat else b
theorem num7_five {n : Nat} (h : n ≤ 2147483647) : (num7 n).length ≤ 5 := num7_len 4 n (by simp; omega)
theorem putN_len (b : List Int) (n : Int) : b.length ≤ (putN b n).length ∧ (putN b n).length ≤ b.length + 5 := by
  unfold putN
  split
  · rename_i h
    have := num7_five (n := n.toNat) (by have := h.2; omega)
    rw [List.length_append]; omega
  · omega
theorem putN_By {b : List Int} {n : Int} (hb : By b) : By (putN b n) := by
  unfold putN
  split
  · exact By_append hb (num7_By _)
  · exact hb
theorem tmodn (n : Nat) : Int.tmod (n : Int) 128 = ((n % 128 : Nat) : Int) := by rw [Int.tmod_eq_emod_of_nonneg (by omega)]; omega
theorem tdivn (n : Nat) : Int.tdiv (n : Int) 128 = ((n / 128 : Nat) : Int) := by rw [Int.tdiv_eq_ediv_of_nonneg (by omega)]; omega
theorem hibyte (n : Nat) : (wrap64 ((Int.tmod (n : Int) 128) + 128)) % 256 = ((n % 128 + 128 : Nat) : Int) := by
  rw [tmodn, w64 (by omega) (by omega)]; omega
theorem nextn (n : Nat) (h : n ≤ 9223372036854775807) : wrap64 (Int.tdiv (n : Int) 128) = ((n / 128 : Nat) : Int) := by
  rw [tdivn, w64 (by omega) (by omega)]

/-- The number that is read off a row, its place being known, i bytes of it being read, n what they come to. -/
def gn (at_ : Int) : Nat → Nat → List Int → Int → Int × Int
  | 0, _, _, _ => (0, -1)
  | _ + 1, _, [], _ => (0, -1)
  | d + 1, i, x :: t, n =>
    if x < 128 then (if (x = 0 ∧ 0 < i) ∨ n + x % 128 * 128 ^ i > 2147483647 then (0, -1) else (n + x % 128 * 128 ^ i, at_ + i + 1))
    else gn at_ d (i + 1) t (n + x % 128 * 128 ^ i)
def getN (b : List Int) (at_ : Int) : Int × Int := if at_ < 0 then (0, -1) else gn at_ 5 0 (b.drop at_.toNat) 0
theorem gn_take (at_ : Int) : ∀ (d i : Nat) (t : List Int) (n : Int), gn at_ d i (t.take d) n = gn at_ d i t n
  | 0, _, _, _ => rfl
  | d + 1, i, [], n => rfl
  | d + 1, i, x :: t, n => by
    rw [List.take_succ_cons]
    unfold gn
    split
    · rfl
    · exact gn_take at_ d (i + 1) t _
theorem pw_pos (i : Nat) : (0 : Int) < 128 ^ i := Int.pow_pos (by decide)
theorem pw_succ (i : Nat) : (128 : Int) ^ (i + 1) = 128 ^ i * 128 := Int.pow_succ 128 i
/-- One byte more: the sum stays below the next power. -/
theorem gn_next {x n : Int} {i : Nat} (hx : 0 ≤ x) (hn : 0 ≤ n) (hn2 : n < 128 ^ i) : 0 ≤ x % 128 * 128 ^ i ∧ 0 ≤ n + x % 128 * 128 ^ i ∧ n + x % 128 * 128 ^ i < 128 ^ (i + 1) := by
  have hp := pw_pos i
  have h1 : 0 ≤ x % 128 * 128 ^ i := Int.mul_nonneg (by omega) (by omega)
  have h2 : x % 128 * 128 ^ i ≤ 127 * 128 ^ i := Int.mul_le_mul_of_nonneg_right (by omega) (by omega)
  rw [pw_succ]
  omega
theorem pw_five (i : Nat) (h : i ≤ 5) : (128 : Int) ^ i ≤ 34359738368 := by
  rcases i with _ | _ | _ | _ | _ | _ | i
  all_goals first | decide | omega
theorem gn_bounds (at_ : Int) : ∀ (d i : Nat) (t : List Int) (n : Int), By t → 0 ≤ n →
    gn at_ d i t n = (0, -1) ∨ (0 ≤ (gn at_ d i t n).1 ∧ (gn at_ d i t n).1 ≤ 2147483647 ∧ at_ + i < (gn at_ d i t n).2 ∧ (gn at_ d i t n).2 ≤ at_ + i + t.length ∧ (gn at_ d i t n).2 ≤ at_ + i + d)
  | 0, _, _, _, _, _ => Or.inl rfl
  | d + 1, i, [], n, _, _ => Or.inl rfl
  | d + 1, i, x :: t, n, hb, hn => by
    obtain ⟨hx, hb⟩ := By_cons.1 hb
    have h1 : 0 ≤ x % 128 * 128 ^ i := Int.mul_nonneg (by omega) (Int.le_of_lt (pw_pos i))
    unfold gn
    split
    · split
      · exact Or.inl rfl
      · rename_i h
        refine Or.inr ⟨?_, ?_, ?_, ?_, ?_⟩
        · show 0 ≤ n + x % 128 * 128 ^ i
          omega
        · show n + x % 128 * 128 ^ i ≤ _
          omega
        · show at_ + i < at_ + i + 1
          omega
        · show at_ + i + 1 ≤ _
          simp only [List.length_cons]; omega
        · show at_ + i + 1 ≤ _
          omega
    · rcases gn_bounds at_ d (i + 1) t (n + x % 128 * 128 ^ i) hb (by omega) with h | ⟨a, b, c, e, f⟩
      · exact Or.inl h
      · refine Or.inr ⟨a, b, ?_, ?_, ?_⟩
        · omega
        · simp only [List.length_cons]; omega
        · omega
theorem getN_bounds {b : List Int} (hb : By b) (at_ : Int) : getN b at_ = (0, -1) ∨ (0 ≤ at_ ∧ 0 ≤ (getN b at_).1 ∧ (getN b at_).1 ≤ 2147483647 ∧ at_ < (getN b at_).2 ∧ (getN b at_).2 ≤ b.length ∧ (getN b at_).2 ≤ at_ + 5) := by
  unfold getN
  split
  · exact Or.inl rfl
  · rcases gn_bounds at_ 5 0 (b.drop at_.toNat) 0 (By_drop _ hb) (by omega) with h | ⟨a1, a2, a3, a4, a5⟩
    · exact Or.inl h
    · refine Or.inr ⟨by omega, a1, a2, ?_, ?_, ?_⟩
      · omega
      · rw [List.length_drop] at a4; omega
      · omega
theorem getN_out {b : List Int} {at_ : Int} (h : at_ < 0 ∨ (b.length : Int) ≤ at_) : getN b at_ = (0, -1) := by
  unfold getN
  split
  · rfl
  · rw [List.drop_eq_nil_of_le (by omega)]; rfl

theorem bits_or_comm (k : IntKind) (a b : Int) : bits .or k a b = bits .or k b a := by
  simp only [bits, BitVec.or_comm]
theorem wraps_i64 (n : Int) (h₀ : 0 ≤ n) (h₁ : n < 2 ^ 63) : IntKind.i64.wrap n = n := by rw [IntKind.wrap_i64]; omega
theorem pw_two (i : Nat) : (2 : Int) ^ (7 * i) = 128 ^ i := by rw [Int.pow_mul]; rfl
theorem or_seven {x n : Int} {i : Nat} (hi : i < 5) (hx : 0 ≤ x) (hx2 : x ≤ 255) (hn : 0 ≤ n) (hn2 : n < 128 ^ i) :
    Go.bits .or .i64 n (shl .i64 (wrap64 (Int.tmod x 128)) (wrap64 (7 * (i : Int)))) = n + x % 128 * 128 ^ i := by
  have hb := gn_next hx hn hn2
  have h5 := pw_five (i + 1) (by omega)
  have h6 := pw_five i (by omega)
  have ht : Int.tmod x 128 = x % 128 := Int.tmod_eq_emod_of_nonneg hx
  have e1 : shl .i64 (wrap64 (Int.tmod x 128)) (wrap64 (7 * (i : Int))) = x % 128 * 128 ^ i := by
    unfold shl
    rw [ht, w64 (by omega) (by omega), w64 (x := 7 * (i : Int)) (by omega) (by omega)]
    rw [show min (7 * (i : Int)).toNat IntKind.i64.bits = 7 * i by
      have : IntKind.i64.bits = 64 := rfl
      omega]
    rw [pw_two, wraps_i64 _ (by omega) (by omega)]
  rw [e1, bits_or_comm, bits_join .i64 63 (by decide) wraps_i64 (7 * i) (x % 128 * 128 ^ i) n (by omega) (by rw [pw_two]; exact Int.mul_emod_left _ _) (by omega) hn (by rw [pw_two]; exact hn2) (by omega)]
  omega

def putT (b t : List Int) : List Int := if t.length ≤ 20 then putN b t.length ++ t else b
theorem putT_By {b t : List Int} (hb : By b) (ht : By t) : By (putT b t) := by
  unfold putT
  split
  · exact By_append (putN_By hb) ht
  · exact hb
theorem putT_len (b t : List Int) : b.length ≤ (putT b t).length ∧ (putT b t).length ≤ b.length + 25 := by
  unfold putT
  split
  · have := putN_len b t.length
    rw [List.length_append]; omega
  · omega
def getT (b : List Int) (at_ : Int) : List Int × Int :=
  if (getN b at_).2 < 0 ∨ (getN b at_).1 > 20 ∨ (getN b at_).1 > (b.length : Int) - (getN b at_).2 then ([], -1)
  else ((b.take ((getN b at_).2 + (getN b at_).1).toNat).drop (getN b at_).2.toNat, (getN b at_).2 + (getN b at_).1)
def isName (b : List Int) : Bool := decide (1 ≤ b.length ∧ b.length ≤ 8) && b.all (fun x => decide (97 ≤ x ∧ x ≤ 122))
def addrKey (a b : List Int) : List Int := a ++ [91, 34] ++ b ++ [34, 93]
theorem bytesOf_two (x y : UInt8) : bytesOf (⟨#[x, y]⟩ : ByteArray) = [(x.toNat : Int), (y.toNat : Int)] := rfl
def hasPre (a b : List Int) : Bool := decide (b.length ≤ a.length) && decide (a.take b.length = b)
def common : List Int → List Int → Nat
  | x :: a, y :: b => if x = y then common a b + 1 else 0
  | _, _ => 0
theorem common_cons (x y : Int) (a b : List Int) : common (x :: a) (y :: b) = if x = y then common a b + 1 else 0 := by rw [common]
theorem common_nil (a : List Int) : common a [] = 0 := by cases a <;> rfl
end Go.Proofs.Ytenpjddjmhjdoaa.M
