/- What is put as a number or a text is got back, and whatever is got was put: plain facts on rows of bytes. No condition. -/
import Derived.Test.YtmigpeaiepdmbaaMnum
set_option linter.unusedVariables false
namespace Go.Proofs.Ytmigpeaiepdmbaa.M
open Go.RowKit Go.Proofs.YtmigpeaiepdmbaaW.PrintWords Go.Proofs.YtmigpeaiepdmbaaW.PrintLast Go.Proofs.YtmigpeaiepdmbaaW.PrintMore

theorem gn_put (at_ : Int) (t : List Int) : ∀ (d i m : Nat) (n : Int), m < 128 ^ d → 0 ≤ n → n + (m : Int) * 128 ^ i ≤ 2147483647 → (0 < i → 0 < m) → 0 < d →
    gn at_ d i (num7 m ++ t) n = (n + (m : Int) * 128 ^ i, at_ + i + (num7 m).length)
  | 0, _, _, _, _, _, _, _, hd => by omega
  | d + 1, i, m, n, hm, hn, hs, hi, _ => by
    by_cases h : m < 128
    · rw [num7_small h]
      show gn at_ (d + 1) i ((m : Int) :: t) n = _
      unfold gn
      have e : (m : Int) % 128 = m := by omega
      rw [if_pos (by omega), e, if_neg (by omega)]
      simp
    · rw [num7_great h]
      show gn at_ (d + 1) i (((m % 128 + 128 : Nat) : Int) :: (num7 (m / 128) ++ t)) n = _
      unfold gn
      have e : ((m % 128 + 128 : Nat) : Int) % 128 = ((m % 128 : Nat) : Int) := by omega
      have hsum : n + ((m % 128 : Nat) : Int) * 128 ^ i + ((m / 128 : Nat) : Int) * 128 ^ (i + 1) = n + (m : Int) * 128 ^ i := by
        rw [pw_succ, Int.mul_comm (128 ^ i) 128, ← Int.mul_assoc, Int.add_assoc, ← Int.add_mul]
        congr 2
        omega
      have h1 : 0 ≤ ((m % 128 : Nat) : Int) * 128 ^ i := Int.mul_nonneg (by omega) (Int.le_of_lt (pw_pos i))
      have hd : 0 < d := by
        rcases d with _ | d
        · simp at hm; omega
        · omega
      rw [if_neg (by omega), e, gn_put at_ t d (i + 1) (m / 128) _ (Nat.div_lt_of_lt_mul (by rw [Nat.pow_succ] at hm; omega)) (by omega) (by rw [hsum]; exact hs) (by omega) hd, hsum]
      simp only [List.length_cons]
      congr 1
      omega
theorem getN_put (b t : List Int) (n : Int) (h : isNum n) : getN (putN b n ++ t) b.length = (n, ((putN b n).length : Int)) := by
  obtain ⟨m, rfl⟩ := Int.eq_ofNat_of_zero_le h.1
  have h2 := h.2
  unfold getN putN
  rw [if_neg (by omega), if_pos h, Int.toNat_natCast, Int.toNat_natCast, List.append_assoc, List.drop_left, gn_put _ _ 5 0 m 0 (by omega) (by omega) (by simp; omega) (by omega) (by omega)]
  simp
theorem gn_get (at_ : Int) (hat : 0 ≤ at_) : ∀ (d i : Nat) (t : List Int) (n : Int), By t → 0 ≤ n → (gn at_ d i t n).2 ≠ -1 →
    ∃ (m len : Nat), gn at_ d i t n = (n + (m : Int) * 128 ^ i, at_ + i + len) ∧ t.take len = num7 m ∧ len ≤ t.length ∧ (0 < i → 0 < m)
  | 0, _, _, _, _, _, h => absurd rfl h
  | d + 1, i, [], n, _, _, h => absurd rfl h
  | d + 1, i, x :: t, n, hb, hn, h => by
    obtain ⟨hx, hb⟩ := By_cons.1 hb
    have h1 : 0 ≤ x % 128 * 128 ^ i := Int.mul_nonneg (by omega) (Int.le_of_lt (pw_pos i))
    unfold gn at h ⊢
    by_cases hx2 : x < 128
    · rw [if_pos hx2] at h ⊢
      by_cases hq : (x = 0 ∧ 0 < i) ∨ n + x % 128 * 128 ^ i > 2147483647
      · rw [if_pos hq] at h
        exact absurd rfl h
      · rw [if_neg hq]
        obtain ⟨m, rfl⟩ := Int.eq_ofNat_of_zero_le hx.1
        refine ⟨m, 1, ?_, ?_, by simp, by omega⟩
        · rw [show (m : Int) % 128 = m by omega]; rfl
        · rw [num7_small (by omega)]; simp
    · rw [if_neg hx2] at h ⊢
      obtain ⟨m, len, e, ht, hl, hm⟩ := gn_get at_ hat d (i + 1) t _ hb (by omega) h
      have hm := hm (by omega)
      obtain ⟨y, rfl⟩ := Int.eq_ofNat_of_zero_le hx.1
      refine ⟨m * 128 + (y - 128), len + 1, ?_, ?_, by simp only [List.length_cons]; omega, by omega⟩
      · rw [e]
        have e1 : n + (y : Int) % 128 * 128 ^ i + (m : Int) * 128 ^ (i + 1) = n + ((m * 128 + (y - 128) : Nat) : Int) * 128 ^ i := by
          have e2 : (m : Int) * 128 ^ (i + 1) = (m : Int) * 128 * 128 ^ i := by rw [pw_succ i, Int.mul_comm (128 ^ i) 128, ← Int.mul_assoc]
          have e3 : (y : Int) % 128 + (m : Int) * 128 = ((m * 128 + (y - 128) : Nat) : Int) := by omega
          rw [e2, Int.add_assoc, ← Int.add_mul, e3]
        rw [e1]
        congr 1
        omega
      · rw [List.take_succ_cons, num7_great (by omega), ht]
        congr 1
        · omega
        · congr 1; omega
/-- Whatever is read as a number is just the bytes of it. -/
theorem getN_get {b : List Int} (hb : By b) (at_ : Int) (h : ¬ (getN b at_).2 < 0) : putN (b.take at_.toNat) (getN b at_).1 = b.take (getN b at_).2.toNat := by
  have hg := getN_bounds hb at_
  have h0 : 0 ≤ at_ ∧ 0 ≤ (getN b at_).1 ∧ (getN b at_).1 ≤ 2147483647 ∧ at_ < (getN b at_).2 ∧ (getN b at_).2 ≤ b.length ∧ (getN b at_).2 ≤ at_ + 5 := by
    rcases hg with h1 | h1
    · rw [h1] at h; simp at h
    · exact h1
  clear hg
  have hn : isNum (getN b at_).1 := ⟨h0.2.1, h0.2.2.1⟩
  unfold putN
  rw [if_pos hn]
  unfold getN at h h0 ⊢
  rw [if_neg (by omega)] at h h0 ⊢
  obtain ⟨m, len, e, ht, hl, _⟩ := gn_get at_ h0.1 5 0 (b.drop at_.toNat) 0 (By_drop _ hb) (by omega) (by omega)
  rw [e]
  have hp : (128 : Int) ^ 0 = 1 := rfl
  simp only [hp, Int.mul_one, Int.zero_add, Int.toNat_natCast]
  rw [← ht, show (at_ + ((0 : Nat) : Int) + (len : Int)).toNat = at_.toNat + len by omega, List.take_add]
theorem getT_put (b t r : List Int) (h : t.length ≤ 20) : getT (putT b t ++ r) b.length = (t, ((putT b t).length : Int)) := by
  unfold getT putT
  rw [if_pos h, List.append_assoc, getN_put b (t ++ r) t.length ⟨by omega, by omega⟩]
  have hp := putN_len b t.length
  rw [if_neg (by simp only [List.length_append]; omega)]
  simp only [List.length_append]
  rw [show (((putN b t.length).length : Int) + (t.length : Int)).toNat = (putN b t.length).length + t.length by omega, Int.toNat_natCast, List.drop_take, List.drop_left, Nat.add_sub_cancel_left, List.take_left]
  simp
end Go.Proofs.Ytmigpeaiepdmbaa.M
