/- Steps are marked: numbers alone turn, between the blocks of what is marked. -/
import Derived.Test.YtenpjddjmhjdoaaProg
import Derived.Test.YtenpjddjmhjdoaaMownB
import Derived.WalkKit
import Derived.KernelRfl
import Derived.Deep.LoopGhost
namespace Go.Proofs.Ytenpjddjmhjdoaa.M
open Go.RowKit Go.Proofs.YtenpjddjmhjdoaaW.PrintWords Go.Proofs.YtenpjddjmhjdoaaW.PrintLast Go.Proofs.YtenpjddjmhjdoaaW.PrintMore
set_option linter.unusedVariables false
set_option linter.unusedSimpArgs false
theorem s_get1 {arr : Array Value} {i : Nat} {u : Value} (h : (arr.toList.drop (i * 1)).take 1 = [u]) : arr[i]? = some u := by
  have h1 : ((arr.toList.drop (i * 1)).take 1)[0]? = some u := by rw [h]; rfl
  rw [List.getElem?_take, if_pos (by omega), List.getElem?_drop, Nat.mul_one, Nat.add_zero, Array.getElem?_toList] at h1
  exact h1
theorem s_cell {w : World} {b t i : Nat} {arr : Array Value} {u : Value} (h : w.heap[b]? = some (.cells arr t (0, 0))) (hu : arr[i]? = some u) : w.cell? ⟨b, i, none⟩ = some u := (blk_cell h i).trans hu
theorem s_by {w : World} {lo hi e l c i : Nat} {A : Option Addr} (h : ByT w lo hi e (.slice A l c) l) (hi' : i < l) : ∃ b arr x, A = some ⟨b, 0, none⟩ ∧ lo ≤ b ∧ b < hi ∧ w.heap[b]? = some (.cells arr e (0, 0)) ∧ arr[i]? = some (.int .u8 x) := by
  obtain ⟨A', c', e1, _, hr⟩ := h
  injection e1 with e1 e2 e3
  subst e1
  obtain ⟨b, arr, ea, h1, h2, h3, h4, h5⟩ := hr (by omega)
  obtain ⟨x, hx⟩ := h5 i hi'
  exact ⟨b, arr, x, ea, h1, h2, h3, s_get1 hx⟩
/-- Bytes are marked. -/
theorem s_markByteS (lo hi l : Nat) (v : Value) (k : Int) (w : World) (hk : 0 ≤ k) (hkl : k + l ≤ 4611686018427387904) (h : ByT w lo hi 5 v l) :
    Calls Try.prog 20 #[v, .int .i64 k] w fun e w' => e = .returned (.int .i64 (k + l)) ∧ IntW w w' ∧ Outside lo hi w w' := by
  have hv := h
  obtain ⟨A, c, rfl, hc, hr⟩ := hv
  clear hr
  have HT := Aside0.mk h
  have HC := Aside0.mk hc
  clear h hc
  go_enter Try.func20, Try.ntmps20
  go_wp2
  go_loopw [1, 5] (fun v1 v5 wr => ∃ i : Nat, i ≤ l ∧ v1 = .int .i64 (k + i) ∧ v5 = .int .i64 i ∧ Aside0 (IntW w wr) ∧ Aside0 (Outside lo hi w wr)) (fun _ v5 _ => l - (intOf v5).toNat)
  case atStart => exact ⟨0, Nat.zero_le _, by simp, rfl, ⟨IntW.refl _⟩, ⟨Outside.refl _ _ _⟩⟩
  case round =>
    obtain ⟨i, hil, rfl, rfl, HI, HO⟩ := hrel
    by_cases hlt : i < l
    · obtain ⟨b, arr, x, rfl, hb1, hb2, hb3, hb4⟩ := s_by (HT.out.sm HI.out (.refl _)) hlt
      have hc := s_cell hb3 hb4
      have hf := blk_frozen hb3 i
      have p1 : (0 ≤ (i : Int)) = True := eq_true (by omega)
      have p2 : ((i : Int) < (l : Int)) = True := eq_true (by omega)
      have H1 := Aside0.mk (HI.out.trans (IntW.set (x' := (k + i) % 256) hb3 hb4))
      have H2 := Aside0.mk (HO.out.trans (Outside.set (o := i) (v := .int .u8 ((k + i) % 256)) hb1 hb2))
      clear hb1 hb2 hb3 hb4 HI HO
      go_wp2
      go_roundw
      case rel => exact ⟨i + 1, by omega, by simp; omega, by go_num, by simpa using H1, by simpa using H2⟩
      case measure => simp [intOf]; omega
    · obtain rfl : i = l := by omega
      go_wp2
      go_ret
      exact ⟨rfl, HI.out, HO.out⟩
/-- How many marks. -/
def cSs : List Nat → Nat
  | [] => 0
  | x :: l => 2 + x + cSs l
theorem cSs_take (l : List Nat) (i : Nat) (h : i < l.length) : cSs (l.take (i + 1)) = cSs (l.take i) + (2 + l.getD i 0) := by
  induction l generalizing i with
  | nil => simp at h
  | cons x l ih =>
    cases i with
    | zero => simp [cSs]
    | succ i => simp only [List.take_succ_cons, cSs, List.getD_cons_succ]; rw [ih i (by simpa using h)]; omega
theorem cSs_le (l : List Nat) (i : Nat) : cSs (l.take i) ≤ cSs l := by
  induction l generalizing i with
  | nil => simp
  | cons x l ih => cases i with
    | zero => simp [cSs]
    | succ i => simp only [List.take_succ_cons, cSs]; have := ih i; omega
theorem cSs_len (l : List Nat) : 2 * l.length ≤ cSs l := by
  induction l with
  | nil => simp [cSs]
  | cons x l ih => simp only [cSs, List.length_cons]; omega
def StE (w : World) (lo hi eB : Nat) (l : List Nat) (i : Nat) (cs : List Value) : Prop := ∃ x v y, cs = [.int .i64 x, v, .int .i64 y] ∧ ByT w lo hi eB v (l.getD i 0)
/-- Steps: a number, bytes, a number. -/
def StT (w : World) (lo hi eB eS : Nat) (v : Value) (l : List Nat) : Prop := Row w lo hi eS 3 (StE w lo hi eB l) v l.length
theorem SmL.three {u0 u1 u2 : Value} {b : List Value} (h : SmL [u0, u1, u2] b) : ∃ v0 v1 v2, b = [v0, v1, v2] ∧ Sm u0 v0 ∧ Sm u1 v1 ∧ Sm u2 v2 := by
  obtain ⟨v0, a0, b0⟩ := h.2 0 u0 rfl
  obtain ⟨v1, a1, b1⟩ := h.2 1 u1 rfl
  obtain ⟨v2, a2, b2⟩ := h.2 2 u2 rfl
  have hl := h.1
  refine ⟨v0, v1, v2, ?_, b0, b1, b2⟩
  clear b0 b1 b2 h
  rcases b with _ | ⟨x0, _ | ⟨x1, _ | ⟨x2, _ | ⟨x3, b⟩⟩⟩⟩
  · cases a0
  · cases a1
  · cases a2
  · simp only [List.getElem?_cons_zero, List.getElem?_cons_succ, Option.some.injEq] at a0 a1 a2
    rw [a0, a1, a2]
  · simp at hl
theorem StT.sm {w w' : World} {lo hi eB eS : Nat} {l : List Nat} {v v' : Value} (h : StT w lo hi eB eS v l) (hw : IntW w w') (hv : Sm v v') : StT w' lo hi eB eS v' l :=
  Row.sm h hw hv fun i cs cs' _ hE hs => by
    obtain ⟨x, u, y, rfl, hb⟩ := hE
    obtain ⟨u0, u1, u2, rfl, s0, s1, s2⟩ := hs.three
    obtain ⟨x', rfl⟩ := s0.int
    obtain ⟨y', rfl⟩ := s2.int
    exact ⟨x', u1, y', rfl, hb.sm hw s1⟩
theorem s_get3 {arr : Array Value} {i j : Nat} {cs : List Value} {u : Value} (h : (arr.toList.drop (i * 3)).take 3 = cs) (hj : j < 3) (hu : cs[j]? = some u) : arr[i * 3 + j]? = some u := by
  rw [← h, List.getElem?_take, if_pos hj, List.getElem?_drop, Array.getElem?_toList] at hu
  exact hu
theorem StT.at {w : World} {lo hi eB eS n c i : Nat} {l : List Nat} {A : Option Addr} (h : StT w lo hi eB eS (.slice A n c) l) (hi' : i < l.length) : ∃ b arr x u y, A = some ⟨b, 0, none⟩ ∧ lo ≤ b ∧ b < hi ∧ w.heap[b]? = some (.cells arr eS (0, 0)) ∧ arr[i * 3]? = some (.int .i64 x) ∧ arr[i * 3 + 1]? = some u ∧ arr[i * 3 + 2]? = some (.int .i64 y) ∧ ByT w lo hi eB u (l.getD i 0) := by
  obtain ⟨A', c', e1, _, hr⟩ := h
  injection e1 with e1 e2 e3
  subst e1
  obtain ⟨b, arr, ea, h1, h2, h3, h4, h5⟩ := hr (by omega)
  obtain ⟨x, u, y, hc, hb⟩ := h5 i hi'
  exact ⟨b, arr, x, u, y, ea, h1, h2, h3, s_get3 (j := 0) hc (by omega) rfl, s_get3 (j := 1) hc (by omega) rfl, s_get3 (j := 2) hc (by omega) rfl, hb⟩
theorem IntW.num {w w' : World} {b t o : Nat} {arr : Array Value} {k : IntKind} {x : Int} (h : IntW w w') (hb : w.heap[b]? = some (.cells arr t (0, 0))) (ho : arr[o]? = some (.int k x)) : ∃ arr' y, w'.heap[b]? = some (.cells arr' t (0, 0)) ∧ arr'[o]? = some (.int k y) := by
  obtain ⟨arr', h1, h2⟩ := h.h b arr t hb
  rw [← Array.getElem?_toList] at ho
  obtain ⟨u, h3, h4⟩ := h2.2 o _ ho
  obtain ⟨y, rfl⟩ := h4.int
  exact ⟨arr', y, h1, by rw [← Array.getElem?_toList, h3]⟩
theorem s_ne {arr : Array Value} {i j : Nat} {u v : Value} (h : arr[j]? = some v) (hn : i ≠ j) : (arr.setIfInBounds i u)[j]? = some v := by
  rw [Array.getElem?_setIfInBounds, if_neg hn]
  exact h
/-- Steps are marked. -/
theorem markStepS_out (lo hi : Nat) (l : List Nat) (v : Value) (k : Int) (w : World) (hk : 0 ≤ k) (hkl : k + cSs l ≤ 4611686018427387904) (h : StT w lo hi 5 79 v l) :
    Calls Try.prog 46 #[v, .int .i64 k] w fun e w' => e = .returned (.int .i64 (k + cSs l)) ∧ IntW w w' ∧ Outside lo hi w w' := by
  have hlen := cSs_len l
  have hv := h
  obtain ⟨A, c, rfl, hc, hr⟩ := hv
  clear hr
  have HT := Aside0.mk h
  have HC := Aside0.mk hc
  clear h hc
  go_enter Try.func46, Try.ntmps46
  go_wp2
  go_loopw [1, 5] (fun v1 v5 wr => ∃ i : Nat, i ≤ l.length ∧ v1 = .int .i64 (k + (cSs (l.take i) : Nat)) ∧ v5 = .int .i64 i ∧ Aside0 (IntW w wr) ∧ Aside0 (Outside lo hi w wr)) (fun _ v5 _ => l.length - (intOf v5).toNat)
  case atStart => exact ⟨0, Nat.zero_le _, by simp [cSs], rfl, ⟨IntW.refl _⟩, ⟨Outside.refl _ _ _⟩⟩
  case round =>
    obtain ⟨i, hil, rfl, rfl, HI, HO⟩ := hrel
    by_cases hlt : i < l.length
    · obtain ⟨b, arr, x, u, y, rfl, hb1, hb2, hb3, a0, a1, a2, t1⟩ := (HT.out.sm HI.out (.refl _)).at hlt
      have ht := cSs_take l i hlt
      have hle := cSs_le l (i + 1)
      obtain ⟨q, hq⟩ : ∃ q, q = l.getD i 0 := ⟨_, rfl⟩
      rw [← hq] at ht t1
      obtain ⟨k0, hk0⟩ : ∃ k0 : Int, k0 = k + (cSs (l.take i) : Nat) := ⟨_, rfl⟩
      rw [← hk0]
      have hk0' : 0 ≤ k0 := by omega
      have hk1 : k0 + 2 + (q : Nat) ≤ 4611686018427387904 := by omega
      have HQ := Aside0.mk (show k + (cSs (l.take (i + 1)) : Nat) = k0 + 1 + (q : Nat) + 1 by omega)
      have p1 : (0 ≤ (i : Int)) = True := eq_true (by omega)
      have p2 : ((i : Int) < (l.length : Int)) = True := eq_true (by omega)
      obtain ⟨A2, c2, rfl, _⟩ := id t1
      have hb4 := blk_set hb3 (i * 3) (.int .i64 k0)
      have b1 := s_ne (u := .int .i64 k0) a1 (show i * 3 ≠ i * 3 + 1 by omega)
      have b2 := s_ne (u := .int .i64 k0) a2 (show i * 3 ≠ i * 3 + 2 by omega)
      have g1 := IntW.set (x' := k0) hb3 a0
      have o1 := Outside.set (o := i * 3) (v := .int .i64 k0) hb1 hb2 (w := wr)
      have hc0 := s_cell hb3 a0
      have hf0 := blk_frozen hb3 (i * 3)
      have hc1 := s_cell hb4 b1
      have HI2 := Aside0.mk (HI.out.trans g1)
      have HO2 := Aside0.mk (HO.out.trans o1)
      have T1 := Aside0.mk (t1.sm g1 (.refl _))
      have HB := Aside0.mk hb4
      have D2 := Aside0.mk b2
      have HE := Aside0.mk hk1
      have HP := Aside0.mk hk0'
      have HL := Aside0.mk (And.intro hb1 hb2)
      clear hb3 hb4 a0 a1 a2 b1 b2 g1 o1 t1 HI HO hq ht hle hb1 hb2 hk0 hk1
      have hk9 : k0 ≤ 4611686018427387902 := by have := HE.out; omega
      go_wp2_with (go_at_call 20; refine (s_markByteS lo hi _ _ _ _ (by have := HP.out; omega) (by have := HE.out; omega) T1.out).mono ?_; rintro e w1 ⟨rfl, g1, g2⟩; obtain ⟨ar2, y2, h3, h4⟩ := g1.num HB.out D2.out; have hc2 := s_cell h3 h4; have hf2 := blk_frozen h3 (i * 3 + 2); have HI3 := Aside0.mk ((HI2.out.trans g1).trans (IntW.set (x' := k0 + 1 + (q : Nat)) h3 h4)); have HO3 := Aside0.mk ((HO2.out.trans g2).trans (Outside.set (o := i * 3 + 2) (v := .int .i64 (k0 + 1 + (q : Nat))) HL.out.1 HL.out.2)); have hk8 : k0 + 1 + (q : Nat) ≤ 4611686018427387903 ∧ 0 ≤ k0 + 1 + (q : Nat) := (by have := HE.out; have := HP.out; omega); clear h3 h4 g1 g2)
      go_roundw
      case rel => exact ⟨i + 1, by omega, by rw [HQ.out], by go_num, HI3, HO3⟩
      case measure => simp [intOf]; omega
    · have HQ := Aside0.mk (show cSs (l.take i) = cSs l by rw [List.take_of_length_le (by omega)])
      have p2 : ((i : Int) < (l.length : Int)) = False := eq_false (by omega)
      go_wp2
      go_ret
      exact ⟨by first | rfl | (rw [← HQ.out]; rfl) | (rw [HQ.out]; rfl), HI.out, HO.out⟩
end Go.Proofs.Ytenpjddjmhjdoaa.M
