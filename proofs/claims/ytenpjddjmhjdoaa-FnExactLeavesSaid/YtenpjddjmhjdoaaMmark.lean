/- Marks: whatever is marked, numbers alone turn, between the blocks of what is marked. No condition but the shape, and that no number grows too great. -/
import Derived.Test.YtenpjddjmhjdoaaProg
import Derived.Test.YtenpjddjmhjdoaaMshape
import Derived.WalkKit
import Derived.KernelRfl
import Derived.Deep.LoopGhost
namespace Go.Proofs.Ytenpjddjmhjdoaa.M
open Go.RowKit Go.Proofs.YtenpjddjmhjdoaaW.PrintWords Go.Proofs.YtenpjddjmhjdoaaW.PrintLast Go.Proofs.YtenpjddjmhjdoaaW.PrintMore
set_option linter.unusedVariables false
set_option linter.unusedSimpArgs false
theorem get1 {arr : Array Value} {i : Nat} {u : Value} (h : (arr.toList.drop (i * 1)).take 1 = [u]) : arr[i]? = some u := by
  have h1 : ((arr.toList.drop (i * 1)).take 1)[0]? = some u := by rw [h]; rfl
  rw [List.getElem?_take, if_pos (by omega), List.getElem?_drop, Nat.mul_one, Nat.add_zero, Array.getElem?_toList] at h1
  exact h1
theorem get5 {arr : Array Value} {i j : Nat} {cs : List Value} {u : Value} (h : (arr.toList.drop (i * 5)).take 5 = cs) (hj : j < 5) (hu : cs[j]? = some u) : arr[i * 5 + j]? = some u := by
  rw [← h, List.getElem?_take, if_pos hj, List.getElem?_drop, Array.getElem?_toList] at hu
  exact hu
theorem cell_at {w : World} {b t i : Nat} {arr : Array Value} {u : Value} (h : w.heap[b]? = some (.cells arr t (0, 0))) (hu : arr[i]? = some u) : w.cell? ⟨b, i, none⟩ = some u := (blk_cell h i).trans hu
theorem ByT.at {w : World} {lo hi e l c i : Nat} {A : Option Addr} (h : ByT w lo hi e (.slice A l c) l) (hi' : i < l) : ∃ b arr x, A = some ⟨b, 0, none⟩ ∧ lo ≤ b ∧ b < hi ∧ w.heap[b]? = some (.cells arr e (0, 0)) ∧ arr[i]? = some (.int .u8 x) := by
  obtain ⟨A', c', e1, _, hr⟩ := h
  injection e1 with e1 e2 e3
  subst e1
  obtain ⟨b, arr, ea, h1, h2, h3, h4, h5⟩ := hr (by omega)
  obtain ⟨x, hx⟩ := h5 i hi'
  exact ⟨b, arr, x, ea, h1, h2, h3, get1 hx⟩
/-- Bytes are marked. -/
theorem markByteS_out (lo hi l : Nat) (v : Value) (k : Int) (w : World) (hk : 0 ≤ k) (hkl : k + l ≤ 4611686018427387904) (h : ByT w lo hi 5 v l) :
    Calls Try.prog 20 #[v, .int .i64 k] w fun e w' => e = .returned (.int .i64 (k + l)) ∧ IntW w w' ∧ Outside lo hi w w' := by
  have hv := h
  obtain ⟨A, c, rfl, hc, hr⟩ := hv
  clear hr
  have HT := Aside0.mk h
  have HC := Aside0.mk hc
  clear h hc
  go_enter Try.func20, Try.ntmps20
  go_wp2
  go_loopw [1, 5] (fun v1 v5 wr => ∃ i : Nat, i ≤ l ∧ v1 = .int .i64 (k + i) ∧ v5 = .int .i64 i ∧ Aside0 (IntW w wr) ∧ Aside0 (Outside lo hi w wr)) (fun _ v5 _ => l - (intOf v5).toNat)
  case atStart => exact ⟨0, Nat.zero_le _, by simp, rfl, ⟨IntW.refl _⟩, ⟨Outside.refl _ _ _⟩⟩
  case round =>
    obtain ⟨i, hil, rfl, rfl, HI, HO⟩ := hrel
    by_cases hlt : i < l
    · obtain ⟨b, arr, x, rfl, hb1, hb2, hb3, hb4⟩ := (HT.out.sm HI.out (.refl _)).at hlt
      have hc := cell_at hb3 hb4
      have hf := blk_frozen hb3 i
      have p1 : (0 ≤ (i : Int)) = True := eq_true (by omega)
      have p2 : ((i : Int) < (l : Int)) = True := eq_true (by omega)
      have H1 := Aside0.mk (HI.out.trans (IntW.set (x' := (k + i) % 256) hb3 hb4))
      have H2 := Aside0.mk (HO.out.trans (Outside.set (o := i) (v := .int .u8 ((k + i) % 256)) hb1 hb2))
      clear hb1 hb2 hb3 hb4 HI HO
      go_wp2
      go_roundw
      case rel => exact ⟨i + 1, by omega, by simp; omega, by go_num, by simpa using H1, by simpa using H2⟩
      case measure => simp [intOf]; omega
    · obtain rfl : i = l := by omega
      go_wp2
      go_ret
      exact ⟨rfl, HI.out, HO.out⟩
theorem ByT.len {w : World} {lo hi e l : Nat} {v : Value} (h : ByT w lo hi e v l) : ∃ A c, v = .slice A l c := by
  obtain ⟨A, c, e, _⟩ := h
  exact ⟨A, c, e⟩
theorem BsT.at {w : World} {lo hi e e2 c i n : Nat} {l : List Nat} {A : Option Addr} (h : BsT w lo hi e e2 (.slice A n c) l) (hi' : i < l.length) : ∃ b arr u, A = some ⟨b, 0, none⟩ ∧ w.heap[b]? = some (.cells arr e2 (0, 0)) ∧ arr[i]? = some u ∧ ByT w lo hi e u (l.getD i 0) := by
  obtain ⟨A', c', e1, _, hr⟩ := h
  injection e1 with e1 e2 e3
  subst e1
  obtain ⟨b, arr, ea, h1, h2, h3, h4, h5⟩ := hr (by omega)
  obtain ⟨u, hu, ht⟩ := h5 i hi'
  exact ⟨b, arr, u, ea, h3, get1 hu, ht⟩
/-- Rows of bytes are marked. -/
theorem markByteSS_out (lo hi : Nat) (l : List Nat) (v : Value) (k : Int) (w : World) (hk : 0 ≤ k) (hkl : k + cBs l ≤ 4611686018427387904) (h : BsT w lo hi 5 22 v l) (hmax : l.length ≤ 4611686018427387904) :
    Calls Try.prog 62 #[v, .int .i64 k] w fun e w' => e = .returned (.int .i64 (k + cBs l)) ∧ IntW w w' ∧ Outside lo hi w w' := by
  have hv := h
  obtain ⟨A, c, rfl, hc, hr⟩ := hv
  clear hr
  have HT := Aside0.mk h
  have HC := Aside0.mk hc
  clear h hc
  go_enter Try.func62, Try.ntmps62
  go_wp2
  go_loopw [1, 5] (fun v1 v5 wr => ∃ i : Nat, i ≤ l.length ∧ v1 = .int .i64 (k + (cBs (l.take i) : Nat)) ∧ v5 = .int .i64 i ∧ Aside0 (IntW w wr) ∧ Aside0 (Outside lo hi w wr)) (fun _ v5 _ => l.length - (intOf v5).toNat)
  case atStart => exact ⟨0, Nat.zero_le _, by simp [cBs], rfl, ⟨IntW.refl _⟩, ⟨Outside.refl _ _ _⟩⟩
  case round =>
    obtain ⟨i, hil, rfl, rfl, HI, HO⟩ := hrel
    by_cases hlt : i < l.length
    · obtain ⟨b, arr, u, rfl, hb3, hb4, hb5⟩ := (HT.out.sm HI.out (.refl _)).at hlt
      have hc := cell_at hb3 hb4
      have p1 : (0 ≤ (i : Int)) = True := eq_true (by omega)
      have p2 : ((i : Int) < (l.length : Int)) = True := eq_true (by omega)
      obtain ⟨q, hq⟩ : ∃ q, q = l.getD i 0 := ⟨_, rfl⟩
      have ht := cBs_take l i hlt
      have hle := cBs_le l (i + 1)
      rw [← hq] at ht hb5
      have HB := Aside0.mk hb5
      have HH := Aside0.mk (show 0 ≤ k + (cBs (l.take i) : Nat) ∧ k + (cBs (l.take i) : Nat) + (q : Nat) ≤ 4611686018427387904 by omega)
      have HQ := Aside0.mk (show k + (cBs (l.take (i + 1)) : Nat) = k + (cBs (l.take i) : Nat) + (q : Nat) by omega)
      clear hb3 hb4 hb5 ht hle hq
      go_wp2_with (go_at_call 20; refine (markByteS_out lo hi _ _ _ _ HH.out.1 HH.out.2 HB.out).mono ?_; rintro e w1 ⟨rfl, g1, g2⟩; have H1 := Aside0.mk (HI.out.trans g1); have H2 := Aside0.mk (HO.out.trans g2); clear g1 g2 HI HO)
      go_roundw
      case rel => exact ⟨i + 1, by omega, by rw [HQ.out], by go_num, H1, H2⟩
      case measure => simp [intOf]; omega
    · have HQ := Aside0.mk (show cBs (l.take i) = cBs l by rw [List.take_of_length_le (by omega)])
      have p2 : ((i : Int) < (l.length : Int)) = False := eq_false (by omega)
      go_wp2
      go_ret
      exact ⟨by first | rfl | (rw [← HQ.out]; rfl) | (rw [HQ.out]; rfl), HI.out, HO.out⟩
theorem VsT.at {eB eS e : Nat} {w : World} {lo hi n c m i : Nat} {l : List Sh} {A : Option Addr} (h : VsT eB eS e w lo hi n (.slice A m c) l) (hi' : i < l.length) : ∃ b arr p q v2 v3 v4 n', n = n' + 1 ∧ A = some ⟨b, 0, none⟩ ∧ lo ≤ b ∧ b < hi ∧ w.heap[b]? = some (.cells arr e (0, 0)) ∧ arr[i * 5]? = some (.int .i64 p) ∧ arr[i * 5 + 1]? = some (.int .i64 q) ∧ arr[i * 5 + 2]? = some v2 ∧ arr[i * 5 + 3]? = some v3 ∧ arr[i * 5 + 4]? = some v4 ∧ ByT w lo hi eB v2 (l.getD i (.mk 0 [] [])).s ∧ BsT w lo hi eB eS v3 (l.getD i (.mk 0 [] [])).ks ∧ VsT eB eS e w lo hi n' v4 (l.getD i (.mk 0 [] [])).l := by
  obtain ⟨A', c', e1, _, hr⟩ := h
  injection e1 with e1 e2 e3
  subst e1
  obtain ⟨b, arr, ea, h1, h2, h3, h4, h5⟩ := hr (by omega)
  have hs := h5 i hi'
  cases n with
  | zero => exact hs.elim
  | succ n =>
    obtain ⟨p, q, v2, v3, v4, hc, a2, a3, a4⟩ := hs
    exact ⟨b, arr, p, q, v2, v3, v4, n, rfl, ea, h1, h2, h3, get5 (j := 0) hc (by omega) rfl, get5 (j := 1) hc (by omega) rfl, get5 (j := 2) hc (by omega) rfl, get5 (j := 3) hc (by omega) rfl, get5 (j := 4) hc (by omega) rfl, a2, a3, a4⟩
mutual
/-- No row is longer than that. -/
def okV : Sh → Prop
  | .mk s k l => k.length ≤ 4611686018427387904 ∧ okVs l
def okVs : List Sh → Prop
  | [] => True
  | x :: l => l.length ≤ 4611686018427387904 ∧ okV x ∧ okVs l
end
theorem okVs_at : ∀ (l : List Sh) (i : Nat), okVs l → i < l.length → okV (l.getD i (.mk 0 [] []))
  | [], i, _, h => by simp at h
  | x :: l, 0, h, _ => h.2.1
  | x :: l, i + 1, h, hi => okVs_at l i h.2.2 (by simpa using hi)
theorem okVs_len : ∀ (l : List Sh), okVs l → l.length ≤ 4611686018427387905
  | [], _ => by simp
  | x :: l, h => by have := h.1; simp; omega
theorem Sh.eta (x : Sh) : x = .mk x.s x.ks x.l := by cases x; rfl
theorem cV_eta (x : Sh) : cV x = x.s + cBs x.ks + cVs x.l := by cases x; simp [cV, Sh.s, Sh.ks, Sh.l]
theorem okV_eta (x : Sh) (h : okV x) : x.ks.length ≤ 4611686018427387904 ∧ okVs x.l := by cases x; exact h
theorem IntW.hdr {w w' : World} {b t o : Nat} {arr : Array Value} {A : Option Addr} {n c : Nat} (h : IntW w w') (hb : w.heap[b]? = some (.cells arr t (0, 0))) (ho : arr[o]? = some (.slice A n c)) : ∃ arr', w'.heap[b]? = some (.cells arr' t (0, 0)) ∧ arr'[o]? = some (.slice A n c) := by
  obtain ⟨arr', h1, h2⟩ := h.h b arr t hb
  rw [← Array.getElem?_toList] at ho
  obtain ⟨u, h3, h4⟩ := h2.2 o _ ho
  exact ⟨arr', h1, by rw [← Array.getElem?_toList, h3, h4.slice]⟩
theorem set_ne {arr : Array Value} {i j : Nat} {u v : Value} (h : arr[j]? = some v) (hn : i ≠ j) : (arr.setIfInBounds i u)[j]? = some v := by
  rw [Array.getElem?_setIfInBounds, if_neg hn]
  exact h
/-- Parts are marked. -/
theorem markValueS_out (lo hi : Nat) (n : Nat) : ∀ (l : List Sh) (v : Value) (k : Int) (w : World), 0 ≤ k → k + cVs l ≤ 4611686018427387904 → okVs l → VsT 5 22 30 w lo hi n v l →
    Calls Try.prog 63 #[v, .int .i64 k] w fun e w' => e = .returned (.int .i64 (k + cVs l)) ∧ IntW w w' ∧ Outside lo hi w w' := by
  induction n using Nat.strongRecOn with
  | ind n ih =>
  intro l v k w hk hkl hok h
  have hlen := okVs_len l hok
  have hv := h
  obtain ⟨A, c, rfl, hc, hr⟩ := hv
  clear hr
  have HT := Aside0.mk h
  have HC := Aside0.mk hc
  have HOK := Aside0.mk hok
  clear h hc hok
  go_enter Try.func63, Try.ntmps63
  go_wp2
  go_loopw [1, 5] (fun v1 v5 wr => ∃ i : Nat, i ≤ l.length ∧ v1 = .int .i64 (k + (cVs (l.take i) : Nat)) ∧ v5 = .int .i64 i ∧ Aside0 (IntW w wr) ∧ Aside0 (Outside lo hi w wr)) (fun _ v5 _ => l.length - (intOf v5).toNat)
  case atStart => exact ⟨0, Nat.zero_le _, by simp [cVs], rfl, ⟨IntW.refl _⟩, ⟨Outside.refl _ _ _⟩⟩
  case round =>
    obtain ⟨i, hil, rfl, rfl, HI, HO⟩ := hrel
    by_cases hlt : i < l.length
    · obtain ⟨b, arr, p, q, v2, v3, v4, n', rfl, rfl, hb1, hb2, hb3, a0, a1, a2, a3, a4, t2, t3, t4⟩ := (HT.out.sm HI.out (.refl _)).at hlt
      obtain ⟨x, hx⟩ : ∃ x, x = l.getD i (.mk 0 [] []) := ⟨_, rfl⟩
      have ht := cVs_take l i hlt
      have hle := cVs_le l (i + 1)
      have hxo := okVs_at l i HOK.out hlt
      rw [← hx] at ht t2 t3 t4 hxo
      have he := cV_eta x
      obtain ⟨hx1, hx2⟩ := okV_eta x hxo
      obtain ⟨k0, hk0⟩ : ∃ k0 : Int, k0 = k + (cVs (l.take i) : Nat) := ⟨_, rfl⟩
      rw [← hk0]
      have hk0' : 0 ≤ k0 := by omega
      have hk1 : k0 + 2 + (x.s : Nat) + (cBs x.ks : Nat) + (cVs x.l : Nat) ≤ 4611686018427387904 := by omega
      have HQ := Aside0.mk (show k + (cVs (l.take (i + 1)) : Nat) = k0 + 1 + 1 + (x.s : Nat) + (cBs x.ks : Nat) + (cVs x.l : Nat) by omega)
      have p1 : (0 ≤ (i : Int)) = True := eq_true (by omega)
      have p2 : ((i : Int) < (l.length : Int)) = True := eq_true (by omega)
      obtain ⟨A2, c2, rfl⟩ := t2.len
      obtain ⟨A3, c3, rfl, _⟩ := id t3
      obtain ⟨A4, c4, rfl, _⟩ := id t4
      have hb4 := blk_set hb3 (i * 5) (.int .i64 k0)
      have b1 := set_ne (u := .int .i64 k0) a1 (show i * 5 ≠ i * 5 + 1 by omega)
      have b2 := set_ne (u := .int .i64 k0) a2 (show i * 5 ≠ i * 5 + 2 by omega)
      have b3 := set_ne (u := .int .i64 k0) a3 (show i * 5 ≠ i * 5 + 3 by omega)
      have b4 := set_ne (u := .int .i64 k0) a4 (show i * 5 ≠ i * 5 + 4 by omega)
      have hb5 := blk_set hb4 (i * 5 + 1) (.int .i64 (k0 + 1))
      have d2 := set_ne (u := .int .i64 (k0 + 1)) b2 (show i * 5 + 1 ≠ i * 5 + 2 by omega)
      have d3 := set_ne (u := .int .i64 (k0 + 1)) b3 (show i * 5 + 1 ≠ i * 5 + 3 by omega)
      have d4 := set_ne (u := .int .i64 (k0 + 1)) b4 (show i * 5 + 1 ≠ i * 5 + 4 by omega)
      have g1 := (IntW.set (x' := k0) hb3 a0).trans (IntW.set (x' := k0 + 1) hb4 b1)
      have o1 := (Outside.set (o := i * 5) (v := .int .i64 k0) hb1 hb2 (w := wr)).trans (Outside.set (o := i * 5 + 1) (v := .int .i64 (k0 + 1)) hb1 hb2)
      have hc0 := cell_at hb3 a0
      have hf0 := blk_frozen hb3 (i * 5)
      have hc1 := cell_at hb4 b1
      have hf1 := blk_frozen hb4 (i * 5 + 1)
      have hc2 := cell_at hb5 d2
      have HI2 := Aside0.mk (HI.out.trans g1)
      have HO2 := Aside0.mk (HO.out.trans o1)
      have T2 := Aside0.mk (t2.sm g1 (.refl _))
      have T3 := Aside0.mk (t3.sm g1 (.refl _))
      have T4 := Aside0.mk (VsT.sm t4 g1 (.refl _))
      have HB := Aside0.mk hb5
      have D3 := Aside0.mk d3
      have D4 := Aside0.mk d4
      have HE := Aside0.mk hk1
      have HP := Aside0.mk hk0'
      have HX1 := Aside0.mk hx1
      have HX2 := Aside0.mk hx2
      clear hb3 hb4 hb5 a0 a1 a2 a3 a4 b1 b2 b3 b4 d2 d3 d4 g1 o1 t2 t3 t4 HI HO hx ht hle he hxo hb1 hb2 hx1 hx2 hk0 hk1
      have hk9 : k0 ≤ 4611686018427387902 := by have := HE.out; omega
      go_wp2_with (first
        | (go_at_call 20; refine (markByteS_out lo hi _ _ _ _ (by have := HP.out; omega) (by have := HE.out; omega) T2.out).mono ?_; rintro e w1 ⟨rfl, g1, g2⟩; obtain ⟨ar1, h1, h2⟩ := g1.hdr HB.out D3.out; have hc3 := cell_at h1 h2; obtain ⟨ar2, h3, h4⟩ := g1.hdr HB.out D4.out; replace HB := Aside0.mk h3; replace D4 := Aside0.mk h4; replace T3 := Aside0.mk (T3.out.sm g1 (.refl _)); replace T4 := Aside0.mk (VsT.sm T4.out g1 (.refl _)); replace HI2 := Aside0.mk (HI2.out.trans g1); replace HO2 := Aside0.mk (HO2.out.trans g2); clear h1 h2 h3 h4 g1 g2)
        | (go_at_call 62; refine (markByteSS_out lo hi _ _ _ _ (by have := HP.out; omega) (by have := HE.out; omega) T3.out HX1.out).mono ?_; rintro e w2 ⟨rfl, g1, g2⟩; obtain ⟨ar2, h3, h4⟩ := g1.hdr HB.out D4.out; have hc4 := cell_at h3 h4; replace T4 := Aside0.mk (VsT.sm T4.out g1 (.refl _)); replace HI2 := Aside0.mk (HI2.out.trans g1); replace HO2 := Aside0.mk (HO2.out.trans g2); clear h3 h4 g1 g2)
        | (go_at_call 63; refine (ih n' (by omega) _ _ _ _ (by have := HP.out; omega) (by have := HE.out; omega) HX2.out T4.out).mono ?_; rintro e w3 ⟨rfl, g1, g2⟩; replace HI2 := Aside0.mk (HI2.out.trans g1); replace HO2 := Aside0.mk (HO2.out.trans g2); clear g1 g2))
      go_roundw
      case rel => exact ⟨i + 1, by omega, by rw [HQ.out], by go_num, HI2, HO2⟩
      case measure => simp [intOf]; omega
    · have HQ := Aside0.mk (show cVs (l.take i) = cVs l by rw [List.take_of_length_le (by omega)])
      go_wp2
      go_ret
      exact ⟨by first | rfl | (rw [← HQ.out]; rfl) | (rw [HQ.out]; rfl), HI.out, HO.out⟩
/-- A tree is marked. -/
theorem markValue_out (lo hi n : Nat) (x : Sh) (cs : Array Value) (k : Int) (w : World) (hk : 0 ≤ k) (hkl : k + cV x ≤ 4611686018427387904) (hok : okV x) (h : ShT 5 22 30 w lo hi n x cs.toList) (hw : hi ≤ w.heap.size) :
    Calls Try.prog 19 #[.agg cs, .int .i64 k] w fun e w' => e = .returned (.int .i64 (k + cV x)) ∧ Outside lo hi w w' := by
  cases n with
  | zero => exact h.elim
  | succ n =>
  obtain ⟨i, j, v2, v3, v4, hc, t2, t3, t4⟩ := h
  obtain rfl : cs = #[.int .i64 i, .int .i64 j, v2, v3, v4] := by rw [← cs.toArray_toList, hc]
  obtain ⟨A2, c2, rfl⟩ := t2.len
  obtain ⟨A3, c3, rfl, _⟩ := id t3
  obtain ⟨A4, c4, rfl, _⟩ := id t4
  have he := cV_eta x
  obtain ⟨hx1, hx2⟩ := okV_eta x hok
  have HP := Aside0.mk hk
  have HE := Aside0.mk (show k + (x.s : Nat) + (cBs x.ks : Nat) + (cVs x.l : Nat) ≤ 4611686018427387904 by omega)
  have HQ := Aside0.mk (show k + (cV x : Nat) = k + (x.s : Nat) + (cBs x.ks : Nat) + (cVs x.l : Nat) by omega)
  have T2 := Aside0.mk t2
  have T3 := Aside0.mk t3
  have T4 := Aside0.mk t4
  have HX1 := Aside0.mk hx1
  have HX2 := Aside0.mk hx2
  have HW := Aside0.mk hw
  have HO := Aside0.mk (Outside.refl lo hi w)
  have hu := Try.underlying30
  clear t2 t3 t4 hx1 hx2 he hok hw hkl hc
  go_enter Try.func19, Try.ntmps19
  go_wp2_with (first
    | ((with_reducible refine gate_dst (N := 2) rfl ?_); refine box_event ?hg (N := 2) ?hd (cs := #[.int .i64 i, .int .i64 j, .slice A2 x.s c2, .slice A3 x.ks.length c3, .slice A4 x.l.length c4]) (t := 30) ?hr ?_; (case hd => rfl); (case hg => rfl); (case hr => first | (go_simp; done) | (go_simp; rfl)); intro b hg w1 hbox hb; have hge : hi ≤ b := by { rw [hg]; exact HW.out }; have GE := Aside0.mk hge; replace HO := Aside0.mk (HO.out.trans (Below.outs hb lo hi)); replace T2 := Aside0.mk (T2.out.sm (IntW.below hb) (.refl _)); replace T3 := Aside0.mk (T3.out.sm (IntW.below hb) (.refl _)); replace T4 := Aside0.mk (VsT.sm T4.out (IntW.below hb) (.refl _)); have BK := Aside0.mk hbox; clear hb hbox hg hge; obtain ⟨hc0, hc1, hc2, hc3, hc4, hf0, hf1, hf2, hf3, hf4⟩ := blk5 BK.out)
    | (go_at_call 20; go_loud (refine (markByteS_out lo hi _ _ _ _ (by have := HP.out; omega) (by have := HE.out; omega) T2.out).mono ?_); rintro e w1 ⟨rfl, g1, g2⟩; have bk := (g2.block _ (blk_lt BK.out) (.inr GE.out)).trans BK.out; replace BK := Aside0.mk bk; clear bk; obtain ⟨hd0, hd1, hd2, hd3, hd4, he0, he1, he2, he3, he4⟩ := blk5 BK.out; replace T3 := Aside0.mk (T3.out.sm g1 (.refl _)); replace T4 := Aside0.mk (VsT.sm T4.out g1 (.refl _)); replace HO := Aside0.mk (HO.out.trans g2); clear g1 g2)
    | (go_at_call 62; refine (markByteSS_out lo hi _ _ _ _ (by have := HP.out; omega) (by have := HE.out; omega) T3.out HX1.out).mono ?_; rintro e w2 ⟨rfl, g1, g2⟩; have bk := (g2.block _ (blk_lt BK.out) (.inr GE.out)).trans BK.out; replace BK := Aside0.mk bk; clear bk; obtain ⟨hp0, hp1, hp2, hp3, hp4, hq0, hq1, hq2, hq3, hq4⟩ := blk5 BK.out; replace T4 := Aside0.mk (VsT.sm T4.out g1 (.refl _)); replace HO := Aside0.mk (HO.out.trans g2); clear g1 g2)
    | (go_at_call 63; refine (markValueS_out lo hi n _ _ _ _ (by have := HP.out; omega) (by have := HE.out; omega) HX2.out T4.out).mono ?_; rintro e w3 ⟨rfl, g1, g2⟩; replace HO := Aside0.mk (HO.out.trans g2); clear g1 g2))
  go_ret
  exact ⟨by rw [HQ.out]; rfl, HO.out⟩
end Go.Proofs.Ytenpjddjmhjdoaa.M
