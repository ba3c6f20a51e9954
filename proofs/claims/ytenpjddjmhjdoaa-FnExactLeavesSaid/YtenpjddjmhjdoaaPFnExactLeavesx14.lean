/- What a function comes to, walked by hand. No condition. -/
import Derived.Test.YtenpjddjmhjdoaaPFnExactLeavesx0
import Derived.Test.YtenpjddjmhjdoaaMownB
import Derived.Test.YtenpjddjmhjdoaaMlaw
import Derived.Test.YtenpjddjmhjdoaaMkx
import Derived.Test.YtenpjddjmhjdoaaMownB
import Derived.Test.YtenpjddjmhjdoaaMlaw
namespace Go.Proofs.Ytenpjddjmhjdoaa.PFnExactLeaves
open Go.RowKit Go.Proofs.YtenpjddjmhjdoaaW.PrintWords Go.Proofs.YtenpjddjmhjdoaaW.PrintLast Go.Proofs.YtenpjddjmhjdoaaW.PrintMore Go.Proofs.Ytenpjddjmhjdoaa.M
attribute [local go_sem] max2_int min2_int max_two min_two max_three min_three max_four min_four Go.Proofs.Ytenpjddjmhjdoaa.M.str_gtr Go.Proofs.Ytenpjddjmhjdoaa.M.str_leq Go.Proofs.Ytenpjddjmhjdoaa.M.str_geq   -- for this text's walks alone
set_option linter.unusedVariables false
set_option linter.unusedSimpArgs false
/-! Steps, marked: each number and byte with its own. -/
def mst (k : Int) (x : S79) : S79 := ⟨k, mk (k + 1) x.f1.length, k + 1 + (x.f1.length : Nat)⟩
def mSt : List S79 → Nat
  | [] => 0
  | x :: l => 2 + x.f1.length + mSt l
def msts : Int → List S79 → List S79
  | _, [] => []
  | k, x :: l => mst k x :: msts (k + ((2 + x.f1.length : Nat) : Int)) l
theorem msts_len : ∀ (l : List S79) (k : Int), (msts k l).length = l.length
  | [], _ => rfl
  | x :: l, k => by simp [msts, msts_len l]
theorem mSt_take : ∀ (l : List S79) (i : Nat) (h : i < l.length), mSt (l.take (i + 1)) = mSt (l.take i) + (2 + l[i].f1.length)
  | [], i, h => by simp at h
  | x :: l, 0, _ => by simp [mSt]
  | x :: l, i + 1, h => by
    have := mSt_take l i (by simpa using h)
    simp only [List.take_succ_cons, mSt, List.getElem_cons_succ]; omega
theorem mSt_le : ∀ (l : List S79) (i : Nat), mSt (l.take i) ≤ mSt l
  | [], i => by simp
  | x :: l, 0 => by simp [mSt]
  | x :: l, i + 1 => by
    have := mSt_le l i
    simp only [List.take_succ_cons, mSt]; omega
theorem msts_snoc : ∀ (l : List S79) (k : Int) (x : S79), msts k (l ++ [x]) = msts k l ++ [mst (k + (mSt l : Nat)) x]
  | [], k, x => by simp [msts, mSt]
  | y :: l, k, x => by
    have e : k + ((2 + y.f1.length : Nat) : Int) + (mSt l : Nat) = k + ((2 + y.f1.length + mSt l : Nat) : Int) := by omega
    simp only [List.cons_append, msts, mSt, msts_snoc l, e]
theorem msts_step (k : Int) (i : Nat) (l : List S79) (h : i < l.length) : (msts k (l.take i) ++ l.drop i).set i (mst (k + (mSt (l.take i) : Nat)) l[i]) = msts k (l.take (i + 1)) ++ l.drop (i + 1) := by
  have hl : (msts k (l.take i)).length = i := by rw [msts_len, List.length_take]; omega
  rw [List.set_append_right _ _ (by omega), hl, Nat.sub_self, List.drop_eq_getElem_cons h, List.set_cons_zero, List.take_succ_eq_append_getElem h, msts_snoc]
  simp
theorem mst_get (k : Int) (i : Nat) (l : List S79) (h : i < l.length) (z : S79) : (msts k (l.take i) ++ l.drop i).getD i z = l[i] := by
  have hl : (msts k (l.take i)).length = i := by rw [msts_len, List.length_take]; omega
  rw [List.getD_eq_getElem?_getD, List.getElem?_append_right (by omega), hl, Nat.sub_self, List.getElem?_drop, Nat.add_zero, List.getElem?_eq_getElem h]
  rfl
open Classical in
set_option maxHeartbeats 4000000 in
theorem markStepS_own (l : List S79) (v : Value) (k : Int) (w : World) (base : Nat) (ok : Nat → Prop) (hk : 0 ≤ k) (hkl : k + mSt l ≤ 4611686018427387904) (h : Kd.S k79 79 w base ok v l) (hmax : l.length ≤ 4611686018427387904) :
    Calls Try.prog 46 #[v, .int .i64 k] w fun e w' => e = .returned (.int .i64 (k + mSt l)) ∧ Kd.S k79 79 w' base ok v (msts k l) ∧ Wr ok w w' := by
  obtain ⟨A, c, rfl⟩ := Kd.S_slice h
  have H0 := Aside0.mk h
  clear h
  go_enter Try.func46, Try.ntmps46
  go_wp2
  go_loopw [1, 5] (fun v1 v5 wr => ∃ i : Nat, i ≤ l.length ∧ v1 = .int .i64 (k + (mSt (l.take i) : Nat)) ∧ v5 = .int .i64 i ∧ Aside0 (Kd.S k79 79 wr base ok (.slice A l.length c) (msts k (l.take i) ++ l.drop i)) ∧ Aside0 (Wr ok w wr)) (fun _ v5 _ => l.length - (intOf v5).toNat)
  case atStart => exact ⟨0, Nat.zero_le _, by simp [mSt], rfl, ⟨by simpa [msts] using H0.out⟩, ⟨Wr.refl _ _⟩⟩
  case round =>
    obtain ⟨i, hil, rfl, rfl, HI, HO⟩ := hrel
    by_cases hlt : i < l.length
    · have hln : (msts k (l.take i) ++ l.drop i).length = l.length := by rw [List.length_append, msts_len, List.length_take, List.length_drop]; omega
      obtain ⟨g, cap, eg, -, -, cells, hg⟩ := Kd.S_form HI.out (by omega)
      injection eg with e1 e2 e3
      subst e1
      obtain ⟨oki, cs, hcl, hM, hcc, hfr, hoki, hH⟩ := Kd.S_elem HI.out z79 (i : Int) (by omega) (by omega)
      rw [Int.toNat_natCast, mst_get k i l hlt] at hM
      obtain ⟨u, rfl, hu⟩ := k79_openM hM
      obtain ⟨A2, c2, rfl⟩ := Kd.R_slice hu
      have hsz : k79.sz = 3 := rfl
      obtain ⟨k0, hk0⟩ : ∃ k0 : Int, k0 = k + (mSt (l.take i) : Nat) := ⟨_, rfl⟩
      rw [← hk0]
      have ht := mSt_take l i hlt
      have hle := mSt_le l (i + 1)
      have hs := msts_step k i l hlt
      rw [← hk0] at hs
      have hc0 := hcc 0 _ rfl
      have hf0 := hfr 0
      obtain ⟨H2, hg2⟩ := Kd.H_seg hH (by omega) (by omega) (j := 0) (seg := [.int .i64 k0]) (by rw [hsz]; simp) (fun q hq => by obtain rfl := List.mem_singleton.1 hq; rfl)
      have hM2 := Kd.M_step hM (fun z hz hlt => hg2.block z hlt (fun he => (hoki z hz).2 (by injection he)))
      obtain ⟨u2, e4, hu2⟩ := k79_openM hM2
      obtain rfl : Value.slice A2 l[i].f1.length c2 = u2 := by simpa using e4
      have ha2 := Kd.H_at H2 (by omega) (by omega)
      have hc1 := ha2.1 1 (.slice A2 l[i].f1.length c2) rfl
      have hokg : ok g := by obtain ⟨f, hR⟩ := HI.out; exact hR.1 g (by simp [Value.ownBlock])
      rw [hsz, Int.toNat_natCast] at hc0 hc1 hf0 H2 hg2 hu2
      have e1 : wr.setCells g (i * 3 + 0) [.int .i64 k0] = wr.setCell ⟨g, i * 3, none⟩ (.int .i64 k0) := rfl
      rw [e1] at H2 hu2 hc1
      rw [Nat.add_zero] at hc0 hf0
      have hk9 : k0 ≤ 4611686018427387902 := by omega
      have hk8 : 0 ≤ k0 := by omega
      have HP := Aside0.mk (show 0 ≤ k0 by omega)
      have HE := Aside0.mk (show k0 + 2 + (l[i].f1.length : Nat) ≤ 4611686018427387904 by omega)
      have HQ := Aside0.mk (show k + (mSt (l.take (i + 1)) : Nat) = k0 + 1 + (l[i].f1.length : Nat) + 1 by omega)
      have HU := Aside0.mk hu2
      have HH := Aside0.mk H2
      have HK := Aside0.mk hoki
      have HS := Aside0.mk hs
      have HO2 := Aside0.mk (HO.out.trans (Wr.set (o := i * 3) (v := .int .i64 k0) hokg))
      have HKG := Aside0.mk hokg
      have hsz2 := Aside0.mk hsz
      have p1 : (0 ≤ (i : Int)) = True := eq_true (by omega)
      have p2 : ((i : Int) < (l.length : Int)) = True := eq_true (by omega)
      clear hcc hfr hs hle ht hu hu2 hg hg2 hoki hH hM hM2 H2 hcl hln HI HO e2 e3 e4 ha2 hk0 e1 hokg hsz
      go_wp2_with (go_at_call 20; refine (markByteS_own l[i].f1 (.slice A2 l[i].f1.length c2) (k0 + 1) _ base oki (by have := HP.out; omega) (by have := HE.out; omega) HU.out).mono ?_; rintro e w2 ⟨rfl, g1, g2⟩; have H3 := Aside0.mk (Kd.H_step HH.out (fun z hz hn hl => g2.block z hl hn)); have hc2 := (Kd.H_at H3.out (by omega) (by omega)).1 2 (.int .i64 l[i].f2) rfl; have hf2 := (Kd.H_at H3.out (by omega) (by omega)).2 2; rw [hsz2.out, Int.toNat_natCast] at hc2 hf2; have HR := Aside0.mk g1; have HO3 := Aside0.mk (HO2.out.trans (g2.wide (fun z hz => (HK.out z hz).1))); have hk7 : k0 + 1 + (l[i].f1.length : Nat) ≤ 4611686018427387903 ∧ 0 ≤ k0 + 1 + (l[i].f1.length : Nat) := (by have := HE.out; have := HP.out; omega); clear g1 g2)
      obtain ⟨H4, hg4⟩ := Kd.H_seg H3.out (by omega) (by omega) (j := 2) (seg := [.int .i64 (k0 + 1 + (l[i].f1.length : Nat))]) (by rw [hsz2.out]; simp) (fun q hq => by obtain rfl := List.mem_singleton.1 hq; rfl)
      have H5 := Kd.H_back H4 (x' := mst k0 l[i]) (okp := oki) (k79_mkM _ base oki (mst k0 l[i]) (Kd.R_step HR.out (fun z hz hl => hg4.block z hl (fun he => (HK.out z hz).2 (by injection he))))) (fun _ h => h)
      rw [hsz2.out, Int.toNat_natCast, HS.out] at H5
      have HI5 := Aside0.mk H5
      have HO5 := Aside0.mk (HO3.out.trans (Wr.set (o := i * 3 + 2) (v := .int .i64 (k0 + 1 + (l[i].f1.length : Nat))) HKG.out))
      clear H4 hg4 H5
      go_roundw
      case rel => exact ⟨i + 1, by omega, by rw [HQ.out], by go_num, HI5, HO5⟩
      case measure => simp [intOf]; omega
    · have hi : i = l.length := by omega
      subst hi
      have H1 := HI.out
      rw [List.drop_length, List.append_nil, List.take_length] at H1
      have p2 : ((l.length : Int) < (l.length : Int)) = False := eq_false (by omega)
      have HQ := Aside0.mk (show mSt (l.take l.length) = mSt l by rw [List.take_length])
      go_wp2
      go_ret
      exact ⟨by first | rfl | (rw [← HQ.out]; rfl) | (rw [HQ.out]; rfl), H1, HO.out⟩
/-! Rows of steps, marked. -/
def mStt : List (List S79) → Nat
  | [] => 0
  | x :: l => mSt x + mStt l
def mstss : Int → List (List S79) → List (List S79)
  | _, [] => []
  | k, x :: l => msts k x :: mstss (k + (mSt x : Nat)) l
theorem mSt_len : ∀ l : List S79, l.length ≤ mSt l
  | [] => Nat.zero_le _
  | x :: l => by have := mSt_len l; simp only [mSt, List.length_cons]; omega
theorem mstss_len : ∀ (l : List (List S79)) (k : Int), (mstss k l).length = l.length
  | [], _ => rfl
  | x :: l, k => by simp [mstss, mstss_len l]
theorem mStt_take : ∀ (l : List (List S79)) (i : Nat) (h : i < l.length), mStt (l.take (i + 1)) = mStt (l.take i) + mSt l[i]
  | [], i, h => by simp at h
  | x :: l, 0, _ => by simp [mStt]
  | x :: l, i + 1, h => by
    have := mStt_take l i (by simpa using h)
    simp only [List.take_succ_cons, mStt, List.getElem_cons_succ]; omega
theorem mStt_le : ∀ (l : List (List S79)) (i : Nat), mStt (l.take i) ≤ mStt l
  | [], i => by simp
  | x :: l, 0 => by simp [mStt]
  | x :: l, i + 1 => by
    have := mStt_le l i
    simp only [List.take_succ_cons, mStt]; omega
theorem mstss_snoc : ∀ (l : List (List S79)) (k : Int) (x : List S79), mstss k (l ++ [x]) = mstss k l ++ [msts (k + (mStt l : Nat)) x]
  | [], k, x => by simp [mstss, mStt]
  | y :: l, k, x => by
    have e : k + (mSt y : Nat) + (mStt l : Nat) = k + ((mSt y + mStt l : Nat) : Int) := by omega
    simp only [List.cons_append, mstss, mStt, mstss_snoc l, e]
theorem mstss_step (k : Int) (i : Nat) (l : List (List S79)) (h : i < l.length) : (mstss k (l.take i) ++ l.drop i).set i (msts (k + (mStt (l.take i) : Nat)) l[i]) = mstss k (l.take (i + 1)) ++ l.drop (i + 1) := by
  have hl : (mstss k (l.take i)).length = i := by rw [mstss_len, List.length_take]; omega
  rw [List.set_append_right _ _ (by omega), hl, Nat.sub_self, List.drop_eq_getElem_cons h, List.set_cons_zero, List.take_succ_eq_append_getElem h, mstss_snoc]
  simp
open Classical in
set_option maxHeartbeats 4000000 in
theorem markStepSS_own (l : List (List S79)) (v : Value) (k : Int) (w : World) (base : Nat) (ok : Nat → Prop) (hk : 0 ≤ k) (hkl : k + mStt l ≤ 4611686018427387904) (h : Kd.S (Kx.sl 79 k79) 59 w base ok v l) (hmax : l.length ≤ 4611686018427387904) :
    Calls Try.prog 25 #[v, .int .i64 k] w fun e w' => e = .returned (.int .i64 (k + mStt l)) ∧ Kd.S (Kx.sl 79 k79) 59 w' base ok v (mstss k l) ∧ Wr ok w w' := by
  obtain ⟨A, c, rfl⟩ := Kd.S_slice h
  have H0 := Aside0.mk h
  clear h
  go_enter Try.func25, Try.ntmps25
  go_wp2
  go_loopw [1, 5] (fun v1 v5 wr => ∃ i : Nat, i ≤ l.length ∧ v1 = .int .i64 (k + (mStt (l.take i) : Nat)) ∧ v5 = .int .i64 i ∧ Aside0 (Kd.S (Kx.sl 79 k79) 59 wr base ok (.slice A l.length c) (mstss k (l.take i) ++ l.drop i)) ∧ Aside0 (Wr ok w wr)) (fun _ v5 _ => l.length - (intOf v5).toNat)
  case atStart => exact ⟨0, Nat.zero_le _, by simp [mStt], rfl, ⟨by simpa [mstss] using H0.out⟩, ⟨Wr.refl _ _⟩⟩
  case round =>
    obtain ⟨i, hil, rfl, rfl, HI, HO⟩ := hrel
    by_cases hlt : i < l.length
    · have hln : (mstss k (l.take i) ++ l.drop i).length = l.length := by rw [List.length_append, mstss_len, List.length_take, List.length_drop]; omega
      obtain ⟨g, cap, eg, -, -, cells, hg⟩ := Kd.S_form HI.out (by omega)
      injection eg with e1 e2 e3
      subst e1
      obtain ⟨oki, cs, hcl, hM, hcc, hfr, hoki, hH⟩ := Kd.S_elem HI.out [] (i : Int) (by omega) (by omega)
      have hx : (mstss k (l.take i) ++ l.drop i).getD (i : Int).toNat [] = l[i] := by
        rw [Int.toNat_natCast, List.getD_eq_getElem?_getD, List.getElem?_append_right (by rw [mstss_len, List.length_take]; omega), mstss_len, List.length_take, Nat.min_eq_left (by omega), Nat.sub_self, List.getElem?_drop, Nat.add_zero, List.getElem?_eq_getElem hlt]
        rfl
      rw [hx] at hM
      obtain ⟨u, rfl, hu⟩ := hM
      have hc := hcc 0 u rfl
      have hf := hfr 0
      have hsz : (Kx.sl 79 k79).sz = 1 := rfl
      rw [hsz, Int.toNat_natCast, Nat.mul_one, Nat.add_zero] at hc hf
      have p1 : (0 ≤ (i : Int)) = True := eq_true (by omega)
      have p2 : ((i : Int) < (l.length : Int)) = True := eq_true (by omega)
      have ht := mStt_take l i hlt
      have hle := mStt_le l (i + 1)
      have hs := mstss_step k i l hlt
      have HH := Aside0.mk (show 0 ≤ k + (mStt (l.take i) : Nat) ∧ k + (mStt (l.take i) : Nat) + (mSt l[i] : Nat) ≤ 4611686018427387904 by omega)
      have HQ := Aside0.mk (show k + (mStt (l.take (i + 1)) : Nat) = k + (mStt (l.take i) : Nat) + (mSt l[i] : Nat) by omega)
      have HS := Aside0.mk hs
      have HLL := Aside0.mk (show l[i].length ≤ 4611686018427387904 by have := mSt_len l[i]; omega)
      have HU := Aside0.mk hu
      have HK := Aside0.mk hoki
      have HG := Aside0.mk hH
      clear hcc hfr hs hx hle ht hu hg hoki hH hcl hln HI e2 e3
      go_wp2_with (go_at_call 46; refine (markStepS_own _ _ _ _ _ _ HH.out.1 HH.out.2 HU.out HLL.out).mono ?_; rintro e w1 ⟨rfl, g1, g2⟩; have H1 := Aside0.mk (HO.out.trans (g2.wide (fun z hz => (HK.out z hz).1))); have H2 := Aside0.mk g1; have H3 := Aside0.mk g2; clear g1 g2 HO)
      have h4 : Kd.H (Kx.sl 79 k79) 59 w1 base ok (.slice (some ⟨g, 0, none⟩) l.length c) (mstss k (l.take i) ++ l.drop i) (i : Int) oki [u] := by
        obtain ⟨q1, f, q2⟩ := HG.out
        exact ⟨q1, f, Kd.R_step q2 (fun z hz hl => H3.out.block z hl hz.2)⟩
      have h5 := Kd.H_back h4 (x' := msts (k + (mStt (l.take i) : Nat)) l[i]) (okp := oki) ⟨u, rfl, H2.out⟩ (fun _ h => h)
      rw [Int.toNat_natCast, HS.out] at h5
      have H5 := Aside0.mk h5
      clear h4 h5
      go_roundw
      case rel => exact ⟨i + 1, by omega, by rw [HQ.out], by go_num, H5, H1⟩
      case measure => simp [intOf]; omega
    · have hi : i = l.length := by omega
      subst hi
      have H1 := HI.out
      rw [List.drop_length, List.append_nil, List.take_length] at H1
      have p2 : ((l.length : Int) < (l.length : Int)) = False := eq_false (by omega)
      have HQ := Aside0.mk (show mStt (l.take l.length) = mStt l by rw [List.take_length])
      go_wp2
      go_ret
      exact ⟨by first | rfl | (rw [← HQ.out]; rfl) | (rw [HQ.out]; rfl), H1, HO.out⟩
theorem laws_markStepSS.kce (l0 : List (List S79)) (v0 : Value) (k mm : Int) (w : World) {lo hi : Nat} (hk : 0 ≤ k) (hm : l0.length + mStt l0 ≤ 1099511627776) (hk2 : k ≤ 1099511627776) (he : some (k + (mStt l0 : Nat)) = some mm) (h0 : OwnS (Kx.sl 79 k79) 59 w lo hi l0 v0) :
    Calls Try.prog 25 #[v0, .int .i64 k] w fun e w' => e = .returned (.int .i64 mm) ∧ OwnS (Kx.sl 79 k79) 59 w' lo hi (mstss k l0) v0 ∧ M.Outside lo hi w w' := by
  have he := Option.some.inj he
  subst he
  refine (markStepSS_own l0 v0 k w lo _ hk (by omega) h0.m (by omega)).mono ?_
  rintro e w' ⟨rfl, g1, g2⟩
  have g := g2.outside (fun _ h => h)
  exact ⟨rfl, ⟨g1, Nat.le_trans h0.le g.size⟩, g⟩
theorem rdX {α : Type} {d : Kd α} {e e2 : Nat} {w : World} {x : List (List α)} {cs : List Value} (h : Rd (Kd.slice e2 (Kx.sl e d)) w x cs) : Rd (Kd.slice e2 (Kd.slice e d)) w x cs := ⟨h.k⟩
end Go.Proofs.Ytenpjddjmhjdoaa.PFnExactLeaves
