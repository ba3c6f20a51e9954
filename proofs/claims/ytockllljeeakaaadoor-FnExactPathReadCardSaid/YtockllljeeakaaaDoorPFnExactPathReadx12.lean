/- What a function comes to, walked by hand. No condition. -/
import Derived.Test.YtockllljeeakaaaDoorPFnExactPathReadx0
import Derived.Test.YtockllljeeakaaaDoorMownB
import Derived.Test.YtockllljeeakaaaDoorMlaw
namespace Go.Proofs.YtockllljeeakaaaDoor.PFnExactPathRead
open Go.RowKit Go.Proofs.YtockllljeeakaaaDoorW.PrintWords Go.Proofs.YtockllljeeakaaaDoorW.PrintLast Go.Proofs.YtockllljeeakaaaDoorW.PrintMore Go.Proofs.YtockllljeeakaaaDoor.M
attribute [local go_sem] max2_int min2_int max_two min_two max_three min_three max_four min_four Go.Proofs.YtockllljeeakaaaDoor.M.str_gtr Go.Proofs.YtockllljeeakaaaDoor.M.str_leq Go.Proofs.YtockllljeeakaaaDoor.M.str_geq   -- for this text's walks alone
set_option linter.unusedVariables false
set_option linter.unusedSimpArgs false
/-! Steps, marked: each number and byte with its own. -/
def mst (k : Int) (x : S56) : S56 := ⟨k, mk (k + 1) x.f1.length, k + 1 + (x.f1.length : Nat)⟩
def mSt : List S56 → Nat
  | [] => 0
  | x :: l => 2 + x.f1.length + mSt l
def msts : Int → List S56 → List S56
  | _, [] => []
  | k, x :: l => mst k x :: msts (k + ((2 + x.f1.length : Nat) : Int)) l
theorem msts_len : ∀ (l : List S56) (k : Int), (msts k l).length = l.length
  | [], _ => rfl
  | x :: l, k => by simp [msts, msts_len l]
theorem mSt_take : ∀ (l : List S56) (i : Nat) (h : i < l.length), mSt (l.take (i + 1)) = mSt (l.take i) + (2 + l[i].f1.length)
  | [], i, h => by simp at h
  | x :: l, 0, _ => by simp [mSt]
  | x :: l, i + 1, h => by
    have := mSt_take l i (by simpa using h)
    simp only [List.take_succ_cons, mSt, List.getElem_cons_succ]; omega
theorem mSt_le : ∀ (l : List S56) (i : Nat), mSt (l.take i) ≤ mSt l
  | [], i => by simp
  | x :: l, 0 => by simp [mSt]
  | x :: l, i + 1 => by
    have := mSt_le l i
    simp only [List.take_succ_cons, mSt]; omega
theorem msts_snoc : ∀ (l : List S56) (k : Int) (x : S56), msts k (l ++ [x]) = msts k l ++ [mst (k + (mSt l : Nat)) x]
  | [], k, x => by simp [msts, mSt]
  | y :: l, k, x => by
    have e : k + ((2 + y.f1.length : Nat) : Int) + (mSt l : Nat) = k + ((2 + y.f1.length + mSt l : Nat) : Int) := by omega
    simp only [List.cons_append, msts, mSt, msts_snoc l, e]
theorem msts_step (k : Int) (i : Nat) (l : List S56) (h : i < l.length) : (msts k (l.take i) ++ l.drop i).set i (mst (k + (mSt (l.take i) : Nat)) l[i]) = msts k (l.take (i + 1)) ++ l.drop (i + 1) := by
  have hl : (msts k (l.take i)).length = i := by rw [msts_len, List.length_take]; omega
  rw [List.set_append_right _ _ (by omega), hl, Nat.sub_self, List.drop_eq_getElem_cons h, List.set_cons_zero, List.take_succ_eq_append_getElem h, msts_snoc]
  simp
theorem mst_get (k : Int) (i : Nat) (l : List S56) (h : i < l.length) (z : S56) : (msts k (l.take i) ++ l.drop i).getD i z = l[i] := by
  have hl : (msts k (l.take i)).length = i := by rw [msts_len, List.length_take]; omega
  rw [List.getD_eq_getElem?_getD, List.getElem?_append_right (by omega), hl, Nat.sub_self, List.getElem?_drop, Nat.add_zero, List.getElem?_eq_getElem h]
  rfl
open Classical in
set_option maxHeartbeats 4000000 in
theorem markStepS_own (l : List S56) (v : Value) (k : Int) (w : World) (base : Nat) (ok : Nat → Prop) (hk : 0 ≤ k) (hkl : k + mSt l ≤ 4611686018427387904) (h : Kd.S k56 56 w base ok v l) (hmax : l.length ≤ 4611686018427387904) :
    Calls Tryd.prog 16 #[v, .int .i64 k] w fun e w' => e = .returned (.int .i64 (k + mSt l)) ∧ Kd.S k56 56 w' base ok v (msts k l) ∧ Wr ok w w' := by
  obtain ⟨A, c, rfl⟩ := Kd.S_slice h
  have H0 := Aside0.mk h
  clear h
  go_enter Tryd.func16, Tryd.ntmps16
  go_wp2
  go_loopw [1, 5] (fun v1 v5 wr => ∃ i : Nat, i ≤ l.length ∧ v1 = .int .i64 (k + (mSt (l.take i) : Nat)) ∧ v5 = .int .i64 i ∧ Aside0 (Kd.S k56 56 wr base ok (.slice A l.length c) (msts k (l.take i) ++ l.drop i)) ∧ Aside0 (Wr ok w wr)) (fun _ v5 _ => l.length - (intOf v5).toNat)
  case atStart => exact ⟨0, Nat.zero_le _, by simp [mSt], rfl, ⟨by simpa [msts] using H0.out⟩, ⟨Wr.refl _ _⟩⟩
  case round =>
    obtain ⟨i, hil, rfl, rfl, HI, HO⟩ := hrel
    by_cases hlt : i < l.length
    · have hln : (msts k (l.take i) ++ l.drop i).length = l.length := by rw [List.length_append, msts_len, List.length_take, List.length_drop]; omega
      obtain ⟨g, cap, eg, -, -, cells, hg⟩ := Kd.S_form HI.out (by omega)
      injection eg with e1 e2 e3
      subst e1
      obtain ⟨oki, cs, hcl, hM, hcc, hfr, hoki, hH⟩ := Kd.S_elem HI.out z56 (i : Int) (by omega) (by omega)
      rw [Int.toNat_natCast, mst_get k i l hlt] at hM
      obtain ⟨u, rfl, hu⟩ := k56_openM hM
      obtain ⟨A2, c2, rfl⟩ := Kd.R_slice hu
      have hsz : k56.sz = 3 := rfl
      obtain ⟨k0, hk0⟩ : ∃ k0 : Int, k0 = k + (mSt (l.take i) : Nat) := ⟨_, rfl⟩
      rw [← hk0]
      have ht := mSt_take l i hlt
      have hle := mSt_le l (i + 1)
      have hs := msts_step k i l hlt
      rw [← hk0] at hs
      have hc0 := hcc 0 _ rfl
      have hf0 := hfr 0
      obtain ⟨H2, hg2⟩ := Kd.H_seg hH (by omega) (by omega) (j := 0) (seg := [.int .i64 k0]) (by rw [hsz]; simp) (fun q hq => by obtain rfl := List.mem_singleton.1 hq; rfl)
      have hM2 := Kd.M_step hM (fun z hz hlt => hg2.block z hlt (fun he => (hoki z hz).2 (by injection he)))
      obtain ⟨u2, e4, hu2⟩ := k56_openM hM2
      obtain rfl : Value.slice A2 l[i].f1.length c2 = u2 := by simpa using e4
      have ha2 := Kd.H_at H2 (by omega) (by omega)
      have hc1 := ha2.1 1 (.slice A2 l[i].f1.length c2) rfl
      have hokg : ok g := by obtain ⟨f, hR⟩ := HI.out; exact hR.1 g (by simp [Value.ownBlock])
      rw [hsz, Int.toNat_natCast] at hc0 hc1 hf0 H2 hg2 hu2
      have e1 : wr.setCells g (i * 3 + 0) [.int .i64 k0] = wr.setCell ⟨g, i * 3, none⟩ (.int .i64 k0) := rfl
      rw [e1] at H2 hu2 hc1
      rw [Nat.add_zero] at hc0 hf0
      have hk9 : k0 ≤ 4611686018427387902 := by omega
      have hk8 : 0 ≤ k0 := by omega
      have HP := Aside0.mk (show 0 ≤ k0 by omega)
      have HE := Aside0.mk (show k0 + 2 + (l[i].f1.length : Nat) ≤ 4611686018427387904 by omega)
      have HQ := Aside0.mk (show k + (mSt (l.take (i + 1)) : Nat) = k0 + 1 + (l[i].f1.length : Nat) + 1 by omega)
      have HU := Aside0.mk hu2
      have HH := Aside0.mk H2
      have HK := Aside0.mk hoki
      have HS := Aside0.mk hs
      have HO2 := Aside0.mk (HO.out.trans (Wr.set (o := i * 3) (v := .int .i64 k0) hokg))
      have HKG := Aside0.mk hokg
      have hsz2 := Aside0.mk hsz
      have p1 : (0 ≤ (i : Int)) = True := eq_true (by omega)
      have p2 : ((i : Int) < (l.length : Int)) = True := eq_true (by omega)
      clear hcc hfr hs hle ht hu hu2 hg hg2 hoki hH hM hM2 H2 hcl hln HI HO e2 e3 e4 ha2 hk0 e1 hokg hsz
      go_wp2_with (go_at_call 15; refine (markByteS_own l[i].f1 (.slice A2 l[i].f1.length c2) (k0 + 1) _ base oki (by have := HP.out; omega) (by have := HE.out; omega) HU.out).mono ?_; rintro e w2 ⟨rfl, g1, g2⟩; have H3 := Aside0.mk (Kd.H_step HH.out (fun z hz hn hl => g2.block z hl hn)); have hc2 := (Kd.H_at H3.out (by omega) (by omega)).1 2 (.int .i64 l[i].f2) rfl; have hf2 := (Kd.H_at H3.out (by omega) (by omega)).2 2; rw [hsz2.out, Int.toNat_natCast] at hc2 hf2; have HR := Aside0.mk g1; have HO3 := Aside0.mk (HO2.out.trans (g2.wide (fun z hz => (HK.out z hz).1))); have hk7 : k0 + 1 + (l[i].f1.length : Nat) ≤ 4611686018427387903 ∧ 0 ≤ k0 + 1 + (l[i].f1.length : Nat) := (by have := HE.out; have := HP.out; omega); clear g1 g2)
      obtain ⟨H4, hg4⟩ := Kd.H_seg H3.out (by omega) (by omega) (j := 2) (seg := [.int .i64 (k0 + 1 + (l[i].f1.length : Nat))]) (by rw [hsz2.out]; simp) (fun q hq => by obtain rfl := List.mem_singleton.1 hq; rfl)
      have H5 := Kd.H_back H4 (x' := mst k0 l[i]) (okp := oki) (k56_mkM _ base oki (mst k0 l[i]) (Kd.R_step HR.out (fun z hz hl => hg4.block z hl (fun he => (HK.out z hz).2 (by injection he))))) (fun _ h => h)
      rw [hsz2.out, Int.toNat_natCast, HS.out] at H5
      have HI5 := Aside0.mk H5
      have HO5 := Aside0.mk (HO3.out.trans (Wr.set (o := i * 3 + 2) (v := .int .i64 (k0 + 1 + (l[i].f1.length : Nat))) HKG.out))
      clear H4 hg4 H5
      go_roundw
      case rel => exact ⟨i + 1, by omega, by rw [HQ.out], by go_num, HI5, HO5⟩
      case measure => simp [intOf]; omega
    · have hi : i = l.length := by omega
      subst hi
      have H1 := HI.out
      rw [List.drop_length, List.append_nil, List.take_length] at H1
      have p2 : ((l.length : Int) < (l.length : Int)) = False := eq_false (by omega)
      have HQ := Aside0.mk (show mSt (l.take l.length) = mSt l by rw [List.take_length])
      go_wp2
      go_ret
      exact ⟨by first | rfl | (rw [← HQ.out]; rfl) | (rw [HQ.out]; rfl), H1, HO.out⟩
theorem laws_markStepS.kce (l0 : List S56) (v0 : Value) (k mm : Int) (w : World) {lo hi : Nat} (hk : 0 ≤ k) (hm : l0.length + mSt l0 ≤ 1099511627776) (hk2 : k ≤ 1099511627776) (he : some (k + (mSt l0 : Nat)) = some mm) (h0 : OwnS k56 56 w lo hi l0 v0) :
    Calls Tryd.prog 16 #[v0, .int .i64 k] w fun e w' => e = .returned (.int .i64 mm) ∧ OwnS k56 56 w' lo hi (msts k l0) v0 ∧ M.Outside lo hi w w' := by
  have he := Option.some.inj he
  subst he
  refine (markStepS_own l0 v0 k w lo _ hk (by omega) h0.m (by omega)).mono ?_
  rintro e w' ⟨rfl, g1, g2⟩
  have g := g2.outside (fun _ h => h)
  exact ⟨rfl, ⟨g1, Nat.le_trans h0.le g.size⟩, g⟩
end Go.Proofs.YtockllljeeakaaaDoor.PFnExactPathRead
