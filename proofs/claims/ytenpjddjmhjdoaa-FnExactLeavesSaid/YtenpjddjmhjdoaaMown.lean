/- Marks, each known: rows of bytes of such rows that lie apart. No condition but that no number grows too great. -/
import Derived.Test.YtenpjddjmhjdoaaProg
import Derived.Test.YtenpjddjmhjdoaaMownB
import Derived.WalkKit
import Derived.KernelRfl
import Derived.Deep.LoopGhost
namespace Go.Proofs.Ytenpjddjmhjdoaa.M
open Go.RowKit Go.Proofs.YtenpjddjmhjdoaaW.PrintWords Go.Proofs.YtenpjddjmhjdoaaW.PrintLast Go.Proofs.YtenpjddjmhjdoaaW.PrintMore
set_option linter.unusedVariables false
set_option linter.unusedSimpArgs false
open Classical in
/-- Rows of bytes that lie apart are marked, each byte with its number. -/
theorem markByteSS_own (l : List (List Int)) (v : Value) (k : Int) (w : World) (base : Nat) (ok : Nat → Prop) (hk : 0 ≤ k) (hkl : k + mL l ≤ 4611686018427387904) (h : Kd.S (Kd.slice 5 (Kd.int .u8)) 22 w base ok v l) (hmax : l.length ≤ 4611686018427387904) :
    Calls Try.prog 62 #[v, .int .i64 k] w fun e w' => e = .returned (.int .i64 (k + mL l)) ∧ Kd.S (Kd.slice 5 (Kd.int .u8)) 22 w' base ok v (mks k l) ∧ Wr ok w w' := by
  obtain ⟨A, c, rfl⟩ := Kd.S_slice h
  have H0 := Aside0.mk h
  clear h
  go_enter Try.func62, Try.ntmps62
  go_wp2
  go_loopw [1, 5] (fun v1 v5 wr => ∃ i : Nat, i ≤ l.length ∧ v1 = .int .i64 (k + (mL (l.take i) : Nat)) ∧ v5 = .int .i64 i ∧ Aside0 (Kd.S (Kd.slice 5 (Kd.int .u8)) 22 wr base ok (.slice A l.length c) (mks k (l.take i) ++ l.drop i)) ∧ Aside0 (Wr ok w wr)) (fun _ v5 _ => l.length - (intOf v5).toNat)
  case atStart => exact ⟨0, Nat.zero_le _, by simp [mL], rfl, ⟨by simpa [mks] using H0.out⟩, ⟨Wr.refl _ _⟩⟩
  case round =>
    obtain ⟨i, hil, rfl, rfl, HI, HO⟩ := hrel
    by_cases hlt : i < l.length
    · have hln : (mks k (l.take i) ++ l.drop i).length = l.length := by rw [List.length_append, mks_len, List.length_take, List.length_drop]; omega
      obtain ⟨g, cap, eg, -, -, cells, hg⟩ := Kd.S_form HI.out (by omega)
      injection eg with e1 e2 e3
      subst e1
      obtain ⟨oki, cs, hcl, hM, hcc, hfr, hoki, hH⟩ := Kd.S_elem HI.out [] (i : Int) (by omega) (by omega)
      have hx : (mks k (l.take i) ++ l.drop i).getD (i : Int).toNat [] = l[i] := by
        rw [Int.toNat_natCast, List.getD_eq_getElem?_getD, List.getElem?_append_right (by rw [mks_len, List.length_take]; omega), mks_len, List.length_take, Nat.min_eq_left (by omega), Nat.sub_self, List.getElem?_drop, Nat.add_zero, List.getElem?_eq_getElem hlt]
        rfl
      rw [hx] at hM
      obtain ⟨u, rfl, hu⟩ := hM
      have hc := hcc 0 u rfl
      have hf := hfr 0
      have hsz : (Kd.slice 5 (Kd.int .u8)).sz = 1 := rfl
      rw [hsz, Int.toNat_natCast, Nat.mul_one, Nat.add_zero] at hc hf
      have p1 : (0 ≤ (i : Int)) = True := eq_true (by omega)
      have p2 : ((i : Int) < (l.length : Int)) = True := eq_true (by omega)
      have ht := mL_take l i hlt
      have hle := mL_le l (i + 1)
      have hs := mks_step k i l hlt
      have HH := Aside0.mk (show 0 ≤ k + (mL (l.take i) : Nat) ∧ k + (mL (l.take i) : Nat) + (l[i].length : Nat) ≤ 4611686018427387904 by omega)
      have HQ := Aside0.mk (show k + (mL (l.take (i + 1)) : Nat) = k + (mL (l.take i) : Nat) + (l[i].length : Nat) by omega)
      have HS := Aside0.mk hs
      have HU := Aside0.mk hu
      have HK := Aside0.mk hoki
      have HG := Aside0.mk hH
      clear hcc hfr hs hx hle ht hu hg hoki hH hcl hln HI e2 e3
      go_wp2_with (go_at_call 20; refine (markByteS_own _ _ _ _ _ _ HH.out.1 HH.out.2 HU.out).mono ?_; rintro e w1 ⟨rfl, g1, g2⟩; have H1 := Aside0.mk (HO.out.trans (g2.wide (fun z hz => (HK.out z hz).1))); have H2 := Aside0.mk g1; have H3 := Aside0.mk g2; clear g1 g2 HO)
      have h4 : Kd.H (Kd.slice 5 (Kd.int .u8)) 22 w1 base ok (.slice (some ⟨g, 0, none⟩) l.length c) (mks k (l.take i) ++ l.drop i) (i : Int) oki [u] := by
        obtain ⟨q1, f, q2⟩ := HG.out
        exact ⟨q1, f, Kd.R_step q2 (fun z hz hl => H3.out.block z hl hz.2)⟩
      have h5 := Kd.H_back h4 (x' := mk (k + (mL (l.take i) : Nat)) l[i].length) (okp := oki) ⟨u, rfl, H2.out⟩ (fun _ h => h)
      rw [Int.toNat_natCast, HS.out] at h5
      have H5 := Aside0.mk h5
      clear h4 h5
      go_roundw
      case rel => exact ⟨i + 1, by omega, by rw [HQ.out], by go_num, H5, H1⟩
      case measure => simp [intOf]; omega
    · have hi : i = l.length := by omega
      subst hi
      have H1 := HI.out
      rw [List.drop_length, List.append_nil, List.take_length] at H1
      have p2 : ((l.length : Int) < (l.length : Int)) = False := eq_false (by omega)
      have HQ := Aside0.mk (show mL (l.take l.length) = mL l by rw [List.take_length])
      go_wp2
      go_ret
      exact ⟨by first | rfl | (rw [← HQ.out]; rfl) | (rw [HQ.out]; rfl), H1, HO.out⟩
end Go.Proofs.Ytenpjddjmhjdoaa.M
