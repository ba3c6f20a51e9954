/- Marks, each known: bytes. No condition but that no number grows too great. -/
import Derived.Test.YtenpjddjmhjdoaaProg
import Derived.Test.YtenpjddjmhjdoaaMshape
import Derived.WalkKit
import Derived.KernelRfl
import Derived.Deep.LoopGhost
namespace Go.Proofs.Ytenpjddjmhjdoaa.M
open Go.RowKit Go.Proofs.YtenpjddjmhjdoaaW.PrintWords Go.Proofs.YtenpjddjmhjdoaaW.PrintLast Go.Proofs.YtenpjddjmhjdoaaW.PrintMore
set_option linter.unusedVariables false
set_option linter.unusedSimpArgs false
/-- Bytes are marked, each with its number. -/
theorem markByteS_own (l : List Int) (v : Value) (k : Int) (w : World) (base : Nat) (ok : Nat → Prop) (hk : 0 ≤ k) (hkl : k + l.length ≤ 4611686018427387904) (h : (Kd.int .u8).R 5 w base ok v l) :
    Calls Try.prog 20 #[v, .int .i64 k] w fun e w' => e = .returned (.int .i64 (k + l.length)) ∧ (Kd.int .u8).R 5 w' base ok v (mk k l.length) ∧ Wr ok w w' := by
  obtain ⟨A, c, rfl⟩ := Kd.R_slice h
  have H0 := Aside0.mk h
  clear h
  go_enter Try.func20, Try.ntmps20
  go_wp2
  go_loopw [1, 5] (fun v1 v5 wr => ∃ i : Nat, i ≤ l.length ∧ v1 = .int .i64 (k + i) ∧ v5 = .int .i64 i ∧ Aside0 ((Kd.int .u8).R 5 wr base ok (.slice A l.length c) (mk k i ++ l.drop i)) ∧ Aside0 (Wr ok w wr)) (fun _ v5 _ => l.length - (intOf v5).toNat)
  case atStart => exact ⟨0, Nat.zero_le _, by simp, rfl, ⟨by simpa [mk] using H0.out⟩, ⟨Wr.refl _ _⟩⟩
  case round =>
    obtain ⟨i, hil, rfl, rfl, HI, HO⟩ := hrel
    by_cases hlt : i < l.length
    · have hln : (mk k i ++ l.drop i).length = l.length := by rw [List.length_append, mk_len, List.length_drop]; omega
      obtain ⟨g, cap, eg, -, -, cells, hg⟩ := Kd.R_form HI.out (by omega)
      injection eg with e1 e2 e3
      subst e1
      obtain ⟨hc, hf⟩ := Kd.R_celln 0 HI.out (i : Int) (by omega) (by omega)
      have hput := (Kd.R_putg HI.out (i : Int) ((k + i) % 256)).1
      rw [Int.toNat_natCast] at hput hc hf
      rw [mk_step k i l hlt] at hput
      have p1 : (0 ≤ (i : Int)) = True := eq_true (by omega)
      have p2 : ((i : Int) < (l.length : Int)) = True := eq_true (by omega)
      have H1 := Aside0.mk hput
      have H2 := Aside0.mk (HO.out.trans (Wr.set (o := i) (v := .int .u8 ((k + i) % 256)) (HI.out.1 g (by simp [Value.ownBlock]))))
      clear hput HI HO hg e2 e3
      go_wp2
      go_roundw
      case rel => exact ⟨i + 1, by omega, by simp; omega, by go_num, H1, H2⟩
      case measure => simp [intOf]; omega
    · obtain rfl : i = l.length := by omega
      have H1 := HI.out
      rw [List.drop_length, List.append_nil] at H1
      go_wp2
      go_ret
      exact ⟨rfl, H1, HO.out⟩
end Go.Proofs.Ytenpjddjmhjdoaa.M
