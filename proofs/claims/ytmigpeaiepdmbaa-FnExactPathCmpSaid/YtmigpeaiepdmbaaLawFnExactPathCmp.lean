/- The row of this law, over its pure statement: for every input the call returns true, and each argument reads as it did. No condition. -/
import Derived.Test.YtmigpeaiepdmbaaRows
import Derived.Test.YtmigpeaiepdmbaaPFnExactPathCmpx6
import Derived.Test.YtmigpeaiepdmbaaPureFnExactPathCmp
import Derived.Test.YtmigpeaiepdmbaaMopen
import Derived.WalkKit
import Derived.ProofKit
import Derived.OpenShut
import Derived.ShutString
import Derived.ChangeOld
import Derived.Below
import Derived.SizedLaws
import Derived.ChangeSlices
import Derived.WideShapes
import Derived.Test.YtmigpeaiepdmbaaWSized
namespace Go.Proofs.Ytmigpeaiepdmbaa.fnExactPathCmp
open Go.ChangeShapes Go.WideShapes Go.ChangeAt Go.RowKit
open Go.ChangeMaps (open_string shut_string)
open Go.Proofs.Ytmigpeaiepdmbaa.PFnExactPathCmp Go.Proofs.YtmigpeaiepdmbaaW.PrintWords Go.Proofs.YtmigpeaiepdmbaaW.PrintLast Go.Proofs.YtmigpeaiepdmbaaW.PrintMore Go.Proofs.Ytmigpeaiepdmbaa.M Go.Proofs.Ytmigpeaiepdmbaa.Pure
set_option linter.unusedVariables false
theorem own : ownKnob Try.prog.godebug = none := by kernel_rfl
theorem laidOut : laidOutB Try.prog = true := by kernel_rfl
section
variable {H : Type} {enc : TypeId × Value → H} {W : World}
theorem openStep (n : Nat) : Opn enc Try.prog W 62 k62 WfStep n := by
  intro cs x h
  obtain ⟨m, rfl, hcl, hf⟩ := opn_fields Try.underlying62 (by kernel_rfl) (by kernel_rfl) h
  obtain ⟨c0, y0, e0, t0⟩ := hf 0 _ rfl
  obtain ⟨c1, y1, e1, t1⟩ := hf 1 _ rfl
  obtain ⟨c2, y2, e2, t2⟩ := hf 2 _ rfl
  obtain ⟨v0, k0, q0⟩ := opn_int m Try.underlying3 _ _ t0
  obtain ⟨v1, k1, q1⟩ := opn_slice 5 m Try.underlying31 (d := Kd.int .u8) (by kernel_rfl) (fun j _ => opn_int j Try.underlying5) _ _ t1
  obtain ⟨v2, k2, q2⟩ := opn_int m Try.underlying3 _ _ t2
  obtain ⟨A1, z1, he1, l1, g1⟩ := k1
  obtain rfl : c0 = .int .i64 v0 := List.head_eq_of_cons_eq k0
  obtain rfl : c1 = .slice A1 v1.length z1 := List.head_eq_of_cons_eq he1
  obtain rfl : c2 = .int .i64 v2 := List.head_eq_of_cons_eq k2
  obtain rfl := list3 hcl e0 e1 e2
  exact ⟨⟨v0, v1, v2⟩, k62_mk W ⟨v0, v1, v2⟩ l1 g1, q0, q1.1, By_of q1.2, q2⟩
theorem openSteps (n : Nat) : Opn enc Try.prog W 22 (Kd.slice 62 k62) WfSteps n :=
  opn_slice 62 n Try.underlying22 (by kernel_rfl) (fun j _ => openStep j)
end
set_option maxRecDepth 100000 in
theorem lifted (os : Os) (started : os.Started) (H : Type) (enc : TypeId × Value → H) :
    ReturnsInHanded {} Try.checked os 4 .any (Rows.fnExactPathCmpSpec.pre6 enc Try.prog Try.f4 Rows.fnExactPathCmpRow.domain false) (Rows.fnExactPathCmpSpec.post enc Try.prog Try.f4 false true false false) := by
  refine returnsInHanded_of_change_sized (C := Try.checked) own started (by kernel_rfl) Try.func4
    (ChangeSpec.witness6 (enc := enc) (C := Try.checked) false ⟨#[], #[.slice none 0 0, .slice none 0 0], []⟩ 8 (by kernel_rfl) (by kernel_rfl) (by kernel_rfl) (by kernel_rfl)) ?_
  intro W base args ds gs before hval0 hW hcnd hsz0 _
  have hval : ∀ (j : Nat) t v, Try.f4.params[j]? = some t → args[j]? = some v → Value.okWide Try.prog W .any base t v := hval0
  have hW' := hW
  obtain ⟨p, q, hA0, hV, rfl, hfz, hnd⟩ := hW
  have hA : DataW.TrodAll enc Try.prog W 0 (fun _ => true) true Try.f4.params.toList args.toList ds p := hA0
  rw [Try.params4] at hA hval
  obtain ⟨v0, vs0, d0, ds0, p0, q0, hargs, rfl, rfl, h0, r0⟩ := trodAll_cons hA
  obtain ⟨v1, vs1, d1, ds1, p1, q1, rfl, rfl, rfl, h1, r1⟩ := trodAll_cons r0
  obtain ⟨rfl, rfl, rfl⟩ := trodAll_nil r1
  obtain rfl : args = #[v0, v1] := by cases args; simp_all
  obtain ⟨rfl, rfl⟩ := trodVars_none hV
  obtain ⟨a0, len0, cap0, rfl⟩ := okWide_slice Try.underlying22 (hval 0 22 v0 rfl rfl)
  have k0 := h0
  have lt0 : ∀ x ∈ p0, x.block < W.heap.size := by obtain ⟨m, hm⟩ := k0; exact DataW.trod_lt m _ _ _ hm
  obtain ⟨fu0, hf0⟩ := h0
  obtain ⟨z0, ⟨A0, c0, e0, hc0, hr0⟩, q0_⟩ := openSteps fu0 _ _ hf0
  have e0 : [Value.slice a0 len0 cap0] = [Value.slice A0 z0.length c0] := e0
  simp only [List.cons.injEq, Value.slice.injEq, and_true] at e0
  obtain ⟨rfl, rfl, rfl⟩ := e0
  obtain ⟨a1, len1, cap1, rfl⟩ := okWide_slice Try.underlying22 (hval 1 22 v1 rfl rfl)
  have k1 := h1
  have lt1 : ∀ x ∈ p1, x.block < W.heap.size := by obtain ⟨m, hm⟩ := k1; exact DataW.trod_lt m _ _ _ hm
  obtain ⟨fu1, hf1⟩ := h1
  obtain ⟨z1, ⟨A1, c1, e1, hc1, hr1⟩, q1_⟩ := openSteps fu1 _ _ hf1
  have e1 : [Value.slice a1 len1 cap1] = [Value.slice A1 z1.length c1] := e1
  simp only [List.cons.injEq, Value.slice.injEq, and_true] at e1
  obtain ⟨rfl, rfl, rfl⟩ := e1
  obtain ⟨k, h⟩ := Pure.FnExactPathCmp z0 q0_ z1 q1_
  refine (laws_FnExactPathCmp.calls k _ _ z0 _ _ z1 true W hr0 hc0 hr1 hc1 h).mono ?_
  rintro e W' ⟨rfl, bel⟩
  exact ⟨_, rfl, _, _, _, [], _, [], hW', trodAll_mk1 (shut_bool Try.underlying4 _), (trodAll_cons_mk (Below.trod laidOut (by kernel_rfl) (of_decide_eq_true (by kernel_rfl)) k0 bel lt0) (trodAll_cons_mk (Below.trod laidOut (by kernel_rfl) (of_decide_eq_true (by kernel_rfl)) k1 bel lt1) trodAll_mk0)), rfl, bel.frame _, fun h => by cases h⟩
theorem over : Rows.fnExactPathCmpRow.holds Try.pinned (OpenSpec.ofChange Rows.fnExactPathCmpSpec) :=
  OpenClaim.holds_of_wide 4 Try.f4 rfl rfl rfl rfl rfl rfl rfl ⟨rfl, rfl, rfl, rfl, rfl⟩ rfl rfl rfl rfl rfl (by kernel_rfl) Try.func4 (by kernel_rfl)
    (of_decide_eq_true (by kernel_rfl)) (by unfold Func.isWrapper; first | (rw [if_pos (by decide +kernel)]; kernel_rfl) | (rw [if_neg (by decide +kernel)]; exact ⟨rfl, rfl⟩))
    (fun os started H enc _ => lifted os started H enc)
theorem proved : Rows.FnExactPathCmpSaid := over
#print axioms proved
end Go.Proofs.Ytmigpeaiepdmbaa.fnExactPathCmp
namespace Go.Proofs.Ytmigpeaiepdmbaa
/-- The row, under a short name, for the claim. -/
theorem fnExactPathCmp_holds : Rows.FnExactPathCmpSaid := fnExactPathCmp.proved
end Go.Proofs.Ytmigpeaiepdmbaa
