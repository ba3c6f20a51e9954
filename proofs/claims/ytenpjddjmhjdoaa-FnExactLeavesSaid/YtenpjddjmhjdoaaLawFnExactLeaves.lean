/- The row of this law, over its pure statement: for every input the call returns true, and each argument reads as it did. No condition. -/
import Derived.Test.YtenpjddjmhjdoaaRows
import Derived.Test.YtenpjddjmhjdoaaPFnExactLeavesx15
import Derived.Test.YtenpjddjmhjdoaaPureFnExactLeaves
import Derived.Test.YtenpjddjmhjdoaaMopen
import Derived.WalkKit
import Derived.ProofKit
import Derived.OpenShut
import Derived.ShutString
import Derived.ChangeOld
import Derived.Below
import Derived.SizedLaws
import Derived.ChangeSlices
import Derived.WideShapes
import Derived.Test.YtenpjddjmhjdoaaWSized
namespace Go.Proofs.Ytenpjddjmhjdoaa.fnExactLeaves
open Go.ChangeShapes Go.WideShapes Go.ChangeAt Go.RowKit
open Go.ChangeMaps (open_string shut_string)
open Go.Proofs.Ytenpjddjmhjdoaa.PFnExactLeaves Go.Proofs.YtenpjddjmhjdoaaW.PrintWords Go.Proofs.YtenpjddjmhjdoaaW.PrintLast Go.Proofs.YtenpjddjmhjdoaaW.PrintMore Go.Proofs.Ytenpjddjmhjdoaa.M Go.Proofs.Ytenpjddjmhjdoaa.Pure
set_option linter.unusedVariables false
theorem own : ownKnob Try.prog.godebug = none := by kernel_rfl
theorem laidOut : laidOutB Try.prog = true := by kernel_rfl
section
variable {H : Type} {enc : TypeId × Value → H} {W : World}
theorem openValue (n : Nat) : Opn enc Try.prog W 26 k26 WfV n := by
  induction n using Nat.strongRecOn with
  | ind n ih =>
  intro cs x h
  obtain ⟨m, rfl, hcl, hf⟩ := opn_fields Try.underlying26 (by kernel_rfl) (by kernel_rfl) h
  obtain ⟨c0, y0, e0, t0⟩ := hf 0 _ rfl
  obtain ⟨c1, y1, e1, t1⟩ := hf 1 _ rfl
  obtain ⟨c2, y2, e2, t2⟩ := hf 2 _ rfl
  obtain ⟨c3, y3, e3, t3⟩ := hf 3 _ rfl
  obtain ⟨c4, y4, e4, t4⟩ := hf 4 _ rfl
  obtain ⟨v0, k0, q0⟩ := opn_int m Try.underlying3 _ _ t0
  obtain ⟨v1, k1, q1⟩ := opn_int m Try.underlying3 _ _ t1
  obtain ⟨v2, k2, q2⟩ := opn_slice 5 m Try.underlying22 (d := Kd.int .u8) (by kernel_rfl) (fun j _ => opn_int j Try.underlying5) _ _ t2
  obtain ⟨v3, k3, q3⟩ := opn_slice 22 m Try.underlying23 (d := Kd.slice 5 (Kd.int .u8)) (by kernel_rfl) (fun j _ => opn_slice 5 j Try.underlying22 (d := Kd.int .u8) (by kernel_rfl) (fun i _ => opn_int i Try.underlying5)) _ _ t3
  obtain ⟨v4, k4, q4⟩ := opn_slice 26 m Try.underlying24 (d := k26) (by kernel_rfl) (fun j hj => ih j (by omega)) _ _ t4
  obtain ⟨A2, z2, he2, l2, g2⟩ := k2
  obtain ⟨A3, z3, he3, l3, g3⟩ := k3
  obtain ⟨A4, z4, he4, l4, g4⟩ := k4
  obtain rfl : c0 = .int .i64 v0 := List.head_eq_of_cons_eq k0
  obtain rfl : c1 = .int .i64 v1 := List.head_eq_of_cons_eq k1
  obtain rfl : c2 = .slice A2 v2.length z2 := List.head_eq_of_cons_eq he2
  obtain rfl : c3 = .slice A3 v3.length z3 := List.head_eq_of_cons_eq he3
  obtain rfl : c4 = .slice A4 v4.length z4 := List.head_eq_of_cons_eq he4
  obtain rfl := list5 hcl e0 e1 e2 e3 e4
  exact ⟨⟨v0, v1, v2, v3, v4⟩, k26_mk W ⟨v0, v1, v2, v3, v4⟩ l2 g2 l3 g3 l4 g4, .mk _ q0 q1 q2.1 (By_of q2.2) q3.1 (fun y hy => ⟨(q3.2 y hy).1, By_of (q3.2 y hy).2⟩) q4.1 q4.2⟩
end
set_option maxRecDepth 100000 in
theorem lifted (os : Os) (started : os.Started) (H : Type) (enc : TypeId × Value → H) :
    ReturnsInHanded {} Try.checked os 4 .any (Rows.fnExactLeavesSpec.pre6 enc Try.prog Try.f4 Rows.fnExactLeavesRow.domain false) (Rows.fnExactLeavesSpec.post enc Try.prog Try.f4 false true false false) := by
  refine returnsInHanded_of_change_sized (C := Try.checked) own started (by kernel_rfl) Try.func4
    (ChangeSpec.witness6 (enc := enc) (C := Try.checked) false ⟨#[], #[.agg #[.int .i64 0, .int .i64 0, .slice none 0 0, .slice none 0 0, .slice none 0 0]], []⟩ 8 (by kernel_rfl) (by kernel_rfl) (by kernel_rfl) (by kernel_rfl)) ?_
  intro W base args ds gs before hval0 hW hcnd hsz0 _
  have hval : ∀ (j : Nat) t v, Try.f4.params[j]? = some t → args[j]? = some v → Value.okWide Try.prog W .any base t v := hval0
  have hW' := hW
  obtain ⟨p, q, hA0, hV, rfl, hfz, hnd⟩ := hW
  have hA : DataW.TrodAll enc Try.prog W 0 (fun _ => true) true Try.f4.params.toList args.toList ds p := hA0
  rw [Try.params4] at hA hval
  obtain ⟨v0, vs0, d0, ds0, p0, q0, hargs, rfl, rfl, h0, r0⟩ := trodAll_cons hA
  obtain ⟨rfl, rfl, rfl⟩ := trodAll_nil r0
  obtain rfl : args = #[v0] := by cases args; simp_all
  obtain ⟨rfl, rfl⟩ := trodVars_none hV
  obtain ⟨cs0, rfl, hsz0_⟩ := okWide_struct Try.underlying26 (hval 0 26 v0 rfl rfl)
  have k0 := h0
  have lt0 : ∀ x ∈ p0, x.block < W.heap.size := by obtain ⟨m, hm⟩ := k0; exact DataW.trod_lt m _ _ _ hm
  obtain ⟨fu0, hf0⟩ := h0
  obtain ⟨z0, kk0, q0_⟩ := openValue fu0 _ _ hf0
  obtain ⟨k, h⟩ := Pure.FnExactLeaves z0 q0_
  refine (laws_FnExactLeaves.calls k z0 _ W ⟨kk0⟩ h).mono ?_
  rintro e W' ⟨rfl, bel⟩
  exact ⟨_, rfl, _, _, _, [], _, [], hW', trodAll_mk1 (shut_bool Try.underlying4 _), (trodAll_cons_mk (Below.trod laidOut (by kernel_rfl) (of_decide_eq_true (by kernel_rfl)) k0 bel lt0) trodAll_mk0), rfl, bel.frame _, fun h => by cases h⟩
theorem over : Rows.fnExactLeavesRow.holds Try.pinned (OpenSpec.ofChange Rows.fnExactLeavesSpec) :=
  OpenClaim.holds_of_wide 4 Try.f4 rfl rfl rfl rfl rfl rfl rfl ⟨rfl, rfl, rfl, rfl, rfl⟩ rfl rfl rfl rfl rfl (by kernel_rfl) Try.func4 (by kernel_rfl)
    (of_decide_eq_true (by kernel_rfl)) (by unfold Func.isWrapper; first | (rw [if_pos (by decide +kernel)]; kernel_rfl) | (rw [if_neg (by decide +kernel)]; exact ⟨rfl, rfl⟩))
    (fun os started H enc _ => lifted os started H enc)
theorem proved : Rows.FnExactLeavesSaid := over
#print axioms proved
end Go.Proofs.Ytenpjddjmhjdoaa.fnExactLeaves
namespace Go.Proofs.Ytenpjddjmhjdoaa
/-- The row, under a short name, for the claim. -/
theorem fnExactLeaves_holds : Rows.FnExactLeavesSaid := fnExactLeaves.proved
end Go.Proofs.Ytenpjddjmhjdoaa
