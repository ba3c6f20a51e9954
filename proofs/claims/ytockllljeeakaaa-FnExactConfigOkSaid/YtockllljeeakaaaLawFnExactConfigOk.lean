/- The row of this law, over its pure statement: for every input the call returns true, and each argument reads as it did. No condition. -/
import Derived.Test.YtockllljeeakaaaRows
import Derived.Test.YtockllljeeakaaaPFnExactConfigOkx19
import Derived.Test.YtockllljeeakaaaPureFnExactConfigOk
import Derived.Test.YtockllljeeakaaaMopen
import Derived.WalkKit
import Derived.ProofKit
import Derived.OpenShut
import Derived.ShutString
import Derived.ChangeOld
import Derived.Below
import Derived.SizedLaws
import Derived.ChangeSlices
import Derived.WideShapes
import Derived.Test.YtockllljeeakaaaWSized
namespace Go.Proofs.Ytockllljeeakaaa.fnExactConfigOk
open Go.ChangeShapes Go.WideShapes Go.ChangeAt Go.RowKit
open Go.ChangeMaps (open_string shut_string)
open Go.Proofs.Ytockllljeeakaaa.PFnExactConfigOk Go.Proofs.YtockllljeeakaaaW.PrintWords Go.Proofs.YtockllljeeakaaaW.PrintLast Go.Proofs.YtockllljeeakaaaW.PrintMore Go.Proofs.Ytockllljeeakaaa.M Go.Proofs.Ytockllljeeakaaa.Pure
set_option linter.unusedVariables false
theorem own : ownKnob Try.prog.godebug = none := by kernel_rfl
theorem laidOut : laidOutB Try.prog = true := by kernel_rfl
section
variable {H : Type} {enc : TypeId × Value → H} {W : World}
theorem openExpr (n : Nat) : Opn enc Try.prog W 26 k26 WfE n := by
  induction n using Nat.strongRecOn with
  | ind n ih =>
  intro cs x h
  obtain ⟨m, rfl, hcl, hf⟩ := opn_fields Try.underlying26 (by kernel_rfl) (by kernel_rfl) h
  obtain ⟨c0, y0, e0, t0⟩ := hf 0 _ rfl
  obtain ⟨c1, y1, e1, t1⟩ := hf 1 _ rfl
  obtain ⟨c2, y2, e2, t2⟩ := hf 2 _ rfl
  obtain ⟨c3, y3, e3, t3⟩ := hf 3 _ rfl
  obtain ⟨c4, y4, e4, t4⟩ := hf 4 _ rfl
  obtain ⟨v0, k0, q0⟩ := opn_int m Try.underlying3 _ _ t0
  obtain ⟨v1, k1, q1⟩ := opn_int m Try.underlying3 _ _ t1
  obtain ⟨v2, k2, q2⟩ := opn_slice 5 m Try.underlying22 (d := Kd.int .u8) (by kernel_rfl) (fun j _ => opn_int j Try.underlying5) _ _ t2
  obtain ⟨v3, k3, q3⟩ := opn_slice 22 m Try.underlying23 (d := Kd.slice 5 (Kd.int .u8)) (by kernel_rfl) (fun j _ => opn_slice 5 j Try.underlying22 (d := Kd.int .u8) (by kernel_rfl) (fun i _ => opn_int i Try.underlying5)) _ _ t3
  obtain ⟨v4, k4, q4⟩ := opn_slice 26 m Try.underlying24 (d := k26) (by kernel_rfl) (fun j hj => ih j (by omega)) _ _ t4
  obtain ⟨A2, z2, he2, l2, g2⟩ := k2
  obtain ⟨A3, z3, he3, l3, g3⟩ := k3
  obtain ⟨A4, z4, he4, l4, g4⟩ := k4
  obtain rfl : c0 = .int .i64 v0 := List.head_eq_of_cons_eq k0
  obtain rfl : c1 = .int .i64 v1 := List.head_eq_of_cons_eq k1
  obtain rfl : c2 = .slice A2 v2.length z2 := List.head_eq_of_cons_eq he2
  obtain rfl : c3 = .slice A3 v3.length z3 := List.head_eq_of_cons_eq he3
  obtain rfl : c4 = .slice A4 v4.length z4 := List.head_eq_of_cons_eq he4
  obtain rfl := list5 hcl e0 e1 e2 e3 e4
  exact ⟨⟨v0, v1, v2, v3, v4⟩, k26_mk W ⟨v0, v1, v2, v3, v4⟩ l2 g2 l3 g3 l4 g4, .mk _ q0 q1 q2.1 (By_of q2.2) q3.1 (fun y hy => ⟨(q3.2 y hy).1, By_of (q3.2 y hy).2⟩) q4.1 q4.2⟩
theorem list10 {l : List Value} (h : l.length = 10) : ∃ a0 a1 a2 a3 a4 a5 a6 a7 a8 a9, l = [a0, a1, a2, a3, a4, a5, a6, a7, a8, a9] :=
  match l, h with
  | [a0, a1, a2, a3, a4, a5, a6, a7, a8, a9], _ => ⟨_, _, _, _, _, _, _, _, _, _, rfl⟩
theorem openItem (n : Nat) : Opn enc Try.prog W 91 k91 WfItem n := by
  intro cs x h
  obtain ⟨xs, m, _, rfl, hcl, hlen, hg⟩ := DataW.trod_struct Try.underlying91 h
  obtain ⟨a0, a1, a2, a3, a4, a5, a6, a7, a8, a9, rfl⟩ := list10 (hcl.trans (by kernel_rfl))
  have hlen : xs.length = 6 := hlen
  have c1 : Try.prog.cellsOf 3 = 1 := by kernel_rfl
  have c2 : Try.prog.cellsOf 22 = 1 := by kernel_rfl
  have c5 : Try.prog.cellsOf 26 = 5 := by kernel_rfl
  have c3 : Try.prog.cellsOf 23 = 1 := by kernel_rfl
  have c4 : Try.prog.cellsOf 24 = 1 := by kernel_rfl
  have t0 := hg 0 _ rfl
  replace t0 : DataW.trod enc Try.prog W 0 (fun _ => true) true m 3 (([a0, a1, a2, a3, a4, a5, a6, a7, a8, a9].drop 0).take (Try.prog.cellsOf 3)) = xs[0]? := t0
  rw [c1, List.getElem?_eq_getElem (by omega)] at t0
  replace t0 : DataW.trod enc Try.prog W 0 (fun _ => true) true m 3 [a0] = some _ := t0
  have t1 := hg 1 _ rfl
  replace t1 : DataW.trod enc Try.prog W 0 (fun _ => true) true m 22 (([a0, a1, a2, a3, a4, a5, a6, a7, a8, a9].drop 1).take (Try.prog.cellsOf 22)) = xs[1]? := t1
  rw [c2, List.getElem?_eq_getElem (by omega)] at t1
  replace t1 : DataW.trod enc Try.prog W 0 (fun _ => true) true m 22 [a1] = some _ := t1
  have t2 := hg 2 _ rfl
  replace t2 : DataW.trod enc Try.prog W 0 (fun _ => true) true m 3 (([a0, a1, a2, a3, a4, a5, a6, a7, a8, a9].drop 2).take (Try.prog.cellsOf 3)) = xs[2]? := t2
  rw [c1, List.getElem?_eq_getElem (by omega)] at t2
  replace t2 : DataW.trod enc Try.prog W 0 (fun _ => true) true m 3 [a2] = some _ := t2
  have t3 := hg 3 _ rfl
  replace t3 : DataW.trod enc Try.prog W 0 (fun _ => true) true m 26 (([a0, a1, a2, a3, a4, a5, a6, a7, a8, a9].drop 3).take (Try.prog.cellsOf 26)) = xs[3]? := t3
  rw [c5, List.getElem?_eq_getElem (by omega)] at t3
  replace t3 : DataW.trod enc Try.prog W 0 (fun _ => true) true m 26 [a3, a4, a5, a6, a7] = some _ := t3
  have t4 := hg 4 _ rfl
  replace t4 : DataW.trod enc Try.prog W 0 (fun _ => true) true m 23 (([a0, a1, a2, a3, a4, a5, a6, a7, a8, a9].drop 8).take (Try.prog.cellsOf 23)) = xs[4]? := t4
  rw [c3, List.getElem?_eq_getElem (by omega)] at t4
  replace t4 : DataW.trod enc Try.prog W 0 (fun _ => true) true m 23 [a8] = some _ := t4
  have t5 := hg 5 _ rfl
  replace t5 : DataW.trod enc Try.prog W 0 (fun _ => true) true m 24 (([a0, a1, a2, a3, a4, a5, a6, a7, a8, a9].drop 9).take (Try.prog.cellsOf 24)) = xs[5]? := t5
  rw [c4, List.getElem?_eq_getElem (by omega)] at t5
  replace t5 : DataW.trod enc Try.prog W 0 (fun _ => true) true m 24 [a9] = some _ := t5
  obtain ⟨v0, k0, q0⟩ := opn_int m Try.underlying3 _ _ t0
  obtain ⟨v1, k1, q1⟩ := opn_slice 5 m Try.underlying22 (d := Kd.int .u8) (by kernel_rfl) (fun j _ => opn_int j Try.underlying5) _ _ t1
  obtain ⟨v2, k2, q2⟩ := opn_int m Try.underlying3 _ _ t2
  obtain ⟨v3, k3, q3⟩ := openExpr m _ _ t3
  obtain ⟨v4, k4, q4⟩ := opn_slice 22 m Try.underlying23 (d := Kd.slice 5 (Kd.int .u8)) (by kernel_rfl) (fun j _ => opn_slice 5 j Try.underlying22 (d := Kd.int .u8) (by kernel_rfl) (fun i _ => opn_int i Try.underlying5)) _ _ t4
  obtain ⟨v5, k5, q5⟩ := opn_slice 26 m Try.underlying24 (d := k26) (by kernel_rfl) (fun j _ => openExpr j) _ _ t5
  obtain ⟨A1, z1, e1, l1, g1⟩ := k1
  obtain ⟨A5, z5, A6, z6, A7, z7, e3, l5, g5, l6, g6, l7, g7⟩ := k26_open k3
  obtain ⟨A8, z8, e4, l8, g8⟩ := k4
  obtain ⟨A9, z9, e5, l9, g9⟩ := k5
  obtain rfl : a0 = .int .i64 v0 := List.head_eq_of_cons_eq k0
  obtain rfl : a1 = .slice A1 v1.length z1 := List.head_eq_of_cons_eq e1
  obtain rfl : a2 = .int .i64 v2 := List.head_eq_of_cons_eq k2
  obtain rfl : a8 = .slice A8 v4.length z8 := List.head_eq_of_cons_eq e4
  obtain rfl : a9 = .slice A9 v5.length z9 := List.head_eq_of_cons_eq e5
  simp only [List.cons.injEq, and_true] at e3
  obtain ⟨rfl, rfl, rfl, rfl, rfl⟩ := e3
  exact ⟨⟨v0, v1, v2, v3, v4, v5⟩, k91_mk W ⟨v0, v1, v2, v3, v4, v5⟩ l1 g1 l5 g5 l6 g6 l7 g7 l8 g8 l9 g9, q1.1, By_of q1.2, q3, q4.1, (fun y hy => ⟨(q4.2 y hy).1, By_of (q4.2 y hy).2⟩), q5.1, q5.2⟩
theorem openItems (n : Nat) : Opn enc Try.prog W 48 (Kd.slice 91 k91) WfItems n :=
  opn_slice 91 n Try.underlying48 (by kernel_rfl) (fun j _ => openItem j)
end
set_option maxRecDepth 100000 in
theorem lifted (os : Os) (started : os.Started) (H : Type) (enc : TypeId × Value → H) :
    ReturnsInHanded {} Try.checked os 7 .any (Rows.fnExactConfigOkSpec.pre6 enc Try.prog Try.f7 Rows.fnExactConfigOkRow.domain false) (Rows.fnExactConfigOkSpec.post enc Try.prog Try.f7 false true false false) := by
  refine returnsInHanded_of_change_sized (C := Try.checked) own started (by kernel_rfl) Try.func7
    (ChangeSpec.witness6 (enc := enc) (C := Try.checked) false ⟨#[], #[.slice none 0 0], []⟩ 8 (by kernel_rfl) (by kernel_rfl) (by kernel_rfl) (by kernel_rfl)) ?_
  intro W base args ds gs before hval0 hW hcnd hsz0 _
  have hval : ∀ (j : Nat) t v, Try.f7.params[j]? = some t → args[j]? = some v → Value.okWide Try.prog W .any base t v := hval0
  have hW' := hW
  obtain ⟨p, q, hA0, hV, rfl, hfz, hnd⟩ := hW
  have hA : DataW.TrodAll enc Try.prog W 0 (fun _ => true) true Try.f7.params.toList args.toList ds p := hA0
  rw [Try.params7] at hA hval
  obtain ⟨v0, vs0, d0, ds0, p0, q0, hargs, rfl, rfl, h0, r0⟩ := trodAll_cons hA
  obtain ⟨rfl, rfl, rfl⟩ := trodAll_nil r0
  obtain rfl : args = #[v0] := by cases args; simp_all
  obtain ⟨rfl, rfl⟩ := trodVars_none hV
  obtain ⟨a0, len0, cap0, rfl⟩ := okWide_slice Try.underlying48 (hval 0 48 v0 rfl rfl)
  have k0 := h0
  have lt0 : ∀ x ∈ p0, x.block < W.heap.size := by obtain ⟨m, hm⟩ := k0; exact DataW.trod_lt m _ _ _ hm
  obtain ⟨fu0, hf0⟩ := h0
  obtain ⟨z0, kk0, q0_⟩ := openItems fu0 _ _ hf0
  obtain ⟨k, h⟩ := Pure.FnExactConfigOk z0 q0_
  refine (laws_FnExactConfigOk.calls k z0 _ W ⟨kk0⟩ h).mono ?_
  rintro e W' ⟨rfl, bel⟩
  exact ⟨_, rfl, _, _, _, [], _, [], hW', trodAll_mk1 (shut_bool Try.underlying4 _), (trodAll_cons_mk (Below.trod laidOut (by kernel_rfl) (of_decide_eq_true (by kernel_rfl)) k0 bel lt0) trodAll_mk0), rfl, bel.frame _, fun h => by cases h⟩
theorem over : Rows.fnExactConfigOkRow.holds Try.pinned (OpenSpec.ofChange Rows.fnExactConfigOkSpec) :=
  OpenClaim.holds_of_wide 7 Try.f7 rfl rfl rfl rfl rfl rfl rfl ⟨rfl, rfl, rfl, rfl, rfl⟩ rfl rfl rfl rfl rfl (by kernel_rfl) Try.func7 (by kernel_rfl)
    (of_decide_eq_true (by kernel_rfl)) (by unfold Func.isWrapper; first | (rw [if_pos (by decide +kernel)]; kernel_rfl) | (rw [if_neg (by decide +kernel)]; exact ⟨rfl, rfl⟩))
    (fun os started H enc _ => lifted os started H enc)
theorem proved : Rows.FnExactConfigOkSaid := over
#print axioms proved
end Go.Proofs.Ytockllljeeakaaa.fnExactConfigOk
namespace Go.Proofs.Ytockllljeeakaaa
/-- The row, under a short name, for the claim. -/
theorem fnExactConfigOk_holds : Rows.FnExactConfigOkSaid := fnExactConfigOk.proved
end Go.Proofs.Ytockllljeeakaaa
