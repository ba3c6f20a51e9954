/- The row of this law, over its pure statement, its tables laid: for every input the call returns true, and each argument reads as it did. No condition. -/
import Derived.Test.YtenpjddjmhjdoaaDoorRows
import Derived.Test.YtenpjddjmhjdoaaDoorTie
import Derived.Test.YtenpjddjmhjdoaaDoorCards
import Derived.Test.YtenpjddjmhjdoaaDoorPFnExactValTextx11
import Derived.Test.YtenpjddjmhjdoaaDoorPureFnExactValText
import Derived.Test.YtenpjddjmhjdoaaDoorMopen
import Derived.SevenTiedAt
import Derived.Stop.LaidErr
import Derived.LaidSub
import Derived.FnData
import Derived.WalkKit
import Derived.ProofKit
import Derived.LaidLaws
import Derived.Handed
import Derived.Lib.LaidTab
import Derived.OpenShut
import Derived.ShutString
import Derived.ChangeOld
import Derived.Below
import Derived.SizedLaws
import Derived.ChangeSlices
import Derived.WideShapes
namespace Go.Proofs.YtenpjddjmhjdoaaDoor.fnExactValText
open Go.ChangeShapes Go.WideShapes Go.ChangeAt Go.RowKit
open Go.Proofs.YtenpjddjmhjdoaaDoor.PFnExactValText Go.Proofs.YtenpjddjmhjdoaaDoorW.PrintWords Go.Proofs.YtenpjddjmhjdoaaDoorW.PrintLast Go.Proofs.YtenpjddjmhjdoaaDoorW.PrintMore Go.Proofs.YtenpjddjmhjdoaaDoor.M Go.Proofs.YtenpjddjmhjdoaaDoor.Pure
set_option linter.unusedVariables false
theorem own : ownKnob Tryd.prog.godebug = none := by kernel_rfl
theorem laidOut : laidOutB Tryd.prog = true := by kernel_rfl
def IsRow (k : IntKind) (w : World) (a : Option Addr) (len cap : Nat) (zs : List Int) : Prop :=
  (a = none ∧ len = 0 ∧ cap = 0 ∧ zs = []) ∨
  ∃ x, a = some x ∧ len ≤ cap ∧ cap ≤ maxLen ∧ zs.length = cap ∧ (∀ i, i < zs.length → w.cell? (x.add i) = some (.int k (zs.getD i 0))) ∧ ∀ n ∈ zs, (Lit.int k n).wf = true
theorem rd_of {W : World} {a : Option Addr} {len cap : Nat} {zs : List Int} (h : IsRow .u8 W a len cap zs) : ∃ l, Rd (Kd.slice 5 (Kd.int .u8)) W l [.slice a len cap] ∧ l.length ≤ maxLen ∧ By l := by
  rcases h with ⟨rfl, rfl, rfl, rfl⟩ | ⟨x, rfl, h1, h2, h3, h4, h5⟩
  · exact ⟨[], ⟨none, 0, rfl, Nat.le_refl _, rfl, by simp, fun h => by simp at h⟩, by simp, fun y hy => by simp at hy⟩
  · have hl : (zs.take len).length = len := by rw [List.length_take]; omega
    have hb : By (zs.take len) := By_take _ (By_of h5)
    refine ⟨zs.take len, ⟨some x, cap, by rw [hl], by omega, ?_⟩, by omega, hb⟩
    refine ⟨rfl, by unfold maxLen at h2; omega, fun _ => ⟨x, rfl, fun j p hj => ⟨[.int .u8 p], rfl, rfl, fun i u hu => ?_⟩⟩⟩
    have hjl : j < len := by have := (List.getElem?_eq_some_iff.1 hj).1; omega
    have hi : i = 0 := by
      rcases i with _ | i
      · rfl
      · simp at hu
    subst hi
    obtain rfl : Value.int .u8 p = u := by simpa using hu
    have h6 := h4 j (by omega)
    rw [List.getElem?_take, if_pos hjl] at hj
    rw [List.getD_eq_getElem?_getD, hj] at h6
    show W.cell? (x.add (j * 1 + 0)) = _
    rw [Nat.mul_one, Nat.add_zero]
    exact h6
section
variable {H : Type} {enc : TypeId × Value → H} {W : World}
theorem openValue (n : Nat) : Opn enc Tryd.prog W 26 k26 WfV n := by
  induction n using Nat.strongRecOn with
  | ind n ih =>
  intro cs x h
  obtain ⟨m, rfl, hcl, hf⟩ := opn_fields Tryd.underlying26 (by kernel_rfl) (by kernel_rfl) h
  obtain ⟨c0, y0, e0, t0⟩ := hf 0 _ rfl
  obtain ⟨c1, y1, e1, t1⟩ := hf 1 _ rfl
  obtain ⟨c2, y2, e2, t2⟩ := hf 2 _ rfl
  obtain ⟨c3, y3, e3, t3⟩ := hf 3 _ rfl
  obtain ⟨c4, y4, e4, t4⟩ := hf 4 _ rfl
  obtain ⟨v0, k0, q0⟩ := opn_int m Tryd.underlying3 _ _ t0
  obtain ⟨v1, k1, q1⟩ := opn_int m Tryd.underlying3 _ _ t1
  obtain ⟨v2, k2, q2⟩ := opn_slice 5 m Tryd.underlying22 (d := Kd.int .u8) (by kernel_rfl) (fun j _ => opn_int j Tryd.underlying5) _ _ t2
  obtain ⟨v3, k3, q3⟩ := opn_slice 22 m Tryd.underlying23 (d := Kd.slice 5 (Kd.int .u8)) (by kernel_rfl) (fun j _ => opn_slice 5 j Tryd.underlying22 (d := Kd.int .u8) (by kernel_rfl) (fun i _ => opn_int i Tryd.underlying5)) _ _ t3
  obtain ⟨v4, k4, q4⟩ := opn_slice 26 m Tryd.underlying24 (d := k26) (by kernel_rfl) (fun j hj => ih j (by omega)) _ _ t4
  obtain ⟨A2, z2, he2, l2, g2⟩ := k2
  obtain ⟨A3, z3, he3, l3, g3⟩ := k3
  obtain ⟨A4, z4, he4, l4, g4⟩ := k4
  obtain rfl : c0 = .int .i64 v0 := List.head_eq_of_cons_eq k0
  obtain rfl : c1 = .int .i64 v1 := List.head_eq_of_cons_eq k1
  obtain rfl : c2 = .slice A2 v2.length z2 := List.head_eq_of_cons_eq he2
  obtain rfl : c3 = .slice A3 v3.length z3 := List.head_eq_of_cons_eq he3
  obtain rfl : c4 = .slice A4 v4.length z4 := List.head_eq_of_cons_eq he4
  obtain rfl := list5 hcl e0 e1 e2 e3 e4
  exact ⟨⟨v0, v1, v2, v3, v4⟩, k26_mk W ⟨v0, v1, v2, v3, v4⟩ l2 g2 l3 g3 l4 g4, .mk _ q0 q1 q2.1 (By_of q2.2) q3.1 (fun y hy => ⟨(q3.2 y hy).1, By_of (q3.2 y hy).2⟩) q4.1 q4.2⟩
end
/-- A table, as its cells. -/
def tabOf : DataW Unit → Array Value
  | .agg l => (l.map fun d => match d with | .lit (.int k x) => Value.int k x | _ => undef).toArray
  | _ => #[]
def errText : DataW Unit → List UInt8
  | .iface _ (.ptr (.agg [.lit (.string t)])) => t
  | _ => []
/-- The settled world, the tables laid. -/
noncomputable def laidWorld (os : Os) : World :=
  let w0 := World.holding Tryd.prog os ⟨#[], #[], []⟩
  let put (h : Array Obj) (g : Nat) (cs : Array Value) : Array Obj := h.modify g fun
    | .cells _ t frozen => .cells cs t frozen
    | o => o
  { w0 with heap := put (put (put (w0.heap) ((Tryd.prog.globalNamed "math/bits.deBruijn32tab").getD 0) (tabOf Rows.laid_math_bits_deBruijn32tab)) ((Tryd.prog.globalNamed "math/bits.deBruijn64tab").getD 0) (tabOf Rows.laid_math_bits_deBruijn64tab)) ((Tryd.prog.globalNamed "internal/strconv.uint64pow10").getD 0) (tabOf Rows.laid_internal_strconv_uint64pow10) }
theorem laid_met (os : Os) (args : Array Value) : laidMet Tryd.prog Rows.fnExactValTextRow.laid ((laidWorld os).forCall (fun _ _ => 0) ⟨#[], args, []⟩).memory :=
  laidMet_of_run' 8 (by kernel_rfl) (by kernel_rfl)
theorem tab {W : World} (h : laidMet Tryd.prog Rows.fnExactValTextRow.laid W) : Tb W := by
  obtain ⟨ps, ⟨_, _, _, _, _, _, _, _, _, _, ⟨_, _, _, _, _, _, _, _, _, _, ⟨g, t, cs, fuel, p, q, hg, ht, hvar, hd, _⟩, _⟩, _⟩, _⟩ := h
  obtain rfl := Option.some.inj ((show Tryd.prog.globalNamed "internal/strconv.uint64pow10" = some 1 from by kernel_rfl).symm.trans hg)
  obtain rfl := Option.some.inj ((show (Tryd.prog.globals[1]?).map (·.type) = some 126 from by kernel_rfl).symm.trans ht)
  refine ⟨?_⟩
  unfold Lib.TabIs
  rw [hvar, ← Lib.cells_of_tab Tryd.underlying126 Tryd.underlying116 (by kernel_rfl) (by kernel_rfl) (k := .u64) (zs := Lib.pow10Tab) hd]
set_option maxRecDepth 100000 in
theorem lifted (os : Os) (started : os.Started) (H : Type) (enc : TypeId × Value → H) :
    ReturnsInHanded {} Tryd.checked os 3 .any (fun w args => (Rows.fnExactValTextSpec.pre enc Tryd.prog Tryd.f3 Rows.fnExactValTextRow.domain false w args ∧ laidMet Tryd.prog Rows.fnExactValTextRow.laid w) ∧ sizedMet enc Tryd.prog Tryd.f3 (OpenSpec.ofChange Rows.fnExactValTextSpec) false w args) (Rows.fnExactValTextSpec.post enc Tryd.prog Tryd.f3 false true false false) := by
  refine returnsInHanded_of_change_and (C := Tryd.checked) (X := fun w _ => laidMet Tryd.prog Rows.fnExactValTextRow.laid w) (fun _ _ _ hh h => h.of_heap hh) own started (by kernel_rfl) Tryd.func3
    (ChangeSpec.witness_at (enc := enc) (C := Tryd.checked) (os := os) (X := fun w _ => laidMet Tryd.prog Rows.fnExactValTextRow.laid w) false (laidWorld os) #[.agg #[.int .i64 0, .int .i64 0, .slice none 0 0, .slice none 0 0, .slice none 0 0]] 8 rfl (by kernel_rfl) (by kernel_rfl) (by kernel_rfl) (by kernel_rfl) (by kernel_rfl) (laid_met os _)) ?_
  intro W base args ds gs before hval0 hW hcnd0 hsz0 hL _
  have hval : ∀ (j : Nat) t v, Tryd.f3.params[j]? = some t → args[j]? = some v → Value.okWide Tryd.prog W .any base t v := hval0
  have hW' := hW
  obtain ⟨p, q, hA0, hV, rfl, hfz, hnd⟩ := hW
  have hA : DataW.TrodAll enc Tryd.prog W 0 (fun _ => true) true Tryd.f3.params.toList args.toList ds p := hA0
  rw [Tryd.params3] at hA hval
  obtain ⟨v0, vs0, d0, ds0, p0, q0, hargs, rfl, rfl, h0, r0⟩ := trodAll_cons hA
  obtain ⟨rfl, rfl, rfl⟩ := trodAll_nil r0
  obtain rfl : args = #[v0] := by cases args; simp_all
  obtain ⟨rfl, rfl⟩ := trodVars_none hV
  obtain ⟨cs0, rfl, hsz0_⟩ := okWide_struct Tryd.underlying26 (hval 0 26 v0 rfl rfl)
  have k0 := h0
  have lt0 : ∀ x ∈ p0, x.block < W.heap.size := by obtain ⟨m, hm⟩ := k0; exact DataW.trod_lt m _ _ _ hm
  obtain ⟨fu0, hf0⟩ := h0
  obtain ⟨z0, kk0, q0_⟩ := openValue fu0 _ _ hf0
  clear hA0 hval0
  obtain ⟨k, h⟩ := Pure.FnExactValText z0 q0_
  refine (laws_FnExactValText.calls k z0 _ W ⟨kk0⟩ (tab hL) h).mono ?_
  rintro e W' ⟨rfl, bel⟩
  exact ⟨_, rfl, _, _, _, [], _, [], hW', trodAll_mk1 (shut_bool Tryd.underlying4 _), (trodAll_cons_mk (Below.trod laidOut (by kernel_rfl) (of_decide_eq_true (by kernel_rfl)) k0 bel lt0) trodAll_mk0), rfl, bel.frame _, fun h => by cases h⟩
theorem over : Rows.fnExactValTextRow.holds Tryd.pinned (OpenSpec.ofChange Rows.fnExactValTextSpec) :=
  OpenClaim.holds_of_wide 3 Tryd.f3 rfl rfl rfl rfl rfl rfl rfl ⟨rfl, rfl, rfl, rfl, rfl⟩ rfl rfl rfl rfl rfl (by kernel_rfl) Tryd.func3 (by kernel_rfl)
    (of_decide_eq_true (by kernel_rfl)) (by unfold Func.isWrapper; first | (rw [if_pos (by decide +kernel)]; kernel_rfl) | (rw [if_neg (by decide +kernel)]; exact ⟨rfl, rfl⟩))
    (fun os started H enc _ => lifted os started H enc)
theorem proved : Rows.FnExactValTextSaid := over
#print axioms proved
end Go.Proofs.YtenpjddjmhjdoaaDoor.fnExactValText
namespace Go.Proofs.YtenpjddjmhjdoaaDoor
/-- The row, under a short name, for the claim. -/
theorem fnExactValText_holds : Rows.FnExactValTextSaid := fnExactValText.proved
/-- The card: the tables tied to the text. -/
theorem fnExactValText_card : Rows.FnExactValTextCardSaid :=
  Claim7.holds_tied_plain_at .later [] [.data, .data, .data] true (true, "86a3a2efe7eef079c4319aae8bb6fa2d9baa9441aee879df5cced84f1f13c45f") false
    fnExactValText.proved (fun _ h => by cases h) (by kernel_rfl) (fun _ h => by cases h) fnExactValText_row_tie rfl ⟨rfl, rfl⟩ (by kernel_rfl) rfl
    (fun f fn hf hfn => by
      obtain rfl : f = 3 := Option.some.inj ((show Tryd.prog.funcNamed "loop.example/g00407/laws.FnExactValText" = some 3 by kernel_rfl).symm.trans hf) |>.symm
      obtain rfl : fn = Tryd.f3 := (Option.some.inj (Tryd.func3.symm.trans hfn)).symm
      exact ⟨by kernel_rfl, fun j t ht => by
        rw [Tryd.params3] at ht
        have hm : t ∈ [26] := by simpa using Array.mem_of_getElem? ht
        have hall : ([26].all fun u => !Tryd.prog.wantsStandIn u) = true := by kernel_rfl
        exact (show Tryd.prog.wantsStandIn t = false by simpa using List.all_eq_true.1 hall t hm)⟩)
    (by kernel_rfl)
#print axioms fnExactValText_card
end Go.Proofs.YtenpjddjmhjdoaaDoor
