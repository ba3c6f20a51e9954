/- What a function comes to, walked by hand. No condition. -/
import Derived.Test.YtockllljeeakaaaDoorPFnAddrsx0
import Derived.Test.YtockllljeeakaaaDoorPFnAddrsx1
import Derived.Test.YtockllljeeakaaaDoorPFnAddrsx6
import Derived.Test.YtockllljeeakaaaDoorPFnAddrsx7
import Derived.Test.YtockllljeeakaaaDoorMkx
import Derived.Test.YtockllljeeakaaaDoorMcore
namespace Go.Proofs.YtockllljeeakaaaDoor.PFnAddrs
open Go.RowKit Go.Proofs.YtockllljeeakaaaDoorW.PrintWords Go.Proofs.YtockllljeeakaaaDoorW.PrintLast Go.Proofs.YtockllljeeakaaaDoorW.PrintMore Go.Proofs.YtockllljeeakaaaDoor.M
attribute [local go_sem] max2_int min2_int max_two min_two max_three min_three max_four min_four Go.Proofs.YtockllljeeakaaaDoor.M.str_gtr Go.Proofs.YtockllljeeakaaaDoor.M.str_leq Go.Proofs.YtockllljeeakaaaDoor.M.str_geq   -- for this text's walks alone
set_option linter.unusedVariables false
set_option linter.unusedSimpArgs false
-- KC impl_AddrOk {"params":[["slice","(Kd.int .u8)",5,"List Int"]],"res":["bool"],"hasK":true,"fn":10,"f":"impl_AddrOk.g","tab":true}
/-- What stands ahead of the first '[', and the rest. -/
def laOf (l : List Int) : List Int := l.takeWhile fun x => decide (x ≠ 91)
def lbOf (l : List Int) : List Int := l.dropWhile fun x => decide (x ≠ 91)
theorem la_lb (l : List Int) : laOf l ++ lbOf l = l := List.takeWhile_append_dropWhile
theorem la_no (l : List Int) (i : Nat) (h : i < (laOf l).length) : (laOf l).getD i 0 ≠ 91 := by
  rw [List.getD_eq_getElem?_getD, List.getElem?_eq_getElem h]
  have hm : (laOf l)[i] ∈ laOf l := List.getElem_mem h
  have h2 : (laOf l).all (fun x => decide (x ≠ 91)) = true := List.all_takeWhile
  have := List.all_eq_true.1 h2 _ hm
  simpa using this
theorem lb_first (l : List Int) (h : 0 < (lbOf l).length) : (lbOf l).getD 0 0 = 91 := by
  have hne : lbOf l ≠ [] := fun e => by rw [e] at h; simp at h
  have h1 := List.head_dropWhile_not (fun x => decide (x ≠ 91)) hne
  obtain ⟨a, t, e⟩ := List.exists_cons_of_ne_nil hne
  have e2 : l.dropWhile (fun x => decide (x ≠ 91)) = a :: t := e
  simp only [e2, List.head_cons] at h1
  rw [e]
  simpa using h1
/-- Bytes of a size that is held. -/
def okB (l : List Int) : Bool := decide (l.length ≤ 1048576) && l.all fun x => decide (0 ≤ x ∧ x ≤ 255)
theorem okB_of {l : List Int} (h : okB l = true) : l.length ≤ 1048576 ∧ By l := by
  unfold okB at h
  rw [Bool.and_eq_true] at h
  exact ⟨of_decide_eq_true h.1, fun x hx => by have := List.all_eq_true.1 h.2 x hx; exact of_decide_eq_true this⟩
theorem frZ2 : Fr Tryd.prog 35 := ⟨_, Tryd.func35, by kernel_rfl, rfl⟩
theorem yesO {α : Type} {c : Prop} [Decidable c] {x : Option α} {y : α} (h : (if c then x else none) = some y) : c ∧ x = some y := yesN h
/-- Whether bytes are a number of a place: its own text. -/
def numOk (l : List Int) : Bool := match Lib.atoiAll (strOfNums l).data.toList with
  | .ok v => decide (0 ≤ v ∧ v ≤ 99) && (Lib.decDigits v.toNat == (strOfNums l).toList)
  | _ => false
def isAddr_g (k : Nat) (l : List Int) : Option Bool := if posB l < 0 then impl_isName.f k l else (impl_isName.f k (l.take (posB l).toNat)).bind fun t => if t = true then
    (if ((cutP (cutS (l.drop ((posB l).toNat + 1)) 93).1 34).2 || (cutS (cutP (cutS (l.drop ((posB l).toNat + 1)) 93).1 34).1 34).2) = true then
      (if ((cutS (l.drop ((posB l).toNat + 1)) 93).2 && (cutP (cutS (l.drop ((posB l).toNat + 1)) 93).1 34).2 && (cutS (cutP (cutS (l.drop ((posB l).toNat + 1)) 93).1 34).1 34).2) = true then impl_isName.f k (cutS (cutP (cutS (l.drop ((posB l).toNat + 1)) 93).1 34).1 34).1 else some false)
     else some ((cutS (l.drop ((posB l).toNat + 1)) 93).2 && numOk (cutS (l.drop ((posB l).toNat + 1)) 93).1)) else some false
def impl_AddrOk.g (k : Nat) (l : List Int) : Option Bool := if okB l = true then isAddr_g k l else none
theorem isAddr_w (k : Nat) (A : Option Addr) (c : Nat) (l : List Int) (r : Bool) (w : World) (hn : l.length ≤ 1048576) (hc : l.length ≤ c) (h : (Kd.int .u8).C w A l.length l) (hb : By l) (TB : Tb w) (hf : isAddr_g k l = some r) :
    Calls Tryd.prog 35 #[.slice A l.length c] w fun e w' => e = .returned (.bool r) ∧ Below w.heap.size w w' := by
  unfold isAddr_g at hf
  obtain ⟨hp1, hp2⟩ := posB_ge l
  by_cases hp : posB l < 0
  · rw [if_pos hp] at hf
    exact isAddr_no k A c l r w hn hc h hb hp hf
  · rw [if_neg hp] at hf
    obtain ⟨j, hj⟩ : ∃ j : Nat, posB l = j := ⟨(posB l).toNat, by omega⟩
    rw [hj, Int.toNat_natCast] at hf
    have hjl : j < l.length := by omega
    obtain ⟨t, ht, hf⟩ := bnd hf
    cases t with
    | false =>
      rw [if_neg (by decide)] at hf
      obtain rfl := Option.some.inj hf
      exact isAddr_bad k A c l j w hn hc h hb hj hjl _ _ rfl rfl ht
    | true =>
      rw [if_pos rfl] at hf
      obtain ⟨lb, elb⟩ : ∃ lb, l.drop (j + 1) = lb := ⟨_, rfl⟩
      rw [elb] at hf
      rcases hi : cutS lb 93 with ⟨i1, ib⟩
      rw [hi] at hf
      dsimp only at hf
      rcases hpp : cutP i1 34 with ⟨p1, pb⟩
      rw [hpp] at hf
      dsimp only at hf
      rcases hs : cutS p1 34 with ⟨s1, sb⟩
      rw [hs] at hf
      dsimp only at hf
      by_cases ho : (pb || sb) = true
      · rw [if_pos ho] at hf
        exact isAddr_key k A c l j w hn hc h hb hj hjl _ lb rfl elb ht i1 p1 s1 ib pb sb hi hpp hs ho r hf
      · rw [if_neg ho] at hf
        obtain rfl := Option.some.inj hf
        have hpb : pb = false := by cases pb <;> simp_all
        have hsb : sb = false := by cases sb <;> simp_all
        subst hpb
        subst hsb
        cases ib with
        | false => exact isAddr_end k A c l j w hn hc h hb hj hjl _ lb rfl elb ht i1 p1 s1 hi hpp hs TB
        | true =>
          rw [Bool.true_and]
          unfold numOk
          rcases hv : Lib.atoiAll (strOfNums i1).data.toList with v | _ | _
          ·
            dsimp only
            cases dv : decide (0 ≤ v ∧ v ≤ 99) with
            | false =>
              rw [Bool.false_and]
              exact isAddr_out k A c l j w hn hc h hb hj hjl _ lb rfl elb ht i1 p1 s1 hi hpp hs TB v hv dv
            | true =>
              have hv9 := of_decide_eq_true dv
              rw [Bool.true_and]
              exact isAddr_yes k A c l j w hn hc h hb hj hjl _ lb rfl elb ht i1 p1 s1 hi hpp hs TB v hv v.toNat (by omega) (by omega) _ rfl
          · exact isAddr_err k A c l j w hn hc h hb hj hjl _ lb rfl elb ht i1 p1 s1 hi hpp hs TB (fun v q => by rw [hv] at q; cases q)
          · exact isAddr_err k A c l j w hn hc h hb hj hjl _ lb rfl elb ht i1 p1 s1 hi hpp hs TB (fun v q => by rw [hv] at q; cases q)
set_option maxRecDepth 100000 in
set_option maxHeartbeats 2000000 in
theorem impl_AddrOk.kc (k : Nat) (l0 : List Int) (v0 : Value) (r : Bool) (w : World) (h0 : Rd (Kd.slice 5 (Kd.int .u8)) w l0 [v0]) (TB : Tb w) (h : impl_AddrOk.g k l0 = some r) :
    Calls Tryd.prog 10 #[v0] w fun e w' => e = .returned (.bool r) ∧ Below w.heap.size w w' := by
  obtain ⟨A, c, e1, lc, g⟩ := h0.k
  injection e1 with e1
  subst e1
  obtain ⟨hok, hs⟩ := yesO h
  obtain ⟨hn, hby⟩ := okB_of hok
  have HSP := Aside0.mk (isAddr_w k A c l0 r w hn lc g hby TB hs)
  clear hs h h0 hok hby g TB
  go_enter Tryd.func10, Tryd.ntmps10
  go_wp2_with (first
    | ((with_reducible refine gate_dst (N := 4) rfl ?_); refine gg (some 4) rfl rfl rfl frZ2 ?_; refine onc HSP.out rfl ?_; rintro e w1 ⟨rfl, hb⟩; refine ⟨_, rfl, ?_⟩; have HB := Aside0.mk hb; clear hb; simp only [Act.put, List.setIfInBounds_toArray, List.set_cons_zero, List.set_cons_succ]))
  go_ret
  exact ⟨rfl, HB.out⟩
end Go.Proofs.YtockllljeeakaaaDoor.PFnAddrs
