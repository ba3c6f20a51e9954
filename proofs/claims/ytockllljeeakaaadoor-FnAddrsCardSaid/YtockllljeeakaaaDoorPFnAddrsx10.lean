/- What a function comes to, walked by hand. No condition. -/
import Derived.Test.YtockllljeeakaaaDoorPFnAddrsx0
import Derived.Test.YtockllljeeakaaaDoorPFnAddrsx4
import Derived.Test.YtockllljeeakaaaDoorPFnAddrsx5
import Derived.Test.YtockllljeeakaaaDoorMkx
import Derived.Test.YtockllljeeakaaaDoorMcore
import Derived.Lib.ConvBytes
import Derived.Test.YtockllljeeakaaaDoorPureFnAddrs
namespace Go.Proofs.YtockllljeeakaaaDoor.PFnAddrs
open Go.RowKit Go.Proofs.YtockllljeeakaaaDoorW.PrintWords Go.Proofs.YtockllljeeakaaaDoorW.PrintLast Go.Proofs.YtockllljeeakaaaDoorW.PrintMore Go.Proofs.YtockllljeeakaaaDoor.M
attribute [local go_sem] max2_int min2_int max_two min_two max_three min_three max_four min_four Go.Proofs.YtockllljeeakaaaDoor.M.str_gtr Go.Proofs.YtockllljeeakaaaDoor.M.str_leq Go.Proofs.YtockllljeeakaaaDoor.M.str_geq   -- for this text's walks alone
set_option linter.unusedVariables false
set_option linter.unusedSimpArgs false
open Go.Proofs.YtockllljeeakaaaDoor.Pure
/-- Bytes that a string was turned into: they lie in block b. -/
structure Sb (w : World) (b : Nat) (r : List Int) (v : Value) : Prop where
  h : ∃ (c : Nat) (cs : Array Value) (fz : Nat × Nat), v = .slice (some ⟨b, 0, none⟩) r.length c ∧ r.length ≤ c ∧ r.length ≤ 9223372036854775807 ∧ w.heap[b]? = some (.cells cs 5 fz) ∧ ∀ (j : Nat) (x : Int), r[j]? = some x → cs[j]? = some (.int .u8 x)
theorem Sb.lt {w : World} {b : Nat} {r : List Int} {v : Value} (h : Sb w b r v) : b < w.heap.size := by
  obtain ⟨c, cs, fz, _, _, _, hb, _⟩ := h.h
  exact blk_lt hb
theorem Sb.keep {w w' : World} {b g : Nat} {r : List Int} {v : Value} (h : Sb w b r v) (hk : KeepBut w w' g none) (hg : b ≠ g) : Sb w' b r v := by
  obtain ⟨c, cs, fz, h1, h2, h3, hb, h4⟩ := h.h
  exact ⟨c, cs, fz, h1, h2, h3, hk.blk hb hg (by simp), h4⟩
theorem Sb.b {w w' : World} {b : Nat} {r : List Int} {v : Value} (h : Sb w b r v) (hb : Below w.heap.size w w') : Sb w' b r v := by
  obtain ⟨c, cs, fz, h1, h2, h3, hk, h4⟩ := h.h
  exact ⟨c, cs, fz, h1, h2, h3, (hb.block b (blk_lt hk)).trans hk, h4⟩
theorem Sb.open_ {w : World} {b : Nat} {r : List Int} {v : Value} (h : Sb w b r v) : ∃ c, v = .slice (some ⟨b, 0, none⟩) r.length c ∧ r.length ≤ c ∧ (Kd.int .u8).C w (some ⟨b, 0, none⟩) r.length r := by
  obtain ⟨c, cs, fz, h1, h2, h3, hb, h4⟩ := h.h
  refine ⟨c, h1, h2, rfl, h3, fun _ => ⟨_, rfl, fun j p hj => ⟨[.int .u8 p], rfl, rfl, fun i u hu => ?_⟩⟩⟩
  have hi : i = 0 := by
    rcases i with _ | i
    · rfl
    · simp at hu
  subst hi
  obtain rfl : Value.int .u8 p = u := by simpa using hu
  have h6 := cell_of_row w b (j * 1 + 0) cs 5 fz hb
  rw [Nat.mul_one, Nat.add_zero] at h6
  have h7 : (⟨b, 0, none⟩ : Addr).add (j * (Kd.int .u8).sz + 0) = ⟨b, j, none⟩ := by
    rw [show (Kd.int .u8).sz = 1 from rfl, Nat.mul_one, Nat.add_zero]
    first | (simp [Addr.add]; done) | (simp [Addr.add]; omega)
  rw [h7]
  exact h6.trans (h4 j p hj)
theorem Sb.rd {w : World} {b : Nat} {r : List Int} {v : Value} (h : Sb w b r v) : Rd (Kd.slice 5 (Kd.int .u8)) w r [v] := by
  obtain ⟨c, rfl, h2, h3⟩ := h.open_
  exact ⟨⟨_, _, rfl, h2, h3⟩⟩
theorem Sb.cast {w : World} {b : Nat} {r r2 : List Int} {v : Value} (h : Sb w b r v) (e : r2 = r) : Sb w b r2 v := by subst e; exact h
theorem getD_in (l : List ByteArray) (n : Nat) (h : n < l.length) : l.getD n ⟨#[]⟩ ∈ l := by
  rw [List.getD_eq_getElem?_getD, List.getElem?_eq_getElem h]
  exact List.getElem_mem h
theorem bytesOf_By (s : ByteArray) : By (bytesOf s) := by
  intro x hx
  unfold bytesOf at hx
  obtain ⟨b, _, rfl⟩ := List.mem_map.1 hx
  have := b.toNat_lt
  omega
section
variable {P : Program} {ops : Array Oper} {Q : Exit → Act → World → Prop} {rest : List Oper} {oi : Oper} {a : Act} {w : World}
theorem new_Sb (s : ByteArray) (hz : s.size ≤ 9223372036854775807) : Sb (Lib.bytesWorld w 5 s) w.heap.size (bytesOf s) (.slice (some ⟨w.heap.size, 0, none⟩) s.size (grownCap w s.size 0 5)) ∧ Below w.heap.size w (Lib.bytesWorld w 5 s) := by
  have hl : (bytesOf s).length = s.size := by rw [bytesOf, List.length_map]; exact Array.length_toList
  have hc : s.size ≤ grownCap w s.size 0 5 := grownCap_ge _ _ _ _
  refine ⟨⟨_, _, _, by rw [hl], by rw [hl]; exact hc, by rw [hl]; exact hz, Lib.bytesWorld_at_new w 5 s, fun j x hj => ?_⟩, ?_⟩
  · have hjl : j < s.size := by rw [← hl]; exact (List.getElem?_eq_some_iff.1 hj).1
    unfold Lib.bytesCells
    rw [Array.getElem?_append_left (by rw [Array.size_map]; exact hjl), Array.getElem?_map]
    unfold bytesOf at hj
    rw [List.getElem?_map, Array.getElem?_toList] at hj
    obtain ⟨y, hy, rfl⟩ := Option.map_eq_some_iff.1 hj
    rw [hy]; rfl
  · have h1 : Below w.heap.size w (w.drew.alloc (.cells (Lib.bytesCells w 5 s) 5)) := below_alloc (below_drew1 (Below.refl _ _)) _
    refine ⟨h1.os, h1.tape, h1.output, ?_, fun k hk => Lib.bytesWorld_at_old w 5 s k hk⟩
    rw [Lib.bytesWorld_size]; omega
/-- A string's bytes, in a block of their own. -/
theorem csb {src dst p : Nat} {s : ByteArray} (N : Tmp) (hd : oi.dst = some N) (hg : oi.guard = none) (ho : oi.op = .convert src dst (.tmp p)) (hx : a.eval (.tmp p) = .string s) (hs : P.underlying src = some .string) (ht : P.underlying dst = some (.slice 5)) (he : P.underlying 5 = some (.int .u8)) (hz : s.size ≤ 9223372036854775807)
    (k : ∀ v w1, Sb w1 w.heap.size (bytesOf s) v → Below w.heap.size w w1 → wpList P ops Q rest (a.put (some N) v) w1) : wpList P ops Q (oi :: rest) a w := by
  obtain ⟨h1, h2⟩ := new_Sb (w := w) s hz
  refine wpList_plain hg fun K hK => ?_
  have hrun : (execOp a.eval oi).run P w = .ok (.value (.slice (some ⟨w.heap.size, 0, none⟩) s.size (grownCap w s.size 0 5))) (Lib.bytesWorld w 5 s) := by
    unfold execOp
    simp only [ho, hx, Sem.run_bind, Lib.run_convert_string_bytes w src dst 5 s hs ht he, Result.andThen_ok, Sem.run_pure]
  unfold Oper.wp
  rw [hrun, Oper.upon_value, hd]
  exact hK _ _ (k _ _ h1 h2)
end
theorem frQB : Fr Tryd.prog 51 := ⟨_, Tryd.func51, by kernel_rfl, rfl⟩
theorem frQO : Fr Tryd.prog 49 := ⟨_, Tryd.func49, by kernel_rfl, rfl⟩
theorem frQN : Fr Tryd.prog 42 := ⟨_, Tryd.func42, by kernel_rfl, rfl⟩
theorem frQD : Fr Tryd.prog 45 := ⟨_, Tryd.func45, by kernel_rfl, rfl⟩
theorem frQK : Fr Tryd.prog 43 := ⟨_, Tryd.func43, by kernel_rfl, rfl⟩
theorem frQP : Fr Tryd.prog 44 := ⟨_, Tryd.func44, by kernel_rfl, rfl⟩
theorem frQI : Fr Tryd.prog 77 := ⟨_, Tryd.func77, by kernel_rfl, rfl⟩
theorem frQY : Fr Tryd.prog 78 := ⟨_, Tryd.func78, by kernel_rfl, rfl⟩
theorem frQA : Fr Tryd.prog 50 := ⟨_, Tryd.func50, by kernel_rfl, rfl⟩
theorem frQE1 : Fr Tryd.prog 21 := ⟨_, Tryd.func21, by kernel_rfl, rfl⟩
theorem frQE2 : Fr Tryd.prog 22 := ⟨_, Tryd.func22, by kernel_rfl, rfl⟩
theorem frQE3 : Fr Tryd.prog 25 := ⟨_, Tryd.func25, by kernel_rfl, rfl⟩
theorem frQL1 : Fr Tryd.prog 23 := ⟨_, Tryd.func23, by kernel_rfl, rfl⟩
theorem frQL2 : Fr Tryd.prog 24 := ⟨_, Tryd.func24, by kernel_rfl, rfl⟩
theorem frQL3 : Fr Tryd.prog 10 := ⟨_, Tryd.func10, by kernel_rfl, rfl⟩
theorem frQL4 : Fr Tryd.prog 19 := ⟨_, Tryd.func19, by kernel_rfl, rfl⟩
theorem frQL5 : Fr Tryd.prog 26 := ⟨_, Tryd.func26, by kernel_rfl, rfl⟩
theorem frQL6 : Fr Tryd.prog 27 := ⟨_, Tryd.func27, by kernel_rfl, rfl⟩
def strs7 : List ByteArray := [⟨#[97]⟩, ⟨#[98]⟩, ⟨#[99]⟩, ⟨#[115, 105, 122, 101]⟩, ⟨#[122, 111, 110, 101]⟩, ⟨#[107, 105, 110, 100]⟩, ⟨#[116, 97, 103]⟩]
def strs6 : List ByteArray := [⟨#[]⟩, ⟨#[65]⟩, ⟨#[97, 49]⟩, ⟨#[101, 105, 103, 104, 116, 108, 101, 116]⟩, ⟨#[110, 105, 110, 101, 108, 101, 116, 101, 114]⟩, ⟨#[122]⟩]
def strs3 : List ByteArray := [⟨#[119, 101, 98]⟩, ⟨#[100, 98]⟩, ⟨#[110, 101, 116]⟩]
def strs12 : List ByteArray := [⟨#[]⟩, ⟨#[119, 101, 98, 91]⟩, ⟨#[119, 101, 98, 91, 48, 48, 93]⟩, ⟨#[119, 101, 98, 91, 49, 48, 93]⟩, ⟨#[119, 101, 98, 91, 34, 34, 93]⟩, ⟨#[119, 101, 98, 91, 34, 97, 34]⟩, ⟨#[87]⟩, ⟨#[119, 101, 98, 91, 49, 48, 48, 93]⟩, ⟨#[119, 101, 98, 91, 93]⟩, ⟨#[119, 101, 98, 91, 120, 93]⟩, ⟨#[119, 101, 98, 91, 34, 93]⟩, ⟨#[119, 101, 98, 91, 49, 93, 120]⟩]
theorem strs_len (s : ByteArray) (h : s ∈ strs7 ∨ s ∈ strs6 ∨ s ∈ strs3 ∨ s ∈ strs12) : (bytesOf s).length ≤ 20 := by
  have h1 : ∀ s ∈ strs7, (bytesOf s).length ≤ 20 := by decide +kernel
  have h2 : ∀ s ∈ strs6, (bytesOf s).length ≤ 20 := by decide +kernel
  have h3 : ∀ s ∈ strs3, (bytesOf s).length ≤ 20 := by decide +kernel
  have h4 : ∀ s ∈ strs12, (bytesOf s).length ≤ 20 := by decide +kernel
  rcases h with h | h | h | h
  · exact h1 s h
  · exact h2 s h
  · exact h3 s h
  · exact h4 s h
theorem strs7_name : ∀ s ∈ strs7, isName (bytesOf s) = true := by decide +kernel
set_option maxRecDepth 100000 in
set_option maxHeartbeats 8000000 in
theorem drawName_w (l : List Int) (i h : Int) (hl : l.length ≤ 4611686018427387903) (hi : 0 ≤ i) : ∃ (r : List Int) (i' h' : Int), isName r = true ∧ 0 ≤ i' ∧ ∀ (g : Nat) (w0 w : World), IsS89 w0 w g l i h → Below w0.heap.size w0 w → Calls Tryd.prog 45 #[.pointer (some ⟨g, 0, none⟩)] w fun e w' => ∃ v b, e = .returned v ∧ Sb w' b r v ∧ w.heap.size ≤ b ∧ IsS89 w0 w' g l i' h' ∧ Below w0.heap.size w0 w' ∧ KeepBut w w' g none := by
  obtain ⟨x, i', h', e, x0, x1, hi'⟩ := l1Below_ok l i h 7 hl hi
  have x7 : x = 0 ∨ x = 1 ∨ x = 2 ∨ x = 3 ∨ x = 4 ∨ x = 5 ∨ x = 6 := by omega
  refine ⟨bytesOf (strs7.getD x.toNat ⟨#[]⟩), i', h', strs7_name _ (getD_in _ _ (by have : strs7.length = 7 := rfl; omega)), hi', fun g w0 w hI hB => ?_⟩
  have E := Aside0.mk e
  have HI := Aside0.mk hI
  have HB := Aside0.mk hB
  have HK := Aside0.mk (KeepBut.refl w g none)
  have NG := Aside0.mk (show w.heap.size ≠ g from Nat.ne_of_gt hI.lt)
  clear e hI hB x0 x1
  rcases x7 with rfl | rfl | rfl | rfl | rfl | rfl | rfl
  all_goals
    go_enter Tryd.func45, Tryd.ntmps45
    go_wp2_with (first
      | ((with_reducible refine gate_dst (N := 5) rfl ?_); refine gg (some 5) rfl rfl rfl frQB ?_; refine onc (spec_l1Below.calls g l _ _ 7 _ _ _ w0 _ (IsS89.alloc HI.out _) (below_alloc HB.out _) E.out) rfl ?_; rintro e w1 ⟨rfl, hi, hb, hk⟩; refine ⟨_, rfl, ?_⟩; have hcl := hk.blk (heap_alloc_new _ _) NG.out (by simp); have hc0 := fun z => blk_cell hcl z; have hc1 := Aside0.mk hc0; have HI := Aside0.mk hi; have HB := Aside0.mk hb; have HK := Aside0.mk (KeepBut.trans (keep_alloc HK.out _) hk (.inl rfl)); clear hi hb hk; simp only [Act.put, List.setIfInBounds_toArray, List.set_cons_zero, List.set_cons_succ])
      | ((with_reducible refine gate_dst (N := 8) rfl ?_); refine csb 8 rfl rfl rfl rfl Tryd.underlying9 Tryd.underlying22 Tryd.underlying5 (by decide) ?_; intro v w2 hs hb2; replace HI := Aside0.mk (HI.out.below hb2); replace HB := Aside0.mk (below_step HB.out hb2); have HL := Aside0.mk HK.out.1; replace HK := Aside0.mk (KeepBut.trans HK.out (KeepBut.of_below hb2 g none) (.inl rfl)); have SB := Aside0.mk hs; clear hs hb2; simp only [Act.put, List.setIfInBounds_toArray, List.set_cons_zero, List.set_cons_succ]))
    go_ret
    exact ⟨_, _, rfl, SB.out, HL.out, HI.out, HB.out, HK.out⟩
set_option maxRecDepth 100000 in
set_option maxHeartbeats 8000000 in
theorem drawNameOk_w (l : List Int) (hl : l.length ≤ 4611686018427387903) : ∃ r : List Int, r.length ≤ 20 ∧ By r ∧ ∀ (A : Option Addr) (c : Nat) (w : World), (Kd.int .u8).C w A l.length l → l.length ≤ c → Calls Tryd.prog 43 #[.slice A l.length c] w fun e w' => ∃ v b, e = .returned v ∧ Sb w' b r v ∧ w.heap.size ≤ b ∧ Below w.heap.size w w' := by
  obtain ⟨h0, e0⟩ := l1New_ev l hl
  obtain ⟨k, ek⟩ := Ev.rounds e0
  obtain ⟨o, i1, h1, e1, c1⟩ := l1Once_ok l 0 h0 3 hl (Int.le_refl _)
  have EK := Aside0.mk ek
  have E1 := Aside0.mk e1
  clear e0 ek e1
  cases o with
  | true =>
    obtain ⟨r, i2, h2, hn, _, d⟩ := drawName_w l i1 h1 hl c1
    refine ⟨r, by have := (isName_facts hn).2.1; omega, name_By hn, fun A c w hr hc => ?_⟩
    have D := Aside0.mk d
    clear d
    have HR := Aside0.mk hr
    have HC := Aside0.mk hc
    have HB := Aside0.mk (Below.refl w.heap.size w)
    clear hr hc
    go_enter Tryd.func43, Tryd.ntmps43
    go_wp2_with (first
      | ((with_reducible refine gate_dst (N := 5) rfl ?_); refine gg (some 5) rfl rfl rfl frQN ?_; refine onc (spec_l1New.calls k A c l _ _ _ w _ HB.out HR.out HC.out EK.out) rfl ?_; rintro e w1 ⟨G, rfl, hi, hb, hb2⟩; refine ⟨_, rfl, ?_⟩; have HI := Aside0.mk hi; replace HB := Aside0.mk hb; clear hi hb hb2; simp only [Act.put, List.setIfInBounds_toArray, List.set_cons_zero, List.set_cons_succ])
      | ((with_reducible refine gate_dst (N := 7) rfl ?_); refine gg (some 7) rfl rfl rfl frQO ?_; refine onc (spec_l1Once.calls G l _ _ 3 _ _ _ w _ HI.out HB.out E1.out) rfl ?_; rintro e w1 ⟨rfl, hi, hb, hk⟩; refine ⟨_, rfl, ?_⟩; replace HI := Aside0.mk hi; replace HB := Aside0.mk hb; clear hi hb hk; simp only [Act.put, List.setIfInBounds_toArray, List.set_cons_zero, List.set_cons_succ])
      | ((with_reducible refine gate_dst (N := 9) rfl ?_); refine gg (some 9) rfl rfl rfl frQD ?_; refine onc (D.out G w _ HI.out HB.out) rfl ?_; rintro e w1 ⟨v3, b3, rfl, hs, hle, hi, hb, hk⟩; refine ⟨_, rfl, ?_⟩; have HL := Aside0.mk (Nat.le_trans HB.out.size hle); have N3 := Aside0.mk (Nat.ne_of_gt (Nat.lt_of_lt_of_le HI.out.lt hle)); replace HI := Aside0.mk hi; replace HB := Aside0.mk hb; have S3 := Aside0.mk hs; clear hs hle hi hb hk; simp only [Act.put, List.setIfInBounds_toArray, List.set_cons_zero, List.set_cons_succ]))
    go_ret
    exact ⟨_, _, rfl, S3.out, HL.out, HB.out⟩
  | false =>
    obtain ⟨x, i', h', e, x0, x1, hi'⟩ := l1Below_ok l i1 h1 6 hl c1
    have x6 : x = 0 ∨ x = 1 ∨ x = 2 ∨ x = 3 ∨ x = 4 ∨ x = 5 := by omega
    obtain ⟨s, hs⟩ : ∃ s, s = strs6.getD x.toNat ⟨#[]⟩ := ⟨_, rfl⟩
    have hm : s ∈ strs6 := by rw [hs]; exact getD_in _ _ (by have : strs6.length = 6 := rfl; omega)
    refine ⟨bytesOf s, strs_len s (.inr (.inl hm)), bytesOf_By s, fun A c w hr hc => ?_⟩
    have E := Aside0.mk e
    obtain ⟨r, hr0⟩ : ∃ r, r = bytesOf s := ⟨_, rfl⟩
    rw [hs] at hr0
    rw [show bytesOf s = r by rw [hr0, hs]]
    clear e x0 x1 hm hs
    have HR := Aside0.mk hr
    have HC := Aside0.mk hc
    have HB := Aside0.mk (Below.refl w.heap.size w)
    clear hr hc
    rcases x6 with rfl | rfl | rfl | rfl | rfl | rfl
    all_goals
      have HR0 := Aside0.mk hr0
      clear hr0
      go_enter Tryd.func43, Tryd.ntmps43
      go_wp2_with (first
        | ((with_reducible refine gate_dst (N := 5) rfl ?_); refine gg (some 5) rfl rfl rfl frQN ?_; refine onc (spec_l1New.calls k A c l _ _ _ w _ HB.out HR.out HC.out EK.out) rfl ?_; rintro e w1 ⟨G, rfl, hi, hb, hb2⟩; refine ⟨_, rfl, ?_⟩; have HI := Aside0.mk hi; replace HB := Aside0.mk hb; clear hi hb hb2; simp only [Act.put, List.setIfInBounds_toArray, List.set_cons_zero, List.set_cons_succ])
        | ((with_reducible refine gate_dst (N := 7) rfl ?_); refine gg (some 7) rfl rfl rfl frQO ?_; refine onc (spec_l1Once.calls G l _ _ 3 _ _ _ w _ HI.out HB.out E1.out) rfl ?_; rintro e w1 ⟨rfl, hi, hb, hk⟩; refine ⟨_, rfl, ?_⟩; replace HI := Aside0.mk hi; replace HB := Aside0.mk hb; clear hi hb hk; simp only [Act.put, List.setIfInBounds_toArray, List.set_cons_zero, List.set_cons_succ])
        | ((with_reducible refine gate_dst (N := 12) rfl ?_); refine gg (some 12) rfl rfl rfl frQB ?_; refine onc (spec_l1Below.calls G l _ _ 6 _ _ _ w _ (IsS89.alloc HI.out _) (below_alloc HB.out _) E.out) rfl ?_; rintro e w1 ⟨rfl, hi, hb, hk⟩; refine ⟨_, rfl, ?_⟩; have hcl := hk.blk (heap_alloc_new _ _) (Nat.ne_of_gt HI.out.lt) (by simp); have hc0 := fun z => blk_cell hcl z; replace HI := Aside0.mk hi; replace HB := Aside0.mk hb; clear hi hb hk; simp only [Act.put, List.setIfInBounds_toArray, List.set_cons_zero, List.set_cons_succ])
        | ((with_reducible refine gate_dst (N := 15) rfl ?_); refine csb 15 rfl rfl rfl rfl Tryd.underlying9 Tryd.underlying22 Tryd.underlying5 (by decide) ?_; intro v w2 hs hb2; replace hs := hs.cast HR0.out; obtain ⟨cv, rfl, lcv, _⟩ := hs.open_; have NB := Aside0.mk (Nat.ne_of_gt HI.out.lt); have HL := Aside0.mk HB.out.size; replace HI := Aside0.mk (HI.out.below hb2); replace HB := Aside0.mk (below_step HB.out hb2); have SB := Aside0.mk hs; have LCV := Aside0.mk lcv; clear hs hb2 lcv; simp only [Act.put, List.setIfInBounds_toArray, List.set_cons_zero, List.set_cons_succ]))
      go_ret
      exact ⟨_, _, rfl, SB.out, HL.out, HB.out⟩
theorem C_new (w : World) (k : IntKind) (xs : List Int) (t : TypeId) (h : xs.length ≤ 9223372036854775807) : (Kd.int k).C (w.alloc (.cells (xs.map (Value.int k)).toArray t)) (some ⟨w.heap.size, 0, none⟩) xs.length xs := by
  refine ⟨rfl, h, fun _ => ⟨_, rfl, fun j p hj => ⟨[.int k p], rfl, rfl, fun i u hu => ?_⟩⟩⟩
  have hi : i = 0 := by
    rcases i with _ | i
    · rfl
    · simp at hu
  subst hi
  obtain rfl : Value.int k p = u := by simpa using hu
  have h6 := blk_cell (blk_new w (.cells (xs.map (Value.int k)).toArray t)) j
  have h7 : (⟨w.heap.size, 0, none⟩ : Addr).add (j * (Kd.int k).sz + 0) = ⟨w.heap.size, j, none⟩ := by
    rw [show (Kd.int k).sz = 1 from rfl, Nat.mul_one, Nat.add_zero]
    first | (simp [Addr.add]; done) | (simp [Addr.add]; omega)
  rw [h7]
  refine h6.trans ?_
  rw [List.getElem?_toArray, List.getElem?_map, hj]; rfl
set_option maxRecDepth 100000 in
set_option maxHeartbeats 8000000 in
theorem drawItem_w (l : List Int) (hl : l.length ≤ 4611686018427387903) : ∃ (r : List Int) (y : Int), r.length ≤ 20 ∧ By r ∧ -9223372036854775808 ≤ y ∧ y ≤ 9223372036854775807 ∧ ∀ (A : Option Addr) (c : Nat) (w : World), (Kd.int .u8).C w A l.length l → l.length ≤ c → Calls Tryd.prog 21 #[.slice A l.length c] w fun e w' => ∃ v b, e = .returned (.tuple #[v, .int .i64 y]) ∧ Sb w' b r v ∧ Below w.heap.size w w' := by
  obtain ⟨h0, e0⟩ := l1New_ev l hl
  obtain ⟨k, ek⟩ := Ev.rounds e0
  obtain ⟨r, rl, rb, d⟩ := drawNameOk_w l hl
  obtain ⟨y, i1, h1, e1, hy, c1⟩ := l1PickInt_ok l 0 h0 [0, 1, 9, 10, 99, 100, -1] hl (Int.le_refl _) (by simp)
  refine ⟨r, y, rl, rb, by simp only [List.mem_cons, List.not_mem_nil, or_false] at hy; omega, by simp only [List.mem_cons, List.not_mem_nil, or_false] at hy; omega, fun A c w hr hc => ?_⟩
  have EK := Aside0.mk ek
  have E1 := Aside0.mk e1
  have D := Aside0.mk d
  clear e0 ek e1 d hy
  have HR := Aside0.mk hr
  have HC := Aside0.mk hc
  have HB := Aside0.mk (Below.refl w.heap.size w)
  clear hr hc
  go_enter Tryd.func21, Tryd.ntmps21
  go_wp2_with (first
    | ((with_reducible refine gate_dst (N := 6) rfl ?_); refine gg (some 6) rfl rfl rfl frQN ?_; refine onc (spec_l1New.calls k A c l _ _ _ w _ HB.out HR.out HC.out EK.out) rfl ?_; rintro e w1 ⟨G, rfl, hi, hb, hb2⟩; refine ⟨_, rfl, ?_⟩; have HI := Aside0.mk hi; replace HB := Aside0.mk hb; clear hi hb hb2; simp only [Act.put, List.setIfInBounds_toArray, List.set_cons_zero, List.set_cons_succ])
    | ((with_reducible refine gate_dst (N := 8) rfl ?_); refine gg (some 8) rfl rfl rfl frQK ?_; refine onc (D.out A c _ (Kd.C_below HR.out HB.out) HC.out) rfl ?_; rintro e w1 ⟨v3, b3, rfl, hs, hle, hb⟩; refine ⟨_, rfl, ?_⟩; have N3 := Aside0.mk (Nat.ne_of_gt (Nat.lt_of_lt_of_le HI.out.lt hle)); replace HI := Aside0.mk (HI.out.below hb); replace HB := Aside0.mk (below_step HB.out hb); have S3 := Aside0.mk hs; clear hs hle hb; simp only [Act.put, List.setIfInBounds_toArray, List.set_cons_zero, List.set_cons_succ])
    | ((with_reducible refine gate_dst (N := 11) rfl ?_); refine gg (some 11) rfl rfl rfl frQP ?_; refine onc (spec_l1PickInt.calls G l _ _ _ _ [0, 1, 9, 10, 99, 100, -1] _ _ _ w _ (IsS89.alloc HI.out _) (below_alloc HB.out _) (C_new _ .i64 [0, 1, 9, 10, 99, 100, -1] _ (by decide)) (by decide) (fun ad e9 _ => by cases e9; exact Nat.ne_of_gt HI.out.lt) E1.out) rfl ?_; rintro e w1 ⟨rfl, hi, hb, hk⟩; refine ⟨_, rfl, ?_⟩; replace S3 := Aside0.mk ((S3.out.b (below_alloc (Below.refl _ _) _)).keep hk N3.out); replace HI := Aside0.mk hi; replace HB := Aside0.mk hb; clear hi hb hk; simp only [Act.put, List.setIfInBounds_toArray, List.set_cons_zero, List.set_cons_succ]))
  go_ret2
  exact ⟨_, _, rfl, S3.out, HB.out⟩
set_option maxRecDepth 100000 in
set_option maxHeartbeats 8000000 in
theorem drawKey_w (l : List Int) (hl : l.length ≤ 4611686018427387903) : ∃ (n key : List Int), isName n = true ∧ key.length ≤ 20 ∧ By key ∧ ∀ (A : Option Addr) (c : Nat) (w : World), (Kd.int .u8).C w A l.length l → l.length ≤ c → Calls Tryd.prog 22 #[.slice A l.length c] w fun e w' => ∃ v b v2 b2, e = .returned (.tuple #[v, v2]) ∧ Sb w' b n v ∧ Sb w' b2 key v2 ∧ Below w.heap.size w w' := by
  obtain ⟨h0, e0⟩ := l1New_ev l hl
  obtain ⟨k, ek⟩ := Ev.rounds e0
  obtain ⟨key, rl, rb, d2⟩ := drawNameOk_w l hl
  obtain ⟨n, i2, h2, hn, _, d⟩ := drawName_w l 0 h0 hl (Int.le_refl _)
  refine ⟨n, key, hn, rl, rb, fun A c w hr hc => ?_⟩
  have EK := Aside0.mk ek
  have D := Aside0.mk d
  have D2 := Aside0.mk d2
  clear e0 ek d d2
  have HR := Aside0.mk hr
  have HC := Aside0.mk hc
  have HB := Aside0.mk (Below.refl w.heap.size w)
  clear hr hc
  go_enter Tryd.func22, Tryd.ntmps22
  go_wp2_with (first
    | ((with_reducible refine gate_dst (N := 6) rfl ?_); refine gg (some 6) rfl rfl rfl frQN ?_; refine onc (spec_l1New.calls k A c l _ _ _ w _ HB.out HR.out HC.out EK.out) rfl ?_; rintro e w1 ⟨G, rfl, hi, hb, hb2⟩; refine ⟨_, rfl, ?_⟩; have HI := Aside0.mk hi; replace HB := Aside0.mk hb; clear hi hb hb2; simp only [Act.put, List.setIfInBounds_toArray, List.set_cons_zero, List.set_cons_succ])
    | ((with_reducible refine gate_dst (N := 8) rfl ?_); refine gg (some 8) rfl rfl rfl frQD ?_; refine onc (D.out G w _ HI.out HB.out) rfl ?_; rintro e w1 ⟨v3, b3, rfl, hs, hle, hi, hb, hk⟩; refine ⟨_, rfl, ?_⟩; have N3 := Aside0.mk (Nat.ne_of_gt (Nat.lt_of_lt_of_le HI.out.lt hle)); replace HI := Aside0.mk hi; replace HB := Aside0.mk hb; have S3 := Aside0.mk hs; clear hs hle hi hb hk; simp only [Act.put, List.setIfInBounds_toArray, List.set_cons_zero, List.set_cons_succ])
    | ((with_reducible refine gate_dst (N := 10) rfl ?_); refine gg (some 10) rfl rfl rfl frQK ?_; refine onc (D2.out A c _ (Kd.C_below HR.out HB.out) HC.out) rfl ?_; rintro e w1 ⟨v4, b4, rfl, hs, hle, hb⟩; refine ⟨_, rfl, ?_⟩; replace S3 := Aside0.mk (S3.out.b hb); replace HB := Aside0.mk (below_step HB.out hb); have S4 := Aside0.mk hs; clear hs hle hb; simp only [Act.put, List.setIfInBounds_toArray, List.set_cons_zero, List.set_cons_succ]))
  go_ret2
  exact ⟨_, _, _, _, rfl, S3.out, S4.out, HB.out⟩
set_option maxRecDepth 100000 in
set_option maxHeartbeats 8000000 in
theorem drawAddr_w (l : List Int) (i h : Int) (hl : l.length ≤ 4611686018427387903) (hi : 0 ≤ i) : ∃ r : List Int, r.length ≤ 100 ∧ By r ∧ ∀ (g : Nat) (w0 w : World), IsS89 w0 w g l i h → Below w0.heap.size w0 w → Calls Tryd.prog 50 #[.pointer (some ⟨g, 0, none⟩)] w fun e w' => ∃ v, e = .returned v ∧ Rd (Kd.slice 5 (Kd.int .u8)) w' r [v] ∧ Below w0.heap.size w0 w' := by
  obtain ⟨x, i1, h1, e1, x0, x1, c1⟩ := l1Below_ok l i h 3 hl hi
  have x3 : x = 0 ∨ x = 1 ∨ x = 2 := by omega
  obtain ⟨y, i2, h2, e2, y0, y1, c2⟩ := l1Below_ok l i1 h1 4 hl c1
  obtain ⟨s, hs⟩ : ∃ s, s = strs3.getD x.toNat ⟨#[]⟩ := ⟨_, rfl⟩
  have hm : s ∈ strs3 := by rw [hs]; exact getD_in _ _ (by have : strs3.length = 3 := rfl; omega)
  have hn : isName (bytesOf s) = true := (show ∀ s ∈ strs3, isName (bytesOf s) = true by decide +kernel) s hm
  obtain ⟨r, hr0⟩ : ∃ r, r = bytesOf s := ⟨_, rfl⟩
  rw [← hr0] at hn
  rw [hs] at hr0
  have E1 := Aside0.mk e1
  have E2 := Aside0.mk e2
  clear e1 e2 x0 x1 hm hs
  have y4 : y = 0 ∨ y = 1 ∨ y = 2 ∨ y = 3 := by omega
  rcases y4 with rfl | rfl | y4
  · obtain ⟨z, i3, h3, e3, z0, z1, c3⟩ := l1Below_ok l i2 h2 3 hl c2
    obtain ⟨k4, e4⟩ := Ev.rounds (l4item_ev r z (by have := (isName_facts hn).2.1; omega) z0 (by omega))
    obtain ⟨f1, f2, f3, f4, f5⟩ := item_facts hn (i := z) z0 (by omega)
    unfold itemL at f3 f4
    rw [if_pos ⟨hn, z0, by omega⟩] at f3 f4
    refine ⟨_, by omega, f3, fun g w0 w hI hB => ?_⟩
    have HI := Aside0.mk hI
    have HB := Aside0.mk hB
    have E3 := Aside0.mk e3
    have E4 := Aside0.mk e4
    clear hI hB e3 e4 z0 z1 f1 f2 f3 f4 f5 y0 y1 hn
    rcases x3 with rfl | rfl | rfl
    all_goals
      have HR0 := Aside0.mk hr0
      clear hr0
      go_enter Tryd.func50, Tryd.ntmps50
      go_wp2_with (first
        | ((with_reducible refine gate_dst (N := 6) rfl ?_); refine gg (some 6) rfl rfl rfl frQB ?_; refine onc (spec_l1Below.calls g l _ _ 3 _ _ _ w0 _ (IsS89.alloc HI.out _) (below_alloc HB.out _) E1.out) rfl ?_; rintro e w1 ⟨rfl, hi, hb, hk⟩; refine ⟨_, rfl, ?_⟩; have hcl := hk.blk (heap_alloc_new _ _) (Nat.ne_of_gt HI.out.lt) (by simp); have hc0 := fun z => blk_cell hcl z; replace HI := Aside0.mk hi; replace HB := Aside0.mk hb; clear hi hb hk; simp only [Act.put, List.setIfInBounds_toArray, List.set_cons_zero, List.set_cons_succ])
        | ((with_reducible refine gate_dst (N := 9) rfl ?_); refine csb 9 rfl rfl rfl rfl Tryd.underlying9 Tryd.underlying22 Tryd.underlying5 (by decide) ?_; intro v w2 hs hb2; replace hs := hs.cast HR0.out; obtain ⟨cv, rfl, lcv, _⟩ := hs.open_; have NB := Aside0.mk (Nat.ne_of_gt HI.out.lt); replace HI := Aside0.mk (HI.out.below hb2); replace HB := Aside0.mk (below_step HB.out hb2); have SB := Aside0.mk hs; have LCV := Aside0.mk lcv; clear hs hb2 lcv; simp only [Act.put, List.setIfInBounds_toArray, List.set_cons_zero, List.set_cons_succ])
        | ((with_reducible refine gate_dst (N := 11) rfl ?_); refine gg (some 11) rfl rfl rfl frQB ?_; refine onc (spec_l1Below.calls g l _ _ 4 _ _ _ w0 _ HI.out HB.out E2.out) rfl ?_; rintro e w1 ⟨rfl, hi, hb, hk⟩; refine ⟨_, rfl, ?_⟩; replace SB := Aside0.mk (SB.out.keep hk NB.out); replace HI := Aside0.mk hi; replace HB := Aside0.mk hb; clear hi hb hk; simp only [Act.put, List.setIfInBounds_toArray, List.set_cons_zero, List.set_cons_succ])
        | ((with_reducible refine gate_dst (N := 16) rfl ?_); refine gg (some 16) rfl rfl rfl frQB ?_; refine onc (spec_l1Below.calls g l _ _ 3 _ _ _ w0 _ HI.out HB.out E3.out) rfl ?_; rintro e w1 ⟨rfl, hi, hb, hk⟩; refine ⟨_, rfl, ?_⟩; replace SB := Aside0.mk (SB.out.keep hk NB.out); obtain ⟨_, _, _, gs⟩ := SB.out.open_; have SBC := Aside0.mk gs; clear gs; replace HI := Aside0.mk hi; replace HB := Aside0.mk hb; clear hi hb hk; simp only [Act.put, List.setIfInBounds_toArray, List.set_cons_zero, List.set_cons_succ])
        | ((with_reducible refine gate_dst (N := 17) rfl ?_); refine gg (some 17) rfl rfl rfl frQI ?_; refine onc (spec_l4item.calls k4 _ _ r z _ _ SBC.out LCV.out E4.out) rfl ?_; rintro e w1 ⟨v5, rfl, ho, hb⟩; refine ⟨_, rfl, ?_⟩; have S5 := Aside0.mk (show Rd (Kd.slice 5 (Kd.int .u8)) _ _ [v5] from (Own.of (d := (Kd.slice 5 (Kd.int .u8))) (ok := fun _ => True) ⟨_, rfl, ho⟩ hb.size).rd); replace HB := Aside0.mk (below_step HB.out hb); clear ho hb; simp only [Act.put, List.setIfInBounds_toArray, List.set_cons_zero, List.set_cons_succ]))
      go_ret
      exact ⟨_, rfl, S5.out, HB.out⟩
  · obtain ⟨nm, i3, h3, hnm, _, d⟩ := drawName_w l i2 h2 hl c2
    have e4 := l4key_eq r nm (by have := (isName_facts hn).2.1; omega) (by have := (isName_facts hnm).2.1; omega)
    obtain ⟨f1, f2, f3, f4⟩ := key_facts hn hnm
    refine ⟨_, by omega, f3, fun g w0 w hI hB => ?_⟩
    have HI := Aside0.mk hI
    have HB := Aside0.mk hB
    have D := Aside0.mk d
    have E4 := Aside0.mk e4
    clear hI hB d e4 f1 f2 f3 f4 y0 y1 hn hnm
    rcases x3 with rfl | rfl | rfl
    all_goals
      have HR0 := Aside0.mk hr0
      clear hr0
      go_enter Tryd.func50, Tryd.ntmps50
      go_wp2_with (first
        | ((with_reducible refine gate_dst (N := 6) rfl ?_); refine gg (some 6) rfl rfl rfl frQB ?_; refine onc (spec_l1Below.calls g l _ _ 3 _ _ _ w0 _ (IsS89.alloc HI.out _) (below_alloc HB.out _) E1.out) rfl ?_; rintro e w1 ⟨rfl, hi, hb, hk⟩; refine ⟨_, rfl, ?_⟩; have hcl := hk.blk (heap_alloc_new _ _) (Nat.ne_of_gt HI.out.lt) (by simp); have hc0 := fun z => blk_cell hcl z; replace HI := Aside0.mk hi; replace HB := Aside0.mk hb; clear hi hb hk; simp only [Act.put, List.setIfInBounds_toArray, List.set_cons_zero, List.set_cons_succ])
        | ((with_reducible refine gate_dst (N := 9) rfl ?_); refine csb 9 rfl rfl rfl rfl Tryd.underlying9 Tryd.underlying22 Tryd.underlying5 (by decide) ?_; intro v w2 hs hb2; replace hs := hs.cast HR0.out; obtain ⟨cv, rfl, lcv, _⟩ := hs.open_; have NB := Aside0.mk (Nat.ne_of_gt HI.out.lt); replace HI := Aside0.mk (HI.out.below hb2); replace HB := Aside0.mk (below_step HB.out hb2); have SB := Aside0.mk hs; have LCV := Aside0.mk lcv; clear hs hb2 lcv; simp only [Act.put, List.setIfInBounds_toArray, List.set_cons_zero, List.set_cons_succ])
        | ((with_reducible refine gate_dst (N := 11) rfl ?_); refine gg (some 11) rfl rfl rfl frQB ?_; refine onc (spec_l1Below.calls g l _ _ 4 _ _ _ w0 _ HI.out HB.out E2.out) rfl ?_; rintro e w1 ⟨rfl, hi, hb, hk⟩; refine ⟨_, rfl, ?_⟩; replace SB := Aside0.mk (SB.out.keep hk NB.out); replace HI := Aside0.mk hi; replace HB := Aside0.mk hb; clear hi hb hk; simp only [Act.put, List.setIfInBounds_toArray, List.set_cons_zero, List.set_cons_succ])
        | ((with_reducible refine gate_dst (N := 22) rfl ?_); refine gg (some 22) rfl rfl rfl frQD ?_; refine onc (D.out g w0 _ HI.out HB.out) rfl ?_; rintro e w1 ⟨v3, b3, rfl, hs, hle, hi, hb, hk⟩; refine ⟨_, rfl, ?_⟩; replace SB := Aside0.mk (SB.out.keep hk NB.out); obtain ⟨c3, rfl, l3, g3⟩ := hs.open_; have L3C := Aside0.mk l3; have S3C := Aside0.mk g3; obtain ⟨_, _, _, gs⟩ := SB.out.open_; have SBC := Aside0.mk gs; replace HI := Aside0.mk hi; replace HB := Aside0.mk hb; clear hs hle hi hb hk l3 g3 gs; simp only [Act.put, List.setIfInBounds_toArray, List.set_cons_zero, List.set_cons_succ])
        | ((with_reducible refine gate_dst (N := 23) rfl ?_); refine gg (some 23) rfl rfl rfl frQY ?_; refine onc (spec_l4key.calls _ _ r _ _ nm _ _ SBC.out LCV.out S3C.out L3C.out E4.out) rfl ?_; rintro e w1 ⟨v5, rfl, ho, hb⟩; refine ⟨_, rfl, ?_⟩; have S5 := Aside0.mk (show Rd (Kd.slice 5 (Kd.int .u8)) _ _ [v5] from (Own.of (d := (Kd.slice 5 (Kd.int .u8))) (ok := fun _ => True) ⟨_, rfl, ho⟩ hb.size).rd); replace HB := Aside0.mk (below_step HB.out hb); clear ho hb; simp only [Act.put, List.setIfInBounds_toArray, List.set_cons_zero, List.set_cons_succ]))
      go_ret
      exact ⟨_, rfl, S5.out, HB.out⟩
  · refine ⟨r, by have := (isName_facts hn).2.1; omega, name_By hn, fun g w0 w hI hB => ?_⟩
    have HI := Aside0.mk hI
    have HB := Aside0.mk hB
    clear hI hB y0 y1 hn
    rcases x3 with rfl | rfl | rfl
    all_goals
      have HR0 := Aside0.mk hr0
      clear hr0
      rcases y4 with rfl | rfl
      all_goals
        go_enter Tryd.func50, Tryd.ntmps50
        go_wp2_with (first
          | ((with_reducible refine gate_dst (N := 6) rfl ?_); refine gg (some 6) rfl rfl rfl frQB ?_; refine onc (spec_l1Below.calls g l _ _ 3 _ _ _ w0 _ (IsS89.alloc HI.out _) (below_alloc HB.out _) E1.out) rfl ?_; rintro e w1 ⟨rfl, hi, hb, hk⟩; refine ⟨_, rfl, ?_⟩; have hcl := hk.blk (heap_alloc_new _ _) (Nat.ne_of_gt HI.out.lt) (by simp); have hc0 := fun z => blk_cell hcl z; replace HI := Aside0.mk hi; replace HB := Aside0.mk hb; clear hi hb hk; simp only [Act.put, List.setIfInBounds_toArray, List.set_cons_zero, List.set_cons_succ])
          | ((with_reducible refine gate_dst (N := 9) rfl ?_); refine csb 9 rfl rfl rfl rfl Tryd.underlying9 Tryd.underlying22 Tryd.underlying5 (by decide) ?_; intro v w2 hs hb2; replace hs := hs.cast HR0.out; obtain ⟨cv, rfl, lcv, _⟩ := hs.open_; have NB := Aside0.mk (Nat.ne_of_gt HI.out.lt); replace HI := Aside0.mk (HI.out.below hb2); replace HB := Aside0.mk (below_step HB.out hb2); have SB := Aside0.mk hs; have LCV := Aside0.mk lcv; clear hs hb2 lcv; simp only [Act.put, List.setIfInBounds_toArray, List.set_cons_zero, List.set_cons_succ])
          | ((with_reducible refine gate_dst (N := 11) rfl ?_); refine gg (some 11) rfl rfl rfl frQB ?_; refine onc (spec_l1Below.calls g l _ _ 4 _ _ _ w0 _ HI.out HB.out E2.out) rfl ?_; rintro e w1 ⟨rfl, hi, hb, hk⟩; refine ⟨_, rfl, ?_⟩; replace SB := Aside0.mk (SB.out.keep hk NB.out); replace HI := Aside0.mk hi; replace HB := Aside0.mk hb; clear hi hb hk; simp only [Act.put, List.setIfInBounds_toArray, List.set_cons_zero, List.set_cons_succ]))
        go_ret
        exact ⟨_, rfl, SB.out.rd, HB.out⟩
set_option maxRecDepth 100000 in
set_option maxHeartbeats 8000000 in
theorem drawOk_w (l : List Int) (hl : l.length ≤ 4611686018427387903) : ∃ r : List Int, r.length ≤ 100 ∧ By r ∧ ∀ (A : Option Addr) (c : Nat) (w : World), (Kd.int .u8).C w A l.length l → l.length ≤ c → Calls Tryd.prog 25 #[.slice A l.length c] w fun e w' => ∃ v, e = .returned v ∧ Rd (Kd.slice 5 (Kd.int .u8)) w' r [v] ∧ Below w.heap.size w w' := by
  obtain ⟨h0, e0⟩ := l1New_ev l hl
  obtain ⟨k, ek⟩ := Ev.rounds e0
  obtain ⟨o, i1, h1, e1, c1⟩ := l1Once_ok l 0 h0 2 hl (Int.le_refl _)
  have EK := Aside0.mk ek
  have E1 := Aside0.mk e1
  clear e0 ek e1
  cases o with
  | true =>
    obtain ⟨r, rl, rb, d⟩ := drawAddr_w l i1 h1 hl c1
    refine ⟨r, rl, rb, fun A c w hr hc => ?_⟩
    have D := Aside0.mk d
    clear d
    have HR := Aside0.mk hr
    have HC := Aside0.mk hc
    have HB := Aside0.mk (Below.refl w.heap.size w)
    clear hr hc
    go_enter Tryd.func25, Tryd.ntmps25
    go_wp2_with (first
      | ((with_reducible refine gate_dst (N := 5) rfl ?_); refine gg (some 5) rfl rfl rfl frQN ?_; refine onc (spec_l1New.calls k A c l _ _ _ w _ HB.out HR.out HC.out EK.out) rfl ?_; rintro e w1 ⟨G, rfl, hi, hb, hb2⟩; refine ⟨_, rfl, ?_⟩; have HI := Aside0.mk hi; replace HB := Aside0.mk hb; clear hi hb hb2; simp only [Act.put, List.setIfInBounds_toArray, List.set_cons_zero, List.set_cons_succ])
      | ((with_reducible refine gate_dst (N := 7) rfl ?_); refine gg (some 7) rfl rfl rfl frQO ?_; refine onc (spec_l1Once.calls G l _ _ 2 _ _ _ w _ HI.out HB.out E1.out) rfl ?_; rintro e w1 ⟨rfl, hi, hb, hk⟩; refine ⟨_, rfl, ?_⟩; replace HI := Aside0.mk hi; replace HB := Aside0.mk hb; clear hi hb hk; simp only [Act.put, List.setIfInBounds_toArray, List.set_cons_zero, List.set_cons_succ])
      | ((with_reducible refine gate_dst (N := 9) rfl ?_); refine gg (some 9) rfl rfl rfl frQA ?_; refine onc (D.out G w _ HI.out HB.out) rfl ?_; rintro e w1 ⟨v3, rfl, hs, hb⟩; refine ⟨_, rfl, ?_⟩; have S3 := Aside0.mk hs; replace HB := Aside0.mk hb; clear hs hb; simp only [Act.put, List.setIfInBounds_toArray, List.set_cons_zero, List.set_cons_succ]))
    go_ret
    exact ⟨_, rfl, S3.out, HB.out⟩
  | false =>
    obtain ⟨x, i', h', e, x0, x1, hi'⟩ := l1Below_ok l i1 h1 12 hl c1
    have x6 : x = 0 ∨ x = 1 ∨ x = 2 ∨ x = 3 ∨ x = 4 ∨ x = 5 ∨ x = 6 ∨ x = 7 ∨ x = 8 ∨ x = 9 ∨ x = 10 ∨ x = 11 := by omega
    obtain ⟨s, hs⟩ : ∃ s, s = strs12.getD x.toNat ⟨#[]⟩ := ⟨_, rfl⟩
    have hm : s ∈ strs12 := by rw [hs]; exact getD_in _ _ (by have : strs12.length = 12 := rfl; omega)
    refine ⟨bytesOf s, by have := strs_len s (.inr (.inr (.inr hm))); omega, bytesOf_By s, fun A c w hr hc => ?_⟩
    have E := Aside0.mk e
    obtain ⟨r, hr0⟩ : ∃ r, r = bytesOf s := ⟨_, rfl⟩
    rw [hs] at hr0
    rw [show bytesOf s = r by rw [hr0, hs]]
    clear e x0 x1 hm hs
    have HR := Aside0.mk hr
    have HC := Aside0.mk hc
    have HB := Aside0.mk (Below.refl w.heap.size w)
    clear hr hc
    rcases x6 with rfl | rfl | rfl | rfl | rfl | rfl | rfl | rfl | rfl | rfl | rfl | rfl
    all_goals
      have HR0 := Aside0.mk hr0
      clear hr0
      go_enter Tryd.func25, Tryd.ntmps25
      go_wp2_with (first
        | ((with_reducible refine gate_dst (N := 5) rfl ?_); refine gg (some 5) rfl rfl rfl frQN ?_; refine onc (spec_l1New.calls k A c l _ _ _ w _ HB.out HR.out HC.out EK.out) rfl ?_; rintro e w1 ⟨G, rfl, hi, hb, hb2⟩; refine ⟨_, rfl, ?_⟩; have HI := Aside0.mk hi; replace HB := Aside0.mk hb; clear hi hb hb2; simp only [Act.put, List.setIfInBounds_toArray, List.set_cons_zero, List.set_cons_succ])
        | ((with_reducible refine gate_dst (N := 7) rfl ?_); refine gg (some 7) rfl rfl rfl frQO ?_; refine onc (spec_l1Once.calls G l _ _ 2 _ _ _ w _ HI.out HB.out E1.out) rfl ?_; rintro e w1 ⟨rfl, hi, hb, hk⟩; refine ⟨_, rfl, ?_⟩; replace HI := Aside0.mk hi; replace HB := Aside0.mk hb; clear hi hb hk; simp only [Act.put, List.setIfInBounds_toArray, List.set_cons_zero, List.set_cons_succ])
        | ((with_reducible refine gate_dst (N := 12) rfl ?_); refine gg (some 12) rfl rfl rfl frQB ?_; refine onc (spec_l1Below.calls G l _ _ 12 _ _ _ w _ (IsS89.alloc HI.out _) (below_alloc HB.out _) E.out) rfl ?_; rintro e w1 ⟨rfl, hi, hb, hk⟩; refine ⟨_, rfl, ?_⟩; have hcl := hk.blk (heap_alloc_new _ _) (Nat.ne_of_gt HI.out.lt) (by simp); have hc0 := fun z => blk_cell hcl z; replace HI := Aside0.mk hi; replace HB := Aside0.mk hb; clear hi hb hk; simp only [Act.put, List.setIfInBounds_toArray, List.set_cons_zero, List.set_cons_succ])
        | ((with_reducible refine gate_dst (N := 15) rfl ?_); refine csb 15 rfl rfl rfl rfl Tryd.underlying9 Tryd.underlying22 Tryd.underlying5 (by decide) ?_; intro v w2 hs hb2; replace hs := hs.cast HR0.out; obtain ⟨cv, rfl, lcv, _⟩ := hs.open_; have NB := Aside0.mk (Nat.ne_of_gt HI.out.lt); have HL := Aside0.mk HB.out.size; replace HI := Aside0.mk (HI.out.below hb2); replace HB := Aside0.mk (below_step HB.out hb2); have SB := Aside0.mk hs; have LCV := Aside0.mk lcv; clear hs hb2 lcv; simp only [Act.put, List.setIfInBounds_toArray, List.set_cons_zero, List.set_cons_succ]))
      go_ret
      exact ⟨_, rfl, SB.out.rd, HB.out⟩
end Go.Proofs.YtockllljeeakaaaDoor.PFnAddrs
