/- Bytes that may only be read: a string's bytes, a row of the call's own: where they lie. -/
import Derived.Test.YtenpjddjmhjdoaaDoorMlaw
import Derived.Lib.ConvBytes
namespace Go.Proofs.YtenpjddjmhjdoaaDoor.M
open Go.RowKit Go.Proofs.YtenpjddjmhjdoaaDoorW.PrintWords Go.Proofs.YtenpjddjmhjdoaaDoorW.PrintLast Go.Proofs.YtenpjddjmhjdoaaDoorW.PrintMore
set_option linter.unusedVariables false
set_option linter.unusedSimpArgs false
/-- Bytes that lie in block b. -/
structure Sb (w : World) (b : Nat) (r : List Int) (v : Value) : Prop where
  h : ∃ (c : Nat) (cs : Array Value) (fz : Nat × Nat), v = .slice (some ⟨b, 0, none⟩) r.length c ∧ r.length ≤ c ∧ r.length ≤ 9223372036854775807 ∧ w.heap[b]? = some (.cells cs 5 fz) ∧ ∀ (j : Nat) (x : Int), r[j]? = some x → cs[j]? = some (.int .u8 x)
theorem Sb.move {w w' : World} {b : Nat} {r : List Int} {v : Value} (h : Sb w b r v) (he : w'.heap[b]? = w.heap[b]?) : Sb w' b r v := by
  obtain ⟨c, cs, fz, h1, h2, h3, hb, h4⟩ := h.h
  exact ⟨c, cs, fz, h1, h2, h3, he.trans hb, h4⟩
theorem Sb.lt {w : World} {b : Nat} {r : List Int} {v : Value} (h : Sb w b r v) : b < w.heap.size := by
  obtain ⟨c, cs, fz, _, _, _, hb, _⟩ := h.h
  exact blk_lt hb
theorem Sb.open_ {w : World} {b : Nat} {r : List Int} {v : Value} (h : Sb w b r v) : ∃ c, v = .slice (some ⟨b, 0, none⟩) r.length c ∧ r.length ≤ c ∧ (Kd.int .u8).C w (some ⟨b, 0, none⟩) r.length r := by
  obtain ⟨c, cs, fz, h1, h2, h3, hb, h4⟩ := h.h
  refine ⟨c, h1, h2, rfl, h3, fun _ => ⟨_, rfl, fun j p hj => ⟨[.int .u8 p], rfl, rfl, fun i u hu => ?_⟩⟩⟩
  have hi : i = 0 := by
    rcases i with _ | i
    · rfl
    · simp at hu
  subst hi
  obtain rfl : Value.int .u8 p = u := by simpa using hu
  have h6 := cell_of_row w b (j * 1 + 0) cs 5 fz hb
  rw [Nat.mul_one, Nat.add_zero] at h6
  have h7 : (⟨b, 0, none⟩ : Addr).add (j * (Kd.int .u8).sz + 0) = ⟨b, j, none⟩ := by
    rw [show (Kd.int .u8).sz = 1 from rfl, Nat.mul_one, Nat.add_zero]
    first | (simp [Addr.add]; done) | (simp [Addr.add]; omega)
  rw [h7]
  exact h6.trans (h4 j p hj)
theorem Sb.rd {w : World} {b : Nat} {r : List Int} {v : Value} (h : Sb w b r v) : Rd (Kd.slice 5 (Kd.int .u8)) w r [v] := by
  obtain ⟨c, rfl, h2, h3⟩ := h.open_
  exact ⟨⟨_, _, rfl, h2, h3⟩⟩
/-- Made between block lo and block hi, to be read: nil, or bytes in one block. -/
structure OwnQ (w : World) (lo hi : Nat) (l : List Int) (v : Value) : Prop where
  h : (l = [] ∧ v = .slice none 0 0) ∨ ∃ b, lo ≤ b ∧ b < hi ∧ Sb w b l v
  le : hi ≤ w.heap.size
theorem OwnQ.rd {w : World} {lo hi : Nat} {l : List Int} {v : Value} (h : OwnQ w lo hi l v) : Rd (Kd.slice 5 (Kd.int .u8)) w l [v] := by
  rcases h.h with ⟨rfl, rfl⟩ | ⟨b, _, _, hs⟩
  · exact ⟨⟨none, 0, rfl, Nat.le_refl _, Kd.C_nil _ _⟩⟩
  · exact hs.rd
theorem OwnQ.mv {w w' : World} {lo hi a c : Nat} {l : List Int} {v : Value} (h : OwnQ w lo hi l v) (ho : Outside a c w w') (hd : hi ≤ a ∨ c ≤ lo) : OwnQ w' lo hi l v := by
  refine ⟨?_, Nat.le_trans h.le ho.size⟩
  rcases h.h with h1 | ⟨b, h1, h2, hs⟩
  · exact .inl h1
  · exact .inr ⟨b, h1, h2, hs.move (ho.block b hs.lt (by omega))⟩
theorem OwnQ.b {w w' : World} {lo hi : Nat} {l : List Int} {v : Value} (h : OwnQ w lo hi l v) (hb : Below w.heap.size w w') : OwnQ w' lo hi l v := h.mv (Below.out hb lo) (.inr (Nat.le_refl _))
theorem OwnQ.nil {w : World} {lo hi : Nat} (h : hi ≤ w.heap.size) : OwnQ w lo hi [] (.slice none 0 0) := ⟨.inl ⟨rfl, rfl⟩, h⟩
theorem OwnQ.of_R {w : World} {base : Nat} {ok : Nat → Prop} {l : List Int} {v : Value} (h : (Kd.int .u8).R 5 w base ok v l) : OwnQ w base w.heap.size l v := by
  refine ⟨?_, Nat.le_refl _⟩
  have ho := Kd.own_of_R h
  have h63 : l.length ≤ 9223372036854775807 := by
    obtain ⟨A, c, _, _, h4⟩ := (Kd.slice 5 (Kd.int .u8)).K_of_M (w := w) (base := base) (ok := ok) (x := l) (cs := [v]) ⟨v, rfl, h⟩
    exact h4.2.1
  rcases ho.2 with ⟨hv, hn⟩ | ⟨g, cap, cur, hv, hbg, hh, hcl, hcm, hcs, htake⟩
  · exact .inl ⟨List.eq_nil_of_length_eq_zero hn, hv⟩
  · refine .inr ⟨g, hbg, blk_lt hh, ⟨cap, cur, (0, 0), hv, hcl, h63, hh, fun j x hj => ?_⟩⟩
    have hjl := (List.getElem?_eq_some_iff.1 hj).1
    have h5 : (cur.toList.take (l.length * 1))[j]? = (encs (Value.int .u8) l)[j]? := by rw [htake]
    rw [List.getElem?_take, if_pos (by omega), Array.getElem?_toList] at h5
    rw [h5]
    simp [encs, hj]
theorem OwnQ.lit {W : World} {lo : Nat} (xs : List Int) (fz : Nat × Nat) (hlo : lo ≤ W.heap.size) (h63 : xs.length ≤ 9223372036854775807) : OwnQ (W.alloc (.cells (xs.map (Value.int .u8)).toArray 5 fz)) lo (W.alloc (.cells (xs.map (Value.int .u8)).toArray 5 fz)).heap.size xs (.slice (some ⟨W.heap.size, 0, none⟩) xs.length xs.length) := by
  refine ⟨.inr ⟨W.heap.size, hlo, by simp, ⟨_, _, fz, rfl, Nat.le_refl _, h63, blk_new W _, fun j x hj => ?_⟩⟩, Nat.le_refl _⟩
  rw [List.getElem?_toArray, List.getElem?_map, hj]; rfl
section
variable {P : Program} {ops : Array Oper} {Q : Exit → Act → World → Prop} {rest : List Oper} {oi : Oper} {a : Act} {w : World}
theorem new_Sb (s : ByteArray) (hz : s.size ≤ 9223372036854775807) : Sb (Lib.bytesWorld w 5 s) w.heap.size (bytesOf s) (.slice (some ⟨w.heap.size, 0, none⟩) s.size (grownCap w s.size 0 5)) ∧ Below w.heap.size w (Lib.bytesWorld w 5 s) := by
  have hl : (bytesOf s).length = s.size := by rw [bytesOf, List.length_map]; exact Array.length_toList
  have hc : s.size ≤ grownCap w s.size 0 5 := grownCap_ge _ _ _ _
  refine ⟨⟨_, _, _, by rw [hl], by rw [hl]; exact hc, by rw [hl]; exact hz, Lib.bytesWorld_at_new w 5 s, fun j x hj => ?_⟩, ?_⟩
  · have hjl : j < s.size := by rw [← hl]; exact (List.getElem?_eq_some_iff.1 hj).1
    unfold Lib.bytesCells
    rw [Array.getElem?_append_left (by rw [Array.size_map]; exact hjl), Array.getElem?_map]
    unfold bytesOf at hj
    rw [List.getElem?_map, Array.getElem?_toList] at hj
    obtain ⟨y, hy, rfl⟩ := Option.map_eq_some_iff.1 hj
    rw [hy]; rfl
  · have h1 : Below w.heap.size w (w.drew.alloc (.cells (Lib.bytesCells w 5 s) 5)) := below_alloc (below_drew1 (Below.refl _ _)) _
    refine ⟨h1.os, h1.tape, h1.output, ?_, fun k hk => Lib.bytesWorld_at_old w 5 s k hk⟩
    rw [Lib.bytesWorld_size]; omega
/-- A string's bytes, in a block of their own. -/
theorem csb {src dst p : Nat} {s : ByteArray} (N : Tmp) (hd : oi.dst = some N) (hg : oi.guard = none) (ho : oi.op = .convert src dst (.tmp p)) (hx : a.eval (.tmp p) = .string s) (hs : P.underlying src = some .string) (ht : P.underlying dst = some (.slice 5)) (he : P.underlying 5 = some (.int .u8)) (hz : s.size ≤ 9223372036854775807)
    (k : ∀ b v w1, w.heap.size ≤ b → Sb w1 b (bytesOf s) v → Below w.heap.size w w1 → wpList P ops Q rest (a.put (some N) v) w1) : wpList P ops Q (oi :: rest) a w := by
  obtain ⟨h1, h2⟩ := new_Sb (w := w) s hz
  refine wpList_plain hg fun K hK => ?_
  have hrun : (execOp a.eval oi).run P w = .ok (.value (.slice (some ⟨w.heap.size, 0, none⟩) s.size (grownCap w s.size 0 5))) (Lib.bytesWorld w 5 s) := by
    unfold execOp
    simp only [ho, hx, Sem.run_bind, Lib.run_convert_string_bytes w src dst 5 s hs ht he, Result.andThen_ok, Sem.run_pure]
  unfold Oper.wp
  rw [hrun, Oper.upon_value, hd]
  exact hK _ _ (k _ _ _ (Nat.le_refl _) h1 h2)
end
end Go.Proofs.YtenpjddjmhjdoaaDoor.M
