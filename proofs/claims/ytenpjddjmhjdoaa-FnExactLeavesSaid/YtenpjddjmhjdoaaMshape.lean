/- Memory whose numbers alone are written: what leads on stays; the shape of bytes, of rows of bytes and of trees over them. -/
import Derived.Test.YtenpjddjmhjdoaaMlaw
namespace Go.Proofs.Ytenpjddjmhjdoaa.M
open Go.RowKit Go.Proofs.YtenpjddjmhjdoaaW.PrintWords Go.Proofs.YtenpjddjmhjdoaaW.PrintLast Go.Proofs.YtenpjddjmhjdoaaW.PrintMore
set_option linter.unusedVariables false
set_option linter.unusedSimpArgs false
/-- The same, or a number of the same kind. -/
def Sm (u u' : Value) : Prop := u' = u ∨ ∃ k x x', u = .int k x ∧ u' = .int k x'
theorem Sm.refl (u : Value) : Sm u u := .inl rfl
theorem Sm.trans {a b c : Value} (h : Sm a b) (h2 : Sm b c) : Sm a c := by
  rcases h with rfl | ⟨k, x, x', rfl, rfl⟩
  · exact h2
  · rcases h2 with rfl | ⟨k2, y, y', e, rfl⟩
    · exact .inr ⟨k, x, x', rfl, rfl⟩
    · injection e with e1 e2
      subst e1
      exact .inr ⟨k, x, y', rfl, rfl⟩
theorem Sm.int {k : IntKind} {x : Int} {u : Value} (h : Sm (.int k x) u) : ∃ y, u = .int k y := by
  rcases h with rfl | ⟨k2, y, y', e, rfl⟩
  · exact ⟨x, rfl⟩
  · injection e with e1 e2
    subst e1
    exact ⟨y', rfl⟩
theorem Sm.slice {A : Option Addr} {n c : Nat} {u : Value} (h : Sm (.slice A n c) u) : u = .slice A n c := by
  rcases h with rfl | ⟨k2, y, y', e, rfl⟩
  · rfl
  · cases e
def SmL (cs cs' : List Value) : Prop := cs'.length = cs.length ∧ ∀ (j : Nat) (u : Value), cs[j]? = some u → ∃ u', cs'[j]? = some u' ∧ Sm u u'
theorem SmL.refl (cs : List Value) : SmL cs cs := ⟨rfl, fun j u h => ⟨u, h, .refl u⟩⟩
theorem SmL.trans {a b c : List Value} (h : SmL a b) (h2 : SmL b c) : SmL a c := ⟨h2.1.trans h.1, fun j u hu => by
  obtain ⟨u1, h3, h4⟩ := h.2 j u hu
  obtain ⟨u2, h5, h6⟩ := h2.2 j u1 h3
  exact ⟨u2, h5, h4.trans h6⟩⟩
theorem SmL.sub {a b : List Value} (h : SmL a b) (i n : Nat) : SmL ((a.drop i).take n) ((b.drop i).take n) := by
  refine ⟨by simp [h.1], fun j u hu => ?_⟩
  rw [List.getElem?_take] at hu
  split at hu
  · rename_i hj
    rw [List.getElem?_drop] at hu
    obtain ⟨u', h1, h2⟩ := h.2 _ _ hu
    exact ⟨u', by rw [List.getElem?_take, if_pos hj, List.getElem?_drop]; exact h1, h2⟩
  · cases hu
theorem SmL.one {u : Value} {b : List Value} (h : SmL [u] b) : ∃ u', b = [u'] ∧ Sm u u' := by
  obtain ⟨u', h1, h2⟩ := h.2 0 u rfl
  have hl := h.1
  rcases b with _ | ⟨y, _ | ⟨z, b⟩⟩
  · cases h1
  · injection h1 with h1; exact ⟨y, rfl, h1 ▸ h2⟩
  · simp at hl
theorem SmL.five {u0 u1 u2 u3 u4 : Value} {b : List Value} (h : SmL [u0, u1, u2, u3, u4] b) : ∃ v0 v1 v2 v3 v4, b = [v0, v1, v2, v3, v4] ∧ Sm u0 v0 ∧ Sm u1 v1 ∧ Sm u2 v2 ∧ Sm u3 v3 ∧ Sm u4 v4 := by
  obtain ⟨v0, a0, b0⟩ := h.2 0 u0 rfl
  obtain ⟨v1, a1, b1⟩ := h.2 1 u1 rfl
  obtain ⟨v2, a2, b2⟩ := h.2 2 u2 rfl
  obtain ⟨v3, a3, b3⟩ := h.2 3 u3 rfl
  obtain ⟨v4, a4, b4⟩ := h.2 4 u4 rfl
  have hl := h.1
  refine ⟨v0, v1, v2, v3, v4, ?_, b0, b1, b2, b3, b4⟩
  clear b0 b1 b2 b3 b4 h
  rcases b with _ | ⟨x0, _ | ⟨x1, _ | ⟨x2, _ | ⟨x3, _ | ⟨x4, _ | ⟨x5, b⟩⟩⟩⟩⟩⟩
  · cases a0
  · cases a1
  · cases a2
  · cases a3
  · cases a4
  · simp only [List.getElem?_cons_zero, List.getElem?_cons_succ, Option.some.injEq] at a0 a1 a2 a3 a4
    rw [a0, a1, a2, a3, a4]
  · simp at hl
/-- Numbers alone have turned. -/
structure IntW (w w' : World) : Prop where
  h : ∀ (b : Nat) (arr : Array Value) (t : TypeId), w.heap[b]? = some (.cells arr t (0, 0)) → ∃ arr' : Array Value, w'.heap[b]? = some (.cells arr' t (0, 0)) ∧ SmL arr.toList arr'.toList
theorem IntW.refl (w : World) : IntW w w := ⟨fun b arr t h => ⟨arr, h, .refl _⟩⟩
theorem IntW.trans {a b c : World} (h : IntW a b) (h2 : IntW b c) : IntW a c := ⟨fun k arr t e => by
  obtain ⟨a1, h3, h4⟩ := h.h k arr t e
  obtain ⟨a2, h5, h6⟩ := h2.h k a1 t h3
  exact ⟨a2, h5, h4.trans h6⟩⟩
theorem IntW.below {w w' : World} (h : Below w.heap.size w w') : IntW w w' := ⟨fun b arr t e => ⟨arr, blk_below e h, .refl _⟩⟩
theorem IntW.set {w : World} {b o t : Nat} {k : IntKind} {x x' : Int} {arr : Array Value} (hb : w.heap[b]? = some (.cells arr t (0, 0))) (ho : arr[o]? = some (.int k x)) : IntW w (w.setCell ⟨b, o, none⟩ (.int k x')) := ⟨fun g ar q e => by
  by_cases hg : g = b
  · subst hg
    rw [hb] at e
    injection e with e
    injection e with e1 e2
    subst e1 e2
    refine ⟨_, blk_set hb o _, by simp, fun j u hu => ?_⟩
    by_cases hj : o = j
    · subst hj
      rw [← Array.getElem?_toList] at ho
      rw [ho] at hu
      injection hu with hu
      have hlt : o < arr.size := by have := (List.getElem?_eq_some_iff.1 ho).1; simpa using this
      exact ⟨.int k x', by simp [hlt], .inr ⟨k, x, x', hu.symm, rfl⟩⟩
    · exact ⟨u, by rw [Array.getElem?_toList] at hu ⊢; rw [Array.getElem?_setIfInBounds, if_neg hj]; exact hu, .refl _⟩
  · exact ⟨ar, by rw [Below.heap_setCell _ _ _ _ hg]; exact e, .refl _⟩⟩
theorem Outside.set {w : World} {lo hi b o : Nat} {v : Value} (h1 : lo ≤ b) (h2 : b < hi) : Outside lo hi w (w.setCell ⟨b, o, none⟩ v) :=
  ⟨rfl, rfl, rfl, by simp [World.setCell], fun k hk ho => Below.heap_setCell _ _ _ _ (by show k ≠ b; omega)⟩
/-- A row of n elements between lo and hi, of each of which E is told. -/
def Row (w : World) (lo hi e sz : Nat) (E : Nat → List Value → Prop) (v : Value) (n : Nat) : Prop :=
  ∃ A c, v = .slice A n c ∧ n ≤ c ∧ (0 < n → ∃ (b : Nat) (arr : Array Value), A = some ⟨b, 0, none⟩ ∧ lo ≤ b ∧ b < hi ∧ w.heap[b]? = some (.cells arr e (0, 0)) ∧ n * sz ≤ arr.size ∧ ∀ i, i < n → E i ((arr.toList.drop (i * sz)).take sz))
theorem Row.sm {w w' : World} {lo hi e sz n : Nat} {E E' : Nat → List Value → Prop} {v v' : Value} (h : Row w lo hi e sz E v n) (hw : IntW w w') (hv : Sm v v') (hE : ∀ i cs cs', i < n → E i cs → SmL cs cs' → E' i cs') : Row w' lo hi e sz E' v' n := by
  obtain ⟨A, c, rfl, hc, hr⟩ := h
  obtain rfl := hv.slice
  refine ⟨A, c, rfl, hc, fun hn => ?_⟩
  obtain ⟨b, arr, e1, h1, h2, h3, h4, h5⟩ := hr hn
  obtain ⟨arr', h6, h7⟩ := hw.h b arr e h3
  have hl := h7.1
  simp only [Array.length_toList] at hl
  exact ⟨b, arr', e1, h1, h2, h6, by omega, fun i hi => hE i _ _ hi (h5 i hi) (h7.sub _ _)⟩
def ByE (_ : Nat) (cs : List Value) : Prop := ∃ x, cs = [.int .u8 x]
/-- l bytes. -/
def ByT (w : World) (lo hi eB : Nat) (v : Value) (l : Nat) : Prop := Row w lo hi eB 1 ByE v l
theorem ByT.sm {w w' : World} {lo hi eB l : Nat} {v v' : Value} (h : ByT w lo hi eB v l) (hw : IntW w w') (hv : Sm v v') : ByT w' lo hi eB v' l :=
  Row.sm h hw hv fun i cs cs' _ hE hs => by
    obtain ⟨x, rfl⟩ := hE
    obtain ⟨u', rfl, h2⟩ := hs.one
    obtain ⟨y, rfl⟩ := h2.int
    exact ⟨y, rfl⟩
def BsE (w : World) (lo hi eB : Nat) (l : List Nat) (i : Nat) (cs : List Value) : Prop := ∃ u, cs = [u] ∧ ByT w lo hi eB u (l.getD i 0)
/-- Rows of bytes, of these lengths. -/
def BsT (w : World) (lo hi eB eS : Nat) (v : Value) (l : List Nat) : Prop := Row w lo hi eS 1 (BsE w lo hi eB l) v l.length
theorem BsT.sm {w w' : World} {lo hi eB eS : Nat} {l : List Nat} {v v' : Value} (h : BsT w lo hi eB eS v l) (hw : IntW w w') (hv : Sm v v') : BsT w' lo hi eB eS v' l :=
  Row.sm h hw hv fun i cs cs' _ hE hs => by
    obtain ⟨u, rfl, hb⟩ := hE
    obtain ⟨u', rfl, h2⟩ := hs.one
    exact ⟨u', rfl, hb.sm hw h2⟩
/-- The shape of a tree: how many bytes, rows of how many, which parts. -/
inductive Sh where
  | mk (s : Nat) (k : List Nat) (l : List Sh)
def Sh.s : Sh → Nat | .mk s _ _ => s
def Sh.ks : Sh → List Nat | .mk _ k _ => k
def Sh.l : Sh → List Sh | .mk _ _ l => l
/-- A struct of two numbers, bytes, rows of bytes and parts; no deeper than n. -/
def ShT (eB eS eV : Nat) (w : World) (lo hi : Nat) : Nat → Sh → List Value → Prop
  | 0, _, _ => False
  | n + 1, x, cs => ∃ i j v2 v3 v4, cs = [.int .i64 i, .int .i64 j, v2, v3, v4] ∧ ByT w lo hi eB v2 x.s ∧ BsT w lo hi eB eS v3 x.ks ∧ Row w lo hi eV 5 (fun q c => ShT eB eS eV w lo hi n (x.l.getD q (.mk 0 [] [])) c) v4 x.l.length
theorem ShT.sm {eB eS eV : Nat} {w w' : World} {lo hi : Nat} (hw : IntW w w') : ∀ n x cs cs', ShT eB eS eV w lo hi n x cs → SmL cs cs' → ShT eB eS eV w' lo hi n x cs'
  | 0, _, _, _, h, _ => h
  | n + 1, x, cs, cs', h, hs => by
    obtain ⟨i, j, v2, v3, v4, rfl, h2, h3, h4⟩ := h
    obtain ⟨u0, u1, u2, u3, u4, rfl, s0, s1, s2, s3, s4⟩ := hs.five
    obtain ⟨i', rfl⟩ := s0.int
    obtain ⟨j', rfl⟩ := s1.int
    exact ⟨i', j', u2, u3, u4, rfl, h2.sm hw s2, h3.sm hw s3, Row.sm h4 hw s4 fun q c c' hq hE hc => ShT.sm hw n _ c c' hE hc⟩
def VsT (eB eS eV : Nat) (w : World) (lo hi n : Nat) (v : Value) (l : List Sh) : Prop := Row w lo hi eV 5 (fun q c => ShT eB eS eV w lo hi n (l.getD q (.mk 0 [] [])) c) v l.length
theorem VsT.sm {eB eS eV : Nat} {w w' : World} {lo hi n : Nat} {v v' : Value} {l : List Sh} (h : VsT eB eS eV w lo hi n v l) (hw : IntW w w') (hv : Sm v v') : VsT eB eS eV w' lo hi n v' l :=
  Row.sm h hw hv fun q c c' hq hE hc => ShT.sm hw n _ c c' hE hc
/-- How many marks. -/
def cBs : List Nat → Nat
  | [] => 0
  | x :: l => x + cBs l
mutual
def cV : Sh → Nat
  | .mk s k l => s + cBs k + cVs l
def cVs : List Sh → Nat
  | [] => 0
  | x :: l => 2 + cV x + cVs l
end
theorem cBs_take (l : List Nat) (i : Nat) (h : i < l.length) : cBs (l.take (i + 1)) = cBs (l.take i) + l.getD i 0 := by
  induction l generalizing i with
  | nil => simp at h
  | cons x l ih =>
    cases i with
    | zero => simp [cBs]
    | succ i => simp only [List.take_succ_cons, cBs, List.getD_cons_succ]; rw [ih i (by simpa using h)]; omega
theorem cBs_le (l : List Nat) (i : Nat) : cBs (l.take i) ≤ cBs l := by
  induction l generalizing i with
  | nil => simp
  | cons x l ih => cases i with
    | zero => simp [cBs]
    | succ i => simp only [List.take_succ_cons, cBs]; have := ih i; omega
theorem cVs_take (l : List Sh) (i : Nat) (h : i < l.length) : cVs (l.take (i + 1)) = cVs (l.take i) + (2 + cV (l.getD i (.mk 0 [] []))) := by
  induction l generalizing i with
  | nil => simp at h
  | cons x l ih =>
    cases i with
    | zero => simp [cVs]
    | succ i => simp only [List.take_succ_cons, cVs, List.getD_cons_succ]; rw [ih i (by simpa using h)]; omega
theorem cVs_le (l : List Sh) (i : Nat) : cVs (l.take i) ≤ cVs l := by
  induction l generalizing i with
  | nil => simp
  | cons x l ih => cases i with
    | zero => simp [cVs]
    | succ i => simp only [List.take_succ_cons, cVs]; have := ih i; omega
/-- What a row that was made reads as. -/
theorem Row.of_R {α : Type} {d : Kd α} {w : World} {lo hi e base : Nat} {ok : Nat → Prop} {v : Value} {xs : List α} (h : d.R e w base ok v xs) (hok : ∀ k, ok k → lo ≤ k ∧ k < hi) (E : Nat → List Value → Prop)
    (hE : ∀ i x cs, xs[i]? = some x → d.M w base ok x cs → E i cs) : Row w lo hi e d.sz E v xs.length := by
  obtain ⟨h0, inner, ho, hr⟩ := h
  obtain ⟨hl, ho⟩ := ho
  rcases ho with ⟨rfl, hn⟩ | ⟨g, cap, cur, rfl, hg, hh, hnc, hcm, hcs, ht⟩
  · exact ⟨none, 0, by rw [hn], by omega, fun hp => by omega⟩
  · refine ⟨_, cap, rfl, hnc, fun _ => ⟨g, cur, rfl, (hok g (h0 g (by simp [Value.ownBlock]))).1, (hok g (h0 g (by simp [Value.ownBlock]))).2, hh, by rw [hcs]; exact Nat.mul_le_mul_right _ hnc, fun i hi => ?_⟩⟩
    have hx := List.getElem?_eq_getElem hi
    have h2 := hr.2 i _ hx
    have e2 : (inner.drop (i * d.sz)).take d.sz = (cur.toList.drop (i * d.sz)).take d.sz := by
      rw [← ht, List.drop_take, List.take_take]
      congr 1
      have : (i + 1) * d.sz ≤ xs.length * d.sz := Nat.mul_le_mul_right _ hi
      rw [Nat.succ_mul] at this
      omega
    rw [← e2]
    exact hE i _ _ hx (d.M_mono (fun k hk => hk.1) h2)
theorem ByT.of_R {w : World} {lo hi e base : Nat} {ok : Nat → Prop} {v : Value} {l : List Int} (h : (Kd.int .u8).R e w base ok v l) (hok : ∀ k, ok k → lo ≤ k ∧ k < hi) : ByT w lo hi e v l.length :=
  Row.of_R h hok ByE fun i x cs _ hm => ⟨x, hm⟩
theorem BsT.of_R {w : World} {lo hi e e2 base : Nat} {ok : Nat → Prop} {v : Value} {l : List (List Int)} (h : (Kd.slice e (Kd.int .u8)).R e2 w base ok v l) (hok : ∀ k, ok k → lo ≤ k ∧ k < hi) : BsT w lo hi e e2 v (l.map List.length) := by
  have := Row.of_R h hok (BsE w lo hi e (l.map List.length)) fun i x cs hx hm => by
    obtain ⟨u, rfl, hu⟩ := hm
    refine ⟨u, rfl, ?_⟩
    rw [List.getD_eq_getElem?_getD, List.getElem?_map, hx]
    exact ByT.of_R hu hok
  unfold BsT
  rw [List.length_map]
  exact this
/-- All the lengths. -/
def mL : List (List Int) → Nat
  | [] => 0
  | x :: l => x.length + mL l
theorem cBs_map (l : List (List Int)) : cBs (l.map List.length) = mL l := by
  induction l with
  | nil => rfl
  | cons x l ih => simp only [List.map_cons, cBs, mL, ih]
theorem mL_take (l : List (List Int)) (i : Nat) (h : i < l.length) : mL (l.take (i + 1)) = mL (l.take i) + l[i].length := by
  induction l generalizing i with
  | nil => simp at h
  | cons x l ih =>
    cases i with
    | zero => simp [mL]
    | succ i => simp only [List.take_succ_cons, mL, List.getElem_cons_succ]; rw [ih i (by simpa using h)]; omega
theorem mL_le (l : List (List Int)) (i : Nat) : mL (l.take i) ≤ mL l := by
  induction l generalizing i with
  | nil => simp
  | cons x l ih => cases i with
    | zero => simp [mL]
    | succ i => simp only [List.take_succ_cons, mL]; have := ih i; omega
/-- n marks from k on. -/
def mk (k : Int) (n : Nat) : List Int := (List.range n).map fun j => (k + (j : Nat)) % 256
/-- Marks in rows. -/
def mks : Int → List (List Int) → List (List Int)
  | _, [] => []
  | k, x :: l => mk k x.length :: mks (k + x.length) l
theorem mk_len (k : Int) (n : Nat) : (mk k n).length = n := by simp [mk]
theorem mks_len (k : Int) (l : List (List Int)) : (mks k l).length = l.length := by
  induction l generalizing k with
  | nil => rfl
  | cons x l ih => simp [mks, ih]
theorem mk_step (k : Int) (i : Nat) (l : List Int) (h : i < l.length) : (mk k i ++ l.drop i).set i ((k + i) % 256) = mk k (i + 1) ++ l.drop (i + 1) := by
  rw [List.set_append_right _ _ (by rw [mk_len]; exact Nat.le_refl _), mk_len, Nat.sub_self, List.drop_eq_getElem_cons h, List.set_cons_zero]
  simp [mk, List.range_succ]
theorem mks_snoc (k : Int) (l : List (List Int)) (x : List Int) : mks k (l ++ [x]) = mks k l ++ [mk (k + (mL l : Nat)) x.length] := by
  induction l generalizing k with
  | nil => simp [mks, mL]
  | cons y l ih =>
    have e : k + (y.length : Nat) + (mL l : Nat) = k + ((y.length + mL l : Nat) : Int) := by omega
    simp only [List.cons_append, mks, mL, ih, e]
theorem mks_step (k : Int) (i : Nat) (l : List (List Int)) (h : i < l.length) : (mks k (l.take i) ++ l.drop i).set i (mk (k + (mL (l.take i) : Nat)) l[i].length) = mks k (l.take (i + 1)) ++ l.drop (i + 1) := by
  have hl : (mks k (l.take i)).length = i := by rw [mks_len, List.length_take]; omega
  rw [List.set_append_right _ _ (by omega), hl, Nat.sub_self, List.drop_eq_getElem_cons h, List.set_cons_zero, List.take_succ_eq_append_getElem h, mks_snoc]
  simp
/-- What lies outside ok stays. -/
structure Wr (ok : Nat → Prop) (w w' : World) : Prop where
  os : w'.os = w.os
  tape : w'.tape = w.tape
  output : w'.output = w.output
  size : w.heap.size ≤ w'.heap.size
  block : ∀ k, k < w.heap.size → ¬ ok k → w'.heap[k]? = w.heap[k]?
theorem Wr.refl (ok : Nat → Prop) (w : World) : Wr ok w w := ⟨rfl, rfl, rfl, Nat.le_refl _, fun _ _ _ => rfl⟩
theorem Wr.trans {ok : Nat → Prop} {w w1 w2 : World} (h : Wr ok w w1) (h2 : Wr ok w1 w2) : Wr ok w w2 :=
  ⟨h2.os.trans h.os, h2.tape.trans h.tape, h2.output.trans h.output, Nat.le_trans h.size h2.size, fun k hk ho => (h2.block k (Nat.lt_of_lt_of_le hk h.size) ho).trans (h.block k hk ho)⟩
theorem Wr.wide {ok ok' : Nat → Prop} {w w1 : World} (h : Wr ok w w1) (hk : ∀ k, ok k → ok' k) : Wr ok' w w1 := ⟨h.os, h.tape, h.output, h.size, fun k hl ho => h.block k hl (fun h2 => ho (hk k h2))⟩
theorem Wr.set {ok : Nat → Prop} {w : World} {b o : Nat} {v : Value} (h : ok b) : Wr ok w (w.setCell ⟨b, o, none⟩ v) :=
  ⟨rfl, rfl, rfl, by simp [World.setCell], fun k hk ho => Below.heap_setCell _ _ _ _ (by show k ≠ b; rintro rfl; exact ho h)⟩
theorem Wr.outside {ok : Nat → Prop} {w w' : World} {lo hi : Nat} (h : Wr ok w w') (hok : ∀ k, ok k → lo ≤ k ∧ k < hi) : Outside lo hi w w' :=
  ⟨h.os, h.tape, h.output, h.size, fun k hk ho => h.block k hk (fun h2 => by have := hok k h2; omega)⟩
end Go.Proofs.Ytenpjddjmhjdoaa.M
