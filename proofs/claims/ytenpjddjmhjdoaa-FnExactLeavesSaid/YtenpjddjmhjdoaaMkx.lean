/- Kinds whose parts lie apart, to the bottom: rows whose elements are apart, structs whose fields are apart. No condition. -/
import Derived.Test.YtenpjddjmhjdoaaMown
namespace Go.Proofs.Ytenpjddjmhjdoaa.M
open Go.RowKit Go.Proofs.YtenpjddjmhjdoaaW.PrintWords Go.Proofs.YtenpjddjmhjdoaaW.PrintLast Go.Proofs.YtenpjddjmhjdoaaW.PrintMore
set_option linter.unusedVariables false
set_option linter.unusedSimpArgs false
theorem Wr.of_below {ok : Nat → Prop} {w w' : World} (hb : Below w.heap.size w w') : Wr ok w w' := ⟨hb.os, hb.tape, hb.output, hb.size, fun k hk _ => hb.block k hk⟩
theorem Bx.wr {ok : Nat → Prop} {w w' : World} {b t : Nat} {cs : Array Value} (h : Bx w b t cs) (p : Wr ok w w') (hn : ¬ ok b) : Bx w' b t cs := ⟨(p.block b (blk_lt h.h) hn).trans h.h⟩
theorem Wr.bel {ok : Nat → Prop} {w w1 w2 : World} (h : Wr ok w w1) (hb : Below w.heap.size w1 w2) : Wr ok w w2 := ⟨hb.os.trans h.os, hb.tape.trans h.tape, hb.output.trans h.output, Nat.le_trans h.size hb.size, fun k hk ho => (hb.block k hk).trans (h.block k hk ho)⟩
theorem Bx.bel {w w' : World} {n b t : Nat} {cs : Array Value} (h : Bx w b t cs) (hb : Below n w w') (hn : b < n) : Bx w' b t cs := ⟨(hb.block b hn).trans h.h⟩
theorem Bx.grown {w w' : World} {b t : Nat} {row : Option Nat} {cs : Array Value} (h : Bx w b t cs) (hg : w.grownBy w' row) (hn : some b ≠ row) : Bx w' b t cs := ⟨blk_grown h.h hg hn⟩
theorem yesN {α : Type} {c : Prop} [Decidable c] {o : Option α} {y : α} (h : (if c then o else none) = some y) : c ∧ o = some y := by
  by_cases hc : c
  · rw [if_pos hc] at h; exact ⟨hc, h⟩
  · rw [if_neg hc] at h; cases h
theorem Below.ofWr {ok : Nat → Prop} {w W W' : World} (hb : Below w.heap.size w W) (h : Wr ok W W') (hok : ∀ k, ok k → w.heap.size ≤ k) : Below w.heap.size w W' :=
  ⟨h.os.trans hb.os, h.tape.trans hb.tape, h.output.trans hb.output, Nat.le_trans hb.size h.size, fun k hk => (h.block k (Nat.lt_of_lt_of_le hk hb.size) (fun h2 => by have := hok k h2; omega)).trans (hb.block k hk)⟩
section
variable {P : Program} {ops : Array Oper} {Q : Exit → Act → World → Prop} {rest : List Oper} {oi : Oper} {a : Act} {w : World} {cs : Array Value}
/-- A variable that is made: zeros. -/
theorem alb {t n : Nat} (N : Tmp) (hd : oi.dst = some N) (hg : oi.guard = none) (ho : oi.op = .alloc t) (hz : (P.info? t).map (fun i => (i.zero, i.size)) = some (some (.agg cs), n))
    (k : ∀ b w1, Bx w1 b t cs → Below w.heap.size w w1 → w.heap.size ≤ b → b < w1.heap.size → wpList P ops Q rest (a.put (some N) (.pointer (some ⟨b, 0, none⟩))) w1) : wpList P ops Q (oi :: rest) a w := by
  obtain ⟨z1, z2⟩ := zero_of_info hz
  refine wpList_plain hg fun K hK => ?_
  have hrun : (execOp a.eval oi).run P w = .ok (.value (.pointer (some ⟨w.heap.size, 0, none⟩))) (w.alloc (.cells cs t)) := by
    unfold execOp
    simp only [ho, Instr.alloc, Sem.run_bind, z1 w, Result.andThen_ok]
    rfl
  unfold Oper.wp
  rw [hrun, Oper.upon_value, hd]
  exact hK _ _ (k _ _ ⟨blk_new w _⟩ (below_alloc (Below.refl _ _) _) (Nat.le_refl _) (by simp))
end
theorem Wr.one {w : World} {b o : Nat} {v : Value} : Wr (fun z => z = b) w (w.setCell ⟨b, o, none⟩ v) := Wr.set (ok := fun z => z = b) rfl
theorem Wr.sets5 {w : World} {b : Nat} {v0 v1 v2 v3 v4 : Value} : Wr (fun z => z = b) w (((((w.setCell ⟨b, 0, none⟩ v0).setCell ⟨b, 1, none⟩ v1).setCell ⟨b, 2, none⟩ v2).setCell ⟨b, 3, none⟩ v3).setCell ⟨b, 4, none⟩ v4) :=
  (((Wr.one.trans Wr.one).trans Wr.one).trans Wr.one).trans Wr.one
theorem Below.sets5 {w W : World} {b : Nat} {v0 v1 v2 v3 v4 : Value} (hb : Below w.heap.size w W) (hg : w.heap.size ≤ b) : Below w.heap.size w (((((W.setCell ⟨b, 0, none⟩ v0).setCell ⟨b, 1, none⟩ v1).setCell ⟨b, 2, none⟩ v2).setCell ⟨b, 3, none⟩ v3).setCell ⟨b, 4, none⟩ v4) :=
  Below.ofWr hb Wr.sets5 (fun z hz => by rw [hz]; exact hg)
theorem heap_sets5 {w : World} {b z : Nat} {v0 v1 v2 v3 v4 : Value} (h : z ≠ b) : (((((w.setCell ⟨b, 0, none⟩ v0).setCell ⟨b, 1, none⟩ v1).setCell ⟨b, 2, none⟩ v2).setCell ⟨b, 3, none⟩ v3).setCell ⟨b, 4, none⟩ v4).heap[z]? = w.heap[z]? := by
  rw [Below.heap_setCell _ _ _ _ h, Below.heap_setCell _ _ _ _ h, Below.heap_setCell _ _ _ _ h, Below.heap_setCell _ _ _ _ h, Below.heap_setCell _ _ _ _ h]
theorem Bx.sets5 {w : World} {b t : Nat} {a0 a1 a2 a3 a4 v0 v1 v2 v3 v4 : Value} (h : Bx w b t #[a0, a1, a2, a3, a4]) : Bx (((((w.setCell ⟨b, 0, none⟩ v0).setCell ⟨b, 1, none⟩ v1).setCell ⟨b, 2, none⟩ v2).setCell ⟨b, 3, none⟩ v3).setCell ⟨b, 4, none⟩ v4) b t #[v0, v1, v2, v3, v4] :=
  ⟨blk_set (blk_set (blk_set (blk_set (blk_set h.h 0 _) 1 _) 2 _) 3 _) 4 _⟩
namespace Kx
/-- A row whose elements lie apart. -/
def sl {α : Type} (e : Nat) (d : Kd α) : Kd (List α) where
  sz := 1
  E := e :: d.E
  K := (Kd.slice e d).K
  M := fun w base ok xs cs => ∃ v, cs = [v] ∧ Kd.S d e w base ok v xs
  K_len := (Kd.slice e d).K_len
  K_one := (Kd.slice e d).K_one
  K_below := (Kd.slice e d).K_below
  K_of_M := by
    rintro w base ok x cs ⟨v, rfl, h⟩
    obtain ⟨A, c, rfl, hl, hr⟩ := Kd.S_reads h
    exact ⟨A, c, rfl, hl, hr⟩
  M_mono := by
    rintro w base ok ok' x cs hok ⟨v, rfl, h⟩
    exact ⟨v, rfl, Kd.S_mono h hok⟩
  M_bound := by
    rintro w base ok x cs ⟨v, rfl, h⟩
    exact ⟨v, rfl, Kd.S_bound h⟩
  M_move := by
    rintro w w1 base ok x cs hm ⟨v, rfl, h⟩
    exact ⟨v, rfl, Kd.S_move h hm⟩
  M_lower := by
    rintro w base base' ok x cs hb ⟨v, rfl, h⟩
    exact ⟨v, rfl, Kd.S_lower h hb⟩
/-- A field, and the others, apart. -/
def pr {α β : Type} (a : Kd α) (b : Kd β) : Kd (α × β) where
  sz := a.sz + b.sz
  E := a.E ++ b.E
  K := (Kd.pair a b).K
  M := fun w base ok x cs => ∃ (f : Nat → Bool) (c0 c1 : List Value), cs = c0 ++ c1 ∧ a.M w base (fun k => ok k ∧ f k = false) x.1 c0 ∧ b.M w base (fun k => ok k ∧ f k = true) x.2 c1
  K_len := (Kd.pair a b).K_len
  K_one := (Kd.pair a b).K_one
  K_below := (Kd.pair a b).K_below
  K_of_M := by
    rintro w base ok x cs ⟨f, c0, c1, rfl, h0, h1⟩
    exact ⟨c0, c1, rfl, a.K_of_M h0, b.K_of_M h1⟩
  M_mono := by
    rintro w base ok ok' x cs hok ⟨f, c0, c1, rfl, h0, h1⟩
    exact ⟨f, c0, c1, rfl, a.M_mono (fun k hk => ⟨hok k hk.1, hk.2⟩) h0, b.M_mono (fun k hk => ⟨hok k hk.1, hk.2⟩) h1⟩
  M_bound := by
    rintro w base ok x cs ⟨f, c0, c1, rfl, h0, h1⟩
    refine ⟨f, c0, c1, rfl, a.M_mono ?_ (a.M_bound h0), b.M_mono ?_ (b.M_bound h1)⟩
    · rintro k ⟨⟨h2, hf⟩, h3, h4, q, hq, hc⟩
      exact ⟨⟨h2, h3, h4, q, List.mem_append_left _ hq, hc⟩, hf⟩
    · rintro k ⟨⟨h2, hf⟩, h3, h4, q, hq, hc⟩
      exact ⟨⟨h2, h3, h4, q, List.mem_append_right _ hq, hc⟩, hf⟩
  M_move := by
    rintro w w1 base ok x cs hm ⟨f, c0, c1, rfl, h0, h1⟩
    exact ⟨f, c0, c1, rfl, a.M_move (fun k hk => hm k hk.1) h0, b.M_move (fun k hk => hm k hk.1) h1⟩
  M_lower := by
    rintro w base base' ok x cs hb ⟨f, c0, c1, rfl, h0, h1⟩
    exact ⟨f, c0, c1, rfl, a.M_lower hb h0, b.M_lower hb h1⟩
/-- What is apart is whatever it is besides. -/
structure Wk {α : Type} (a' a : Kd α) : Prop where
  sz : a'.sz = a.sz
  m : ∀ {w base ok x cs}, a'.M w base ok x cs → a.M w base ok x cs
theorem Wk.refl {α : Type} (a : Kd α) : Wk a a := ⟨rfl, fun h => h⟩
theorem Wk.R {α : Type} {a' a : Kd α} (h : Wk a' a) {e : Nat} {w : World} {base : Nat} {ok : Nat → Prop} {v : Value} {xs : List α} (hr : a'.R e w base ok v xs) : a.R e w base ok v xs := Kd.R_imp h.sz (fun _ _ _ _ _ hp => h.m hp) hr
theorem Wk.S {α : Type} {a' a : Kd α} (h : Wk a' a) {e : Nat} {w : World} {base : Nat} {ok : Nat → Prop} {v : Value} {xs : List α} (hr : Kd.S a' e w base ok v xs) : Kd.S a e w base ok v xs := by
  obtain ⟨f, hr⟩ := hr
  exact ⟨f, Kd.R_imp (d := Kd.tag f a') (d' := Kd.tag f a) h.sz (fun _ _ _ _ _ hp => h.m hp) hr⟩
theorem Wk.sl {α : Type} {a' a : Kd α} (h : Wk a' a) (e : Nat) : Wk (sl e a') (Kd.slice e a) := ⟨rfl, by
  rintro w base ok x cs ⟨v, rfl, h2⟩
  exact ⟨v, rfl, h.R (Kd.S_R h2)⟩⟩
theorem Wk.slice {α : Type} {a' a : Kd α} (h : Wk a' a) (e : Nat) : Wk (Kd.slice e a') (Kd.slice e a) := ⟨rfl, by
  rintro w base ok x cs ⟨v, rfl, h2⟩
  exact ⟨v, rfl, h.R h2⟩⟩
theorem Wk.pr {α β : Type} {a' a : Kd α} {b' b : Kd β} (h : Wk a' a) (k : Wk b' b) : Wk (pr a' b') (Kd.pair a b) := ⟨by show a'.sz + b'.sz = a.sz + b.sz; rw [h.sz, k.sz], by
  rintro w base ok x cs ⟨f, c0, c1, rfl, h0, h1⟩
  exact ⟨c0, c1, rfl, a.M_mono (fun _ hk => hk.1) (h.m h0), b.M_mono (fun _ hk => hk.1) (k.m h1)⟩⟩
theorem Wk.iso {α β : Type} {a' a : Kd α} (h : Wk a' a) (f : β → α) : Wk (Kd.iso a' f) (Kd.iso a f) := ⟨h.sz, fun h2 => h.m h2⟩
theorem Wk.trans {α : Type} {a b c : Kd α} (h : Wk a b) (k : Wk b c) : Wk a c := ⟨h.sz.trans k.sz, fun h2 => k.m (h.m h2)⟩
/-- A scalar field leads to nothing. -/
theorem pr_one {α β : Type} {enc : α → Value} {h1 : ∀ x, (enc x).oneCell' = true} {b : Kd β} {w : World} {base : Nat} {ok : Nat → Prop} {x : α × β} {cs : List Value} (h : b.M w base ok x.2 cs) : (pr (Kd.scalar enc h1) b).M w base ok x (enc x.1 :: cs) :=
  ⟨fun _ => true, [enc x.1], cs, rfl, rfl, b.M_mono (fun _ hk => ⟨hk, rfl⟩) h⟩
theorem pr_one_open {α β : Type} {enc : α → Value} {h1 : ∀ x, (enc x).oneCell' = true} {b : Kd β} {w : World} {base : Nat} {ok : Nat → Prop} {x : α × β} {cs : List Value} (h : (pr (Kd.scalar enc h1) b).M w base ok x cs) : ∃ c1, cs = enc x.1 :: c1 ∧ b.M w base ok x.2 c1 := by
  obtain ⟨f, c0, c1, rfl, h0, h2⟩ := h
  obtain rfl : c0 = [enc x.1] := h0
  exact ⟨c1, rfl, b.M_mono (fun _ hk => hk.1) h2⟩
open Classical in
/-- Two parts, apart. -/
theorem pr_mk {α β : Type} {a : Kd α} {b : Kd β} {w : World} {base : Nat} {ok ok0 ok1 : Nat → Prop} {x : α × β} {c0 c1 : List Value} (h0 : a.M w base ok0 x.1 c0) (h1 : b.M w base ok1 x.2 c1) (hd : ∀ k, ok0 k → ¬ ok1 k) (hk0 : ∀ k, ok0 k → ok k) (hk1 : ∀ k, ok1 k → ok k) : (pr a b).M w base ok x (c0 ++ c1) :=
  ⟨fun k => decide (ok1 k), c0, c1, rfl, a.M_mono (fun k hk => ⟨hk0 k hk, decide_eq_false (hd k hk)⟩) h0, b.M_mono (fun k hk => ⟨hk1 k hk, decide_eq_true hk⟩) h1⟩
/-- The rows of a kind that is closed in itself. -/
theorem fix_S {α : Type} {F : Kd α → Kd α} {sz : Nat} {E : List Nat} {hs : ∀ n, (Kd.upto F sz E n).sz = sz} {hE : ∀ n q, q ∈ (Kd.upto F sz E n).E → q ∈ E} {n e : Nat} {w : World} {base : Nat} {ok : Nat → Prop} {v : Value} {xs : List α} (h : Kd.S (Kd.upto F sz E n) e w base ok v xs) : Kd.S (Kd.fix F sz E hs hE) e w base ok v xs :=
  Wk.S (a := Kd.fix F sz E hs hE) ⟨hs n, fun {w base ok x cs} hp => (⟨n, hp⟩ : ∃ n, (Kd.upto F sz E n).M w base ok x cs)⟩ h
theorem upto_S_le {α : Type} {F : Kd α → Kd α} {sz : Nat} {E : List Nat} (hm : Kd.Mono F) (hs : ∀ n, (Kd.upto F sz E n).sz = sz) {n m : Nat} (hnm : n ≤ m) {e : Nat} {w : World} {base : Nat} {ok : Nat → Prop} {v : Value} {xs : List α} (h : Kd.S (Kd.upto F sz E n) e w base ok v xs) : Kd.S (Kd.upto F sz E m) e w base ok v xs :=
  Wk.S ⟨by rw [hs n, hs m], fun hp => Kd.upto_M_le hm hs hnm hp⟩ h
theorem bound_of {α : Type} {Q : Nat → α → List Value → Prop} (hq : ∀ n m x c, n ≤ m → Q n x c → Q m x c) {xs : List α} {inner : List Value} {sz : Nat} (h : ∀ j p, xs[j]? = some p → ∃ n, Q n p ((inner.drop (j * sz)).take sz)) : ∃ n, ∀ j p, xs[j]? = some p → Q n p ((inner.drop (j * sz)).take sz) := by
  have h2 : ∀ m, m ≤ xs.length → ∃ n, ∀ j p, j < m → xs[j]? = some p → Q n p ((inner.drop (j * sz)).take sz) := by
    intro m
    induction m with
    | zero => exact fun _ => ⟨0, fun j p hj => by omega⟩
    | succ m ih =>
      intro hm
      obtain ⟨n, hn⟩ := ih (by omega)
      obtain ⟨n2, hn2⟩ := h m _ (List.getElem?_eq_getElem (by omega))
      refine ⟨max n n2, fun j p hj hp => ?_⟩
      by_cases hjm : j = m
      · subst hjm
        rw [List.getElem?_eq_getElem (by omega)] at hp
        injection hp with hp
        subst hp
        exact hq _ _ _ _ (Nat.le_max_right _ _) hn2
      · exact hq _ _ _ _ (Nat.le_max_left _ _) (hn j p (by omega) hp)
  obtain ⟨n, hn⟩ := h2 xs.length (Nat.le_refl _)
  exact ⟨n, fun j p hp => hn j p (List.getElem?_eq_some_iff.1 hp).1 hp⟩
theorem fix_S_back {α : Type} {F : Kd α → Kd α} {sz : Nat} {E : List Nat} {hs : ∀ n, (Kd.upto F sz E n).sz = sz} {hE : ∀ n q, q ∈ (Kd.upto F sz E n).E → q ∈ E} (hm : Kd.Mono F) {e : Nat} {w : World} {base : Nat} {ok : Nat → Prop} {v : Value} {xs : List α} (h : Kd.S (Kd.fix F sz E hs hE) e w base ok v xs) : ∃ n, Kd.S (Kd.upto F sz E n) e w base ok v xs := by
  obtain ⟨f, h0, inner, ho, hl, hr⟩ := h
  obtain ⟨n, hn⟩ := bound_of (Q := fun n (x : α × Nat) c => (Kd.tag f (Kd.upto F sz E n)).M w base (fun k => ok k ∧ some k ≠ v.ownBlock) x c) (fun n m x c hnm hp => Kd.upto_M_le hm hs hnm hp) (fun j p hj => by
    obtain ⟨n, hp⟩ := hr j p hj
    exact ⟨n, hp⟩)
  have e1 : (Kd.upto F sz E n).sz = sz := hs n
  refine ⟨n, f, h0, inner, ?_, ?_, fun j p hj => ?_⟩
  · show w.ownsRow base e (Kd.upto F sz E n).sz v _ inner
    rw [e1]; exact ho
  · show inner.length = _ * (Kd.upto F sz E n).sz
    rw [e1]; exact hl
  · show (Kd.tag f (Kd.upto F sz E n)).M _ _ _ p ((inner.drop (j * (Kd.upto F sz E n).sz)).take (Kd.upto F sz E n).sz)
    rw [e1]; exact hn j p hj
theorem mono_sl {α β : Type} (e : Nat) {G : Kd α → Kd β} (hG : Kd.Mono G) : Kd.Mono (fun d => sl e (G d)) :=
  ⟨fun _ _ _ => rfl, fun d d' hs h => (Kd.mono_slice e hG).K d d' hs h, fun d d' hs h w base ok x cs hp => by
    obtain ⟨v, rfl, h2⟩ := hp
    exact ⟨v, rfl, Wk.S ⟨hG.sz d d' hs, fun hq => hG.M d d' hs h _ _ _ _ _ hq⟩ h2⟩⟩
theorem mono_pr {α β γ : Type} {G : Kd α → Kd β} {H : Kd α → Kd γ} (hG : Kd.Mono G) (hH : Kd.Mono H) : Kd.Mono (fun d => pr (G d) (H d)) :=
  ⟨fun d d' hs => by show (G d).sz + (H d).sz = (G d').sz + (H d').sz; rw [hG.sz d d' hs, hH.sz d d' hs], fun d d' hs h => (Kd.mono_pair hG hH).K d d' hs h, fun d d' hs h w base ok x cs hp => by
    obtain ⟨f, c0, c1, rfl, h0, h1⟩ := hp
    exact ⟨f, c0, c1, rfl, hG.M d d' hs h _ _ _ _ _ h0, hH.M d d' hs h _ _ _ _ _ h1⟩⟩
theorem sub_sl {α β : Type} {E : List Nat} (e : Nat) {G : Kd α → Kd β} (he : e ∈ E) (hG : Kd.Sub G E) : Kd.Sub (fun d => sl e (G d)) E := fun d h q hq => by
  rcases List.mem_cons.1 hq with rfl | hq
  · exact he
  · exact hG d h q hq
theorem sub_pr {α β γ : Type} {E : List Nat} {G : Kd α → Kd β} {H : Kd α → Kd γ} (hG : Kd.Sub G E) (hH : Kd.Sub H E) : Kd.Sub (fun d => pr (G d) (H d)) E := fun d h q hq => by
  rcases List.mem_append.1 hq with hq | hq
  · exact hG d h q hq
  · exact hH d h q hq
end Kx
end Go.Proofs.Ytenpjddjmhjdoaa.M
