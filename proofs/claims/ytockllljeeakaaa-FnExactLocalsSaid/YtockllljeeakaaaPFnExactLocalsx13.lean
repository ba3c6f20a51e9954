/- What a function comes to, walked by hand. No condition. -/
import Derived.Test.YtockllljeeakaaaPFnExactLocalsx0
import Derived.Test.YtockllljeeakaaaPFnExactLocalsx8
import Derived.Test.YtockllljeeakaaaPFnExactLocalsx11
import Derived.Test.YtockllljeeakaaaPFnExactLocalsx12
import Derived.Test.YtockllljeeakaaaMrow
import Derived.Test.YtockllljeeakaaaMcore
import Derived.Test.YtockllljeeakaaaMcmp
import Derived.Test.YtockllljeeakaaaMlaw
namespace Go.Proofs.Ytockllljeeakaaa.PFnExactLocals
open Go.RowKit Go.Proofs.YtockllljeeakaaaW.PrintWords Go.Proofs.YtockllljeeakaaaW.PrintLast Go.Proofs.YtockllljeeakaaaW.PrintMore Go.Proofs.Ytockllljeeakaaa.M
attribute [local go_sem] max2_int min2_int max_two min_two max_three min_three max_four min_four Go.Proofs.Ytockllljeeakaaa.M.str_gtr Go.Proofs.Ytockllljeeakaaa.M.str_leq Go.Proofs.Ytockllljeeakaaa.M.str_geq   -- for this text's walks alone
set_option linter.unusedVariables false
set_option linter.unusedSimpArgs false
open Go.Lib
/-! Names in order, each once. -/
def Asc (l : List (List Int)) : Prop := l.Pairwise fun a b => cmpB a b < 0
def insB (w : List Int) : List (List Int) → List (List Int)
  | [] => [w]
  | x :: r => if cmpB w x < 0 then w :: x :: r else if w = x then x :: r else x :: insB w r
def uq (l : List (List Int)) : List (List Int) := l.foldr insB []
theorem mem_insB (w x : List Int) : ∀ l, x ∈ insB w l ↔ x = w ∨ x ∈ l
  | [] => by simp [insB]
  | y :: r => by
    rw [insB]
    split
    · simp
    · split
      · rename_i e; subst e; simp
      · rw [List.mem_cons, mem_insB w x r, List.mem_cons]
        exact ⟨fun h => h.elim (fun a => .inr (.inl a)) (fun a => a.elim .inl (fun b => .inr (.inr b))), fun h => h.elim (fun a => .inr (.inl a)) (fun a => a.elim .inl (fun b => .inr (.inr b)))⟩
theorem cmpB_lt (a b : List Int) (h : cmpB a b ≤ 0) (e : a ≠ b) : cmpB a b < 0 := by
  rcases cmpB_range a b with r | r | r
  · omega
  · exact absurd (cmpB_eq r) e
  · omega
theorem asc_insB (w : List Int) : ∀ l, Asc l → Asc (insB w l)
  | [], _ => by simp [insB, Asc]
  | y :: r, h => by
    rw [insB]
    obtain ⟨h1, h2⟩ := List.pairwise_cons.1 h
    split
    · rename_i c
      refine List.pairwise_cons.2 ⟨fun z hz => ?_, h⟩
      rcases List.mem_cons.1 hz with rfl | hz
      · exact c
      · exact (cmpB_le _ _ _ (Int.le_of_lt c) (Int.le_of_lt (h1 z hz))).2 (.inl c)
    · rename_i c
      split
      · exact h
      · rename_i c2
        refine List.pairwise_cons.2 ⟨fun z hz => ?_, asc_insB w r h2⟩
        rcases (mem_insB w z r).1 hz with rfl | hz
        · exact cmpB_lt _ _ (by have := cmpB_swap y z; omega) (fun e => c2 e.symm)
        · exact h1 z hz
theorem asc_uq : ∀ l, Asc (uq l)
  | [] => List.Pairwise.nil
  | x :: l => asc_insB x _ (asc_uq l)
theorem mem_uq (x : List Int) : ∀ l, x ∈ uq l ↔ x ∈ l
  | [] => Iff.rfl
  | y :: l => by
    show x ∈ insB y (uq l) ↔ _
    rw [mem_insB, mem_uq x l, List.mem_cons]
theorem cmpB_irr (a : List Int) : ¬ cmpB a a < 0 := by rw [cmpB_refl]; decide
theorem asc_ext : ∀ {l m : List (List Int)}, Asc l → Asc m → (∀ x, x ∈ l ↔ x ∈ m) → l = m
  | [], [], _, _, _ => rfl
  | [], y :: m, _, _, h => absurd ((h y).2 (List.mem_cons_self ..)) (by simp)
  | x :: l, [], _, _, h => absurd ((h x).1 (List.mem_cons_self ..)) (by simp)
  | x :: l, y :: m, hl, hm, h => by
    obtain ⟨a1, a2⟩ := List.pairwise_cons.1 hl
    obtain ⟨b1, b2⟩ := List.pairwise_cons.1 hm
    obtain rfl : x = y := by
      rcases List.mem_cons.1 ((h x).1 (List.mem_cons_self ..)) with e | e
      · exact e
      · rcases List.mem_cons.1 ((h y).2 (List.mem_cons_self ..)) with e2 | e2
        · exact e2.symm
        · have := b1 x e; have := a1 y e2; have := cmpB_swap x y; omega
    refine congrArg _ (asc_ext a2 b2 fun z => ⟨fun hz => ?_, fun hz => ?_⟩)
    · rcases List.mem_cons.1 ((h z).1 (List.mem_cons_of_mem _ hz)) with e | e
      · subst e; exact absurd (a1 z hz) (cmpB_irr z)
      · exact e
    · rcases List.mem_cons.1 ((h z).2 (List.mem_cons_of_mem _ hz)) with e | e
      · subst e; exact absurd (b1 z hz) (cmpB_irr z)
      · exact e
theorem cp_main : ∀ (l : List Pe) (o : Option (List Int)), Ord l → (∀ a, o = some a → ∀ p ∈ l, cmpB a p.1 ≤ 0) → Asc ((cp o l).map (·.1)) ∧ (∀ a, o = some a → ∀ x ∈ (cp o l).map (·.1), cmpB a x < 0) ∧ ∀ x, x ∈ (cp o l).map (·.1) ↔ x ∈ l.map (·.1) ∧ o ≠ some x
  | [], o, _, _ => ⟨List.Pairwise.nil, fun a _ x hx => absurd hx (by simp [cp]), fun x => by simp [cp]⟩
  | p :: r, o, hs, ho => by
    obtain ⟨h1, h2⟩ := List.pairwise_cons.1 hs
    obtain ⟨ia, ib, ic⟩ := cp_main r (some p.1) h2 (fun a e q hq => by obtain rfl := Option.some.inj e; exact h1 q hq)
    rw [cp]
    by_cases c : o = some p.1
    · rw [if_pos c, c]
      refine ⟨ia, ib, fun x => ?_⟩
      rw [ic, List.map_cons, List.mem_cons]
      exact ⟨fun h => ⟨.inr h.1, h.2⟩, fun h => ⟨h.1.resolve_left (fun e => h.2 (congrArg some e.symm)), h.2⟩⟩
    · rw [if_neg c, List.map_cons]
      refine ⟨List.pairwise_cons.2 ⟨fun x hx => ib _ rfl x hx, ia⟩, fun a e x hx => ?_, fun x => ?_⟩
      · have hl : cmpB a p.1 < 0 := cmpB_lt _ _ (ho a e p (List.mem_cons_self ..)) (fun q => c (by rw [e, q]))
        rcases List.mem_cons.1 hx with rfl | hx
        · exact hl
        · exact (cmpB_le _ _ _ (Int.le_of_lt hl) (Int.le_of_lt (ib _ rfl x hx))).2 (.inl hl)
      · rw [List.mem_cons, ic, List.map_cons, List.mem_cons]
        constructor
        · rintro (rfl | h)
          · exact ⟨.inl rfl, c⟩
          · refine ⟨.inr h.1, fun e => ?_⟩
            obtain ⟨q, hq, rfl⟩ := List.mem_map.1 h.1
            have a1 := ho _ e p (List.mem_cons_self ..)
            have a2 := h1 q hq
            have a3 := cmpB_swap q.1 p.1
            exact h.2 (congrArg some (cmpB_eq (a := p.1) (b := q.1) (by omega)))
        · rintro ⟨rfl | h, h2⟩
          · exact .inl rfl
          · by_cases e : x = p.1
            · exact .inl e
            · exact .inr ⟨h, fun q => e (Option.some.inj q).symm⟩
/-- What is sorted and compacted. -/
theorem cp_uq {ps qs : List Pe} (hp : qs.Perm ps) (hs : Ord qs) : (cp none qs).map (·.1) = uq (ps.map (·.1)) := by
  obtain ⟨a, -, c⟩ := cp_main qs none hs (fun _ h => by cases h)
  refine asc_ext a (asc_uq _) fun x => ?_
  rw [c, mem_uq]
  exact ⟨fun h => (hp.map _).mem_iff.1 h.1, fun h => ⟨(hp.map _).mem_iff.2 h, by simp⟩⟩
/-- Rows that are put to a row. -/
theorem Rw.app {W0 W w1 : World} {base : Nat} {v v1 : Value} {ps qs : List Pe} (h0 : Rw W0 base v ps) (hb : Below W0.heap.size W0 W) (hbase : base ≤ W0.heap.size) (hq : ∀ q ∈ qs, (Kd.int .u8).R 5 W W0.heap.size (fun _ => True) q.2.1 q.1) (hn : (qs.filterMap own1).Nodup) (o : kc.R 22 w1 base (fun _ => True) v1 ((ps.map (·.2)) ++ (qs.map (·.2)))) (hg : W.grownBy w1 v.ownBlock) : Rw w1 base v1 (ps ++ qs) := by
  have h := h0.below hb
  have kp : ∀ p : Pe, (Kd.int .u8).R 5 W base (fun _ => True) p.2.1 p.1 → (Kd.int .u8).R 5 w1 base (fun _ => True) p.2.1 p.1 := fun p hp => Kd.R_mono (Kd.R_grown (ok := fun k => some k ≠ v.ownBlock) (Kd.R_mono (Kd.R_bound hp) fun k hk e => by
    obtain ⟨_, _, _, q, hq1, cells, hq2⟩ := hk
    obtain ⟨c2, hc2⟩ := Kd.R_typed h.o k e.symm
    rw [hc2] at hq2
    injection hq2 with hq2
    injection hq2 with _ hq2
    rw [← hq2] at hq1
    exact absurd hq1 (by decide)) hg (fun _ hk => hk)) (fun _ _ => trivial)
  refine ⟨by rw [List.map_append]; exact o, fun p hp => ?_, ?_⟩
  · rcases List.mem_append.1 hp with hp | hp
    · exact kp p (h.el p hp)
    · exact kp p (Kd.R_lower (hq p hp) hbase)
  · rw [List.filterMap_append]
    refine List.nodup_append.2 ⟨h.nd, hn, fun a ha b hb2 e => ?_⟩
    subst e
    obtain ⟨p, hp, e1⟩ := List.mem_filterMap.1 ha
    obtain ⟨q, hq2, e2⟩ := List.mem_filterMap.1 hb2
    have := (el_lt (h0.el p hp) e1).2
    have := (el_lt (hq q hq2) e2).1
    omega
/-! The function. -/
instance : DecidablePred By := fun l => by unfold By; infer_instance
def mapO {α β : Type} (f : α → Option β) : List α → Option (List β)
  | [] => some []
  | x :: r => (f x).bind fun y => (mapO f r).bind fun ys => some (y :: ys)
theorem mapO_get {α β : Type} {f : α → Option β} : ∀ {l : List α} {ts : List β}, mapO f l = some ts → ts.length = l.length ∧ ∀ (i : Nat) (x : α), l[i]? = some x → f x = ts[i]?
  | [], ts, h => by
    obtain rfl : [] = ts := by simpa [mapO] using h
    exact ⟨rfl, fun i x hx => by simp at hx⟩
  | x :: l, ts, h => by
    obtain ⟨y, hy, h⟩ := bnd h
    obtain ⟨ys, hys, h⟩ := bnd h
    obtain rfl := Option.some.inj h
    obtain ⟨h1, h2⟩ := mapO_get hys
    refine ⟨by simp [h1], fun i z hz => ?_⟩
    cases i with
    | zero => obtain rfl : x = z := by simpa using hz
              simpa using hy
    | succ i => simpa using h2 i z (by simpa using hz)
def nmHd (a b : Int) (l : List Int) : List (List Int) := if a = b then [l] else []
def nmOk (l : List (List Int)) : Bool := decide (l.length < 5864062014805 ∧ ∀ x ∈ l, By x ∧ x.length < 140737488355328)
def impl_Expr_named.f : Nat → Int → Int → List Int → List (List Int) → List (S31) → Int → Option (List (List Int))
  | 0, _, _, _, _, _, _ => none
  | k + 1, a0_0, a0_1, l0_2, l0_3, l0_4, a1 => (mapO (fun x : S31 => impl_Expr_named.f k x.f0 x.f1 x.f2 x.f3 x.f4 a1) l0_4).bind fun ts => if nmOk (nmHd a0_0 a1 l0_2 ++ ts.flatten) = true ∧ l0_4.length < 4611686018427387904 then some (uq (nmHd a0_0 a1 l0_2 ++ ts.flatten)) else none
theorem nmOk_iff (l : List (List Int)) : nmOk l = true ↔ (l.length < 5864062014805 ∧ ∀ x ∈ l, By x ∧ x.length < 140737488355328) := decide_eq_true_iff
theorem nmOk_len {l : List (List Int)} (h : nmOk l = true) : l.length < 5864062014805 := ((nmOk_iff l).1 h).1
theorem nmOk_by {l : List (List Int)} (h : nmOk l = true) {x : List Int} (hx : x ∈ l) : By x := (((nmOk_iff l).1 h).2 x hx).1
theorem nmOk_lt {l : List (List Int)} (h : nmOk l = true) {x : List Int} (hx : x ∈ l) : x.length < 140737488355328 := (((nmOk_iff l).1 h).2 x hx).2
theorem nmOk_pre {a b : List (List Int)} (h : nmOk (a ++ b) = true) : nmOk a = true :=
  (nmOk_iff a).2 ⟨by have := nmOk_len h; rw [List.length_append] at this; omega, fun x hx => ⟨nmOk_by h (List.mem_append_left _ hx), nmOk_lt h (List.mem_append_left _ hx)⟩⟩
theorem nmOk_ps {ps : List Pe} {l : List (List Int)} (h : nmOk l = true) (e : ps.map (·.1) = l) : (∀ p ∈ ps, By p.1) ∧ ps.length < 5864062014805 :=
  ⟨fun p hp => nmOk_by h (by rw [← e]; exact List.mem_map_of_mem hp), by have := nmOk_len h; rw [← e, List.length_map] at this; exact this⟩
theorem el1 {P : Pe → Prop} {q : Pe} (h : P q) : ∀ x ∈ [q], P x := fun x hx => by rw [List.mem_singleton.1 hx]; exact h
theorem flat_take {l : List (List (List Int))} {i : Nat} {t : List (List Int)} (h : l[i]? = some t) : (l.take (i + 1)).flatten = (l.take i).flatten ++ t := by
  rw [List.take_add_one, h]
  simp
theorem flat_pre (l : List (List (List Int))) (i : Nat) : ∃ r, l.flatten = (l.take i).flatten ++ r := ⟨(l.drop i).flatten, by rw [← List.flatten_append, List.take_append_drop]⟩
theorem nmOk_ln {hd : List (List Int)} {ts : List (List (List Int))} {i : Nat} {t : List (List Int)} {ps : List Pe} (h5 : nmOk (hd ++ ts.flatten) = true) (ht : ts[i]? = some t) (hp : ps.map (·.1) = hd ++ (ts.take i).flatten) : ps.length + t.length < 5864062014805 := by
  obtain ⟨r, hr⟩ := flat_pre ts (i + 1)
  rw [hr, flat_take ht, ← List.append_assoc, ← List.append_assoc, ← hp] at h5
  have := nmOk_len (nmOk_pre h5)
  rw [List.length_append, List.length_map] at this
  exact this
theorem copyB {l : List Int} (h : l.length < 140737488355328) : impl_copyBytes.f l = some l := by
  simp [impl_copyBytes.f, h]
theorem fr49 : Fr Try.prog 49 := ⟨_, Try.func49, by kernel_rfl, rfl⟩
theorem fr83 : Fr Try.prog 83 := ⟨_, Try.func83, by kernel_rfl, rfl⟩
theorem fr48 : Fr Try.prog 48 := ⟨_, Try.func48, by kernel_rfl, rfl⟩
theorem nd1 (q : Pe) : ([q].filterMap own1).Nodup := by
  cases e : own1 q with
  | none => rw [List.filterMap_cons_none e]; simp
  | some k => rw [List.filterMap_cons_some e]; simp
theorem NeG {W0 W : World} {base g : Nat} {v : Value} {ps : List Pe} {cs : Array Value} (h : Rw W0 base v ps) (hb : W.heap[g]? = some (.cells cs 31 (0, 0))) (hw : Below W0.heap.size W0 W) : some g ≠ v.ownBlock := fun e => by
  obtain ⟨c, hc⟩ := Kd.R_typed (Kd.R_below h.o hw) g e.symm
  rw [hb] at hc
  injection hc with hc
  injection hc with _ hc
  exact absurd hc (by decide)
theorem lnB (ps qs : List Pe) (h : ps.length + (qs.map (·.1)).length < 5864062014805) : ((ps.map (·.2)).length + (qs.map (·.2)).length) * 24 ≤ 140737488355328 := by
  rw [List.length_map] at *
  rw [List.length_map]
  omega
theorem msr {n i : Nat} (h : i < n) (hn : n < 4611686018427387904) : n - (intOf (.int .i64 (wrap64 ((i : Int) + 1)))).toNat < n - (intOf (.int .i64 (i : Int))).toNat := by
  rw [w64 (x := (i : Int) + 1) (by omega) (by omega)]
  show n - ((i : Int) + 1).toNat < n - (i : Int).toNat
  omega
theorem rowC {W : World} {base c : Nat} {A : Option Addr} {n : Nat} {ps : List Pe} (h : Rw W base (.slice A n c) ps) : ReadsRow (fun (x : OC) (cs : List Value) => cs = [x.1]) kc.sz W A n (ps.map (·.2)) := by
  obtain ⟨rfl, _, h3⟩ := Kd.R_reads' h.o
  exact h3
set_option maxHeartbeats 8000000 in
set_option maxRecDepth 100000 in
theorem impl_Expr_named.calls (k : Nat) : ∀ (a0_0 : Int) (a0_1 : Int) (A0_2 : Option Addr) (c0_2 : Nat) (l0_2 : List Int) (A0_3 : Option Addr) (c0_3 : Nat) (l0_3 : List (List Int)) (A0_4 : Option Addr) (c0_4 : Nat) (l0_4 : List (S31)) (a1 : Int) (r : List (List Int)) (w : World) (hr0_2 : Kd.C (Kd.int .u8) w A0_2 l0_2.length l0_2) (hc0_2 : l0_2.length ≤ c0_2) (hr0_3 : Kd.C (Kd.slice 5 (Kd.int .u8)) w A0_3 l0_3.length l0_3) (hc0_3 : l0_3.length ≤ c0_3) (hr0_4 : Kd.C k31 w A0_4 l0_4.length l0_4) (hc0_4 : l0_4.length ≤ c0_4) (h : impl_Expr_named.f k a0_0 a0_1 l0_2 l0_3 l0_4 a1 = some r),
  Calls Try.prog 49 #[.agg #[.int .i64 a0_0, .int .i64 a0_1, .slice A0_2 l0_2.length c0_2, .slice A0_3 l0_3.length c0_3, .slice A0_4 l0_4.length c0_4], .int .i64 a1] w fun e w' => ∃ (v : Value) (ps : List Pe), e = .returned v ∧ Rw w' w.heap.size v ps ∧ ps.map (·.1) = r ∧ Below w.heap.size w w' := by
 induction k using Nat.strongRecOn with
 | _ k ih =>
 intro a0_0 a0_1 A0_2 c0_2 l0_2 A0_3 c0_3 l0_3 A0_4 c0_4 l0_4 a1 r w hr0_2 hc0_2 hr0_3 hc0_3 hr0_4 hc0_4 h
 cases k with
 | zero => exact absurd h (by simp [impl_Expr_named.f])
 | succ k =>
 rw [impl_Expr_named.f] at h
 obtain ⟨ts, hts, h⟩ := bnd h
 obtain ⟨hd, hhd⟩ : ∃ y, y = nmHd a0_0 a1 l0_2 := ⟨_, rfl⟩
 rw [← hhd] at h
 by_cases hok0 : nmOk (hd ++ ts.flatten) = true ∧ l0_4.length < 4611686018427387904
 case neg => rw [if_neg hok0] at h; cases h
 rw [if_pos hok0] at h
 have LK := Aside0.mk hok0.2
 have hok := hok0.1
 clear hok0
 obtain rfl := Option.some.inj h
 clear h
 obtain ⟨htl, htg⟩ := mapO_get hts
 have TG := Aside0.mk (show ∀ i : Nat, i < l0_4.length → ∃ t, ts[i]? = some t ∧ impl_Expr_named.f k (rd_T31 l0_4 (i : Int)).f0 (rd_T31 l0_4 (i : Int)).f1 (rd_T31 l0_4 (i : Int)).f2 (rd_T31 l0_4 (i : Int)).f3 (rd_T31 l0_4 (i : Int)).f4 a1 = some t from fun i hi => by
   have e0 : l0_4[i]? = some (rd_T31 l0_4 (i : Int)) := by
     show _ = some (l0_4.getD (i : Int).toNat z31)
     rw [Int.toNat_natCast, List.getD_eq_getElem?_getD, List.getElem?_eq_getElem hi]; rfl
   have e1 := htg i _ e0
   refine ⟨ts[i]'(by omega), List.getElem?_eq_getElem _, ?_⟩
   rw [e1]
   exact List.getElem?_eq_getElem _)
 have TL := Aside0.mk htl
 have OK := Aside0.mk hok
 have HH := Aside0.mk hhd
 clear hts htl htg hok hhd
 have HR0_2 := Aside0.mk hr0_2
 have HC0_2 := Aside0.mk hc0_2
 have HR0_4 := Aside0.mk hr0_4
 have HC0_4 := Aside0.mk hc0_4
 clear hr0_2 hc0_2 hr0_3 hc0_3 hr0_4 hc0_4
 have HB := Bw.refl w
 go_enter Try.func49, Try.ntmps49
 go_upto_if 12 with (first | ((with_reducible refine gate_dst (N := 2) rfl ?_); refine bxb (bs := #[.int .i64 a0_0, .int .i64 a0_1, .slice A0_2 l0_2.length c0_2, .slice A0_3 l0_3.length c0_3, .slice A0_4 l0_4.length c0_4]) 2 rfl rfl rfl rfl ?_; intro gb w1 BX hb hge hlt; replace HB := Bw.sw w hb; clear hb hge hlt; simp only [Act.put, List.setIfInBounds_toArray, List.set_cons_zero, List.set_cons_succ]; have hbx := blk5 BX.h; obtain ⟨hc0, hc1, hc2, hc3, hc4, hf0, hf1, hf2, hf3, hf4⟩ := hbx) | ((with_reducible refine gate_dst (N := 8) rfl ?_); refine Kd.R_lit kc _ 22 ?hg (N := 8) ?hd (xs := ([] : List OC)) (inner := []) (ok := fun _ => True) (okp := fun _ => True) ?hr ?hp (fun _ hk => hk) trivial (Below.refl _ _) (Nat.le_refl _) (by simp) ?_; (case hd => rfl); (case hg => rfl); (case hr => first | (go_simp; done) | (go_simp; rfl)); (case hp => exact (Reps.none _ _)); intro v8 w2 ho hb hg_ hnew_; clear hg_ hnew_; have RW0 := Aside0.mk (Rw.mk (ps := []) (Kd.R_lower ho (bzz w)) (fun p hp => by simp at hp) (by simp) : Rw w2 w.heap.size v8 []); replace BX := BX.b hb; replace HB := Bw.sw w hb; have BZ := Aside0.mk (show w.heap.size ≤ w2.heap.size from HB.out.size); clear hb ho; clear hc0 hc1 hc2 hc3 hc4 hf0 hf1 hf2 hf3 hf4; obtain ⟨hc0, hc1, hc2, hc3, hc4, hf0, hf1, hf2, hf3, hf4⟩ := blk5 BX.h))
 (try simp only [Act.put, List.setIfInBounds_toArray, List.set_cons_zero, List.set_cons_succ])
 go_cut [5] (fun v5 wc => ∃ ps : List Pe, Aside0 (Rw wc w.heap.size v5 ps) ∧ Aside0 (ps.map (·.1) = hd) ∧ Bx wc gb 31 #[.int .i64 a0_0, .int .i64 a0_1, .slice A0_2 l0_2.length c0_2, .slice A0_3 l0_3.length c0_3, .slice A0_4 l0_4.length c0_4] ∧ Bw w wc)
 case first =>
  by_cases c : a0_0 = a1
  · have cb0 : (a0_0 == a1) = true := beq_iff_eq.mpr c
    have cb1 : (a0_0 != a1) = false := bne_eq_false_iff_eq.mpr c
    obtain rfl : hd = [l0_2] := by rw [HH.out, nmHd, if_pos c]
    have BL := Aside0.mk (nmOk_lt OK.out (x := l0_2) (by simp))
    clear c
    (first | rw [cb0] | (simp only [i64_w, i32_w]; rw [cb0]) | skip)
    go_wp2_with (first
      | ((with_reducible refine gg (f := 83) (some 16) rfl rfl rfl fr83 ?_); refine onc (impl_copyBytes.calls _ _ l0_2 l0_2 _ (cb HR0_2) HC0_2.out (copyB BL.out)) rfl ?_; rintro e w9 ⟨v16, rfl, ho, hb⟩; refine ⟨_, rfl, ?_⟩; have hu1 : v16.oneCell' = true := (by obtain ⟨A_, c_, e_⟩ := Kd.R_slice ho; rw [e_]; rfl); have RU := Aside0.mk ho; have BQ := Aside0.mk hb; replace BX := BX.b hb; replace HB := Bw.sw w hb; clear ho hb; obtain ⟨A16, c16, e16⟩ := Kd.R_slice RU.out; subst e16)
      | ((with_reducible refine gate_builtin (b := .append) (xs := #[.tmp 13, .tmp 17]) rfl ?_); at_builtin; refine Kd.R_append kc (w0 := w) w.heap.size rfl (.tmp 13) (.tmp 17) 23 22 (.slice none 0 0) 24 rfl Try.underlying23 info22 rfl (by decide) (by omega) v8 [] ⟨.slice A16 l0_2.length c16, hu1⟩ [.slice A16 l0_2.length c16] (fun _ => True) (fun k_ => some k_ ≠ v8.ownBlock) rfl rfl rfl (fun _ hk => ⟨trivial, hk⟩) (fun _ _ => trivial) (Kd.R_below RW0.out.o BQ.out) bw (bzz w) ?aL ?_; (case aL => simp only [List.length_nil]; omega); intro v18 w10 ho hb hg hat; clear hat; have HO := Aside0.mk ho; have HG := Aside0.mk hg; have HB2 := Aside0.mk hb; clear ho hb hg))
    have RW1 := Aside0.mk (Rw.app RW0.out BQ.out BZ.out (qs := [(l0_2, ⟨.slice A16 l0_2.length c16, hu1⟩)]) (el1 RU.out) (nd1 _) HO.out HG.out)
    replace BX := (show Bx w10 gb 31 #[.int .i64 a0_0, .int .i64 a0_1, .slice A0_2 l0_2.length c0_2, .slice A0_3 l0_3.length c0_3, .slice A0_4 l0_4.length c0_4] from ⟨blk_grown BX.h HG.out (NeG RW0.out BX.h BQ.out)⟩)
    replace HB := Bw.mk (w := w) HB2.out

    go_meet
    case rel => exact ⟨_, RW1, ⟨rfl⟩, BX, HB⟩
  · have cb0 : (a0_0 == a1) = false := beq_eq_false_iff_ne.mpr c
    have cb1 : (a0_0 != a1) = true := bne_iff_ne.mpr c
    obtain rfl : hd = [] := by rw [HH.out, nmHd, if_neg c]
    (first | rw [cb0] | (simp only [i64_w, i32_w]; rw [cb0]) | skip)
    go_wp2
    go_meet
    case rel => exact ⟨_, RW0, ⟨rfl⟩, BX, HB⟩
 case rest =>
  as_aux_lemma =>
  try clear hc0 hc1 hc2 hc3 hc4 hf0 hf1 hf2 hf3 hf4
  obtain ⟨ps0, RW0, PS0, BX, HB⟩ := hcut
  obtain ⟨hc0, hc1, hc2, hc3, hc4, hf0, hf1, hf2, hf3, hf4⟩ := blk5 BX.h
  go_wp2
  go_loopw [5, 22] (fun v5 v22 wr => ∃ (i : Nat) (ps : List Pe), i ≤ l0_4.length ∧ v22 = .int .i64 i ∧ Aside0 (Rw wr w.heap.size v5 ps) ∧ Aside0 (ps.map (·.1) = hd ++ (ts.take i).flatten) ∧ Bw w wr) (fun _ v22 _ => l0_4.length - (intOf v22).toNat)
  case atStart => exact ⟨0, ps0, Nat.zero_le _, rfl, RW0, ⟨by rw [PS0.out]; simp⟩, HB⟩
  case round =>
    as_aux_lemma =>
    clear RW0 PS0 HB
    try clear hc0 hc1 hc2 hc3 hc4 hf0 hf1 hf2 hf3 hf4
    obtain ⟨i, ps, hi, rfl, RW, PS, HB⟩ := hrel
    by_cases hlt : i < l0_4.length
    · obtain ⟨t, htt, hft⟩ := TG.out i hlt
      have TT := Aside0.mk htt
      have FT := Aside0.mk hft
      clear htt hft
      obtain ⟨ad, D2, d2, D3, d3, D4, d4, e4, x0, x1, x2, x3, x4, y2, z2, y3, z3, y4, z4⟩ := at_T31 HR0_4.out (i : Int) (by omega) (by omega)
      cases e4
      replace x0 := (HB.out.cell (World.block_lt_of_cell? w _ x0)).trans x0
      replace x1 := (HB.out.cell (World.block_lt_of_cell? w _ x1)).trans x1
      replace x2 := (HB.out.cell (World.block_lt_of_cell? w _ x2)).trans x2
      replace x3 := (HB.out.cell (World.block_lt_of_cell? w _ x3)).trans x3
      replace x4 := (HB.out.cell (World.block_lt_of_cell? w _ x4)).trans x4
      have Y2 := Aside0.mk y2; have Z2 := Aside0.mk z2; have Y3 := Aside0.mk y3; have Z3 := Aside0.mk z3; have Y4 := Aside0.mk y4; have Z4 := Aside0.mk z4
      clear y2 z2 y3 z3 y4 z4
      have p1 : ((i : Int) < (l0_4.length : Int)) = True := eq_true (by omega)
      have p3 : wrap64 ((i : Int) + 1) = (i : Int) + 1 := w64 (by omega) (by have := LK.out; omega)
      have p2 : (0 ≤ (i : Int)) = True := eq_true (by omega)
      obtain ⟨xx, hxx⟩ : ∃ y, y = rd_T31 l0_4 (i : Int) := ⟨_, rfl⟩
      simp only [Int.toNat_natCast] at x0 x1 x2 x3 x4
      rw [← hxx] at x0 x1 x2 x3 x4 Y2 Y3 Y4 Z2 Z3 Z4 FT
      have LN := Aside0.mk (nmOk_ln OK.out TT.out PS.out)
      clear hxx
      go_wp2_with (first
        | ((with_reducible refine gate_dst (N := 7) rfl ?_); refine alst (bs := #[.int .i64 xx.f0, .int .i64 xx.f1, .slice D2 xx.f2.length d2, .slice D3 xx.f3.length d3, .slice D4 xx.f4.length d4]) (cs := #[.int .i64 0, .int .i64 0, .slice none 0 0, .slice none 0 0, .slice none 0 0]) 7 rfl rfl rfl rfl rfl rfl (fun _ => rfl) (fun _ => rfl) (by kernel_rfl) rfl (by simp [Value.oneCell']) ?_; intro gl wl BY hbl hle hlt2; replace RW := Aside0.mk (RW.out.below hbl); replace HB := Bw.sw w hbl; have BZ := Aside0.mk (show w.heap.size ≤ wl.heap.size from HB.out.size); clear hbl hle hlt2; obtain ⟨gc0, gc1, gc2, gc3, gc4, gf0, gf1, gf2, gf3, gf4⟩ := blk5 BY.h; simp only [Act.put, List.setIfInBounds_toArray, List.set_cons_zero, List.set_cons_succ])
        | ((with_reducible refine gg (f := 49) (some 29) rfl rfl rfl fr49 ?_); refine onc (ih k (by omega) xx.f0 xx.f1 _ _ xx.f2 _ _ xx.f3 _ _ xx.f4 a1 t _ (Kd.C_below Z2.out HB.out) Y2.out (Kd.C_below Z3.out HB.out) Y3.out (Kd.C_below Z4.out HB.out) Y4.out FT.out) rfl ?_; rintro e we ⟨v29, qs, rfl, hq, rfl, hb⟩; refine ⟨_, rfl, ?_⟩; have RQ := Aside0.mk hq; have LB := Aside0.mk (lnB ps qs LN.out); have BQ := Aside0.mk hb; replace HB := Bw.sw w hb; clear hq hb; obtain ⟨A29, c29, e29⟩ := Kd.R_slice RQ.out.o; subst e29)
        | ((with_reducible refine gate_builtin (b := .append) (xs := #[.tmp 26, .tmp 29]) rfl ?_); at_builtin; refine Kd.R_append_rows kc (Rr := fun (x : OC) (cs : List Value) => cs = [x.1]) (w0 := w) w.heap.size rfl (.tmp 26) (.tmp 29) 23 22 (.slice none 0 0) 24 rfl Try.underlying23 info22 rfl (by decide) (by omega) u5 (ps.map (·.2)) (qs.map (·.2)) A29 _ c29 (fun _ => True) (fun _ => False) rfl rfl (Kd.R_below RW.out.o BQ.out) (rowC RQ.out) (fun _ _ h => h) (fun _ h => h.elim) (fun _ _ => trivial) bw (bzz w) ?aL ?_; (case aL => have hl_ := LB.out; simp only [List.length_map] at hl_ ⊢; omega); intro v30 w10 ho hb hg hat; have RW1 := Aside0.mk (Rw.app RW.out BQ.out BZ.out RQ.out.el RQ.out.nd ho hg); replace HB := Bw.mk (w := w) hb; clear ho hb hg hat))
      go_roundw
      case rel => exact ⟨i + 1, ps ++ qs, by omega, by go_num, RW1, ⟨by rw [List.map_append, PS.out, flat_take TT.out, List.append_assoc]⟩, HB⟩
      case measure => (with_reducible exact msr hlt LK.out)
    · obtain rfl : i = l0_4.length := by omega
      have p1 : ((l0_4.length : Int) < (l0_4.length : Int)) = False := eq_false (by omega)
      have PA := Aside0.mk (show ps.map (·.1) = hd ++ ts.flatten by rw [PS.out, ← TL.out, List.take_length])
      have BYS := Aside0.mk (nmOk_ps OK.out PA.out).1
      have SZ := Aside0.mk (nmOk_ps OK.out PA.out).2
      clear PS
      go_wp2_with (first
        | ((with_reducible refine gate_callee (f := 84) rfl ?_); refine goesL_ (some 33) rfl rfl Try.func84 (by kernel_rfl) rfl #[u5, .func (.func 85) #[] #[]] rfl (by (try simp only [List.map_toArray, List.map_cons, List.map_nil]); first | done | rfl) ?_; refine (sort_c sortL rfl w _ u5 ps RW.out bw BYS.out (by have := SZ.out; omega)).mono ?_; rintro e we ⟨rfl, qs, hp, hs, hr, hb, hk⟩; refine ⟨_, rfl, ?_⟩; have RQ := Aside0.mk hr; have HP := Aside0.mk hp; have HS := Aside0.mk hs; replace HB := Bw.mk (w := w) hb; clear hr hp hs hb hk)
        | ((with_reducible refine gate_callee (f := 86) rfl ?_); refine goesL_ (some 35) rfl rfl Try.func86 (by kernel_rfl) rfl #[u5, .func (.func 87) #[] #[]] rfl (by (try simp only [List.map_toArray, List.map_cons, List.map_nil]); first | done | rfl) ?_; refine (compact_c w _ u5 qs RQ.out bw (fun p hp => BYS.out p (HP.out.mem_iff.1 hp)) (by have := SZ.out; have := HP.out.length_eq; omega)).mono ?_; rintro e we ⟨v35, rfl, hr, hb, hk⟩; refine ⟨_, rfl, ?_⟩; have RZ := Aside0.mk hr; replace HB := Bw.mk (w := w) hb; clear hr hb hk))
      go_ret
      exact ⟨_, _, rfl, RZ.out, by rw [cp_uq HP.out HS.out, PA.out], bw⟩
def impl_Locals.f (k : Nat) (a0_0 : Int) (a0_1 : Int) (l0_2 : List Int) (l0_3 : List (List Int)) (l0_4 : List (S31)) : Option (List (List Int)) := (impl_isExpr.f k a0_0 a0_1 l0_2 l0_3 l0_4).bind fun t => if t = true then impl_Expr_named.f k a0_0 a0_1 l0_2 l0_3 l0_4 6 else some []
set_option maxHeartbeats 8000000 in
set_option maxRecDepth 100000 in
theorem impl_Locals.calls (k : Nat) (a0_0 : Int) (a0_1 : Int) (A0_2 : Option Addr) (c0_2 : Nat) (l0_2 : List Int) (A0_3 : Option Addr) (c0_3 : Nat) (l0_3 : List (List Int)) (A0_4 : Option Addr) (c0_4 : Nat) (l0_4 : List (S31)) (r : List (List Int)) (w : World) (hr0_2 : Kd.C (Kd.int .u8) w A0_2 l0_2.length l0_2) (hc0_2 : l0_2.length ≤ c0_2) (hr0_3 : Kd.C (Kd.slice 5 (Kd.int .u8)) w A0_3 l0_3.length l0_3) (hc0_3 : l0_3.length ≤ c0_3) (hr0_4 : Kd.C k31 w A0_4 l0_4.length l0_4) (hc0_4 : l0_4.length ≤ c0_4) (h : impl_Locals.f k a0_0 a0_1 l0_2 l0_3 l0_4 = some r) :
  Calls Try.prog 13 #[.agg #[.int .i64 a0_0, .int .i64 a0_1, .slice A0_2 l0_2.length c0_2, .slice A0_3 l0_3.length c0_3, .slice A0_4 l0_4.length c0_4]] w fun e w' => ∃ v0_ : Value, e = .returned (v0_) ∧ Kd.S (Kd.slice 5 (Kd.int .u8)) 22 w' w.heap.size (fun _ => True) v0_ r ∧ Below w.heap.size w w' := by
 rw [impl_Locals.f] at h
 obtain ⟨t, ht, h⟩ := bnd h
 have HT := Aside0.mk ht
 have HR0_2 := Aside0.mk hr0_2
 have HC0_2 := Aside0.mk hc0_2
 have HR0_3 := Aside0.mk hr0_3
 have HC0_3 := Aside0.mk hc0_3
 have HR0_4 := Aside0.mk hr0_4
 have HC0_4 := Aside0.mk hc0_4
 clear hr0_2 hc0_2 hr0_3 hc0_3 hr0_4 hc0_4 ht
 have HF := Aside0.mk h
 clear h
 have HB := Bw.refl w
 go_enter Try.func13, Try.ntmps13
 go_upto_if 5 with (first | ((with_reducible refine gate_dst (N := 1) rfl ?_); refine bxb (bs := #[.int .i64 a0_0, .int .i64 a0_1, .slice A0_2 l0_2.length c0_2, .slice A0_3 l0_3.length c0_3, .slice A0_4 l0_4.length c0_4]) 1 rfl rfl rfl rfl ?_; intro gb w1 BX hb hge hlt; replace HB := Bw.sw w hb; clear hb hge hlt; simp only [Act.put, List.setIfInBounds_toArray, List.set_cons_zero, List.set_cons_succ]) | ((with_reducible refine gate_dst (N := 3) rfl ?_); refine ldb (bs := #[.int .i64 a0_0, .int .i64 a0_1, .slice A0_2 l0_2.length c0_2, .slice A0_3 l0_3.length c0_3, .slice A0_4 l0_4.length c0_4]) (some 3) rfl rfl rfl rfl BX ⟨⟨_, Try.underlying31⟩, by kernel_rfl⟩ ?_; simp only [Act.put, List.setIfInBounds_toArray, List.set_cons_zero, List.set_cons_succ]) | ((with_reducible refine gg (f := 48) (some 4) rfl rfl rfl fr48 ?_); refine onc (impl_isExpr.calls k _ _ _ _ _ _ _ _ _ _ _ t _ (cb HR0_2) HC0_2.out (cb HR0_3) HC0_3.out (cb HR0_4) HC0_4.out HT.out) rfl ?_; rintro e w2 ⟨rfl, hb⟩; refine ⟨_, rfl, ?_⟩; replace BX := BX.b hb; replace HB := Bw.sw w hb; clear hb))
 (try simp only [Act.put, List.setIfInBounds_toArray, List.set_cons_zero, List.set_cons_succ])
 cases t with
 | false =>
  obtain rfl : [] = r := by have := HF.out; rw [if_neg (by decide)] at this; exact Option.some.inj this
  go_wp2
  go_ret
  exact ⟨_, rfl, Kd.S_nil _ _ _ _ _, bw⟩
 | true =>
  have h : impl_Expr_named.f k a0_0 a0_1 l0_2 l0_3 l0_4 6 = some r := by have := HF.out; rw [if_pos rfl] at this; exact this
  have HN := Aside0.mk h
  clear h
  go_wp2_with (first
    | ((with_reducible refine gate_dst (N := 6) rfl ?_); refine ldb (bs := #[.int .i64 a0_0, .int .i64 a0_1, .slice A0_2 l0_2.length c0_2, .slice A0_3 l0_3.length c0_3, .slice A0_4 l0_4.length c0_4]) (some 6) rfl rfl rfl rfl BX ⟨⟨_, Try.underlying31⟩, by kernel_rfl⟩ ?_; simp only [Act.put, List.setIfInBounds_toArray, List.set_cons_zero, List.set_cons_succ])
    | ((with_reducible refine gg (f := 49) (some 7) rfl rfl rfl fr49 ?_); refine onc (impl_Expr_named.calls k _ _ _ _ _ _ _ _ _ _ _ 6 r _ (cb HR0_2) HC0_2.out (cb HR0_3) HC0_3.out (cb HR0_4) HC0_4.out HN.out) rfl ?_; rintro e w2 ⟨v7, qs, rfl, hr, rfl, hb⟩; refine ⟨_, rfl, ?_⟩; have RQ := Aside0.mk (hr.lower (bzz w)); replace HB := Bw.sw w hb; clear hb hr))
  go_ret
  exact ⟨_, rfl, RQ.out.S, bw⟩
end Go.Proofs.Ytockllljeeakaaa.PFnExactLocals
