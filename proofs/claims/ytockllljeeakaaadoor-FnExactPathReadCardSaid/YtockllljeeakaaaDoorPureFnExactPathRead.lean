/- The pure statement of FnExactPathRead: both read a path's text, and read the same. No condition. -/
import Derived.Test.YtockllljeeakaaaDoorPFnExactPathReadx0
import Derived.Test.YtockllljeeakaaaDoorPFnExactPathReadx1
import Derived.Test.YtockllljeeakaaaDoorPFnExactPathReadx2
import Derived.Test.YtockllljeeakaaaDoorPFnExactPathReadx3
import Derived.Test.YtockllljeeakaaaDoorPFnExactPathReadx4
import Derived.Test.YtockllljeeakaaaDoorPFnExactPathReadx5
import Derived.Test.YtockllljeeakaaaDoorPFnExactPathReadx6
import Derived.Test.YtockllljeeakaaaDoorPFnExactPathReadx7
import Derived.Test.YtockllljeeakaaaDoorPFnExactPathReadx8
import Derived.Test.YtockllljeeakaaaDoorPFnExactPathReadx9
import Derived.Test.YtockllljeeakaaaDoorPFnExactPathReadx10
import Derived.Test.YtockllljeeakaaaDoorPFnExactPathReadx11
import Derived.Test.YtockllljeeakaaaDoorPFnExactPathReadx12
import Derived.Test.YtockllljeeakaaaDoorPFnExactPathReadx13
import Derived.Test.YtockllljeeakaaaDoorMcore
import Derived.Test.YtockllljeeakaaaDoorMnum
import Derived.Test.YtockllljeeakaaaDoorMopen
namespace Go.Proofs.YtockllljeeakaaaDoor.Pure
open Go.RowKit Go.Proofs.YtockllljeeakaaaDoor.PFnExactPathRead Go.Proofs.YtockllljeeakaaaDoorW.PrintWords Go.Proofs.YtockllljeeakaaaDoorW.PrintLast Go.Proofs.YtockllljeeakaaaDoorW.PrintMore Go.Proofs.YtockllljeeakaaaDoor.M
set_option linter.unusedVariables false
set_option linter.unusedSimpArgs false
/-! steps -/
theorem rdS (xs : List S56) (i : Nat) (h : i < xs.length) : rd_T56 xs (i : Int) = xs[i] := getDI xs _ i h
def stepOk (s : S56) : Bool := if s.f0 = 0 then isName s.f1 && decide (s.f2 = 0) else decide (s.f0 = 1) && decide (s.f1.length = 0) && decide (0 ≤ s.f2 ∧ s.f2 ≤ 39)
def pathOk (l : List S56) : Bool := decide (l.length ≤ 6) && l.all stepOk
/-- A number below a hundred, in decimals. -/
def dec (i : Int) : List Int := if i < 10 then [48 + i] else [48 + i / 10, 48 + i % 10]
theorem dec_len (i : Int) : (dec i).length ≤ 2 := by unfold dec; split <;> simp
/-- A path's text, put behind b. -/
def ptext : List S56 → List Int → List Int
  | [], b => b
  | s :: l, b => ptext l (if s.f0 = 0 then b ++ [46] ++ s.f1 else b ++ [91] ++ dec s.f2 ++ [93])
theorem ptext_len (l : List S56) (b : List Int) (hk : ∀ s ∈ l, s.f1.length ≤ 1048576) : (ptext l b).length ≤ b.length + l.length * 1048580 := by
  induction l generalizing b with
  | nil => simp [ptext]
  | cons s l ih =>
    rw [ptext]
    have h1 := ih (if s.f0 = 0 then b ++ [46] ++ s.f1 else b ++ [91] ++ dec s.f2 ++ [93]) (fun t ht => hk t (List.mem_cons_of_mem _ ht))
    have h2 := hk s List.mem_cons_self
    have h3 := dec_len s.f2
    have h4 : (if s.f0 = 0 then b ++ [46] ++ s.f1 else b ++ [91] ++ dec s.f2 ++ [93]).length ≤ b.length + 1048580 := by
      split <;> simp <;> omega
    simp only [List.length_cons]
    omega
theorem l2d_ten (i : Int) (h0 : 0 ≤ i) (h1 : i < 10) : Ev (fun k => spec_l2digits.f k i) [48 + i] := by
  refine Ev.step (fun _ => spec_l2digits.f.eq_2 ..) (ev_neg (by omega) (ev_pos h1 (ev_is ?_)))
  rw [w64 (x := 48 + i) (by omega) (by omega), show (48 + i) % 256 = 48 + i by omega]
theorem l2d_dec (i : Int) (h0 : 0 ≤ i) (h1 : i ≤ 99) : Ev (fun k => spec_l2digits.f k i) (dec i) := by
  unfold dec
  by_cases h : i < 10
  · rw [if_pos h]; exact l2d_ten i h0 h
  · rw [if_neg h]
    refine Ev.step (fun _ => spec_l2digits.f.eq_2 ..) (ev_neg (by omega) (ev_neg h ?_))
    rw [Int.tdiv_eq_ediv_of_nonneg h0, Int.tmod_eq_emod_of_nonneg h0, w64 (x := i / 10) (by omega) (by omega), w64 (x := 48 + i % 10) (by omega) (by omega), show (48 + i % 10) % 256 = 48 + i % 10 by omega]
    exact Ev.bind (l2d_ten (i / 10) (by omega) (by omega)) (ev_pos (by simp) (Ev.now _))
theorem path_says {l : List S56} (h : pathOk l = true) : l.length ≤ 6 ∧ ∀ s ∈ l, s.f0 = 0 ∨ (0 ≤ s.f2 ∧ s.f2 ≤ 39) := by
  unfold pathOk at h
  rw [Bool.and_eq_true] at h
  refine ⟨of_decide_eq_true h.1, fun s hs => ?_⟩
  have h2 := List.all_eq_true.1 h.2 s hs
  unfold stepOk at h2
  by_cases h0 : s.f0 = 0
  · exact .inl h0
  · rw [if_neg h0, Bool.and_eq_true] at h2
    exact .inr (of_decide_eq_true h2.2)
/-! Paths' texts, read. -/
def stext (s : S56) : List Int := if s.f0 = 0 then 46 :: s.f1 else 91 :: (dec s.f2 ++ [93])
def ptx (l : List S56) : List Int := (l.map stext).flatten
theorem ptext_eq : ∀ (l : List S56) (b : List Int), ptext l b = b ++ ptx l
  | [], b => by simp [ptext, ptx]
  | s :: l, b => by
    rw [ptext, ptext_eq l]
    show _ = b ++ (stext s ++ ptx l)
    unfold stext
    split <;> simp
theorem ptx_snoc (l : List S56) (s : S56) : ptx (l ++ [s]) = ptx l ++ stext s := by simp [ptx]
theorem ptx_app (l m : List S56) : ptx (l ++ m) = ptx l ++ ptx m := by simp [ptx]
theorem ptx_cons (s : S56) (l : List S56) : ptx (s :: l) = stext s ++ ptx l := by simp [ptx]
/-- What a text of steps begins with. -/
theorem ptx_hd : ∀ (l : List S56), ptx l = [] ∨ ∃ r, ptx l = 46 :: r ∨ ptx l = 91 :: r
  | [] => .inl rfl
  | s :: l => by
    right
    rw [ptx_cons]
    unfold stext
    split
    · exact ⟨s.f1 ++ ptx l, .inl rfl⟩
    · exact ⟨(dec s.f2 ++ [93]) ++ ptx l, .inr rfl⟩
theorem rd_at (l : List Int) (i : Nat) (x : Int) (r : List Int) (h : l.drop i = x :: r) : rd l (i : Int) = x := by
  have hi : i < l.length := by
    have := congrArg List.length h
    rw [List.length_drop, List.length_cons] at this
    omega
  rw [M.drop_rd l i hi] at h
  exact (List.cons.inj h).1
theorem l2d_any (n : Nat) : n ≤ 100000 → ∃ t, Ev (fun k => spec_l2digits.f k (n : Int)) t ∧ t.length ≤ n + 1 := by
  induction n using Nat.strongRecOn with
  | ind n ih =>
    intro hn
    by_cases h : n < 10
    · exact ⟨_, l2d_ten (n : Int) (by omega) (by omega), by simp⟩
    · obtain ⟨t, ht, hl⟩ := ih (n / 10) (by omega) (by omega)
      refine ⟨t ++ [(wrap64 (48 + (Int.tmod (n : Int) 10))) % 256], Ev.step (fun _ => spec_l2digits.f.eq_2 ..) (ev_neg (by omega) (ev_neg (by omega) ?_)), by rw [List.length_append, List.length_singleton]; omega⟩
      rw [Int.tdiv_eq_ediv_of_nonneg (by omega : (0 : Int) ≤ (n : Int)), w64 (x := (n : Int) / 10) (by omega) (by omega), show (n : Int) / 10 = ((n / 10 : Nat) : Int) by omega]
      exact Ev.bind ht (ev_pos (by omega) (Ev.now _))
theorem spanD_bd : ∀ (l : List Int) (n : Int), 0 ≤ n → n ≤ 9999 → 0 ≤ (spanD l n).2 ∧ (spanD l n).2 ≤ 9999
  | [], n, h0, h1 => ⟨h0, h1⟩
  | x :: r, n, h0, h1 => by
    rw [spanD]
    split
    · exact spanD_bd r _ (by omega) (by omega)
    · exact ⟨h0, h1⟩
theorem dec_By (n : Int) (h0 : 0 ≤ n) (h1 : n ≤ 99) : By (dec n) := by
  intro x hx
  unfold dec at hx
  split at hx <;> simp at hx <;> omega
theorem cut3 (b : List Int) (i e : Nat) (x : Int) (hi : i < e) (he : e ≤ b.length) (h : rd b (i : Int) = x) : b.take i ++ (x :: (b.take e).drop (i + 1)) = b.take e := by
  have h2 : (b.take e).drop i = x :: (b.take e).drop (i + 1) := by
    rw [M.drop_rd (b.take e) i (by rw [List.length_take]; omega)]
    congr 1
    rw [← h]
    unfold rd
    rw [Int.toNat_natCast, List.getD_eq_getElem?_getD, List.getD_eq_getElem?_getD, List.getElem?_take, if_pos hi]
  rw [← h2]
  conv => rhs; rw [← List.take_append_drop i (b.take e)]
  rw [List.take_take, Nat.min_eq_left (by omega)]
/-- The reference's reading ends, and what it has read has the text that was read. -/
theorem l3_any (b : List Int) (hb : b.length ≤ 1048576) (hy : By b) : ∀ (m i : Nat) (out : List S56), b.length - i ≤ m → i ≤ b.length → out.length ≤ i → (∀ s ∈ out, s.f1.length ≤ 1048576) → ((∀ s ∈ out, s.f0 = 0 ∨ s.f2 ≤ 99) → ptx out = b.take i) →
    ∃ p ok, Ev (fun k => spec_l3read.r k b i out) (p, ok) ∧ p.length ≤ 1048576 ∧ (∀ s ∈ p, s.f1.length ≤ 1048576) ∧ (ok = true → (∀ s ∈ p, s.f0 = 0 ∨ s.f2 ≤ 99) → ptx p = b) := by
  intro m
  induction m with
  | zero =>
    intro i out hm hi ho hk ht
    refine ⟨out, true, Ev.step (fun _ => spec_l3read.r.eq_2 ..) (ev_neg (by omega) (Ev.now _)), by omega, hk, fun _ h => ?_⟩
    rw [ht h, List.take_of_length_le (by omega)]
  | succ m ih =>
    intro i out hm hi ho hk ht
    by_cases hlt : i < b.length
    case neg =>
      refine ⟨out, true, Ev.step (fun _ => spec_l3read.r.eq_2 ..) (ev_neg hlt (Ev.now _)), by omega, hk, fun _ h => ?_⟩
      rw [ht h, List.take_of_length_le (by omega)]
    by_cases c46 : rd b (i : Int) = 46
    · have hs := spanL_le (b.drop (i + 1))
      rw [List.length_drop] at hs
      obtain ⟨e, he⟩ : ∃ e, e = i + 1 + spanL (b.drop (i + 1)) := ⟨_, rfl⟩
      obtain ⟨p, ok, h1, h2, h3, h4⟩ := ih e (out ++ [⟨0, (b.take e).drop (i + 1), 0⟩]) (by omega) (by omega) (by rw [List.length_append, List.length_singleton]; omega)
        (fun s hs => by
          rcases List.mem_append.1 hs with hs | hs
          · exact hk s hs
          · rw [List.mem_singleton.1 hs]
            show ((b.take e).drop (i + 1)).length ≤ _
            rw [List.length_drop, List.length_take]; omega)
        (fun h => by
          rw [ptx_snoc, ht fun s hs => h s (List.mem_append_left _ hs)]
          show b.take i ++ (46 :: (b.take e).drop (i + 1)) = _
          exact cut3 b i e 46 (by omega) (by omega) c46)
      exact ⟨p, ok, Ev.step (fun _ => spec_l3read.r.eq_2 ..) (ev_pos hlt (ev_pos (by omega) (ev_pos c46 (by rw [← he]; exact h1)))), h2, h3, h4⟩
    by_cases c91 : rd b (i : Int) = 91
    case neg => exact ⟨[], false, Ev.step (fun _ => spec_l3read.r.eq_2 ..) (ev_pos hlt (ev_pos (by omega) (ev_neg c46 (ev_neg c91 (Ev.now _))))), by simp, fun s hs => by simp at hs, fun h => by cases h⟩
    have hs := spanD_le (b.drop (i + 1)) 0
    rw [List.length_drop] at hs
    obtain ⟨hn0, hn1⟩ := spanD_bd (b.drop (i + 1)) 0 (by omega) (by omega)
    obtain ⟨e, he⟩ : ∃ e, e = i + 1 + (spanD (b.drop (i + 1)) 0).1 := ⟨_, rfl⟩
    obtain ⟨n, hn⟩ : ∃ n, n = (spanD (b.drop (i + 1)) 0).2 := ⟨_, rfl⟩
    rw [← hn] at hn0 hn1
    by_cases c93 : e < b.length ∧ rd b (e : Int) = 93
    case neg => exact ⟨[], false, Ev.step (fun _ => spec_l3read.r.eq_2 ..) (ev_pos hlt (ev_pos (by omega) (ev_neg c46 (ev_pos c91 (ev_neg (by rw [← he]; exact c93) (Ev.now _)))))), by simp, fun s hs => by simp at hs, fun h => by cases h⟩
    obtain ⟨t, hd, hdl⟩ := l2d_any n.toNat (by omega)
    rw [Int.toNat_of_nonneg hn0] at hd
    by_cases ceq : (strOfNums t).toList = (strOfNums ((b.take e).drop (i + 1))).toList
    case neg => exact ⟨[], false, Ev.step (fun _ => spec_l3read.r.eq_2 ..) (ev_pos hlt (ev_pos (by omega) (ev_neg c46 (ev_pos c91 (ev_pos (by rw [← he]; exact c93) (Ev.bind (by rw [← hn]; exact hd) (ev_neg (by rw [← he]; exact ceq) (Ev.now _)))))))), by simp, fun s hs => by simp at hs, fun h => by cases h⟩
    obtain ⟨p, ok, h1, h2, h3, h4⟩ := ih (e + 1) (out ++ [⟨1, [], n⟩]) (by omega) (by omega) (by rw [List.length_append, List.length_singleton]; omega)
      (fun s hs => by
        rcases List.mem_append.1 hs with hs | hs
        · exact hk s hs
        · rw [List.mem_singleton.1 hs]; simp)
      (fun h => by
        have hnn : n ≤ 99 := (h _ (List.mem_append_right _ (List.mem_singleton.2 rfl))).resolve_left (by show ¬ (1 : Int) = 0; decide)
        have htd : t = dec n := ev_unique hd (l2d_dec n hn0 hnn)
        have hst : (b.take e).drop (i + 1) = dec n := by
          have h9 := str_inj (dec_By n hn0 hnn) (b := (b.take e).drop (i + 1)) (By_drop _ (By_take _ hy))
          rw [← htd, ceq, beq_self_eq_true] at h9
          rw [← htd]
          exact (of_decide_eq_true h9.symm).symm
        rw [ptx_snoc, ht fun s hs => h s (List.mem_append_left _ hs)]
        show b.take i ++ (91 :: (dec n ++ [93])) = _
        have h5 := cut3 b i e 91 (by omega) (by omega) c91
        rw [hst] at h5
        have h6 := cut3 b e (e + 1) 93 (by omega) (by omega) c93.2
        rw [List.drop_eq_nil_of_le (by rw [List.length_take]; omega)] at h6
        rw [← h6, ← h5]
        simp)
    exact ⟨p, ok, Ev.step (fun _ => spec_l3read.r.eq_2 ..) (ev_pos hlt (ev_pos (by omega) (ev_neg c46 (ev_pos c91 (ev_pos (by rw [← he]; exact c93) (Ev.bind (by rw [← hn]; exact hd) (ev_pos (by rw [← he]; exact ceq) (by rw [← he, ← hn]; exact h1)))))))), h2, h3, h4⟩
/-- Spans over what a text of steps holds. -/
theorem spanL_app : ∀ (a r : List Int), (∀ x ∈ a, 97 ≤ x ∧ x ≤ 122) → (r = [] ∨ ∃ q, r = 46 :: q ∨ r = 91 :: q) → spanL (a ++ r) = a.length
  | [], r, _, hr => by
    rcases hr with rfl | ⟨q, rfl | rfl⟩
    · rfl
    · show spanL (46 :: q) = 0
      rw [spanL, if_neg (by omega)]
    · show spanL (91 :: q) = 0
      rw [spanL, if_neg (by omega)]
  | x :: a, r, ha, hr => by
    rw [List.cons_append, spanL, if_pos (ha x List.mem_cons_self), spanL_app a r (fun y hy => ha y (List.mem_cons_of_mem _ hy)) hr, List.length_cons]
theorem spanD_dec (n : Int) (h0 : 0 ≤ n) (h1 : n ≤ 99) (r : List Int) : spanD (dec n ++ 93 :: r) 0 = ((dec n).length, n) := by
  unfold dec
  split
  · rename_i h
    show spanD ((48 + n) :: 93 :: r) 0 = (1, n)
    rw [spanD, if_pos (by omega), spanD, if_neg (by omega)]
    exact Prod.ext rfl (by show 0 * 10 + (48 + n - 48) = n; omega)
  · rename_i h
    show spanD ((48 + n / 10) :: (48 + n % 10) :: 93 :: r) 0 = (2, n)
    rw [spanD, if_pos (by omega), spanD, if_pos (by omega), spanD, if_neg (by omega)]
    exact Prod.ext rfl (by show (0 * 10 + (48 + n / 10 - 48)) * 10 + (48 + n % 10 - 48) = n; omega)
theorem step_key {s : S56} (h : stepOk s = true) (h0 : s.f0 = 0) : (∀ x ∈ s.f1, 97 ≤ x ∧ x ≤ 122) ∧ s.f1.length ≤ 8 ∧ s = ⟨0, s.f1, 0⟩ := by
  unfold stepOk at h
  rw [if_pos h0, Bool.and_eq_true] at h
  obtain ⟨h1, h2⟩ := h
  unfold isName at h1
  rw [Bool.and_eq_true] at h1
  have h3 := of_decide_eq_true h1.1
  have h4 := List.all_eq_true.1 h1.2
  have h5 := of_decide_eq_true h2
  refine ⟨fun x hx => of_decide_eq_true (h4 x hx), h3.2, ?_⟩
  obtain ⟨a, c, d⟩ := s
  dsimp only at h0 h5
  rw [h0, h5]
theorem step_num {s : S56} (h : stepOk s = true) (h0 : ¬ s.f0 = 0) : 0 ≤ s.f2 ∧ s.f2 ≤ 39 ∧ s = ⟨1, [], s.f2⟩ := by
  unfold stepOk at h
  rw [if_neg h0, Bool.and_eq_true, Bool.and_eq_true] at h
  have h1 := of_decide_eq_true h.1.1
  have h2 := of_decide_eq_true h.1.2
  have h3 := of_decide_eq_true h.2
  refine ⟨h3.1, h3.2, ?_⟩
  obtain ⟨a, c, d⟩ := s
  dsimp only at h1 h2
  rw [h1, List.eq_nil_of_length_eq_zero h2]
theorem l3_full (p : List S56) (hp : p.all stepOk = true) (hb : (ptx p).length ≤ 1048576) : ∀ (q out : List S56), out ++ q = p → Ev (fun k => spec_l3read.r k (ptx p) (ptx out).length out) (p, true) := by
  intro q
  induction q with
  | nil =>
    intro out h
    rw [List.append_nil] at h
    subst h
    exact Ev.step (fun _ => spec_l3read.r.eq_2 ..) (ev_neg (by omega) (Ev.now _))
  | cons s q ih =>
    intro out h
    have hs : stepOk s = true := List.all_eq_true.1 hp s (by rw [← h]; simp)
    have ih2 := ih (out ++ [s]) (by rw [List.append_assoc]; exact h)
    have hol : out.length < 3518437208883 := by
      have h1 : out.length ≤ (ptx out).length := by
        clear ih ih2 h
        induction out with
        | nil => simp
        | cons x l ih =>
          rw [ptx_cons, List.length_append, List.length_cons]
          have : 1 ≤ (stext x).length := by unfold stext; split <;> simp
          omega
      have h2 : (ptx out).length ≤ (ptx p).length := by rw [← h, ptx_app, List.length_append]; omega
      omega
    obtain ⟨i, hi⟩ : ∃ i, i = (ptx out).length := ⟨_, rfl⟩
    have hpe : ptx p = ptx out ++ (stext s ++ ptx q) := by rw [← h, ptx_app, ptx_cons]
    have hdi : (ptx p).drop i = stext s ++ ptx q := by rw [hpe, hi, List.drop_left]
    have hlen : (ptx p).length = i + ((stext s).length + (ptx q).length) := by rw [hpe, List.length_append, List.length_append, ← hi]
    rw [ptx_snoc, List.length_append, ← hi] at ih2
    rw [← hi]
    by_cases h0 : s.f0 = 0
    · obtain ⟨k1, k2, k3⟩ := step_key hs h0
      have hst : stext s = 46 :: s.f1 := by unfold stext; rw [if_pos h0]
      rw [hst] at hdi hlen ih2
      rw [List.length_cons] at hlen ih2
      have hd1 : (ptx p).drop (i + 1) = s.f1 ++ ptx q := by rw [← List.drop_drop, hdi]; rfl
      have hsp : spanL ((ptx p).drop (i + 1)) = s.f1.length := by rw [hd1]; exact spanL_app _ _ k1 (ptx_hd q)
      refine Ev.step (fun _ => spec_l3read.r.eq_2 ..) (ev_pos (by omega) (ev_pos hol (ev_pos (rd_at _ i 46 _ hdi) ?_)))
      rw [hsp]
      have e1 : ((ptx p).take (i + 1 + s.f1.length)).drop (i + 1) = s.f1 := by
        rw [List.drop_take, hd1, show i + 1 + s.f1.length - (i + 1) = s.f1.length by omega, List.take_left]
      rw [e1, ← k3, show i + 1 + s.f1.length = i + (s.f1.length + 1) by omega]
      exact ih2
    · obtain ⟨k1, k2, k3⟩ := step_num hs h0
      have hst : stext s = 91 :: (dec s.f2 ++ [93]) := by unfold stext; rw [if_neg h0]
      rw [hst] at hdi hlen ih2
      rw [List.length_cons, List.length_append, List.length_singleton] at hlen ih2
      have hd1 : (ptx p).drop (i + 1) = dec s.f2 ++ 93 :: ptx q := by rw [← List.drop_drop, hdi]; simp
      have hsp : spanD ((ptx p).drop (i + 1)) 0 = ((dec s.f2).length, s.f2) := by rw [hd1]; exact spanD_dec _ k1 (by omega) _
      have hde : (ptx p).drop (i + 1 + (dec s.f2).length) = 93 :: ptx q := by rw [← List.drop_drop, hd1, List.drop_left]
      refine Ev.step (fun _ => spec_l3read.r.eq_2 ..) (ev_pos (by omega) (ev_pos hol (ev_neg (by rw [rd_at _ i 91 _ hdi]; decide) (ev_pos (rd_at _ i 91 _ hdi) ?_))))
      rw [hsp]
      have e1 : ((ptx p).take (i + 1 + (dec s.f2).length)).drop (i + 1) = dec s.f2 := by
        rw [List.drop_take, hd1, show i + 1 + (dec s.f2).length - (i + 1) = (dec s.f2).length by omega, List.take_left]
      refine ev_pos ⟨by show i + 1 + (dec s.f2).length < _; omega, rd_at _ _ 93 _ hde⟩ (Ev.bind (l2d_dec _ k1 (by omega)) ?_)
      show Ev (fun k => if _ = (strOfNums (((ptx p).take (i + 1 + (dec s.f2).length)).drop (i + 1))).toList then spec_l3read.r k (ptx p) (i + 1 + (dec s.f2).length + 1) (out ++ [⟨1, [], s.f2⟩]) else _) _
      rw [e1]
      refine ev_pos rfl ?_
      rw [← k3, show i + 1 + (dec s.f2).length + 1 = i + ((dec s.f2).length + 1 + 1) by omega]
      exact ih2
theorem posC_is {l : List Int} {o : Nat} (h : (Lib.bytesOf l)[o]? = some 93) (hn : ∀ k, k < o → (Lib.bytesOf l)[k]? ≠ some 93) : posC l = o := by
  have h2 := posC_ge l
  by_cases hp : posC l < 0
  · have h3 : Lib.indexByte (Lib.bytesOf l) 93 = -1 := by unfold posC at hp h2; omega
    exact absurd h (Lib.indexByte_none h3 o)
  · obtain ⟨j, hj⟩ := Int.eq_ofNat_of_zero_le (by omega : 0 ≤ posC l)
    obtain ⟨h3, h4⟩ := Lib.indexByte_some hj
    rcases Nat.lt_trichotomy j o with h5 | h5 | h5
    · exact absurd h3 (hn j h5)
    · rw [hj, h5]
    · exact absurd h (h4 o h5)
theorem u8_ne {x : Int} (h0 : 0 ≤ x) (h1 : x ≤ 255) (h : x ≠ 93) : UInt8.ofNat x.toNat ≠ 93 := fun e => by
  have h2 := congrArg UInt8.toNat e
  have h3 : x.toNat % 256 = 93 := by simpa using h2
  omega
theorem dec_dig (n : Int) (h0 : 0 ≤ n) (h1 : n ≤ 99) : ∀ x ∈ dec n, 48 ≤ x ∧ x ≤ 57 := by
  intro x hx
  unfold dec at hx
  split at hx <;> simp at hx <;> omega
theorem posC_br (n : Int) (h0 : 0 ≤ n) (h1 : n ≤ 99) (r : List Int) : posC (91 :: (dec n ++ 93 :: r)) = (((dec n).length + 1 : Nat) : Int) := by
  refine posC_is ?_ fun k hk => ?_
  · unfold Lib.bytesOf
    rw [List.getElem?_map, List.getElem?_cons_succ, List.getElem?_append_right (Nat.le_refl _), Nat.sub_self]
    rfl
  · unfold Lib.bytesOf
    rw [List.getElem?_map]
    cases k with
    | zero => exact fun e => u8_ne (x := 91) (by decide) (by decide) (by decide) (Option.some.inj e)
    | succ k =>
      have hk2 : k < (dec n).length := by omega
      rw [List.getElem?_cons_succ, List.getElem?_append_left hk2, List.getElem?_eq_getElem hk2]
      have hd := dec_dig n h0 h1 _ (List.getElem_mem hk2)
      exact fun e => u8_ne (x := (dec n)[k]) (by omega) (by omega) (by omega) (Option.some.inj e)
theorem atoi_dec_ : ∀ n : Nat, n < 100 → atoiO (dec (n : Int)) = some (n : Int) := by decide +kernel
theorem atoi_dec (n : Int) (h0 : 0 ≤ n) (h1 : n ≤ 99) : atoiO (dec n) = some n := by
  obtain ⟨m, rfl⟩ := Int.eq_ofNat_of_zero_le h0
  exact atoi_dec_ m (by omega)
/-- The program's reading ends. -/
theorem ir_any : ∀ (m : Nat) (l : List Int) (out : List S56), l.length ≤ m → l.length + out.length ≤ 1048576 → (∀ s ∈ out, s.f1.length ≤ 1048576) →
    ∃ o, Ev (fun k => impl_pathRead.r k l out) o ∧ ∀ q, o = some q → q.length ≤ 1048576 ∧ ∀ s ∈ q, s.f1.length ≤ 1048576 := by
  intro m
  induction m with
  | zero =>
    intro l out hm ho hk
    exact ⟨some out, Ev.step (fun _ => impl_pathRead.r.eq_2 ..) (ev_neg (by omega) (Ev.now _)), fun q e => by cases e; exact ⟨by omega, hk⟩⟩
  | succ m ih =>
    intro l out hm ho hk
    by_cases hlt : 0 < l.length
    case neg => exact ⟨some out, Ev.step (fun _ => impl_pathRead.r.eq_2 ..) (ev_neg hlt (Ev.now _)), fun q e => by cases e; exact ⟨by omega, hk⟩⟩
    by_cases c46 : rd l 0 = 46
    · obtain ⟨o, h1, h2⟩ := ih (l.drop (1 + spanL (l.drop 1))) (out ++ [⟨0, (l.take (1 + spanL (l.drop 1))).drop 1, 0⟩]) (by rw [List.length_drop]; omega) (by rw [List.length_drop, List.length_append, List.length_singleton]; omega)
        (fun s hs => by
          rcases List.mem_append.1 hs with hs | hs
          · exact hk s hs
          · rw [List.mem_singleton.1 hs]
            show ((l.take _).drop 1).length ≤ _
            rw [List.length_drop, List.length_take]; omega)
      exact ⟨o, Ev.step (fun _ => impl_pathRead.r.eq_2 ..) (ev_pos hlt (ev_pos (by omega) (ev_pos c46 h1))), h2⟩
    by_cases c91 : rd l 0 = 91 ∧ 1 ≤ posC l
    case neg => exact ⟨none, Ev.step (fun _ => impl_pathRead.r.eq_2 ..) (ev_pos hlt (ev_pos (by omega) (ev_neg c46 (ev_neg c91 (Ev.now _))))), fun q e => by cases e⟩
    cases hv : atoiO ((l.take (posC l).toNat).drop 1) with
    | none =>
      refine ⟨none, Ev.step (fun _ => impl_pathRead.r.eq_2 ..) (ev_pos hlt (ev_pos (by omega) (ev_neg c46 (ev_pos c91 ?_)))), fun q e => by cases e⟩
      rw [hv]
      exact Ev.now _
    | some v =>
      obtain ⟨o, h1, h2⟩ := ih (l.drop ((posC l).toNat + 1)) (out ++ [⟨1, [], v⟩]) (by rw [List.length_drop]; omega) (by rw [List.length_drop, List.length_append, List.length_singleton]; omega)
        (fun s hs => by
          rcases List.mem_append.1 hs with hs | hs
          · exact hk s hs
          · rw [List.mem_singleton.1 hs]; simp)
      refine ⟨o, Ev.step (fun _ => impl_pathRead.r.eq_2 ..) (ev_pos hlt (ev_pos (by omega) (ev_neg c46 (ev_pos c91 ?_)))), h2⟩
      rw [hv]
      exact h1
theorem i_full : ∀ (q out : List S56), q.all stepOk = true → out.length + q.length ≤ 1000 → Ev (fun k => impl_pathRead.r k (ptx q) out) (some (out ++ q))
  | [], out, _, _ => by
    rw [List.append_nil]
    exact Ev.step (fun _ => impl_pathRead.r.eq_2 ..) (ev_neg (by decide) (Ev.now _))
  | s :: q, out, hq, hl => by
    rw [List.all_cons, Bool.and_eq_true] at hq
    rw [List.length_cons] at hl
    have ih := i_full q (out ++ [s]) hq.2 (by rw [List.length_append, List.length_singleton]; omega)
    rw [List.append_assoc, List.singleton_append] at ih
    rw [ptx_cons]
    by_cases h0 : s.f0 = 0
    · obtain ⟨k1, k2, k3⟩ := step_key hq.1 h0
      have hst : stext s = 46 :: s.f1 := by unfold stext; rw [if_pos h0]
      rw [hst, List.cons_append]
      refine Ev.step (fun _ => impl_pathRead.r.eq_2 ..) (ev_pos (by simp) (ev_pos (by omega) (ev_pos rfl ?_)))
      have hd1 : (46 :: (s.f1 ++ ptx q)).drop 1 = s.f1 ++ ptx q := rfl
      have hsp : spanL (s.f1 ++ ptx q) = s.f1.length := spanL_app _ _ k1 (ptx_hd q)
      rw [hd1, hsp, show 1 + s.f1.length = s.f1.length + 1 by omega, List.drop_succ_cons, List.take_succ_cons, List.drop_left, List.take_left, List.drop_succ_cons, List.drop_zero, ← k3]
      exact ih
    · obtain ⟨k1, k2, k3⟩ := step_num hq.1 h0
      have hst : stext s = 91 :: (dec s.f2 ++ [93]) := by unfold stext; rw [if_neg h0]
      rw [hst, List.cons_append, List.append_assoc, List.singleton_append]
      have hp := posC_br s.f2 k1 (by omega) (ptx q)
      refine Ev.step (fun _ => impl_pathRead.r.eq_2 ..) (ev_pos (by simp) (ev_pos (by omega) (ev_neg (by show ¬ (91 : Int) = 46; decide) (ev_pos ⟨rfl, by rw [hp]; omega⟩ ?_))))
      rw [hp, Int.toNat_natCast, List.take_succ_cons, List.take_left, List.drop_succ_cons, List.drop_zero, atoi_dec _ k1 (by omega)]
      have e2 : (91 :: (dec s.f2 ++ 93 :: ptx q)).drop ((dec s.f2).length + 1 + 1) = ptx q := by
        rw [List.drop_succ_cons, ← List.drop_drop, List.drop_left]; rfl
      show Ev (fun k => impl_pathRead.r k ((91 :: (dec s.f2 ++ 93 :: ptx q)).drop ((dec s.f2).length + 1 + 1)) (out ++ [⟨1, [], s.f2⟩])) _
      rw [e2, ← k3]
      exact ih
theorem ptx_By : ∀ l : List S56, l.all stepOk = true → By (ptx l)
  | [], _ => fun x hx => by simp [ptx] at hx
  | s :: l, h => by
    rw [List.all_cons, Bool.and_eq_true] at h
    intro x hx
    rw [ptx_cons, List.mem_append] at hx
    rcases hx with hx | hx
    · unfold stext at hx
      split at hx
      · rename_i h0
        rcases List.mem_cons.1 hx with rfl | hx
        · exact ⟨by decide, by decide⟩
        · have := (step_key h.1 h0).1 x hx
          omega
      · rename_i h0
        obtain ⟨k1, k2, _⟩ := step_num h.1 h0
        rcases List.mem_cons.1 hx with rfl | hx
        · exact ⟨by decide, by decide⟩
        · rcases List.mem_append.1 hx with hx | hx
          · exact dec_By _ k1 (by omega) x hx
          · rw [List.mem_singleton.1 hx]; exact ⟨by decide, by decide⟩
    · exact ptx_By l h.2 x hx
theorem ok_all {p : List S56} (h : pathOk p = true) : p.all stepOk = true ∧ p.length ≤ 6 := by
  unfold pathOk at h
  rw [Bool.and_eq_true] at h
  exact ⟨h.2, of_decide_eq_true h.1⟩
theorem ok_key : ∀ (p : List S56), p.all stepOk = true → ∀ s ∈ p, s.f1.length ≤ 8 := fun p h s hs => by
  have h1 := List.all_eq_true.1 h s hs
  by_cases h0 : s.f0 = 0
  · exact (step_key h1 h0).2.1
  · rw [(step_num h1 h0).2.2]; simp
theorem mSt_bd : ∀ (p : List S56), (∀ s ∈ p, s.f1.length ≤ 8) → mSt p ≤ p.length * 10
  | [], _ => by simp [mSt]
  | s :: l, h => by
    have h1 := h s List.mem_cons_self
    have h2 := mSt_bd l fun t ht => h t (List.mem_cons_of_mem _ ht)
    rw [mSt, List.length_cons]; omega
theorem ptx_len : ∀ (p : List S56), (∀ s ∈ p, s.f1.length ≤ 8) → (ptx p).length ≤ p.length * 10
  | [], _ => by simp [ptx]
  | s :: l, h => by
    have h1 := h s List.mem_cons_self
    have h2 := ptx_len l fun t ht => h t (List.mem_cons_of_mem _ ht)
    have h3 := dec_len s.f2
    rw [ptx_cons, List.length_append, List.length_cons]
    have h4 : (stext s).length ≤ 10 := by unfold stext; split <;> simp <;> omega
    omega
/-! laws_toByteS -/
theorem toByteS_l0 (l : List Int) (hl : l.length ≤ 4611686018427387903) : ∀ (d i : Nat) (out : List Int), i + d = l.length → out.length = l.length → out.take i = l.take i → Ev (fun k => laws_toByteS.l0 k l out i) l := by
  intro d
  induction d with
  | zero =>
    intro i out hd ho ht
    refine Ev.step (fun _ => laws_toByteS.l0.eq_2 ..) ?_
    refine ev_neg (by omega) ?_
    refine ev_is ?_
    rwa [List.take_of_length_le (by omega), List.take_of_length_le (by omega)] at ht
  | succ d ih =>
    intro i out hd ho ht
    refine Ev.step (fun _ => laws_toByteS.l0.eq_2 ..) ?_
    refine ev_pos (by omega) ?_
    refine ev_pos (by omega) ?_
    refine ev_pos (by omega) ?_
    rw [w64s i (by omega), Int.toNat_natCast]
    refine ih (i + 1) _ (by omega) (by rw [List.length_set]; exact ho) ?_
    rw [List.take_succ_eq_append_getElem (by rw [List.length_set]; omega), List.take_succ_eq_append_getElem (by omega), List.take_set_of_le (by omega), ht, List.getElem_set_self, rd_nat _ _ (by omega)]
theorem toByteS_ev (l : List Int) (hl : l.length ≤ 281474976710656) : Ev (fun k => laws_toByteS.f k l) l := by
  unfold laws_toByteS.f
  refine ev_pos (by omega) ?_
  refine ev_pos (by omega) ?_
  exact toByteS_l0 l (by omega) l.length 0 _ (by omega) (by simp) (by simp)
/-! laws_eqByteS -/
theorem eqByteS_l0 (l : List Int) (hl : l.length ≤ 4611686018427387903) : ∀ (d i : Nat), i + d = l.length → Ev (fun k => laws_eqByteS.l0 k l l i) true := by
  intro d
  induction d with
  | zero =>
    intro i hd
    refine Ev.step (fun _ => laws_eqByteS.l0.eq_2 ..) ?_
    exact ev_neg (by omega) (Ev.now _)
  | succ d ih =>
    intro i hd
    refine Ev.step (fun _ => laws_eqByteS.l0.eq_2 ..) ?_
    refine ev_pos (by omega) (ev_pos (by omega) (ev_pos (by omega) (ev_pos rfl ?_)))
    rw [w64s i (by omega)]
    exact ih (i + 1) (by omega)
theorem eqByteS_ev (l : List Int) (hl : l.length ≤ 281474976710656) : Ev (fun k => laws_eqByteS.f k l l) true := by
  unfold laws_eqByteS.f
  exact ev_pos rfl (eqByteS_l0 l (by omega) l.length 0 (by omega))
/-! spec_NameOk -/
theorem spec_NameOk_l0 (b : List Int) (hl : b.length ≤ 4611686018427387903) : ∀ (d i : Nat), i + d = b.length → Ev (fun k => spec_NameOk.l0 k b (i : Int)) ((b.drop i).all fun x => decide (97 ≤ x ∧ x ≤ 122)) := by
  intro d
  induction d with
  | zero =>
    intro i hd
    refine Ev.step (fun _ => spec_NameOk.l0.eq_2 ..) (ev_neg (by omega) (ev_is ?_))
    rw [List.drop_eq_nil_of_le (by omega)]; rfl
  | succ d ih =>
    intro i hd
    refine Ev.step (fun _ => spec_NameOk.l0.eq_2 ..) (ev_pos (by omega) (ev_pos (by omega) ?_))
    rw [M.drop_rd b i (by omega), List.all_cons, w64s i (by omega)]
    by_cases h1 : rd b (i : Int) < 97
    · refine ev_pos h1 (ev_is ?_)
      simp; omega
    · refine ev_neg h1 ?_
      by_cases h2 : rd b (i : Int) > 122
      · refine ev_pos h2 (ev_is ?_)
        simp; omega
      · refine ev_neg h2 (ev_eq (ih (i + 1) (by omega)) ?_)
        rw [decide_eq_true (show 97 ≤ rd b (i : Int) ∧ rd b (i : Int) ≤ 122 by omega)]; rfl
theorem spec_NameOk_ev (b : List Int) (hl : b.length ≤ 4611686018427387903) : Ev (fun k => spec_NameOk.f k b) (isName b) := by
  unfold spec_NameOk.f isName
  by_cases h1 : b.length < 1
  · refine ev_pos (by omega) (Ev.step (fun _ => spec_NameOk.j0.eq_2 ..) (ev_pos rfl (ev_is ?_)))
    rw [decide_eq_false (by omega)]; rfl
  · refine ev_neg (by omega) (Ev.step (fun _ => spec_NameOk.j0.eq_2 ..) ?_)
    by_cases h2 : b.length > 8
    · refine ev_pos (decide_eq_true (by omega)) (ev_is ?_)
      rw [decide_eq_false (by omega)]; rfl
    · refine ev_neg (by simp; omega) (ev_eq (spec_NameOk_l0 b hl b.length 0 (by omega)) ?_)
      rw [decide_eq_true (by omega)]; rfl
/-! spec_PathOk -/
theorem spec_PathOk_l0 (l : List S56) (hl : l.length ≤ 1048576) (hk : ∀ s ∈ l, s.f1.length ≤ 1048576) : ∀ (d i : Nat), i + d = l.length → Ev (fun k => spec_PathOk.l0 k l (i : Int)) ((l.drop i).all stepOk) := by
  intro d
  induction d with
  | zero =>
    intro i hd
    refine Ev.step (fun _ => spec_PathOk.l0.eq_2 ..) (ev_neg (by omega) (ev_is ?_))
    rw [List.drop_eq_nil_of_le (by omega)]; rfl
  | succ d ih =>
    intro i hd
    have hi : i < l.length := by omega
    refine Ev.step (fun _ => spec_PathOk.l0.eq_2 ..) (ev_pos (by omega) (ev_pos (by omega) ?_))
    rw [rdS l i hi, drop_at l i hi, List.all_cons, w64s i (by omega)]
    have hs := hk _ (List.getElem_mem hi)
    generalize l[i] = s at hs
    have ih := ih (i + 1) (by omega)
    rw [stepOk]
    by_cases h0 : s.f0 = 0
    · refine ev_pos h0 (Ev.bind (spec_NameOk_ev _ (by omega)) ?_)
      rw [if_pos h0]
      by_cases h1 : isName s.f1 = true
      · refine ev_pos h1 ?_
        by_cases h2 : s.f2 = 0
        · refine ev_pos h2 (ev_eq ih ?_)
          rw [h1, decide_eq_true h2]; rfl
        · refine ev_neg h2 (ev_is ?_)
          simp [h2]
      · refine ev_neg h1 (ev_is ?_)
        simp [h1]
    · refine ev_neg h0 ?_
      rw [if_neg h0]
      by_cases h1 : s.f0 = 1
      · refine ev_pos h1 ?_
        by_cases h2 : s.f1.length = 0
        · refine ev_neg (by omega) ?_
          by_cases h3 : s.f2 < 0
          · refine ev_pos h3 (ev_is ?_)
            rw [decide_eq_false (show ¬ (0 ≤ s.f2 ∧ s.f2 ≤ 39) by omega)]; simp
          · refine ev_neg h3 ?_
            by_cases h4 : s.f2 ≥ 40
            · refine ev_pos h4 (ev_is ?_)
              rw [decide_eq_false (show ¬ (0 ≤ s.f2 ∧ s.f2 ≤ 39) by omega)]; simp
            · refine ev_neg h4 (ev_eq ih ?_)
              rw [decide_eq_true h1, decide_eq_true h2, decide_eq_true (show 0 ≤ s.f2 ∧ s.f2 ≤ 39 by omega)]; rfl
        · refine ev_pos (by omega) (ev_is ?_)
          rw [decide_eq_false h2]; simp
      · refine ev_neg h1 (ev_is ?_)
        rw [decide_eq_false h1]; simp
theorem spec_PathOk_ev (l : List S56) (hl : l.length ≤ 1048576) (hk : ∀ s ∈ l, s.f1.length ≤ 1048576) : Ev (fun k => spec_PathOk.f k l) (pathOk l) := by
  unfold spec_PathOk.f pathOk
  by_cases h : l.length ≤ 6
  · refine ev_neg (by omega) (ev_eq (spec_PathOk_l0 l hl hk l.length 0 (by omega)) ?_)
    rw [decide_eq_true h]; rfl
  · refine ev_pos (by omega) (ev_is ?_)
    rw [decide_eq_false h]; rfl
/-! impl_copyBytes -/
theorem copyBytes_eq (b : List Int) (hb : b.length < 140737488355328) : impl_copyBytes.f b = some b := by
  unfold impl_copyBytes.f
  simp only [Option.bind_some, List.length_nil, Nat.zero_add, List.nil_append]
  rw [if_pos hb]
/-! impl_in -/
theorem in_eq (n lo hi : Int) : impl_in.f n lo hi = some (decide (lo ≤ n ∧ n ≤ hi)) := by
  unfold impl_in.f
  by_cases h : n ≥ lo
  · rw [if_pos h]; simp [h]
  · rw [if_neg h]; simp; omega
/-! impl_isName -/
theorem impl_isName_l0 (b : List Int) (hl : b.length ≤ 4611686018427387903) : ∀ (d i : Nat), i + d = b.length → Ev (fun k => impl_isName.l0 k b b (b.length : Int) (i : Int)) (((b.drop i).all fun x => decide (97 ≤ x ∧ x ≤ 122)) && decide (1 ≤ b.length ∧ b.length ≤ 8)) := by
  intro d
  induction d with
  | zero =>
    intro i hd
    refine Ev.step (fun _ => impl_isName.l0.eq_2 ..) (ev_neg (by omega) (ev_ret (ev_const ?_)))
    rw [in_eq, List.drop_eq_nil_of_le (by omega)]
    congr 1
    rw [List.all_nil, Bool.true_and]
    exact decide_eq_decide.2 (by omega)
  | succ d ih =>
    intro i hd
    refine Ev.step (fun _ => impl_isName.l0.eq_2 ..) (ev_pos (by omega) (ev_pos (by omega) (ev_pos (by omega) ?_)))
    rw [M.drop_rd b i (by omega), List.all_cons, w64s i (by omega)]
    by_cases h1 : rd b (i : Int) < 97
    · refine ev_pos h1 (ev_is ?_)
      rw [decide_eq_false (by omega)]; rfl
    · refine ev_neg h1 ?_
      by_cases h2 : rd b (i : Int) > 122
      · refine ev_pos h2 (ev_is ?_)
        rw [decide_eq_false (by omega)]; rfl
      · refine ev_neg h2 (ev_eq (ih (i + 1) (by omega)) ?_)
        rw [decide_eq_true (show 97 ≤ rd b (i : Int) ∧ rd b (i : Int) ≤ 122 by omega), Bool.true_and]
theorem impl_isName_ev (b : List Int) (hl : b.length ≤ 4611686018427387903) : Ev (fun k => impl_isName.f k b) (isName b) := by
  unfold impl_isName.f isName
  refine ev_eq (impl_isName_l0 b hl b.length 0 (by omega)) ?_
  rw [List.drop_zero, Bool.and_comm]
/-! impl_isPath_1 -/
theorem impl_isPath_1_ev (s : S56) (hs : s.f1.length ≤ 1048576) : Ev (fun k => impl_isPath_1.f k s.f0 s.f1 s.f2) (!stepOk s) := by
  unfold impl_isPath_1.f stepOk
  by_cases h0 : s.f0 = 0
  · refine ev_pos h0 (Ev.bind (impl_isName_ev _ (by omega)) ?_)
    rw [if_pos h0]
    by_cases h1 : isName s.f1 = true
    · refine ev_pos h1 (ev_is ?_)
      rw [h1]
      by_cases h2 : s.f2 = 0 <;> simp [h2]
    · refine ev_neg h1 (ev_is ?_)
      simp [h1]
  · refine ev_neg h0 ?_
    rw [if_neg h0]
    by_cases h1 : s.f0 = 1
    · refine ev_pos h1 ?_
      by_cases h2 : s.f1.length = 0
      · refine ev_neg (by omega) (Ev.bind (ev_const (in_eq ..)) (ev_is ?_))
        rw [decide_eq_true h1, decide_eq_true h2]; rfl
      · refine ev_pos (by omega) (ev_is ?_)
        rw [decide_eq_false h2]; simp
    · refine ev_neg h1 (ev_is ?_)
      rw [decide_eq_false h1]; simp
/-! x_IndexFunc_at_impl_isPath_1 -/
theorem indexPath_l0 (l : List S56) (hl : l.length ≤ 1048576) (hk : ∀ s ∈ l, s.f1.length ≤ 1048576) : ∀ (d i : Nat), i + d = l.length → ∃ r, Ev (fun k => x_IndexFunc_at_impl_isPath_1.l0 k l (l.length : Int) (i : Int)) r ∧ decide (r ≥ 0) = !(l.drop i).all stepOk := by
  intro d
  induction d with
  | zero =>
    intro i hd
    refine ⟨-1, Ev.step (fun _ => x_IndexFunc_at_impl_isPath_1.l0.eq_2 ..) (ev_neg (by omega) (Ev.now _)), ?_⟩
    rw [List.drop_eq_nil_of_le (by omega)]; rfl
  | succ d ih =>
    intro i hd
    have hi : i < l.length := by omega
    have hs := hk _ (List.getElem_mem hi)
    obtain ⟨r, hr, hd2⟩ := ih (i + 1) (by omega)
    rw [drop_at l i hi, List.all_cons]
    by_cases h : stepOk l[i] = true
    · refine ⟨r, Ev.step (fun _ => x_IndexFunc_at_impl_isPath_1.l0.eq_2 ..) (ev_pos (by omega) (ev_pos (by omega) (ev_pos (by omega) ?_))), by rw [hd2, h]; rfl⟩
      rw [rdS l i hi, w64s i (by omega)]
      refine Ev.bind (impl_isPath_1_ev _ hs) (ev_neg (by rw [h]; decide) hr)
    · refine ⟨i, Ev.step (fun _ => x_IndexFunc_at_impl_isPath_1.l0.eq_2 ..) (ev_pos (by omega) (ev_pos (by omega) (ev_pos (by omega) ?_))), by simp [h]⟩
      rw [rdS l i hi]
      refine Ev.bind (impl_isPath_1_ev _ hs) (ev_pos (by simp [h]) (Ev.now _))
/-! x_ContainsFunc_at_impl_isPath_1 -/
theorem containsPath_ev (l : List S56) (hl : l.length ≤ 1048576) (hk : ∀ s ∈ l, s.f1.length ≤ 1048576) : Ev (fun k => x_ContainsFunc_at_impl_isPath_1.f k l) (!l.all stepOk) := by
  unfold x_ContainsFunc_at_impl_isPath_1.f x_IndexFunc_at_impl_isPath_1.f
  obtain ⟨r, hr, hd⟩ := indexPath_l0 l hl hk l.length 0 (by omega)
  exact Ev.bind hr (ev_is (by rw [hd, List.drop_zero]))
/-! impl_isPath -/
theorem impl_isPath_ev (l : List S56) (hl : l.length ≤ 1048576) (hk : ∀ s ∈ l, s.f1.length ≤ 1048576) : Ev (fun k => impl_isPath.f k l) (pathOk l) := by
  unfold impl_isPath.f pathOk
  by_cases h : l.length ≤ 6
  · refine ev_pos (by omega) (Ev.bind (containsPath_ev l hl hk) (ev_is ?_))
    rw [decide_eq_true h]; simp
  · refine ev_neg (by omega) (ev_is ?_)
    rw [decide_eq_false h]; rfl
/-! bytes_Equal -/
theorem bytes_Equal_eq (a b : List Int) (ha : By a) (hb : By b) : bytes_Equal.f a b = some (decide (a = b)) := by
  unfold bytes_Equal.f
  rw [str_inj ha hb]
/-! impl_pathText -/
theorem small_dec (n : Nat) (h : n ≤ 99) : (strconv_small.f (n : Int)).map bytesOf = some (dec (n : Int)) := by
  have h2 : ∀ n : Nat, n ≤ 99 → (strconv_small.f (n : Int)).map bytesOf = some (dec (n : Int)) := by decide +kernel
  exact h2 n h
theorem appendInt_dec (l : List Int) (i : Int) (h0 : 0 ≤ i) (h1 : i ≤ 99) (hl : l.length ≤ 100000000) : strconv_AppendInt_48.f l i 10 = some (l ++ dec i) := by
  obtain ⟨n, rfl⟩ := Int.eq_ofNat_of_zero_le h0
  obtain ⟨s, hs, hb⟩ := Option.map_eq_some_iff.1 (small_dec n (by omega))
  have hw : IntKind.u64.wrap (n : Int) = (n : Int) := by simp [IntKind.wrap, IntKind.bits, IntKind.signed]; omega
  have hz : s.size ≤ 2 := by
    have h3 := dec_len (n : Int)
    rw [← hb] at h3
    have h4 : (bytesOf s).length = s.size := by rw [bytesOf, List.length_map]; exact Array.length_toList
    omega
  unfold strconv_AppendInt_48.f strconv_AppendInt_76.f strconv_AppendUint.f
  rw [if_neg (by omega), hw, if_pos rfl, if_pos (by omega), w64 (x := (n : Int)) (by omega) (by omega), hs]
  simp only [Option.bind_some]
  rw [if_pos (by omega), hb]
  rfl
theorem impl_pathText_l0 (l : List S56) (hl : l.length ≤ 6) (hk : ∀ s ∈ l, s.f1.length ≤ 1048576) (hn : ∀ s ∈ l, s.f0 = 0 ∨ (0 ≤ s.f2 ∧ s.f2 ≤ 39)) : ∀ (d i : Nat) (b : List Int), i + d = l.length → b.length ≤ i * 1048580 → Ev (fun k => impl_pathText.l0 k b l (l.length : Int) (i : Int)) (ptext (l.drop i) b) := by
  intro d
  induction d with
  | zero =>
    intro i b hd hb
    refine Ev.step (fun _ => impl_pathText.l0.eq_2 ..) (ev_neg (by omega) (ev_is ?_))
    rw [List.drop_of_length_le (by omega), ptext]
  | succ d ih =>
    intro i b hd hb
    have hi : i < l.length := by omega
    have h1 := hk _ (List.getElem_mem hi)
    have h2 := hn _ (List.getElem_mem hi)
    rw [drop_at l i hi, ptext]
    refine Ev.step (fun _ => impl_pathText.l0.eq_2 ..) (ev_pos (by omega) (ev_pos (by omega) (ev_pos (by omega) ?_)))
    rw [show rd_T56 l (i : Int) = l[i] from getDI l _ i hi, w64s i (by omega)]
    by_cases h0 : l[i].f0 = 0
    · rw [if_pos h0]
      exact ev_pos h0 (Ev.bind (Ev.now _) (ev_pos (by simp; omega) (Ev.bind (Ev.now _) (ev_pos (by simp; omega) (ih (i + 1) _ (by omega) (by simp; omega))))))
    · have h3 : 0 ≤ l[i].f2 ∧ l[i].f2 ≤ 39 := h2.resolve_left h0
      have h4 := dec_len l[i].f2
      rw [if_neg h0]
      exact ev_neg h0 (Ev.bind (Ev.now _) (ev_pos (by simp; omega) (Ev.bind (ev_const (appendInt_dec _ _ h3.1 (by omega) (by simp; omega))) (Ev.bind (Ev.now _) (ev_pos (by simp; omega) (ih (i + 1) _ (by omega) (by simp; omega)))))))
/-! laws_eqStep -/
theorem eqStep_ev (x : Int) (l : List Int) (y : Int) (hl : l.length ≤ 281474976710656) : Ev (fun k => laws_eqStep.f k x l y x l y) true := by
  unfold laws_eqStep.f
  exact ev_pos rfl (Ev.bind (eqByteS_ev l hl) (ev_pos rfl (ev_pos rfl (Ev.now _))))
/-! laws_eqStepS -/
theorem eqStepS_l0 (l : List S56) (hl : l.length ≤ 1048576) (hk : ∀ s ∈ l, s.f1.length ≤ 1048576) : ∀ (d i : Nat), i + d = l.length → Ev (fun k => laws_eqStepS.l0 k l l (i : Int)) true := by
  intro d
  induction d with
  | zero =>
    intro i hd
    exact Ev.step (fun _ => laws_eqStepS.l0.eq_2 ..) (ev_neg (by omega) (Ev.now _))
  | succ d ih =>
    intro i hd
    have hi : i < l.length := by omega
    refine Ev.step (fun _ => laws_eqStepS.l0.eq_2 ..) (ev_pos (by omega) (ev_pos (by omega) (ev_pos (by omega) ?_)))
    rw [rdS l i hi]
    have hs := hk _ (List.getElem_mem hi)
    refine Ev.bind (eqStep_ev _ _ _ (by omega)) (ev_pos rfl ?_)
    rw [w64s i (by omega)]
    exact ih (i + 1) (by omega)
theorem eqStepS_ev (l : List S56) (hl : l.length ≤ 1048576) (hk : ∀ s ∈ l, s.f1.length ≤ 1048576) : Ev (fun k => laws_eqStepS.f k l l) true := by
  unfold laws_eqStepS.f
  exact ev_pos rfl (eqStepS_l0 l hl hk l.length 0 (by omega))
/-! laws_markByteS -/
theorem markByteS_l0 (n : Nat) (a : Int) (hn : n ≤ 281474976710656) (h0 : 0 ≤ a) (h1 : a ≤ 281474976710656) : ∀ (d i : Nat) (l : List Int), i + d = n → l.length = n → l.take i = (markL n a).take i →
    Ev (fun k => laws_markByteS.l0 k l (a + (i : Int)) i) (a + (n : Int), markL n a) := by
  intro d
  induction d with
  | zero =>
    intro i l hd hl ht
    refine Ev.step (fun _ => laws_markByteS.l0.eq_2 ..) ?_
    refine ev_neg (by omega) ?_
    refine ev_is ?_
    rw [List.take_of_length_le (by omega), List.take_of_length_le (by rw [markL_length]; omega)] at ht
    rw [ht, show (i : Int) = n by omega]
  | succ d ih =>
    intro i l hd hl ht
    refine Ev.step (fun _ => laws_markByteS.l0.eq_2 ..) ?_
    refine ev_pos (by omega) (ev_pos (by omega) ?_)
    rw [w64s i (by omega), Int.toNat_natCast, w64 (x := a + (i : Int) + 1) (by omega) (by omega), show a + (i : Int) + 1 = a + ((i + 1 : Nat) : Int) by omega]
    refine ih (i + 1) _ (by omega) (by rw [List.length_set]; exact hl) ?_
    have e := rd_markL n a i (by omega)
    rw [take_succ_rd (markL n a) i (by rw [markL_length]; omega), e, List.take_succ_eq_append_getElem (by rw [List.length_set]; omega), List.take_set_of_le (by omega), ht, List.getElem_set_self]
theorem markByteS_ev (l : List Int) (a : Int) (hl : l.length ≤ 281474976710656) (h0 : 0 ≤ a) (h1 : a ≤ 281474976710656) : Ev (fun k => laws_markByteS.f k l a) (a + (l.length : Int), markL l.length a) := by
  unfold laws_markByteS.f
  have := markByteS_l0 l.length a hl h0 h1 l.length 0 l (by omega) rfl (by simp)
  simpa using this
/-! laws_heldByteS -/
theorem heldByteS_l0 (n : Nat) (a : Int) (hn : n ≤ 281474976710656) (h0 : 0 ≤ a) (h1 : a ≤ 281474976710656) : ∀ (d i : Nat), i + d = n →
    Ev (fun k => laws_heldByteS.l0 k (markL n a) (a + (i : Int)) i) (a + (n : Int)) := by
  intro d
  induction d with
  | zero =>
    intro i hd
    refine Ev.step (fun _ => laws_heldByteS.l0.eq_2 ..) ?_
    refine ev_neg (by rw [markL_length]; omega) ?_
    refine ev_is ?_
    rw [show (i : Int) = n by omega]
  | succ d ih =>
    intro i hd
    refine Ev.step (fun _ => laws_heldByteS.l0.eq_2 ..) ?_
    refine ev_pos (by rw [markL_length]; omega) (ev_pos (by omega) (ev_pos (rd_markL n a i (by omega)) ?_))
    rw [w64s i (by omega), w64 (x := a + (i : Int) + 1) (by omega) (by omega), show a + (i : Int) + 1 = a + ((i + 1 : Nat) : Int) by omega]
    exact ih (i + 1) (by omega)
theorem heldByteS_ev (n : Nat) (a : Int) (hn : n ≤ 281474976710656) (h0 : 0 ≤ a) (h1 : a ≤ 281474976710656) : Ev (fun k => laws_heldByteS.f k (markL n a) a) (a + (n : Int)) := by
  unfold laws_heldByteS.f
  have := heldByteS_l0 n a hn h0 h1 n 0 (by omega)
  simpa using this
/-! laws_heldStepS -/
theorem msts_at : ∀ (l : List S56) (a : Int) (i : Nat) (h : i < l.length), (msts a l)[i]'(by rw [msts_len]; exact h) = mst (a + (mSt (l.take i) : Nat)) l[i]
  | [], a, i, h => by simp at h
  | x :: l, a, 0, h => by simp [msts, mSt]
  | x :: l, a, i + 1, h => by
    have := msts_at l (a + ((2 + x.f1.length : Nat) : Int)) i (by simpa using h)
    simp only [msts, List.getElem_cons_succ, List.take_succ_cons, mSt, this]
    rw [show a + ((2 + x.f1.length : Nat) : Int) + (mSt (l.take i) : Nat) = a + ((2 + x.f1.length + mSt (l.take i) : Nat) : Int) by omega]
theorem heldStepS_l0 (l : List S56) (a : Int) (hl : l.length ≤ 281474976710656) (h0 : 0 ≤ a) (h1 : a + mSt l ≤ 281474976710656) : ∀ (d i : Nat), i + d = l.length → Ev (fun k => laws_heldStepS.l0 k (msts a l) (a + (mSt (l.take i) : Nat)) (i : Int)) (a + mSt l) := by
  intro d
  induction d with
  | zero =>
    intro i hd
    refine Ev.step (fun _ => laws_heldStepS.l0.eq_2 ..) (ev_neg (by rw [msts_len]; omega) (ev_is ?_))
    rw [List.take_of_length_le (by omega)]
  | succ d ih =>
    intro i hd
    have hi : i < l.length := by omega
    have ht := mSt_take l i hi
    have hle := mSt_le l (i + 1)
    refine Ev.step (fun _ => laws_heldStepS.l0.eq_2 ..) (ev_pos (by rw [msts_len]; omega) (ev_pos (by omega) ?_))
    rw [rdS _ i (by rw [msts_len]; exact hi), msts_at l a i hi]
    refine ev_pos rfl ?_
    rw [w64 (x := a + (mSt (l.take i) : Nat) + 1) (by omega) (by omega)]
    refine Ev.bind (heldByteS_ev l[i].f1.length (a + (mSt (l.take i) : Nat) + 1) (by omega) (by omega) (by omega)) (ev_neg (by omega) (ev_pos rfl ?_))
    rw [w64s i (by omega), w64 (x := a + (mSt (l.take i) : Nat) + 1 + (l[i].f1.length : Nat) + 1) (by omega) (by omega), show a + (mSt (l.take i) : Nat) + 1 + (l[i].f1.length : Nat) + 1 = a + ((mSt (l.take (i + 1)) : Nat) : Int) by omega]
    exact ih (i + 1) (by omega)
theorem heldStepS_ev (l : List S56) (a : Int) (hl : l.length ≤ 281474976710656) (h0 : 0 ≤ a) (h1 : a + mSt l ≤ 281474976710656) : Ev (fun k => laws_heldStepS.f k (msts a l) a) (a + mSt l) := by
  unfold laws_heldStepS.f
  have := heldStepS_l0 l a hl h0 h1 l.length 0 (by omega)
  simpa [mSt] using this
theorem ptext_ev (p : List S56) (h : pathOk p = true) : Ev (fun k => impl_pathText.f k p) (ptx p) := by
  have h1 := ok_key p (ok_all h).1
  have := impl_pathText_l0 p (path_says h).1 (fun s hs => by have := h1 s hs; omega) (path_says h).2 p.length 0 [] (by omega) (by simp)
  unfold impl_pathText.f
  rw [List.drop_zero, ptext_eq, List.nil_append] at this
  simpa using this
theorem both (b : List Int) (hb : b.length ≤ 1048576) (hy : By b) : ∃ p ok, Ev (fun k => spec_PathRead.f k b) (p, ok) ∧ Ev (fun k => impl_PathRead.f k b) (p, ok) ∧ p.length ≤ 6 ∧ (∀ s ∈ p, s.f1.length ≤ 8) := by
  obtain ⟨p, ok, e1, p1, p2, p3⟩ := l3_any b hb hy b.length 0 [] (by omega) (by omega) (by simp) (fun s hs => by simp at hs) (fun _ => by simp [ptx])
  have es : Ev (fun k => spec_l3read.f k b) (p, ok) := by unfold spec_l3read.f; exact ev_pos hb e1
  by_cases hp : ok = true ∧ pathOk p = true
  · obtain ⟨rfl, hp⟩ := hp
    obtain ⟨q1, q2⟩ := ok_all hp
    have q3 := ok_key p q1
    have ht : ptx p = b := p3 rfl fun s hs => ((path_says hp).2 s hs).imp id fun h => by omega
    refine ⟨p, true, ?_, ?_, q2, q3⟩
    · unfold spec_PathRead.f
      refine Ev.bind es (ev_pos rfl (Ev.bind (spec_PathOk_ev p p1 p2) ?_))
      rw [hp]
      exact ev_pos rfl (Ev.now _)
    · unfold impl_PathRead.f impl_pathRead.f
      have e2 := i_full p [] q1 (by simp; omega)
      rw [ht, List.nil_append] at e2
      refine ev_pos hb (Ev.bind e2 ?_)
      dsimp only
      refine Ev.bind (impl_isPath_ev p p1 p2) ?_
      rw [hp]
      refine ev_pos rfl (Ev.bind (ptext_ev p hp) ?_)
      rw [ht]
      refine Ev.bind (ev_const (bytes_Equal_eq b b hy hy)) ?_
      rw [decide_eq_true rfl]
      exact ev_pos rfl (Ev.now _)
  · refine ⟨[], false, ?_, ?_, by simp, fun s hs => by simp at hs⟩
    · unfold spec_PathRead.f
      refine Ev.bind es ?_
      cases ok with
      | false => exact ev_neg (by show ¬ (false = true); decide) (Ev.now _)
      | true =>
        refine ev_pos rfl (Ev.bind (spec_PathOk_ev p p1 p2) (ev_neg (fun h => hp ⟨rfl, h⟩) (Ev.now _)))
    · unfold impl_PathRead.f impl_pathRead.f
      obtain ⟨o, e2, o1⟩ := ir_any b.length b [] (Nat.le_refl _) (by simp; omega) (fun s hs => by simp at hs)
      refine ev_pos hb (Ev.bind e2 ?_)
      cases o with
      | none => exact Ev.now _
      | some q =>
        obtain ⟨q1, q2⟩ := o1 q rfl
        dsimp only
        refine Ev.bind (impl_isPath_ev q q1 q2) ?_
        by_cases hq : pathOk q = true
        · obtain ⟨q3, q4⟩ := ok_all hq
          refine ev_pos hq (Ev.bind (ptext_ev q hq) (Ev.bind (ev_const (bytes_Equal_eq (ptx q) b (ptx_By q q3) hy)) ?_))
          refine ev_neg (fun h => ?_) (Ev.now _)
          have ht := of_decide_eq_true h
          have h9 := l3_full q q3 (by have := ptx_len q (ok_key q q3); omega) q [] rfl
          have h8 : (ptx ([] : List S56)).length = 0 := rfl
          rw [ht, h8] at h9
          have h7 := ev_unique e1 h9
          obtain ⟨rfl, rfl⟩ := Prod.mk.inj h7
          exact hp ⟨rfl, hq⟩
        · exact ev_neg hq (Ev.now _)
theorem FnExactPathRead (l0 : List Int) (hl0 : l0.length ≤ maxLen) (hb : By l0) : ∃ k, laws_FnExactPathRead.f k l0 = some true := by
  refine Ev.rounds (g := fun k => laws_FnExactPathRead.f k l0) ?_
  unfold laws_FnExactPathRead.f
  refine ev_ite (fun _ => Ev.now _) fun hs => ?_
  have hl : l0.length ≤ 1048576 := by omega
  obtain ⟨p, ok, e1, e2, h1, h2⟩ := both l0 hl hb
  have h3 := mSt_bd p h2
  refine Ev.bind (toByteS_ev l0 (by omega)) (Ev.bind e1 (Ev.bind e2 (Ev.bind (eqStepS_ev p (by omega) fun s hs => by have := h2 s hs; omega) (ev_pos rfl (ev_pos rfl (Ev.bind (eqByteS_ev l0 (by omega)) (ev_pos rfl (ev_pos (by omega) (Ev.bind (Ev.now _) (ev_neg (by omega) (ev_pos (by dsimp only; omega) (Ev.bind (Ev.now _) (Ev.bind (heldStepS_ev p 1 (by omega) (by omega) (by omega)) (ev_neg (by omega) (ev_pos rfl (Ev.now _))))))))))))))))
end Go.Proofs.YtockllljeeakaaaDoor.Pure
