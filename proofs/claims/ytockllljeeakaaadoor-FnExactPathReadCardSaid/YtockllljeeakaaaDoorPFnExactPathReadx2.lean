/- What a function comes to, walked by hand. No condition. -/
import Derived.Test.YtockllljeeakaaaDoorPFnExactPathReadx0
import Derived.Test.YtockllljeeakaaaDoorPFnExactPathReadx1
import Derived.Test.YtockllljeeakaaaDoorMlaw
import Derived.Test.YtockllljeeakaaaDoorMcore
namespace Go.Proofs.YtockllljeeakaaaDoor.PFnExactPathRead
open Go.RowKit Go.Proofs.YtockllljeeakaaaDoorW.PrintWords Go.Proofs.YtockllljeeakaaaDoorW.PrintLast Go.Proofs.YtockllljeeakaaaDoorW.PrintMore Go.Proofs.YtockllljeeakaaaDoor.M
attribute [local go_sem] max2_int min2_int max_two min_two max_three min_three max_four min_four Go.Proofs.YtockllljeeakaaaDoor.M.str_gtr Go.Proofs.YtockllljeeakaaaDoor.M.str_leq Go.Proofs.YtockllljeeakaaaDoor.M.str_geq   -- for this text's walks alone
set_option linter.unusedVariables false
set_option linter.unusedSimpArgs false
def spanL : List Int → Nat
  | [] => 0
  | x :: r => if 97 ≤ x ∧ x ≤ 122 then spanL r + 1 else 0
theorem spanL_le : ∀ l : List Int, spanL l ≤ l.length
  | [] => Nat.le_refl _
  | x :: r => by
    have := spanL_le r
    rw [spanL, List.length_cons]
    split <;> omega
theorem spanL_in : ∀ (l : List Int) (j : Nat), j < spanL l → 97 ≤ l.getD j 0 ∧ l.getD j 0 ≤ 122
  | [], j, h => by simp [spanL] at h
  | x :: r, j, h => by
    rw [spanL] at h
    split at h
    · rename_i c
      cases j with
      | zero => exact c
      | succ j => exact spanL_in r j (by omega)
    · omega
theorem spanL_end : ∀ (l : List Int), spanL l < l.length → ¬ (97 ≤ l.getD (spanL l) 0 ∧ l.getD (spanL l) 0 ≤ 122)
  | [], h => by simp at h
  | x :: r, h => by
    rw [spanL] at h ⊢
    split
    · rename_i c
      rw [if_pos c] at h
      exact spanL_end r (by simpa using h)
    · rename_i c
      exact c
def spanD : List Int → Int → Nat × Int
  | [], n => (0, n)
  | x :: r, n => if 48 ≤ x ∧ x ≤ 57 ∧ n < 1000 then ((spanD r (n * 10 + (x - 48))).1 + 1, (spanD r (n * 10 + (x - 48))).2) else (0, n)
theorem spanD_le : ∀ (l : List Int) (n : Int), (spanD l n).1 ≤ l.length
  | [], n => Nat.le_refl _
  | x :: r, n => by
    have := spanD_le r (n * 10 + (x - 48))
    rw [spanD]
    split
    · show (spanD r _).1 + 1 ≤ _
      rw [List.length_cons]; omega
    · exact Nat.zero_le _
theorem rd_drop (l : List Int) (i j : Nat) (h : i ≤ j) : (l.drop i).getD (j - i) 0 = rd l (j : Int) := by
  unfold rd
  rw [Int.toNat_natCast, List.getD_eq_getElem?_getD, List.getD_eq_getElem?_getD, List.getElem?_drop]
  congr 2; omega
theorem drop_rd (l : List Int) (j : Nat) (h : j < l.length) : l.drop j = rd l (j : Int) :: l.drop (j + 1) := by
  unfold rd
  rw [List.drop_eq_getElem_cons h, Int.toNat_natCast, List.getD_eq_getElem?_getD, List.getElem?_eq_getElem h]
  rfl
theorem dig_step {x n : Int} (h1 : 48 ≤ x) (h2 : x ≤ 57) (h3 : 0 ≤ n) (h4 : n < 1000) : wrap64 (wrap64 (n * 10) + ((x - 48) % 256)) = n * 10 + (x - 48) := by
  rw [w64 (x := n * 10) (by omega) (by omega), w64 (by omega) (by omega)]; omega
structure HLx (w : World) (a : Addr) (x : Int) (A : Option Addr) (sub : List Int) : Prop where
  x : w.cell? a = some (.int .u8 x)
  h : (Kd.int .u8).C w A sub.length sub
theorem HLx.b {w w1 : World} {a : Addr} {x : Int} {A : Option Addr} {sub : List Int} (h : HLx w a x A sub) (hb : Below w.heap.size w w1) : HLx w1 a x A sub := ⟨(hb.cell (World.block_lt_of_cell? w _ h.x)).trans h.x, Kd.C_below h.h hb⟩
theorem ms0 {n j : Nat} (h : j < n) : n - (intOf (.int .i64 ((j : Int) + 1))).toNat < n - (intOf (.int .i64 (j : Int))).toNat := by
  show n - ((j : Int) + 1).toNat < n - (j : Int).toNat
  omega
theorem ms1 {n j : Nat} (h : j < n) (hn : n < 4611686018427387904) : n - (intOf (.int .i64 (wrap64 ((j : Int) + 1)))).toNat < n - (intOf (.int .i64 (j : Int))).toNat := by
  rw [w64 (x := (j : Int) + 1) (by omega) (by omega)]
  show n - ((j : Int) + 1).toNat < n - (j : Int).toNat
  omega
def spec_l3read.r : Nat → List Int → Nat → List S56 → Option (List S56 × Bool)
  | 0, _, _, _ => none
  | k + 1, b, i, out =>
    if i < b.length then
      if out.length < 3518437208883 then
        if rd b (i : Int) = 46 then spec_l3read.r k b (i + 1 + spanL (b.drop (i + 1))) (out ++ [⟨0, (b.take (i + 1 + spanL (b.drop (i + 1)))).drop (i + 1), 0⟩])
        else if rd b (i : Int) = 91 then
          if i + 1 + (spanD (b.drop (i + 1)) 0).1 < b.length ∧ rd b ((i + 1 + (spanD (b.drop (i + 1)) 0).1 : Nat) : Int) = 93 then
            (spec_l2digits.f k (spanD (b.drop (i + 1)) 0).2).bind fun t => if (strOfNums t).toList = (strOfNums ((b.take (i + 1 + (spanD (b.drop (i + 1)) 0).1)).drop (i + 1))).toList then spec_l3read.r k b (i + 1 + (spanD (b.drop (i + 1)) 0).1 + 1) (out ++ [⟨1, [], (spanD (b.drop (i + 1)) 0).2⟩]) else some ([], false)
          else some ([], false)
        else some ([], false)
      else none
    else some (out, true)
def spec_l3read.f (k : Nat) (l0 : List Int) : Option (List S56 × Bool) := if l0.length ≤ 1048576 then spec_l3read.r k l0 0 [] else none
set_option maxHeartbeats 8000000 in
set_option maxRecDepth 100000 in
theorem spec_l3read.calls (k : Nat) (A0 : Option Addr) (c0 : Nat) (l0 : List Int) (r1 : List (S56)) (r2 : Bool) (w : World) (hr0 : Kd.C (Kd.int .u8) w A0 l0.length l0) (hc0 : l0.length ≤ c0) (h : spec_l3read.f k l0 = some (r1, r2)) :
  Calls Tryd.prog 36 #[.slice A0 l0.length c0] w fun e w' => ∃ v0_ : Value, e = .returned (.tuple #[v0_, .bool r2]) ∧ Kd.S k56 56 w' w.heap.size (fun _ => True) v0_ r1 ∧ Below w.heap.size w w' := by
 have hu56 := Tryd.underlying56
 have HR0 := Aside0.mk hr0
 have HC0 := Aside0.mk hc0
 clear hr0 hc0
 have HB := Bw.refl w
 unfold spec_l3read.f at h
 by_cases hln : l0.length ≤ 1048576
 case neg => rw [if_neg hln] at h; cases h
 rw [if_pos hln] at h
 have H' := Aside0.mk h
 clear h
 go_enter Tryd.func36, Tryd.ntmps36
 go_wp2
 go_loopg [4, 5] k (fun kq v4 v5 w' => ∃ (out : List S56) (i : Nat), i ≤ l0.length ∧ v5 = .int .i64 (i : Int) ∧ Aside0 (spec_l3read.r kq l0 i out = some (r1, r2)) ∧ Aside0 (kq ≤ k) ∧ Aside0 (Kd.S k56 56 w' w.heap.size (fun _ => True) v4 out) ∧ Bw w w')
 case atStart => exact ⟨[], 0, Nat.zero_le _, rfl, H', ⟨Nat.le_refl _⟩, ⟨Kd.S_nil _ _ _ _ _⟩, ⟨bw⟩⟩
 case round =>
  clear H'
  obtain ⟨out, i, hil, rfl, HA, HK1, HO_4, HB⟩ := hrel
  cases gk with
  | zero => exact absurd HA.out (by simp [spec_l3read.r])
  | succ k1 =>
   have H := HA.out
   clear HA
   rw [spec_l3read.r] at H
   by_cases hlt : i < l0.length
   case neg =>
    rw [if_neg hlt] at H
    have H9 := Option.some.inj H
    obtain ⟨rfl, rfl⟩ := Prod.mk.inj H9
    have c2b0 : ((i : Int) < (l0.length : Int)) = False := eq_false (by omega)
    clear H H9 hlt
    go_wp2
    go_ret2
    exact ⟨_, rfl, HO_4.out, bw⟩
   rw [if_pos hlt] at H
   by_cases hol : out.length < 3518437208883
   case neg => rw [if_neg hol] at H; cases H
   rw [if_pos hol] at H
   have c2b0 : ((i : Int) < (l0.length : Int)) = True := eq_true (by omega)
   have HOL := Aside0.mk hol
   clear hol
   obtain ⟨ad, eA, hx⟩ := Kd.at_int HR0.out (i : Int) (by omega) (by omega)
   subst eA
   replace hx := (HB.out.cell (World.block_lt_of_cell? w _ hx)).trans hx
   rw [Int.toNat_natCast] at hx
   have p126 : (0 ≤ (i : Int)) = True := eq_true (by omega)
   have q126 : ((i : Int) < (l0.length : Int)) = True := eq_true (by omega)
   have w3 : wrap64 ((i : Int) + 1) = (i : Int) + 1 := w64 (by omega) (by omega)
   obtain ⟨c, hc⟩ : ∃ y, y = rd l0 (i : Int) := ⟨_, rfl⟩
   rw [← hc] at hx H
   clear hc
   by_cases c46 : c = 46
   · as_aux_lemma =>
    subst c46
    rw [if_pos rfl] at H
    obtain ⟨e, he⟩ : ∃ y, y = i + 1 + spanL (l0.drop (i + 1)) := ⟨_, rfl⟩
    rw [← he] at H
    have hel := spanL_le (l0.drop (i + 1))
    rw [List.length_drop] at hel
    have HE := Aside0.mk (show i + 1 ≤ e ∧ e ≤ l0.length by omega)
    have H' := Aside0.mk H
    have SIN := Aside0.mk (show ∀ j : Nat, i + 1 ≤ j → j < e → 97 ≤ rd l0 (j : Int) ∧ rd l0 (j : Int) ≤ 122 from fun j h1 h2 => by rw [← rd_drop l0 (i + 1) j h1]; exact spanL_in _ _ (by omega))
    have SEN := Aside0.mk (show e < l0.length → ¬ (97 ≤ rd l0 (e : Int) ∧ rd l0 (e : Int) ≤ 122) from fun h2 => by rw [← rd_drop l0 (i + 1) e (by omega), show e - (i + 1) = spanL (l0.drop (i + 1)) by omega]; exact spanL_end _ (by rw [List.length_drop]; omega))
    clear H he hel
    go_upto_block 3 with (fail)
    go_cut [6] (fun v6 wc => v6 = .int .i64 (e : Int) ∧ Aside0 (Kd.S k56 56 wc w.heap.size (fun _ => True) u4 out) ∧ Bw w wc)
    case first =>
     as_aux_lemma =>
     go_wp2
     go_loopw [6] (fun v6 w' => ∃ j : Nat, i + 1 ≤ j ∧ j ≤ e ∧ v6 = .int .i64 (j : Int) ∧ Aside0 (Kd.S k56 56 w' w.heap.size (fun _ => True) u4 out) ∧ Bw w w') (fun v6 _ => e - (intOf v6).toNat)
     case atStart => exact ⟨i + 1, Nat.le_refl _, HE.out.1, by go_num, HO_4, HB⟩
     case round =>
      clear hx p126 q126 w3 HB HO_4
      obtain ⟨j, hj1, hj2, rfl, HO_4, HB⟩ := hrel
      by_cases hje : j < e
      · obtain ⟨s1, s2⟩ := SIN.out j hj1 hje
        have hjl : j < l0.length := by have := HE.out; omega
        have c5b0 : ((j : Int) < (l0.length : Int)) = True := eq_true (by omega)
        have c7b0 : decide (97 ≤ rd l0 (j : Int)) = true := decide_eq_true s1
        have c8b0 : decide (rd l0 (j : Int) ≤ 122) = true := decide_eq_true s2
        obtain ⟨ad2, eA, hx⟩ := Kd.at_int HR0.out (j : Int) (by omega) (by omega)
        obtain rfl : ad = ad2 := by injection eA
        replace hx := (HB.out.cell (World.block_lt_of_cell? w _ hx)).trans hx
        rw [Int.toNat_natCast] at hx
        have p127 : (0 ≤ (j : Int)) = True := eq_true (by omega)
        have q127 : ((j : Int) < (l0.length : Int)) = True := eq_true (by omega)
        have w4 : wrap64 ((j : Int) + 1) = (j : Int) + 1 := w64 (by omega) (by omega)
        go_wp2
        go_roundw
        case rel => exact ⟨j + 1, by omega, by omega, by go_num, HO_4, HB⟩
        case measure => first | (with_reducible exact ms0 hje) | exact ms1 hje (by have := HE.out; omega)
      · obtain rfl : j = e := by omega
        by_cases hjl : j < l0.length
        · have hn := SEN.out hjl
          have c5b0 : ((j : Int) < (l0.length : Int)) = True := eq_true (by omega)
          obtain ⟨ad2, eA, hx⟩ := Kd.at_int HR0.out (j : Int) (by omega) (by omega)
          obtain rfl : ad = ad2 := by injection eA
          replace hx := (HB.out.cell (World.block_lt_of_cell? w _ hx)).trans hx
          rw [Int.toNat_natCast] at hx
          have p127 : (0 ≤ (j : Int)) = True := eq_true (by omega)
          have q127 : ((j : Int) < (l0.length : Int)) = True := eq_true (by omega)
          by_cases s1 : 97 ≤ rd l0 (j : Int)
          · have c7b0 : decide (97 ≤ rd l0 (j : Int)) = true := decide_eq_true s1
            have c8b0 : decide (rd l0 (j : Int) ≤ 122) = false := decide_eq_false (fun s2 => hn ⟨s1, s2⟩)
            clear hn
            go_wp2
            go_meet
            case rel => exact ⟨rfl, HO_4, HB⟩
          · have c7b0 : decide (97 ≤ rd l0 (j : Int)) = false := decide_eq_false s1
            clear hn
            go_wp2
            go_meet
            case rel => exact ⟨rfl, HO_4, HB⟩
        · have c5b0 : ((j : Int) < (l0.length : Int)) = False := eq_false (by omega)
          go_wp2
          go_meet
          case rel => exact ⟨rfl, HO_4, HB⟩
    case rest =>
     as_aux_lemma =>
     clear HO_4 HB hx
     obtain ⟨rfl, HO_4, HB⟩ := hcut
     obtain ⟨x6_2, hx6⟩ : ∃ x : Int, x = (e : Int) := ⟨_, rfl⟩
     rw [← hx6]
     obtain ⟨ji33, hji33⟩ : ∃ j_ : Int, wrap64 ((i : Int) + 1) = j_ := ⟨_, rfl⟩
     have hji33w : IntKind.i64.wrap ((i : Int) + 1) = ji33 := (i64_w _).trans hji33
     have eji : ji33 = ((i + 1 : Nat) : Int) := by rw [← hji33, w3]; omega
     have HEE := HE.out
     have c34b0 : (0 ≤ ji33) = True := eq_true (by omega)
     have c34b1 : decide (0 ≤ ji33) = true := decide_eq_true (by omega)
     have c35b0 : (ji33 ≤ x6_2) = True := eq_true (by omega)
     have c35b1 : decide (ji33 ≤ x6_2) = true := decide_eq_true (by omega)
     have c36b0 : (x6_2 ≤ (l0.length : Int)) = True := eq_true (by omega)
     have c36b1 : decide (x6_2 ≤ (l0.length : Int)) = true := decide_eq_true (by omega)
     obtain ⟨y149, hy149⟩ : ∃ y_ : List Int, y_ = (([] : List Int)) := ⟨_, rfl⟩
     have Ny149 := Aside0.mk hy149
     have LMc37 := Aside0.mk (show y149.length + ((l0.take (x6_2 : Int).toNat).drop ((ji33) : Int).toNat).length < 140737488355328 by rw [hy149, List.length_drop, List.length_take, List.length_nil]; omega)
     obtain ⟨y153, hy153⟩ : ∃ y_ : List Int, y_ = (y149 ++ ((l0.take (x6_2 : Int).toNat).drop ((ji33) : Int).toNat)) := ⟨_, rfl⟩
     have Ny153 := Aside0.mk hy153
     obtain ⟨x4_1, hx4⟩ : ∃ y_, y_ = out := ⟨_, rfl⟩
     rw [← hx4] at HO_4 HOL
     have LMc38 := HOL
     obtain ⟨y156, hy156⟩ : ∃ y_ : List (S56), y_ = (x4_1 ++ [(⟨0, y153, 0⟩ : S56)]) := ⟨_, rfl⟩
     have Ny156 := Aside0.mk hy156
     have HREL := Aside0.mk (show spec_l3read.r k1 l0 e y156 = some (r1, r2) by
      have h9 := H'.out
      rw [hy156, hx4, hy153, hy149, List.nil_append, hx6, eji, Int.toNat_natCast, Int.toNat_natCast]
      exact h9)
     have HX6 := Aside0.mk hx6
     clear hy149 hy153 hy156 hx4 hx6 eji HEE w3 p126 q126 H'
     go_wp2_with (first | ((with_reducible refine gate_dst (N := 41) rfl ?_); refine Kd.R_lit (Kd.int .u8) _ 5 ?hg (N := 41) ?hd (xs := ([] : List Int)) (inner := []) (ok := fun _ => True) (okp := fun _ => True) ?hr ?hp (fun _ hk => hk) trivial (Below.refl _ _) (Nat.le_refl _) (by simp) ?_; (case hd => rfl); (case hg => rfl); (case hr => first | (go_simp; done) | (go_simp; rfl)); (case hp => exact (Reps.none _ _)); intro v150 w39 ho40 hb hg_ hnew_; clear hg_ hnew_; (first | rw [← Ny149.out] at ho40 | (simp only [Int.reduceToNat] at ho40; rw [← Ny149.out] at ho40)); replace HO_4 := Aside0.mk (Kd.S_elder' (by (with_reducible repeat (first | apply Kd.S_alloc | apply Kd.S_drewN | apply Kd.S_drew)); exact HO_4.out) (Kd.R_base ho40) hb); have HO151 := Aside0.mk (Kd.R_lower ho40 (bzz w)); replace HB := (Bw.sw w hb); clear hb ho40; obtain ⟨i041, hi041, _, hsz41, _⟩ := info_parts info5; obtain ⟨A41, hcut41, hA41, hC41⟩ := print_mid_of (P := Tryd.prog) (Value.int .u8) 0 22 5 .i64 .i64 Tryd.underlying22 hi041 hsz41 (some ad) c0 l0 (ji33) x6_2 (of_decide_eq_true (by first | (with_reducible assumption) | assumption)) (by first | omega | exact of_decide_eq_true (by first | (with_reducible assumption) | assumption)) (of_decide_eq_true (by first | (with_reducible assumption) | assumption)) HC0.out; have HR152 := Aside0.mk (Kd.C_of_reads (h1 := fun _ => rfl) (hA41 _ (Kd.reads_of_C HR0.out))); have HC152 := Aside0.mk hC41; clear hA41 hC41 hi041 hsz41) | ((with_reducible refine gate_builtin (b := .append) (xs := #[.tmp 41, .tmp 46]) rfl ?_); at_builtin; refine Kd.R_append_rows (Kd.int .u8) (w0 := w) w.heap.size rfl (.tmp 41) (.tmp 46) 22 5 (.int .u8 0) 1 rfl Tryd.underlying22 info5 rfl (by decide) (by omega) v150 y149 ((l0.take (x6_2 : Int).toNat).drop ((ji33) : Int).toNat) _ _ _ (fun _ => True) (fun _ => False) rfl rfl ?aO ?aR (fun _ _ h => h) (fun _ h => h.elim) ?aF ?aB ?aS ?aL ?_; (case aR => first | (rw [← show ((l0.take (x6_2 : Int).toNat).drop ((ji33) : Int).toNat).length = (x6_2.toNat - (ji33).toNat) from (by rw [List.length_drop, List.length_take]; have h_ : (x6_2 : Int) ≤ (l0.length : Int) := of_decide_eq_true (by first | (with_reducible assumption) | assumption); omega)]; repeat (first | exact (Kd.C_below HR152.out HB.out) | (with_reducible refine Kd.C_alloc ?_ _) | (with_reducible refine Kd.C_drewN ?_ _) | (with_reducible refine Kd.C_drew ?_))) | (repeat (first | exact (Kd.C_below HR152.out HB.out) | (with_reducible refine Kd.C_alloc ?_ _) | (with_reducible refine Kd.C_drewN ?_ _) | (with_reducible refine Kd.C_drew ?_)))); (case aB => exact bw); (case aF => exact (fun _ _ => trivial)); (case aO => exact (by (with_reducible repeat (first | apply Kd.R_alloc | apply Kd.R_drewN | apply Kd.R_drew)); exact HO151.out)); (case aS => exact (bzz w)); (case aL => have := LMc37.out; have hlx_ := (show ((l0.take (x6_2 : Int).toNat).drop ((ji33) : Int).toNat).length = (x6_2.toNat - (ji33).toNat) from (by rw [List.length_drop, List.length_take]; have h_ : (x6_2 : Int) ≤ (l0.length : Int) := of_decide_eq_true (by first | (with_reducible assumption) | assumption); omega)); omega); intro v154 w42 ho hb hg hat; rw [← Ny153.out] at ho; replace HO_4 := Aside0.mk (Kd.S_after (ok := (fun _ => True)) (by (with_reducible repeat (first | apply Kd.S_alloc | apply Kd.S_drewN | apply Kd.S_drew)); exact HO_4.out) hg hat); replace HB := Bw.mk (w := w) (hb); have HO155 := Aside0.mk (ho); clear HO151; clear ho hb hg hat; obtain ⟨Ao43, co43, eo43⟩ := Kd.R_slice HO155.out; subst eo43) | ((with_reducible refine gate_builtin (b := .append) (xs := #[.tmp 40, .tmp 49]) rfl ?_); at_builtin; refine Kd.S_append k56 (w0 := w) w.heap.size rfl (.tmp 40) (.tmp 49) 26 56 (.agg #[(.int .i64 0), (.slice none 0 0), (.int .i64 0)]) 40 rfl Tryd.underlying26 info56 rfl (by decide) (by omega) u4 x4_1 (⟨0, y153, 0⟩ : S56) [.int .i64 0, .slice Ao43 y153.length co43, .int .i64 0] (fun _ => True) (fun k_ => some k_ = (.slice Ao43 y153.length co43 : Value).ownBlock) rfl rfl ?aP (fun k_ hk_ => ((Kd.R_mono (ok' := fun k_ => ((fun _ => True)) k_ ∧ some k_ ≠ (u4 : Value).ownBlock) (Kd.R_apart' (HO155.out) (Kd.S_typed HO_4.out) (by decide)) (fun k_ hk => ⟨trivial, hk.2⟩))).1 k_ hk_.symm) ?aF ?aO ?aB ?aS ?aL ?_; (case aP => exact k56_mkM _ _ _ (⟨0, y153, 0⟩ : S56) (Kd.R_mono (Kd.R_tight rfl (Kd.R_mono (ok' := fun k_ => ((fun _ => True)) k_ ∧ some k_ ≠ (u4 : Value).ownBlock) (Kd.R_apart' (HO155.out) (Kd.S_typed HO_4.out) (by decide)) (fun k_ hk => ⟨trivial, hk.2⟩))) (fun _ h_ => h_))); (case aB => exact bw); (case aF => exact (fun _ _ => trivial)); (case aO => exact (by (with_reducible repeat (first | apply Kd.S_alloc | apply Kd.S_drewN | apply Kd.S_drew)); exact Kd.S_mono HO_4.out (fun k_ hk => ⟨trivial, fun e_ => hk.2 e_⟩))); (case aS => exact (bzz w)); (case aL => have := LMc38.out; omega); intro v157 w44 ho hb hg hat; rw [← Ny156.out] at ho; replace HB := Bw.mk (w := w) (hb); have HO158 := Aside0.mk (ho); clear HO_4 HO155; clear ho hb hg hat))
     go_roundg k1
     case rel => exact ⟨y156, e, HE.out.2, by rw [HX6.out], HREL, ⟨by have := HK1.out; omega⟩, HO158, ⟨bw⟩⟩
     case measure => have := HK1.out; omega
   · rw [if_neg c46] at H
     by_cases c91 : c = 91
     · as_aux_lemma =>
      subst c91
      rw [if_pos rfl] at H
      obtain ⟨p, hp⟩ : ∃ y, y = spanD (l0.drop (i + 1)) 0 := ⟨_, rfl⟩
      rw [← hp] at H
      have hdl := spanD_le (l0.drop (i + 1)) 0
      rw [← hp, List.length_drop] at hdl
      obtain ⟨d, n⟩ := p
      dsimp only at H hdl
      obtain ⟨e, he⟩ : ∃ y, y = i + 1 + d := ⟨_, rfl⟩
      rw [← he] at H
      have HE := Aside0.mk (show i + 1 ≤ e ∧ e ≤ l0.length by omega)
      have HP := Aside0.mk (show spanD (l0.drop (i + 1)) 0 = (e - (i + 1), n) by rw [← hp]; congr 1; omega)
      have H' := Aside0.mk H
      clear H hp hdl he c46
      go_upto_block 5 with (fail)
      go_cut [6, 7] (fun v6 v7 wc => v6 = .int .i64 (e : Int) ∧ v7 = .int .i64 n ∧ Aside0 (Kd.S k56 56 wc w.heap.size (fun _ => True) u4 out) ∧ Bw w wc)
      case first =>
       as_aux_lemma =>
       go_wp2
       go_loopw [6, 7] (fun v6 v7 w' => ∃ (j : Nat) (m : Int), i + 1 ≤ j ∧ j ≤ e ∧ v6 = .int .i64 (j : Int) ∧ v7 = .int .i64 m ∧ 0 ≤ m ∧ Aside0 (spanD (l0.drop j) m = (e - j, n)) ∧ Aside0 (Kd.S k56 56 w' w.heap.size (fun _ => True) u4 out) ∧ Bw w w') (fun v6 _ _ => e - (intOf v6).toNat)
       case atStart => exact ⟨i + 1, 0, Nat.le_refl _, HE.out.1, by go_num, rfl, Int.le_refl _, HP, HO_4, HB⟩
       case round =>
        clear hx p126 q126 w3 HB HO_4
        obtain ⟨j, m, hj1, hj2, rfl, rfl, hm0, HS, HO_4, HB⟩ := hrel
        have hS := HS.out
        have HEE := HE.out
        by_cases hjl : j < l0.length
        · rw [drop_rd l0 j hjl, spanD] at hS
          obtain ⟨ad2, eA, hx⟩ := Kd.at_int HR0.out (j : Int) (by omega) (by omega)
          obtain rfl : ad = ad2 := by injection eA
          replace hx := (HB.out.cell (World.block_lt_of_cell? w _ hx)).trans hx
          rw [Int.toNat_natCast] at hx
          have p127 : (0 ≤ (j : Int)) = True := eq_true (by omega)
          have q127 : ((j : Int) < (l0.length : Int)) = True := eq_true (by omega)
          have w4 : wrap64 ((j : Int) + 1) = (j : Int) + 1 := w64 (by omega) (by omega)
          have c5b0 : ((j : Int) < (l0.length : Int)) = True := eq_true (by omega)
          obtain ⟨x, hxx⟩ : ∃ y, y = rd l0 (j : Int) := ⟨_, rfl⟩
          rw [← hxx] at hS hx
          clear hxx
          by_cases s1 : 48 ≤ x
          · have c7b0 : decide (48 ≤ x) = true := decide_eq_true s1
            by_cases s2 : x ≤ 57
            · have c8b0 : decide (x ≤ 57) = true := decide_eq_true s2
              by_cases s3 : m < 1000
              · rw [if_pos ⟨s1, s2, s3⟩] at hS
                obtain ⟨h1, h2⟩ := Prod.mk.inj hS
                have hje : j < e := by omega
                have HS2 := Aside0.mk (show spanD (l0.drop (j + 1)) (m * 10 + (x - 48)) = (e - (j + 1), n) from Prod.ext (by show (spanD _ _).1 = _; omega) h2)
                have HST := Aside0.mk (dig_step s1 s2 hm0 s3)
                have HM := Aside0.mk (show 0 ≤ m * 10 + (x - 48) by omega)
                have c9b0 : decide (m < 1000) = true := decide_eq_true s3
                clear hS h1 h2 s1 s2 s3
                go_wp2
                go_roundw
                case rel => exact ⟨j + 1, m * 10 + (x - 48), by omega, by omega, by go_num, by first | (rw [HST.out]; done) | rw [← HST.out], HM.out, HS2, HO_4, HB⟩
                case measure => first | (with_reducible exact ms0 hje) | exact ms1 hje (by omega)
              · rw [if_neg (fun q => s3 q.2.2)] at hS
                have c9b0 : decide (m < 1000) = false := decide_eq_false s3
                obtain ⟨h1, rfl⟩ := Prod.mk.inj hS
                obtain rfl : j = e := by omega
                clear h1
                go_wp2
                go_meet
                case rel => exact ⟨rfl, rfl, HO_4, HB⟩
            · rw [if_neg (fun q => s2 q.2.1)] at hS
              have c8b0 : decide (x ≤ 57) = false := decide_eq_false s2
              obtain ⟨h1, rfl⟩ := Prod.mk.inj hS
              obtain rfl : j = e := by omega
              clear h1
              go_wp2
              go_meet
              case rel => exact ⟨rfl, rfl, HO_4, HB⟩
          · rw [if_neg (fun q => s1 q.1)] at hS
            have c7b0 : decide (48 ≤ x) = false := decide_eq_false s1
            obtain ⟨h1, rfl⟩ := Prod.mk.inj hS
            obtain rfl : j = e := by omega
            clear h1
            go_wp2
            go_meet
            case rel => exact ⟨rfl, rfl, HO_4, HB⟩
        · rw [List.drop_eq_nil_of_le (by omega), spanD] at hS
          have c5b0 : ((j : Int) < (l0.length : Int)) = False := eq_false (by omega)
          obtain ⟨h1, rfl⟩ := Prod.mk.inj hS
          obtain rfl : j = e := by omega
          clear h1
          go_wp2
          go_meet
          case rel => exact ⟨rfl, rfl, HO_4, HB⟩
      case rest =>
       as_aux_lemma =>
       clear HO_4 HB hx
       obtain ⟨rfl, rfl, HO_4, HB⟩ := hcut
       have H := H'.out
       clear H'
       obtain ⟨x6_2, hx6⟩ : ∃ x : Int, x = (e : Int) := ⟨_, rfl⟩
       rw [← hx6]
       have HEE := HE.out
       have HX6 := Aside0.mk hx6
       by_cases hel : e < l0.length
       · have c51b0 : decide ((l0.length : Int) ≤ x6_2) = false := decide_eq_false (by omega)
         obtain ⟨ad2, eA, hx⟩ := Kd.at_int HR0.out x6_2 (by omega) (by omega)
         obtain rfl : ad = ad2 := by injection eA
         replace hx := (HB.out.cell (World.block_lt_of_cell? w _ hx)).trans hx
         have p159 : (0 ≤ x6_2) = True := eq_true (by omega)
         have q159 : (x6_2 < (l0.length : Int)) = True := eq_true (by omega)
         have w5 : wrap64 (x6_2 + 1) = x6_2 + 1 := w64 (by omega) (by omega)
         obtain ⟨ji33, hji33⟩ : ∃ j_ : Int, wrap64 ((i : Int) + 1) = j_ := ⟨_, rfl⟩
         have hji33w : IntKind.i64.wrap ((i : Int) + 1) = ji33 := (i64_w _).trans hji33
         have eji : ji33 = ((i + 1 : Nat) : Int) := by rw [← hji33, w3]; omega
         have c34b0 : (0 ≤ ji33) = True := eq_true (by omega)
         have c34b1 : decide (0 ≤ ji33) = true := decide_eq_true (by omega)
         have c35b0 : (ji33 ≤ x6_2) = True := eq_true (by omega)
         have c35b1 : decide (ji33 ≤ x6_2) = true := decide_eq_true (by omega)
         have c36b0 : (x6_2 ≤ (l0.length : Int)) = True := eq_true (by omega)
         have c36b1 : decide (x6_2 ≤ (l0.length : Int)) = true := decide_eq_true (by omega)
         obtain ⟨i062, hi062, _, hsz62, _⟩ := info_parts info5
         obtain ⟨A62, hcut62, hA62, hC62⟩ := print_mid_of (P := Tryd.prog) (Value.int .u8) 0 22 5 .i64 .i64 Tryd.underlying22 hi062 hsz62 (some ad) c0 l0 ji33 x6_2 (by omega) (by omega) (by omega) HC0.out
         obtain ⟨sub, hsub⟩ : ∃ y, y = (l0.take (x6_2 : Int).toNat).drop (ji33 : Int).toNat := ⟨_, rfl⟩
         rw [← hsub] at hcut62 hA62
         have esub : (l0.take e).drop (i + 1) = sub := by rw [hsub, hx6, eji, Int.toNat_natCast, Int.toNat_natCast]
         rw [esub] at H
         have HQ0 : HLx wc (ad.add x6_2.toNat) (rd l0 x6_2) A62 sub := ⟨hx, Kd.C_below (Kd.C_of_reads (h1 := fun _ => rfl) (hA62 _ (Kd.reads_of_C HR0.out))) HB.out⟩
         clear hx hi062 hsz62 hA62 hC62 hsub esub eji w3 p126 q126
         obtain ⟨x, hxx⟩ : ∃ y, y = rd l0 x6_2 := ⟨_, rfl⟩
         have ex93 : (x = 93) ↔ rd l0 (e : Int) = 93 := by rw [hxx, hx6]
         rw [← hxx] at HQ0
         clear hxx hx6
         by_cases c93 : x = 93
         · rw [if_pos ⟨hel, ex93.1 c93⟩] at H
           obtain ⟨t, ht, H⟩ := bnd H
           have HT := Aside0.mk ht
           clear ht ex93
           subst c93
           by_cases ceq : (strOfNums t).toList = (strOfNums sub).toList
           · rw [if_pos ceq] at H
             have c59b0 : ((strOfNums t).toList == (strOfNums sub).toList) = true := beq_iff_eq.mpr ceq
             have c59b1 : ((strOfNums t).toList != (strOfNums sub).toList) = false := bne_eq_false_iff_eq.mpr ceq
             have H' := Aside0.mk H
             clear H ceq
             try go_wp2
             have hdr : Below wc.heap.size wc wc.drew := below_drew1 (Below.refl _ _)
             refine start_ (n := 23) (S := fun w' => HLx w' (ad.add x6_2.toNat) 93 A62 sub) (ds := []) #[false, false, false, false, false, false, false, false, false, false, false, false, false, false, false, false, false, false, false, false, false, false, false] (by kernel_rfl) rfl rfl (HQ0.b hdr) (fun hH => ?_)
             generalize wc.drew = wd at hdr hH ⊢
             replace HO_4 := Aside0.mk (Kd.S_below HO_4.out hdr)
             replace HB := Bw.sw w hdr
             replace HQ0 := HQ0.b hdr
             clear hdr
             refine pure_ (i := 0) (N := some 86) (v := ?_) (a' := ?_) #[true, false, false, false, false, false, false, false, false, false, false, false, false, false, false, false, false, false, false, false, false, false, false] rfl rfl (by kernel_rfl) (fun _ _ _ h => h) (Or.inl ⟨by rfl, ?_⟩) ?_ ?_
             rotate_left
             ·intro w'
              go_simp
              with_reducible rfl
             rotate_left
             ·simp only [Act.put, List.setIfInBounds_toArray, List.set_cons_zero, List.set_cons_succ, i64_w, i32_w]
              rfl
             refine pure_ (i := 1) (N := some 87) (v := ?_) (a' := ?_) #[true, true, false, false, false, false, false, false, false, false, false, false, false, false, false, false, false, false, false, false, false, false, false] rfl rfl (by kernel_rfl) (fun _ _ _ h => h) (Or.inl ⟨by rfl, ?_⟩) ?_ ?_
             rotate_left
             ·intro w'
              go_simp
              with_reducible rfl
             rotate_left
             ·simp only [Act.put, List.setIfInBounds_toArray, List.set_cons_zero, List.set_cons_succ, i64_w, i32_w]
              rfl
             refine pure_ (i := 2) (N := some 88) (v := ?_) (a' := ?_) #[true, true, true, false, false, false, false, false, false, false, false, false, false, false, false, false, false, false, false, false, false, false, false] rfl rfl (by kernel_rfl) (fun _ _ _ h => h) (Or.inl ⟨by rfl, ?_⟩) ?_ ?_
             rotate_left
             ·intro w'
              go_simp
              with_reducible rfl
             rotate_left
             ·simp only [Act.put, List.setIfInBounds_toArray, List.set_cons_zero, List.set_cons_succ, i64_w, i32_w]
              rfl
             refine pure_ (i := 3) (N := some 89) (v := ?_) (a' := ?_) #[true, true, true, true, false, false, false, false, false, false, false, false, false, false, false, false, false, false, false, false, false, false, false] rfl rfl (by kernel_rfl) (fun _ _ _ h => h) (Or.inl ⟨by rfl, ?_⟩) ?_ ?_
             rotate_left
             ·intro w'
              go_simp
              with_reducible rfl
             rotate_left
             ·simp only [Act.put, List.setIfInBounds_toArray, List.set_cons_zero, List.set_cons_succ, i64_w, i32_w]
              rfl
             refine pure_ (i := 4) (N := some 90) (v := ?_) (a' := ?_) #[true, true, true, true, true, false, false, false, false, false, false, false, false, false, false, false, false, false, false, false, false, false, false] rfl rfl (by kernel_rfl) (fun _ _ _ h => h) (Or.inl ⟨by rfl, ?_⟩) ?_ ?_
             rotate_left
             ·intro w'
              go_simp
              with_reducible rfl
             rotate_left
             ·simp only [Act.put, List.setIfInBounds_toArray, List.set_cons_zero, List.set_cons_succ, i64_w, i32_w]
              rfl
             refine pure_ (i := 5) (N := some 91) (v := ?_) (a' := ?_) #[true, true, true, true, true, true, false, false, false, false, false, false, false, false, false, false, false, false, false, false, false, false, false] rfl rfl (by kernel_rfl) (fun _ _ _ h => h) (Or.inl ⟨by rfl, ?_⟩) ?_ ?_
             rotate_left
             ·intro w'
              go_simp
              with_reducible rfl
             rotate_left
             ·simp only [Act.put, List.setIfInBounds_toArray, List.set_cons_zero, List.set_cons_succ, i64_w, i32_w]
              rfl
             refine pure_ (i := 6) (N := some 92) (v := ?_) (a' := ?_) #[true, true, true, true, true, true, true, false, false, false, false, false, false, false, false, false, false, false, false, false, false, false, false] rfl rfl (by kernel_rfl) (fun _ _ _ h => h) (Or.inl ⟨by rfl, ?_⟩) ?_ ?_
             rotate_left
             ·intro w'
              go_simp
              with_reducible rfl
             rotate_left
             ·simp only [Act.put, List.setIfInBounds_toArray, List.set_cons_zero, List.set_cons_succ, i64_w, i32_w]
              rfl
             refine pure_ (i := 7) (N := some 93) (v := ?_) (a' := ?_) #[true, true, true, true, true, true, true, true, false, false, false, false, false, false, false, false, false, false, false, false, false, false, false] rfl rfl (by kernel_rfl) (fun _ _ _ h => h) (Or.inl ⟨by rfl, ?_⟩) ?_ ?_
             rotate_left
             ·intro w'
              go_simp
              with_reducible rfl
             rotate_left
             ·simp only [Act.put, List.setIfInBounds_toArray, List.set_cons_zero, List.set_cons_succ, i64_w, i32_w]
              rfl
             refine take_ (i := 8) (N := some 94) (v := ?_) (a' := ?_) #[true, true, true, true, true, true, true, true, true, false, false, false, false, false, false, false, false, false, false, false, false, false, false] rfl rfl (by kernel_rfl) (fun _ _ _ h => h) (Or.inl ⟨by rfl, ?_⟩) hH ?_ ?_
             rotate_left
             ·rintro w' s0
              have hc := s0.x
              go_simp
              with_reducible rfl
             rotate_left
             ·simp only [Act.put, List.setIfInBounds_toArray, List.set_cons_zero, List.set_cons_succ, i64_w, i32_w]
              rfl
             refine pure_ (i := 9) (N := some 95) (v := ?_) (a' := ?_) #[true, true, true, true, true, true, true, true, true, true, false, false, false, false, false, false, false, false, false, false, false, false, false] rfl rfl (by kernel_rfl) (fun _ _ _ h => h) (Or.inl ⟨by rfl, ?_⟩) ?_ ?_
             rotate_left
             ·intro w'
              go_simp
              with_reducible rfl
             rotate_left
             ·simp only [Act.put, List.setIfInBounds_toArray, List.set_cons_zero, List.set_cons_succ, i64_w, i32_w]
              rfl
             refine pure_ (i := 10) (N := some 96) (v := ?_) (a' := ?_) #[true, true, true, true, true, true, true, true, true, true, true, false, false, false, false, false, false, false, false, false, false, false, false] rfl rfl (by kernel_rfl) (fun _ _ _ h => h) (Or.inl ⟨by rfl, ?_⟩) ?_ ?_
             rotate_left
             ·intro w'
              go_simp
              with_reducible rfl
             rotate_left
             ·simp only [Act.put, List.setIfInBounds_toArray, List.set_cons_zero, List.set_cons_succ, i64_w, i32_w]
              rfl
             refine pure_ (i := 11) (N := some 97) (v := ?_) (a' := ?_) #[true, true, true, true, true, true, true, true, true, true, true, true, false, false, false, false, false, false, false, false, false, false, false] rfl rfl (by kernel_rfl) (fun _ _ _ h => h) (Or.inl ⟨by rfl, ?_⟩) ?_ ?_
             rotate_left
             ·intro w'
              go_simp
              with_reducible rfl
             rotate_left
             ·simp only [Act.put, List.setIfInBounds_toArray, List.set_cons_zero, List.set_cons_succ, i64_w, i32_w]
              rfl
             refine pure_ (i := 12) (N := some 98) (v := ?_) (a' := ?_) #[true, true, true, true, true, true, true, true, true, true, true, true, true, false, false, false, false, false, false, false, false, false, false] rfl rfl (by kernel_rfl) (fun _ _ _ h => h) (Or.inl ⟨by rfl, ?_⟩) ?_ ?_
             rotate_left
             ·intro w'
              go_simp
              with_reducible rfl
             rotate_left
             ·simp only [Act.put, List.setIfInBounds_toArray, List.set_cons_zero, List.set_cons_succ, i64_w, i32_w]
              rfl
             refine pure_ (i := 15) (N := some 101) (v := ?_) (a' := ?_) #[true, true, true, true, true, true, true, true, true, true, true, true, true, false, false, true, false, false, false, false, false, false, false] rfl rfl (by kernel_rfl) (fun _ _ _ h => h) (Or.inl ⟨by rfl, ?_⟩) ?_ ?_
             rotate_left
             ·intro w'
              go_simp
              with_reducible rfl
             rotate_left
             ·simp only [Act.put, List.setIfInBounds_toArray, List.set_cons_zero, List.set_cons_succ, i64_w, i32_w]
              rfl
             refine pure_ (i := 16) (N := some 102) (v := ?_) (a' := ?_) #[true, true, true, true, true, true, true, true, true, true, true, true, true, false, false, true, true, false, false, false, false, false, false] rfl rfl (by kernel_rfl) (fun _ _ _ h => h) (Or.inl ⟨by rfl, ?_⟩) ?_ ?_
             rotate_left
             ·intro w'
              go_simp
              with_reducible rfl
             rotate_left
             ·simp only [Act.put, List.setIfInBounds_toArray, List.set_cons_zero, List.set_cons_succ, i64_w, i32_w]
              rfl
             refine pure_ (i := 17) (N := some 103) (v := ?_) (a' := ?_) #[true, true, true, true, true, true, true, true, true, true, true, true, true, false, false, true, true, true, false, false, false, false, false] rfl rfl (by kernel_rfl) (fun _ _ _ h => h) (Or.inl ⟨by rfl, ?_⟩) ?_ ?_
             rotate_left
             ·intro w'
              go_simp
              with_reducible rfl
             rotate_left
             ·simp only [Act.put, List.setIfInBounds_toArray, List.set_cons_zero, List.set_cons_succ, i64_w, i32_w]
              rfl
             refine pure_ (i := 18) (N := some 104) (v := ?_) (a' := ?_) #[true, true, true, true, true, true, true, true, true, true, true, true, true, false, false, true, true, true, true, false, false, false, false] rfl rfl (by kernel_rfl) (fun _ _ _ h => h) (Or.inl ⟨by rfl, ?_⟩) ?_ ?_
             rotate_left
             ·intro w'
              go_simp
              with_reducible rfl
             rotate_left
             ·simp only [Act.put, List.setIfInBounds_toArray, List.set_cons_zero, List.set_cons_succ, i64_w, i32_w]
              rfl
             refine pure_ (i := 19) (N := some 105) (v := ?_) (a' := ?_) #[true, true, true, true, true, true, true, true, true, true, true, true, true, false, false, true, true, true, true, true, false, false, false] rfl rfl (by kernel_rfl) (fun _ _ _ h => h) (Or.inl ⟨by rfl, ?_⟩) ?_ ?_
             rotate_left
             ·intro w'
              go_simp
              with_reducible rfl
             rotate_left
             ·simp only [Act.put, List.setIfInBounds_toArray, List.set_cons_zero, List.set_cons_succ, i64_w, i32_w]
              rfl
             refine take_ (i := 20) (N := some 106) (v := ?_) (a' := ?_) #[true, true, true, true, true, true, true, true, true, true, true, true, true, false, false, true, true, true, true, true, true, false, false] rfl rfl (by kernel_rfl) (fun _ _ _ h => h) (Or.inl ⟨by rfl, ?_⟩) hH ?_ ?_
             rotate_left
             ·rintro w' s0
              have hcs := Kd.C_string (P := Tryd.prog) (A := A62) (c := (c0 - (ji33).toNat)) Tryd.underlying22 Tryd.underlying5 Tryd.underlying9 s0.h
              go_simp
              with_reducible rfl
             rotate_left
             ·simp only [Act.put, List.setIfInBounds_toArray, List.set_cons_zero, List.set_cons_succ, i64_w, i32_w]
              rfl
             refine one_ (i := 13) (N := some 99) #[true, true, true, true, true, true, true, true, true, true, true, true, true, true, false, true, true, true, true, true, true, false, false] rfl rfl (by kernel_rfl) (by decide) (fun K hK => ?_)
             refine goes_ Tryd.func70 (by kernel_rfl) rfl #[.int .i64 n] (by rfl) rfl rfl (by (try simp only [List.map_toArray, List.map_cons, List.map_nil]); first | done | rfl) ?_
             refine (spec_l2digits.calls k1 n t _ HT.out).mono ?_
             rintro e9 we ⟨v164, rfl, ho0, hb⟩
             refine ⟨_, rfl, ?_⟩
             replace HO_4 := Aside0.mk (Kd.S_below HO_4.out hb)
             replace HQ0 := HQ0.b hb
             replace HB := Bw.sw w hb
             have HO165 := Aside0.mk ho0
             clear hb ho0
             refine hK.out _ _ HQ0 (fun hH => ?_)
             clear hK K
             refine norm_ (a' := ?_) ?_ ?_
             rotate_left
             ·show Act.put _ (some 99) _ = _
              simp only [Act.put, List.setIfInBounds_toArray, List.set_cons_zero, List.set_cons_succ, i64_w, i32_w]
              rfl
             refine one_ (i := 14) (N := some 100) #[true, true, true, true, true, true, true, true, true, true, true, true, true, true, true, true, true, true, true, true, true, false, false] rfl rfl (by kernel_rfl) (by decide) (fun K hK => ?_)
             have hcv64 := own_string (P := Tryd.prog) Tryd.underlying22 Tryd.underlying5 Tryd.underlying9 (Kd.own_of_R HO165.out)
             refine value_ (w1 := ?_) (v := ?_) (by rfl) rfl ?_ ?_
             rotate_left 2
             ·go_simp
              constructor
              ·rfl
              ·rfl
             clear hcv64
             refine hK.out _ _ HQ0 (fun hH => ?_)
             clear hK K
             refine norm_ (a' := ?_) ?_ ?_
             rotate_left
             ·show Act.put _ (some 100) _ = _
              simp only [Act.put, List.setIfInBounds_toArray, List.set_cons_zero, List.set_cons_succ, i64_w, i32_w]
              rfl
             refine pure_ (i := 21) (N := some 107) (v := ?_) (a' := ?_) #[true, true, true, true, true, true, true, true, true, true, true, true, true, true, true, true, true, true, true, true, true, true, false] rfl rfl (by kernel_rfl) (fun _ _ _ h => h) (Or.inl ⟨by rfl, ?_⟩) ?_ ?_
             rotate_left
             ·intro w'
              go_simp
              with_reducible rfl
             rotate_left
             ·simp only [Act.put, List.setIfInBounds_toArray, List.set_cons_zero, List.set_cons_succ, i64_w, i32_w]
              rfl
             refine pure_ (i := 22) (N := some 108) (v := ?_) (a' := ?_) #[true, true, true, true, true, true, true, true, true, true, true, true, true, true, true, true, true, true, true, true, true, true, true] rfl rfl (by kernel_rfl) (fun _ _ _ h => h) (Or.inl ⟨by rfl, ?_⟩) ?_ ?_
             rotate_left
             ·intro w'
              go_simp
              with_reducible rfl
             rotate_left
             ·simp only [Act.put, List.setIfInBounds_toArray, List.set_cons_zero, List.set_cons_succ, i64_w, i32_w]
              rfl
             refine done_ (by kernel_rfl) ?_
             go_wp2_with (first | ((with_reducible refine gate_builtin (b := .append) (xs := #[.tmp 109, .tmp 112]) rfl ?_); at_builtin; refine Kd.S_append k56 (w0 := w) w.heap.size rfl (.tmp 109) (.tmp 112) 26 56 (.agg #[(.int .i64 0), (.slice none 0 0), (.int .i64 0)]) 40 rfl Tryd.underlying26 info56 rfl (by decide) (by omega) u4 out (⟨1, ([] : List Int), n⟩ : S56) [.int .i64 1, .slice none 0 0, .int .i64 n] (fun _ => True) (fun _ => False) rfl rfl ?aP (fun k_ hk_ => hk_.elim) ?aF ?aO ?aB ?aS ?aL ?_; (case aP => exact k56_mkM _ _ _ (⟨1, ([] : List Int), n⟩ : S56) (Kd.R_nil _ _ _ _ _)); (case aB => exact bw); (case aF => exact (fun _ _ => trivial)); (case aO => exact Kd.S_mono HO_4.out (fun k_ hk => ⟨trivial, fun e_ => e_⟩)); (case aS => exact (bzz w)); (case aL => have := HOL.out; omega); intro v168 w67 ho hb hg hat; replace HB := Bw.mk (w := w) hb; have HO169 := Aside0.mk ho; clear HO_4; clear ho hb hg hat))
             go_roundg k1
             case rel => exact ⟨out ++ [⟨1, [], n⟩], e + 1, by omega, by first | (rw [w5, HX6.out]; go_num) | (rw [HX6.out] at w5 ⊢; first | rw [w5] | (simp only [i64_w]; rw [w5])) | (rw [HX6.out]; go_num), H', ⟨by have := HK1.out; omega⟩, HO169, ⟨bw⟩⟩
             case measure => have := HK1.out; omega
           · rw [if_neg ceq] at H
             have H9 := Option.some.inj H
             obtain ⟨rfl, rfl⟩ := Prod.mk.inj H9
             have c59b0 : ((strOfNums t).toList == (strOfNums sub).toList) = false := beq_eq_false_iff_ne.mpr ceq
             have c59b1 : ((strOfNums t).toList != (strOfNums sub).toList) = true := bne_iff_ne.mpr ceq
             clear H ceq H9
             try go_wp2
             have hdr : Below wc.heap.size wc wc.drew := below_drew1 (Below.refl _ _)
             refine start_ (n := 23) (S := fun w' => HLx w' (ad.add x6_2.toNat) 93 A62 sub) (ds := []) #[false, false, false, false, false, false, false, false, false, false, false, false, false, false, false, false, false, false, false, false, false, false, false] (by kernel_rfl) rfl rfl (HQ0.b hdr) (fun hH => ?_)
             generalize wc.drew = wd at hdr hH ⊢
             replace HO_4 := Aside0.mk (Kd.S_below HO_4.out hdr)
             replace HB := Bw.sw w hdr
             replace HQ0 := HQ0.b hdr
             clear hdr
             refine pure_ (i := 0) (N := some 86) (v := ?_) (a' := ?_) #[true, false, false, false, false, false, false, false, false, false, false, false, false, false, false, false, false, false, false, false, false, false, false] rfl rfl (by kernel_rfl) (fun _ _ _ h => h) (Or.inl ⟨by rfl, ?_⟩) ?_ ?_
             rotate_left
             ·intro w'
              go_simp
              with_reducible rfl
             rotate_left
             ·simp only [Act.put, List.setIfInBounds_toArray, List.set_cons_zero, List.set_cons_succ, i64_w, i32_w]
              rfl
             refine pure_ (i := 1) (N := some 87) (v := ?_) (a' := ?_) #[true, true, false, false, false, false, false, false, false, false, false, false, false, false, false, false, false, false, false, false, false, false, false] rfl rfl (by kernel_rfl) (fun _ _ _ h => h) (Or.inl ⟨by rfl, ?_⟩) ?_ ?_
             rotate_left
             ·intro w'
              go_simp
              with_reducible rfl
             rotate_left
             ·simp only [Act.put, List.setIfInBounds_toArray, List.set_cons_zero, List.set_cons_succ, i64_w, i32_w]
              rfl
             refine pure_ (i := 2) (N := some 88) (v := ?_) (a' := ?_) #[true, true, true, false, false, false, false, false, false, false, false, false, false, false, false, false, false, false, false, false, false, false, false] rfl rfl (by kernel_rfl) (fun _ _ _ h => h) (Or.inl ⟨by rfl, ?_⟩) ?_ ?_
             rotate_left
             ·intro w'
              go_simp
              with_reducible rfl
             rotate_left
             ·simp only [Act.put, List.setIfInBounds_toArray, List.set_cons_zero, List.set_cons_succ, i64_w, i32_w]
              rfl
             refine pure_ (i := 3) (N := some 89) (v := ?_) (a' := ?_) #[true, true, true, true, false, false, false, false, false, false, false, false, false, false, false, false, false, false, false, false, false, false, false] rfl rfl (by kernel_rfl) (fun _ _ _ h => h) (Or.inl ⟨by rfl, ?_⟩) ?_ ?_
             rotate_left
             ·intro w'
              go_simp
              with_reducible rfl
             rotate_left
             ·simp only [Act.put, List.setIfInBounds_toArray, List.set_cons_zero, List.set_cons_succ, i64_w, i32_w]
              rfl
             refine pure_ (i := 4) (N := some 90) (v := ?_) (a' := ?_) #[true, true, true, true, true, false, false, false, false, false, false, false, false, false, false, false, false, false, false, false, false, false, false] rfl rfl (by kernel_rfl) (fun _ _ _ h => h) (Or.inl ⟨by rfl, ?_⟩) ?_ ?_
             rotate_left
             ·intro w'
              go_simp
              with_reducible rfl
             rotate_left
             ·simp only [Act.put, List.setIfInBounds_toArray, List.set_cons_zero, List.set_cons_succ, i64_w, i32_w]
              rfl
             refine pure_ (i := 5) (N := some 91) (v := ?_) (a' := ?_) #[true, true, true, true, true, true, false, false, false, false, false, false, false, false, false, false, false, false, false, false, false, false, false] rfl rfl (by kernel_rfl) (fun _ _ _ h => h) (Or.inl ⟨by rfl, ?_⟩) ?_ ?_
             rotate_left
             ·intro w'
              go_simp
              with_reducible rfl
             rotate_left
             ·simp only [Act.put, List.setIfInBounds_toArray, List.set_cons_zero, List.set_cons_succ, i64_w, i32_w]
              rfl
             refine pure_ (i := 6) (N := some 92) (v := ?_) (a' := ?_) #[true, true, true, true, true, true, true, false, false, false, false, false, false, false, false, false, false, false, false, false, false, false, false] rfl rfl (by kernel_rfl) (fun _ _ _ h => h) (Or.inl ⟨by rfl, ?_⟩) ?_ ?_
             rotate_left
             ·intro w'
              go_simp
              with_reducible rfl
             rotate_left
             ·simp only [Act.put, List.setIfInBounds_toArray, List.set_cons_zero, List.set_cons_succ, i64_w, i32_w]
              rfl
             refine pure_ (i := 7) (N := some 93) (v := ?_) (a' := ?_) #[true, true, true, true, true, true, true, true, false, false, false, false, false, false, false, false, false, false, false, false, false, false, false] rfl rfl (by kernel_rfl) (fun _ _ _ h => h) (Or.inl ⟨by rfl, ?_⟩) ?_ ?_
             rotate_left
             ·intro w'
              go_simp
              with_reducible rfl
             rotate_left
             ·simp only [Act.put, List.setIfInBounds_toArray, List.set_cons_zero, List.set_cons_succ, i64_w, i32_w]
              rfl
             refine take_ (i := 8) (N := some 94) (v := ?_) (a' := ?_) #[true, true, true, true, true, true, true, true, true, false, false, false, false, false, false, false, false, false, false, false, false, false, false] rfl rfl (by kernel_rfl) (fun _ _ _ h => h) (Or.inl ⟨by rfl, ?_⟩) hH ?_ ?_
             rotate_left
             ·rintro w' s0
              have hc := s0.x
              go_simp
              with_reducible rfl
             rotate_left
             ·simp only [Act.put, List.setIfInBounds_toArray, List.set_cons_zero, List.set_cons_succ, i64_w, i32_w]
              rfl
             refine pure_ (i := 9) (N := some 95) (v := ?_) (a' := ?_) #[true, true, true, true, true, true, true, true, true, true, false, false, false, false, false, false, false, false, false, false, false, false, false] rfl rfl (by kernel_rfl) (fun _ _ _ h => h) (Or.inl ⟨by rfl, ?_⟩) ?_ ?_
             rotate_left
             ·intro w'
              go_simp
              with_reducible rfl
             rotate_left
             ·simp only [Act.put, List.setIfInBounds_toArray, List.set_cons_zero, List.set_cons_succ, i64_w, i32_w]
              rfl
             refine pure_ (i := 10) (N := some 96) (v := ?_) (a' := ?_) #[true, true, true, true, true, true, true, true, true, true, true, false, false, false, false, false, false, false, false, false, false, false, false] rfl rfl (by kernel_rfl) (fun _ _ _ h => h) (Or.inl ⟨by rfl, ?_⟩) ?_ ?_
             rotate_left
             ·intro w'
              go_simp
              with_reducible rfl
             rotate_left
             ·simp only [Act.put, List.setIfInBounds_toArray, List.set_cons_zero, List.set_cons_succ, i64_w, i32_w]
              rfl
             refine pure_ (i := 11) (N := some 97) (v := ?_) (a' := ?_) #[true, true, true, true, true, true, true, true, true, true, true, true, false, false, false, false, false, false, false, false, false, false, false] rfl rfl (by kernel_rfl) (fun _ _ _ h => h) (Or.inl ⟨by rfl, ?_⟩) ?_ ?_
             rotate_left
             ·intro w'
              go_simp
              with_reducible rfl
             rotate_left
             ·simp only [Act.put, List.setIfInBounds_toArray, List.set_cons_zero, List.set_cons_succ, i64_w, i32_w]
              rfl
             refine pure_ (i := 12) (N := some 98) (v := ?_) (a' := ?_) #[true, true, true, true, true, true, true, true, true, true, true, true, true, false, false, false, false, false, false, false, false, false, false] rfl rfl (by kernel_rfl) (fun _ _ _ h => h) (Or.inl ⟨by rfl, ?_⟩) ?_ ?_
             rotate_left
             ·intro w'
              go_simp
              with_reducible rfl
             rotate_left
             ·simp only [Act.put, List.setIfInBounds_toArray, List.set_cons_zero, List.set_cons_succ, i64_w, i32_w]
              rfl
             refine pure_ (i := 15) (N := some 101) (v := ?_) (a' := ?_) #[true, true, true, true, true, true, true, true, true, true, true, true, true, false, false, true, false, false, false, false, false, false, false] rfl rfl (by kernel_rfl) (fun _ _ _ h => h) (Or.inl ⟨by rfl, ?_⟩) ?_ ?_
             rotate_left
             ·intro w'
              go_simp
              with_reducible rfl
             rotate_left
             ·simp only [Act.put, List.setIfInBounds_toArray, List.set_cons_zero, List.set_cons_succ, i64_w, i32_w]
              rfl
             refine pure_ (i := 16) (N := some 102) (v := ?_) (a' := ?_) #[true, true, true, true, true, true, true, true, true, true, true, true, true, false, false, true, true, false, false, false, false, false, false] rfl rfl (by kernel_rfl) (fun _ _ _ h => h) (Or.inl ⟨by rfl, ?_⟩) ?_ ?_
             rotate_left
             ·intro w'
              go_simp
              with_reducible rfl
             rotate_left
             ·simp only [Act.put, List.setIfInBounds_toArray, List.set_cons_zero, List.set_cons_succ, i64_w, i32_w]
              rfl
             refine pure_ (i := 17) (N := some 103) (v := ?_) (a' := ?_) #[true, true, true, true, true, true, true, true, true, true, true, true, true, false, false, true, true, true, false, false, false, false, false] rfl rfl (by kernel_rfl) (fun _ _ _ h => h) (Or.inl ⟨by rfl, ?_⟩) ?_ ?_
             rotate_left
             ·intro w'
              go_simp
              with_reducible rfl
             rotate_left
             ·simp only [Act.put, List.setIfInBounds_toArray, List.set_cons_zero, List.set_cons_succ, i64_w, i32_w]
              rfl
             refine pure_ (i := 18) (N := some 104) (v := ?_) (a' := ?_) #[true, true, true, true, true, true, true, true, true, true, true, true, true, false, false, true, true, true, true, false, false, false, false] rfl rfl (by kernel_rfl) (fun _ _ _ h => h) (Or.inl ⟨by rfl, ?_⟩) ?_ ?_
             rotate_left
             ·intro w'
              go_simp
              with_reducible rfl
             rotate_left
             ·simp only [Act.put, List.setIfInBounds_toArray, List.set_cons_zero, List.set_cons_succ, i64_w, i32_w]
              rfl
             refine pure_ (i := 19) (N := some 105) (v := ?_) (a' := ?_) #[true, true, true, true, true, true, true, true, true, true, true, true, true, false, false, true, true, true, true, true, false, false, false] rfl rfl (by kernel_rfl) (fun _ _ _ h => h) (Or.inl ⟨by rfl, ?_⟩) ?_ ?_
             rotate_left
             ·intro w'
              go_simp
              with_reducible rfl
             rotate_left
             ·simp only [Act.put, List.setIfInBounds_toArray, List.set_cons_zero, List.set_cons_succ, i64_w, i32_w]
              rfl
             refine take_ (i := 20) (N := some 106) (v := ?_) (a' := ?_) #[true, true, true, true, true, true, true, true, true, true, true, true, true, false, false, true, true, true, true, true, true, false, false] rfl rfl (by kernel_rfl) (fun _ _ _ h => h) (Or.inl ⟨by rfl, ?_⟩) hH ?_ ?_
             rotate_left
             ·rintro w' s0
              have hcs := Kd.C_string (P := Tryd.prog) (A := A62) (c := (c0 - (ji33).toNat)) Tryd.underlying22 Tryd.underlying5 Tryd.underlying9 s0.h
              go_simp
              with_reducible rfl
             rotate_left
             ·simp only [Act.put, List.setIfInBounds_toArray, List.set_cons_zero, List.set_cons_succ, i64_w, i32_w]
              rfl
             refine one_ (i := 13) (N := some 99) #[true, true, true, true, true, true, true, true, true, true, true, true, true, true, false, true, true, true, true, true, true, false, false] rfl rfl (by kernel_rfl) (by decide) (fun K hK => ?_)
             refine goes_ Tryd.func70 (by kernel_rfl) rfl #[.int .i64 n] (by rfl) rfl rfl (by (try simp only [List.map_toArray, List.map_cons, List.map_nil]); first | done | rfl) ?_
             refine (spec_l2digits.calls k1 n t _ HT.out).mono ?_
             rintro e9 we ⟨v164, rfl, ho0, hb⟩
             refine ⟨_, rfl, ?_⟩
             replace HO_4 := Aside0.mk (Kd.S_below HO_4.out hb)
             replace HQ0 := HQ0.b hb
             replace HB := Bw.sw w hb
             have HO165 := Aside0.mk ho0
             clear hb ho0
             refine hK.out _ _ HQ0 (fun hH => ?_)
             clear hK K
             refine norm_ (a' := ?_) ?_ ?_
             rotate_left
             ·show Act.put _ (some 99) _ = _
              simp only [Act.put, List.setIfInBounds_toArray, List.set_cons_zero, List.set_cons_succ, i64_w, i32_w]
              rfl
             refine one_ (i := 14) (N := some 100) #[true, true, true, true, true, true, true, true, true, true, true, true, true, true, true, true, true, true, true, true, true, false, false] rfl rfl (by kernel_rfl) (by decide) (fun K hK => ?_)
             have hcv64 := own_string (P := Tryd.prog) Tryd.underlying22 Tryd.underlying5 Tryd.underlying9 (Kd.own_of_R HO165.out)
             refine value_ (w1 := ?_) (v := ?_) (by rfl) rfl ?_ ?_
             rotate_left 2
             ·go_simp
              constructor
              ·rfl
              ·rfl
             clear hcv64
             refine hK.out _ _ HQ0 (fun hH => ?_)
             clear hK K
             refine norm_ (a' := ?_) ?_ ?_
             rotate_left
             ·show Act.put _ (some 100) _ = _
              simp only [Act.put, List.setIfInBounds_toArray, List.set_cons_zero, List.set_cons_succ, i64_w, i32_w]
              rfl
             refine pure_ (i := 21) (N := some 107) (v := ?_) (a' := ?_) #[true, true, true, true, true, true, true, true, true, true, true, true, true, true, true, true, true, true, true, true, true, true, false] rfl rfl (by kernel_rfl) (fun _ _ _ h => h) (Or.inl ⟨by rfl, ?_⟩) ?_ ?_
             rotate_left
             ·intro w'
              go_simp
              with_reducible rfl
             rotate_left
             ·simp only [Act.put, List.setIfInBounds_toArray, List.set_cons_zero, List.set_cons_succ, i64_w, i32_w]
              rfl
             refine pure_ (i := 22) (N := some 108) (v := ?_) (a' := ?_) #[true, true, true, true, true, true, true, true, true, true, true, true, true, true, true, true, true, true, true, true, true, true, true] rfl rfl (by kernel_rfl) (fun _ _ _ h => h) (Or.inl ⟨by rfl, ?_⟩) ?_ ?_
             rotate_left
             ·intro w'
              go_simp
              with_reducible rfl
             rotate_left
             ·simp only [Act.put, List.setIfInBounds_toArray, List.set_cons_zero, List.set_cons_succ, i64_w, i32_w]
              rfl
             refine done_ (by kernel_rfl) ?_
             go_wp2
             go_ret2
             exact ⟨_, rfl, Kd.S_nil _ _ _ _ _, bw⟩
         · rw [if_neg (fun q => c93 (ex93.2 q.2))] at H
           have H9 := Option.some.inj H
           obtain ⟨rfl, rfl⟩ := Prod.mk.inj H9
           have c53b0 : (x == 93) = false := beq_eq_false_iff_ne.mpr c93
           have c53b1 : (x != 93) = true := bne_iff_ne.mpr c93
           clear H ex93 H9 c93
           try go_wp2
           have hdr : Below wc.heap.size wc wc.drew := below_drew1 (Below.refl _ _)
           refine start_ (n := 23) (S := fun w' => HLx w' (ad.add x6_2.toNat) x A62 sub) (ds := []) #[false, false, false, false, false, false, false, false, false, false, false, false, false, false, false, false, false, false, false, false, false, false, false] (by kernel_rfl) rfl rfl (HQ0.b hdr) (fun hH => ?_)
           generalize wc.drew = wd at hdr hH ⊢
           replace HO_4 := Aside0.mk (Kd.S_below HO_4.out hdr)
           replace HB := Bw.sw w hdr
           replace HQ0 := HQ0.b hdr
           clear hdr
           refine pure_ (i := 0) (N := some 86) (v := ?_) (a' := ?_) #[true, false, false, false, false, false, false, false, false, false, false, false, false, false, false, false, false, false, false, false, false, false, false] rfl rfl (by kernel_rfl) (fun _ _ _ h => h) (Or.inl ⟨by rfl, ?_⟩) ?_ ?_
           rotate_left
           ·intro w'
            go_simp
            with_reducible rfl
           rotate_left
           ·simp only [Act.put, List.setIfInBounds_toArray, List.set_cons_zero, List.set_cons_succ, i64_w, i32_w]
            rfl
           refine pure_ (i := 1) (N := some 87) (v := ?_) (a' := ?_) #[true, true, false, false, false, false, false, false, false, false, false, false, false, false, false, false, false, false, false, false, false, false, false] rfl rfl (by kernel_rfl) (fun _ _ _ h => h) (Or.inl ⟨by rfl, ?_⟩) ?_ ?_
           rotate_left
           ·intro w'
            go_simp
            with_reducible rfl
           rotate_left
           ·simp only [Act.put, List.setIfInBounds_toArray, List.set_cons_zero, List.set_cons_succ, i64_w, i32_w]
            rfl
           refine pure_ (i := 2) (N := some 88) (v := ?_) (a' := ?_) #[true, true, true, false, false, false, false, false, false, false, false, false, false, false, false, false, false, false, false, false, false, false, false] rfl rfl (by kernel_rfl) (fun _ _ _ h => h) (Or.inl ⟨by rfl, ?_⟩) ?_ ?_
           rotate_left
           ·intro w'
            go_simp
            with_reducible rfl
           rotate_left
           ·simp only [Act.put, List.setIfInBounds_toArray, List.set_cons_zero, List.set_cons_succ, i64_w, i32_w]
            rfl
           refine pure_ (i := 3) (N := some 89) (v := ?_) (a' := ?_) #[true, true, true, true, false, false, false, false, false, false, false, false, false, false, false, false, false, false, false, false, false, false, false] rfl rfl (by kernel_rfl) (fun _ _ _ h => h) (Or.inl ⟨by rfl, ?_⟩) ?_ ?_
           rotate_left
           ·intro w'
            go_simp
            with_reducible rfl
           rotate_left
           ·simp only [Act.put, List.setIfInBounds_toArray, List.set_cons_zero, List.set_cons_succ, i64_w, i32_w]
            rfl
           refine pure_ (i := 4) (N := some 90) (v := ?_) (a' := ?_) #[true, true, true, true, true, false, false, false, false, false, false, false, false, false, false, false, false, false, false, false, false, false, false] rfl rfl (by kernel_rfl) (fun _ _ _ h => h) (Or.inl ⟨by rfl, ?_⟩) ?_ ?_
           rotate_left
           ·intro w'
            go_simp
            with_reducible rfl
           rotate_left
           ·simp only [Act.put, List.setIfInBounds_toArray, List.set_cons_zero, List.set_cons_succ, i64_w, i32_w]
            rfl
           refine pure_ (i := 5) (N := some 91) (v := ?_) (a' := ?_) #[true, true, true, true, true, true, false, false, false, false, false, false, false, false, false, false, false, false, false, false, false, false, false] rfl rfl (by kernel_rfl) (fun _ _ _ h => h) (Or.inl ⟨by rfl, ?_⟩) ?_ ?_
           rotate_left
           ·intro w'
            go_simp
            with_reducible rfl
           rotate_left
           ·simp only [Act.put, List.setIfInBounds_toArray, List.set_cons_zero, List.set_cons_succ, i64_w, i32_w]
            rfl
           refine pure_ (i := 6) (N := some 92) (v := ?_) (a' := ?_) #[true, true, true, true, true, true, true, false, false, false, false, false, false, false, false, false, false, false, false, false, false, false, false] rfl rfl (by kernel_rfl) (fun _ _ _ h => h) (Or.inl ⟨by rfl, ?_⟩) ?_ ?_
           rotate_left
           ·intro w'
            go_simp
            with_reducible rfl
           rotate_left
           ·simp only [Act.put, List.setIfInBounds_toArray, List.set_cons_zero, List.set_cons_succ, i64_w, i32_w]
            rfl
           refine pure_ (i := 7) (N := some 93) (v := ?_) (a' := ?_) #[true, true, true, true, true, true, true, true, false, false, false, false, false, false, false, false, false, false, false, false, false, false, false] rfl rfl (by kernel_rfl) (fun _ _ _ h => h) (Or.inl ⟨by rfl, ?_⟩) ?_ ?_
           rotate_left
           ·intro w'
            go_simp
            with_reducible rfl
           rotate_left
           ·simp only [Act.put, List.setIfInBounds_toArray, List.set_cons_zero, List.set_cons_succ, i64_w, i32_w]
            rfl
           refine take_ (i := 8) (N := some 94) (v := ?_) (a' := ?_) #[true, true, true, true, true, true, true, true, true, false, false, false, false, false, false, false, false, false, false, false, false, false, false] rfl rfl (by kernel_rfl) (fun _ _ _ h => h) (Or.inl ⟨by rfl, ?_⟩) hH ?_ ?_
           rotate_left
           ·rintro w' s0
            have hc := s0.x
            go_simp
            with_reducible rfl
           rotate_left
           ·simp only [Act.put, List.setIfInBounds_toArray, List.set_cons_zero, List.set_cons_succ, i64_w, i32_w]
            rfl
           refine pure_ (i := 9) (N := some 95) (v := .bool true) (a' := ?_) #[true, true, true, true, true, true, true, true, true, true, false, false, false, false, false, false, false, false, false, false, false, false, false] rfl rfl (by kernel_rfl) (fun _ _ _ h => h) (Or.inl ⟨by rfl, ?_⟩) ?_ ?_
           ·intro w'
            go_simp
            try simp [c53b1]
           rotate_left
           ·simp only [Act.put, List.setIfInBounds_toArray, List.set_cons_zero, List.set_cons_succ, i64_w, i32_w]
            rfl
           refine pure_ (i := 10) (N := some 96) (v := ?_) (a' := ?_) #[true, true, true, true, true, true, true, true, true, true, true, false, false, false, false, false, false, false, false, false, false, false, false] rfl rfl (by kernel_rfl) (fun _ _ _ h => h) (Or.inl ⟨by rfl, ?_⟩) ?_ ?_
           rotate_left
           ·intro w'
            go_simp
            with_reducible rfl
           rotate_left
           ·simp only [Act.put, List.setIfInBounds_toArray, List.set_cons_zero, List.set_cons_succ, i64_w, i32_w]
            rfl
           refine pure_ (i := 11) (N := some 97) (v := ?_) (a' := ?_) #[true, true, true, true, true, true, true, true, true, true, true, true, false, false, false, false, false, false, false, false, false, false, false] rfl rfl (by kernel_rfl) (fun _ _ _ h => h) (Or.inl ⟨by rfl, ?_⟩) ?_ ?_
           rotate_left
           ·intro w'
            go_simp
            with_reducible rfl
           rotate_left
           ·simp only [Act.put, List.setIfInBounds_toArray, List.set_cons_zero, List.set_cons_succ, i64_w, i32_w]
            rfl
           refine pure_ (i := 12) (N := some 98) (v := undef) (a' := ?_) #[true, true, true, true, true, true, true, true, true, true, true, true, true, false, false, false, false, false, false, false, false, false, false] rfl rfl (by kernel_rfl) (fun _ _ _ h => h) (Or.inr ⟨by rfl, rfl⟩) ?_ ?_
           rotate_left
           ·simp only [Act.put, List.setIfInBounds_toArray, List.set_cons_zero, List.set_cons_succ, i64_w, i32_w]
            rfl
           refine pure_ (i := 13) (N := some 99) (v := undef) (a' := ?_) #[true, true, true, true, true, true, true, true, true, true, true, true, true, true, false, false, false, false, false, false, false, false, false] rfl rfl (by kernel_rfl) (fun _ _ _ h => h) (Or.inr ⟨by rfl, rfl⟩) ?_ ?_
           rotate_left
           ·simp only [Act.put, List.setIfInBounds_toArray, List.set_cons_zero, List.set_cons_succ, i64_w, i32_w]
            rfl
           refine pure_ (i := 14) (N := some 100) (v := undef) (a' := ?_) #[true, true, true, true, true, true, true, true, true, true, true, true, true, true, true, false, false, false, false, false, false, false, false] rfl rfl (by kernel_rfl) (fun _ _ _ h => h) (Or.inr ⟨by rfl, rfl⟩) ?_ ?_
           rotate_left
           ·simp only [Act.put, List.setIfInBounds_toArray, List.set_cons_zero, List.set_cons_succ, i64_w, i32_w]
            rfl
           refine pure_ (i := 15) (N := some 101) (v := undef) (a' := ?_) #[true, true, true, true, true, true, true, true, true, true, true, true, true, true, true, true, false, false, false, false, false, false, false] rfl rfl (by kernel_rfl) (fun _ _ _ h => h) (Or.inr ⟨by rfl, rfl⟩) ?_ ?_
           rotate_left
           ·simp only [Act.put, List.setIfInBounds_toArray, List.set_cons_zero, List.set_cons_succ, i64_w, i32_w]
            rfl
           refine pure_ (i := 16) (N := some 102) (v := undef) (a' := ?_) #[true, true, true, true, true, true, true, true, true, true, true, true, true, true, true, true, true, false, false, false, false, false, false] rfl rfl (by kernel_rfl) (fun _ _ _ h => h) (Or.inr ⟨by rfl, rfl⟩) ?_ ?_
           rotate_left
           ·simp only [Act.put, List.setIfInBounds_toArray, List.set_cons_zero, List.set_cons_succ, i64_w, i32_w]
            rfl
           refine pure_ (i := 17) (N := some 103) (v := undef) (a' := ?_) #[true, true, true, true, true, true, true, true, true, true, true, true, true, true, true, true, true, true, false, false, false, false, false] rfl rfl (by kernel_rfl) (fun _ _ _ h => h) (Or.inr ⟨by rfl, rfl⟩) ?_ ?_
           rotate_left
           ·simp only [Act.put, List.setIfInBounds_toArray, List.set_cons_zero, List.set_cons_succ, i64_w, i32_w]
            rfl
           refine pure_ (i := 18) (N := some 104) (v := undef) (a' := ?_) #[true, true, true, true, true, true, true, true, true, true, true, true, true, true, true, true, true, true, true, false, false, false, false] rfl rfl (by kernel_rfl) (fun _ _ _ h => h) (Or.inr ⟨by rfl, rfl⟩) ?_ ?_
           rotate_left
           ·simp only [Act.put, List.setIfInBounds_toArray, List.set_cons_zero, List.set_cons_succ, i64_w, i32_w]
            rfl
           refine pure_ (i := 19) (N := some 105) (v := undef) (a' := ?_) #[true, true, true, true, true, true, true, true, true, true, true, true, true, true, true, true, true, true, true, true, false, false, false] rfl rfl (by kernel_rfl) (fun _ _ _ h => h) (Or.inr ⟨by rfl, rfl⟩) ?_ ?_
           rotate_left
           ·simp only [Act.put, List.setIfInBounds_toArray, List.set_cons_zero, List.set_cons_succ, i64_w, i32_w]
            rfl
           refine pure_ (i := 20) (N := some 106) (v := undef) (a' := ?_) #[true, true, true, true, true, true, true, true, true, true, true, true, true, true, true, true, true, true, true, true, true, false, false] rfl rfl (by kernel_rfl) (fun _ _ _ h => h) (Or.inr ⟨by rfl, rfl⟩) ?_ ?_
           rotate_left
           ·simp only [Act.put, List.setIfInBounds_toArray, List.set_cons_zero, List.set_cons_succ, i64_w, i32_w]
            rfl
           refine pure_ (i := 21) (N := some 107) (v := undef) (a' := ?_) #[true, true, true, true, true, true, true, true, true, true, true, true, true, true, true, true, true, true, true, true, true, true, false] rfl rfl (by kernel_rfl) (fun _ _ _ h => h) (Or.inr ⟨by rfl, rfl⟩) ?_ ?_
           rotate_left
           ·simp only [Act.put, List.setIfInBounds_toArray, List.set_cons_zero, List.set_cons_succ, i64_w, i32_w]
            rfl
           refine pure_ (i := 22) (N := some 108) (v := ?_) (a' := ?_) #[true, true, true, true, true, true, true, true, true, true, true, true, true, true, true, true, true, true, true, true, true, true, true] rfl rfl (by kernel_rfl) (fun _ _ _ h => h) (Or.inl ⟨by rfl, ?_⟩) ?_ ?_
           rotate_left
           ·intro w'
            go_simp
            with_reducible rfl
           rotate_left
           ·simp only [Act.put, List.setIfInBounds_toArray, List.set_cons_zero, List.set_cons_succ, i64_w, i32_w]
            rfl
           refine done_ (by kernel_rfl) ?_
           go_wp2
           go_ret2
           exact ⟨_, rfl, Kd.S_nil _ _ _ _ _, bw⟩
       · rw [if_neg (fun q => hel q.1)] at H
         have H9 := Option.some.inj H
         obtain ⟨rfl, rfl⟩ := Prod.mk.inj H9
         have c51b0 : ((l0.length : Int) ≤ x6_2) = True := eq_true (by omega)
         clear H H9 hel hx6
         try go_wp2
         have hdr : Below wc.heap.size wc wc.drew := below_drew1 (Below.refl _ _)
         refine start_ (n := 23) (S := fun w' => True) (ds := []) #[false, false, false, false, false, false, false, false, false, false, false, false, false, false, false, false, false, false, false, false, false, false, false] (by kernel_rfl) rfl rfl trivial (fun hH => ?_)
         generalize wc.drew = wd at hdr hH ⊢
         replace HO_4 := Aside0.mk (Kd.S_below HO_4.out hdr)
         replace HB := Bw.sw w hdr
         clear hdr
         refine pure_ (i := 0) (N := some 86) (v := ?_) (a' := ?_) #[true, false, false, false, false, false, false, false, false, false, false, false, false, false, false, false, false, false, false, false, false, false, false] rfl rfl (by kernel_rfl) (fun _ _ _ h => h) (Or.inl ⟨by rfl, ?_⟩) ?_ ?_
         rotate_left
         ·intro w'
          go_simp
          with_reducible rfl
         rotate_left
         ·simp only [Act.put, List.setIfInBounds_toArray, List.set_cons_zero, List.set_cons_succ, i64_w, i32_w]
          rfl
         refine pure_ (i := 1) (N := some 87) (v := ?_) (a' := ?_) #[true, true, false, false, false, false, false, false, false, false, false, false, false, false, false, false, false, false, false, false, false, false, false] rfl rfl (by kernel_rfl) (fun _ _ _ h => h) (Or.inl ⟨by rfl, ?_⟩) ?_ ?_
         rotate_left
         ·intro w'
          go_simp
          with_reducible rfl
         rotate_left
         ·simp only [Act.put, List.setIfInBounds_toArray, List.set_cons_zero, List.set_cons_succ, i64_w, i32_w]
          rfl
         refine pure_ (i := 2) (N := some 88) (v := ?_) (a' := ?_) #[true, true, true, false, false, false, false, false, false, false, false, false, false, false, false, false, false, false, false, false, false, false, false] rfl rfl (by kernel_rfl) (fun _ _ _ h => h) (Or.inl ⟨by rfl, ?_⟩) ?_ ?_
         rotate_left
         ·intro w'
          go_simp
          with_reducible rfl
         rotate_left
         ·simp only [Act.put, List.setIfInBounds_toArray, List.set_cons_zero, List.set_cons_succ, i64_w, i32_w]
          rfl
         refine pure_ (i := 3) (N := some 89) (v := ?_) (a' := ?_) #[true, true, true, true, false, false, false, false, false, false, false, false, false, false, false, false, false, false, false, false, false, false, false] rfl rfl (by kernel_rfl) (fun _ _ _ h => h) (Or.inl ⟨by rfl, ?_⟩) ?_ ?_
         rotate_left
         ·intro w'
          go_simp
          with_reducible rfl
         rotate_left
         ·simp only [Act.put, List.setIfInBounds_toArray, List.set_cons_zero, List.set_cons_succ, i64_w, i32_w]
          rfl
         refine pure_ (i := 4) (N := some 90) (v := ?_) (a' := ?_) #[true, true, true, true, true, false, false, false, false, false, false, false, false, false, false, false, false, false, false, false, false, false, false] rfl rfl (by kernel_rfl) (fun _ _ _ h => h) (Or.inl ⟨by rfl, ?_⟩) ?_ ?_
         rotate_left
         ·intro w'
          go_simp
          with_reducible rfl
         rotate_left
         ·simp only [Act.put, List.setIfInBounds_toArray, List.set_cons_zero, List.set_cons_succ, i64_w, i32_w]
          rfl
         refine pure_ (i := 5) (N := some 91) (v := undef) (a' := ?_) #[true, true, true, true, true, true, false, false, false, false, false, false, false, false, false, false, false, false, false, false, false, false, false] rfl rfl (by kernel_rfl) (fun _ _ _ h => h) (Or.inr ⟨by rfl, rfl⟩) ?_ ?_
         rotate_left
         ·simp only [Act.put, List.setIfInBounds_toArray, List.set_cons_zero, List.set_cons_succ, i64_w, i32_w]
          rfl
         refine pure_ (i := 6) (N := some 92) (v := undef) (a' := ?_) #[true, true, true, true, true, true, true, false, false, false, false, false, false, false, false, false, false, false, false, false, false, false, false] rfl rfl (by kernel_rfl) (fun _ _ _ h => h) (Or.inr ⟨by rfl, rfl⟩) ?_ ?_
         rotate_left
         ·simp only [Act.put, List.setIfInBounds_toArray, List.set_cons_zero, List.set_cons_succ, i64_w, i32_w]
          rfl
         refine pure_ (i := 7) (N := some 93) (v := undef) (a' := ?_) #[true, true, true, true, true, true, true, true, false, false, false, false, false, false, false, false, false, false, false, false, false, false, false] rfl rfl (by kernel_rfl) (fun _ _ _ h => h) (Or.inr ⟨by rfl, rfl⟩) ?_ ?_
         rotate_left
         ·simp only [Act.put, List.setIfInBounds_toArray, List.set_cons_zero, List.set_cons_succ, i64_w, i32_w]
          rfl
         refine pure_ (i := 8) (N := some 94) (v := undef) (a' := ?_) #[true, true, true, true, true, true, true, true, true, false, false, false, false, false, false, false, false, false, false, false, false, false, false] rfl rfl (by kernel_rfl) (fun _ _ _ h => h) (Or.inr ⟨by rfl, rfl⟩) ?_ ?_
         rotate_left
         ·simp only [Act.put, List.setIfInBounds_toArray, List.set_cons_zero, List.set_cons_succ, i64_w, i32_w]
          rfl
         refine pure_ (i := 9) (N := some 95) (v := undef) (a' := ?_) #[true, true, true, true, true, true, true, true, true, true, false, false, false, false, false, false, false, false, false, false, false, false, false] rfl rfl (by kernel_rfl) (fun _ _ _ h => h) (Or.inr ⟨by rfl, rfl⟩) ?_ ?_
         rotate_left
         ·simp only [Act.put, List.setIfInBounds_toArray, List.set_cons_zero, List.set_cons_succ, i64_w, i32_w]
          rfl
         refine pure_ (i := 10) (N := some 96) (v := ?_) (a' := ?_) #[true, true, true, true, true, true, true, true, true, true, true, false, false, false, false, false, false, false, false, false, false, false, false] rfl rfl (by kernel_rfl) (fun _ _ _ h => h) (Or.inl ⟨by rfl, ?_⟩) ?_ ?_
         rotate_left
         ·intro w'
          go_simp
          with_reducible rfl
         rotate_left
         ·simp only [Act.put, List.setIfInBounds_toArray, List.set_cons_zero, List.set_cons_succ, i64_w, i32_w]
          rfl
         refine pure_ (i := 11) (N := some 97) (v := ?_) (a' := ?_) #[true, true, true, true, true, true, true, true, true, true, true, true, false, false, false, false, false, false, false, false, false, false, false] rfl rfl (by kernel_rfl) (fun _ _ _ h => h) (Or.inl ⟨by rfl, ?_⟩) ?_ ?_
         rotate_left
         ·intro w'
          go_simp
          with_reducible rfl
         rotate_left
         ·simp only [Act.put, List.setIfInBounds_toArray, List.set_cons_zero, List.set_cons_succ, i64_w, i32_w]
          rfl
         refine pure_ (i := 12) (N := some 98) (v := undef) (a' := ?_) #[true, true, true, true, true, true, true, true, true, true, true, true, true, false, false, false, false, false, false, false, false, false, false] rfl rfl (by kernel_rfl) (fun _ _ _ h => h) (Or.inr ⟨by rfl, rfl⟩) ?_ ?_
         rotate_left
         ·simp only [Act.put, List.setIfInBounds_toArray, List.set_cons_zero, List.set_cons_succ, i64_w, i32_w]
          rfl
         refine pure_ (i := 13) (N := some 99) (v := undef) (a' := ?_) #[true, true, true, true, true, true, true, true, true, true, true, true, true, true, false, false, false, false, false, false, false, false, false] rfl rfl (by kernel_rfl) (fun _ _ _ h => h) (Or.inr ⟨by rfl, rfl⟩) ?_ ?_
         rotate_left
         ·simp only [Act.put, List.setIfInBounds_toArray, List.set_cons_zero, List.set_cons_succ, i64_w, i32_w]
          rfl
         refine pure_ (i := 14) (N := some 100) (v := undef) (a' := ?_) #[true, true, true, true, true, true, true, true, true, true, true, true, true, true, true, false, false, false, false, false, false, false, false] rfl rfl (by kernel_rfl) (fun _ _ _ h => h) (Or.inr ⟨by rfl, rfl⟩) ?_ ?_
         rotate_left
         ·simp only [Act.put, List.setIfInBounds_toArray, List.set_cons_zero, List.set_cons_succ, i64_w, i32_w]
          rfl
         refine pure_ (i := 15) (N := some 101) (v := undef) (a' := ?_) #[true, true, true, true, true, true, true, true, true, true, true, true, true, true, true, true, false, false, false, false, false, false, false] rfl rfl (by kernel_rfl) (fun _ _ _ h => h) (Or.inr ⟨by rfl, rfl⟩) ?_ ?_
         rotate_left
         ·simp only [Act.put, List.setIfInBounds_toArray, List.set_cons_zero, List.set_cons_succ, i64_w, i32_w]
          rfl
         refine pure_ (i := 16) (N := some 102) (v := undef) (a' := ?_) #[true, true, true, true, true, true, true, true, true, true, true, true, true, true, true, true, true, false, false, false, false, false, false] rfl rfl (by kernel_rfl) (fun _ _ _ h => h) (Or.inr ⟨by rfl, rfl⟩) ?_ ?_
         rotate_left
         ·simp only [Act.put, List.setIfInBounds_toArray, List.set_cons_zero, List.set_cons_succ, i64_w, i32_w]
          rfl
         refine pure_ (i := 17) (N := some 103) (v := undef) (a' := ?_) #[true, true, true, true, true, true, true, true, true, true, true, true, true, true, true, true, true, true, false, false, false, false, false] rfl rfl (by kernel_rfl) (fun _ _ _ h => h) (Or.inr ⟨by rfl, rfl⟩) ?_ ?_
         rotate_left
         ·simp only [Act.put, List.setIfInBounds_toArray, List.set_cons_zero, List.set_cons_succ, i64_w, i32_w]
          rfl
         refine pure_ (i := 18) (N := some 104) (v := undef) (a' := ?_) #[true, true, true, true, true, true, true, true, true, true, true, true, true, true, true, true, true, true, true, false, false, false, false] rfl rfl (by kernel_rfl) (fun _ _ _ h => h) (Or.inr ⟨by rfl, rfl⟩) ?_ ?_
         rotate_left
         ·simp only [Act.put, List.setIfInBounds_toArray, List.set_cons_zero, List.set_cons_succ, i64_w, i32_w]
          rfl
         refine pure_ (i := 19) (N := some 105) (v := undef) (a' := ?_) #[true, true, true, true, true, true, true, true, true, true, true, true, true, true, true, true, true, true, true, true, false, false, false] rfl rfl (by kernel_rfl) (fun _ _ _ h => h) (Or.inr ⟨by rfl, rfl⟩) ?_ ?_
         rotate_left
         ·simp only [Act.put, List.setIfInBounds_toArray, List.set_cons_zero, List.set_cons_succ, i64_w, i32_w]
          rfl
         refine pure_ (i := 20) (N := some 106) (v := undef) (a' := ?_) #[true, true, true, true, true, true, true, true, true, true, true, true, true, true, true, true, true, true, true, true, true, false, false] rfl rfl (by kernel_rfl) (fun _ _ _ h => h) (Or.inr ⟨by rfl, rfl⟩) ?_ ?_
         rotate_left
         ·simp only [Act.put, List.setIfInBounds_toArray, List.set_cons_zero, List.set_cons_succ, i64_w, i32_w]
          rfl
         refine pure_ (i := 21) (N := some 107) (v := undef) (a' := ?_) #[true, true, true, true, true, true, true, true, true, true, true, true, true, true, true, true, true, true, true, true, true, true, false] rfl rfl (by kernel_rfl) (fun _ _ _ h => h) (Or.inr ⟨by rfl, rfl⟩) ?_ ?_
         rotate_left
         ·simp only [Act.put, List.setIfInBounds_toArray, List.set_cons_zero, List.set_cons_succ, i64_w, i32_w]
          rfl
         refine pure_ (i := 22) (N := some 108) (v := ?_) (a' := ?_) #[true, true, true, true, true, true, true, true, true, true, true, true, true, true, true, true, true, true, true, true, true, true, true] rfl rfl (by kernel_rfl) (fun _ _ _ h => h) (Or.inl ⟨by rfl, ?_⟩) ?_ ?_
         rotate_left
         ·intro w'
          go_simp
          with_reducible rfl
         rotate_left
         ·simp only [Act.put, List.setIfInBounds_toArray, List.set_cons_zero, List.set_cons_succ, i64_w, i32_w]
          rfl
         refine done_ (by kernel_rfl) ?_
         go_wp2
         go_ret2
         exact ⟨_, rfl, Kd.S_nil _ _ _ _ _, bw⟩
     · rw [if_neg c91] at H
       have H9 := Option.some.inj H
       obtain ⟨rfl, rfl⟩ := Prod.mk.inj H9
       have c46b0 : (c == 46) = false := beq_eq_false_iff_ne.mpr c46
       have c46b1 : (c != 46) = true := bne_iff_ne.mpr c46
       have c91b0 : (c == 91) = false := beq_eq_false_iff_ne.mpr c91
       have c91b1 : (c != 91) = true := bne_iff_ne.mpr c91
       clear H H9 c46 c91
       go_wp2
       go_ret2
       exact ⟨_, rfl, Kd.S_nil _ _ _ _ _, bw⟩
end Go.Proofs.YtockllljeeakaaaDoor.PFnExactPathRead
