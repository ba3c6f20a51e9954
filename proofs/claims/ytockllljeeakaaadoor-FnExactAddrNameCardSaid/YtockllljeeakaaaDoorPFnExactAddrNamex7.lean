/- What a function comes to, walked by hand. No condition. -/
import Derived.Test.YtockllljeeakaaaDoorPFnExactAddrNamex0
import Derived.Test.YtockllljeeakaaaDoorPFnExactAddrNamex1
import Derived.Test.YtockllljeeakaaaDoorMkx
import Derived.Test.YtockllljeeakaaaDoorMcore
namespace Go.Proofs.YtockllljeeakaaaDoor.PFnExactAddrName
open Go.RowKit Go.Proofs.YtockllljeeakaaaDoorW.PrintWords Go.Proofs.YtockllljeeakaaaDoorW.PrintLast Go.Proofs.YtockllljeeakaaaDoorW.PrintMore Go.Proofs.YtockllljeeakaaaDoor.M
attribute [local go_sem] max2_int min2_int max_two min_two max_three min_three max_four min_four Go.Proofs.YtockllljeeakaaaDoor.M.str_gtr Go.Proofs.YtockllljeeakaaaDoor.M.str_leq Go.Proofs.YtockllljeeakaaaDoor.M.str_geq   -- for this text's walks alone
set_option linter.unusedVariables false
set_option linter.unusedSimpArgs false
theorem nameOk_b (k : Nat) (A : Option Addr) (c : Nat) (l : List Int) (r : Bool) (w : World) (h : (Kd.int .u8).C w A l.length l) (hc : l.length ≤ c) (hf : spec_NameOk.f k l = some r) :
    Calls Tryd.prog 65 #[.slice A l.length c] w fun e w' => e = .returned (.bool r) ∧ Below w.heap.size w w' := by
  refine (spec_NameOk.calls k A c l r w h hc hf).mono ?_
  rintro e w' ⟨rfl, nd, rfl⟩
  exact ⟨rfl, pw_below_drewN (Below.refl _ _) nd⟩
theorem frK1 : Fr Tryd.prog 65 := ⟨_, Tryd.func65, by kernel_rfl, rfl⟩
theorem rd_app_l (la lb : List Int) (i : Nat) (h : i < la.length) : rd (la ++ lb) (i : Int) = la.getD i 0 := by
  rw [rd_nat _ i (by rw [List.length_append]; omega), List.getElem_append_left h, List.getD_eq_getElem?_getD, List.getElem?_eq_getElem h]; rfl
theorem rd_app_r (la lb : List Int) (h : 0 < lb.length) : rd (la ++ lb) (la.length : Int) = lb.getD 0 0 := by
  rw [rd_nat _ la.length (by rw [List.length_append]; omega), List.getElem_append_right (Nat.le_refl _), List.getD_eq_getElem?_getD, List.getElem?_eq_getElem (by omega)]
  simp
set_option maxRecDepth 100000 in
set_option maxHeartbeats 8000000 in
theorem split_nilno (k : Nat) (A : Option Addr) (c : Nat) (la lb : List Int) (w : World) (hn : la.length + lb.length ≤ 1048576) (hc : la.length + lb.length ≤ c) (h : (Kd.int .u8).C w A (la ++ lb).length (la ++ lb)) (ha : ∀ i, i < la.length → la.getD i 0 ≠ 91) (hf : spec_NameOk.f k la = some false) (hlb : lb = []) : Calls Tryd.prog 34 #[.slice A (la.length + lb.length) c] w fun e w' => (e = .returned (.tuple #[.slice none 0 0, .slice none 0 0, .bool false])) ∧ Below w.heap.size w w' := by
  have HC := Aside0.mk hc
  have G1 := Aside0.mk h
  have N0 := Aside0.mk ha
  have LA := Aside0.mk (show la.length ≤ c by omega)
  have GA := Aside0.mk (show (Kd.int .u8).C w A la.length la by have := Kd.C_take (m := la.length) h (by rw [List.length_append]; omega); rwa [List.take_left' rfl] at this)
  have HB := Bw.refl w
  clear h ha
  subst hlb
  have T := Aside0.mk hf
  clear hf
  simp only [List.length_nil, Nat.add_zero, List.append_nil] at hn hc G1 ⊢
  go_enter Tryd.func34, Tryd.ntmps34
  go_wp2
  go_loopg [5] la.length (fun kq v5 wr => ∃ i : Nat, v5 = .int .i64 (i : Int) ∧ Aside0 (kq + i = la.length) ∧ Bw w wr)
  case atStart => exact ⟨0, rfl, ⟨rfl⟩, HB⟩
  case round =>
  clear HB
  obtain ⟨i, rfl, HK, HB⟩ := hrel
  cases gk with
  | succ k1 =>
    have hi : i < la.length := by have := HK.out; omega
    obtain ⟨ad, e9, hx⟩ := Kd.at_int G1.out (i : Int) (by omega) (by omega)
    cases e9
    rw [Int.toNat_natCast] at hx
    replace hx := (HB.out.cell (World.block_lt_of_cell? w _ hx)).trans hx
    rw [rd_nat la i hi, show la[i] = la.getD i 0 by rw [List.getD_eq_getElem?_getD, List.getElem?_eq_getElem hi]; rfl] at hx
    have hx9 := N0.out i hi
    have cb9 : (la.getD i 0 != 91) = true := bne_iff_ne.mpr hx9
    have ci : decide ((i : Int) < ((la.length : Nat) : Int)) = true := decide_eq_true (by omega)
    generalize la.getD i 0 = z at hx cb9 hx9
    have q1 : (0 : Int) ≤ (i : Int) := by omega
    have q2 : (i : Int) < (la.length : Int) := by omega
    go_wp2
    go_roundg k1
    case measure => omega
    case rel => exact ⟨i + 1, (by first | rfl | (simp; done) | (simp [*]; done)), ⟨by have := HK.out; omega⟩, HB⟩
  | zero =>
    have hi : i = la.length := by have := HK.out; omega
    subst hi
    clear HK
    go_wp2_with (first
      | ((with_reducible refine gate_dst (N := 26) rfl ?_); refine gg (some 26) rfl rfl rfl frK1 ?_; refine onc (nameOk_b k _ c la false _ (cb GA) LA.out T.out) rfl ?_; rintro e w2 ⟨rfl, hb⟩; refine ⟨_, rfl, ?_⟩; replace HB := Bw.sw w hb; clear hb; simp only [Act.put, List.setIfInBounds_toArray, List.set_cons_zero, List.set_cons_succ]))
    go_ret3
    exact ⟨rfl, HB.out⟩
set_option maxRecDepth 100000 in
set_option maxHeartbeats 8000000 in
theorem split_nilyes (k : Nat) (A : Option Addr) (c : Nat) (la lb : List Int) (w : World) (hn : la.length + lb.length ≤ 1048576) (hc : la.length + lb.length ≤ c) (h : (Kd.int .u8).C w A (la ++ lb).length (la ++ lb)) (ha : ∀ i, i < la.length → la.getD i 0 ≠ 91) (hf : spec_NameOk.f k la = some true) (hlb : lb = []) : Calls Tryd.prog 34 #[.slice A (la.length + lb.length) c] w fun e w' => (∃ v2, e = .returned (.tuple #[.slice A la.length c, v2, .bool true])) ∧ Below w.heap.size w w' := by
  have HC := Aside0.mk hc
  have G1 := Aside0.mk h
  have N0 := Aside0.mk ha
  have LA := Aside0.mk (show la.length ≤ c by omega)
  have GA := Aside0.mk (show (Kd.int .u8).C w A la.length la by have := Kd.C_take (m := la.length) h (by rw [List.length_append]; omega); rwa [List.take_left' rfl] at this)
  have HB := Bw.refl w
  clear h ha
  subst hlb
  have T := Aside0.mk hf
  clear hf
  simp only [List.length_nil, Nat.add_zero, List.append_nil] at hn hc G1 ⊢
  go_enter Tryd.func34, Tryd.ntmps34
  go_wp2
  go_loopg [5] la.length (fun kq v5 wr => ∃ i : Nat, v5 = .int .i64 (i : Int) ∧ Aside0 (kq + i = la.length) ∧ Bw w wr)
  case atStart => exact ⟨0, rfl, ⟨rfl⟩, HB⟩
  case round =>
  clear HB
  obtain ⟨i, rfl, HK, HB⟩ := hrel
  cases gk with
  | succ k1 =>
    have hi : i < la.length := by have := HK.out; omega
    obtain ⟨ad, e9, hx⟩ := Kd.at_int G1.out (i : Int) (by omega) (by omega)
    cases e9
    rw [Int.toNat_natCast] at hx
    replace hx := (HB.out.cell (World.block_lt_of_cell? w _ hx)).trans hx
    rw [rd_nat la i hi, show la[i] = la.getD i 0 by rw [List.getD_eq_getElem?_getD, List.getElem?_eq_getElem hi]; rfl] at hx
    have hx9 := N0.out i hi
    have cb9 : (la.getD i 0 != 91) = true := bne_iff_ne.mpr hx9
    have ci : decide ((i : Int) < ((la.length : Nat) : Int)) = true := decide_eq_true (by omega)
    generalize la.getD i 0 = z at hx cb9 hx9
    have q1 : (0 : Int) ≤ (i : Int) := by omega
    have q2 : (i : Int) < (la.length : Int) := by omega
    go_wp2
    go_roundg k1
    case measure => omega
    case rel => exact ⟨i + 1, (by first | rfl | (simp; done) | (simp [*]; done)), ⟨by have := HK.out; omega⟩, HB⟩
  | zero =>
    have hi : i = la.length := by have := HK.out; omega
    subst hi
    clear HK
    go_wp2_with (first
      | ((with_reducible refine gate_dst (N := 26) rfl ?_); refine gg (some 26) rfl rfl rfl frK1 ?_; refine onc (nameOk_b k _ c la true _ (cb GA) LA.out T.out) rfl ?_; rintro e w2 ⟨rfl, hb⟩; refine ⟨_, rfl, ?_⟩; replace HB := Bw.sw w hb; clear hb; simp only [Act.put, List.setIfInBounds_toArray, List.set_cons_zero, List.set_cons_succ]))
    all_goals (go_ret3; exact ⟨⟨_, rfl⟩, HB.out⟩)
set_option maxRecDepth 100000 in
set_option maxHeartbeats 8000000 in
theorem split_no (k : Nat) (A : Option Addr) (c : Nat) (la lb : List Int) (w : World) (hn : la.length + lb.length ≤ 1048576) (hc : la.length + lb.length ≤ c) (h : (Kd.int .u8).C w A (la ++ lb).length (la ++ lb)) (ha : ∀ i, i < la.length → la.getD i 0 ≠ 91) (l1 : 0 < lb.length) (h91 : lb.getD 0 0 = 91) (hf : spec_NameOk.f k la = some false) : Calls Tryd.prog 34 #[.slice A (la.length + lb.length) c] w fun e w' => e = .returned (.tuple #[.slice none 0 0, .slice none 0 0, .bool false]) ∧ Below w.heap.size w w' := by
  have HC := Aside0.mk hc
  have G1 := Aside0.mk h
  have N0 := Aside0.mk ha
  have LA := Aside0.mk (show la.length ≤ c by omega)
  have GA := Aside0.mk (show (Kd.int .u8).C w A la.length la by have := Kd.C_take (m := la.length) h (by rw [List.length_append]; omega); rwa [List.take_left' rfl] at this)
  have HB := Bw.refl w
  clear h ha
  have LB := Aside0.mk l1
  have H91 := Aside0.mk h91
  clear l1 h91
  have T := Aside0.mk hf
  clear hf
  go_enter Tryd.func34, Tryd.ntmps34
  go_wp2
  go_loopg [5] la.length (fun kq v5 wr => ∃ i : Nat, v5 = .int .i64 (i : Int) ∧ Aside0 (kq + i = la.length) ∧ Bw w wr)
  case atStart => exact ⟨0, rfl, ⟨rfl⟩, HB⟩
  case round =>
  clear HB
  obtain ⟨i, rfl, HK, HB⟩ := hrel
  cases gk with
  | succ k1 =>
    have hi : i < la.length := by have := HK.out; omega
    obtain ⟨ad, e9, hx⟩ := Kd.at_int G1.out (i : Int) (by omega) (by rw [List.length_append]; omega)
    cases e9
    rw [Int.toNat_natCast] at hx
    replace hx := (HB.out.cell (World.block_lt_of_cell? w _ hx)).trans hx
    rw [rd_app_l la lb i hi] at hx
    have hx9 := N0.out i hi
    have cb9 : (la.getD i 0 != 91) = true := bne_iff_ne.mpr hx9
    have ci : decide ((i : Int) < ((la.length + lb.length : Nat) : Int)) = true := decide_eq_true (by omega)
    generalize la.getD i 0 = z at hx cb9 hx9
    have q1 : (0 : Int) ≤ (i : Int) := by omega
    have q2 : (i : Int) < (la.length : Int) + (lb.length : Int) := by omega
    go_wp2
    go_roundg k1
    case measure => omega
    case rel => exact ⟨i + 1, (by first | rfl | (simp; done) | (simp [*]; done)), ⟨by have := HK.out; omega⟩, HB⟩
  | zero =>
    have hi : i = la.length := by have := HK.out; omega
    subst hi
    clear HK
    obtain ⟨ad, e9, hx⟩ := Kd.at_int G1.out (la.length : Int) (by omega) (by rw [List.length_append]; have := LB.out; omega)
    cases e9
    rw [Int.toNat_natCast] at hx
    replace hx := (HB.out.cell (World.block_lt_of_cell? w _ hx)).trans hx
    rw [rd_app_r la lb LB.out, H91.out] at hx
    have ci : decide ((la.length : Int) < ((la.length + lb.length : Nat) : Int)) = true := decide_eq_true (by have := LB.out; omega)
    have q1 : (0 : Int) ≤ (la.length : Int) := by omega
    have q2 : (la.length : Int) < (la.length : Int) + (lb.length : Int) := by have := LB.out; omega
    have hck : ¬ c = la.length := by have := LB.out; have := HC.out; omega
    have q3 := eq_true LB.out
    go_wp2_with (first
      | ((with_reducible refine gate_dst (N := 26) rfl ?_); refine gg (some 26) rfl rfl rfl frK1 ?_; refine onc (nameOk_b k _ c la false _ (cb GA) LA.out T.out) rfl ?_; rintro e w2 ⟨rfl, hb⟩; refine ⟨_, rfl, ?_⟩; replace HB := Bw.sw w hb; clear hb; simp only [Act.put, List.setIfInBounds_toArray, List.set_cons_zero, List.set_cons_succ]))
    go_ret3
    exact ⟨rfl, HB.out⟩
set_option maxRecDepth 100000 in
set_option maxHeartbeats 8000000 in
theorem split_short (k : Nat) (A : Option Addr) (c : Nat) (la lb : List Int) (w : World) (hn : la.length + lb.length ≤ 1048576) (hc : la.length + lb.length ≤ c) (h : (Kd.int .u8).C w A (la ++ lb).length (la ++ lb)) (ha : ∀ i, i < la.length → la.getD i 0 ≠ 91) (l1 : 0 < lb.length) (h91 : lb.getD 0 0 = 91) (hf : spec_NameOk.f k la = some true) (h3 : lb.length < 3) : Calls Tryd.prog 34 #[.slice A (la.length + lb.length) c] w fun e w' => e = .returned (.tuple #[.slice none 0 0, .slice none 0 0, .bool false]) ∧ Below w.heap.size w w' := by
  have HC := Aside0.mk hc
  have G1 := Aside0.mk h
  have N0 := Aside0.mk ha
  have LA := Aside0.mk (show la.length ≤ c by omega)
  have GA := Aside0.mk (show (Kd.int .u8).C w A la.length la by have := Kd.C_take (m := la.length) h (by rw [List.length_append]; omega); rwa [List.take_left' rfl] at this)
  have HB := Bw.refl w
  clear h ha
  have LB := Aside0.mk l1
  have H91 := Aside0.mk h91
  clear l1 h91
  have T := Aside0.mk hf
  clear hf
  go_enter Tryd.func34, Tryd.ntmps34
  go_wp2
  go_loopg [5] la.length (fun kq v5 wr => ∃ i : Nat, v5 = .int .i64 (i : Int) ∧ Aside0 (kq + i = la.length) ∧ Bw w wr)
  case atStart => exact ⟨0, rfl, ⟨rfl⟩, HB⟩
  case round =>
  clear HB
  obtain ⟨i, rfl, HK, HB⟩ := hrel
  cases gk with
  | succ k1 =>
    have hi : i < la.length := by have := HK.out; omega
    obtain ⟨ad, e9, hx⟩ := Kd.at_int G1.out (i : Int) (by omega) (by rw [List.length_append]; omega)
    cases e9
    rw [Int.toNat_natCast] at hx
    replace hx := (HB.out.cell (World.block_lt_of_cell? w _ hx)).trans hx
    rw [rd_app_l la lb i hi] at hx
    have hx9 := N0.out i hi
    have cb9 : (la.getD i 0 != 91) = true := bne_iff_ne.mpr hx9
    have ci : decide ((i : Int) < ((la.length + lb.length : Nat) : Int)) = true := decide_eq_true (by omega)
    generalize la.getD i 0 = z at hx cb9 hx9
    have q1 : (0 : Int) ≤ (i : Int) := by omega
    have q2 : (i : Int) < (la.length : Int) + (lb.length : Int) := by omega
    go_wp2
    go_roundg k1
    case measure => omega
    case rel => exact ⟨i + 1, (by first | rfl | (simp; done) | (simp [*]; done)), ⟨by have := HK.out; omega⟩, HB⟩
  | zero =>
    have hi : i = la.length := by have := HK.out; omega
    subst hi
    clear HK
    obtain ⟨ad, e9, hx⟩ := Kd.at_int G1.out (la.length : Int) (by omega) (by rw [List.length_append]; have := LB.out; omega)
    cases e9
    rw [Int.toNat_natCast] at hx
    replace hx := (HB.out.cell (World.block_lt_of_cell? w _ hx)).trans hx
    rw [rd_app_r la lb LB.out, H91.out] at hx
    have ci : decide ((la.length : Int) < ((la.length + lb.length : Nat) : Int)) = true := decide_eq_true (by have := LB.out; omega)
    have q1 : (0 : Int) ≤ (la.length : Int) := by omega
    have q2 : (la.length : Int) < (la.length : Int) + (lb.length : Int) := by have := LB.out; omega
    have hck : ¬ c = la.length := by have := LB.out; have := HC.out; omega
    have q3 := eq_true LB.out
    have c3 : decide ((lb.length : Int) < 3) = true := decide_eq_true (by omega)
    have c0 : ((lb.length : Int) == 0) = false := beq_eq_false_iff_ne.mpr (by have := LB.out; omega)
    go_wp2_with (first
      | ((with_reducible refine gate_dst (N := 26) rfl ?_); refine gg (some 26) rfl rfl rfl frK1 ?_; refine onc (nameOk_b k _ c la true _ (cb GA) LA.out T.out) rfl ?_; rintro e w2 ⟨rfl, hb⟩; refine ⟨_, rfl, ?_⟩; replace HB := Bw.sw w hb; clear hb; simp only [Act.put, List.setIfInBounds_toArray, List.set_cons_zero, List.set_cons_succ]))
    go_ret3
    exact ⟨rfl, HB.out⟩
theorem rd_app_at (la lb : List Int) (q : Nat) (h : q < lb.length) : rd (la ++ lb) ((la.length + q : Nat) : Int) = lb.getD q 0 := by
  rw [rd_nat _ (la.length + q) (by rw [List.length_append]; omega), List.getElem_append_right (Nat.le_add_right _ _), List.getD_eq_getElem?_getD, List.getElem?_eq_getElem (by omega)]
  simp
set_option maxRecDepth 100000 in
set_option maxHeartbeats 8000000 in
theorem split_open (k : Nat) (A : Option Addr) (c : Nat) (la lb : List Int) (w : World) (hn : la.length + lb.length ≤ 1048576) (hc : la.length + lb.length ≤ c) (h : (Kd.int .u8).C w A (la ++ lb).length (la ++ lb)) (ha : ∀ i, i < la.length → la.getD i 0 ≠ 91) (l1 : 0 < lb.length) (h91 : lb.getD 0 0 = 91) (hf : spec_NameOk.f k la = some true) (h3 : 3 ≤ lb.length) (z : Int) (hz : lb.getD (lb.length - 1) 0 = z) (hz2 : z ≠ 93) : Calls Tryd.prog 34 #[.slice A (la.length + lb.length) c] w fun e w' => e = .returned (.tuple #[.slice none 0 0, .slice none 0 0, .bool false]) ∧ Below w.heap.size w w' := by
  have HC := Aside0.mk hc
  have G1 := Aside0.mk h
  have N0 := Aside0.mk ha
  have LA := Aside0.mk (show la.length ≤ c by omega)
  have GA := Aside0.mk (show (Kd.int .u8).C w A la.length la by have := Kd.C_take (m := la.length) h (by rw [List.length_append]; omega); rwa [List.take_left' rfl] at this)
  have HB := Bw.refl w
  clear h ha
  have LB := Aside0.mk l1
  have H91 := Aside0.mk h91
  clear l1 h91
  have T := Aside0.mk hf
  clear hf
  have H3 := Aside0.mk h3
  clear h3
  have HZ := Aside0.mk hz
  have cz : (z != 93) = true := bne_iff_ne.mpr hz2
  clear hz hz2
  go_enter Tryd.func34, Tryd.ntmps34
  go_wp2
  go_loopg [5] la.length (fun kq v5 wr => ∃ i : Nat, v5 = .int .i64 (i : Int) ∧ Aside0 (kq + i = la.length) ∧ Bw w wr)
  case atStart => exact ⟨0, rfl, ⟨rfl⟩, HB⟩
  case round =>
  clear HB
  obtain ⟨i, rfl, HK, HB⟩ := hrel
  cases gk with
  | succ k1 =>
    have hi : i < la.length := by have := HK.out; omega
    obtain ⟨ad, e9, hx⟩ := Kd.at_int G1.out (i : Int) (by omega) (by rw [List.length_append]; omega)
    cases e9
    rw [Int.toNat_natCast] at hx
    replace hx := (HB.out.cell (World.block_lt_of_cell? w _ hx)).trans hx
    rw [rd_app_l la lb i hi] at hx
    have hx9 := N0.out i hi
    have cb9 : (la.getD i 0 != 91) = true := bne_iff_ne.mpr hx9
    have ci : decide ((i : Int) < ((la.length + lb.length : Nat) : Int)) = true := decide_eq_true (by omega)
    generalize la.getD i 0 = z at hx cb9 hx9
    have q1 : (0 : Int) ≤ (i : Int) := by omega
    have q2 : (i : Int) < (la.length : Int) + (lb.length : Int) := by omega
    go_wp2
    go_roundg k1
    case measure => omega
    case rel => exact ⟨i + 1, (by first | rfl | (simp; done) | (simp [*]; done)), ⟨by have := HK.out; omega⟩, HB⟩
  | zero =>
    have hi : i = la.length := by have := HK.out; omega
    subst hi
    clear HK
    obtain ⟨ad, e9, hx⟩ := Kd.at_int G1.out (la.length : Int) (by omega) (by rw [List.length_append]; have := LB.out; omega)
    cases e9
    rw [Int.toNat_natCast] at hx
    replace hx := (HB.out.cell (World.block_lt_of_cell? w _ hx)).trans hx
    rw [rd_app_r la lb LB.out, H91.out] at hx
    have ci : decide ((la.length : Int) < ((la.length + lb.length : Nat) : Int)) = true := decide_eq_true (by have := LB.out; omega)
    have q1 : (0 : Int) ≤ (la.length : Int) := by omega
    have q2 : (la.length : Int) < (la.length : Int) + (lb.length : Int) := by have := LB.out; omega
    have hck : ¬ c = la.length := by have := LB.out; have := HC.out; omega
    have q3 := eq_true LB.out
    have q7 : 1 ≤ lb.length - 1 := by have := H3.out; omega
    have q8 := eq_true (show 0 < lb.length - 1 - 1 by have := H3.out; omega)
    have q9 : (1 : Int) ≤ (lb.length : Int) - 1 := by have := H3.out; omega
    have q10 : (lb.length : Int) - 1 ≤ ((c - la.length : Nat) : Int) := by have := H3.out; have := HC.out; omega
    have q11 : lb.length - 1 ≤ c - la.length := by have := HC.out; omega
    have c3 : decide ((lb.length : Int) < 3) = false := decide_eq_false (by have := H3.out; omega)
    have c0 : ((lb.length : Int) == 0) = false := beq_eq_false_iff_ne.mpr (by have := LB.out; omega)
    obtain ⟨ad_hx2, e_hx2, hx2⟩ := Kd.at_int G1.out ((la.length + (lb.length - 1) : Nat) : Int) (by omega) (by rw [List.length_append]; have := LB.out; have := H3.out; omega)
    obtain rfl := Option.some.inj e_hx2
    rw [Int.toNat_natCast] at hx2
    replace hx2 := (HB.out.cell (World.block_lt_of_cell? w _ hx2)).trans hx2
    rw [rd_app_at la lb (lb.length - 1) (by have := LB.out; have := H3.out; omega), HZ.out, show ad.add (la.length + (lb.length - 1)) = (ad.add la.length).add (lb.length - 1) from (add_add _ _ _).symm] at hx2
    go_wp2_with (first
      | ((with_reducible refine gate_dst (N := 26) rfl ?_); refine gg (some 26) rfl rfl rfl frK1 ?_; refine onc (nameOk_b k _ c la true _ (cb GA) LA.out T.out) rfl ?_; rintro e w2 ⟨rfl, hb⟩; refine ⟨_, rfl, ?_⟩; replace hx2 := (hb.cell (World.block_lt_of_cell? _ _ hx2)).trans hx2; replace HB := Bw.sw w hb; clear hb; simp only [Act.put, List.setIfInBounds_toArray, List.set_cons_zero, List.set_cons_succ]))
    go_ret3
    exact ⟨rfl, HB.out⟩
theorem addn (x : Addr) (n : Nat) (h : n ≠ 0) : x.add n = ⟨x.block, x.off + n, none⟩ := by unfold Addr.add; simp [h]
theorem add_one (x : Addr) : x.add 1 = ⟨x.block, x.off + 1, none⟩ := by unfold Addr.add; simp
set_option maxRecDepth 100000 in
set_option maxHeartbeats 8000000 in
theorem split_qshort (k : Nat) (A : Option Addr) (c : Nat) (la lb : List Int) (w : World) (hn : la.length + lb.length ≤ 1048576) (hc : la.length + lb.length ≤ c) (h : (Kd.int .u8).C w A (la ++ lb).length (la ++ lb)) (ha : ∀ i, i < la.length → la.getD i 0 ≠ 91) (l1 : 0 < lb.length) (h91 : lb.getD 0 0 = 91) (hf : spec_NameOk.f k la = some true) (h3 : 3 ≤ lb.length) (hz : lb.getD (lb.length - 1) 0 = 93) (y : Int) (hy : lb.getD 1 0 = y) (y34 : y = 34) (h5 : lb.length < 5) : Calls Tryd.prog 34 #[.slice A (la.length + lb.length) c] w fun e w' => e = .returned (.tuple #[.slice none 0 0, .slice none 0 0, .bool false]) ∧ Below w.heap.size w w' := by
  have HC := Aside0.mk hc
  have G1 := Aside0.mk h
  have N0 := Aside0.mk ha
  have LA := Aside0.mk (show la.length ≤ c by omega)
  have GA := Aside0.mk (show (Kd.int .u8).C w A la.length la by have := Kd.C_take (m := la.length) h (by rw [List.length_append]; omega); rwa [List.take_left' rfl] at this)
  have HB := Bw.refl w
  clear h ha
  have LB := Aside0.mk l1
  have H91 := Aside0.mk h91
  clear l1 h91
  have T := Aside0.mk hf
  clear hf
  have H3 := Aside0.mk h3
  clear h3
  have HZ := Aside0.mk hz
  have HY := Aside0.mk hy
  clear hz hy
  have cy : (y == 34) = true := beq_iff_eq.mpr y34
  have H5 := Aside0.mk h5
  clear y34 h5
  go_enter Tryd.func34, Tryd.ntmps34
  go_wp2
  go_loopg [5] la.length (fun kq v5 wr => ∃ i : Nat, v5 = .int .i64 (i : Int) ∧ Aside0 (kq + i = la.length) ∧ Bw w wr)
  case atStart => exact ⟨0, rfl, ⟨rfl⟩, HB⟩
  case round =>
  clear HB
  obtain ⟨i, rfl, HK, HB⟩ := hrel
  cases gk with
  | succ k1 =>
    have hi : i < la.length := by have := HK.out; omega
    obtain ⟨ad, e9, hx⟩ := Kd.at_int G1.out (i : Int) (by omega) (by rw [List.length_append]; omega)
    cases e9
    rw [Int.toNat_natCast] at hx
    replace hx := (HB.out.cell (World.block_lt_of_cell? w _ hx)).trans hx
    rw [rd_app_l la lb i hi] at hx
    have hx9 := N0.out i hi
    have cb9 : (la.getD i 0 != 91) = true := bne_iff_ne.mpr hx9
    have ci : decide ((i : Int) < ((la.length + lb.length : Nat) : Int)) = true := decide_eq_true (by omega)
    generalize la.getD i 0 = z at hx cb9 hx9
    have q1 : (0 : Int) ≤ (i : Int) := by omega
    have q2 : (i : Int) < (la.length : Int) + (lb.length : Int) := by omega
    go_wp2
    go_roundg k1
    case measure => omega
    case rel => exact ⟨i + 1, (by first | rfl | (simp; done) | (simp [*]; done)), ⟨by have := HK.out; omega⟩, HB⟩
  | zero =>
    have hi : i = la.length := by have := HK.out; omega
    subst hi
    clear HK
    obtain ⟨ad, e9, hx⟩ := Kd.at_int G1.out (la.length : Int) (by omega) (by rw [List.length_append]; have := LB.out; omega)
    cases e9
    rw [Int.toNat_natCast] at hx
    replace hx := (HB.out.cell (World.block_lt_of_cell? w _ hx)).trans hx
    rw [rd_app_r la lb LB.out, H91.out] at hx
    have ci : decide ((la.length : Int) < ((la.length + lb.length : Nat) : Int)) = true := decide_eq_true (by have := LB.out; omega)
    have q1 : (0 : Int) ≤ (la.length : Int) := by omega
    have q2 : (la.length : Int) < (la.length : Int) + (lb.length : Int) := by have := LB.out; omega
    have hck : ¬ c = la.length := by have := LB.out; have := HC.out; omega
    have q3 := eq_true LB.out
    have q7 : 1 ≤ lb.length - 1 := by have := H3.out; omega
    have q8 := eq_true (show 0 < lb.length - 1 - 1 by have := H3.out; omega)
    have q9 : (1 : Int) ≤ (lb.length : Int) - 1 := by have := H3.out; omega
    have q10 : (lb.length : Int) - 1 ≤ ((c - la.length : Nat) : Int) := by have := H3.out; have := HC.out; omega
    have q11 : lb.length - 1 ≤ c - la.length := by have := HC.out; omega
    have c3 : decide ((lb.length : Int) < 3) = false := decide_eq_false (by have := H3.out; omega)
    have c0 : ((lb.length : Int) == 0) = false := beq_eq_false_iff_ne.mpr (by have := LB.out; omega)
    obtain ⟨ad_hx2, e_hx2, hx2⟩ := Kd.at_int G1.out ((la.length + (lb.length - 1) : Nat) : Int) (by omega) (by rw [List.length_append]; have := LB.out; have := H3.out; omega)
    obtain rfl := Option.some.inj e_hx2
    rw [Int.toNat_natCast] at hx2
    replace hx2 := (HB.out.cell (World.block_lt_of_cell? w _ hx2)).trans hx2
    rw [rd_app_at la lb (lb.length - 1) (by have := LB.out; have := H3.out; omega), HZ.out, show ad.add (la.length + (lb.length - 1)) = (ad.add la.length).add (lb.length - 1) from (add_add _ _ _).symm] at hx2
    obtain ⟨ad_hx3, e_hx3, hx3⟩ := Kd.at_int G1.out ((la.length + (1) : Nat) : Int) (by omega) (by rw [List.length_append]; have := LB.out; have := H3.out; omega)
    obtain rfl := Option.some.inj e_hx3
    rw [Int.toNat_natCast] at hx3
    replace hx3 := (HB.out.cell (World.block_lt_of_cell? w _ hx3)).trans hx3
    rw [rd_app_at la lb (1) (by have := LB.out; have := H3.out; omega), HY.out, show ad.add (la.length + (1)) = (⟨(ad.add la.length).block, (ad.add la.length).off + 1, none⟩ : Addr) from (by rw [← add_add]; unfold Addr.add; simp)] at hx3
    have c5 : decide (((lb.length - 1 - 1 : Nat) : Int) < 3) = true := decide_eq_true (by have := H5.out; omega)
    go_wp2_with (first
      | ((with_reducible refine gate_dst (N := 26) rfl ?_); refine gg (some 26) rfl rfl rfl frK1 ?_; refine onc (nameOk_b k _ c la true _ (cb GA) LA.out T.out) rfl ?_; rintro e w2 ⟨rfl, hb⟩; refine ⟨_, rfl, ?_⟩; replace hx2 := (hb.cell (World.block_lt_of_cell? _ _ hx2)).trans hx2; replace hx3 := (hb.cell (World.block_lt_of_cell? _ _ hx3)).trans hx3; replace HB := Bw.sw w hb; clear hb; simp only [Act.put, List.setIfInBounds_toArray, List.set_cons_zero, List.set_cons_succ]))
    go_ret3
    exact ⟨rfl, HB.out⟩
set_option maxRecDepth 100000 in
set_option maxHeartbeats 8000000 in
theorem split_qopen (k : Nat) (A : Option Addr) (c : Nat) (la lb : List Int) (w : World) (hn : la.length + lb.length ≤ 1048576) (hc : la.length + lb.length ≤ c) (h : (Kd.int .u8).C w A (la ++ lb).length (la ++ lb)) (ha : ∀ i, i < la.length → la.getD i 0 ≠ 91) (l1 : 0 < lb.length) (h91 : lb.getD 0 0 = 91) (hf : spec_NameOk.f k la = some true) (h3 : 3 ≤ lb.length) (hz : lb.getD (lb.length - 1) 0 = 93) (y : Int) (hy : lb.getD 1 0 = y) (y34 : y = 34) (h5 : 5 ≤ lb.length) (x : Int) (hxx : lb.getD (lb.length - 2) 0 = x) (x34 : x ≠ 34) : Calls Tryd.prog 34 #[.slice A (la.length + lb.length) c] w fun e w' => e = .returned (.tuple #[.slice none 0 0, .slice none 0 0, .bool false]) ∧ Below w.heap.size w w' := by
  have HC := Aside0.mk hc
  have G1 := Aside0.mk h
  have N0 := Aside0.mk ha
  have LA := Aside0.mk (show la.length ≤ c by omega)
  have GA := Aside0.mk (show (Kd.int .u8).C w A la.length la by have := Kd.C_take (m := la.length) h (by rw [List.length_append]; omega); rwa [List.take_left' rfl] at this)
  have HB := Bw.refl w
  clear h ha
  have LB := Aside0.mk l1
  have H91 := Aside0.mk h91
  clear l1 h91
  have T := Aside0.mk hf
  clear hf
  have H3 := Aside0.mk h3
  clear h3
  have HZ := Aside0.mk hz
  have HY := Aside0.mk hy
  clear hz hy
  have cy : (y == 34) = true := beq_iff_eq.mpr y34
  have H5 := Aside0.mk h5
  clear y34 h5
  have HX := Aside0.mk hxx
  clear hxx
  have cx : (x != 34) = true := bne_iff_ne.mpr x34
  clear x34
  go_enter Tryd.func34, Tryd.ntmps34
  go_wp2
  go_loopg [5] la.length (fun kq v5 wr => ∃ i : Nat, v5 = .int .i64 (i : Int) ∧ Aside0 (kq + i = la.length) ∧ Bw w wr)
  case atStart => exact ⟨0, rfl, ⟨rfl⟩, HB⟩
  case round =>
  clear HB
  obtain ⟨i, rfl, HK, HB⟩ := hrel
  cases gk with
  | succ k1 =>
    have hi : i < la.length := by have := HK.out; omega
    obtain ⟨ad, e9, hx⟩ := Kd.at_int G1.out (i : Int) (by omega) (by rw [List.length_append]; omega)
    cases e9
    rw [Int.toNat_natCast] at hx
    replace hx := (HB.out.cell (World.block_lt_of_cell? w _ hx)).trans hx
    rw [rd_app_l la lb i hi] at hx
    have hx9 := N0.out i hi
    have cb9 : (la.getD i 0 != 91) = true := bne_iff_ne.mpr hx9
    have ci : decide ((i : Int) < ((la.length + lb.length : Nat) : Int)) = true := decide_eq_true (by omega)
    generalize la.getD i 0 = z at hx cb9 hx9
    have q1 : (0 : Int) ≤ (i : Int) := by omega
    have q2 : (i : Int) < (la.length : Int) + (lb.length : Int) := by omega
    go_wp2
    go_roundg k1
    case measure => omega
    case rel => exact ⟨i + 1, (by first | rfl | (simp; done) | (simp [*]; done)), ⟨by have := HK.out; omega⟩, HB⟩
  | zero =>
    have hi : i = la.length := by have := HK.out; omega
    subst hi
    clear HK
    obtain ⟨ad, e9, hx⟩ := Kd.at_int G1.out (la.length : Int) (by omega) (by rw [List.length_append]; have := LB.out; omega)
    cases e9
    rw [Int.toNat_natCast] at hx
    replace hx := (HB.out.cell (World.block_lt_of_cell? w _ hx)).trans hx
    rw [rd_app_r la lb LB.out, H91.out] at hx
    have ci : decide ((la.length : Int) < ((la.length + lb.length : Nat) : Int)) = true := decide_eq_true (by have := LB.out; omega)
    have q1 : (0 : Int) ≤ (la.length : Int) := by omega
    have q2 : (la.length : Int) < (la.length : Int) + (lb.length : Int) := by have := LB.out; omega
    have hck : ¬ c = la.length := by have := LB.out; have := HC.out; omega
    have q3 := eq_true LB.out
    have q7 : 1 ≤ lb.length - 1 := by have := H3.out; omega
    have q8 := eq_true (show 0 < lb.length - 1 - 1 by have := H3.out; omega)
    have q9 : (1 : Int) ≤ (lb.length : Int) - 1 := by have := H3.out; omega
    have q10 : (lb.length : Int) - 1 ≤ ((c - la.length : Nat) : Int) := by have := H3.out; have := HC.out; omega
    have q11 : lb.length - 1 ≤ c - la.length := by have := HC.out; omega
    have c3 : decide ((lb.length : Int) < 3) = false := decide_eq_false (by have := H3.out; omega)
    have c0 : ((lb.length : Int) == 0) = false := beq_eq_false_iff_ne.mpr (by have := LB.out; omega)
    have q12 : (1 : Int) ≤ ((lb.length - 1 - 1 : Nat) : Int) - 1 := by have := H5.out; omega
    have c5 : decide (((lb.length - 1 - 1 : Nat) : Int) < 3) = false := decide_eq_false (by have := H5.out; omega)
    have q13 := eq_true (show lb.length - 1 - 1 - 1 < lb.length - 1 - 1 by have := H5.out; omega)
    have q14 : 1 ≤ lb.length - 1 - 1 - 1 := by have := H5.out; omega
    have q15 : lb.length - 1 - 1 - 1 ≤ c - la.length - 1 := by have := HC.out; omega
    obtain ⟨ad_hx2, e_hx2, hx2⟩ := Kd.at_int G1.out ((la.length + (lb.length - 1) : Nat) : Int) (by omega) (by rw [List.length_append]; have := LB.out; have := H3.out; omega)
    obtain rfl := Option.some.inj e_hx2
    rw [Int.toNat_natCast] at hx2
    replace hx2 := (HB.out.cell (World.block_lt_of_cell? w _ hx2)).trans hx2
    rw [rd_app_at la lb (lb.length - 1) (by have := LB.out; have := H3.out; omega), HZ.out, show ad.add (la.length + (lb.length - 1)) = (ad.add la.length).add (lb.length - 1) from (add_add _ _ _).symm] at hx2
    obtain ⟨ad_hx3, e_hx3, hx3⟩ := Kd.at_int G1.out ((la.length + (1) : Nat) : Int) (by omega) (by rw [List.length_append]; have := LB.out; have := H3.out; omega)
    obtain rfl := Option.some.inj e_hx3
    rw [Int.toNat_natCast] at hx3
    replace hx3 := (HB.out.cell (World.block_lt_of_cell? w _ hx3)).trans hx3
    rw [rd_app_at la lb (1) (by have := LB.out; have := H3.out; omega), HY.out, show ad.add (la.length + (1)) = (⟨(ad.add la.length).block, (ad.add la.length).off + 1, none⟩ : Addr) from (by rw [← add_add]; unfold Addr.add; simp)] at hx3
    obtain ⟨ad_hx4, e_hx4, hx4⟩ := Kd.at_int G1.out ((la.length + (lb.length - 2) : Nat) : Int) (by omega) (by rw [List.length_append]; have := LB.out; have := H3.out; omega)
    obtain rfl := Option.some.inj e_hx4
    rw [Int.toNat_natCast] at hx4
    replace hx4 := (HB.out.cell (World.block_lt_of_cell? w _ hx4)).trans hx4
    rw [rd_app_at la lb (lb.length - 2) (by have := LB.out; have := H3.out; omega), HX.out, show ad.add (la.length + (lb.length - 2)) = (⟨(ad.add la.length).block, (ad.add la.length).off + 1 + (lb.length - 1 - 1 - 1), none⟩ : Addr) from (by rw [← add_add, addn _ _ (by have := H5.out; omega)]; congr 1; have := H5.out; omega)] at hx4
    go_wp2_with (first
      | ((with_reducible refine gate_dst (N := 26) rfl ?_); refine gg (some 26) rfl rfl rfl frK1 ?_; refine onc (nameOk_b k _ c la true _ (cb GA) LA.out T.out) rfl ?_; rintro e w2 ⟨rfl, hb⟩; refine ⟨_, rfl, ?_⟩; replace hx2 := (hb.cell (World.block_lt_of_cell? _ _ hx2)).trans hx2; replace hx3 := (hb.cell (World.block_lt_of_cell? _ _ hx3)).trans hx3; replace hx4 := (hb.cell (World.block_lt_of_cell? _ _ hx4)).trans hx4; replace HB := Bw.sw w hb; clear hb; simp only [Act.put, List.setIfInBounds_toArray, List.set_cons_zero, List.set_cons_succ]))
    go_ret3
    exact ⟨rfl, HB.out⟩
/-- How l4split ends. -/
inductive SpPost (A : Option Addr) (la : List Int) (c : Nat) : Bool → Ending → Prop
  | no : SpPost A la c false (.returned (.tuple #[.slice none 0 0, .slice none 0 0, .bool false]))
  | yes {v2 : Value} : SpPost A la c true (.returned (.tuple #[.slice A la.length c, v2, .bool true]))
/-- What stands between the quotes. -/
theorem split_q {w : World} {ad : Addr} {c : Nat} (la lb q : List Int) (h : (Kd.int .u8).C w (some ad) (la ++ lb).length (la ++ lb)) (hc : la.length + lb.length ≤ c) (h5 : 5 ≤ lb.length) (hq : (lb.drop 2).take (lb.length - 4) = q) :
    q.length = lb.length - 1 - 1 - 1 - 1 ∧ (Kd.int .u8).C w (some ⟨(ad.add la.length).block, (ad.add la.length).off + 1 + 1, none⟩) q.length q := by
  have hl : q.length = lb.length - 1 - 1 - 1 - 1 := by rw [← hq, List.length_take, List.length_drop]; omega
  refine ⟨hl, ?_⟩
  have h4 := Kd.C_drop (m := la.length + 2) (c := c) h (by rw [List.length_append]; omega) (by rw [List.length_append]; omega)
  rw [if_neg (by omega), show (la.length + 2) * (Kd.int .u8).sz = la.length + 2 from Nat.mul_one _, Option.map_some, show (la ++ lb).drop (la.length + 2) = lb.drop 2 by rw [List.drop_append, List.drop_eq_nil_of_le (by omega), List.nil_append]; congr 1; omega] at h4
  have h6 := Kd.C_take (m := lb.length - 4) h4 (by rw [List.length_drop]; omega)
  rw [hq, show ad.add (la.length + 2) = (⟨(ad.add la.length).block, (ad.add la.length).off + 1 + 1, none⟩ : Addr) by rw [← add_add, addn _ 2 (by decide)]] at h6
  exact h6
set_option maxRecDepth 100000 in
set_option maxHeartbeats 8000000 in
theorem split_qname (k : Nat) (A : Option Addr) (c : Nat) (la lb : List Int) (w : World) (hn : la.length + lb.length ≤ 1048576) (hc : la.length + lb.length ≤ c) (h : (Kd.int .u8).C w A (la ++ lb).length (la ++ lb)) (ha : ∀ i, i < la.length → la.getD i 0 ≠ 91) (l1 : 0 < lb.length) (h91 : lb.getD 0 0 = 91) (hf : spec_NameOk.f k la = some true) (h3 : 3 ≤ lb.length) (hz : lb.getD (lb.length - 1) 0 = 93) (y : Int) (hy : lb.getD 1 0 = y) (y34 : y = 34) (h5 : 5 ≤ lb.length) (hxx : lb.getD (lb.length - 2) 0 = 34) (q : List Int) (hq : (lb.drop 2).take (lb.length - 4) = q) (r : Bool) (hr : spec_NameOk.f k q = some r) : Calls Tryd.prog 34 #[.slice A (la.length + lb.length) c] w fun e w' => SpPost A la c r e ∧ Below w.heap.size w w' := by
  have HC := Aside0.mk hc
  have G1 := Aside0.mk h
  have N0 := Aside0.mk ha
  have LA := Aside0.mk (show la.length ≤ c by omega)
  have GA := Aside0.mk (show (Kd.int .u8).C w A la.length la by have := Kd.C_take (m := la.length) h (by rw [List.length_append]; omega); rwa [List.take_left' rfl] at this)
  have HB := Bw.refl w
  clear h ha
  have LB := Aside0.mk l1
  have H91 := Aside0.mk h91
  clear l1 h91
  have T := Aside0.mk hf
  clear hf
  have H3 := Aside0.mk h3
  clear h3
  have HZ := Aside0.mk hz
  have HY := Aside0.mk hy
  clear hz hy
  have cy : (y == 34) = true := beq_iff_eq.mpr y34
  have H5 := Aside0.mk h5
  clear y34 h5
  have HX := Aside0.mk hxx
  clear hxx
  have TQ := Aside0.mk hr
  have HQQ := Aside0.mk hq
  clear hr hq
  cases r with
  | false =>
    go_enter Tryd.func34, Tryd.ntmps34
    go_wp2
    go_loopg [5] la.length (fun kq v5 wr => ∃ i : Nat, v5 = .int .i64 (i : Int) ∧ Aside0 (kq + i = la.length) ∧ Bw w wr)
    case atStart => exact ⟨0, rfl, ⟨rfl⟩, HB⟩
    case round =>
    clear HB
    obtain ⟨i, rfl, HK, HB⟩ := hrel
    cases gk with
    | succ k1 =>
      have hi : i < la.length := by have := HK.out; omega
      obtain ⟨ad, e9, hx⟩ := Kd.at_int G1.out (i : Int) (by omega) (by rw [List.length_append]; omega)
      cases e9
      rw [Int.toNat_natCast] at hx
      replace hx := (HB.out.cell (World.block_lt_of_cell? w _ hx)).trans hx
      rw [rd_app_l la lb i hi] at hx
      have hx9 := N0.out i hi
      have cb9 : (la.getD i 0 != 91) = true := bne_iff_ne.mpr hx9
      have ci : decide ((i : Int) < ((la.length + lb.length : Nat) : Int)) = true := decide_eq_true (by omega)
      generalize la.getD i 0 = z at hx cb9 hx9
      have q1 : (0 : Int) ≤ (i : Int) := by omega
      have q2 : (i : Int) < (la.length : Int) + (lb.length : Int) := by omega
      go_wp2
      go_roundg k1
      case measure => omega
      case rel => exact ⟨i + 1, (by first | rfl | (simp; done) | (simp [*]; done)), ⟨by have := HK.out; omega⟩, HB⟩
    | zero =>
      have hi : i = la.length := by have := HK.out; omega
      subst hi
      clear HK
      obtain ⟨ad, e9, hx⟩ := Kd.at_int G1.out (la.length : Int) (by omega) (by rw [List.length_append]; have := LB.out; omega)
      cases e9
      rw [Int.toNat_natCast] at hx
      replace hx := (HB.out.cell (World.block_lt_of_cell? w _ hx)).trans hx
      rw [rd_app_r la lb LB.out, H91.out] at hx
      have ci : decide ((la.length : Int) < ((la.length + lb.length : Nat) : Int)) = true := decide_eq_true (by have := LB.out; omega)
      have q1 : (0 : Int) ≤ (la.length : Int) := by omega
      have q2 : (la.length : Int) < (la.length : Int) + (lb.length : Int) := by have := LB.out; omega
      have hck : ¬ c = la.length := by have := LB.out; have := HC.out; omega
      have q3 := eq_true LB.out
      have q7 : 1 ≤ lb.length - 1 := by have := H3.out; omega
      have q8 := eq_true (show 0 < lb.length - 1 - 1 by have := H3.out; omega)
      have q9 : (1 : Int) ≤ (lb.length : Int) - 1 := by have := H3.out; omega
      have q10 : (lb.length : Int) - 1 ≤ ((c - la.length : Nat) : Int) := by have := H3.out; have := HC.out; omega
      have q11 : lb.length - 1 ≤ c - la.length := by have := HC.out; omega
      have c3 : decide ((lb.length : Int) < 3) = false := decide_eq_false (by have := H3.out; omega)
      have c0 : ((lb.length : Int) == 0) = false := beq_eq_false_iff_ne.mpr (by have := LB.out; omega)
      have q12 : (1 : Int) ≤ ((lb.length - 1 - 1 : Nat) : Int) - 1 := by have := H5.out; omega
      have c5 : decide (((lb.length - 1 - 1 : Nat) : Int) < 3) = false := decide_eq_false (by have := H5.out; omega)
      have q13 := eq_true (show lb.length - 1 - 1 - 1 < lb.length - 1 - 1 by have := H5.out; omega)
      have q14 : 1 ≤ lb.length - 1 - 1 - 1 := by have := H5.out; omega
      have q15 : lb.length - 1 - 1 - 1 ≤ c - la.length - 1 := by have := HC.out; omega
      obtain ⟨ad_hx2, e_hx2, hx2⟩ := Kd.at_int G1.out ((la.length + (lb.length - 1) : Nat) : Int) (by omega) (by rw [List.length_append]; have := LB.out; have := H3.out; omega)
      obtain rfl := Option.some.inj e_hx2
      rw [Int.toNat_natCast] at hx2
      replace hx2 := (HB.out.cell (World.block_lt_of_cell? w _ hx2)).trans hx2
      rw [rd_app_at la lb (lb.length - 1) (by have := LB.out; have := H3.out; omega), HZ.out, show ad.add (la.length + (lb.length - 1)) = (ad.add la.length).add (lb.length - 1) from (add_add _ _ _).symm] at hx2
      obtain ⟨ad_hx3, e_hx3, hx3⟩ := Kd.at_int G1.out ((la.length + (1) : Nat) : Int) (by omega) (by rw [List.length_append]; have := LB.out; have := H3.out; omega)
      obtain rfl := Option.some.inj e_hx3
      rw [Int.toNat_natCast] at hx3
      replace hx3 := (HB.out.cell (World.block_lt_of_cell? w _ hx3)).trans hx3
      rw [rd_app_at la lb (1) (by have := LB.out; have := H3.out; omega), HY.out, show ad.add (la.length + (1)) = (⟨(ad.add la.length).block, (ad.add la.length).off + 1, none⟩ : Addr) from (by rw [← add_add]; unfold Addr.add; simp)] at hx3
      obtain ⟨ad_hx4, e_hx4, hx4⟩ := Kd.at_int G1.out ((la.length + (lb.length - 2) : Nat) : Int) (by omega) (by rw [List.length_append]; have := LB.out; have := H3.out; omega)
      obtain rfl := Option.some.inj e_hx4
      rw [Int.toNat_natCast] at hx4
      replace hx4 := (HB.out.cell (World.block_lt_of_cell? w _ hx4)).trans hx4
      rw [rd_app_at la lb (lb.length - 2) (by have := LB.out; have := H3.out; omega), HX.out, show ad.add (la.length + (lb.length - 2)) = (⟨(ad.add la.length).block, (ad.add la.length).off + 1 + (lb.length - 1 - 1 - 1), none⟩ : Addr) from (by rw [← add_add, addn _ _ (by have := H5.out; omega)]; congr 1; have := H5.out; omega)] at hx4
      have GQ0 := split_q la lb q G1.out HC.out H5.out HQQ.out
      have QL := Aside0.mk GQ0.1
      have GQ := Aside0.mk GQ0.2
      clear GQ0
      have q16 : (1 : Int) ≤ ((lb.length - 1 - 1 - 1 : Nat) : Int) := by have := H5.out; omega
      go_wp2_with (first
        | ((with_reducible refine gate_dst (N := 26) rfl ?_); refine gg (some 26) rfl rfl rfl frK1 ?_; refine onc (nameOk_b k _ c la true _ (cb GA) LA.out T.out) rfl ?_; rintro e w2 ⟨rfl, hb⟩; refine ⟨_, rfl, ?_⟩; replace hx2 := (hb.cell (World.block_lt_of_cell? _ _ hx2)).trans hx2; replace hx3 := (hb.cell (World.block_lt_of_cell? _ _ hx3)).trans hx3; replace hx4 := (hb.cell (World.block_lt_of_cell? _ _ hx4)).trans hx4; replace HB := Bw.sw w hb; clear hb; simp only [Act.put, List.setIfInBounds_toArray, List.set_cons_zero, List.set_cons_succ])
        | ((with_reducible refine gate_dst (N := 74) rfl ?_); refine ggw (some 74) rfl (by rfl) rfl frK1 ?_; refine onc (nameOk_b k _ (c - la.length - 1 - 1) q false _ (Kd.C_below GQ.out HB.out) (by have := QL.out; have := HC.out; have := H5.out; omega) TQ.out) (by rw [QL.out]; rfl) ?_; rintro e w3 ⟨rfl, hb⟩; refine ⟨_, rfl, ?_⟩; replace HB := Bw.sw w hb; clear hb; simp only [Act.put, List.setIfInBounds_toArray, List.set_cons_zero, List.set_cons_succ]))
      go_ret3
      exact ⟨.no, HB.out⟩
  | true =>
    go_enter Tryd.func34, Tryd.ntmps34
    go_wp2
    go_loopg [5] la.length (fun kq v5 wr => ∃ i : Nat, v5 = .int .i64 (i : Int) ∧ Aside0 (kq + i = la.length) ∧ Bw w wr)
    case atStart => exact ⟨0, rfl, ⟨rfl⟩, HB⟩
    case round =>
    clear HB
    obtain ⟨i, rfl, HK, HB⟩ := hrel
    cases gk with
    | succ k1 =>
      have hi : i < la.length := by have := HK.out; omega
      obtain ⟨ad, e9, hx⟩ := Kd.at_int G1.out (i : Int) (by omega) (by rw [List.length_append]; omega)
      cases e9
      rw [Int.toNat_natCast] at hx
      replace hx := (HB.out.cell (World.block_lt_of_cell? w _ hx)).trans hx
      rw [rd_app_l la lb i hi] at hx
      have hx9 := N0.out i hi
      have cb9 : (la.getD i 0 != 91) = true := bne_iff_ne.mpr hx9
      have ci : decide ((i : Int) < ((la.length + lb.length : Nat) : Int)) = true := decide_eq_true (by omega)
      generalize la.getD i 0 = z at hx cb9 hx9
      have q1 : (0 : Int) ≤ (i : Int) := by omega
      have q2 : (i : Int) < (la.length : Int) + (lb.length : Int) := by omega
      go_wp2
      go_roundg k1
      case measure => omega
      case rel => exact ⟨i + 1, (by first | rfl | (simp; done) | (simp [*]; done)), ⟨by have := HK.out; omega⟩, HB⟩
    | zero =>
      have hi : i = la.length := by have := HK.out; omega
      subst hi
      clear HK
      obtain ⟨ad, e9, hx⟩ := Kd.at_int G1.out (la.length : Int) (by omega) (by rw [List.length_append]; have := LB.out; omega)
      cases e9
      rw [Int.toNat_natCast] at hx
      replace hx := (HB.out.cell (World.block_lt_of_cell? w _ hx)).trans hx
      rw [rd_app_r la lb LB.out, H91.out] at hx
      have ci : decide ((la.length : Int) < ((la.length + lb.length : Nat) : Int)) = true := decide_eq_true (by have := LB.out; omega)
      have q1 : (0 : Int) ≤ (la.length : Int) := by omega
      have q2 : (la.length : Int) < (la.length : Int) + (lb.length : Int) := by have := LB.out; omega
      have hck : ¬ c = la.length := by have := LB.out; have := HC.out; omega
      have q3 := eq_true LB.out
      have q7 : 1 ≤ lb.length - 1 := by have := H3.out; omega
      have q8 := eq_true (show 0 < lb.length - 1 - 1 by have := H3.out; omega)
      have q9 : (1 : Int) ≤ (lb.length : Int) - 1 := by have := H3.out; omega
      have q10 : (lb.length : Int) - 1 ≤ ((c - la.length : Nat) : Int) := by have := H3.out; have := HC.out; omega
      have q11 : lb.length - 1 ≤ c - la.length := by have := HC.out; omega
      have c3 : decide ((lb.length : Int) < 3) = false := decide_eq_false (by have := H3.out; omega)
      have c0 : ((lb.length : Int) == 0) = false := beq_eq_false_iff_ne.mpr (by have := LB.out; omega)
      have q12 : (1 : Int) ≤ ((lb.length - 1 - 1 : Nat) : Int) - 1 := by have := H5.out; omega
      have c5 : decide (((lb.length - 1 - 1 : Nat) : Int) < 3) = false := decide_eq_false (by have := H5.out; omega)
      have q13 := eq_true (show lb.length - 1 - 1 - 1 < lb.length - 1 - 1 by have := H5.out; omega)
      have q14 : 1 ≤ lb.length - 1 - 1 - 1 := by have := H5.out; omega
      have q15 : lb.length - 1 - 1 - 1 ≤ c - la.length - 1 := by have := HC.out; omega
      obtain ⟨ad_hx2, e_hx2, hx2⟩ := Kd.at_int G1.out ((la.length + (lb.length - 1) : Nat) : Int) (by omega) (by rw [List.length_append]; have := LB.out; have := H3.out; omega)
      obtain rfl := Option.some.inj e_hx2
      rw [Int.toNat_natCast] at hx2
      replace hx2 := (HB.out.cell (World.block_lt_of_cell? w _ hx2)).trans hx2
      rw [rd_app_at la lb (lb.length - 1) (by have := LB.out; have := H3.out; omega), HZ.out, show ad.add (la.length + (lb.length - 1)) = (ad.add la.length).add (lb.length - 1) from (add_add _ _ _).symm] at hx2
      obtain ⟨ad_hx3, e_hx3, hx3⟩ := Kd.at_int G1.out ((la.length + (1) : Nat) : Int) (by omega) (by rw [List.length_append]; have := LB.out; have := H3.out; omega)
      obtain rfl := Option.some.inj e_hx3
      rw [Int.toNat_natCast] at hx3
      replace hx3 := (HB.out.cell (World.block_lt_of_cell? w _ hx3)).trans hx3
      rw [rd_app_at la lb (1) (by have := LB.out; have := H3.out; omega), HY.out, show ad.add (la.length + (1)) = (⟨(ad.add la.length).block, (ad.add la.length).off + 1, none⟩ : Addr) from (by rw [← add_add]; unfold Addr.add; simp)] at hx3
      obtain ⟨ad_hx4, e_hx4, hx4⟩ := Kd.at_int G1.out ((la.length + (lb.length - 2) : Nat) : Int) (by omega) (by rw [List.length_append]; have := LB.out; have := H3.out; omega)
      obtain rfl := Option.some.inj e_hx4
      rw [Int.toNat_natCast] at hx4
      replace hx4 := (HB.out.cell (World.block_lt_of_cell? w _ hx4)).trans hx4
      rw [rd_app_at la lb (lb.length - 2) (by have := LB.out; have := H3.out; omega), HX.out, show ad.add (la.length + (lb.length - 2)) = (⟨(ad.add la.length).block, (ad.add la.length).off + 1 + (lb.length - 1 - 1 - 1), none⟩ : Addr) from (by rw [← add_add, addn _ _ (by have := H5.out; omega)]; congr 1; have := H5.out; omega)] at hx4
      have GQ0 := split_q la lb q G1.out HC.out H5.out HQQ.out
      have QL := Aside0.mk GQ0.1
      have GQ := Aside0.mk GQ0.2
      clear GQ0
      have q16 : (1 : Int) ≤ ((lb.length - 1 - 1 - 1 : Nat) : Int) := by have := H5.out; omega
      go_wp2_with (first
        | ((with_reducible refine gate_dst (N := 26) rfl ?_); refine gg (some 26) rfl rfl rfl frK1 ?_; refine onc (nameOk_b k _ c la true _ (cb GA) LA.out T.out) rfl ?_; rintro e w2 ⟨rfl, hb⟩; refine ⟨_, rfl, ?_⟩; replace hx2 := (hb.cell (World.block_lt_of_cell? _ _ hx2)).trans hx2; replace hx3 := (hb.cell (World.block_lt_of_cell? _ _ hx3)).trans hx3; replace hx4 := (hb.cell (World.block_lt_of_cell? _ _ hx4)).trans hx4; replace HB := Bw.sw w hb; clear hb; simp only [Act.put, List.setIfInBounds_toArray, List.set_cons_zero, List.set_cons_succ])
        | ((with_reducible refine gate_dst (N := 74) rfl ?_); refine ggw (some 74) rfl (by rfl) rfl frK1 ?_; refine onc (nameOk_b k _ (c - la.length - 1 - 1) q true _ (Kd.C_below GQ.out HB.out) (by have := QL.out; have := HC.out; have := H5.out; omega) TQ.out) (by rw [QL.out]; rfl) ?_; rintro e w3 ⟨rfl, hb⟩; refine ⟨_, rfl, ?_⟩; replace HB := Bw.sw w hb; clear hb; simp only [Act.put, List.setIfInBounds_toArray, List.set_cons_zero, List.set_cons_succ]))
      go_ret3
      exact ⟨.yes, HB.out⟩
set_option maxRecDepth 100000 in
set_option maxHeartbeats 8000000 in
theorem split_nlong (k : Nat) (A : Option Addr) (c : Nat) (la lb : List Int) (w : World) (hn : la.length + lb.length ≤ 1048576) (hc : la.length + lb.length ≤ c) (h : (Kd.int .u8).C w A (la ++ lb).length (la ++ lb)) (ha : ∀ i, i < la.length → la.getD i 0 ≠ 91) (l1 : 0 < lb.length) (h91 : lb.getD 0 0 = 91) (hf : spec_NameOk.f k la = some true) (h3 : 3 ≤ lb.length) (hz : lb.getD (lb.length - 1) 0 = 93) (y : Int) (hy : lb.getD 1 0 = y) (y34 : y ≠ 34) (h5 : 5 ≤ lb.length) : Calls Tryd.prog 34 #[.slice A (la.length + lb.length) c] w fun e w' => e = .returned (.tuple #[.slice none 0 0, .slice none 0 0, .bool false]) ∧ Below w.heap.size w w' := by
  have HC := Aside0.mk hc
  have G1 := Aside0.mk h
  have N0 := Aside0.mk ha
  have LA := Aside0.mk (show la.length ≤ c by omega)
  have GA := Aside0.mk (show (Kd.int .u8).C w A la.length la by have := Kd.C_take (m := la.length) h (by rw [List.length_append]; omega); rwa [List.take_left' rfl] at this)
  have HB := Bw.refl w
  clear h ha
  have LB := Aside0.mk l1
  have H91 := Aside0.mk h91
  clear l1 h91
  have T := Aside0.mk hf
  clear hf
  have H3 := Aside0.mk h3
  clear h3
  have HZ := Aside0.mk hz
  have HY := Aside0.mk hy
  clear hz hy
  have cy : (y == 34) = false := beq_eq_false_iff_ne.mpr y34
  clear y34
  have H5 := Aside0.mk h5
  clear h5
  go_enter Tryd.func34, Tryd.ntmps34
  go_wp2
  go_loopg [5] la.length (fun kq v5 wr => ∃ i : Nat, v5 = .int .i64 (i : Int) ∧ Aside0 (kq + i = la.length) ∧ Bw w wr)
  case atStart => exact ⟨0, rfl, ⟨rfl⟩, HB⟩
  case round =>
  clear HB
  obtain ⟨i, rfl, HK, HB⟩ := hrel
  cases gk with
  | succ k1 =>
    have hi : i < la.length := by have := HK.out; omega
    obtain ⟨ad, e9, hx⟩ := Kd.at_int G1.out (i : Int) (by omega) (by rw [List.length_append]; omega)
    cases e9
    rw [Int.toNat_natCast] at hx
    replace hx := (HB.out.cell (World.block_lt_of_cell? w _ hx)).trans hx
    rw [rd_app_l la lb i hi] at hx
    have hx9 := N0.out i hi
    have cb9 : (la.getD i 0 != 91) = true := bne_iff_ne.mpr hx9
    have ci : decide ((i : Int) < ((la.length + lb.length : Nat) : Int)) = true := decide_eq_true (by omega)
    generalize la.getD i 0 = z at hx cb9 hx9
    have q1 : (0 : Int) ≤ (i : Int) := by omega
    have q2 : (i : Int) < (la.length : Int) + (lb.length : Int) := by omega
    go_wp2
    go_roundg k1
    case measure => omega
    case rel => exact ⟨i + 1, (by first | rfl | (simp; done) | (simp [*]; done)), ⟨by have := HK.out; omega⟩, HB⟩
  | zero =>
    have hi : i = la.length := by have := HK.out; omega
    subst hi
    clear HK
    obtain ⟨ad, e9, hx⟩ := Kd.at_int G1.out (la.length : Int) (by omega) (by rw [List.length_append]; have := LB.out; omega)
    cases e9
    rw [Int.toNat_natCast] at hx
    replace hx := (HB.out.cell (World.block_lt_of_cell? w _ hx)).trans hx
    rw [rd_app_r la lb LB.out, H91.out] at hx
    have ci : decide ((la.length : Int) < ((la.length + lb.length : Nat) : Int)) = true := decide_eq_true (by have := LB.out; omega)
    have q1 : (0 : Int) ≤ (la.length : Int) := by omega
    have q2 : (la.length : Int) < (la.length : Int) + (lb.length : Int) := by have := LB.out; omega
    have hck : ¬ c = la.length := by have := LB.out; have := HC.out; omega
    have q3 := eq_true LB.out
    have q7 : 1 ≤ lb.length - 1 := by have := H3.out; omega
    have q8 := eq_true (show 0 < lb.length - 1 - 1 by have := H3.out; omega)
    have q9 : (1 : Int) ≤ (lb.length : Int) - 1 := by have := H3.out; omega
    have q10 : (lb.length : Int) - 1 ≤ ((c - la.length : Nat) : Int) := by have := H3.out; have := HC.out; omega
    have q11 : lb.length - 1 ≤ c - la.length := by have := HC.out; omega
    have c3 : decide ((lb.length : Int) < 3) = false := decide_eq_false (by have := H3.out; omega)
    have c0 : ((lb.length : Int) == 0) = false := beq_eq_false_iff_ne.mpr (by have := LB.out; omega)
    obtain ⟨ad_hx2, e_hx2, hx2⟩ := Kd.at_int G1.out ((la.length + (lb.length - 1) : Nat) : Int) (by omega) (by rw [List.length_append]; have := LB.out; have := H3.out; omega)
    obtain rfl := Option.some.inj e_hx2
    rw [Int.toNat_natCast] at hx2
    replace hx2 := (HB.out.cell (World.block_lt_of_cell? w _ hx2)).trans hx2
    rw [rd_app_at la lb (lb.length - 1) (by have := LB.out; have := H3.out; omega), HZ.out, show ad.add (la.length + (lb.length - 1)) = (ad.add la.length).add (lb.length - 1) from (add_add _ _ _).symm] at hx2
    obtain ⟨ad_hx3, e_hx3, hx3⟩ := Kd.at_int G1.out ((la.length + (1) : Nat) : Int) (by omega) (by rw [List.length_append]; have := LB.out; have := H3.out; omega)
    obtain rfl := Option.some.inj e_hx3
    rw [Int.toNat_natCast] at hx3
    replace hx3 := (HB.out.cell (World.block_lt_of_cell? w _ hx3)).trans hx3
    rw [rd_app_at la lb (1) (by have := LB.out; have := H3.out; omega), HY.out, show ad.add (la.length + (1)) = (⟨(ad.add la.length).block, (ad.add la.length).off + 1, none⟩ : Addr) from (by rw [← add_add]; unfold Addr.add; simp)] at hx3
    have c6 : decide ((2 : Int) < ((lb.length - 1 - 1 : Nat) : Int)) = true := decide_eq_true (by have := H5.out; omega)
    go_wp2_with (first
      | ((with_reducible refine gate_dst (N := 26) rfl ?_); refine gg (some 26) rfl rfl rfl frK1 ?_; refine onc (nameOk_b k _ c la true _ (cb GA) LA.out T.out) rfl ?_; rintro e w2 ⟨rfl, hb⟩; refine ⟨_, rfl, ?_⟩; replace hx2 := (hb.cell (World.block_lt_of_cell? _ _ hx2)).trans hx2; replace hx3 := (hb.cell (World.block_lt_of_cell? _ _ hx3)).trans hx3; replace HB := Bw.sw w hb; clear hb; simp only [Act.put, List.setIfInBounds_toArray, List.set_cons_zero, List.set_cons_succ]))
    go_ret3
    exact ⟨rfl, HB.out⟩
set_option maxRecDepth 100000 in
set_option maxHeartbeats 8000000 in
theorem split_nzero (k : Nat) (A : Option Addr) (c : Nat) (la lb : List Int) (w : World) (hn : la.length + lb.length ≤ 1048576) (hc : la.length + lb.length ≤ c) (h : (Kd.int .u8).C w A (la ++ lb).length (la ++ lb)) (ha : ∀ i, i < la.length → la.getD i 0 ≠ 91) (l1 : 0 < lb.length) (h91 : lb.getD 0 0 = 91) (hf : spec_NameOk.f k la = some true) (h3 : 3 ≤ lb.length) (hz : lb.getD (lb.length - 1) 0 = 93) (y : Int) (hy : lb.getD 1 0 = y) (y34 : y ≠ 34) (h4 : lb.length = 4) (y48 : y = 48) : Calls Tryd.prog 34 #[.slice A (la.length + lb.length) c] w fun e w' => e = .returned (.tuple #[.slice none 0 0, .slice none 0 0, .bool false]) ∧ Below w.heap.size w w' := by
  have HC := Aside0.mk hc
  have G1 := Aside0.mk h
  have N0 := Aside0.mk ha
  have LA := Aside0.mk (show la.length ≤ c by omega)
  have GA := Aside0.mk (show (Kd.int .u8).C w A la.length la by have := Kd.C_take (m := la.length) h (by rw [List.length_append]; omega); rwa [List.take_left' rfl] at this)
  have HB := Bw.refl w
  clear h ha
  have LB := Aside0.mk l1
  have H91 := Aside0.mk h91
  clear l1 h91
  have T := Aside0.mk hf
  clear hf
  have H3 := Aside0.mk h3
  clear h3
  have HZ := Aside0.mk hz
  have HY := Aside0.mk hy
  clear hz hy
  have cy : (y == 34) = false := beq_eq_false_iff_ne.mpr y34
  clear y34
  have H4 := Aside0.mk h4
  have cz : (y == 48) = true := beq_iff_eq.mpr y48
  clear h4 y48
  go_enter Tryd.func34, Tryd.ntmps34
  go_wp2
  go_loopg [5] la.length (fun kq v5 wr => ∃ i : Nat, v5 = .int .i64 (i : Int) ∧ Aside0 (kq + i = la.length) ∧ Bw w wr)
  case atStart => exact ⟨0, rfl, ⟨rfl⟩, HB⟩
  case round =>
  clear HB
  obtain ⟨i, rfl, HK, HB⟩ := hrel
  cases gk with
  | succ k1 =>
    have hi : i < la.length := by have := HK.out; omega
    obtain ⟨ad, e9, hx⟩ := Kd.at_int G1.out (i : Int) (by omega) (by rw [List.length_append]; omega)
    cases e9
    rw [Int.toNat_natCast] at hx
    replace hx := (HB.out.cell (World.block_lt_of_cell? w _ hx)).trans hx
    rw [rd_app_l la lb i hi] at hx
    have hx9 := N0.out i hi
    have cb9 : (la.getD i 0 != 91) = true := bne_iff_ne.mpr hx9
    have ci : decide ((i : Int) < ((la.length + lb.length : Nat) : Int)) = true := decide_eq_true (by omega)
    generalize la.getD i 0 = z at hx cb9 hx9
    have q1 : (0 : Int) ≤ (i : Int) := by omega
    have q2 : (i : Int) < (la.length : Int) + (lb.length : Int) := by omega
    go_wp2
    go_roundg k1
    case measure => omega
    case rel => exact ⟨i + 1, (by first | rfl | (simp; done) | (simp [*]; done)), ⟨by have := HK.out; omega⟩, HB⟩
  | zero =>
    have hi : i = la.length := by have := HK.out; omega
    subst hi
    clear HK
    obtain ⟨ad, e9, hx⟩ := Kd.at_int G1.out (la.length : Int) (by omega) (by rw [List.length_append]; have := LB.out; omega)
    cases e9
    rw [Int.toNat_natCast] at hx
    replace hx := (HB.out.cell (World.block_lt_of_cell? w _ hx)).trans hx
    rw [rd_app_r la lb LB.out, H91.out] at hx
    have ci : decide ((la.length : Int) < ((la.length + lb.length : Nat) : Int)) = true := decide_eq_true (by have := LB.out; omega)
    have q1 : (0 : Int) ≤ (la.length : Int) := by omega
    have q2 : (la.length : Int) < (la.length : Int) + (lb.length : Int) := by have := LB.out; omega
    have hck : ¬ c = la.length := by have := LB.out; have := HC.out; omega
    have q3 := eq_true LB.out
    have q7 : 1 ≤ lb.length - 1 := by have := H3.out; omega
    have q8 := eq_true (show 0 < lb.length - 1 - 1 by have := H3.out; omega)
    have q9 : (1 : Int) ≤ (lb.length : Int) - 1 := by have := H3.out; omega
    have q10 : (lb.length : Int) - 1 ≤ ((c - la.length : Nat) : Int) := by have := H3.out; have := HC.out; omega
    have q11 : lb.length - 1 ≤ c - la.length := by have := HC.out; omega
    have c3 : decide ((lb.length : Int) < 3) = false := decide_eq_false (by have := H3.out; omega)
    have c0 : ((lb.length : Int) == 0) = false := beq_eq_false_iff_ne.mpr (by have := LB.out; omega)
    obtain ⟨ad_hx2, e_hx2, hx2⟩ := Kd.at_int G1.out ((la.length + (lb.length - 1) : Nat) : Int) (by omega) (by rw [List.length_append]; have := LB.out; have := H3.out; omega)
    obtain rfl := Option.some.inj e_hx2
    rw [Int.toNat_natCast] at hx2
    replace hx2 := (HB.out.cell (World.block_lt_of_cell? w _ hx2)).trans hx2
    rw [rd_app_at la lb (lb.length - 1) (by have := LB.out; have := H3.out; omega), HZ.out, show ad.add (la.length + (lb.length - 1)) = (ad.add la.length).add (lb.length - 1) from (add_add _ _ _).symm] at hx2
    obtain ⟨ad_hx3, e_hx3, hx3⟩ := Kd.at_int G1.out ((la.length + (1) : Nat) : Int) (by omega) (by rw [List.length_append]; have := LB.out; have := H3.out; omega)
    obtain rfl := Option.some.inj e_hx3
    rw [Int.toNat_natCast] at hx3
    replace hx3 := (HB.out.cell (World.block_lt_of_cell? w _ hx3)).trans hx3
    rw [rd_app_at la lb (1) (by have := LB.out; have := H3.out; omega), HY.out, show ad.add (la.length + (1)) = (⟨(ad.add la.length).block, (ad.add la.length).off + 1, none⟩ : Addr) from (by rw [← add_add]; unfold Addr.add; simp)] at hx3
    have c6 : decide ((2 : Int) < ((lb.length - 1 - 1 : Nat) : Int)) = false := decide_eq_false (by have := H4.out; omega)
    have c7 : (((lb.length - 1 - 1 : Nat) : Int) == 2) = true := beq_iff_eq.mpr (by have := H4.out; omega)
    go_wp2_with (first
      | ((with_reducible refine gate_dst (N := 26) rfl ?_); refine gg (some 26) rfl rfl rfl frK1 ?_; refine onc (nameOk_b k _ c la true _ (cb GA) LA.out T.out) rfl ?_; rintro e w2 ⟨rfl, hb⟩; refine ⟨_, rfl, ?_⟩; replace hx2 := (hb.cell (World.block_lt_of_cell? _ _ hx2)).trans hx2; replace hx3 := (hb.cell (World.block_lt_of_cell? _ _ hx3)).trans hx3; replace HB := Bw.sw w hb; clear hb; simp only [Act.put, List.setIfInBounds_toArray, List.set_cons_zero, List.set_cons_succ]))
    go_ret3
    exact ⟨rfl, HB.out⟩
/-- d digits from place k + 1 on. -/
def dig (lb : List Int) : Nat → Nat → Bool
  | 0, _ => true
  | d + 1, k => decide (48 ≤ lb.getD (1 + k) 0 ∧ lb.getD (1 + k) 0 ≤ 57) && dig lb d (k + 1)
set_option maxRecDepth 100000 in
set_option maxHeartbeats 8000000 in
theorem split_n1 (k : Nat) (A : Option Addr) (c : Nat) (la lb : List Int) (w : World) (hn : la.length + lb.length ≤ 1048576) (hc : la.length + lb.length ≤ c) (h : (Kd.int .u8).C w A (la ++ lb).length (la ++ lb)) (ha : ∀ i, i < la.length → la.getD i 0 ≠ 91) (l1 : 0 < lb.length) (h91 : lb.getD 0 0 = 91) (hf : spec_NameOk.f k la = some true) (h3 : 3 ≤ lb.length) (hz : lb.getD (lb.length - 1) 0 = 93) (y : Int) (hy : lb.getD 1 0 = y) (y34 : y ≠ 34) (h4 : lb.length = 3) (r : Bool) (hr : dig lb (lb.length - 2) 0 = r) : Calls Tryd.prog 34 #[.slice A (la.length + lb.length) c] w fun e w' => SpPost A la c r e ∧ Below w.heap.size w w' := by
  have HC := Aside0.mk hc
  have G1 := Aside0.mk h
  have N0 := Aside0.mk ha
  have LA := Aside0.mk (show la.length ≤ c by omega)
  have GA := Aside0.mk (show (Kd.int .u8).C w A la.length la by have := Kd.C_take (m := la.length) h (by rw [List.length_append]; omega); rwa [List.take_left' rfl] at this)
  have HB := Bw.refl w
  clear h ha
  have LB := Aside0.mk l1
  have H91 := Aside0.mk h91
  clear l1 h91
  have T := Aside0.mk hf
  clear hf
  have H3 := Aside0.mk h3
  clear h3
  have HZ := Aside0.mk hz
  have HY := Aside0.mk hy
  clear hz hy
  have cy : (y == 34) = false := beq_eq_false_iff_ne.mpr y34
  clear y34
  have H4 := Aside0.mk h4
  have HR := Aside0.mk hr
  clear hr h4
  go_enter Tryd.func34, Tryd.ntmps34
  go_wp2
  go_loopg [5] la.length (fun kq v5 wr => ∃ i : Nat, v5 = .int .i64 (i : Int) ∧ Aside0 (kq + i = la.length) ∧ Bw w wr)
  case atStart => exact ⟨0, rfl, ⟨rfl⟩, HB⟩
  case round =>
  clear HB
  obtain ⟨i, rfl, HK, HB⟩ := hrel
  cases gk with
  | succ k1 =>
    have hi : i < la.length := by have := HK.out; omega
    obtain ⟨ad, e9, hx⟩ := Kd.at_int G1.out (i : Int) (by omega) (by rw [List.length_append]; omega)
    cases e9
    rw [Int.toNat_natCast] at hx
    replace hx := (HB.out.cell (World.block_lt_of_cell? w _ hx)).trans hx
    rw [rd_app_l la lb i hi] at hx
    have hx9 := N0.out i hi
    have cb9 : (la.getD i 0 != 91) = true := bne_iff_ne.mpr hx9
    have ci : decide ((i : Int) < ((la.length + lb.length : Nat) : Int)) = true := decide_eq_true (by omega)
    generalize la.getD i 0 = z at hx cb9 hx9
    have q1 : (0 : Int) ≤ (i : Int) := by omega
    have q2 : (i : Int) < (la.length : Int) + (lb.length : Int) := by omega
    go_wp2
    go_roundg k1
    case measure => omega
    case rel => exact ⟨i + 1, (by first | rfl | (simp; done) | (simp [*]; done)), ⟨by have := HK.out; omega⟩, HB⟩
  | zero =>
    have hi : i = la.length := by have := HK.out; omega
    subst hi
    clear HK
    obtain ⟨ad, e9, hx⟩ := Kd.at_int G1.out (la.length : Int) (by omega) (by rw [List.length_append]; have := LB.out; omega)
    cases e9
    rw [Int.toNat_natCast] at hx
    replace hx := (HB.out.cell (World.block_lt_of_cell? w _ hx)).trans hx
    rw [rd_app_r la lb LB.out, H91.out] at hx
    have ci : decide ((la.length : Int) < ((la.length + lb.length : Nat) : Int)) = true := decide_eq_true (by have := LB.out; omega)
    have q1 : (0 : Int) ≤ (la.length : Int) := by omega
    have q2 : (la.length : Int) < (la.length : Int) + (lb.length : Int) := by have := LB.out; omega
    have hck : ¬ c = la.length := by have := LB.out; have := HC.out; omega
    have q3 := eq_true LB.out
    have q7 : 1 ≤ lb.length - 1 := by have := H3.out; omega
    have q8 := eq_true (show 0 < lb.length - 1 - 1 by have := H3.out; omega)
    have q9 : (1 : Int) ≤ (lb.length : Int) - 1 := by have := H3.out; omega
    have q10 : (lb.length : Int) - 1 ≤ ((c - la.length : Nat) : Int) := by have := H3.out; have := HC.out; omega
    have q11 : lb.length - 1 ≤ c - la.length := by have := HC.out; omega
    have c3 : decide ((lb.length : Int) < 3) = false := decide_eq_false (by have := H3.out; omega)
    have c0 : ((lb.length : Int) == 0) = false := beq_eq_false_iff_ne.mpr (by have := LB.out; omega)
    obtain ⟨ad_hx2, e_hx2, hx2⟩ := Kd.at_int G1.out ((la.length + (lb.length - 1) : Nat) : Int) (by omega) (by rw [List.length_append]; have := LB.out; have := H3.out; omega)
    obtain rfl := Option.some.inj e_hx2
    rw [Int.toNat_natCast] at hx2
    replace hx2 := (HB.out.cell (World.block_lt_of_cell? w _ hx2)).trans hx2
    rw [rd_app_at la lb (lb.length - 1) (by have := LB.out; have := H3.out; omega), HZ.out, show ad.add (la.length + (lb.length - 1)) = (ad.add la.length).add (lb.length - 1) from (add_add _ _ _).symm] at hx2
    obtain ⟨ad_hx3, e_hx3, hx3⟩ := Kd.at_int G1.out ((la.length + (1) : Nat) : Int) (by omega) (by rw [List.length_append]; have := LB.out; have := H3.out; omega)
    obtain rfl := Option.some.inj e_hx3
    rw [Int.toNat_natCast] at hx3
    replace hx3 := (HB.out.cell (World.block_lt_of_cell? w _ hx3)).trans hx3
    rw [rd_app_at la lb (1) (by have := LB.out; have := H3.out; omega), HY.out, show ad.add (la.length + (1)) = (⟨(ad.add la.length).block, (ad.add la.length).off + 1, none⟩ : Addr) from (by rw [← add_add]; unfold Addr.add; simp)] at hx3
    have c6 : decide ((2 : Int) < ((lb.length - 1 - 1 : Nat) : Int)) = false := decide_eq_false (by have := H4.out; omega)
    have c7 : (((lb.length - 1 - 1 : Nat) : Int) == 2) = false := beq_eq_false_iff_ne.mpr (by have := H4.out; omega)
    go_wp2_with (first
      | ((with_reducible refine gate_dst (N := 26) rfl ?_); refine gg (some 26) rfl rfl rfl frK1 ?_; refine onc (nameOk_b k _ c la true _ (cb GA) LA.out T.out) rfl ?_; rintro e w2 ⟨rfl, hb⟩; refine ⟨_, rfl, ?_⟩; replace hx2 := (hb.cell (World.block_lt_of_cell? _ _ hx2)).trans hx2; replace hx3 := (hb.cell (World.block_lt_of_cell? _ _ hx3)).trans hx3; replace HB := Bw.sw w hb; clear hb; simp only [Act.put, List.setIfInBounds_toArray, List.set_cons_zero, List.set_cons_succ]))
    go_loopg [9] (lb.length - 2) (fun kq v9 wr2 => ∃ k : Nat, v9 = .int .i64 (k : Int) ∧ Aside0 (kq + k = lb.length - 2) ∧ Aside0 (dig lb kq k = r) ∧ Bw w wr2)
    case atStart => exact ⟨0, rfl, ⟨rfl⟩, HR, HB⟩
    case round =>
    clear HB hx hx2 hx3
    obtain ⟨k9, rfl, HK, HD, HB⟩ := hrel
    cases gk with
    | succ k1 =>
      have hk := HK.out
      have l3 := H3.out
      have hkb : k9 < 1048576 := by omega
      have hd := HD.out
      rw [dig] at hd
      obtain ⟨z, HZZ⟩ : ∃ z, lb.getD (1 + k9) 0 = z := ⟨_, rfl⟩
      rw [HZZ] at hd
      obtain ⟨ad_hx4, e_hx4, hx4⟩ := Kd.at_int G1.out ((la.length + (1 + k9) : Nat) : Int) (by omega) (by rw [List.length_append]; omega)
      obtain rfl := Option.some.inj e_hx4
      rw [Int.toNat_natCast] at hx4
      replace hx4 := (HB.out.cell (World.block_lt_of_cell? w _ hx4)).trans hx4
      rw [rd_app_at la lb (1 + k9) (by omega), HZZ, show ad.add (la.length + (1 + k9)) = (⟨(ad.add la.length).block, (ad.add la.length).off + 1 + k9, none⟩ : Addr) from (by rw [← add_add, addn _ _ (by omega)]; congr 1; omega)] at hx4
      clear HZZ
      have cK : decide ((k9 : Int) < ((lb.length - 1 - 1 : Nat) : Int)) = true := decide_eq_true (by omega)
      have qK := eq_true (show k9 < lb.length - 1 - 1 by omega)
      have qK1 := eq_true (show (k9 : Int) < ((lb.length - 1 - 1 : Nat) : Int) by omega)
      by_cases cz1 : z < 48
      · obtain rfl : false = r := by rw [← hd, decide_eq_false (fun q => by omega)]; rfl
        have cb1 : decide (z < 48) = true := decide_eq_true cz1
        clear hd hk l3 cz1
        go_wp2
        go_ret3
        exact ⟨.no, HB.out⟩
      · have cb1 : decide (z < 48) = false := decide_eq_false cz1
        by_cases cz2 : 57 < z
        · obtain rfl : false = r := by rw [← hd, decide_eq_false (fun q => by omega)]; rfl
          have cb2 : decide (57 < z) = true := decide_eq_true cz2
          clear hd hk l3 cz1 cz2
          go_wp2
          go_ret3
          exact ⟨.no, HB.out⟩
        · have cb2 : decide (57 < z) = false := decide_eq_false cz2
          rw [decide_eq_true (show 48 ≤ z ∧ z ≤ 57 by omega), Bool.true_and] at hd
          have HD2 := Aside0.mk hd
          clear hd hk l3 cz1 cz2
          go_wp2
          go_roundg k1
          case measure => omega
          case rel => exact ⟨k9 + 1, (by first | rfl | (simp; done) | (simp [*]; done)), ⟨by have := HK.out; omega⟩, HD2, HB⟩
    | zero =>
      obtain rfl : true = r := HD.out
      have hk : k9 = lb.length - 1 - 1 := by have := HK.out; omega
      subst hk
      clear HK HD
      have cK : decide (((lb.length - 1 - 1 : Nat) : Int) < ((lb.length - 1 - 1 : Nat) : Int)) = false := decide_eq_false (by omega)
      go_wp2
      go_ret3
      exact ⟨.yes, HB.out⟩
set_option maxRecDepth 100000 in
set_option maxHeartbeats 8000000 in
theorem split_n2 (k : Nat) (A : Option Addr) (c : Nat) (la lb : List Int) (w : World) (hn : la.length + lb.length ≤ 1048576) (hc : la.length + lb.length ≤ c) (h : (Kd.int .u8).C w A (la ++ lb).length (la ++ lb)) (ha : ∀ i, i < la.length → la.getD i 0 ≠ 91) (l1 : 0 < lb.length) (h91 : lb.getD 0 0 = 91) (hf : spec_NameOk.f k la = some true) (h3 : 3 ≤ lb.length) (hz : lb.getD (lb.length - 1) 0 = 93) (y : Int) (hy : lb.getD 1 0 = y) (y34 : y ≠ 34) (h4 : lb.length = 4) (y48 : y ≠ 48) (r : Bool) (hr : dig lb (lb.length - 2) 0 = r) : Calls Tryd.prog 34 #[.slice A (la.length + lb.length) c] w fun e w' => SpPost A la c r e ∧ Below w.heap.size w w' := by
  have HC := Aside0.mk hc
  have G1 := Aside0.mk h
  have N0 := Aside0.mk ha
  have LA := Aside0.mk (show la.length ≤ c by omega)
  have GA := Aside0.mk (show (Kd.int .u8).C w A la.length la by have := Kd.C_take (m := la.length) h (by rw [List.length_append]; omega); rwa [List.take_left' rfl] at this)
  have HB := Bw.refl w
  clear h ha
  have LB := Aside0.mk l1
  have H91 := Aside0.mk h91
  clear l1 h91
  have T := Aside0.mk hf
  clear hf
  have H3 := Aside0.mk h3
  clear h3
  have HZ := Aside0.mk hz
  have HY := Aside0.mk hy
  clear hz hy
  have cy : (y == 34) = false := beq_eq_false_iff_ne.mpr y34
  clear y34
  have H4 := Aside0.mk h4
  have HR := Aside0.mk hr
  clear hr h4
  have cz : (y == 48) = false := beq_eq_false_iff_ne.mpr y48
  clear y48
  go_enter Tryd.func34, Tryd.ntmps34
  go_wp2
  go_loopg [5] la.length (fun kq v5 wr => ∃ i : Nat, v5 = .int .i64 (i : Int) ∧ Aside0 (kq + i = la.length) ∧ Bw w wr)
  case atStart => exact ⟨0, rfl, ⟨rfl⟩, HB⟩
  case round =>
  clear HB
  obtain ⟨i, rfl, HK, HB⟩ := hrel
  cases gk with
  | succ k1 =>
    have hi : i < la.length := by have := HK.out; omega
    obtain ⟨ad, e9, hx⟩ := Kd.at_int G1.out (i : Int) (by omega) (by rw [List.length_append]; omega)
    cases e9
    rw [Int.toNat_natCast] at hx
    replace hx := (HB.out.cell (World.block_lt_of_cell? w _ hx)).trans hx
    rw [rd_app_l la lb i hi] at hx
    have hx9 := N0.out i hi
    have cb9 : (la.getD i 0 != 91) = true := bne_iff_ne.mpr hx9
    have ci : decide ((i : Int) < ((la.length + lb.length : Nat) : Int)) = true := decide_eq_true (by omega)
    generalize la.getD i 0 = z at hx cb9 hx9
    have q1 : (0 : Int) ≤ (i : Int) := by omega
    have q2 : (i : Int) < (la.length : Int) + (lb.length : Int) := by omega
    go_wp2
    go_roundg k1
    case measure => omega
    case rel => exact ⟨i + 1, (by first | rfl | (simp; done) | (simp [*]; done)), ⟨by have := HK.out; omega⟩, HB⟩
  | zero =>
    have hi : i = la.length := by have := HK.out; omega
    subst hi
    clear HK
    obtain ⟨ad, e9, hx⟩ := Kd.at_int G1.out (la.length : Int) (by omega) (by rw [List.length_append]; have := LB.out; omega)
    cases e9
    rw [Int.toNat_natCast] at hx
    replace hx := (HB.out.cell (World.block_lt_of_cell? w _ hx)).trans hx
    rw [rd_app_r la lb LB.out, H91.out] at hx
    have ci : decide ((la.length : Int) < ((la.length + lb.length : Nat) : Int)) = true := decide_eq_true (by have := LB.out; omega)
    have q1 : (0 : Int) ≤ (la.length : Int) := by omega
    have q2 : (la.length : Int) < (la.length : Int) + (lb.length : Int) := by have := LB.out; omega
    have hck : ¬ c = la.length := by have := LB.out; have := HC.out; omega
    have q3 := eq_true LB.out
    have q7 : 1 ≤ lb.length - 1 := by have := H3.out; omega
    have q8 := eq_true (show 0 < lb.length - 1 - 1 by have := H3.out; omega)
    have q9 : (1 : Int) ≤ (lb.length : Int) - 1 := by have := H3.out; omega
    have q10 : (lb.length : Int) - 1 ≤ ((c - la.length : Nat) : Int) := by have := H3.out; have := HC.out; omega
    have q11 : lb.length - 1 ≤ c - la.length := by have := HC.out; omega
    have c3 : decide ((lb.length : Int) < 3) = false := decide_eq_false (by have := H3.out; omega)
    have c0 : ((lb.length : Int) == 0) = false := beq_eq_false_iff_ne.mpr (by have := LB.out; omega)
    obtain ⟨ad_hx2, e_hx2, hx2⟩ := Kd.at_int G1.out ((la.length + (lb.length - 1) : Nat) : Int) (by omega) (by rw [List.length_append]; have := LB.out; have := H3.out; omega)
    obtain rfl := Option.some.inj e_hx2
    rw [Int.toNat_natCast] at hx2
    replace hx2 := (HB.out.cell (World.block_lt_of_cell? w _ hx2)).trans hx2
    rw [rd_app_at la lb (lb.length - 1) (by have := LB.out; have := H3.out; omega), HZ.out, show ad.add (la.length + (lb.length - 1)) = (ad.add la.length).add (lb.length - 1) from (add_add _ _ _).symm] at hx2
    obtain ⟨ad_hx3, e_hx3, hx3⟩ := Kd.at_int G1.out ((la.length + (1) : Nat) : Int) (by omega) (by rw [List.length_append]; have := LB.out; have := H3.out; omega)
    obtain rfl := Option.some.inj e_hx3
    rw [Int.toNat_natCast] at hx3
    replace hx3 := (HB.out.cell (World.block_lt_of_cell? w _ hx3)).trans hx3
    rw [rd_app_at la lb (1) (by have := LB.out; have := H3.out; omega), HY.out, show ad.add (la.length + (1)) = (⟨(ad.add la.length).block, (ad.add la.length).off + 1, none⟩ : Addr) from (by rw [← add_add]; unfold Addr.add; simp)] at hx3
    have c6 : decide ((2 : Int) < ((lb.length - 1 - 1 : Nat) : Int)) = false := decide_eq_false (by have := H4.out; omega)
    have c7 : (((lb.length - 1 - 1 : Nat) : Int) == 2) = true := beq_iff_eq.mpr (by have := H4.out; omega)
    go_wp2_with (first
      | ((with_reducible refine gate_dst (N := 26) rfl ?_); refine gg (some 26) rfl rfl rfl frK1 ?_; refine onc (nameOk_b k _ c la true _ (cb GA) LA.out T.out) rfl ?_; rintro e w2 ⟨rfl, hb⟩; refine ⟨_, rfl, ?_⟩; replace hx2 := (hb.cell (World.block_lt_of_cell? _ _ hx2)).trans hx2; replace hx3 := (hb.cell (World.block_lt_of_cell? _ _ hx3)).trans hx3; replace HB := Bw.sw w hb; clear hb; simp only [Act.put, List.setIfInBounds_toArray, List.set_cons_zero, List.set_cons_succ]))
    go_loopg [9] (lb.length - 2) (fun kq v9 wr2 => ∃ k : Nat, v9 = .int .i64 (k : Int) ∧ Aside0 (kq + k = lb.length - 2) ∧ Aside0 (dig lb kq k = r) ∧ Bw w wr2)
    case atStart => exact ⟨0, rfl, ⟨rfl⟩, HR, HB⟩
    case round =>
    clear HB hx hx2 hx3
    obtain ⟨k9, rfl, HK, HD, HB⟩ := hrel
    cases gk with
    | succ k1 =>
      have hk := HK.out
      have l3 := H3.out
      have hkb : k9 < 1048576 := by omega
      have hd := HD.out
      rw [dig] at hd
      obtain ⟨z, HZZ⟩ : ∃ z, lb.getD (1 + k9) 0 = z := ⟨_, rfl⟩
      rw [HZZ] at hd
      obtain ⟨ad_hx4, e_hx4, hx4⟩ := Kd.at_int G1.out ((la.length + (1 + k9) : Nat) : Int) (by omega) (by rw [List.length_append]; omega)
      obtain rfl := Option.some.inj e_hx4
      rw [Int.toNat_natCast] at hx4
      replace hx4 := (HB.out.cell (World.block_lt_of_cell? w _ hx4)).trans hx4
      rw [rd_app_at la lb (1 + k9) (by omega), HZZ, show ad.add (la.length + (1 + k9)) = (⟨(ad.add la.length).block, (ad.add la.length).off + 1 + k9, none⟩ : Addr) from (by rw [← add_add, addn _ _ (by omega)]; congr 1; omega)] at hx4
      clear HZZ
      have cK : decide ((k9 : Int) < ((lb.length - 1 - 1 : Nat) : Int)) = true := decide_eq_true (by omega)
      have qK := eq_true (show k9 < lb.length - 1 - 1 by omega)
      have qK1 := eq_true (show (k9 : Int) < ((lb.length - 1 - 1 : Nat) : Int) by omega)
      by_cases cz1 : z < 48
      · obtain rfl : false = r := by rw [← hd, decide_eq_false (fun q => by omega)]; rfl
        have cb1 : decide (z < 48) = true := decide_eq_true cz1
        clear hd hk l3 cz1
        go_wp2
        go_ret3
        exact ⟨.no, HB.out⟩
      · have cb1 : decide (z < 48) = false := decide_eq_false cz1
        by_cases cz2 : 57 < z
        · obtain rfl : false = r := by rw [← hd, decide_eq_false (fun q => by omega)]; rfl
          have cb2 : decide (57 < z) = true := decide_eq_true cz2
          clear hd hk l3 cz1 cz2
          go_wp2
          go_ret3
          exact ⟨.no, HB.out⟩
        · have cb2 : decide (57 < z) = false := decide_eq_false cz2
          rw [decide_eq_true (show 48 ≤ z ∧ z ≤ 57 by omega), Bool.true_and] at hd
          have HD2 := Aside0.mk hd
          clear hd hk l3 cz1 cz2
          go_wp2
          go_roundg k1
          case measure => omega
          case rel => exact ⟨k9 + 1, (by first | rfl | (simp; done) | (simp [*]; done)), ⟨by have := HK.out; omega⟩, HD2, HB⟩
    | zero =>
      obtain rfl : true = r := HD.out
      have hk : k9 = lb.length - 1 - 1 := by have := HK.out; omega
      subst hk
      clear HK HD
      have cK : decide (((lb.length - 1 - 1 : Nat) : Int) < ((lb.length - 1 - 1 : Nat) : Int)) = false := decide_eq_false (by omega)
      go_wp2
      go_ret3
      exact ⟨.yes, HB.out⟩
end Go.Proofs.YtockllljeeakaaaDoor.PFnExactAddrName
