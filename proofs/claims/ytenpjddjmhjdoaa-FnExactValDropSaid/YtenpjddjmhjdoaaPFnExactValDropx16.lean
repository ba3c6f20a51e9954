/- What a function comes to, walked by hand. No condition. -/
import Derived.Test.YtenpjddjmhjdoaaPFnExactValDropx0
import Derived.Test.YtenpjddjmhjdoaaPFnExactValDropx7
import Derived.Test.YtenpjddjmhjdoaaPFnExactValDropx8
import Derived.Test.YtenpjddjmhjdoaaPFnExactValDropx9
import Derived.Test.YtenpjddjmhjdoaaPFnExactValDropx10
import Derived.Test.YtenpjddjmhjdoaaPFnExactValDropx12
import Derived.Test.YtenpjddjmhjdoaaPFnExactValDropx13
import Derived.Test.YtenpjddjmhjdoaaPFnExactValDropx14
import Derived.Test.YtenpjddjmhjdoaaPFnExactValDropx15
import Derived.Test.YtenpjddjmhjdoaaMdel
import Derived.Test.YtenpjddjmhjdoaaMkx
namespace Go.Proofs.Ytenpjddjmhjdoaa.PFnExactValDrop
open Go.RowKit Go.Proofs.YtenpjddjmhjdoaaW.PrintWords Go.Proofs.YtenpjddjmhjdoaaW.PrintLast Go.Proofs.YtenpjddjmhjdoaaW.PrintMore Go.Proofs.Ytenpjddjmhjdoaa.M
attribute [local go_sem] max2_int min2_int max_two min_two max_three min_three max_four min_four Go.Proofs.Ytenpjddjmhjdoaa.M.str_gtr Go.Proofs.Ytenpjddjmhjdoaa.M.str_leq Go.Proofs.Ytenpjddjmhjdoaa.M.str_geq   -- for this text's walks alone
set_option linter.unusedVariables false
set_option linter.unusedSimpArgs false
theorem del_texts_z : ∀ w, (zeroValue 22).run Try.prog w = .ok (.slice none 0 0) w := (zero_of_info (P := Try.prog) (t := 22) (n := 1) (by kernel_rfl)).1
set_option maxRecDepth 100000 in
set_option maxHeartbeats 8000000 in
theorem del_texts (xs : List (List Int)) (v : Value) (i : Nat) (base : Nat) (ok : Nat → Prop) (w : World) (hi : i < xs.length) (hl : xs.length ≤ 4611686018427387903) (hbase : base ≤ w.heap.size) (H : Kd.S (Kd.slice 5 (Kd.int .u8)) 22 w base ok v xs) :
    Calls Try.prog 72 #[v, .int .i64 (i : Int), .int .i64 ((i : Int) + 1)] w fun e w' => ∃ v', e = .returned v' ∧ Kd.S (Kd.slice 5 (Kd.int .u8)) 22 w' base ok v' (xs.eraseIdx i) ∧ Below base w w' ∧ ∃ g, v.ownBlock = some g ∧ w.grownBy w' (some g) := by
  obtain ⟨A, c, rfl, hc, hC⟩ := Kd.S_reads H
  obtain ⟨n, hn⟩ : ∃ n, n = xs.length := ⟨_, rfl⟩
  obtain ⟨_, _, hC2⟩ := hC
  obtain ⟨ad, rfl, _⟩ := hC2 (by omega)
  obtain ⟨g, rfl⟩ := Kd.R_head (Kd.S_R H); rw [← hn] at hi hl hc H; clear hC2; have hu := Try.underlying23
  have ho : (Value.slice (some ⟨g, 0, none⟩) n c).ownBlock = some g := by simp [Value.ownBlock]
  rw [← hn]; have HN := Aside0.mk hn; clear hn
  by_cases hck : c = i + 1
  · subst hck
    go_enter Try.func72, Try.ntmps72
    try go_wp2
    have hdr : Below w.heap.size w w.drew := below_drew1 (Below.refl _ _)
    refine start_ (n := 8) (S := fun w' => True) (ds := []) #[false, false, false, false, false, false, false, false] (by kernel_rfl) rfl rfl trivial (fun hH => ?_)
    generalize w.drew = wd at hdr hH ⊢
    have hdw := hdr; clear hdr
    refine pure_ (i := 0) (N := some 20) (v := ?_) (a' := ?_) #[true, false, false, false, false, false, false, false] rfl rfl (by kernel_rfl) (fun _ _ _ h => h) (Or.inl ⟨by rfl, ?_⟩) ?_ ?_
    rotate_left
    ·intro w'
     go_simp
     with_reducible rfl
    rotate_left
    ·simp only [Act.put, List.setIfInBounds_toArray, List.set_cons_zero, List.set_cons_succ, i64_w, i32_w]
     rfl
    refine pure_ (i := 1) (N := some 21) (v := ?_) (a' := ?_) #[true, true, false, false, false, false, false, false] rfl rfl (by kernel_rfl) (fun _ _ _ h => h) (Or.inl ⟨by rfl, ?_⟩) ?_ ?_
    rotate_left
    ·intro w'
     go_simp
     with_reducible rfl
    rotate_left
    ·simp only [Act.put, List.setIfInBounds_toArray, List.set_cons_zero, List.set_cons_succ, i64_w, i32_w]
     rfl
    refine pure_ (i := 2) (N := some 22) (v := ?_) (a' := ?_) #[true, true, true, false, false, false, false, false] rfl rfl (by kernel_rfl) (fun _ _ _ h => h) (Or.inl ⟨by rfl, ?_⟩) ?_ ?_
    rotate_left
    ·intro w'
     go_simp
     rw [if_pos (by omega)]
    rotate_left
    ·simp only [Act.put, List.setIfInBounds_toArray, List.set_cons_zero, List.set_cons_succ, i64_w, i32_w]
     rfl
    refine pure_ (i := 3) (N := some 23) (v := ?_) (a' := ?_) #[true, true, true, true, false, false, false, false] rfl rfl (by kernel_rfl) (fun _ _ _ h => h) (Or.inl ⟨by rfl, ?_⟩) ?_ ?_
    rotate_left
    ·intro w'
     go_simp
     with_reducible rfl
    rotate_left
    ·simp only [Act.put, List.setIfInBounds_toArray, List.set_cons_zero, List.set_cons_succ, i64_w, i32_w]
     rfl
    refine pure_ (i := 4) (N := some 24) (v := ?_) (a' := ?_) #[true, true, true, true, true, false, false, false] rfl rfl (by kernel_rfl) (fun _ _ _ h => h) (Or.inl ⟨by rfl, ?_⟩) ?_ ?_
    rotate_left
    ·intro w'
     go_simp
     with_reducible rfl
    rotate_left
    ·simp only [Act.put, List.setIfInBounds_toArray, List.set_cons_zero, List.set_cons_succ, i64_w, i32_w]
     rfl
    refine pure_ (i := 5) (N := some 25) (v := ?_) (a' := ?_) #[true, true, true, true, true, true, false, false] rfl rfl (by kernel_rfl) (fun _ _ _ h => h) (Or.inl ⟨by rfl, ?_⟩) ?_ ?_
    rotate_left
    ·intro w'
     go_simp
     rw [if_pos (by omega)]
    rotate_left
    ·simp only [Act.put, List.setIfInBounds_toArray, List.set_cons_zero, List.set_cons_succ, i64_w, i32_w]
     rfl
    refine one_ (i := 6) (N := some 26) #[true, true, true, true, true, true, true, false] rfl rfl (by kernel_rfl) (by decide) (fun K hK => ?_)
    refine Kd.S_delete_step (Kd.slice 5 (Kd.int .u8)) (w0 := wd) base (by rfl) (.tmp 22) (.tmp 25) 23 22 rfl hu (by kernel_rfl) (g := g) (n := n) (c := i + 1) (k := i) (m := 0) (A := some ⟨g, 0, none⟩) (c2 := 0) rfl rfl (by rw [if_pos rfl]) (by omega) (Kd.S_below H hdw) hi (Below.refl _ _) (by have := hdw.size; omega) ?_
    intro w1 h1 hb1 hg1
    refine hK.out _ _ trivial (fun hH => ?_)
    clear hK K; refine norm_ (a' := ?_) ?_ ?_; rotate_left
    ·show Act.put _ (some 26) _ = _
     simp only [Act.put, List.setIfInBounds_toArray, List.set_cons_zero, List.set_cons_succ, i64_w, i32_w]
     rfl
    refine pure_ (i := 7) (N := some 0) (v := ?_) (a' := ?_) #[true, true, true, true, true, true, true, true] rfl rfl (by kernel_rfl) (fun _ _ _ h => h) (Or.inl ⟨by rfl, ?_⟩) ?_ ?_
    rotate_left
    ·intro w'
     go_simp
     with_reducible rfl
    rotate_left
    ·simp only [Act.put, List.setIfInBounds_toArray, List.set_cons_zero, List.set_cons_succ, i64_w, i32_w]
     rfl
    refine done_ (by kernel_rfl) ?_
    obtain ⟨w2, hrun, h2, hg2⟩ := S_clear_run (P := Try.prog) (Kd.slice 5 (Kd.int .u8)) base 23 0 22 hu del_texts_z rfl (by simp [Value.cells, Value.oneCell']) (n - (n - 1)) (i + 1 - (n - 1)) (n - 1) h1 (by omega) (by omega) (Nat.mul_one _).symm
    go_wp2; go_ret
    exact ⟨_, rfl, h2, Below.grown ((hdw.mono hbase).trans hb1) hg2 (Nat.le_trans (Nat.le_trans hbase hdw.size) hb1.size) (fun k hk => by injection hk with hk; subst hk; exact Kd.R_base (Kd.S_R H) _ ho), g, ho, grown3 hdw hg1 hg2⟩
  · skip
    go_enter Try.func72, Try.ntmps72
    try go_wp2
    have hdr : Below w.heap.size w w.drew := below_drew1 (Below.refl _ _)
    refine start_ (n := 8) (S := fun w' => True) (ds := []) #[false, false, false, false, false, false, false, false] (by kernel_rfl) rfl rfl trivial (fun hH => ?_)
    generalize w.drew = wd at hdr hH ⊢
    have hdw := hdr; clear hdr
    refine pure_ (i := 0) (N := some 20) (v := ?_) (a' := ?_) #[true, false, false, false, false, false, false, false] rfl rfl (by kernel_rfl) (fun _ _ _ h => h) (Or.inl ⟨by rfl, ?_⟩) ?_ ?_
    rotate_left
    ·intro w'
     go_simp
     with_reducible rfl
    rotate_left
    ·simp only [Act.put, List.setIfInBounds_toArray, List.set_cons_zero, List.set_cons_succ, i64_w, i32_w]
     rfl
    refine pure_ (i := 1) (N := some 21) (v := ?_) (a' := ?_) #[true, true, false, false, false, false, false, false] rfl rfl (by kernel_rfl) (fun _ _ _ h => h) (Or.inl ⟨by rfl, ?_⟩) ?_ ?_
    rotate_left
    ·intro w'
     go_simp
     with_reducible rfl
    rotate_left
    ·simp only [Act.put, List.setIfInBounds_toArray, List.set_cons_zero, List.set_cons_succ, i64_w, i32_w]
     rfl
    refine pure_ (i := 2) (N := some 22) (v := ?_) (a' := ?_) #[true, true, true, false, false, false, false, false] rfl rfl (by kernel_rfl) (fun _ _ _ h => h) (Or.inl ⟨by rfl, ?_⟩) ?_ ?_
    rotate_left
    ·intro w'
     go_simp
     rw [if_pos (by omega)]
    rotate_left
    ·simp only [Act.put, List.setIfInBounds_toArray, List.set_cons_zero, List.set_cons_succ, i64_w, i32_w]
     rfl
    refine pure_ (i := 3) (N := some 23) (v := ?_) (a' := ?_) #[true, true, true, true, false, false, false, false] rfl rfl (by kernel_rfl) (fun _ _ _ h => h) (Or.inl ⟨by rfl, ?_⟩) ?_ ?_
    rotate_left
    ·intro w'
     go_simp
     with_reducible rfl
    rotate_left
    ·simp only [Act.put, List.setIfInBounds_toArray, List.set_cons_zero, List.set_cons_succ, i64_w, i32_w]
     rfl
    refine pure_ (i := 4) (N := some 24) (v := ?_) (a' := ?_) #[true, true, true, true, true, false, false, false] rfl rfl (by kernel_rfl) (fun _ _ _ h => h) (Or.inl ⟨by rfl, ?_⟩) ?_ ?_
    rotate_left
    ·intro w'
     go_simp
     with_reducible rfl
    rotate_left
    ·simp only [Act.put, List.setIfInBounds_toArray, List.set_cons_zero, List.set_cons_succ, i64_w, i32_w]
     rfl
    refine pure_ (i := 5) (N := some 25) (v := ?_) (a' := ?_) #[true, true, true, true, true, true, false, false] rfl rfl (by kernel_rfl) (fun _ _ _ h => h) (Or.inl ⟨by rfl, ?_⟩) ?_ ?_
    rotate_left
    ·intro w'
     go_simp
     rw [if_pos (by omega)]
    rotate_left
    ·simp only [Act.put, List.setIfInBounds_toArray, List.set_cons_zero, List.set_cons_succ, i64_w, i32_w]
     rfl
    refine one_ (i := 6) (N := some 26) #[true, true, true, true, true, true, true, false] rfl rfl (by kernel_rfl) (by decide) (fun K hK => ?_)
    refine Kd.S_delete_step (Kd.slice 5 (Kd.int .u8)) (w0 := wd) base (by rfl) (.tmp 22) (.tmp 25) 23 22 rfl hu (by kernel_rfl) (g := g) (n := n) (c := c) (k := i) (m := n - (i + 1)) rfl rfl (by rw [if_neg hck]; show _ = some (⟨g, 0 + (i + 1) * 1, none⟩ : Addr); rw [Nat.zero_add, Nat.mul_one]) (by omega) (Kd.S_below H hdw) hi (Below.refl _ _) (by have := hdw.size; omega) ?_
    intro w1 h1 hb1 hg1
    refine hK.out _ _ trivial (fun hH => ?_)
    clear hK K; refine norm_ (a' := ?_) ?_ ?_; rotate_left
    ·show Act.put _ (some 26) _ = _
     simp only [Act.put, List.setIfInBounds_toArray, List.set_cons_zero, List.set_cons_succ, i64_w, i32_w]
     rfl
    refine pure_ (i := 7) (N := some 0) (v := ?_) (a' := ?_) #[true, true, true, true, true, true, true, true] rfl rfl (by kernel_rfl) (fun _ _ _ h => h) (Or.inl ⟨by rfl, ?_⟩) ?_ ?_
    rotate_left
    ·intro w'
     go_simp
     with_reducible rfl
    rotate_left
    ·simp only [Act.put, List.setIfInBounds_toArray, List.set_cons_zero, List.set_cons_succ, i64_w, i32_w]
     rfl
    refine done_ (by kernel_rfl) ?_
    obtain ⟨w2, hrun, h2, hg2⟩ := S_clear_run (P := Try.prog) (Kd.slice 5 (Kd.int .u8)) base 23 0 22 hu del_texts_z rfl (by simp [Value.cells, Value.oneCell']) (n - (n - 1)) (c - (n - 1)) (n - 1) h1 (by omega) (by omega) (Nat.mul_one _).symm
    go_wp2; go_ret
    exact ⟨_, rfl, h2, Below.grown ((hdw.mono hbase).trans hb1) hg2 (Nat.le_trans (Nat.le_trans hbase hdw.size) hb1.size) (fun k hk => by injection hk with hk; subst hk; exact Kd.R_base (Kd.S_R H) _ ho), g, ho, grown3 hdw hg1 hg2⟩
theorem del_values_z : ∀ w, (zeroValue 30).run Try.prog w = .ok (.agg #[.int .i64 0, .int .i64 0, .slice none 0 0, .slice none 0 0, .slice none 0 0]) w := (zero_of_info (P := Try.prog) (t := 30) (n := 5) (by kernel_rfl)).1
set_option maxRecDepth 100000 in
set_option maxHeartbeats 8000000 in
theorem del_values (xs : List S30) (v : Value) (i : Nat) (base : Nat) (ok : Nat → Prop) (w : World) (hi : i < xs.length) (hl : xs.length ≤ 4611686018427387903) (hbase : base ≤ w.heap.size) (H : Kd.S dV 30 w base ok v xs) :
    Calls Try.prog 73 #[v, .int .i64 (i : Int), .int .i64 ((i : Int) + 1)] w fun e w' => ∃ v', e = .returned v' ∧ Kd.S dV 30 w' base ok v' (xs.eraseIdx i) ∧ Below base w w' ∧ ∃ g, v.ownBlock = some g ∧ w.grownBy w' (some g) := by
  obtain ⟨A, c, rfl, hc, hC⟩ := Kd.S_reads H
  obtain ⟨n, hn⟩ : ∃ n, n = xs.length := ⟨_, rfl⟩
  obtain ⟨_, _, hC2⟩ := hC
  obtain ⟨ad, rfl, _⟩ := hC2 (by omega)
  obtain ⟨g, rfl⟩ := Kd.R_head (Kd.S_R H); rw [← hn] at hi hl hc H; clear hC2; have hu := Try.underlying28
  have ho : (Value.slice (some ⟨g, 0, none⟩) n c).ownBlock = some g := by simp [Value.ownBlock]
  rw [← hn]; have HN := Aside0.mk hn; clear hn
  by_cases hck : c = i + 1
  · subst hck
    go_enter Try.func73, Try.ntmps73
    try go_wp2
    have hdr : Below w.heap.size w w.drew := below_drew1 (Below.refl _ _)
    refine start_ (n := 8) (S := fun w' => True) (ds := []) #[false, false, false, false, false, false, false, false] (by kernel_rfl) rfl rfl trivial (fun hH => ?_)
    generalize w.drew = wd at hdr hH ⊢
    have hdw := hdr; clear hdr
    refine pure_ (i := 0) (N := some 20) (v := ?_) (a' := ?_) #[true, false, false, false, false, false, false, false] rfl rfl (by kernel_rfl) (fun _ _ _ h => h) (Or.inl ⟨by rfl, ?_⟩) ?_ ?_
    rotate_left
    ·intro w'
     go_simp
     with_reducible rfl
    rotate_left
    ·simp only [Act.put, List.setIfInBounds_toArray, List.set_cons_zero, List.set_cons_succ, i64_w, i32_w]
     rfl
    refine pure_ (i := 1) (N := some 21) (v := ?_) (a' := ?_) #[true, true, false, false, false, false, false, false] rfl rfl (by kernel_rfl) (fun _ _ _ h => h) (Or.inl ⟨by rfl, ?_⟩) ?_ ?_
    rotate_left
    ·intro w'
     go_simp
     with_reducible rfl
    rotate_left
    ·simp only [Act.put, List.setIfInBounds_toArray, List.set_cons_zero, List.set_cons_succ, i64_w, i32_w]
     rfl
    refine pure_ (i := 2) (N := some 22) (v := ?_) (a' := ?_) #[true, true, true, false, false, false, false, false] rfl rfl (by kernel_rfl) (fun _ _ _ h => h) (Or.inl ⟨by rfl, ?_⟩) ?_ ?_
    rotate_left
    ·intro w'
     go_simp
     rw [if_pos (by omega)]
    rotate_left
    ·simp only [Act.put, List.setIfInBounds_toArray, List.set_cons_zero, List.set_cons_succ, i64_w, i32_w]
     rfl
    refine pure_ (i := 3) (N := some 23) (v := ?_) (a' := ?_) #[true, true, true, true, false, false, false, false] rfl rfl (by kernel_rfl) (fun _ _ _ h => h) (Or.inl ⟨by rfl, ?_⟩) ?_ ?_
    rotate_left
    ·intro w'
     go_simp
     with_reducible rfl
    rotate_left
    ·simp only [Act.put, List.setIfInBounds_toArray, List.set_cons_zero, List.set_cons_succ, i64_w, i32_w]
     rfl
    refine pure_ (i := 4) (N := some 24) (v := ?_) (a' := ?_) #[true, true, true, true, true, false, false, false] rfl rfl (by kernel_rfl) (fun _ _ _ h => h) (Or.inl ⟨by rfl, ?_⟩) ?_ ?_
    rotate_left
    ·intro w'
     go_simp
     with_reducible rfl
    rotate_left
    ·simp only [Act.put, List.setIfInBounds_toArray, List.set_cons_zero, List.set_cons_succ, i64_w, i32_w]
     rfl
    refine pure_ (i := 5) (N := some 25) (v := ?_) (a' := ?_) #[true, true, true, true, true, true, false, false] rfl rfl (by kernel_rfl) (fun _ _ _ h => h) (Or.inl ⟨by rfl, ?_⟩) ?_ ?_
    rotate_left
    ·intro w'
     go_simp
     rw [if_pos (by omega)]
    rotate_left
    ·simp only [Act.put, List.setIfInBounds_toArray, List.set_cons_zero, List.set_cons_succ, i64_w, i32_w]
     rfl
    refine one_ (i := 6) (N := some 26) #[true, true, true, true, true, true, true, false] rfl rfl (by kernel_rfl) (by decide) (fun K hK => ?_)
    refine Kd.S_delete_step dV (w0 := wd) base (by rfl) (.tmp 22) (.tmp 25) 28 30 rfl hu (by kernel_rfl) (g := g) (n := n) (c := i + 1) (k := i) (m := 0) (A := some ⟨g, 0, none⟩) (c2 := 0) rfl rfl (by rw [if_pos rfl]) (by omega) (Kd.S_below H hdw) hi (Below.refl _ _) (by have := hdw.size; omega) ?_
    intro w1 h1 hb1 hg1
    refine hK.out _ _ trivial (fun hH => ?_)
    clear hK K; refine norm_ (a' := ?_) ?_ ?_; rotate_left
    ·show Act.put _ (some 26) _ = _
     simp only [Act.put, List.setIfInBounds_toArray, List.set_cons_zero, List.set_cons_succ, i64_w, i32_w]
     rfl
    refine pure_ (i := 7) (N := some 0) (v := ?_) (a' := ?_) #[true, true, true, true, true, true, true, true] rfl rfl (by kernel_rfl) (fun _ _ _ h => h) (Or.inl ⟨by rfl, ?_⟩) ?_ ?_
    rotate_left
    ·intro w'
     go_simp
     with_reducible rfl
    rotate_left
    ·simp only [Act.put, List.setIfInBounds_toArray, List.set_cons_zero, List.set_cons_succ, i64_w, i32_w]
     rfl
    refine done_ (by kernel_rfl) ?_
    obtain ⟨w2, hrun, h2, hg2⟩ := S_clear_run (P := Try.prog) dV base 28 0 30 hu del_values_z rfl (by simp [Value.cells, Value.oneCell']) (n - (n - 1)) (i + 1 - (n - 1)) ((n - 1) * 5) h1 (by omega) (by omega) rfl
    go_wp2; go_ret
    exact ⟨_, rfl, h2, Below.grown ((hdw.mono hbase).trans hb1) hg2 (Nat.le_trans (Nat.le_trans hbase hdw.size) hb1.size) (fun k hk => by injection hk with hk; subst hk; exact Kd.R_base (Kd.S_R H) _ ho), g, ho, grown3 hdw hg1 hg2⟩
  · skip
    go_enter Try.func73, Try.ntmps73
    try go_wp2
    have hdr : Below w.heap.size w w.drew := below_drew1 (Below.refl _ _)
    refine start_ (n := 8) (S := fun w' => True) (ds := []) #[false, false, false, false, false, false, false, false] (by kernel_rfl) rfl rfl trivial (fun hH => ?_)
    generalize w.drew = wd at hdr hH ⊢
    have hdw := hdr; clear hdr
    refine pure_ (i := 0) (N := some 20) (v := ?_) (a' := ?_) #[true, false, false, false, false, false, false, false] rfl rfl (by kernel_rfl) (fun _ _ _ h => h) (Or.inl ⟨by rfl, ?_⟩) ?_ ?_
    rotate_left
    ·intro w'
     go_simp
     with_reducible rfl
    rotate_left
    ·simp only [Act.put, List.setIfInBounds_toArray, List.set_cons_zero, List.set_cons_succ, i64_w, i32_w]
     rfl
    refine pure_ (i := 1) (N := some 21) (v := ?_) (a' := ?_) #[true, true, false, false, false, false, false, false] rfl rfl (by kernel_rfl) (fun _ _ _ h => h) (Or.inl ⟨by rfl, ?_⟩) ?_ ?_
    rotate_left
    ·intro w'
     go_simp
     with_reducible rfl
    rotate_left
    ·simp only [Act.put, List.setIfInBounds_toArray, List.set_cons_zero, List.set_cons_succ, i64_w, i32_w]
     rfl
    refine pure_ (i := 2) (N := some 22) (v := ?_) (a' := ?_) #[true, true, true, false, false, false, false, false] rfl rfl (by kernel_rfl) (fun _ _ _ h => h) (Or.inl ⟨by rfl, ?_⟩) ?_ ?_
    rotate_left
    ·intro w'
     go_simp
     rw [if_pos (by omega)]
    rotate_left
    ·simp only [Act.put, List.setIfInBounds_toArray, List.set_cons_zero, List.set_cons_succ, i64_w, i32_w]
     rfl
    refine pure_ (i := 3) (N := some 23) (v := ?_) (a' := ?_) #[true, true, true, true, false, false, false, false] rfl rfl (by kernel_rfl) (fun _ _ _ h => h) (Or.inl ⟨by rfl, ?_⟩) ?_ ?_
    rotate_left
    ·intro w'
     go_simp
     with_reducible rfl
    rotate_left
    ·simp only [Act.put, List.setIfInBounds_toArray, List.set_cons_zero, List.set_cons_succ, i64_w, i32_w]
     rfl
    refine pure_ (i := 4) (N := some 24) (v := ?_) (a' := ?_) #[true, true, true, true, true, false, false, false] rfl rfl (by kernel_rfl) (fun _ _ _ h => h) (Or.inl ⟨by rfl, ?_⟩) ?_ ?_
    rotate_left
    ·intro w'
     go_simp
     with_reducible rfl
    rotate_left
    ·simp only [Act.put, List.setIfInBounds_toArray, List.set_cons_zero, List.set_cons_succ, i64_w, i32_w]
     rfl
    refine pure_ (i := 5) (N := some 25) (v := ?_) (a' := ?_) #[true, true, true, true, true, true, false, false] rfl rfl (by kernel_rfl) (fun _ _ _ h => h) (Or.inl ⟨by rfl, ?_⟩) ?_ ?_
    rotate_left
    ·intro w'
     go_simp
     rw [if_pos (by omega)]
    rotate_left
    ·simp only [Act.put, List.setIfInBounds_toArray, List.set_cons_zero, List.set_cons_succ, i64_w, i32_w]
     rfl
    refine one_ (i := 6) (N := some 26) #[true, true, true, true, true, true, true, false] rfl rfl (by kernel_rfl) (by decide) (fun K hK => ?_)
    refine Kd.S_delete_step dV (w0 := wd) base (by rfl) (.tmp 22) (.tmp 25) 28 30 rfl hu (by kernel_rfl) (g := g) (n := n) (c := c) (k := i) (m := n - (i + 1)) rfl rfl (by rw [if_neg hck]; show _ = some (⟨g, 0 + (i + 1) * 5, none⟩ : Addr); rw [Nat.zero_add]) (by omega) (Kd.S_below H hdw) hi (Below.refl _ _) (by have := hdw.size; omega) ?_
    intro w1 h1 hb1 hg1
    refine hK.out _ _ trivial (fun hH => ?_)
    clear hK K; refine norm_ (a' := ?_) ?_ ?_; rotate_left
    ·show Act.put _ (some 26) _ = _
     simp only [Act.put, List.setIfInBounds_toArray, List.set_cons_zero, List.set_cons_succ, i64_w, i32_w]
     rfl
    refine pure_ (i := 7) (N := some 0) (v := ?_) (a' := ?_) #[true, true, true, true, true, true, true, true] rfl rfl (by kernel_rfl) (fun _ _ _ h => h) (Or.inl ⟨by rfl, ?_⟩) ?_ ?_
    rotate_left
    ·intro w'
     go_simp
     with_reducible rfl
    rotate_left
    ·simp only [Act.put, List.setIfInBounds_toArray, List.set_cons_zero, List.set_cons_succ, i64_w, i32_w]
     rfl
    refine done_ (by kernel_rfl) ?_
    obtain ⟨w2, hrun, h2, hg2⟩ := S_clear_run (P := Try.prog) dV base 28 0 30 hu del_values_z rfl (by simp [Value.cells, Value.oneCell']) (n - (n - 1)) (c - (n - 1)) ((n - 1) * 5) h1 (by omega) (by omega) rfl
    go_wp2; go_ret
    exact ⟨_, rfl, h2, Below.grown ((hdw.mono hbase).trans hb1) hg2 (Nat.le_trans (Nat.le_trans hbase hdw.size) hb1.size) (fun k hk => by injection hk with hk; subst hk; exact Kd.R_base (Kd.S_R H) _ ho), g, ho, grown3 hdw hg1 hg2⟩
-- KC impl_ValDrop {"params":[["agg",30,["f0","f1","f2","f3","f4"]],["slice","(Kd.int .u8)",5,"List Int"]],"res":["tuple",[["agg",30,["f0","f1","f2","f3","f4"],"D"],["bool"]]],"hasK":true,"fn":28,"f":"impl_ValDrop.g"}
/-- What ValDrop gives, as a value. -/
def impl_ValDrop.g (k : Nat) (a0_0 a0_1 : Int) (l0_2 : List Int) (l0_3 : List (List Int)) (l0_4 : List S30) (l1 : List Int) : Option (S30 × Bool) :=
  (impl_isMap.f k a0_0 a0_1 l0_2 l0_3 l0_4).bind fun t => if t = true then (impl_copyValue.f k a0_0 a0_1 l0_2 l0_3 l0_4).bind fun c => (impl_Value_keyAt.f k c.1 c.2.1 c.2.2.1 c.2.2.2.1 c.2.2.2.2 l1).bind fun q =>
    if q.2 = true then (if 0 ≤ q.1 ∧ q.1.toNat < c.2.2.2.1.length ∧ q.1.toNat < c.2.2.2.2.length ∧ c.2.2.2.1.length ≤ 4611686018427387903 ∧ c.2.2.2.2.length ≤ 4611686018427387903 then some (⟨c.1, c.2.1, c.2.2.1, c.2.2.2.1.eraseIdx q.1.toNat, c.2.2.2.2.eraseIdx q.1.toNat⟩, true) else none)
    else some (⟨c.1, c.2.1, c.2.2.1, c.2.2.2.1, c.2.2.2.2⟩, false) else some (⟨0, 0, [], [], []⟩, false)
theorem frG1 : Fr Try.prog 57 := ⟨_, Try.func57, by kernel_rfl, rfl⟩
theorem frG2 : Fr Try.prog 58 := ⟨_, Try.func58, by kernel_rfl, rfl⟩
theorem frG3 : Fr Try.prog 59 := ⟨_, Try.func59, by kernel_rfl, rfl⟩
theorem frG4 : Fr Try.prog 72 := ⟨_, Try.func72, by kernel_rfl, rfl⟩
theorem frG5 : Fr Try.prog 73 := ⟨_, Try.func73, by kernel_rfl, rfl⟩
theorem Bx.other {w : World} {b t g o : Nat} {cs : Array Value} {u : Value} (h : Bx w b t cs) (hne : b ≠ g) : Bx (w.setCell ⟨g, o, none⟩ u) b t cs := ⟨(Below.heap_setCell _ _ _ _ hne).trans h.h⟩
theorem dV_zero (w : World) (base : Nat) (ok : Nat → Prop) : dV.M w base ok ⟨0, 0, [], [], []⟩ [.int .i64 0, .int .i64 0, .slice none 0 0, .slice none 0 0, .slice none 0 0] :=
  dV_mkM (o2 := fun _ => False) (o3 := fun _ => False) (o4 := fun _ => False) ⟨0, 0, [], [], []⟩ (Kd.R_nil _ _ _ _ _) (Kd.S_nil _ _ _ _ _) (Kd.S_nil _ _ _ _ _) (fun _ h => h.elim) (fun _ h => h.elim) (fun _ h => h.elim) (fun _ h => h.elim) (fun _ h => h.elim) (fun _ h => h.elim)
/-- A value that lies apart, its parts told, each bounded. -/
theorem dV_parts {w : World} {base : Nat} {ok : Nat → Prop} {x : S30} {v0 v1 v2 v3 v4 : Value} (h : dV.M w base ok x [v0, v1, v2, v3, v4]) : ∃ (o2 o3 o4 : Nat → Prop), (Kd.int .u8).R 5 w base o2 v2 x.f2 ∧ Kd.S (Kd.slice 5 (Kd.int .u8)) 22 w base o3 v3 x.f3 ∧ Kd.S dV 30 w base o4 v4 x.f4 ∧
    (∀ k, o2 k → base ≤ k ∧ k < w.heap.size) ∧ (∀ k, o3 k → base ≤ k ∧ k < w.heap.size) ∧ (∀ k, o4 k → base ≤ k ∧ k < w.heap.size) ∧ (∀ k, o2 k → ¬ o3 k) ∧ (∀ k, o2 k → ¬ o4 k) ∧ (∀ k, o3 k → ¬ o4 k) := by
  obtain ⟨u2, u3, u4, o2, o3, o4, e, g2, g3, g4, -, -, -, d1, d2, d3⟩ := dV_openM h
  simp only [List.cons.injEq] at e
  obtain ⟨-, -, rfl, rfl, rfl, -⟩ := e
  exact ⟨_, _, _, Kd.R_bound g2, Kd.S_bound g3, Kd.S_bound g4, fun k hk => ⟨hk.2.1, hk.2.2.1⟩, fun k hk => ⟨hk.2.1, hk.2.2.1⟩, fun k hk => ⟨hk.2.1, hk.2.2.1⟩, fun k h h2 => d1 k h.1 h2.1, fun k h h2 => d2 k h.1 h2.1, fun k h h2 => d3 k h.1 h2.1⟩
theorem keep_set {w5 w7 w8 : World} {gp g3 c : Nat} {u : Value} (h57 : Below w5.heap.size w5 w7) (hg : w7.grownBy w8 (some g3)) (hgp : w5.heap.size ≤ gp) {k : Nat} (hk : k < w5.heap.size) (hne : k ≠ g3) : (w8.setCell ⟨gp, c, none⟩ u).heap[k]? = w5.heap[k]? :=
  (Below.heap_setCell _ _ _ _ (fun e => by have : k = gp := e; omega)).trans ((hg.block k (Nat.lt_of_lt_of_le hk h57.size) (fun e => hne (by injection e))).trans (h57.block k hk))
theorem drop_end {w5 w7 w8 w9 : World} {b gp gr g3 g4 : Nat} {u3 u4 r0 r1 r2 r3 r4 v2 v3 v4 : Value} {o2 o3 o4 : Nat → Prop} {a0 a1 : Int} {s : List Int} {ks : List (List Int)} {l : List S30}
    (P2 : (Kd.int .u8).R 5 w5 b o2 v2 s) (P3 : Kd.S (Kd.slice 5 (Kd.int .u8)) 22 w8 b o3 v3 ks) (P4 : Kd.S dV 30 w9 b o4 v4 l) (b2 : ∀ k, o2 k → b ≤ k ∧ k < w5.heap.size) (b3 : ∀ k, o3 k → b ≤ k ∧ k < w5.heap.size) (b4 : ∀ k, o4 k → b ≤ k ∧ k < w5.heap.size)
    (d23 : ∀ k, o2 k → ¬ o3 k) (d24 : ∀ k, o2 k → ¬ o4 k) (d34 : ∀ k, o3 k → ¬ o4 k) (h57 : Below w5.heap.size w5 w7) (h3 : o3 g3) (h78 : w7.grownBy w8 (some g3)) (h4 : o4 g4) (h89 : (w8.setCell ⟨gp, 3, none⟩ u3).grownBy w9 (some g4)) (hgp : w5.heap.size ≤ gp) (hgr : gr < b) :
    dV.M ((((((w9.setCell ⟨gp, 4, none⟩ u4).setCell ⟨gr, 0, none⟩ r0).setCell ⟨gr, 1, none⟩ r1).setCell ⟨gr, 2, none⟩ r2).setCell ⟨gr, 3, none⟩ r3).setCell ⟨gr, 4, none⟩ r4) b (fun _ => True) ⟨a0, a1, s, ks, l⟩ [.int .i64 a0, .int .i64 a1, v2, v3, v4] := by
  have hs : w5.heap.size ≤ w8.heap.size := Nat.le_trans h57.size h78.size
  have hs2 : w5.heap.size ≤ (w8.setCell ⟨gp, 3, none⟩ u3).heap.size := by simpa using hs
  have e9 : ∀ k, b ≤ k → k < w5.heap.size → (((((((w9.setCell ⟨gp, 4, none⟩ u4).setCell ⟨gr, 0, none⟩ r0).setCell ⟨gr, 1, none⟩ r1).setCell ⟨gr, 2, none⟩ r2).setCell ⟨gr, 3, none⟩ r3).setCell ⟨gr, 4, none⟩ r4)).heap[k]? = w9.heap[k]? := fun k h1 h2 =>
    (heap_sets5 (by omega)).trans (Below.heap_setCell _ _ _ _ (fun e => by have : k = gp := e; omega))
  have e8 : ∀ k, b ≤ k → k < w5.heap.size → k ≠ g4 → (((((((w9.setCell ⟨gp, 4, none⟩ u4).setCell ⟨gr, 0, none⟩ r0).setCell ⟨gr, 1, none⟩ r1).setCell ⟨gr, 2, none⟩ r2).setCell ⟨gr, 3, none⟩ r3).setCell ⟨gr, 4, none⟩ r4)).heap[k]? = w8.heap[k]? := fun k h1 h2 h3 =>
    (e9 k h1 h2).trans ((h89.block k (Nat.lt_of_lt_of_le h2 hs2) (fun e => h3 (by injection e))).trans (Below.heap_setCell _ _ _ _ (fun e => by have : k = gp := e; omega)))
  refine dV_mkM (o2 := o2) (o3 := o3) (o4 := o4) (⟨a0, a1, s, ks, l⟩ : S30) (Kd.R_move P2 fun k hk => ?_) (Kd.S_move P3 fun k hk => ?_) (Kd.S_move P4 fun k hk => e9 k (b4 k hk).1 (b4 k hk).2) (fun _ _ => trivial) (fun _ _ => trivial) (fun _ _ => trivial) d23 d24 d34
  · exact (e8 k (b2 k hk).1 (b2 k hk).2 (fun e => d24 k hk (e ▸ h4))).trans ((h78.block k (Nat.lt_of_lt_of_le (b2 k hk).2 h57.size) (fun e => d23 k hk (by injection e with e; rw [e]; exact h3))).trans (h57.block k (b2 k hk).2))
  · exact e8 k (b3 k hk).1 (b3 k hk).2 (fun e => d34 k hk (e ▸ h4))
set_option maxRecDepth 100000 in
set_option maxHeartbeats 8000000 in
theorem impl_ValDrop.kc (k : Nat) (x0 : S30) (b0 : Array Value) (l1 : List Int) (v1 : Value) (y : S30) (r2 : Bool) (w : World) (h0 : Rd k30 w x0 b0.toList) (h1 : Rd (Kd.slice 5 (Kd.int .u8)) w l1 [v1]) (h : impl_ValDrop.g k x0.f0 x0.f1 x0.f2 x0.f3 x0.f4 l1 = some (y, r2)) :
    Calls Try.prog 28 #[.agg b0, v1] w fun e w' => ∃ b : Array Value, e = .returned (.tuple #[.agg b, .bool r2]) ∧ Own dV w' w.heap.size w'.heap.size y b.toList ∧ Below w.heap.size w w' := by
  obtain ⟨A2, c2, A3, c3, A4, c4, e0, lc2, g2, lc3, g3, lc4, g4⟩ := k30_open h0.k; obtain ⟨a0, a1, l2, l3, l4⟩ := x0
  obtain rfl : b0 = #[.int .i64 a0, .int .i64 a1, .slice A2 l2.length c2, .slice A3 l3.length c3, .slice A4 l4.length c4] := by rw [← b0.toArray_toList, e0]
  simp only at lc2 g2 lc3 g3 lc4 g4
  obtain ⟨A1, c1, e1, lc1, g1⟩ := h1.k
  injection e1 with e1
  subst e1; have hu := Try.underlying30; have G1 := Aside0.mk g1; have L1 := Aside0.mk lc1; have G2 := Aside0.mk g2; have L2 := Aside0.mk lc2; have G3 := Aside0.mk g3; have L3 := Aside0.mk lc3; have G4 := Aside0.mk g4; have L4 := Aside0.mk lc4; have HB := Bw.refl w; clear g1 g2 g3 g4 lc1 lc2 lc3 lc4 e0 h0 h1; unfold impl_ValDrop.g at h; have h9 := bnd h; clear h; obtain ⟨t, T1, h⟩ := h9; replace T1 := Aside0.mk T1
  cases t with
  | false =>
    rw [if_neg (by decide)] at h
    obtain ⟨rfl, rfl⟩ := Prod.mk.inj (Option.some.inj h); clear h
    go_enter Try.func28, Try.ntmps28
    go_wp2_with (first
      | ((with_reducible refine gate_dst (N := 2) rfl ?_); refine bxb (bs := #[.int .i64 a0, .int .i64 a1, .slice A2 l2.length c2, .slice A3 l3.length c3, .slice A4 l4.length c4]) 2 rfl rfl rfl rfl ?_; intro gb w1 BX hb1 hle hlt; replace HB := Bw.sw w hb1; clear hb1 hle hlt; obtain ⟨hc0, hc1, hc2, hc3, hc4, hf0, hf1, hf2, hf3, hf4⟩ := blk5 BX.h; simp only [Act.put, List.setIfInBounds_toArray, List.set_cons_zero, List.set_cons_succ])
      | ((with_reducible refine gate_dst (N := 4) rfl ?_); refine alb (n := 5) (cs := #[.int .i64 0, .int .i64 0, .slice none 0 0, .slice none 0 0, .slice none 0 0]) 4 rfl rfl rfl (by kernel_rfl) ?_; intro gr w2 BR hb2 hle hlt; have NB := Aside0.mk (Nat.ne_of_lt (Nat.lt_of_lt_of_le BX.lt hle)); have GE := Aside0.mk (Nat.le_trans HB.out.size hle); replace BX := BX.b hb2; replace HB := Bw.sw w hb2; clear hb2 hle hlt; obtain ⟨hc0, hc1, hc2, hc3, hc4, hf0, hf1, hf2, hf3, hf4⟩ := blk5 BX.h; simp only [Act.put, List.setIfInBounds_toArray, List.set_cons_zero, List.set_cons_succ])
      | ((with_reducible refine gate_dst (N := 10) rfl ?_); refine gg (some 10) rfl rfl rfl frG1 ?_; refine onc (impl_isMap.calls k a0 a1 _ _ l2 _ _ l3 _ _ l4 false _ (cb G2) L2.out (cb G3) L3.out (cb G4) L4.out T1.out) rfl ?_; rintro e w3 ⟨rfl, hb⟩; refine ⟨_, rfl, ?_⟩; replace BX := BX.b hb; replace BR := BR.b hb; replace HB := Bw.sw w hb; clear hb; obtain ⟨hc0, hc1, hc2, hc3, hc4, hf0, hf1, hf2, hf3, hf4⟩ := blk5 BX.h; obtain ⟨gc0, gc1, gc2, gc3, gc4, gf0, gf1, gf2, gf3, gf4⟩ := blk5 BR.h; have hnb := NB.out; have hnc := NB.out.symm; simp only [Act.put, List.setIfInBounds_toArray, List.set_cons_zero, List.set_cons_succ]))
    refine bodyPost_ret (results_ct rfl _ _ gr 30 #[.int .i64 0, .int .i64 0, .slice none 0 0, .slice none 0 0, .slice none 0 0] (0, 0) _ rfl BR.sets5.h Try.underlying30 rfl (by kernel_rfl)) rfl ?_
    exact ⟨_, rfl, Own.of (dV_zero _ _ (fun _ => True)) (M.Below.sets5 HB.out GE.out).size, M.Below.sets5 HB.out GE.out⟩
  | true =>
  rw [if_pos rfl] at h; have h9 := bnd h; clear h; obtain ⟨⟨t1, t2, t3, t4, t5⟩, T2, h⟩ := h9; replace T2 := Aside0.mk T2; have h9 := bnd h; clear h; obtain ⟨⟨at_, there⟩, T3, h⟩ := h9; replace T3 := Aside0.mk T3
  dsimp only at h T3
  cases there with
  | false =>
    rw [if_neg (by decide)] at h
    obtain ⟨rfl, rfl⟩ := Prod.mk.inj (Option.some.inj h); clear h
    go_enter Try.func28, Try.ntmps28
    go_wp2_with (first
      | ((with_reducible refine gate_dst (N := 2) rfl ?_); refine bxb (bs := #[.int .i64 a0, .int .i64 a1, .slice A2 l2.length c2, .slice A3 l3.length c3, .slice A4 l4.length c4]) 2 rfl rfl rfl rfl ?_; intro gb w1 BX hb1 hle hlt; replace HB := Bw.sw w hb1; clear hb1 hle hlt; obtain ⟨hc0, hc1, hc2, hc3, hc4, hf0, hf1, hf2, hf3, hf4⟩ := blk5 BX.h; simp only [Act.put, List.setIfInBounds_toArray, List.set_cons_zero, List.set_cons_succ])
      | ((with_reducible refine gate_dst (N := 4) rfl ?_); refine alb (n := 5) (cs := #[.int .i64 0, .int .i64 0, .slice none 0 0, .slice none 0 0, .slice none 0 0]) 4 rfl rfl rfl (by kernel_rfl) ?_; intro gr w2 BR hb2 hle hlt; have NB := Aside0.mk (Nat.ne_of_lt (Nat.lt_of_lt_of_le BX.lt hle)); have GE := Aside0.mk (Nat.le_trans HB.out.size hle); replace BX := BX.b hb2; replace HB := Bw.sw w hb2; clear hb2 hle hlt; obtain ⟨hc0, hc1, hc2, hc3, hc4, hf0, hf1, hf2, hf3, hf4⟩ := blk5 BX.h; simp only [Act.put, List.setIfInBounds_toArray, List.set_cons_zero, List.set_cons_succ])
      | ((with_reducible refine gate_dst (N := 10) rfl ?_); refine gg (some 10) rfl rfl rfl frG1 ?_; refine onc (impl_isMap.calls k a0 a1 _ _ l2 _ _ l3 _ _ l4 true _ (cb G2) L2.out (cb G3) L3.out (cb G4) L4.out T1.out) rfl ?_; rintro e w3 ⟨rfl, hb⟩; refine ⟨_, rfl, ?_⟩; replace BX := BX.b hb; replace BR := BR.b hb; replace HB := Bw.sw w hb; clear hb; obtain ⟨hc0, hc1, hc2, hc3, hc4, hf0, hf1, hf2, hf3, hf4⟩ := blk5 BX.h; obtain ⟨gc0, gc1, gc2, gc3, gc4, gf0, gf1, gf2, gf3, gf4⟩ := blk5 BR.h; have hnb := NB.out; have hnc := NB.out.symm; simp only [Act.put, List.setIfInBounds_toArray, List.set_cons_zero, List.set_cons_succ])
      | ((with_reducible refine gate_dst (N := 14) rfl ?_); refine gg (some 14) rfl rfl rfl frG3 ?_; refine onc (impl_copyValue.dcalls k _ _ _ _ _ _ _ _ _ _ _ t1 t2 t3 t4 t5 _ (cb G2) L2.out (cb G3) L3.out (cb G4) L4.out T2.out) rfl ?_; rintro e w5 ⟨v2, v3, v4, rfl, hD, hb⟩; obtain ⟨B2, f2, B3, f3, B4, f4, ec, m2, q2, m3, q3, m4, q4⟩ := k30_open (dV_toK (dV.K_of_M hD)); simp only [List.cons.injEq] at ec; obtain ⟨-, -, rfl, rfl, rfl, -⟩ := ec; have M2 := Aside0.mk m2; have M3 := Aside0.mk m3; have M4 := Aside0.mk m4; clear m2 m3 m4; have Q2 := Aside0.mk q2; have Q3 := Aside0.mk q3; have Q4 := Aside0.mk q4; clear q2 q3 q4; refine ⟨_, rfl, ?_⟩; have NG := Aside0.mk BR.lt; replace BX := BX.b hb; replace BR := BR.b hb; have HD := Aside0.mk hD; have GL := Aside0.mk HB.out.size; have GB := Aside0.mk hb.size; replace HB := Bw.sw w hb; clear hb hD; obtain ⟨gc0, gc1, gc2, gc3, gc4, gf0, gf1, gf2, gf3, gf4⟩ := blk5 BR.h; simp only [Act.put, List.setIfInBounds_toArray, List.set_cons_zero, List.set_cons_succ])
      | ((with_reducible refine gate_dst (N := 6) rfl ?_); refine alst (bs := #[.int .i64 t1, .int .i64 t2, .slice B2 t3.length f2, .slice B3 t4.length f3, .slice B4 t5.length f4]) (cs := #[.int .i64 0, .int .i64 0, .slice none 0 0, .slice none 0 0, .slice none 0 0]) 6 rfl rfl rfl rfl rfl rfl (fun _ => rfl) (fun _ => rfl) (by kernel_rfl) rfl (by simp [Value.oneCell']) ?_; intro gp w6 BP hb6 hle hlt; have NP := Aside0.mk (Nat.ne_of_lt (Nat.lt_of_lt_of_le BR.lt hle)); have GP := Aside0.mk hle; have H57 := Aside0.mk hb6; replace BR := BR.b hb6; replace HB := Bw.sw w hb6; clear hb6 hle hlt; obtain ⟨gc0, gc1, gc2, gc3, gc4, gf0, gf1, gf2, gf3, gf4⟩ := blk5 BR.h; obtain ⟨kc0, kc1, kc2, kc3, kc4, kf0, kf1, kf2, kf3, kf4⟩ := blk5 BP.h; have hnd := NP.out; have hne := NP.out.symm; simp only [Act.put, List.setIfInBounds_toArray, List.set_cons_zero, List.set_cons_succ])
      | ((with_reducible refine gate_dst (N := 18) rfl ?_); refine gg (some 18) rfl rfl rfl frG2 ?_; refine onc (impl_Value_keyAt.calls k t1 t2 _ _ t3 _ _ t4 _ _ t5 _ _ l1 at_ false _ (Kd.C_below Q2.out H57.out) M2.out (Kd.C_below Q3.out H57.out) M3.out (Kd.C_below Q4.out H57.out) M4.out (cb G1) L1.out T3.out) rfl ?_; rintro e w7 ⟨rfl, hb⟩; refine ⟨_, rfl, ?_⟩; replace BP := BP.b hb; replace BR := BR.b hb; replace H57 := Aside0.mk (below_step H57.out hb); replace HB := Bw.sw w hb; clear hb; obtain ⟨gc0, gc1, gc2, gc3, gc4, gf0, gf1, gf2, gf3, gf4⟩ := blk5 BR.h; obtain ⟨kc0, kc1, kc2, kc3, kc4, kf0, kf1, kf2, kf3, kf4⟩ := blk5 BP.h; have hnd := NP.out; have hne := NP.out.symm; simp only [Act.put, List.setIfInBounds_toArray, List.set_cons_zero, List.set_cons_succ]))
    refine bodyPost_ret (results_ct rfl _ _ gr 30 #[.int .i64 t1, .int .i64 t2, .slice B2 t3.length f2, .slice B3 t4.length f3, .slice B4 t5.length f4] (0, 0) _ rfl (BR).sets5.h Try.underlying30 rfl (by kernel_rfl)) rfl ?_
    refine ⟨_, rfl, Own.of (ok := fun _ => True) (dV.M_lower GL.out (dV.M_mono (fun _ _ => trivial) (dV.M_move (fun z hz => ?_) (dV.M_bound HD.out)))) (M.Below.sets5 HB.out GE.out).size, M.Below.sets5 HB.out GE.out⟩
    have hzg : z ≠ gr := fun e => by have := hz.2.1; rw [e] at this; exact Nat.not_lt.2 this NG.out
    exact (heap_sets5 hzg).trans (H57.out.block z hz.2.2.1)
  | true =>
  rw [if_pos rfl] at h; have h9 := yesN h; clear h; obtain ⟨⟨p0, p3, p4, q3, q4⟩, h⟩ := h9; obtain ⟨rfl, rfl⟩ := Prod.mk.inj (Option.some.inj h); clear h
  obtain ⟨p, rfl⟩ : ∃ p : Nat, at_ = p := ⟨at_.toNat, by omega⟩
  rw [Int.toNat_natCast] at p3 p4 ⊢; clear p0
  go_enter Try.func28, Try.ntmps28
  go_wp2_with (first
    | ((with_reducible refine gate_dst (N := 2) rfl ?_); refine bxb (bs := #[.int .i64 a0, .int .i64 a1, .slice A2 l2.length c2, .slice A3 l3.length c3, .slice A4 l4.length c4]) 2 rfl rfl rfl rfl ?_; intro gb w1 BX hb1 hle hlt; replace HB := Bw.sw w hb1; clear hb1 hle hlt; obtain ⟨hc0, hc1, hc2, hc3, hc4, hf0, hf1, hf2, hf3, hf4⟩ := blk5 BX.h; simp only [Act.put, List.setIfInBounds_toArray, List.set_cons_zero, List.set_cons_succ])
    | ((with_reducible refine gate_dst (N := 4) rfl ?_); refine alb (n := 5) (cs := #[.int .i64 0, .int .i64 0, .slice none 0 0, .slice none 0 0, .slice none 0 0]) 4 rfl rfl rfl (by kernel_rfl) ?_; intro gr w2 BR hb2 hle hlt; have NB := Aside0.mk (Nat.ne_of_lt (Nat.lt_of_lt_of_le BX.lt hle)); have GE := Aside0.mk (Nat.le_trans HB.out.size hle); replace BX := BX.b hb2; replace HB := Bw.sw w hb2; clear hb2 hle hlt; obtain ⟨hc0, hc1, hc2, hc3, hc4, hf0, hf1, hf2, hf3, hf4⟩ := blk5 BX.h; simp only [Act.put, List.setIfInBounds_toArray, List.set_cons_zero, List.set_cons_succ])
    | ((with_reducible refine gate_dst (N := 10) rfl ?_); refine gg (some 10) rfl rfl rfl frG1 ?_; refine onc (impl_isMap.calls k a0 a1 _ _ l2 _ _ l3 _ _ l4 true _ (cb G2) L2.out (cb G3) L3.out (cb G4) L4.out T1.out) rfl ?_; rintro e w3 ⟨rfl, hb⟩; refine ⟨_, rfl, ?_⟩; replace BX := BX.b hb; replace BR := BR.b hb; replace HB := Bw.sw w hb; clear hb; obtain ⟨hc0, hc1, hc2, hc3, hc4, hf0, hf1, hf2, hf3, hf4⟩ := blk5 BX.h; obtain ⟨gc0, gc1, gc2, gc3, gc4, gf0, gf1, gf2, gf3, gf4⟩ := blk5 BR.h; have hnb := NB.out; have hnc := NB.out.symm; simp only [Act.put, List.setIfInBounds_toArray, List.set_cons_zero, List.set_cons_succ])
    | ((with_reducible refine gate_dst (N := 14) rfl ?_); refine gg (some 14) rfl rfl rfl frG3 ?_; refine onc (impl_copyValue.dcalls k _ _ _ _ _ _ _ _ _ _ _ t1 t2 t3 t4 t5 _ (cb G2) L2.out (cb G3) L3.out (cb G4) L4.out T2.out) rfl ?_; rintro e w5 ⟨v2, v3, v4, rfl, hD, hb⟩; obtain ⟨B2, f2, B3, f3, B4, f4, ec, m2, q2, m3, q3, m4, q4⟩ := k30_open (dV_toK (dV.K_of_M hD)); simp only [List.cons.injEq] at ec; obtain ⟨-, -, rfl, rfl, rfl, -⟩ := ec; have M2 := Aside0.mk m2; have M3 := Aside0.mk m3; have M4 := Aside0.mk m4; clear m2 m3 m4; have Q2 := Aside0.mk q2; have Q3 := Aside0.mk q3; have Q4 := Aside0.mk q4; clear q2 q3 q4; refine ⟨_, rfl, ?_⟩; have NG := Aside0.mk BR.lt; replace BX := BX.b hb; replace BR := BR.b hb; have HD := Aside0.mk hD; have GL := Aside0.mk HB.out.size; have GB := Aside0.mk hb.size; replace HB := Bw.sw w hb; clear hb hD; obtain ⟨gc0, gc1, gc2, gc3, gc4, gf0, gf1, gf2, gf3, gf4⟩ := blk5 BR.h; simp only [Act.put, List.setIfInBounds_toArray, List.set_cons_zero, List.set_cons_succ])
    | ((with_reducible refine gate_dst (N := 6) rfl ?_); refine alst (bs := #[.int .i64 t1, .int .i64 t2, .slice B2 t3.length f2, .slice B3 t4.length f3, .slice B4 t5.length f4]) (cs := #[.int .i64 0, .int .i64 0, .slice none 0 0, .slice none 0 0, .slice none 0 0]) 6 rfl rfl rfl rfl rfl rfl (fun _ => rfl) (fun _ => rfl) (by kernel_rfl) rfl (by simp [Value.oneCell']) ?_; intro gp w6 BP hb6 hle hlt; have NP := Aside0.mk (Nat.ne_of_lt (Nat.lt_of_lt_of_le BR.lt hle)); have GP := Aside0.mk hle; have H57 := Aside0.mk hb6; replace BR := BR.b hb6; replace HB := Bw.sw w hb6; clear hb6 hle hlt; obtain ⟨gc0, gc1, gc2, gc3, gc4, gf0, gf1, gf2, gf3, gf4⟩ := blk5 BR.h; obtain ⟨kc0, kc1, kc2, kc3, kc4, kf0, kf1, kf2, kf3, kf4⟩ := blk5 BP.h; have hnd := NP.out; have hne := NP.out.symm; simp only [Act.put, List.setIfInBounds_toArray, List.set_cons_zero, List.set_cons_succ])
    | ((with_reducible refine gate_dst (N := 18) rfl ?_); refine gg (some 18) rfl rfl rfl frG2 ?_; refine onc (impl_Value_keyAt.calls k t1 t2 _ _ t3 _ _ t4 _ _ t5 _ _ l1 (p : Int) true _ (Kd.C_below Q2.out H57.out) M2.out (Kd.C_below Q3.out H57.out) M3.out (Kd.C_below Q4.out H57.out) M4.out (cb G1) L1.out T3.out) rfl ?_; rintro e w7 ⟨rfl, hb⟩; refine ⟨_, rfl, ?_⟩; replace BP := BP.b hb; replace BR := BR.b hb; replace H57 := Aside0.mk (below_step H57.out hb); replace HB := Bw.sw w hb; clear hb; obtain ⟨gc0, gc1, gc2, gc3, gc4, gf0, gf1, gf2, gf3, gf4⟩ := blk5 BR.h; obtain ⟨kc0, kc1, kc2, kc3, kc4, kf0, kf1, kf2, kf3, kf4⟩ := blk5 BP.h; have hnd := NP.out; have hne := NP.out.symm; simp only [Act.put, List.setIfInBounds_toArray, List.set_cons_zero, List.set_cons_succ])
    | ((with_reducible refine gate_dst (N := 27) rfl ?_); refine gg (some 27) rfl rfl rfl frG4 ?_; obtain ⟨o2, o3, o4, P2, P3, P4, b2, b3, b4, d23, d24, d34⟩ := dV_parts HD.out; replace P2 := Aside0.mk P2; replace P3 := Aside0.mk P3; replace P4 := Aside0.mk P4; replace b2 := Aside0.mk b2; replace b3 := Aside0.mk b3; replace b4 := Aside0.mk b4; replace d23 := Aside0.mk d23; replace d24 := Aside0.mk d24; replace d34 := Aside0.mk d34; refine onc (del_texts t4 _ p _ _ _ p3 (by omega) (Nat.le_trans GB.out H57.out.size) (Kd.S_below P3.out H57.out)) rfl ?_; rintro e w8 ⟨v3, rfl, h3, hb, i3, ho3, hg⟩; refine ⟨_, rfl, ?_⟩; have i3o := Aside0.mk ((Kd.S_R P3.out).1 _ ho3); clear ho3; have np : gp ≠ i3 := (fun e => by have := (b3.out _ i3o.out).2; rw [← e] at this; exact Nat.not_lt.2 GP.out this); have nr : gr ≠ i3 := (fun e => by have := (b3.out _ i3o.out).1; rw [← e] at this; exact Nat.not_lt.2 this NG.out); replace BP := BP.grown hg (fun e => np (by injection e)); replace BR := BR.grown hg (fun e => nr (by injection e)); clear np nr; obtain ⟨A5, c5, e5⟩ := Kd.S_slice h3; subst e5; replace h3 := Aside0.mk h3; have HG := Aside0.mk hg; replace HB := Bw.mk (w := w) (HB.out.trans (hb.mono GL.out)); clear hb hg; obtain ⟨gc0, gc1, gc2, gc3, gc4, gf0, gf1, gf2, gf3, gf4⟩ := blk5 BR.h; obtain ⟨kc0, kc1, kc2, kc3, kc4, kf0, kf1, kf2, kf3, kf4⟩ := blk5 BP.h; have hnd := NP.out; have hne := NP.out.symm; simp only [Act.put, List.setIfInBounds_toArray, List.set_cons_zero, List.set_cons_succ])
    | ((with_reducible refine gate_dst (N := 34) rfl ?_); refine gg (some 34) rfl rfl rfl frG5 ?_; have P4b := Kd.S_move (w1 := w8.setCell ⟨gp, 3, none⟩ (.slice A5 (t4.eraseIdx p).length c5)) P4.out (fun z hz => keep_set H57.out HG.out GP.out (b4.out z hz).2 (fun e => d34.out _ i3o.out (e ▸ hz))); refine onc (del_values t5 _ p _ _ _ p4 (by omega) (by simpa using Nat.le_trans GB.out (Nat.le_trans H57.out.size HG.out.size)) P4b) rfl ?_; rintro e w9 ⟨v4, rfl, h4, hb, i4, ho4, hg⟩; refine ⟨_, rfl, ?_⟩; have i4o := Aside0.mk ((Kd.S_R P4.out).1 _ ho4); clear ho4 P4b; have np : gp ≠ i4 := (fun e => by have := (b4.out _ i4o.out).2; rw [← e] at this; exact Nat.not_lt.2 GP.out this); have nr : gr ≠ i4 := (fun e => by have := (b4.out _ i4o.out).1; rw [← e] at this; exact Nat.not_lt.2 this NG.out); have BP0 : Bx (w8.setCell ⟨gp, 3, none⟩ (.slice A5 (t4.eraseIdx p).length c5)) gp 30 _ := ⟨blk_set BP.h 3 _⟩; replace BP := BP0.grown hg (fun e => np (by injection e)); replace BR := (Bx.other BR NP.out).grown hg (fun e => nr (by injection e)); clear np nr BP0; obtain ⟨A6, c6, e6⟩ := Kd.S_slice h4; subst e6; replace h4 := Aside0.mk h4; have HG2 := Aside0.mk hg; replace HB := Bw.mk (w := w) ((Below.ofWr HB.out Wr.one (fun z hz => by rw [hz]; exact Nat.le_trans GL.out (Nat.le_trans GB.out GP.out))).trans (hb.mono GL.out)); clear hb hg; obtain ⟨gc0, gc1, gc2, gc3, gc4, gf0, gf1, gf2, gf3, gf4⟩ := blk5 BR.h; obtain ⟨kc0, kc1, kc2, kc3, kc4, kf0, kf1, kf2, kf3, kf4⟩ := blk5 BP.h; have hnd := NP.out; have hne := NP.out.symm; simp only [Act.put, List.setIfInBounds_toArray, List.set_cons_zero, List.set_cons_succ]))
  refine bodyPost_ret (results_ct rfl _ _ gr 30 #[.int .i64 t1, .int .i64 t2, .slice B2 t3.length f2, .slice A5 (t4.eraseIdx p).length c5, .slice A6 (t5.eraseIdx p).length c6] (0, 0) _ rfl (Bx.other BR NP.out).sets5.h Try.underlying30 rfl (by kernel_rfl)) rfl ?_
  have HB2 := Below.ofWr (W' := w9.setCell ⟨gp, 4, none⟩ (.slice A6 (t5.eraseIdx p).length c6)) HB.out Wr.one (fun z hz => by rw [hz]; exact Nat.le_trans GL.out (Nat.le_trans GB.out GP.out))
  exact ⟨_, rfl, Own.of (ok := fun _ => True) (dV.M_lower GL.out (drop_end P2.out h3.out h4.out b2.out b3.out b4.out d23.out d24.out d34.out H57.out i3o.out HG.out i4o.out HG2.out GP.out NG.out)) (M.Below.sets5 HB2 GE.out).size, M.Below.sets5 HB2 GE.out⟩
-- KC spec_ValDrop {"params":[["agg",30,["f0","f1","f2","f3","f4"]],["slice","(Kd.int .u8)",5,"List Int"]],"res":["tuple",[["agg",30,["f0","f1","f2","f3","f4"],"P"],["bool"]]],"hasK":true,"fn":27}
theorem frL1 : Fr Try.prog 52 := ⟨_, Try.func52, by kernel_rfl, rfl⟩
theorem frL2 : Fr Try.prog 53 := ⟨_, Try.func53, by kernel_rfl, rfl⟩
theorem frL3 : Fr Try.prog 54 := ⟨_, Try.func54, by kernel_rfl, rfl⟩
theorem frL4 : Fr Try.prog 71 := ⟨_, Try.func71, by kernel_rfl, rfl⟩
theorem heapV : Kd.Heap k30 := Kd.heap_fix (fun d hd => by unfold F30; first | exact Kd.heap_iso _ (Kd.heap_pair (Kd.heap_int _) (Kd.heap_pair (Kd.heap_int _) (Kd.heap_pair (Kd.heap_slice _ (Kd.heap_int _)) (Kd.heap_pair (Kd.heap_slice _ (Kd.heap_slice _ (Kd.heap_int _))) (Kd.heap_slice _ hd))))))
theorem k_zero (w : World) (base : Nat) (ok : Nat → Prop) : k30.M w base ok ⟨0, 0, [], [], []⟩ [.int .i64 0, .int .i64 0, .slice none 0 0, .slice none 0 0, .slice none 0 0] :=
  k30_mkM w base ok ⟨0, 0, [], [], []⟩ (Kd.R_nil _ _ _ _ _) (Kd.R_nil _ _ _ _ _) (Kd.R_nil _ _ _ _ _)
/-- l2own, what it gives in one. -/
theorem l2own_m (k : Nat) (x : S30) (A2 : Option Addr) (c2 : Nat) (A3 : Option Addr) (c3 : Nat) (A4 : Option Addr) (c4 : Nat) (t1 t2 : Int) (t3 : List Int) (t4 : List (List Int)) (t5 : List S30) (w : World)
    (g2 : Kd.C (Kd.int .u8) w A2 x.f2.length x.f2) (m2 : x.f2.length ≤ c2) (g3 : Kd.C (Kd.slice 5 (Kd.int .u8)) w A3 x.f3.length x.f3) (m3 : x.f3.length ≤ c3) (g4 : Kd.C k30 w A4 x.f4.length x.f4) (m4 : x.f4.length ≤ c4) (h : spec_l2own.f k x.f0 x.f1 x.f2 x.f3 x.f4 = some (t1, t2, t3, t4, t5)) :
    Calls Try.prog 54 #[.agg #[.int .i64 x.f0, .int .i64 x.f1, .slice A2 x.f2.length c2, .slice A3 x.f3.length c3, .slice A4 x.f4.length c4]] w fun e w' => ∃ B2 f2 B3 f3 B4 f4, e = .returned (.agg #[.int .i64 t1, .int .i64 t2, .slice B2 t3.length f2, .slice B3 t4.length f3, .slice B4 t5.length f4]) ∧ k30.M w' w.heap.size (fun _ => True) ⟨t1, t2, t3, t4, t5⟩ [.int .i64 t1, .int .i64 t2, .slice B2 t3.length f2, .slice B3 t4.length f3, .slice B4 t5.length f4] ∧ Below w.heap.size w w' := by
  refine (spec_l2own.calls k _ _ _ _ _ _ _ _ _ _ _ t1 t2 t3 t4 t5 w g2 m2 g3 m3 g4 m4 h).mono ?_
  rintro e w' ⟨v2, v3, v4, rfl, h2, h3, h4, hb⟩
  obtain ⟨B2, f2, rfl⟩ := Kd.R_slice h2; obtain ⟨B3, f3, rfl⟩ := Kd.S_slice h3; obtain ⟨B4, f4, rfl⟩ := Kd.R_slice h4
  exact ⟨_, _, _, _, _, _, rfl, k30_mkM w' w.heap.size (fun _ => True) ⟨t1, t2, t3, t4, t5⟩ (Kd.R_mono h2 (fun _ _ => trivial)) (Kd.R_mono (Kd.S_R h3) (fun _ _ => trivial)) (Kd.R_mono h4 (fun _ _ => trivial)), hb⟩
set_option maxRecDepth 100000 in
set_option maxHeartbeats 8000000 in
theorem spec_ValDrop.kc (k : Nat) (x0 : S30) (b0 : Array Value) (l1 : List Int) (v1 : Value) (y1 : S30) (r6 : Bool) (w : World) (h0 : Rd k30 w x0 b0.toList) (h1 : Rd (Kd.slice 5 (Kd.int .u8)) w l1 [v1]) (h : spec_ValDrop.f k x0.f0 x0.f1 x0.f2 x0.f3 x0.f4 l1 = some (y1.f0, y1.f1, y1.f2, y1.f3, y1.f4, r6)) :
    Calls Try.prog 27 #[.agg b0, v1] w fun e w' => ∃ b : Array Value, e = .returned (.tuple #[.agg b, .bool r6]) ∧ Own k30 w' w.heap.size w'.heap.size y1 b.toList ∧ Below w.heap.size w w' := by
  obtain ⟨A2, c2, A3, c3, A4, c4, e0, lc2, g2, lc3, g3, lc4, g4⟩ := k30_open h0.k; obtain ⟨a0, a1, l2, l3, l4⟩ := x0; obtain ⟨y10, y11, y12, y13, y14⟩ := y1
  obtain rfl : b0 = #[.int .i64 a0, .int .i64 a1, .slice A2 l2.length c2, .slice A3 l3.length c3, .slice A4 l4.length c4] := by rw [← b0.toArray_toList, e0]
  simp only at lc2 g2 lc3 g3 lc4 g4
  obtain ⟨A1, c1, e1, lc1, g1⟩ := h1.k
  injection e1 with e1
  subst e1; have hu := Try.underlying30; have G1 := Aside0.mk g1; have L1 := Aside0.mk lc1; have G2 := Aside0.mk g2; have L2 := Aside0.mk lc2; have G3 := Aside0.mk g3; have L3 := Aside0.mk lc3; have G4 := Aside0.mk g4; have L4 := Aside0.mk lc4; have HB := Bw.refl w; clear g1 g2 g3 g4 lc1 lc2 lc3 lc4 e0 h0 h1; unfold spec_ValDrop.f at h
  dsimp only at h
  have h9 := bnd h; clear h; obtain ⟨t, T1, h⟩ := h9; replace T1 := Aside0.mk T1
  have hk : k = 0 ∨ ∃ kj, k = kj + 1 := by cases k with | zero => exact .inl rfl | succ n => exact .inr ⟨n, rfl⟩
  obtain rfl | ⟨kj, rfl⟩ := hk
  · cases t <;> simp [spec_ValDrop.j0] at h
  cases t with
  | false =>
    rw [if_neg (by decide), spec_ValDrop.j0, if_pos rfl] at h
    simp only [Option.some.injEq, Prod.mk.injEq] at h
    obtain ⟨rfl, rfl, rfl, rfl, rfl, rfl⟩ := h
    go_enter Try.func27, Try.ntmps27
    go_wp2_with (first
      | ((with_reducible refine gate_dst (N := 2) rfl ?_); refine bxb (bs := #[.int .i64 a0, .int .i64 a1, .slice A2 l2.length c2, .slice A3 l3.length c3, .slice A4 l4.length c4]) 2 rfl rfl rfl rfl ?_; intro gb w1 BX hb1 hle hlt; replace HB := Bw.sw w hb1; clear hb1 hle hlt; obtain ⟨hc0, hc1, hc2, hc3, hc4, hf0, hf1, hf2, hf3, hf4⟩ := blk5 BX.h; simp only [Act.put, List.setIfInBounds_toArray, List.set_cons_zero, List.set_cons_succ])
      | ((with_reducible refine gate_dst (N := 4) rfl ?_); refine alb (n := 5) (cs := #[.int .i64 0, .int .i64 0, .slice none 0 0, .slice none 0 0, .slice none 0 0]) 4 rfl rfl rfl (by kernel_rfl) ?_; intro gr w2 BR hb2 hle hlt; have NB := Aside0.mk (Nat.ne_of_lt (Nat.lt_of_lt_of_le BX.lt hle)); have GE := Aside0.mk (Nat.le_trans HB.out.size hle); replace BX := BX.b hb2; replace HB := Bw.sw w hb2; clear hb2 hle hlt; obtain ⟨hc0, hc1, hc2, hc3, hc4, hf0, hf1, hf2, hf3, hf4⟩ := blk5 BX.h; simp only [Act.put, List.setIfInBounds_toArray, List.set_cons_zero, List.set_cons_succ])
      | ((with_reducible refine gate_dst (N := 8) rfl ?_); refine gg (some 8) rfl rfl rfl frL1 ?_; refine onc (spec_ValOk.calls (kj + 1) a0 a1 _ _ l2 _ _ l3 _ _ l4 false _ (cb G2) L2.out (cb G3) L3.out (cb G4) L4.out T1.out) rfl ?_; rintro e w3 ⟨rfl, hb⟩; refine ⟨_, rfl, ?_⟩; replace BX := BX.b hb; replace BR := BR.b hb; replace HB := Bw.sw w hb; clear hb; obtain ⟨hc0, hc1, hc2, hc3, hc4, hf0, hf1, hf2, hf3, hf4⟩ := blk5 BX.h; obtain ⟨gc0, gc1, gc2, gc3, gc4, gf0, gf1, gf2, gf3, gf4⟩ := blk5 BR.h; have hnb := NB.out; have hnc := NB.out.symm; simp only [Act.put, List.setIfInBounds_toArray, List.set_cons_zero, List.set_cons_succ]))
    refine bodyPost_ret (results_ct rfl _ _ gr 30 #[.int .i64 0, .int .i64 0, .slice none 0 0, .slice none 0 0, .slice none 0 0] (0, 0) _ rfl BR.sets5.h Try.underlying30 rfl (by kernel_rfl)) rfl ?_
    exact ⟨_, rfl, Own.of (k_zero _ _ (fun _ => True)) (M.Below.sets5 HB.out GE.out).size, M.Below.sets5 HB.out GE.out⟩
  | true =>
    rw [if_pos rfl, spec_ValDrop.j0] at h
    by_cases c5 : a0 = 5
    · subst c5
      rw [if_neg (by decide)] at h
      have h9 := bnd h; clear h; obtain ⟨i, T2, h⟩ := h9; replace T2 := Aside0.mk T2
      by_cases ci : i < 0
      · rw [if_pos ci] at h
        have cb0 : decide (i < 0) = true := decide_eq_true ci; have h9 := bnd h; clear h; obtain ⟨⟨t1, t2, t3, t4, t5⟩, T3, h⟩ := h9; replace T3 := Aside0.mk T3
        simp only [Option.some.injEq, Prod.mk.injEq] at h
        obtain ⟨rfl, rfl, rfl, rfl, rfl, rfl⟩ := h
        go_enter Try.func27, Try.ntmps27
        go_wp2_with (first
          | ((with_reducible refine gate_dst (N := 2) rfl ?_); refine bxb (bs := #[.int .i64 5, .int .i64 a1, .slice A2 l2.length c2, .slice A3 l3.length c3, .slice A4 l4.length c4]) 2 rfl rfl rfl rfl ?_; intro gb w1 BX hb1 hle hlt; replace HB := Bw.sw w hb1; clear hb1 hle hlt; obtain ⟨hc0, hc1, hc2, hc3, hc4, hf0, hf1, hf2, hf3, hf4⟩ := blk5 BX.h; simp only [Act.put, List.setIfInBounds_toArray, List.set_cons_zero, List.set_cons_succ])
          | ((with_reducible refine gate_dst (N := 4) rfl ?_); refine alb (n := 5) (cs := #[.int .i64 0, .int .i64 0, .slice none 0 0, .slice none 0 0, .slice none 0 0]) 4 rfl rfl rfl (by kernel_rfl) ?_; intro gr w2 BR hb2 hle hlt; have NB := Aside0.mk (Nat.ne_of_lt (Nat.lt_of_lt_of_le BX.lt hle)); have GE := Aside0.mk (Nat.le_trans HB.out.size hle); replace BX := BX.b hb2; replace HB := Bw.sw w hb2; clear hb2 hle hlt; obtain ⟨hc0, hc1, hc2, hc3, hc4, hf0, hf1, hf2, hf3, hf4⟩ := blk5 BX.h; simp only [Act.put, List.setIfInBounds_toArray, List.set_cons_zero, List.set_cons_succ])
          | ((with_reducible refine gate_dst (N := 8) rfl ?_); refine gg (some 8) rfl rfl rfl frL1 ?_; refine onc (spec_ValOk.calls (kj + 1) 5 a1 _ _ l2 _ _ l3 _ _ l4 true _ (cb G2) L2.out (cb G3) L3.out (cb G4) L4.out T1.out) rfl ?_; rintro e w3 ⟨rfl, hb⟩; refine ⟨_, rfl, ?_⟩; replace BX := BX.b hb; replace BR := BR.b hb; replace HB := Bw.sw w hb; clear hb; obtain ⟨hc0, hc1, hc2, hc3, hc4, hf0, hf1, hf2, hf3, hf4⟩ := blk5 BX.h; obtain ⟨gc0, gc1, gc2, gc3, gc4, gf0, gf1, gf2, gf3, gf4⟩ := blk5 BR.h; have hnb := NB.out; have hnc := NB.out.symm; simp only [Act.put, List.setIfInBounds_toArray, List.set_cons_zero, List.set_cons_succ])
          | ((with_reducible refine gate_dst (N := 18) rfl ?_); refine gg (some 18) rfl rfl rfl frL2 ?_; refine onc (spec_l2find.calls kj 5 a1 _ _ l2 _ _ l3 _ _ l4 _ _ l1 i _ (cb G2) L2.out (cb G3) L3.out (cb G4) L4.out (cb G1) L1.out T2.out) rfl ?_; rintro e w4 ⟨rfl, hb⟩; refine ⟨_, rfl, ?_⟩; replace BX := BX.b hb; replace BR := BR.b hb; replace HB := Bw.sw w hb; clear hb; obtain ⟨hc0, hc1, hc2, hc3, hc4, hf0, hf1, hf2, hf3, hf4⟩ := blk5 BX.h; obtain ⟨gc0, gc1, gc2, gc3, gc4, gf0, gf1, gf2, gf3, gf4⟩ := blk5 BR.h; have hnb := NB.out; have hnc := NB.out.symm; simp only [Act.put, List.setIfInBounds_toArray, List.set_cons_zero, List.set_cons_succ])
          | ((with_reducible refine gate_dst (N := 22) rfl ?_); refine gg (some 22) rfl rfl rfl frL3 ?_; refine onc (l2own_m kj ⟨5, a1, l2, l3, l4⟩ _ _ _ _ _ _ t1 t2 t3 t4 t5 _ (cb G2) L2.out (cb G3) L3.out (cb G4) L4.out T3.out) rfl ?_; rintro e w6 ⟨B2, f2, B3, f3, B4, f4, rfl, hD, hb⟩; refine ⟨_, rfl, ?_⟩; have NG := Aside0.mk BR.lt; replace BX := BX.b hb; replace BR := BR.b hb; have HD := Aside0.mk hD; have GL := Aside0.mk HB.out.size; replace HB := Bw.sw w hb; clear hb hD; obtain ⟨gc0, gc1, gc2, gc3, gc4, gf0, gf1, gf2, gf3, gf4⟩ := blk5 BR.h; simp only [Act.put, List.setIfInBounds_toArray, List.set_cons_zero, List.set_cons_succ]))
        refine bodyPost_ret (results_ct rfl _ _ gr 30 #[.int .i64 t1, .int .i64 t2, .slice B2 t3.length f2, .slice B3 t4.length f3, .slice B4 t5.length f4] (0, 0) _ rfl BR.sets5.h Try.underlying30 rfl (by kernel_rfl)) rfl ?_
        refine ⟨_, rfl, Own.of (ok := fun _ => True) (k30.M_lower GL.out (k30.M_mono (fun _ _ => trivial) (k30.M_move (fun z hz => ?_) (k30.M_bound HD.out)))) (M.Below.sets5 HB.out GE.out).size, M.Below.sets5 HB.out GE.out⟩
        have hzg : z ≠ gr := fun e => by have := hz.2.1; rw [e] at this; exact Nat.not_lt.2 this NG.out
        exact heap_sets5 hzg
      · rw [if_neg ci] at h
        have cb0 : decide (i < 0) = false := decide_eq_false ci; have h9 := bnd h; clear h; obtain ⟨⟨d1, d2, d3, d4, d5⟩, T4, h⟩ := h9; replace T4 := Aside0.mk T4; have h9 := bnd h; clear h; obtain ⟨⟨t1, t2, t3, t4, t5⟩, T3, h⟩ := h9; replace T3 := Aside0.mk T3
        simp only [Option.some.injEq, Prod.mk.injEq] at h
        obtain ⟨rfl, rfl, rfl, rfl, rfl, rfl⟩ := h
        go_enter Try.func27, Try.ntmps27
        go_wp2_with (first
          | ((with_reducible refine gate_dst (N := 2) rfl ?_); refine bxb (bs := #[.int .i64 5, .int .i64 a1, .slice A2 l2.length c2, .slice A3 l3.length c3, .slice A4 l4.length c4]) 2 rfl rfl rfl rfl ?_; intro gb w1 BX hb1 hle hlt; replace HB := Bw.sw w hb1; clear hb1 hle hlt; obtain ⟨hc0, hc1, hc2, hc3, hc4, hf0, hf1, hf2, hf3, hf4⟩ := blk5 BX.h; simp only [Act.put, List.setIfInBounds_toArray, List.set_cons_zero, List.set_cons_succ])
          | ((with_reducible refine gate_dst (N := 4) rfl ?_); refine alb (n := 5) (cs := #[.int .i64 0, .int .i64 0, .slice none 0 0, .slice none 0 0, .slice none 0 0]) 4 rfl rfl rfl (by kernel_rfl) ?_; intro gr w2 BR hb2 hle hlt; have NB := Aside0.mk (Nat.ne_of_lt (Nat.lt_of_lt_of_le BX.lt hle)); have GE := Aside0.mk (Nat.le_trans HB.out.size hle); replace BX := BX.b hb2; replace HB := Bw.sw w hb2; clear hb2 hle hlt; obtain ⟨hc0, hc1, hc2, hc3, hc4, hf0, hf1, hf2, hf3, hf4⟩ := blk5 BX.h; simp only [Act.put, List.setIfInBounds_toArray, List.set_cons_zero, List.set_cons_succ])
          | ((with_reducible refine gate_dst (N := 8) rfl ?_); refine gg (some 8) rfl rfl rfl frL1 ?_; refine onc (spec_ValOk.calls (kj + 1) 5 a1 _ _ l2 _ _ l3 _ _ l4 true _ (cb G2) L2.out (cb G3) L3.out (cb G4) L4.out T1.out) rfl ?_; rintro e w3 ⟨rfl, hb⟩; refine ⟨_, rfl, ?_⟩; replace BX := BX.b hb; replace BR := BR.b hb; replace HB := Bw.sw w hb; clear hb; obtain ⟨hc0, hc1, hc2, hc3, hc4, hf0, hf1, hf2, hf3, hf4⟩ := blk5 BX.h; obtain ⟨gc0, gc1, gc2, gc3, gc4, gf0, gf1, gf2, gf3, gf4⟩ := blk5 BR.h; have hnb := NB.out; have hnc := NB.out.symm; simp only [Act.put, List.setIfInBounds_toArray, List.set_cons_zero, List.set_cons_succ])
          | ((with_reducible refine gate_dst (N := 18) rfl ?_); refine gg (some 18) rfl rfl rfl frL2 ?_; refine onc (spec_l2find.calls kj 5 a1 _ _ l2 _ _ l3 _ _ l4 _ _ l1 i _ (cb G2) L2.out (cb G3) L3.out (cb G4) L4.out (cb G1) L1.out T2.out) rfl ?_; rintro e w4 ⟨rfl, hb⟩; refine ⟨_, rfl, ?_⟩; replace BX := BX.b hb; replace BR := BR.b hb; replace HB := Bw.sw w hb; clear hb; obtain ⟨hc0, hc1, hc2, hc3, hc4, hf0, hf1, hf2, hf3, hf4⟩ := blk5 BX.h; obtain ⟨gc0, gc1, gc2, gc3, gc4, gf0, gf1, gf2, gf3, gf4⟩ := blk5 BR.h; have hnb := NB.out; have hnc := NB.out.symm; simp only [Act.put, List.setIfInBounds_toArray, List.set_cons_zero, List.set_cons_succ])
          | ((with_reducible refine gate_dst (N := 25) rfl ?_); refine gg (some 25) rfl rfl rfl frL4 ?_; refine onc (spec_l2drop.calls 5 a1 _ _ l2 (fun z => z < _) _ _ l3 (fun z => z < _) _ _ l4 i d1 d2 d3 d4 d5 _ (cb G2) L2.out (Kd.V_mk L3.out (fun _ hW => Kd.Heap.C (Kd.heap_slice _ (Kd.heap_int _)) (fun z hlt => hW z hlt hlt) (cb G3))) (Kd.V_mk L4.out (fun _ hW => Kd.Heap.C heapV (fun z hlt => hW z hlt hlt) (cb G4))) T4.out) rfl ?_; rintro e w5 ⟨v2, v3, v4, rfl, s2, s3, s4, hb⟩; obtain ⟨D2, e2, rfl⟩ := Kd.R_slice s2; obtain ⟨D3, e3, rfl⟩ := Kd.N_slice s3; obtain ⟨D4, e4, rfl⟩ := Kd.N_slice s4; have S2 := Aside0.mk (Kd.R_reads' s2); have S3 := Aside0.mk (Kd.N_reads' s3); have S4 := Aside0.mk (Kd.N_reads' s4); clear s2 s3 s4; refine ⟨_, rfl, ?_⟩; replace BX := BX.b hb; replace BR := BR.b hb; replace HB := Bw.sw w hb; clear hb; obtain ⟨hc0, hc1, hc2, hc3, hc4, hf0, hf1, hf2, hf3, hf4⟩ := blk5 BX.h; obtain ⟨gc0, gc1, gc2, gc3, gc4, gf0, gf1, gf2, gf3, gf4⟩ := blk5 BR.h; have hnb := NB.out; have hnc := NB.out.symm; simp only [Act.put, List.setIfInBounds_toArray, List.set_cons_zero, List.set_cons_succ])
          | ((with_reducible refine gate_dst (N := 26) rfl ?_); refine gg (some 26) rfl rfl rfl frL3 ?_; refine onc (l2own_m kj ⟨d1, d2, d3, d4, d5⟩ _ _ _ _ _ _ t1 t2 t3 t4 t5 _ S2.out.2.2 S2.out.2.1 S3.out.2.2 S3.out.2.1 S4.out.2.2 S4.out.2.1 T3.out) rfl ?_; rintro e w6 ⟨B2, f2, B3, f3, B4, f4, rfl, hD, hb⟩; refine ⟨_, rfl, ?_⟩; have NG := Aside0.mk BR.lt; replace BX := BX.b hb; replace BR := BR.b hb; have HD := Aside0.mk hD; have GL := Aside0.mk HB.out.size; replace HB := Bw.sw w hb; clear hb hD; obtain ⟨gc0, gc1, gc2, gc3, gc4, gf0, gf1, gf2, gf3, gf4⟩ := blk5 BR.h; simp only [Act.put, List.setIfInBounds_toArray, List.set_cons_zero, List.set_cons_succ]))
        refine bodyPost_ret (results_ct rfl _ _ gr 30 #[.int .i64 t1, .int .i64 t2, .slice B2 t3.length f2, .slice B3 t4.length f3, .slice B4 t5.length f4] (0, 0) _ rfl BR.sets5.h Try.underlying30 rfl (by kernel_rfl)) rfl ?_
        refine ⟨_, rfl, Own.of (ok := fun _ => True) (k30.M_lower GL.out (k30.M_mono (fun _ _ => trivial) (k30.M_move (fun z hz => ?_) (k30.M_bound HD.out)))) (M.Below.sets5 HB.out GE.out).size, M.Below.sets5 HB.out GE.out⟩
        have hzg : z ≠ gr := fun e => by have := hz.2.1; rw [e] at this; exact Nat.not_lt.2 this NG.out
        exact heap_sets5 hzg
    · rw [if_pos (by simpa using c5)] at h
      have cb5 : (a0 == 5) = false := by simpa using c5
      simp only [Option.some.injEq, Prod.mk.injEq] at h
      obtain ⟨rfl, rfl, rfl, rfl, rfl, rfl⟩ := h
      go_enter Try.func27, Try.ntmps27
      go_wp2_with (first
        | ((with_reducible refine gate_dst (N := 2) rfl ?_); refine bxb (bs := #[.int .i64 a0, .int .i64 a1, .slice A2 l2.length c2, .slice A3 l3.length c3, .slice A4 l4.length c4]) 2 rfl rfl rfl rfl ?_; intro gb w1 BX hb1 hle hlt; replace HB := Bw.sw w hb1; clear hb1 hle hlt; obtain ⟨hc0, hc1, hc2, hc3, hc4, hf0, hf1, hf2, hf3, hf4⟩ := blk5 BX.h; simp only [Act.put, List.setIfInBounds_toArray, List.set_cons_zero, List.set_cons_succ])
        | ((with_reducible refine gate_dst (N := 4) rfl ?_); refine alb (n := 5) (cs := #[.int .i64 0, .int .i64 0, .slice none 0 0, .slice none 0 0, .slice none 0 0]) 4 rfl rfl rfl (by kernel_rfl) ?_; intro gr w2 BR hb2 hle hlt; have NB := Aside0.mk (Nat.ne_of_lt (Nat.lt_of_lt_of_le BX.lt hle)); have GE := Aside0.mk (Nat.le_trans HB.out.size hle); replace BX := BX.b hb2; replace HB := Bw.sw w hb2; clear hb2 hle hlt; obtain ⟨hc0, hc1, hc2, hc3, hc4, hf0, hf1, hf2, hf3, hf4⟩ := blk5 BX.h; simp only [Act.put, List.setIfInBounds_toArray, List.set_cons_zero, List.set_cons_succ])
        | ((with_reducible refine gate_dst (N := 8) rfl ?_); refine gg (some 8) rfl rfl rfl frL1 ?_; refine onc (spec_ValOk.calls (kj + 1) a0 a1 _ _ l2 _ _ l3 _ _ l4 true _ (cb G2) L2.out (cb G3) L3.out (cb G4) L4.out T1.out) rfl ?_; rintro e w3 ⟨rfl, hb⟩; refine ⟨_, rfl, ?_⟩; replace BX := BX.b hb; replace BR := BR.b hb; replace HB := Bw.sw w hb; clear hb; obtain ⟨hc0, hc1, hc2, hc3, hc4, hf0, hf1, hf2, hf3, hf4⟩ := blk5 BX.h; obtain ⟨gc0, gc1, gc2, gc3, gc4, gf0, gf1, gf2, gf3, gf4⟩ := blk5 BR.h; have hnb := NB.out; have hnc := NB.out.symm; simp only [Act.put, List.setIfInBounds_toArray, List.set_cons_zero, List.set_cons_succ]))
      refine bodyPost_ret (results_ct rfl _ _ gr 30 #[.int .i64 0, .int .i64 0, .slice none 0 0, .slice none 0 0, .slice none 0 0] (0, 0) _ rfl BR.sets5.h Try.underlying30 rfl (by kernel_rfl)) rfl ?_
      exact ⟨_, rfl, Own.of (k_zero _ _ (fun _ => True)) (M.Below.sets5 HB.out GE.out).size, M.Below.sets5 HB.out GE.out⟩
end Go.Proofs.Ytenpjddjmhjdoaa.PFnExactValDrop
