/- What a function comes to, walked by hand. No condition. -/
import Derived.Test.YtockllljeeakaaaPFnExactLocalsx0
import Derived.Test.YtockllljeeakaaaPFnExactLocalsx5
import Derived.Test.YtockllljeeakaaaMrow
import Derived.Test.YtockllljeeakaaaMcore
import Derived.Test.YtockllljeeakaaaMcmp
import Derived.Shelf.SlSortCmp.NoneTotal
import Derived.Lib.OwnBridge
import Derived.Lib.BufferKept
namespace Go.Proofs.Ytockllljeeakaaa.PFnExactLocals
open Go.RowKit Go.Proofs.YtockllljeeakaaaW.PrintWords Go.Proofs.YtockllljeeakaaaW.PrintLast Go.Proofs.YtockllljeeakaaaW.PrintMore Go.Proofs.Ytockllljeeakaaa.M
attribute [local go_sem] max2_int min2_int max_two min_two max_three min_three max_four min_four Go.Proofs.Ytockllljeeakaaa.M.str_gtr Go.Proofs.Ytockllljeeakaaa.M.str_leq Go.Proofs.Ytockllljeeakaaa.M.str_geq   -- for this text's walks alone
set_option linter.unusedVariables false
set_option linter.unusedSimpArgs false
open Go.Shelf Go.Lib Go.Sort
def sortL_ren : Go.Shelf.Ren := ⟨fun | 6 => 84 | 15 => 124 | 14 => 123 | 28 => 155 | 29 => 156 | 20 => 147 | 21 => 148 | 22 => 149 | 23 => 150 | 24 => 151 | 25 => 152 | 26 => 153 | 27 => 154 | 46 => 163 | 47 => 164 | 48 => 165 | 49 => 166 | 50 => 167 | 57 => 170 | n => n, fun | 22 => 23 | 24 => 22 | 25 => 110 | 3 => 3 | 39 => 136 | 0 => 0 | 53 => 165 | 55 => 167 | 4 => 4 | 46 => 158 | 45 => 157 | 50 => 162 | 5 => 5 | 9 => 9 | 66 => 172 | 70 => 176 | 76 => 179 | 77 => 180 | n => n, fun n => n⟩
theorem sortL : SlLaysF.n6 Try.prog sortL_ren where
  mixed := by kernel_rfl
  f6 := ⟨"slices.SortFunc[[][]byte,[]byte]", of_decide_eq_true (by kernel_rfl), Try.func84.trans (congrArg some (by kernel_rfl))⟩
  f14 := ⟨"slices.pdqsortCmpFunc[[]byte]", of_decide_eq_true (by kernel_rfl), Try.func123.trans (congrArg some (by kernel_rfl))⟩
  f15 := Try.func124.trans (congrArg some (by kernel_rfl))
  f20 := ⟨"slices.insertionSortCmpFunc[[]byte]", of_decide_eq_true (by kernel_rfl), Try.func147.trans (congrArg some (by kernel_rfl))⟩
  f21 := ⟨"slices.heapSortCmpFunc[[]byte]", of_decide_eq_true (by kernel_rfl), Try.func148.trans (congrArg some (by kernel_rfl))⟩
  f22 := ⟨"slices.breakPatternsCmpFunc[[]byte]", of_decide_eq_true (by kernel_rfl), Try.func149.trans (congrArg some (by kernel_rfl))⟩
  f23 := ⟨"slices.choosePivotCmpFunc[[]byte]", of_decide_eq_true (by kernel_rfl), Try.func150.trans (congrArg some (by kernel_rfl))⟩
  f24 := ⟨"slices.reverseRangeCmpFunc[[]byte]", of_decide_eq_true (by kernel_rfl), Try.func151.trans (congrArg some (by kernel_rfl))⟩
  f25 := ⟨"slices.partialInsertionSortCmpFunc[[]byte]", of_decide_eq_true (by kernel_rfl), Try.func152.trans (congrArg some (by kernel_rfl))⟩
  f26 := ⟨"slices.partitionEqualCmpFunc[[]byte]", of_decide_eq_true (by kernel_rfl), Try.func153.trans (congrArg some (by kernel_rfl))⟩
  f27 := ⟨"slices.partitionCmpFunc[[]byte]", of_decide_eq_true (by kernel_rfl), Try.func154.trans (congrArg some (by kernel_rfl))⟩
  f28 := Try.func155.trans (congrArg some (by kernel_rfl))
  f29 := Try.func156.trans (congrArg some (by kernel_rfl))
  f46 := ⟨"slices.siftDownCmpFunc[[]byte]", of_decide_eq_true (by kernel_rfl), Try.func163.trans (congrArg some (by kernel_rfl))⟩
  f47 := Try.func164.trans (congrArg some (by kernel_rfl))
  f48 := Try.func165.trans (congrArg some (by kernel_rfl))
  f49 := ⟨"slices.medianAdjacentCmpFunc[[]byte]", of_decide_eq_true (by kernel_rfl), Try.func166.trans (congrArg some (by kernel_rfl))⟩
  f50 := ⟨"slices.medianCmpFunc[[]byte]", of_decide_eq_true (by kernel_rfl), Try.func167.trans (congrArg some (by kernel_rfl))⟩
  f57 := ⟨"slices.order2CmpFunc[[]byte]", of_decide_eq_true (by kernel_rfl), Try.func170.trans (congrArg some (by kernel_rfl))⟩
  t0 := Try.underlying0
  a0 := Try.isAgg0
  z0 := Try.sizeOf0
  v0 := Try.zeroValue0
  t3 := Try.underlying3
  a3 := Try.isAgg3
  z3 := Try.sizeOf3
  v3 := Try.zeroValue3
  t4 := Try.underlying4
  a4 := Try.isAgg4
  z4 := Try.sizeOf4
  v4 := Try.zeroValue4
  t5 := Try.underlying5
  a5 := Try.isAgg5
  z5 := Try.sizeOf5
  v5 := Try.zeroValue5
  t9 := Try.underlying9
  a9 := Try.isAgg9
  z9 := Try.sizeOf9
  v9 := Try.zeroValue9
  t22 := Try.underlying23
  a22 := Try.isAgg23
  z22 := Try.sizeOf23
  v22 := Try.zeroValue23
  a24 := Try.isAgg22
  z24 := Try.sizeOf22
  t25 := Try.underlying110
  a25 := Try.isAgg110
  z25 := Try.sizeOf110
  v25 := Try.zeroValue110
  t39 := Try.underlying136
  a39 := Try.isAgg136
  z39 := Try.sizeOf136
  v39 := Try.zeroValue136
  t45 := Try.underlying157
  a45 := Try.isAgg157
  z45 := Try.sizeOf157
  v45 := Try.zeroValue157
  t46 := Try.underlying158
  a46 := Try.isAgg158
  z46 := Try.sizeOf158
  v46 := Try.zeroValue158
  t50 := Try.underlying162
  a50 := Try.isAgg162
  z50 := Try.sizeOf162
  v50 := Try.zeroValue162
  t53 := Try.underlying165
  a53 := Try.isAgg165
  z53 := Try.sizeOf165
  v53 := Try.zeroValue165
  t55 := Try.underlying167
  a55 := Try.isAgg167
  z55 := Try.sizeOf167
  v55 := Try.zeroValue167
  t66 := Try.underlying172
  a66 := Try.isAgg172
  z66 := Try.sizeOf172
  v66 := Try.zeroValue172
  t70 := Try.underlying176
  a70 := Try.isAgg176
  z70 := Try.sizeOf176
  v70 := Try.zeroValue176
  t76 := Try.underlying179
  a76 := Try.isAgg179
  z76 := Try.sizeOf179
  v76 := Try.zeroValue179
  t77 := Try.underlying180
  a77 := Try.isAgg180
  z77 := Try.sizeOf180
  v77 := Try.zeroValue180
/-! The order of bytes. -/
theorem cmpB_le : ∀ a b c, cmpB a b ≤ 0 → cmpB b c ≤ 0 → cmpB a c ≤ 0 ∧ (cmpB a b < 0 ∨ cmpB b c < 0 → cmpB a c < 0)
  | [], [], c, _, h2 => ⟨h2, fun h => h.elim (fun q => by simp [cmpB] at q) id⟩
  | [], y :: b, [], _, h2 => by simp [cmpB] at h2
  | [], y :: b, z :: c, _, _ => ⟨by simp [cmpB], fun _ => by simp [cmpB]⟩
  | x :: a, [], c, h1, _ => by simp [cmpB] at h1
  | x :: a, y :: b, [], _, h2 => by simp [cmpB] at h2
  | x :: a, y :: b, z :: c, h1, h2 => by
    rw [cmpB_cons] at h1 h2 ⊢
    rw [cmpB_cons x y, cmpB_cons y z]
    by_cases xy : x < y
    · by_cases yz : y < z
      · rw [if_pos (show x < z by omega)]; exact ⟨by decide, fun _ => by decide⟩
      · by_cases zy : z < y
        · rw [if_neg yz, if_pos zy] at h2; exact absurd h2 (by decide)
        · rw [if_pos (show x < z by omega)]; exact ⟨by decide, fun _ => by decide⟩
    · by_cases yx : y < x
      · rw [if_neg xy, if_pos yx] at h1; exact absurd h1 (by decide)
      · by_cases yz : y < z
        · rw [if_pos (show x < z by omega)]; exact ⟨by decide, fun _ => by decide⟩
        · by_cases zy : z < y
          · rw [if_neg yz, if_pos zy] at h2; exact absurd h2 (by decide)
          · rw [if_neg xy, if_neg yx] at h1 ⊢
            rw [if_neg yz, if_neg zy] at h2 ⊢
            rw [if_neg (show ¬ x < z by omega), if_neg (show ¬ z < x by omega)]
            exact cmpB_le a b c h1 h2
/-! What is sorted: bytes, and the cell that leads to them. -/
def Gd (w : World) (g : Nat) (p : Pe) : Prop := By p.1 ∧ ∃ (A : Option Addr) (c : Nat), p.2.1 = .slice A p.1.length c ∧ p.1.length ≤ c ∧ (Kd.int .u8).C w A p.1.length p.1 ∧ ∀ ad, A = some ad → 0 < p.1.length → ad.block ≠ g
abbrev Al (w : World) (g : Nat) := {p : Pe // Gd w g p}
instance (w : World) (g : Nat) : Inhabited (Al w g) := ⟨⟨([], ⟨.slice none 0 0, rfl⟩), By_nil, none, 0, rfl, Nat.le_refl _, Kd.C_nil _ _, fun ad h => by cases h⟩⟩
def encA {w : World} {g : Nat} (x : Al w g) : Value := x.1.2.1
def cfA {w : World} {g : Nat} (x y : Al w g) : Int := cmpB x.1.1 y.1.1
theorem ltA {w : World} {g : Nat} (x y : Al w g) : ltOf cfA x y = decide (cmpB x.1.1 y.1.1 < 0) := rfl
theorem sw_cell {α : Type} [Inhabited α] (enc : α → Value) {w : World} {g m : Nat} {dk : Array α} {os : Array Obj} {ad : Addr} {u : Value} (h : w.cell? ad = some u) (hg : ad.block ≠ g) : (sortWorld enc w g 0 m dk os).cell? ad = some u := by
  unfold sortWorld
  have hl := World.block_lt_of_cell? w _ h
  rw [cell?_grow _ _ _ (by simpa [putRow, mapBlock, Sort.ahead] using hl), cell?_putRow_other enc _ _ _ _ _ (.inl hg)]
  exact h
theorem Gd.C {α : Type} [Inhabited α] (enc : α → Value) {w : World} {g m : Nat} {dk : Array α} {os : Array Obj} {A : Option Addr} {xs : List Int} (h : (Kd.int .u8).C w A xs.length xs) (hg : ∀ ad, A = some ad → 0 < xs.length → ad.block ≠ g) : (Kd.int .u8).C (sortWorld enc w g 0 m dk os) A xs.length xs := by
  refine ⟨h.1, h.2.1, fun hn => ?_⟩
  obtain ⟨ad, e, hc⟩ := h.2.2 hn
  refine ⟨ad, e, fun j p hj => ?_⟩
  obtain ⟨c, h1, h2, h3⟩ := hc j p hj
  exact ⟨c, h1, h2, fun i u hu => sw_cell enc (h3 i u hu) (by rw [add_block]; exact hg ad e hn)⟩
theorem cmpA (w : World) (g size : Nat) : CmpReads Try.prog 85 #[] (encA (w := w) (g := g)) cfA g 0 size w := by
  intro m os dk hs x y
  obtain ⟨⟨lx, vx⟩, bx, Ax, cx, ex, lcx, gx, nx⟩ := x
  obtain ⟨⟨ly, vy⟩, bY, Ay, cy, ey, lcy, gy, ny⟩ := y
  have h := bytes_Compare.calls Ax cx lx Ay cy ly (cmpB lx ly) (sortWorld (encA (w := w) (g := g)) w g 0 m dk os) (Gd.C _ gx nx) lcx (Gd.C _ gy ny) lcy (by rw [← bytes_cmp bx bY]; rfl)
  have e1 : (#[encA (⟨(lx, vx), bx, Ax, cx, ex, lcx, gx, nx⟩ : Al w g), encA (⟨(ly, vy), bY, Ay, cy, ey, lcy, gy, ny⟩ : Al w g)] ++ #[] : Array Value) = #[.slice Ax lx.length cx, .slice Ay ly.length cy] := by
    show #[vx.1, vy.1] ++ #[] = _
    rw [show vx.1 = _ from ex, show vy.1 = _ from ey]
    rfl
  rw [e1]
  refine h.mono ?_
  rintro e w' ⟨rfl, nd, rfl⟩
  exact ⟨rfl, nd, rfl⟩
theorem swoA (w : World) (g : Nat) : SWO (ltOf (cfA (w := w) (g := g))) where
  irrefl x := by rw [ltA, cmpB_refl]; rfl
  trans x y z h1 h2 := by
    rw [ltA] at *
    have h1 := of_decide_eq_true h1
    have h2 := of_decide_eq_true h2
    exact decide_eq_true ((cmpB_le _ _ _ (by omega) (by omega)).2 (.inl h1))
  ntrans x y z h1 h2 := by
    rw [ltA] at *
    have h1 := of_decide_eq_false h1
    have h2 := of_decide_eq_false h2
    have s1 := cmpB_swap x.1.1 y.1.1
    have s2 := cmpB_swap y.1.1 z.1.1
    have s3 := cmpB_swap x.1.1 z.1.1
    have := (cmpB_le z.1.1 y.1.1 x.1.1 (by omega) (by omega)).1
    exact decide_eq_false (by omega)
theorem sw_heap {α : Type} [Inhabited α] (enc : α → Value) {w : World} {g m k : Nat} {dk : Array α} {os : Array Obj} (hk : k < w.heap.size) (hg : k ≠ g) : (sortWorld enc w g 0 m dk os).heap[k]? = w.heap[k]? := by
  unfold sortWorld grow putRow mapBlock Sort.ahead
  simp only
  rw [Array.getElem?_append_left (by simpa using hk), Array.getElem?_modify, if_neg (fun e => hg e.symm)]
theorem sw_grow (X : World) (os : Array Obj) : Below X.heap.size X (grow X os) := by
  refine ⟨rfl, rfl, rfl, by simp [grow], fun k hk => ?_⟩
  show (X.heap ++ os)[k]? = _
  rw [Array.getElem?_append_left hk]
/-- Bytes in order. -/
def Ord (ps : List Pe) : Prop := ps.Pairwise fun p q => cmpB p.1 q.1 ≤ 0
theorem frSort : Fr Try.prog 85 := ⟨_, Try.func85, by kernel_rfl, rfl⟩
theorem encs_oc (ps : List Pe) : encs (fun x : OC => x.1) (ps.map (·.2)) = ps.map fun p => p.2.1 := by simp [encs]
/-- slices.SortFunc over a row of byte slices: the same cells, in order. -/
theorem sort_c {ρ : Ren} (L : SlLaysF.n6 Try.prog ρ) (h6 : ρ.f 6 = 84) (w0 W : World) (v : Value) (ps : List Pe) (h : Rw W w0.heap.size v ps) (hb : Below w0.heap.size w0 W) (hby : ∀ p ∈ ps, By p.1) (hsz : ps.length < 4611686018427387904) :
    Calls Try.prog 84 #[v, .func (.func 85) #[] #[]] W fun e w' => e = .returned (.tuple #[]) ∧ ∃ qs : List Pe, qs.Perm ps ∧ Ord qs ∧ Rw w' w0.heap.size v qs ∧ Below w0.heap.size w0 w' ∧ OthersKept 22 none W w' := by
  have ho := Kd.own_of_R (h1 := fun x => x.2) (show (Kd.scalar (fun x : OC => x.1) (fun x => x.2)).R 22 W w0.heap.size (fun _ => True) v (ps.map (·.2)) from h.o)
  rw [encs_oc, List.length_map] at ho
  rcases ho.2 with ⟨rfl, hn⟩ | ⟨g, cap, cur, rfl, hbg, hh, hcl, hcm, hcs, htake⟩
  · have h0 := AnyF.slices_SortFunc_none (P := Try.prog) (ρ := ρ) { L with } none 0 (.func (.func 85) #[] #[]) W
    rw [h6] at h0
    refine h0.mono ?_
    rintro e w' ⟨rfl, rfl⟩
    have hp : ps = [] := List.eq_nil_of_length_eq_zero hn
    subst hp
    exact ⟨rfl, [], List.Perm.refl _, List.Pairwise.nil, h, hb, OthersKept.refl _ _ _⟩
  · have gd : ∀ p ∈ ps, Gd W g p := fun p hp => by
      have hel := h.el p hp
      obtain ⟨A, c, e1, h1, h2⟩ := (Kd.slice 5 (Kd.int .u8)).K_of_M (w := W) (base := w0.heap.size) (ok := fun _ => True) (x := p.1) (cs := [p.2.1]) ⟨p.2.1, rfl, hel⟩
      injection e1 with e1
      refine ⟨hby p hp, A, c, e1, h1, h2, fun ad ea hl => ?_⟩
      subst ea
      obtain ⟨g2, eg⟩ := Kd.R_head (show (Kd.int .u8).R 5 W w0.heap.size (fun _ => True) (.slice (some ad) p.1.length c) p.1 from e1 ▸ hel)
      obtain ⟨cells, hc⟩ := Kd.R_typed hel g2 (by rw [e1, eg]; simp [Value.ownBlock])
      intro e2
      rw [eg] at e2
      have e3 : g2 = g := e2
      rw [e3, hh] at hc
      injection hc with hc
      injection hc with _ hc
      exact absurd hc (by decide)
    obtain ⟨zs, hzs⟩ : ∃ zs : List (Al W g), zs.map (·.1) = ps := ⟨ps.attach.map fun p => ⟨p.1, gd p.1 p.2⟩, by rw [List.map_map]; exact List.attach_map_subtype_val ps⟩
    have hzl : zs.length = ps.length := by rw [← hzs, List.length_map]
    have hcells : ps.map (fun p => p.2.1) = zs.map encA := by rw [← hzs, List.map_map]; rfl
    have hold : Holds (encA (w := W) (g := g)) W g 0 zs.toArray := fun j hj => by
      have hj2 : j < zs.length := by simpa using hj
      rw [Nat.zero_add]
      refine ⟨?_, blk_frozen hh _⟩
      rw [blk_cell hh j]
      have h5 : (cur.toList.take (ps.length * 1))[j]? = (ps.map fun p => p.2.1)[j]? := by rw [htake]
      rw [List.getElem?_take, if_pos (by omega), Array.getElem?_toList, hcells, List.getElem?_map, List.getElem?_eq_getElem hj2] at h5
      rw [h5]
      simp [getElem!_pos, hj2]
    have hs := Any.slices_SortFunc L (encA (w := W) (g := g)) (fun x => x.1.2.2) cfA (swoA W g) 85 #[] g 0 cap zs.toArray W (fun args w => by
      obtain ⟨fn, hf, hn, hbd⟩ := frSort
      exact enters_ hf hn hbd args w) (cmpA W g _).lays hold (blk_lt hh) (by simpa [hzl] using hsz)
    rw [h6, show zs.toArray.size = ps.length by simpa using hzl] at hs
    refine hs.mono ?_
    rintro e w' ⟨rfl, d', n, os, hperm, hsort, rfl⟩
    obtain ⟨hsz2, _, hpe⟩ := hperm
    have hd : d'.toList.length = ps.length := by simpa [hzl] using hsz2
    have hpe2 : d'.toList.Perm zs := by
      have a1 : (d'.extract 0 ps.length).toList = d'.toList := by rw [show ps.length = d'.size by simpa using hd.symm]; simp
      have a2 : (zs.toArray.extract 0 ps.length).toList = zs := by rw [show ps.length = zs.toArray.size by simpa using hzl.symm]; simp
      rwa [a1, a2] at hpe
    have hqp : (d'.toList.map (·.1)).Perm ps := by rw [← hzs]; exact hpe2.map _
    refine ⟨rfl, d'.toList.map (·.1), hqp, ?_, ?_, ?_, ?_⟩
    · rw [Ord, List.pairwise_map, List.pairwise_iff_getElem]
      intro i j hi hj hij
      have := hsort i j (Nat.zero_le _) hij (by omega)
      rw [ltA] at this
      have := of_decide_eq_false this
      have s := cmpB_swap (d'.toList[i]).1.1 (d'.toList[j]).1.1
      simp [getElem!_pos, show i < d'.size by simpa using hi, show j < d'.size by simpa using hj] at this s ⊢
      omega
    · have hq := ownsRow_putRow (enc := encA (w := W) (g := g)) (w := W) (base := w0.heap.size) (e := 22) (g := g) (n := ps.length) (cap := cap) (q := n) (k := ps.length) (zs := zs) (ys := d'.toList) (by rw [← hcells]; exact ho) hd (Nat.le_refl _)
      rw [show d'.toList.take ps.length = d'.toList from List.take_of_length_le (by omega), show d'.toList.toArray = d' by simp] at hq
      have hgr : Below ((putRow (encA (w := W) (g := g)) (Sort.ahead W n) g 0 d').heap.size) (putRow (encA (w := W) (g := g)) (Sort.ahead W n) g 0 d') (sortWorld encA W g 0 n d' os) := sw_grow _ _
      have hq2 : kc.R 22 (sortWorld encA W g 0 n d' os) w0.heap.size (fun _ => True) (.slice (some ⟨g, 0, none⟩) ps.length cap) ((d'.toList.map (·.1)).map (·.2)) := by
        refine Kd.R_below ?_ hgr
        refine Kd.R_of_own (h1 := fun x : OC => x.2) (ok := fun _ => True) ?_ (fun _ _ => trivial)
        rw [encs_oc, List.length_map, List.length_map, hd, List.map_map]
        exact hq
      refine ⟨hq2, fun p hp => ?_, (hqp.filterMap own1).nodup_iff.2 h.nd⟩
      have hel := h.el p (hqp.mem_iff.1 hp)
      refine Kd.R_mono (Kd.R_step (ok := fun k => k ≠ g) (Kd.R_mono (Kd.R_bound hel) fun k hk e => ?_) fun k hk hlt => sw_heap _ hlt hk) (fun _ _ => trivial)
      obtain ⟨_, _, _, q, hq1, cells, hq2⟩ := hk
      rw [e, hh] at hq2
      injection hq2 with hq2
      injection hq2 with _ hq2
      rw [← hq2] at hq1
      exact absurd hq1 (by decide)
    · exact below_step (below_putRow hb hbg) (sw_grow _ _)
    · intro k o hk _ hne
      have hkg : k ≠ g := fun e => by
        rw [e, hh] at hk
        injection hk with hk
        exact hne _ _ hk.symm
      exact (sw_heap _ (blk_lt hk) hkg).trans hk
end Go.Proofs.Ytockllljeeakaaa.PFnExactLocals
