/- What a function comes to, walked by hand. No condition. -/
import Derived.Test.YtockllljeeakaaaDoorPFnAddrsx0
import Derived.Test.YtockllljeeakaaaDoorPFnAddrsx1
import Derived.Test.YtockllljeeakaaaDoorMkx
import Derived.Test.YtockllljeeakaaaDoorMcore
import Derived.Shelf.Bytes.SlCut
import Derived.Shelf.Strconv.ErrVarAll
import Derived.Shelf.Strconv.Itoa3
namespace Go.Proofs.YtockllljeeakaaaDoor.PFnAddrs
open Go.RowKit Go.Proofs.YtockllljeeakaaaDoorW.PrintWords Go.Proofs.YtockllljeeakaaaDoorW.PrintLast Go.Proofs.YtockllljeeakaaaDoorW.PrintMore Go.Proofs.YtockllljeeakaaaDoor.M
attribute [local go_sem] max2_int min2_int max_two min_two max_three min_three max_four min_four Go.Proofs.YtockllljeeakaaaDoor.M.str_gtr Go.Proofs.YtockllljeeakaaaDoor.M.str_leq Go.Proofs.YtockllljeeakaaaDoor.M.str_geq   -- for this text's walks alone
set_option linter.unusedVariables false
set_option linter.unusedSimpArgs false
def laysAtoi_ren : Go.Shelf.Ren := ⟨fun | 172 => 68 | 244 => 93 | 245 => 94 | 247 => 114 | 279 => 115 | 280 => 116 | 281 => 117 | 282 => 118 | 287 => 131 | 316 => 132 | 171 => 69 | 205 => 133 | 321 => 140 | 322 => 141 | 243 => 95 | 246 => 119 | 283 => 122 | 284 => 123 | 285 => 124 | 286 => 125 | 129 => 135 | 317 => 134 | 318 => 136 | 319 => 137 | 320 => 138 | 337 => 142 | 338 => 143 | n => n, fun | 9 => 9 | 3 => 3 | 75 => 80 | 76 => 81 | 4 => 4 | 5 => 5 | 167 => 107 | 37 => 22 | 0 => 0 | 85 => 108 | 2 => 2 | 168 => 110 | 53 => 102 | 175 => 126 | 46 => 101 | 210 => 130 | 127 => 139 | 145 => 142 | 143 => 140 | 21 => 21 | 171 => 118 | 173 => 121 | 212 => 133 | 51 => 115 | 20 => 20 | 213 => 134 | 232 => 144 | 233 => 145 | 80 => 146 | n => n, fun | 15 => 1 | 16 => 2 | 17 => 3 | 18 => 4 | 19 => 5 | n => n⟩
theorem laysAtoi : LaysC.n172 Tryd.prog laysAtoi_ren where
  mixed := by kernel_rfl
  f129 := Tryd.func135.trans (congrArg some (by kernel_rfl))
  f171 := Tryd.func69.trans (congrArg some (by kernel_rfl))
  f172 := Tryd.func68.trans (congrArg some (by kernel_rfl))
  f205 := Tryd.func133.trans (congrArg some (by kernel_rfl))
  f243 := Tryd.func95.trans (congrArg some (by kernel_rfl))
  f244 := Tryd.func93.trans (congrArg some (by kernel_rfl))
  f245 := Tryd.func94.trans (congrArg some (by kernel_rfl))
  f246 := Tryd.func119.trans (congrArg some (by kernel_rfl))
  f247 := Tryd.func114.trans (congrArg some (by kernel_rfl))
  f279 := Tryd.func115.trans (congrArg some (by kernel_rfl))
  f280 := Tryd.func116.trans (congrArg some (by kernel_rfl))
  f281 := Tryd.func117.trans (congrArg some (by kernel_rfl))
  f282 := Tryd.func118.trans (congrArg some (by kernel_rfl))
  f283 := Tryd.func122.trans (congrArg some (by kernel_rfl))
  f284 := Tryd.func123.trans (congrArg some (by kernel_rfl))
  f285 := Tryd.func124.trans (congrArg some (by kernel_rfl))
  f286 := Tryd.func125.trans (congrArg some (by kernel_rfl))
  f287 := Tryd.func131.trans (congrArg some (by kernel_rfl))
  f316 := Tryd.func132.trans (congrArg some (by kernel_rfl))
  f317 := Tryd.func134.trans (congrArg some (by kernel_rfl))
  f318 := Tryd.func136.trans (congrArg some (by kernel_rfl))
  f319 := Tryd.func137.trans (congrArg some (by kernel_rfl))
  f320 := Tryd.func138.trans (congrArg some (by kernel_rfl))
  f321 := Tryd.func140.trans (congrArg some (by kernel_rfl))
  f322 := Tryd.func141.trans (congrArg some (by kernel_rfl))
  f337 := Tryd.func142.trans (congrArg some (by kernel_rfl))
  f338 := Tryd.func143.trans (congrArg some (by kernel_rfl))
  t0 := Tryd.underlying0
  a0 := Tryd.isAgg0
  z0 := Tryd.sizeOf0
  v0 := Tryd.zeroValue0
  t2 := Tryd.underlying2
  a2 := Tryd.isAgg2
  z2 := Tryd.sizeOf2
  v2 := Tryd.zeroValue2
  t3 := Tryd.underlying3
  a3 := Tryd.isAgg3
  z3 := Tryd.sizeOf3
  v3 := Tryd.zeroValue3
  t4 := Tryd.underlying4
  a4 := Tryd.isAgg4
  z4 := Tryd.sizeOf4
  v4 := Tryd.zeroValue4
  t5 := Tryd.underlying5
  a5 := Tryd.isAgg5
  z5 := Tryd.sizeOf5
  v5 := Tryd.zeroValue5
  t9 := Tryd.underlying9
  a9 := Tryd.isAgg9
  z9 := Tryd.sizeOf9
  v9 := Tryd.zeroValue9
  t20 := Tryd.underlying20
  a20 := Tryd.isAgg20
  z20 := Tryd.sizeOf20
  v20 := Tryd.zeroValue20
  t21 := Tryd.underlying21
  a21 := Tryd.isAgg21
  z21 := Tryd.sizeOf21
  v21 := Tryd.zeroValue21
  t37 := Tryd.underlying22
  a37 := Tryd.isAgg22
  z37 := Tryd.sizeOf22
  v37 := Tryd.zeroValue22
  t46 := Tryd.underlying101
  a46 := Tryd.isAgg101
  z46 := Tryd.sizeOf101
  v46 := Tryd.zeroValue101
  t51 := Tryd.underlying115
  a51 := Tryd.isAgg115
  z51 := Tryd.sizeOf115
  v51 := Tryd.zeroValue115
  t53 := Tryd.underlying102
  a53 := Tryd.isAgg102
  z53 := Tryd.sizeOf102
  v53 := Tryd.zeroValue102
  t75 := Tryd.underlying80
  a75 := Tryd.isAgg80
  z75 := Tryd.sizeOf80
  v75 := Tryd.zeroValue80
  t76 := Tryd.underlying81
  a76 := Tryd.isAgg81
  z76 := Tryd.sizeOf81
  v76 := Tryd.zeroValue81
  t85 := Tryd.underlying108
  a85 := Tryd.isAgg108
  z85 := Tryd.sizeOf108
  v85 := Tryd.zeroValue108
  t127 := Tryd.underlying139
  a127 := Tryd.isAgg139
  z127 := Tryd.sizeOf139
  v127 := Tryd.zeroValue139
  t143 := Tryd.underlying140
  a143 := Tryd.isAgg140
  z143 := Tryd.sizeOf140
  v143 := Tryd.zeroValue140
  t145 := Tryd.underlying142
  a145 := Tryd.isAgg142
  z145 := Tryd.sizeOf142
  v145 := Tryd.zeroValue142
  t167 := Tryd.underlying107
  a167 := Tryd.isAgg107
  z167 := Tryd.sizeOf107
  v167 := Tryd.zeroValue107
  t168 := Tryd.underlying110
  a168 := Tryd.isAgg110
  z168 := Tryd.sizeOf110
  v168 := Tryd.zeroValue110
  t171 := Tryd.underlying118
  a171 := Tryd.isAgg118
  z171 := Tryd.sizeOf118
  v171 := Tryd.zeroValue118
  t173 := Tryd.underlying121
  a173 := Tryd.isAgg121
  z173 := Tryd.sizeOf121
  v173 := Tryd.zeroValue121
  t175 := Tryd.underlying126
  a175 := Tryd.isAgg126
  z175 := Tryd.sizeOf126
  v175 := Tryd.zeroValue126
  t210 := Tryd.underlying130
  a210 := Tryd.isAgg130
  z210 := Tryd.sizeOf130
  v210 := Tryd.zeroValue130
  t212 := Tryd.underlying133
  a212 := Tryd.isAgg133
  z212 := Tryd.sizeOf133
  v212 := Tryd.zeroValue133
  t213 := Tryd.underlying134
  a213 := Tryd.isAgg134
  z213 := Tryd.sizeOf134
  t232 := Tryd.underlying144
  a232 := Tryd.isAgg144
  z232 := Tryd.sizeOf144
  v232 := Tryd.zeroValue144
  t233 := Tryd.underlying145
  a233 := Tryd.isAgg145
  z233 := Tryd.sizeOf145
  v233 := Tryd.zeroValue145
  g15 := by kernel_rfl
  g16 := by kernel_rfl
  g17 := by kernel_rfl
  g18 := by kernel_rfl
  g19 := by kernel_rfl
  t80 := Tryd.underlying146
  a80 := Tryd.isAgg146
  z80 := Tryd.sizeOf146
  v80 := Tryd.zeroValue146
  i0 := by kernel_rfl
  i2 := by kernel_rfl
  i3 := by kernel_rfl
  i4 := by kernel_rfl
  i5 := by kernel_rfl
  i9 := by kernel_rfl
  i20 := by kernel_rfl
  i21 := by kernel_rfl
  i37 := by kernel_rfl
  i46 := by kernel_rfl
  i51 := by kernel_rfl
  i53 := by kernel_rfl
  i75 := by kernel_rfl
  i76 := by kernel_rfl
  i80 := by kernel_rfl
  i85 := by kernel_rfl
  i127 := by kernel_rfl
  i143 := by kernel_rfl
  i145 := by kernel_rfl
  i167 := by kernel_rfl
  i168 := by kernel_rfl
  i171 := by kernel_rfl
  i173 := by kernel_rfl
  i175 := by kernel_rfl
  i210 := by kernel_rfl
  i212 := by kernel_rfl
  i232 := by kernel_rfl
  i233 := by kernel_rfl
  m15 := by kernel_rfl
  m16 := by kernel_rfl
  m17 := by kernel_rfl
  m18 := by kernel_rfl
  m19 := by kernel_rfl
  c0 := by kernel_rfl
  c2 := by kernel_rfl
  c3 := by kernel_rfl
  c4 := by kernel_rfl
  c5 := by kernel_rfl
  c9 := by kernel_rfl
  c20 := by kernel_rfl
  c21 := by kernel_rfl
  c37 := by kernel_rfl
  c46 := by kernel_rfl
  c51 := by kernel_rfl
  c53 := by kernel_rfl
  c75 := by kernel_rfl
  c76 := by kernel_rfl
  c80 := by kernel_rfl
  c85 := by kernel_rfl
  c127 := by kernel_rfl
  c143 := by kernel_rfl
  c145 := by kernel_rfl
  c167 := by kernel_rfl
  c168 := by kernel_rfl
  c171 := by kernel_rfl
  c173 := by kernel_rfl
  c175 := by kernel_rfl
  c210 := by kernel_rfl
  c212 := by kernel_rfl
  c213 := by kernel_rfl
  c232 := by kernel_rfl
  c233 := by kernel_rfl
def laysItoa_ren : Go.Shelf.Ren := ⟨fun | 171 => 69 | 243 => 95 | 246 => 119 | 283 => 122 | 284 => 123 | 285 => 124 | 286 => 125 | 129 => 135 | 317 => 134 | 318 => 136 | 319 => 137 | 320 => 138 | 337 => 142 | 338 => 143 | n => n, fun | 3 => 3 | 9 => 9 | 2 => 2 | 4 => 4 | 171 => 118 | 0 => 0 | 53 => 102 | 37 => 22 | 5 => 5 | 173 => 121 | 212 => 133 | 51 => 115 | 20 => 20 | 213 => 134 | 46 => 101 | 232 => 144 | 233 => 145 | n => n, fun | 17 => 3 | 18 => 4 | 19 => 5 | n => n⟩
theorem laysItoa : Lays.n171 Tryd.prog laysItoa_ren where
  mixed := by kernel_rfl
  f129 := Tryd.func135.trans (congrArg some (by kernel_rfl))
  f171 := Tryd.func69.trans (congrArg some (by kernel_rfl))
  f243 := Tryd.func95.trans (congrArg some (by kernel_rfl))
  f246 := Tryd.func119.trans (congrArg some (by kernel_rfl))
  f283 := Tryd.func122.trans (congrArg some (by kernel_rfl))
  f284 := Tryd.func123.trans (congrArg some (by kernel_rfl))
  f285 := Tryd.func124.trans (congrArg some (by kernel_rfl))
  f286 := Tryd.func125.trans (congrArg some (by kernel_rfl))
  f317 := Tryd.func134.trans (congrArg some (by kernel_rfl))
  f318 := Tryd.func136.trans (congrArg some (by kernel_rfl))
  f319 := Tryd.func137.trans (congrArg some (by kernel_rfl))
  f320 := Tryd.func138.trans (congrArg some (by kernel_rfl))
  f337 := Tryd.func142.trans (congrArg some (by kernel_rfl))
  f338 := Tryd.func143.trans (congrArg some (by kernel_rfl))
  t0 := Tryd.underlying0
  a0 := Tryd.isAgg0
  z0 := Tryd.sizeOf0
  v0 := Tryd.zeroValue0
  t2 := Tryd.underlying2
  a2 := Tryd.isAgg2
  z2 := Tryd.sizeOf2
  v2 := Tryd.zeroValue2
  t3 := Tryd.underlying3
  a3 := Tryd.isAgg3
  z3 := Tryd.sizeOf3
  v3 := Tryd.zeroValue3
  t4 := Tryd.underlying4
  a4 := Tryd.isAgg4
  z4 := Tryd.sizeOf4
  v4 := Tryd.zeroValue4
  t5 := Tryd.underlying5
  a5 := Tryd.isAgg5
  z5 := Tryd.sizeOf5
  v5 := Tryd.zeroValue5
  t9 := Tryd.underlying9
  a9 := Tryd.isAgg9
  z9 := Tryd.sizeOf9
  v9 := Tryd.zeroValue9
  t20 := Tryd.underlying20
  a20 := Tryd.isAgg20
  z20 := Tryd.sizeOf20
  v20 := Tryd.zeroValue20
  t37 := Tryd.underlying22
  a37 := Tryd.isAgg22
  z37 := Tryd.sizeOf22
  v37 := Tryd.zeroValue22
  t46 := Tryd.underlying101
  a46 := Tryd.isAgg101
  z46 := Tryd.sizeOf101
  v46 := Tryd.zeroValue101
  t51 := Tryd.underlying115
  a51 := Tryd.isAgg115
  z51 := Tryd.sizeOf115
  v51 := Tryd.zeroValue115
  t53 := Tryd.underlying102
  a53 := Tryd.isAgg102
  z53 := Tryd.sizeOf102
  v53 := Tryd.zeroValue102
  t171 := Tryd.underlying118
  a171 := Tryd.isAgg118
  z171 := Tryd.sizeOf118
  v171 := Tryd.zeroValue118
  t173 := Tryd.underlying121
  a173 := Tryd.isAgg121
  z173 := Tryd.sizeOf121
  v173 := Tryd.zeroValue121
  t212 := Tryd.underlying133
  a212 := Tryd.isAgg133
  z212 := Tryd.sizeOf133
  v212 := Tryd.zeroValue133
  t213 := Tryd.underlying134
  a213 := Tryd.isAgg134
  z213 := Tryd.sizeOf134
  t232 := Tryd.underlying144
  a232 := Tryd.isAgg144
  z232 := Tryd.sizeOf144
  v232 := Tryd.zeroValue144
  t233 := Tryd.underlying145
  a233 := Tryd.isAgg145
  z233 := Tryd.sizeOf145
  v233 := Tryd.zeroValue145
  g17 := by kernel_rfl
  g18 := by kernel_rfl
  g19 := by kernel_rfl
/-- The two errors that Atoi may hand on: each variable holds an error. -/
structure Tb (w : World) : Prop where
  s : ∃ tp p, w.cell? ⟨laysAtoi_ren.g 15, 0, none⟩ = some (.iface tp p)
  r : ∃ tp p, w.cell? ⟨laysAtoi_ren.g 16, 0, none⟩ = some (.iface tp p)
theorem Tb.b {w w' : World} (h : Tb w) (hb : Below w.heap.size w w') : Tb w' := by
  obtain ⟨⟨t1, p1, h1⟩, ⟨t2, p2, h2⟩⟩ := h
  exact ⟨⟨t1, p1, (hb.cell (World.block_lt_of_cell? w _ h1)).trans h1⟩, ⟨t2, p2, (hb.cell (World.block_lt_of_cell? w _ h2)).trans h2⟩⟩
/-- Where the first '[' stands, or -1. -/
def posB (l : List Int) : Int := Lib.indexByte (Lib.bytesOf l) 91
theorem posB_ge (l : List Int) : -1 ≤ posB l ∧ posB l < l.length := by
  have h2 := Lib.indexByte_ge (Lib.bytesOf l) 91
  have h3 := Lib.bytesOf_length l
  unfold posB
  refine ⟨h2, ?_⟩
  by_cases hp : 0 ≤ Lib.indexByte (Lib.bytesOf l) 91
  · obtain ⟨o, ho⟩ := Int.eq_ofNat_of_zero_le hp
    have h := (Lib.indexByte_some ho).1
    have := (List.getElem?_eq_some_iff.1 h).1
    omega
  · omega
/-- Bytes that are read: each at its address. -/
theorem cellsU {w : World} {A : Option Addr} {l : List Int} (h : (Kd.int .u8).C w A l.length l) : A = none ∧ l = [] ∨ l = [] ∨ ∃ ad, A = some ad ∧ ∀ i, i < l.length → w.cell? (ad.add i) = some (.int .u8 (l.getD i 0)) := by
  by_cases hl : 0 < l.length
  · obtain ⟨ad, rfl, hc⟩ := h.2.2 hl
    refine .inr (.inr ⟨ad, rfl, fun i hi => ?_⟩)
    obtain ⟨c, h1, h2, h3⟩ := hc i l[i] (List.getElem?_eq_getElem hi)
    obtain rfl : c = [.int .u8 l[i]] := h2
    have h4 := h3 0 _ rfl
    have e : ad.add (i * (Kd.int .u8).sz + 0) = ad.add i := by show ad.add (i * 1 + 0) = _; rw [Nat.mul_one, Nat.add_zero]
    rw [e] at h4
    rw [h4, List.getD_eq_getElem?_getD, List.getElem?_eq_getElem hi]
    rfl
  · exact .inr (.inl (List.eq_nil_of_length_eq_zero (by omega)))
set_option maxRecDepth 100000 in
theorem indexByte_ka (A : Option Addr) (c : Nat) (l : List Int) (w : World) (h : (Kd.int .u8).C w A l.length l) :
    Calls Tryd.prog 71 #[.slice A l.length c, .int .u8 91] w fun e w' => e = .returned (.int .i64 (posB l)) ∧ w = w' := by
  have hr : (Extern.BytealgIndexByte.indexByte #[.slice A l.length c, .int .u8 91]).run Tryd.prog w = .ok (.int .i64 (posB l)) w := by
    rcases cellsU h with ⟨rfl, rfl⟩ | rfl | ⟨ad, rfl, hc⟩
    · exact Lib.run_indexByteNil w 0 c 91
    · cases A with
      | none => exact Lib.run_indexByteNil w 0 c 91
      | some ad => exact Lib.run_indexByteAt w ad 0 c [] rfl (fun i hi => by omega) 91
    · exact Lib.run_indexByteAt w ad l.length c l rfl hc 91
  clear h
  go_enter Tryd.func71, Tryd.ntmps71
  go_wp2
  rw [run_callFunc_extern Tryd.func96 (by kernel_rfl) (by kernel_rfl) (by kernel_rfl) (e := Extern.BytealgIndexByte.indexByte) (by kernel_rfl), hr]
  simp only [Result.andThen]
  rw [Oper.upon_value]
  go_wp2
  go_ret
  exact ⟨rfl, rfl⟩
theorem frI1 : Fr Tryd.prog 71 := ⟨_, Tryd.func71, by kernel_rfl, rfl⟩
theorem frI2 : Fr Tryd.prog 75 := ⟨_, Tryd.func75, by kernel_rfl, rfl⟩
theorem frI3 : Fr Tryd.prog 40 := ⟨_, Tryd.func40, by kernel_rfl, rfl⟩
set_option maxRecDepth 100000 in
set_option maxHeartbeats 2000000 in
theorem index_ka (A : Option Addr) (c : Nat) (l : List Int) (b2 d : Nat) (w : World) (h : (Kd.int .u8).C w A l.length l) (h2 : w.cell? ⟨b2, 0, none⟩ = some (.int .u8 91)) :
    Calls Tryd.prog 75 #[.slice A l.length c, .slice (some ⟨b2, 0, none⟩) 1 d] w fun e w' => e = .returned (.int .i64 (posB l)) ∧ w = w' := by
  have H := Aside0.mk h
  clear h
  go_enter Tryd.func75, Tryd.ntmps75
  go_wp2_with (go_at_call 71; refine (indexByte_ka _ _ l _ H.out).mono ?_; rintro e w' ⟨rfl, rfl⟩)
  go_ret
  exact ⟨rfl, rfl⟩
/-- bytes.Cut at '['. -/
def cutT (A : Option Addr) (l : List Int) (c : Nat) : Value :=
  if 0 ≤ posB l then .tuple #[.slice A (posB l).toNat c, .slice (if c = (posB l).toNat + 1 then A else A.map (fun x => x.add ((posB l).toNat + 1))) (l.length - ((posB l).toNat + 1)) (c - ((posB l).toNat + 1)), .bool true] else .tuple #[.slice A l.length c, .slice none 0 0, .bool false]
set_option maxRecDepth 100000 in
set_option maxHeartbeats 2000000 in
theorem cut_no (A : Option Addr) (c : Nat) (l : List Int) (b2 d : Nat) (w : World) (hp : posB l < 0) (h : (Kd.int .u8).C w A l.length l) (h2 : w.cell? ⟨b2, 0, none⟩ = some (.int .u8 91)) :
    Calls Tryd.prog 40 #[.slice A l.length c, .slice (some ⟨b2, 0, none⟩) 1 d] w fun e w' => e = .returned (.tuple #[.slice A l.length c, .slice none 0 0, .bool false]) ∧ w = w' := by
  have H := Aside0.mk h
  have H2 := Aside0.mk h2
  have hp1 : decide (posB l ≥ 0) = false := decide_eq_false (by omega)
  have hp2 : decide (0 ≤ posB l) = false := decide_eq_false (by omega)
  clear h h2 hp
  go_enter Tryd.func40, Tryd.ntmps40
  go_wp2_with (go_at_call 75; refine (index_ka _ _ l _ _ _ H.out H2.out).mono ?_; rintro e w' ⟨rfl, rfl⟩)
  go_ret3
  exact ⟨rfl, rfl⟩
set_option maxRecDepth 100000 in
set_option maxHeartbeats 2000000 in
theorem cut_yes (A : Option Addr) (c : Nat) (l : List Int) (b2 d j : Nat) (w : World) (hp : posB l = j) (hj : j < l.length) (hn : l.length ≤ 4611686018427387904) (hc : l.length ≤ c) (h : (Kd.int .u8).C w A l.length l) (h2 : w.cell? ⟨b2, 0, none⟩ = some (.int .u8 91)) :
    Calls Tryd.prog 40 #[.slice A l.length c, .slice (some ⟨b2, 0, none⟩) 1 d] w fun e w' => e = .returned (.tuple #[.slice A j c, .slice (if c = j + 1 then A else A.map (fun x => x.add (j + 1))) (l.length - (j + 1)) (c - (j + 1)), .bool true]) ∧ Below w.heap.size w w' := by
  have H := Aside0.mk h
  have H2 := Aside0.mk h2
  have HP := Aside0.mk hp
  have w1 : IntKind.i64.wrap ((j : Int) + 1) = (j : Int) + 1 := by rw [IntKind.wrap_i64]; omega
  have w2 : ((j : Int) + 1).toNat = j + 1 := by omega
  have w3 : (0 : Int) ≤ (j : Int) + 1 := by omega
  clear h h2 hp
  go_enter Tryd.func40, Tryd.ntmps40
  go_wp2_with (go_at_call 75; refine (index_ka _ _ l _ _ _ H.out H2.out).mono ?_; rw [HP.out]; rintro e w' ⟨rfl, rfl⟩)
  repeat (go_quiet (fail); try go_wp2)
  all_goals go_ret3
  all_goals exact ⟨by simp [*], pw_below_drewN (Below.refl _ _) _⟩
theorem eq1 (a x : Int) (ha : 0 ≤ a ∧ a < 256) (hx : 0 ≤ x ∧ x < 256) : bytes_Equal.f [a] [x] = some (decide (a = x)) := by
  unfold bytes_Equal.f
  rw [str_inj (fun y hy => by rw [List.mem_singleton.1 hy]; omega) (fun y hy => by rw [List.mem_singleton.1 hy]; omega)]
  congr 1
  simp
set_option maxRecDepth 100000 in
set_option maxHeartbeats 2000000 in
/-- bytes.HasSuffix, of one byte. -/
theorem suf1 (A : Option Addr) (c m : Nat) (l : List Int) (x : Int) (b2 d : Nat) (w : World) (hl : l.length = m + 1) (hm : m ≤ 4611686018427387904) (hc : m + 1 ≤ c) (h : (Kd.int .u8).C w A l.length l) (hb : By l) (hx : 0 ≤ x ∧ x < 256) (hd : 1 ≤ d) (h2 : (Kd.int .u8).C w (some ⟨b2, 0, none⟩) 1 [x]) :
    Calls Tryd.prog 91 #[.slice A (m + 1) c, .slice (some ⟨b2, 0, none⟩) 1 d] w fun e w' => e = .returned (.bool (decide (l.getD m 0 = x))) ∧ Below w.heap.size w w' := by
  have hm1 : l.drop m = [l.getD m 0] := by
    rw [List.drop_eq_getElem_cons (by omega), List.drop_of_length_le (by omega), List.getD_eq_getElem?_getD, List.getElem?_eq_getElem (by omega)]
    rfl
  have ha : 0 ≤ l.getD m 0 ∧ l.getD m 0 < 256 := by
    rw [List.getD_eq_getElem?_getD, List.getElem?_eq_getElem (by omega)]
    have := hb _ (List.getElem_mem (l := l) (n := m) (by omega))
    simp only [Option.getD_some]
    omega
  have h3 := Kd.C_drop (m := m) (c := c) h (by omega) (by omega)
  have sz1 : m * (Kd.int .u8).sz = m := Nat.mul_one m
  rw [hm1, if_neg (by omega), sz1] at h3
  have H3 := Aside0.mk h3
  have H2 := Aside0.mk h2
  have HE := Aside0.mk (eq1 _ x ha hx)
  have w1 : IntKind.i64.wrap (((m : Int) + 1) - 1) = (m : Int) := by rw [IntKind.wrap_i64]; omega
  have w3 : decide (((m : Int) + 1) ≥ 1) = true := decide_eq_true (by omega)
  have w4 : (0 : Int) ≤ (m : Int) := by omega
  have w5 : (m : Int) ≤ (m : Int) + 1 := by omega
  have w6 : m ≤ c := by omega
  have w7 : ¬ (c = m) := by omega
  have HC := Aside0.mk (show 1 ≤ c - m by omega)
  have HD := Aside0.mk hd
  clear h h2 h3 hb ha hm1 hl sz1
  go_enter Tryd.func91, Tryd.ntmps91
  go_wp2_with (go_at_call 73; refine (bytes_Equal.calls _ _ [l.getD m 0] _ _ [x] _ _ H3.out HC.out H2.out HD.out HE.out).mono ?_; rintro e w' ⟨rfl, ⟨nd, rfl⟩⟩)
  go_ret
  exact ⟨rfl, pw_below_drewN (Below.refl _ _) _⟩
set_option maxRecDepth 100000 in
set_option maxHeartbeats 2000000 in
theorem suf0 (A : Option Addr) (c b2 d : Nat) (w : World) :
    Calls Tryd.prog 91 #[.slice A 0 c, .slice (some ⟨b2, 0, none⟩) 1 d] w fun e w' => e = .returned (.bool false) ∧ Below w.heap.size w w' := by
  go_enter Tryd.func91, Tryd.ntmps91
  go_wp2
  go_ret
  exact ⟨rfl, Below.refl _ _⟩
set_option maxRecDepth 100000 in
set_option maxHeartbeats 2000000 in
/-- bytes.HasPrefix, of one byte. -/
theorem pre1 (A : Option Addr) (c m : Nat) (l : List Int) (x : Int) (b2 d : Nat) (w : World) (hl : l.length = m + 1) (hm : m ≤ 4611686018427387904) (hc : m + 1 ≤ c) (h : (Kd.int .u8).C w A l.length l) (hb : By l) (hx : 0 ≤ x ∧ x < 256) (hd : 1 ≤ d) (h2 : (Kd.int .u8).C w (some ⟨b2, 0, none⟩) 1 [x]) :
    Calls Tryd.prog 92 #[.slice A (m + 1) c, .slice (some ⟨b2, 0, none⟩) 1 d] w fun e w' => e = .returned (.bool (decide (l.getD 0 0 = x))) ∧ Below w.heap.size w w' := by
  have hm1 : l.take 1 = [l.getD 0 0] := by
    cases l with
    | nil => simp at hl
    | cons a l => rfl
  have ha : 0 ≤ l.getD 0 0 ∧ l.getD 0 0 < 256 := by
    rw [List.getD_eq_getElem?_getD, List.getElem?_eq_getElem (by omega)]
    have := hb _ (List.getElem_mem (l := l) (n := 0) (by omega))
    simp only [Option.getD_some]
    omega
  have h3 := Kd.C_take (m := 1) h (by omega)
  rw [hm1] at h3
  have H3 := Aside0.mk h3
  have H2 := Aside0.mk h2
  have HE := Aside0.mk (eq1 _ x ha hx)
  have w3 : decide (((m : Int) + 1) ≥ 1) = true := decide_eq_true (by omega)
  have w4 : (1 : Int) ≤ (m : Int) + 1 := by omega
  have w6 : 1 ≤ c := by omega
  have w7 : (1 : Nat) ≤ m + 1 := by omega
  have HC := Aside0.mk (show 1 ≤ c by omega)
  have HD := Aside0.mk hd
  clear h h2 h3 hb ha hm1 hl
  go_enter Tryd.func92, Tryd.ntmps92
  go_wp2_with (go_at_call 73; refine (bytes_Equal.calls _ _ [l.getD 0 0] _ _ [x] _ _ H3.out HC.out H2.out HD.out HE.out).mono ?_; rintro e w' ⟨rfl, ⟨nd, rfl⟩⟩)
  go_ret
  exact ⟨rfl, pw_below_drewN (Below.refl _ _) _⟩
set_option maxRecDepth 100000 in
set_option maxHeartbeats 2000000 in
theorem pre0 (A : Option Addr) (c b2 d : Nat) (w : World) :
    Calls Tryd.prog 92 #[.slice A 0 c, .slice (some ⟨b2, 0, none⟩) 1 d] w fun e w' => e = .returned (.bool false) ∧ Below w.heap.size w w' := by
  go_enter Tryd.func92, Tryd.ntmps92
  go_wp2
  go_ret
  exact ⟨rfl, Below.refl _ _⟩
/-- Without its last byte, if that is x. -/
def cutS (l : List Int) (x : Int) : List Int × Bool := if l ≠ [] ∧ l.getD (l.length - 1) 0 = x then (l.take (l.length - 1), true) else (l, false)
/-- Without its first byte, if that is x. -/
def cutP (l : List Int) (x : Int) : List Int × Bool := if l ≠ [] ∧ l.getD 0 0 = x then (l.drop 1, true) else (l, false)
set_option maxRecDepth 100000 in
set_option maxHeartbeats 2000000 in
theorem csuf (A : Option Addr) (c : Nat) (l : List Int) (x : Int) (b2 d : Nat) (w : World) (hm : l.length ≤ 4611686018427387904) (hc : l.length ≤ c) (h : (Kd.int .u8).C w A l.length l) (hb : By l) (hx : 0 ≤ x ∧ x < 256) (hd : 1 ≤ d) (h2 : (Kd.int .u8).C w (some ⟨b2, 0, none⟩) 1 [x]) :
    Calls Tryd.prog 66 #[.slice A l.length c, .slice (some ⟨b2, 0, none⟩) 1 d] w fun e w' => e = .returned (.tuple #[.slice A (cutS l x).1.length c, .bool (cutS l x).2]) ∧ Below w.heap.size w w' ∧ (Kd.int .u8).C w' A (cutS l x).1.length (cutS l x).1 := by
  have H2 := Aside0.mk h2
  have HH := Aside0.mk h
  have HBY := Aside0.mk hb
  rcases Nat.eq_zero_or_pos l.length with h0 | h0
  · obtain rfl := List.eq_nil_of_length_eq_zero h0
    clear h2 hb
    have e : cutS [] x = ([], false) := rfl
    rw [e]
    clear h
    go_enter Tryd.func66, Tryd.ntmps66
    go_wp2_with (go_at_call 91; refine (suf0 _ _ _ _ _).mono ?_; rintro e w' ⟨rfl, hb⟩; have HB := Aside0.mk hb; clear hb)
    go_ret2
    exact ⟨rfl, HB.out, Kd.C_below HH.out HB.out⟩
  · obtain ⟨m, hl⟩ : ∃ m, l.length = m + 1 := ⟨l.length - 1, by omega⟩
    have hs := suf1 A c m l x b2 d w hl (by omega) (by omega) h hb hx hd h2
    have hne : l ≠ [] := fun e => by rw [e] at h0; simp at h0
    by_cases hq : l.getD m 0 = x
    · have e : cutS l x = (l.take m, true) := by unfold cutS; rw [if_pos ⟨hne, by rw [hl]; exact hq⟩, hl]; rfl
      have hlt : (l.take m).length = m := by rw [List.length_take]; omega
      rw [e]
      simp only
      have HT := Aside0.mk (Kd.C_take (m := m) h (by omega))
      rw [hlt] at HT ⊢
      rw [decide_eq_true hq] at hs
      have HS := Aside0.mk hs
      rw [hl] at hc ⊢
      have w1 : m ≤ 4611686018427387904 := by omega
      have w4 : (0 : Int) ≤ (m : Int) := by omega
      have w5 : (m : Int) ≤ (m : Int) + 1 := by omega
      have w6 : m ≤ c := by omega
      clear h2 hb h hs hq e hne hlt hl h0
      go_enter Tryd.func66, Tryd.ntmps66
      go_wp2_with (go_at_call 91; refine HS.out.mono ?_; rintro e w' ⟨rfl, hb⟩; have HB := Aside0.mk hb; clear hb)
      repeat (go_quiet (fail); try go_wp2)
      all_goals go_ret2
      all_goals exact ⟨rfl, by first | exact HB.out | exact pw_below_drewN HB.out _ , by first | exact Kd.C_below HT.out HB.out | exact Kd.C_below HT.out (pw_below_drewN HB.out _)⟩
    · have e : cutS l x = (l, false) := by unfold cutS; rw [if_neg (fun q => hq (by have := q.2; rwa [hl] at this))]
      rw [e]
      simp only
      rw [decide_eq_false hq] at hs
      have HS := Aside0.mk hs
      rw [hl] at hc HH ⊢
      clear h2 hb h hs hq e hne hl h0
      go_enter Tryd.func66, Tryd.ntmps66
      go_wp2_with (go_at_call 91; refine HS.out.mono ?_; rintro e w' ⟨rfl, hb⟩; have HB := Aside0.mk hb; clear hb)
      go_ret2
      exact ⟨rfl, HB.out, Kd.C_below HH.out HB.out⟩
set_option maxRecDepth 100000 in
set_option maxHeartbeats 2000000 in
theorem cpre (A : Option Addr) (c : Nat) (l : List Int) (x : Int) (b2 d : Nat) (w : World) (hm : l.length ≤ 4611686018427387904) (hc : l.length ≤ c) (h : (Kd.int .u8).C w A l.length l) (hb : By l) (hx : 0 ≤ x ∧ x < 256) (hd : 1 ≤ d) (h2 : (Kd.int .u8).C w (some ⟨b2, 0, none⟩) 1 [x]) :
    Calls Tryd.prog 67 #[.slice A l.length c, .slice (some ⟨b2, 0, none⟩) 1 d] w fun e w' => ∃ (A' : Option Addr) (c' : Nat), e = .returned (.tuple #[.slice A' (cutP l x).1.length c', .bool (cutP l x).2]) ∧ Below w.heap.size w w' ∧ (cutP l x).1.length ≤ c' ∧ (Kd.int .u8).C w' A' (cutP l x).1.length (cutP l x).1 := by
  have H2 := Aside0.mk h2
  have HH := Aside0.mk h
  have HC := Aside0.mk hc
  rcases Nat.eq_zero_or_pos l.length with h0 | h0
  · obtain rfl := List.eq_nil_of_length_eq_zero h0
    clear h2 hb
    have e : cutP [] x = ([], false) := rfl
    rw [e]
    clear h hc
    go_enter Tryd.func67, Tryd.ntmps67
    go_wp2_with (go_at_call 92; refine (pre0 _ _ _ _ _).mono ?_; rintro e w' ⟨rfl, hb⟩; have HB := Aside0.mk hb; clear hb)
    go_ret2
    exact ⟨A, c, rfl, HB.out, HC.out, Kd.C_below HH.out HB.out⟩
  · obtain ⟨m, hl⟩ : ∃ m, l.length = m + 1 := ⟨l.length - 1, by omega⟩
    have hs := pre1 A c m l x b2 d w hl (by omega) (by omega) h hb hx hd h2
    have hne : l ≠ [] := fun e => by rw [e] at h0; simp at h0
    by_cases hq : l.getD 0 0 = x
    · have e : cutP l x = (l.drop 1, true) := by unfold cutP; rw [if_pos ⟨hne, hq⟩]
      have hlt : (l.drop 1).length = m := by rw [List.length_drop]; omega
      rw [e]
      simp only
      have h3 := Kd.C_drop (m := 1) (c := c) h (by omega) hc
      have sz1 : 1 * (Kd.int .u8).sz = 1 := rfl
      rw [hlt, sz1] at h3
      rw [hlt]
      rw [decide_eq_true hq] at hs
      have HS := Aside0.mk hs
      rw [hl] at hc ⊢
      have w4 : (1 : Int) ≤ (m : Int) + 1 := by omega
      have w6 : 1 ≤ c := by omega
      have w7 : (1 : Nat) ≤ m + 1 := by omega
      have w8 : m + 1 - 1 = m := by omega
      clear h2 hb h hs hq e hne hlt hl h0 sz1
      by_cases hc1 : c = 1
      · rw [if_pos hc1] at h3
        subst hc1
        have HT := Aside0.mk h3
        have HM := Aside0.mk (show m ≤ 0 by omega)
        clear h3
        go_enter Tryd.func67, Tryd.ntmps67
        go_wp2_with (go_at_call 92; refine HS.out.mono ?_; rintro e w' ⟨rfl, hb⟩; have HB := Aside0.mk hb; clear hb)
        go_ret2
        exact ⟨_, _, rfl, HB.out, by have := HM.out; omega, Kd.C_below HT.out HB.out⟩
      · rw [if_neg hc1, show (fun x : Addr => x.add 1) = (fun x => ⟨x.block, x.off + 1, none⟩) from funext fun x => by unfold Addr.add; simp] at h3
        have HT := Aside0.mk h3
        have HM := Aside0.mk (show m ≤ c - 1 by omega)
        clear h3
        go_enter Tryd.func67, Tryd.ntmps67
        go_wp2_with (go_at_call 92; refine HS.out.mono ?_; rintro e w' ⟨rfl, hb⟩; have HB := Aside0.mk hb; clear hb)
        go_ret2
        exact ⟨_, _, rfl, HB.out, HM.out, Kd.C_below HT.out HB.out⟩
    · have e : cutP l x = (l, false) := by unfold cutP; rw [if_neg (fun q => hq q.2)]
      rw [e]
      simp only
      rw [decide_eq_false hq] at hs
      have HS := Aside0.mk hs
      rw [hl] at hc HH HC ⊢
      clear h2 hb h hs hq e hne hl h0
      go_enter Tryd.func67, Tryd.ntmps67
      go_wp2_with (go_at_call 92; refine HS.out.mono ?_; rintro e w' ⟨rfl, hb⟩; have HB := Aside0.mk hb; clear hb)
      go_ret2
      exact ⟨A, c, rfl, HB.out, HC.out, Kd.C_below HH.out HB.out⟩
end Go.Proofs.YtockllljeeakaaaDoor.PFnAddrs
