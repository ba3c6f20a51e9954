/- What a function comes to, walked by hand. No condition. -/
import Derived.Test.YtockllljeeakaaaDoorPFnExactPathReadx0
import Derived.Test.YtockllljeeakaaaDoorMlaw
import Derived.Test.YtockllljeeakaaaDoorMcore
import Derived.Shelf.Bytes.SlIndexAt
import Derived.Lib.IndexLaws
import Derived.Shelf.Strconv.ErrVarAll
namespace Go.Proofs.YtockllljeeakaaaDoor.PFnExactPathRead
open Go.RowKit Go.Proofs.YtockllljeeakaaaDoorW.PrintWords Go.Proofs.YtockllljeeakaaaDoorW.PrintLast Go.Proofs.YtockllljeeakaaaDoorW.PrintMore Go.Proofs.YtockllljeeakaaaDoor.M
attribute [local go_sem] max2_int min2_int max_two min_two max_three min_three max_four min_four Go.Proofs.YtockllljeeakaaaDoor.M.str_gtr Go.Proofs.YtockllljeeakaaaDoor.M.str_leq Go.Proofs.YtockllljeeakaaaDoor.M.str_geq   -- for this text's walks alone
set_option linter.unusedVariables false
set_option linter.unusedSimpArgs false
def laysAtoi_ren : Go.Shelf.Ren := ⟨fun | 172 => 68 | 244 => 93 | 245 => 94 | 247 => 114 | 279 => 115 | 280 => 116 | 281 => 117 | 282 => 118 | 287 => 131 | 316 => 132 | 171 => 69 | 205 => 133 | 321 => 140 | 322 => 141 | 243 => 95 | 246 => 119 | 283 => 122 | 284 => 123 | 285 => 124 | 286 => 125 | 129 => 135 | 317 => 134 | 318 => 136 | 319 => 137 | 320 => 138 | 337 => 142 | 338 => 143 | n => n, fun | 9 => 9 | 3 => 3 | 75 => 80 | 76 => 81 | 4 => 4 | 5 => 5 | 167 => 107 | 37 => 22 | 0 => 0 | 85 => 108 | 2 => 2 | 168 => 110 | 53 => 102 | 175 => 126 | 46 => 101 | 210 => 130 | 127 => 139 | 145 => 142 | 143 => 140 | 21 => 21 | 171 => 118 | 173 => 121 | 212 => 133 | 51 => 115 | 20 => 20 | 213 => 134 | 232 => 144 | 233 => 145 | 80 => 146 | n => n, fun | 15 => 1 | 16 => 2 | 17 => 3 | 18 => 4 | 19 => 5 | n => n⟩
theorem laysAtoi : LaysC.n172 Tryd.prog laysAtoi_ren where
  mixed := by kernel_rfl
  f129 := Tryd.func135.trans (congrArg some (by kernel_rfl))
  f171 := Tryd.func69.trans (congrArg some (by kernel_rfl))
  f172 := Tryd.func68.trans (congrArg some (by kernel_rfl))
  f205 := Tryd.func133.trans (congrArg some (by kernel_rfl))
  f243 := Tryd.func95.trans (congrArg some (by kernel_rfl))
  f244 := Tryd.func93.trans (congrArg some (by kernel_rfl))
  f245 := Tryd.func94.trans (congrArg some (by kernel_rfl))
  f246 := Tryd.func119.trans (congrArg some (by kernel_rfl))
  f247 := Tryd.func114.trans (congrArg some (by kernel_rfl))
  f279 := Tryd.func115.trans (congrArg some (by kernel_rfl))
  f280 := Tryd.func116.trans (congrArg some (by kernel_rfl))
  f281 := Tryd.func117.trans (congrArg some (by kernel_rfl))
  f282 := Tryd.func118.trans (congrArg some (by kernel_rfl))
  f283 := Tryd.func122.trans (congrArg some (by kernel_rfl))
  f284 := Tryd.func123.trans (congrArg some (by kernel_rfl))
  f285 := Tryd.func124.trans (congrArg some (by kernel_rfl))
  f286 := Tryd.func125.trans (congrArg some (by kernel_rfl))
  f287 := Tryd.func131.trans (congrArg some (by kernel_rfl))
  f316 := Tryd.func132.trans (congrArg some (by kernel_rfl))
  f317 := Tryd.func134.trans (congrArg some (by kernel_rfl))
  f318 := Tryd.func136.trans (congrArg some (by kernel_rfl))
  f319 := Tryd.func137.trans (congrArg some (by kernel_rfl))
  f320 := Tryd.func138.trans (congrArg some (by kernel_rfl))
  f321 := Tryd.func140.trans (congrArg some (by kernel_rfl))
  f322 := Tryd.func141.trans (congrArg some (by kernel_rfl))
  f337 := Tryd.func142.trans (congrArg some (by kernel_rfl))
  f338 := Tryd.func143.trans (congrArg some (by kernel_rfl))
  t0 := Tryd.underlying0
  a0 := Tryd.isAgg0
  z0 := Tryd.sizeOf0
  v0 := Tryd.zeroValue0
  t2 := Tryd.underlying2
  a2 := Tryd.isAgg2
  z2 := Tryd.sizeOf2
  v2 := Tryd.zeroValue2
  t3 := Tryd.underlying3
  a3 := Tryd.isAgg3
  z3 := Tryd.sizeOf3
  v3 := Tryd.zeroValue3
  t4 := Tryd.underlying4
  a4 := Tryd.isAgg4
  z4 := Tryd.sizeOf4
  v4 := Tryd.zeroValue4
  t5 := Tryd.underlying5
  a5 := Tryd.isAgg5
  z5 := Tryd.sizeOf5
  v5 := Tryd.zeroValue5
  t9 := Tryd.underlying9
  a9 := Tryd.isAgg9
  z9 := Tryd.sizeOf9
  v9 := Tryd.zeroValue9
  t20 := Tryd.underlying20
  a20 := Tryd.isAgg20
  z20 := Tryd.sizeOf20
  v20 := Tryd.zeroValue20
  t21 := Tryd.underlying21
  a21 := Tryd.isAgg21
  z21 := Tryd.sizeOf21
  v21 := Tryd.zeroValue21
  t37 := Tryd.underlying22
  a37 := Tryd.isAgg22
  z37 := Tryd.sizeOf22
  v37 := Tryd.zeroValue22
  t46 := Tryd.underlying101
  a46 := Tryd.isAgg101
  z46 := Tryd.sizeOf101
  v46 := Tryd.zeroValue101
  t51 := Tryd.underlying115
  a51 := Tryd.isAgg115
  z51 := Tryd.sizeOf115
  v51 := Tryd.zeroValue115
  t53 := Tryd.underlying102
  a53 := Tryd.isAgg102
  z53 := Tryd.sizeOf102
  v53 := Tryd.zeroValue102
  t75 := Tryd.underlying80
  a75 := Tryd.isAgg80
  z75 := Tryd.sizeOf80
  v75 := Tryd.zeroValue80
  t76 := Tryd.underlying81
  a76 := Tryd.isAgg81
  z76 := Tryd.sizeOf81
  v76 := Tryd.zeroValue81
  t85 := Tryd.underlying108
  a85 := Tryd.isAgg108
  z85 := Tryd.sizeOf108
  v85 := Tryd.zeroValue108
  t127 := Tryd.underlying139
  a127 := Tryd.isAgg139
  z127 := Tryd.sizeOf139
  v127 := Tryd.zeroValue139
  t143 := Tryd.underlying140
  a143 := Tryd.isAgg140
  z143 := Tryd.sizeOf140
  v143 := Tryd.zeroValue140
  t145 := Tryd.underlying142
  a145 := Tryd.isAgg142
  z145 := Tryd.sizeOf142
  v145 := Tryd.zeroValue142
  t167 := Tryd.underlying107
  a167 := Tryd.isAgg107
  z167 := Tryd.sizeOf107
  v167 := Tryd.zeroValue107
  t168 := Tryd.underlying110
  a168 := Tryd.isAgg110
  z168 := Tryd.sizeOf110
  v168 := Tryd.zeroValue110
  t171 := Tryd.underlying118
  a171 := Tryd.isAgg118
  z171 := Tryd.sizeOf118
  v171 := Tryd.zeroValue118
  t173 := Tryd.underlying121
  a173 := Tryd.isAgg121
  z173 := Tryd.sizeOf121
  v173 := Tryd.zeroValue121
  t175 := Tryd.underlying126
  a175 := Tryd.isAgg126
  z175 := Tryd.sizeOf126
  v175 := Tryd.zeroValue126
  t210 := Tryd.underlying130
  a210 := Tryd.isAgg130
  z210 := Tryd.sizeOf130
  v210 := Tryd.zeroValue130
  t212 := Tryd.underlying133
  a212 := Tryd.isAgg133
  z212 := Tryd.sizeOf133
  v212 := Tryd.zeroValue133
  t213 := Tryd.underlying134
  a213 := Tryd.isAgg134
  z213 := Tryd.sizeOf134
  t232 := Tryd.underlying144
  a232 := Tryd.isAgg144
  z232 := Tryd.sizeOf144
  v232 := Tryd.zeroValue144
  t233 := Tryd.underlying145
  a233 := Tryd.isAgg145
  z233 := Tryd.sizeOf145
  v233 := Tryd.zeroValue145
  g15 := by kernel_rfl
  g16 := by kernel_rfl
  g17 := by kernel_rfl
  g18 := by kernel_rfl
  g19 := by kernel_rfl
  t80 := Tryd.underlying146
  a80 := Tryd.isAgg146
  z80 := Tryd.sizeOf146
  v80 := Tryd.zeroValue146
  i0 := by kernel_rfl
  i2 := by kernel_rfl
  i3 := by kernel_rfl
  i4 := by kernel_rfl
  i5 := by kernel_rfl
  i9 := by kernel_rfl
  i20 := by kernel_rfl
  i21 := by kernel_rfl
  i37 := by kernel_rfl
  i46 := by kernel_rfl
  i51 := by kernel_rfl
  i53 := by kernel_rfl
  i75 := by kernel_rfl
  i76 := by kernel_rfl
  i80 := by kernel_rfl
  i85 := by kernel_rfl
  i127 := by kernel_rfl
  i143 := by kernel_rfl
  i145 := by kernel_rfl
  i167 := by kernel_rfl
  i168 := by kernel_rfl
  i171 := by kernel_rfl
  i173 := by kernel_rfl
  i175 := by kernel_rfl
  i210 := by kernel_rfl
  i212 := by kernel_rfl
  i232 := by kernel_rfl
  i233 := by kernel_rfl
  m15 := by kernel_rfl
  m16 := by kernel_rfl
  m17 := by kernel_rfl
  m18 := by kernel_rfl
  m19 := by kernel_rfl
  c0 := by kernel_rfl
  c2 := by kernel_rfl
  c3 := by kernel_rfl
  c4 := by kernel_rfl
  c5 := by kernel_rfl
  c9 := by kernel_rfl
  c20 := by kernel_rfl
  c21 := by kernel_rfl
  c37 := by kernel_rfl
  c46 := by kernel_rfl
  c51 := by kernel_rfl
  c53 := by kernel_rfl
  c75 := by kernel_rfl
  c76 := by kernel_rfl
  c80 := by kernel_rfl
  c85 := by kernel_rfl
  c127 := by kernel_rfl
  c143 := by kernel_rfl
  c145 := by kernel_rfl
  c167 := by kernel_rfl
  c168 := by kernel_rfl
  c171 := by kernel_rfl
  c173 := by kernel_rfl
  c175 := by kernel_rfl
  c210 := by kernel_rfl
  c212 := by kernel_rfl
  c213 := by kernel_rfl
  c232 := by kernel_rfl
  c233 := by kernel_rfl
/-- The two errors that Atoi may hand on: each variable holds an error. -/
structure Tb (w : World) : Prop where
  s : ∃ tp p, w.cell? ⟨laysAtoi_ren.g 15, 0, none⟩ = some (.iface tp p)
  r : ∃ tp p, w.cell? ⟨laysAtoi_ren.g 16, 0, none⟩ = some (.iface tp p)
theorem Tb.b {w w' : World} (h : Tb w) (hb : Below w.heap.size w w') : Tb w' := by
  obtain ⟨⟨t1, p1, h1⟩, ⟨t2, p2, h2⟩⟩ := h
  exact ⟨⟨t1, p1, (hb.cell (World.block_lt_of_cell? w _ h1)).trans h1⟩, ⟨t2, p2, (hb.cell (World.block_lt_of_cell? w _ h2)).trans h2⟩⟩
/-- Where the first ']' stands, or -1. -/
def posC (l : List Int) : Int := Lib.indexByte (Lib.bytesOf l) 93
theorem posC_ge (l : List Int) : -1 ≤ posC l ∧ posC l < l.length := by
  have h2 := Lib.indexByte_ge (Lib.bytesOf l) 93
  have h3 := Lib.bytesOf_length l
  unfold posC
  refine ⟨h2, ?_⟩
  by_cases hp : 0 ≤ Lib.indexByte (Lib.bytesOf l) 93
  · obtain ⟨o, ho⟩ := Int.eq_ofNat_of_zero_le hp
    have h := (Lib.indexByte_some ho).1
    have := (List.getElem?_eq_some_iff.1 h).1
    omega
  · omega
/-- Bytes that are read: each at its address. -/
theorem cellsU {w : World} {A : Option Addr} {l : List Int} (h : (Kd.int .u8).C w A l.length l) : A = none ∧ l = [] ∨ l = [] ∨ ∃ ad, A = some ad ∧ ∀ i, i < l.length → w.cell? (ad.add i) = some (.int .u8 (l.getD i 0)) := by
  by_cases hl : 0 < l.length
  · obtain ⟨ad, rfl, hc⟩ := h.2.2 hl
    refine .inr (.inr ⟨ad, rfl, fun i hi => ?_⟩)
    obtain ⟨c, h1, h2, h3⟩ := hc i l[i] (List.getElem?_eq_getElem hi)
    obtain rfl : c = [.int .u8 l[i]] := h2
    have h4 := h3 0 _ rfl
    have e : ad.add (i * (Kd.int .u8).sz + 0) = ad.add i := by show ad.add (i * 1 + 0) = _; rw [Nat.mul_one, Nat.add_zero]
    rw [e] at h4
    rw [h4, List.getD_eq_getElem?_getD, List.getElem?_eq_getElem hi]
    rfl
  · exact .inr (.inl (List.eq_nil_of_length_eq_zero (by omega)))
set_option maxRecDepth 100000 in
theorem indexByte_ka (A : Option Addr) (c : Nat) (l : List Int) (w : World) (h : (Kd.int .u8).C w A l.length l) :
    Calls Tryd.prog 71 #[.slice A l.length c, .int .u8 93] w fun e w' => e = .returned (.int .i64 (posC l)) ∧ w = w' := by
  have hr : (Extern.BytealgIndexByte.indexByte #[.slice A l.length c, .int .u8 93]).run Tryd.prog w = .ok (.int .i64 (posC l)) w := by
    rcases cellsU h with ⟨rfl, rfl⟩ | rfl | ⟨ad, rfl, hc⟩
    · exact Lib.run_indexByteNil w 0 c 93
    · cases A with
      | none => exact Lib.run_indexByteNil w 0 c 93
      | some ad => exact Lib.run_indexByteAt w ad 0 c [] rfl (fun i hi => by omega) 93
    · exact Lib.run_indexByteAt w ad l.length c l rfl hc 93
  clear h
  go_enter Tryd.func71, Tryd.ntmps71
  go_wp2
  rw [run_callFunc_extern Tryd.func96 (by kernel_rfl) (by kernel_rfl) (by kernel_rfl) (e := Extern.BytealgIndexByte.indexByte) (by kernel_rfl), hr]
  simp only [Result.andThen]
  rw [Oper.upon_value]
  go_wp2
  go_ret
  exact ⟨rfl, rfl⟩
theorem frC0 : Fr Tryd.prog 71 := ⟨_, Tryd.func71, by kernel_rfl, rfl⟩
theorem frC5 : Fr Tryd.prog 68 := ⟨_, Tryd.func68, by kernel_rfl, rfl⟩
theorem bytes_bel {w : World} (e : TypeId) (s : ByteArray) : Below w.heap.size w (Lib.bytesWorld w e s) := ⟨rfl, rfl, rfl, by rw [Lib.bytesWorld_size]; omega, fun i hi => Lib.bytesWorld_at_old w e s i (by omega)⟩
structure CU (w : World) (A : Option Addr) (l : List Int) : Prop where
  h : (Kd.int .u8).C w A l.length l
theorem CU.b {w w1 : World} {A : Option Addr} {l : List Int} (h : CU w A l) (hb : Below w.heap.size w w1) : CU w1 A l := ⟨Kd.C_below h.h hb⟩
theorem atoi_ok (l : List Int) (hl : l.length ≤ 1048576) (v : Int) (hv : Lib.atoiAll (strOfNums l).data.toList = .ok v) (w : World) : Calls Tryd.prog 68 #[.string (strOfNums l)] w fun e w' => e = .returned (.tuple #[.int .i64 v, .nilIface]) ∧ Below w.heap.size w w' := by
  refine (Any.strconv_Atoi_ok (P := Tryd.prog) laysAtoi (strOfNums l) (by rw [strOfNums_size]; omega) v hv w).mono ?_
  rintro e w' ⟨rfl, rfl | ⟨t, rfl⟩⟩
  · exact ⟨rfl, Below.refl _ _⟩
  · exact ⟨rfl, bytes_bel _ _⟩
theorem atoi_no (l : List Int) (hl : l.length ≤ 1048576) (hv : ∀ v, Lib.atoiAll (strOfNums l).data.toList ≠ .ok v) (w : World) (TB : Tb w) : Calls Tryd.prog 68 #[.string (strOfNums l)] w fun e w' => ∃ v t p, e = .returned (.tuple #[.int .i64 v, .iface t p]) ∧ Below w.heap.size w w' := by
  obtain ⟨⟨t1, p1, h1⟩, ⟨t2, p2, h2⟩⟩ := TB
  rcases e : Lib.atoiAll (strOfNums l).data.toList with v | _ | _
  · exact absurd e (hv v)
  · refine (Any.strconv_Atoi_syntax (P := Tryd.prog) laysAtoi (strOfNums l) (by rw [strOfNums_size]; omega) e _ w h1 (.inr ⟨_, _, rfl⟩)).mono ?_
    rintro e w' ⟨N, rfl, _, _, hb⟩
    exact ⟨_, _, _, rfl, hb⟩
  · refine (Any.strconv_Atoi_range (P := Tryd.prog) laysAtoi (strOfNums l) (by rw [strOfNums_size]; omega) e _ w h2 (.inr ⟨_, _, rfl⟩)).mono ?_
    rintro e w' ⟨N, rfl, _, _, hb⟩
    exact ⟨_, _, _, rfl, hb⟩
end Go.Proofs.YtockllljeeakaaaDoor.PFnExactPathRead
