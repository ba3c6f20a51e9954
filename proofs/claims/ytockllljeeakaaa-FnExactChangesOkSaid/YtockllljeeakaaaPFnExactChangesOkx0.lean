/- What the law reaches: each function as a plain Lean function, and that each call comes to it. No condition. -/
import Derived.Test.YtockllljeeakaaaProg
import Derived.Test.YtockllljeeakaaaMstr
import Derived.Test.YtockllljeeakaaaMz
import Derived.Lib.Bytealg
import Derived.Lib.BytesEntry
import Derived.Laws.Externs
import Derived.Below
import Derived.Deep.Draws
import Derived.Deep.AppendLies
import Derived.Maps.AppendAt
import Derived.OwnWalk
import Derived.Laws.BytesArg
import Derived.Laws.MakeOwn
import Derived.Laws.OwnMore
import Derived.Deep.OwnRows
import Derived.Tactics
import Derived.Lib.ConvBytes
import Derived.Laws.Slices
import Derived.WalkKit
import Derived.KernelRfl
import Derived.RowKit3
import Derived.Deep.LoopGhost
import Derived.Deep.QuietTactic
import Derived.BigQuiet
import Derived.WideLaws
import Derived.Deep.DeepCutAuto
import Derived.Deep.CutBlock
import Derived.Deep.RegionHeld3
import Derived.Laws.Rows
import Derived.Lib.AppendStr
import Derived.ArgAppend
import Derived.Laws.IdiomCopy
import Derived.OrdersHeld
import Derived.Laws.BitsLemmas
import Derived.RowKit
import Derived.Test.YtockllljeeakaaaVWords
import Derived.Test.YtockllljeeakaaaVLast
import Derived.Test.YtockllljeeakaaaVTab
import Derived.Test.YtockllljeeakaaaVFour
import Derived.Test.YtockllljeeakaaaVQPut
import Derived.Test.YtockllljeeakaaaVApart
import Derived.Test.YtockllljeeakaaaVArr
import Derived.Test.YtockllljeeakaaaVZeros
import Derived.Test.YtockllljeeakaaaVFoot
import Derived.Test.YtockllljeeakaaaVKept
import Derived.Test.YtockllljeeakaaaVShare
import Derived.Test.YtockllljeeakaaaVN
import Derived.Test.YtockllljeeakaaaVFootNe
import Derived.Test.YtockllljeeakaaaVAt
import Derived.Test.YtockllljeeakaaaVEqStruct
import Derived.Test.YtockllljeeakaaaVRepsOne
import Derived.Test.YtockllljeeakaaaVInv
import Derived.Test.YtockllljeeakaaaVInvWords
import Derived.Test.YtockllljeeakaaaVGuard
import Derived.Test.YtockllljeeakaaaVNEv
import Derived.Test.YtockllljeeakaaaVMore
namespace Go.Proofs.Ytockllljeeakaaa.PFnExactChangesOk
open Go.RowKit Go.Proofs.YtockllljeeakaaaW.PrintWords Go.Proofs.YtockllljeeakaaaW.PrintLast Go.Proofs.YtockllljeeakaaaW.PrintMore Go.Proofs.Ytockllljeeakaaa.M
attribute [local go_sem] max2_int min2_int max_two min_two max_three min_three max_four min_four Go.Proofs.Ytockllljeeakaaa.M.str_gtr Go.Proofs.Ytockllljeeakaaa.M.str_leq Go.Proofs.Ytockllljeeakaaa.M.str_geq   -- for this text's walks alone
set_option linter.unusedVariables false
set_option linter.unusedSimpArgs false



def errW : Option Int → Value
 | none => .nilIface
 | some c => .iface 0 (.int .i64 c)
theorem errW_none : errW none = .nilIface := rfl
theorem errW_some (c : Int) : errW (some c) = .iface 0 (.int .i64 c) := rfl

theorem info3 : (Try.prog.info? 3).map (fun i => (i.zero, i.size, i.bytes)) = some (some (.int .i64 0), 1, 8) := by kernel_rfl
theorem info5 : (Try.prog.info? 5).map (fun i => (i.zero, i.size, i.bytes)) = some (some (.int .u8 0), 1, 1) := by kernel_rfl
theorem info22 : (Try.prog.info? 22).map (fun i => (i.zero, i.size, i.bytes)) = some (some (.slice none 0 0), 1, 24) := by kernel_rfl
theorem info79 : (Try.prog.info? 79).map (fun i => (i.zero, i.size, i.bytes)) = some (some (.agg #[(.int .i64 0), (.int .i64 0), (.slice none 0 0), (.slice none 0 0), (.slice none 0 0)]), 5, 88) := by kernel_rfl
theorem info81 : (Try.prog.info? 81).map (fun i => (i.zero, i.size, i.bytes)) = some (some (.agg #[(.slice none 0 0), (.bool false), (.int .i64 0), (.int .i64 0), (.slice none 0 0), (.slice none 0 0), (.slice none 0 0), (.bool false), (.int .i64 0), (.int .i64 0), (.slice none 0 0), (.slice none 0 0), (.slice none 0 0)]), 13, 216) := by kernel_rfl
theorem info100 : (Try.prog.info? 100).map (fun i => (i.zero, i.size, i.bytes)) = some (some (.agg #[(.int .i64 0), (.slice none 0 0), (.int .i64 0)]), 3, 40) := by kernel_rfl
-- the values' own types
def rd_L2 (xs : List (List Int)) (i : Int) : (List Int) := xs.getD i.toNat ([] : List Int)
theorem at_L2 {w : World} {A : Option Addr} {n : Nat} {xs : List (List Int)} (h : Kd.C (Kd.slice 5 (Kd.int .u8)) w A n xs) (i : Int) (h0 : 0 ≤ i) (h1 : i < n) : ∃ ad A0 c0, A = some ad ∧ w.cell? (ad.add i.toNat) = some (.slice A0 (rd_L2 xs i).length c0) ∧ (rd_L2 xs i).length ≤ c0 ∧ (Kd.int .u8).C w A0 (rd_L2 xs i).length (rd_L2 xs i) := by
 obtain ⟨ad, c, e, _, hK, hc0⟩ := Kd.C_get h ([] : List Int) i h0 h1
 have hc : ∀ j u, c[j]? = some u → w.cell? (ad.add (i.toNat * 1 + j)) = some u := hc0
 obtain ⟨A0, c0, rfl, l0, g0⟩ := hK
 exact ⟨ad, A0, c0, e, by have hq := hc 0 _ rfl; rwa [Nat.mul_one, Nat.add_zero] at hq, l0, g0⟩

/-! #### struct type 138 -/
structure S138 where
 f0 : Int
 f1 : (List Int)
 f2 : Int
def z138 : S138 := ⟨(0 : Int), ([] : List Int), (0 : Int)⟩
def k138 : Kd S138 := Kd.iso (Kd.pair (Kd.int .i64) (Kd.pair (Kd.slice 5 (Kd.int .u8)) (Kd.int .i64))) (fun x : S138 => (x.f0, x.f1, x.f2))
theorem k138_open {w : World} {x : S138} {cs : List Value} (h : k138.K w x cs) : ∃ A1 c1, cs = [.int .i64 x.f0, .slice A1 x.f1.length c1, .int .i64 x.f2] ∧ x.f1.length ≤ c1 ∧ (Kd.int .u8).C w A1 x.f1.length x.f1 := by
 obtain ⟨_, _, rfl, rfl, ⟨_, _, rfl, ⟨A1, c1, rfl, l1, g1⟩, rfl⟩⟩ := h
 exact ⟨A1, c1, rfl, l1, g1⟩
theorem k138_openM {w : World} {base : Nat} {ok : Nat → Prop} {x : S138} {cs : List Value} (h : k138.M w base ok x cs) : ∃ v1, cs = [.int .i64 x.f0, v1, .int .i64 x.f2] ∧ (Kd.int .u8).R 5 w base ok v1 x.f1 := by
 obtain ⟨_, _, rfl, rfl, ⟨_, _, rfl, ⟨v1, rfl, g1⟩, rfl⟩⟩ := h
 exact ⟨v1, rfl, g1⟩
theorem k138_mk (w : World) (x : S138) {A1 : Option Addr} {c1 : Nat} (l1 : x.f1.length ≤ c1) (g1 : (Kd.int .u8).C w A1 x.f1.length x.f1) : k138.K w x [.int .i64 x.f0, .slice A1 x.f1.length c1, .int .i64 x.f2] := ⟨[.int .i64 x.f0], [.slice A1 x.f1.length c1, .int .i64 x.f2], rfl, rfl, ⟨[.slice A1 x.f1.length c1], [.int .i64 x.f2], rfl, ⟨A1, c1, rfl, l1, g1⟩, rfl⟩⟩
theorem k138_mkM (w : World) (base : Nat) (ok : Nat → Prop) (x : S138) {v1 : Value} (g1 : (Kd.int .u8).R 5 w base ok v1 x.f1) : k138.M w base ok x [.int .i64 x.f0, v1, .int .i64 x.f2] := ⟨[.int .i64 x.f0], [v1, .int .i64 x.f2], rfl, rfl, ⟨[v1], [.int .i64 x.f2], rfl, ⟨v1, rfl, g1⟩, rfl⟩⟩
def rd_T138 (xs : List S138) (i : Int) : S138 := xs.getD i.toNat z138
theorem at_T138 {w : World} {A : Option Addr} {n : Nat} {xs : List S138} (h : Kd.C k138 w A n xs) (i : Int) (h0 : 0 ≤ i) (h1 : i < n) : ∃ ad A1 c1, A = some ad ∧ w.cell? (ad.add (i.toNat * 3)) = some (.int .i64 (rd_T138 xs i).f0) ∧ w.cell? ⟨(ad.add (i.toNat * 3)).block, (ad.add (i.toNat * 3)).off + 1, none⟩ = some (.slice A1 (rd_T138 xs i).f1.length c1) ∧ w.cell? ⟨(ad.add (i.toNat * 3)).block, (ad.add (i.toNat * 3)).off + 2, none⟩ = some (.int .i64 (rd_T138 xs i).f2) ∧ (rd_T138 xs i).f1.length ≤ c1 ∧ (Kd.int .u8).C w A1 (rd_T138 xs i).f1.length (rd_T138 xs i).f1 := by
 obtain ⟨ad, c, e, _, hK, hc0⟩ := Kd.C_get h z138 i h0 h1
 have hc : ∀ j u, c[j]? = some u → w.cell? (ad.add (i.toNat * 3 + j)) = some u := hc0
 obtain ⟨A1, c1, rfl, l1, g1⟩ := k138_open hK
 exact ⟨ad, A1, c1, e, hc 0 _ rfl, by rw [← add_field _ _ 1 (by omega)]; exact hc 1 _ rfl, by rw [← add_field _ _ 2 (by omega)]; exact hc 2 _ rfl, l1, g1⟩

def rd_L4 (xs : List (List (List Int))) (i : Int) : (List (List Int)) := xs.getD i.toNat ([] : List (List Int))
theorem at_L4 {w : World} {A : Option Addr} {n : Nat} {xs : List (List (List Int))} (h : Kd.C (Kd.slice 22 (Kd.slice 5 (Kd.int .u8))) w A n xs) (i : Int) (h0 : 0 ≤ i) (h1 : i < n) : ∃ ad A0 c0, A = some ad ∧ w.cell? (ad.add i.toNat) = some (.slice A0 (rd_L4 xs i).length c0) ∧ (rd_L4 xs i).length ≤ c0 ∧ (Kd.slice 5 (Kd.int .u8)).C w A0 (rd_L4 xs i).length (rd_L4 xs i) := by
 obtain ⟨ad, c, e, _, hK, hc0⟩ := Kd.C_get h ([] : List (List Int)) i h0 h1
 have hc : ∀ j u, c[j]? = some u → w.cell? (ad.add (i.toNat * 1 + j)) = some u := hc0
 obtain ⟨A0, c0, rfl, l0, g0⟩ := hK
 exact ⟨ad, A0, c0, e, by have hq := hc 0 _ rfl; rwa [Nat.mul_one, Nat.add_zero] at hq, l0, g0⟩

/-! #### struct type 72, nested in itself -/
structure S72 where
 f0 : Int
 f1 : Int
 f2 : (List Int)
 f3 : (List (List Int))
 f4 : (List S72)
def z72 : S72 := ⟨(0 : Int), (0 : Int), ([] : List Int), ([] : List (List Int)), ([] : List S72)⟩
def F72 (d : Kd S72) : Kd S72 := Kd.iso (Kd.pair (Kd.int .i64) (Kd.pair (Kd.int .i64) (Kd.pair (Kd.slice 5 (Kd.int .u8)) (Kd.pair (Kd.slice 22 (Kd.slice 5 (Kd.int .u8))) (Kd.slice 72 d))))) (fun x : S72 => (x.f0, x.f1, x.f2, x.f3, x.f4))
theorem mono72 : Kd.Mono F72 := Kd.mono_iso _ (Kd.mono_pair (Kd.mono_const _) (Kd.mono_pair (Kd.mono_const _) (Kd.mono_pair (Kd.mono_const _) (Kd.mono_pair (Kd.mono_const _) (Kd.mono_slice 72 Kd.mono_id)))))
theorem sub72 : Kd.Sub F72 [5, 22, 72] := Kd.sub_iso _ (Kd.sub_pair (Kd.sub_const _ (by decide)) (Kd.sub_pair (Kd.sub_const _ (by decide)) (Kd.sub_pair (Kd.sub_const _ (by decide)) (Kd.sub_pair (Kd.sub_const _ (by decide)) (Kd.sub_slice 72 (by decide) Kd.sub_id)))))
theorem sz72 : ∀ n, (Kd.upto F72 5 [5, 22, 72] n).sz = 5 := Kd.upto_sz (fun _ => rfl)
def k72 : Kd S72 := Kd.fix F72 5 [5, 22, 72] sz72 (Kd.upto_E sub72)
theorem k72_open {w : World} {x : S72} {cs : List Value} (h : k72.K w x cs) : ∃ A2 c2 A3 c3 A4 c4, cs = [.int .i64 x.f0, .int .i64 x.f1, .slice A2 x.f2.length c2, .slice A3 x.f3.length c3, .slice A4 x.f4.length c4] ∧ x.f2.length ≤ c2 ∧ (Kd.int .u8).C w A2 x.f2.length x.f2 ∧ x.f3.length ≤ c3 ∧ (Kd.slice 5 (Kd.int .u8)).C w A3 x.f3.length x.f3 ∧ x.f4.length ≤ c4 ∧ k72.C w A4 x.f4.length x.f4 := by
 obtain ⟨n, h⟩ := h
 cases n with
 | zero => exact h.elim
 | succ n =>
  obtain ⟨_, _, rfl, rfl, ⟨_, _, rfl, rfl, ⟨_, _, rfl, ⟨A2, c2, rfl, l2, g2⟩, ⟨_, _, rfl, ⟨A3, c3, rfl, l3, g3⟩, ⟨A4, c4, rfl, l4, g4⟩⟩⟩⟩⟩ := h
  exact ⟨A2, c2, A3, c3, A4, c4, rfl, l2, g2, l3, g3, l4, Kd.fix_C g4⟩
theorem k72_openM {w : World} {base : Nat} {ok : Nat → Prop} {x : S72} {cs : List Value} (h : k72.M w base ok x cs) : ∃ v2 v3 v4, cs = [.int .i64 x.f0, .int .i64 x.f1, v2, v3, v4] ∧ (Kd.int .u8).R 5 w base ok v2 x.f2 ∧ (Kd.slice 5 (Kd.int .u8)).R 22 w base ok v3 x.f3 ∧ k72.R 72 w base ok v4 x.f4 := by
 obtain ⟨n, h⟩ := h
 cases n with
 | zero => exact h.elim
 | succ n =>
  obtain ⟨_, _, rfl, rfl, ⟨_, _, rfl, rfl, ⟨_, _, rfl, ⟨v2, rfl, g2⟩, ⟨_, _, rfl, ⟨v3, rfl, g3⟩, ⟨v4, rfl, g4⟩⟩⟩⟩⟩ := h
  exact ⟨v2, v3, v4, rfl, g2, g3, Kd.fix_R g4⟩
theorem k72_mk (w : World) (x : S72) {A2 : Option Addr} {c2 : Nat} (l2 : x.f2.length ≤ c2) (g2 : (Kd.int .u8).C w A2 x.f2.length x.f2) {A3 : Option Addr} {c3 : Nat} (l3 : x.f3.length ≤ c3) (g3 : (Kd.slice 5 (Kd.int .u8)).C w A3 x.f3.length x.f3) {A4 : Option Addr} {c4 : Nat} (l4 : x.f4.length ≤ c4) (g4 : k72.C w A4 x.f4.length x.f4) : k72.K w x [.int .i64 x.f0, .int .i64 x.f1, .slice A2 x.f2.length c2, .slice A3 x.f3.length c3, .slice A4 x.f4.length c4] := by
 obtain ⟨n4, q4⟩ := Kd.fix_C_back mono72 g4
 have r4 := Kd.upto_C_le mono72 sz72 (show n4 ≤ n4 by omega) q4
 exact ⟨n4 + 1, ⟨[.int .i64 x.f0], [.int .i64 x.f1, .slice A2 x.f2.length c2, .slice A3 x.f3.length c3, .slice A4 x.f4.length c4], rfl, rfl, ⟨[.int .i64 x.f1], [.slice A2 x.f2.length c2, .slice A3 x.f3.length c3, .slice A4 x.f4.length c4], rfl, rfl, ⟨[.slice A2 x.f2.length c2], [.slice A3 x.f3.length c3, .slice A4 x.f4.length c4], rfl, ⟨A2, c2, rfl, l2, g2⟩, ⟨[.slice A3 x.f3.length c3], [.slice A4 x.f4.length c4], rfl, ⟨A3, c3, rfl, l3, g3⟩, ⟨A4, c4, rfl, l4, r4⟩⟩⟩⟩⟩⟩
theorem k72_mkM (w : World) (base : Nat) (ok : Nat → Prop) (x : S72) {v2 : Value} (g2 : (Kd.int .u8).R 5 w base ok v2 x.f2) {v3 : Value} (g3 : (Kd.slice 5 (Kd.int .u8)).R 22 w base ok v3 x.f3) {v4 : Value} (g4 : k72.R 72 w base ok v4 x.f4) : k72.M w base ok x [.int .i64 x.f0, .int .i64 x.f1, v2, v3, v4] := by
 obtain ⟨n4, q4⟩ := Kd.fix_R_back mono72 g4
 have r4 := Kd.upto_R_le mono72 sz72 (show n4 ≤ n4 by omega) q4
 exact ⟨n4 + 1, ⟨[.int .i64 x.f0], [.int .i64 x.f1, v2, v3, v4], rfl, rfl, ⟨[.int .i64 x.f1], [v2, v3, v4], rfl, rfl, ⟨[v2], [v3, v4], rfl, ⟨v2, rfl, g2⟩, ⟨[v3], [v4], rfl, ⟨v3, rfl, g3⟩, ⟨v4, rfl, r4⟩⟩⟩⟩⟩⟩
def rd_T72 (xs : List S72) (i : Int) : S72 := xs.getD i.toNat z72
theorem at_T72 {w : World} {A : Option Addr} {n : Nat} {xs : List S72} (h : Kd.C k72 w A n xs) (i : Int) (h0 : 0 ≤ i) (h1 : i < n) : ∃ ad A2 c2 A3 c3 A4 c4, A = some ad ∧ w.cell? (ad.add (i.toNat * 5)) = some (.int .i64 (rd_T72 xs i).f0) ∧ w.cell? ⟨(ad.add (i.toNat * 5)).block, (ad.add (i.toNat * 5)).off + 1, none⟩ = some (.int .i64 (rd_T72 xs i).f1) ∧ w.cell? ⟨(ad.add (i.toNat * 5)).block, (ad.add (i.toNat * 5)).off + 2, none⟩ = some (.slice A2 (rd_T72 xs i).f2.length c2) ∧ w.cell? ⟨(ad.add (i.toNat * 5)).block, (ad.add (i.toNat * 5)).off + 3, none⟩ = some (.slice A3 (rd_T72 xs i).f3.length c3) ∧ w.cell? ⟨(ad.add (i.toNat * 5)).block, (ad.add (i.toNat * 5)).off + 4, none⟩ = some (.slice A4 (rd_T72 xs i).f4.length c4) ∧ (rd_T72 xs i).f2.length ≤ c2 ∧ (Kd.int .u8).C w A2 (rd_T72 xs i).f2.length (rd_T72 xs i).f2 ∧ (rd_T72 xs i).f3.length ≤ c3 ∧ (Kd.slice 5 (Kd.int .u8)).C w A3 (rd_T72 xs i).f3.length (rd_T72 xs i).f3 ∧ (rd_T72 xs i).f4.length ≤ c4 ∧ k72.C w A4 (rd_T72 xs i).f4.length (rd_T72 xs i).f4 := by
 obtain ⟨ad, c, e, _, hK, hc0⟩ := Kd.C_get h z72 i h0 h1
 have hc : ∀ j u, c[j]? = some u → w.cell? (ad.add (i.toNat * 5 + j)) = some u := hc0
 obtain ⟨A2, c2, A3, c3, A4, c4, rfl, l2, g2, l3, g3, l4, g4⟩ := k72_open hK
 exact ⟨ad, A2, c2, A3, c3, A4, c4, e, hc 0 _ rfl, by rw [← add_field _ _ 1 (by omega)]; exact hc 1 _ rfl, by rw [← add_field _ _ 2 (by omega)]; exact hc 2 _ rfl, by rw [← add_field _ _ 3 (by omega)]; exact hc 3 _ rfl, by rw [← add_field _ _ 4 (by omega)]; exact hc 4 _ rfl, l2, g2, l3, g3, l4, g4⟩

def rd_L6 (xs : List (List S138)) (i : Int) : (List S138) := xs.getD i.toNat ([] : List S138)
theorem at_L6 {w : World} {A : Option Addr} {n : Nat} {xs : List (List S138)} (h : Kd.C (Kd.slice 138 k138) w A n xs) (i : Int) (h0 : 0 ≤ i) (h1 : i < n) : ∃ ad A0 c0, A = some ad ∧ w.cell? (ad.add i.toNat) = some (.slice A0 (rd_L6 xs i).length c0) ∧ (rd_L6 xs i).length ≤ c0 ∧ k138.C w A0 (rd_L6 xs i).length (rd_L6 xs i) := by
 obtain ⟨ad, c, e, _, hK, hc0⟩ := Kd.C_get h ([] : List S138) i h0 h1
 have hc : ∀ j u, c[j]? = some u → w.cell? (ad.add (i.toNat * 1 + j)) = some u := hc0
 obtain ⟨A0, c0, rfl, l0, g0⟩ := hK
 exact ⟨ad, A0, c0, e, by have hq := hc 0 _ rfl; rwa [Nat.mul_one, Nat.add_zero] at hq, l0, g0⟩

/-! #### struct type 74 -/
structure S74 where
 f0 : (List S138)
 f1 : Bool
 f2 : S72
 f3 : Bool
 f4 : S72
def z74 : S74 := ⟨([] : List S138), false, z72, false, z72⟩
def k74 : Kd S74 := Kd.iso (Kd.pair (Kd.slice 138 k138) (Kd.pair Kd.bool (Kd.pair k72 (Kd.pair Kd.bool k72)))) (fun x : S74 => (x.f0, x.f1, x.f2, x.f3, x.f4))
theorem k74_open {w : World} {x : S74} {cs : List Value} (h : k74.K w x cs) : ∃ A0 c0 A4 c4 A5 c5 A6 c6 A10 c10 A11 c11 A12 c12, cs = [.slice A0 x.f0.length c0, .bool x.f1, .int .i64 x.f2.f0, .int .i64 x.f2.f1, .slice A4 x.f2.f2.length c4, .slice A5 x.f2.f3.length c5, .slice A6 x.f2.f4.length c6, .bool x.f3, .int .i64 x.f4.f0, .int .i64 x.f4.f1, .slice A10 x.f4.f2.length c10, .slice A11 x.f4.f3.length c11, .slice A12 x.f4.f4.length c12] ∧ x.f0.length ≤ c0 ∧ k138.C w A0 x.f0.length x.f0 ∧ x.f2.f2.length ≤ c4 ∧ (Kd.int .u8).C w A4 x.f2.f2.length x.f2.f2 ∧ x.f2.f3.length ≤ c5 ∧ (Kd.slice 5 (Kd.int .u8)).C w A5 x.f2.f3.length x.f2.f3 ∧ x.f2.f4.length ≤ c6 ∧ k72.C w A6 x.f2.f4.length x.f2.f4 ∧ x.f4.f2.length ≤ c10 ∧ (Kd.int .u8).C w A10 x.f4.f2.length x.f4.f2 ∧ x.f4.f3.length ≤ c11 ∧ (Kd.slice 5 (Kd.int .u8)).C w A11 x.f4.f3.length x.f4.f3 ∧ x.f4.f4.length ≤ c12 ∧ k72.C w A12 x.f4.f4.length x.f4.f4 := by
 obtain ⟨_, _, rfl, ⟨A0, c0, rfl, l0, g0⟩, ⟨_, _, rfl, rfl, ⟨_, _, rfl, s2, ⟨_, _, rfl, rfl, s8⟩⟩⟩⟩ := h
 obtain ⟨A4, c4, A5, c5, A6, c6, rfl, l4, g4, l5, g5, l6, g6⟩ := k72_open s2
 obtain ⟨A10, c10, A11, c11, A12, c12, rfl, l10, g10, l11, g11, l12, g12⟩ := k72_open s8
 exact ⟨A0, c0, A4, c4, A5, c5, A6, c6, A10, c10, A11, c11, A12, c12, rfl, l0, g0, l4, g4, l5, g5, l6, g6, l10, g10, l11, g11, l12, g12⟩
theorem k74_openM {w : World} {base : Nat} {ok : Nat → Prop} {x : S74} {cs : List Value} (h : k74.M w base ok x cs) : ∃ v0 v4 v5 v6 v10 v11 v12, cs = [v0, .bool x.f1, .int .i64 x.f2.f0, .int .i64 x.f2.f1, v4, v5, v6, .bool x.f3, .int .i64 x.f4.f0, .int .i64 x.f4.f1, v10, v11, v12] ∧ k138.R 138 w base ok v0 x.f0 ∧ (Kd.int .u8).R 5 w base ok v4 x.f2.f2 ∧ (Kd.slice 5 (Kd.int .u8)).R 22 w base ok v5 x.f2.f3 ∧ k72.R 72 w base ok v6 x.f2.f4 ∧ (Kd.int .u8).R 5 w base ok v10 x.f4.f2 ∧ (Kd.slice 5 (Kd.int .u8)).R 22 w base ok v11 x.f4.f3 ∧ k72.R 72 w base ok v12 x.f4.f4 := by
 obtain ⟨_, _, rfl, ⟨v0, rfl, g0⟩, ⟨_, _, rfl, rfl, ⟨_, _, rfl, s2, ⟨_, _, rfl, rfl, s8⟩⟩⟩⟩ := h
 obtain ⟨v4, v5, v6, rfl, g4, g5, g6⟩ := k72_openM s2
 obtain ⟨v10, v11, v12, rfl, g10, g11, g12⟩ := k72_openM s8
 exact ⟨v0, v4, v5, v6, v10, v11, v12, rfl, g0, g4, g5, g6, g10, g11, g12⟩
theorem k74_mk (w : World) (x : S74) {A0 : Option Addr} {c0 : Nat} (l0 : x.f0.length ≤ c0) (g0 : k138.C w A0 x.f0.length x.f0) {A4 : Option Addr} {c4 : Nat} (l4 : x.f2.f2.length ≤ c4) (g4 : (Kd.int .u8).C w A4 x.f2.f2.length x.f2.f2) {A5 : Option Addr} {c5 : Nat} (l5 : x.f2.f3.length ≤ c5) (g5 : (Kd.slice 5 (Kd.int .u8)).C w A5 x.f2.f3.length x.f2.f3) {A6 : Option Addr} {c6 : Nat} (l6 : x.f2.f4.length ≤ c6) (g6 : k72.C w A6 x.f2.f4.length x.f2.f4) {A10 : Option Addr} {c10 : Nat} (l10 : x.f4.f2.length ≤ c10) (g10 : (Kd.int .u8).C w A10 x.f4.f2.length x.f4.f2) {A11 : Option Addr} {c11 : Nat} (l11 : x.f4.f3.length ≤ c11) (g11 : (Kd.slice 5 (Kd.int .u8)).C w A11 x.f4.f3.length x.f4.f3) {A12 : Option Addr} {c12 : Nat} (l12 : x.f4.f4.length ≤ c12) (g12 : k72.C w A12 x.f4.f4.length x.f4.f4) : k74.K w x [.slice A0 x.f0.length c0, .bool x.f1, .int .i64 x.f2.f0, .int .i64 x.f2.f1, .slice A4 x.f2.f2.length c4, .slice A5 x.f2.f3.length c5, .slice A6 x.f2.f4.length c6, .bool x.f3, .int .i64 x.f4.f0, .int .i64 x.f4.f1, .slice A10 x.f4.f2.length c10, .slice A11 x.f4.f3.length c11, .slice A12 x.f4.f4.length c12] := ⟨[.slice A0 x.f0.length c0], [.bool x.f1, .int .i64 x.f2.f0, .int .i64 x.f2.f1, .slice A4 x.f2.f2.length c4, .slice A5 x.f2.f3.length c5, .slice A6 x.f2.f4.length c6, .bool x.f3, .int .i64 x.f4.f0, .int .i64 x.f4.f1, .slice A10 x.f4.f2.length c10, .slice A11 x.f4.f3.length c11, .slice A12 x.f4.f4.length c12], rfl, ⟨A0, c0, rfl, l0, g0⟩, ⟨[.bool x.f1], [.int .i64 x.f2.f0, .int .i64 x.f2.f1, .slice A4 x.f2.f2.length c4, .slice A5 x.f2.f3.length c5, .slice A6 x.f2.f4.length c6, .bool x.f3, .int .i64 x.f4.f0, .int .i64 x.f4.f1, .slice A10 x.f4.f2.length c10, .slice A11 x.f4.f3.length c11, .slice A12 x.f4.f4.length c12], rfl, rfl, ⟨[.int .i64 x.f2.f0, .int .i64 x.f2.f1, .slice A4 x.f2.f2.length c4, .slice A5 x.f2.f3.length c5, .slice A6 x.f2.f4.length c6], [.bool x.f3, .int .i64 x.f4.f0, .int .i64 x.f4.f1, .slice A10 x.f4.f2.length c10, .slice A11 x.f4.f3.length c11, .slice A12 x.f4.f4.length c12], rfl, (k72_mk w x.f2 l4 g4 l5 g5 l6 g6), ⟨[.bool x.f3], [.int .i64 x.f4.f0, .int .i64 x.f4.f1, .slice A10 x.f4.f2.length c10, .slice A11 x.f4.f3.length c11, .slice A12 x.f4.f4.length c12], rfl, rfl, (k72_mk w x.f4 l10 g10 l11 g11 l12 g12)⟩⟩⟩⟩
theorem k74_mkM (w : World) (base : Nat) (ok : Nat → Prop) (x : S74) {v0 : Value} (g0 : k138.R 138 w base ok v0 x.f0) {v4 : Value} (g4 : (Kd.int .u8).R 5 w base ok v4 x.f2.f2) {v5 : Value} (g5 : (Kd.slice 5 (Kd.int .u8)).R 22 w base ok v5 x.f2.f3) {v6 : Value} (g6 : k72.R 72 w base ok v6 x.f2.f4) {v10 : Value} (g10 : (Kd.int .u8).R 5 w base ok v10 x.f4.f2) {v11 : Value} (g11 : (Kd.slice 5 (Kd.int .u8)).R 22 w base ok v11 x.f4.f3) {v12 : Value} (g12 : k72.R 72 w base ok v12 x.f4.f4) : k74.M w base ok x [v0, .bool x.f1, .int .i64 x.f2.f0, .int .i64 x.f2.f1, v4, v5, v6, .bool x.f3, .int .i64 x.f4.f0, .int .i64 x.f4.f1, v10, v11, v12] := ⟨[v0], [.bool x.f1, .int .i64 x.f2.f0, .int .i64 x.f2.f1, v4, v5, v6, .bool x.f3, .int .i64 x.f4.f0, .int .i64 x.f4.f1, v10, v11, v12], rfl, ⟨v0, rfl, g0⟩, ⟨[.bool x.f1], [.int .i64 x.f2.f0, .int .i64 x.f2.f1, v4, v5, v6, .bool x.f3, .int .i64 x.f4.f0, .int .i64 x.f4.f1, v10, v11, v12], rfl, rfl, ⟨[.int .i64 x.f2.f0, .int .i64 x.f2.f1, v4, v5, v6], [.bool x.f3, .int .i64 x.f4.f0, .int .i64 x.f4.f1, v10, v11, v12], rfl, (k72_mkM w base ok x.f2 g4 g5 g6), ⟨[.bool x.f3], [.int .i64 x.f4.f0, .int .i64 x.f4.f1, v10, v11, v12], rfl, rfl, (k72_mkM w base ok x.f4 g10 g11 g12)⟩⟩⟩⟩
def rd_T74 (xs : List S74) (i : Int) : S74 := xs.getD i.toNat z74
theorem at_T74 {w : World} {A : Option Addr} {n : Nat} {xs : List S74} (h : Kd.C k74 w A n xs) (i : Int) (h0 : 0 ≤ i) (h1 : i < n) : ∃ ad A0 c0 A4 c4 A5 c5 A6 c6 A10 c10 A11 c11 A12 c12, A = some ad ∧ w.cell? (ad.add (i.toNat * 13)) = some (.slice A0 (rd_T74 xs i).f0.length c0) ∧ w.cell? ⟨(ad.add (i.toNat * 13)).block, (ad.add (i.toNat * 13)).off + 1, none⟩ = some (.bool (rd_T74 xs i).f1) ∧ w.cell? ⟨(ad.add (i.toNat * 13)).block, (ad.add (i.toNat * 13)).off + 2, none⟩ = some (.int .i64 (rd_T74 xs i).f2.f0) ∧ w.cell? ⟨(ad.add (i.toNat * 13)).block, (ad.add (i.toNat * 13)).off + 3, none⟩ = some (.int .i64 (rd_T74 xs i).f2.f1) ∧ w.cell? ⟨(ad.add (i.toNat * 13)).block, (ad.add (i.toNat * 13)).off + 4, none⟩ = some (.slice A4 (rd_T74 xs i).f2.f2.length c4) ∧ w.cell? ⟨(ad.add (i.toNat * 13)).block, (ad.add (i.toNat * 13)).off + 5, none⟩ = some (.slice A5 (rd_T74 xs i).f2.f3.length c5) ∧ w.cell? ⟨(ad.add (i.toNat * 13)).block, (ad.add (i.toNat * 13)).off + 6, none⟩ = some (.slice A6 (rd_T74 xs i).f2.f4.length c6) ∧ w.cell? ⟨(ad.add (i.toNat * 13)).block, (ad.add (i.toNat * 13)).off + 7, none⟩ = some (.bool (rd_T74 xs i).f3) ∧ w.cell? ⟨(ad.add (i.toNat * 13)).block, (ad.add (i.toNat * 13)).off + 8, none⟩ = some (.int .i64 (rd_T74 xs i).f4.f0) ∧ w.cell? ⟨(ad.add (i.toNat * 13)).block, (ad.add (i.toNat * 13)).off + 9, none⟩ = some (.int .i64 (rd_T74 xs i).f4.f1) ∧ w.cell? ⟨(ad.add (i.toNat * 13)).block, (ad.add (i.toNat * 13)).off + 10, none⟩ = some (.slice A10 (rd_T74 xs i).f4.f2.length c10) ∧ w.cell? ⟨(ad.add (i.toNat * 13)).block, (ad.add (i.toNat * 13)).off + 11, none⟩ = some (.slice A11 (rd_T74 xs i).f4.f3.length c11) ∧ w.cell? ⟨(ad.add (i.toNat * 13)).block, (ad.add (i.toNat * 13)).off + 12, none⟩ = some (.slice A12 (rd_T74 xs i).f4.f4.length c12) ∧ (rd_T74 xs i).f0.length ≤ c0 ∧ k138.C w A0 (rd_T74 xs i).f0.length (rd_T74 xs i).f0 ∧ (rd_T74 xs i).f2.f2.length ≤ c4 ∧ (Kd.int .u8).C w A4 (rd_T74 xs i).f2.f2.length (rd_T74 xs i).f2.f2 ∧ (rd_T74 xs i).f2.f3.length ≤ c5 ∧ (Kd.slice 5 (Kd.int .u8)).C w A5 (rd_T74 xs i).f2.f3.length (rd_T74 xs i).f2.f3 ∧ (rd_T74 xs i).f2.f4.length ≤ c6 ∧ k72.C w A6 (rd_T74 xs i).f2.f4.length (rd_T74 xs i).f2.f4 ∧ (rd_T74 xs i).f4.f2.length ≤ c10 ∧ (Kd.int .u8).C w A10 (rd_T74 xs i).f4.f2.length (rd_T74 xs i).f4.f2 ∧ (rd_T74 xs i).f4.f3.length ≤ c11 ∧ (Kd.slice 5 (Kd.int .u8)).C w A11 (rd_T74 xs i).f4.f3.length (rd_T74 xs i).f4.f3 ∧ (rd_T74 xs i).f4.f4.length ≤ c12 ∧ k72.C w A12 (rd_T74 xs i).f4.f4.length (rd_T74 xs i).f4.f4 := by
 obtain ⟨ad, c, e, _, hK, hc0⟩ := Kd.C_get h z74 i h0 h1
 have hc : ∀ j u, c[j]? = some u → w.cell? (ad.add (i.toNat * 13 + j)) = some u := hc0
 obtain ⟨A0, c0, A4, c4, A5, c5, A6, c6, A10, c10, A11, c11, A12, c12, rfl, l0, g0, l4, g4, l5, g5, l6, g6, l10, g10, l11, g11, l12, g12⟩ := k74_open hK
 exact ⟨ad, A0, c0, A4, c4, A5, c5, A6, c6, A10, c10, A11, c11, A12, c12, e, hc 0 _ rfl, by rw [← add_field _ _ 1 (by omega)]; exact hc 1 _ rfl, by rw [← add_field _ _ 2 (by omega)]; exact hc 2 _ rfl, by rw [← add_field _ _ 3 (by omega)]; exact hc 3 _ rfl, by rw [← add_field _ _ 4 (by omega)]; exact hc 4 _ rfl, by rw [← add_field _ _ 5 (by omega)]; exact hc 5 _ rfl, by rw [← add_field _ _ 6 (by omega)]; exact hc 6 _ rfl, by rw [← add_field _ _ 7 (by omega)]; exact hc 7 _ rfl, by rw [← add_field _ _ 8 (by omega)]; exact hc 8 _ rfl, by rw [← add_field _ _ 9 (by omega)]; exact hc 9 _ rfl, by rw [← add_field _ _ 10 (by omega)]; exact hc 10 _ rfl, by rw [← add_field _ _ 11 (by omega)]; exact hc 11 _ rfl, by rw [← add_field _ _ 12 (by omega)]; exact hc 12 _ rfl, l0, g0, l4, g4, l5, g5, l6, g6, l10, g10, l11, g11, l12, g12⟩

/-! #### struct type 100 -/
structure S100 where
 f0 : Int
 f1 : (List Int)
 f2 : Int
def z100 : S100 := ⟨(0 : Int), ([] : List Int), (0 : Int)⟩
def k100 : Kd S100 := Kd.iso (Kd.pair (Kd.int .i64) (Kd.pair (Kd.slice 5 (Kd.int .u8)) (Kd.int .i64))) (fun x : S100 => (x.f0, x.f1, x.f2))
theorem k100_open {w : World} {x : S100} {cs : List Value} (h : k100.K w x cs) : ∃ A1 c1, cs = [.int .i64 x.f0, .slice A1 x.f1.length c1, .int .i64 x.f2] ∧ x.f1.length ≤ c1 ∧ (Kd.int .u8).C w A1 x.f1.length x.f1 := by
 obtain ⟨_, _, rfl, rfl, ⟨_, _, rfl, ⟨A1, c1, rfl, l1, g1⟩, rfl⟩⟩ := h
 exact ⟨A1, c1, rfl, l1, g1⟩
theorem k100_openM {w : World} {base : Nat} {ok : Nat → Prop} {x : S100} {cs : List Value} (h : k100.M w base ok x cs) : ∃ v1, cs = [.int .i64 x.f0, v1, .int .i64 x.f2] ∧ (Kd.int .u8).R 5 w base ok v1 x.f1 := by
 obtain ⟨_, _, rfl, rfl, ⟨_, _, rfl, ⟨v1, rfl, g1⟩, rfl⟩⟩ := h
 exact ⟨v1, rfl, g1⟩
theorem k100_mk (w : World) (x : S100) {A1 : Option Addr} {c1 : Nat} (l1 : x.f1.length ≤ c1) (g1 : (Kd.int .u8).C w A1 x.f1.length x.f1) : k100.K w x [.int .i64 x.f0, .slice A1 x.f1.length c1, .int .i64 x.f2] := ⟨[.int .i64 x.f0], [.slice A1 x.f1.length c1, .int .i64 x.f2], rfl, rfl, ⟨[.slice A1 x.f1.length c1], [.int .i64 x.f2], rfl, ⟨A1, c1, rfl, l1, g1⟩, rfl⟩⟩
theorem k100_mkM (w : World) (base : Nat) (ok : Nat → Prop) (x : S100) {v1 : Value} (g1 : (Kd.int .u8).R 5 w base ok v1 x.f1) : k100.M w base ok x [.int .i64 x.f0, v1, .int .i64 x.f2] := ⟨[.int .i64 x.f0], [v1, .int .i64 x.f2], rfl, rfl, ⟨[v1], [.int .i64 x.f2], rfl, ⟨v1, rfl, g1⟩, rfl⟩⟩
def rd_T100 (xs : List S100) (i : Int) : S100 := xs.getD i.toNat z100
theorem at_T100 {w : World} {A : Option Addr} {n : Nat} {xs : List S100} (h : Kd.C k100 w A n xs) (i : Int) (h0 : 0 ≤ i) (h1 : i < n) : ∃ ad A1 c1, A = some ad ∧ w.cell? (ad.add (i.toNat * 3)) = some (.int .i64 (rd_T100 xs i).f0) ∧ w.cell? ⟨(ad.add (i.toNat * 3)).block, (ad.add (i.toNat * 3)).off + 1, none⟩ = some (.slice A1 (rd_T100 xs i).f1.length c1) ∧ w.cell? ⟨(ad.add (i.toNat * 3)).block, (ad.add (i.toNat * 3)).off + 2, none⟩ = some (.int .i64 (rd_T100 xs i).f2) ∧ (rd_T100 xs i).f1.length ≤ c1 ∧ (Kd.int .u8).C w A1 (rd_T100 xs i).f1.length (rd_T100 xs i).f1 := by
 obtain ⟨ad, c, e, _, hK, hc0⟩ := Kd.C_get h z100 i h0 h1
 have hc : ∀ j u, c[j]? = some u → w.cell? (ad.add (i.toNat * 3 + j)) = some u := hc0
 obtain ⟨A1, c1, rfl, l1, g1⟩ := k100_open hK
 exact ⟨ad, A1, c1, e, hc 0 _ rfl, by rw [← add_field _ _ 1 (by omega)]; exact hc 1 _ rfl, by rw [← add_field _ _ 2 (by omega)]; exact hc 2 _ rfl, l1, g1⟩

/-! #### struct type 79, nested in itself -/
structure S79 where
 f0 : Int
 f1 : Int
 f2 : (List Int)
 f3 : (List (List Int))
 f4 : (List S79)
def z79 : S79 := ⟨(0 : Int), (0 : Int), ([] : List Int), ([] : List (List Int)), ([] : List S79)⟩
def F79 (d : Kd S79) : Kd S79 := Kd.iso (Kd.pair (Kd.int .i64) (Kd.pair (Kd.int .i64) (Kd.pair (Kd.slice 5 (Kd.int .u8)) (Kd.pair (Kd.slice 22 (Kd.slice 5 (Kd.int .u8))) (Kd.slice 79 d))))) (fun x : S79 => (x.f0, x.f1, x.f2, x.f3, x.f4))
theorem mono79 : Kd.Mono F79 := Kd.mono_iso _ (Kd.mono_pair (Kd.mono_const _) (Kd.mono_pair (Kd.mono_const _) (Kd.mono_pair (Kd.mono_const _) (Kd.mono_pair (Kd.mono_const _) (Kd.mono_slice 79 Kd.mono_id)))))
theorem sub79 : Kd.Sub F79 [5, 22, 79] := Kd.sub_iso _ (Kd.sub_pair (Kd.sub_const _ (by decide)) (Kd.sub_pair (Kd.sub_const _ (by decide)) (Kd.sub_pair (Kd.sub_const _ (by decide)) (Kd.sub_pair (Kd.sub_const _ (by decide)) (Kd.sub_slice 79 (by decide) Kd.sub_id)))))
theorem sz79 : ∀ n, (Kd.upto F79 5 [5, 22, 79] n).sz = 5 := Kd.upto_sz (fun _ => rfl)
def k79 : Kd S79 := Kd.fix F79 5 [5, 22, 79] sz79 (Kd.upto_E sub79)
theorem k79_open {w : World} {x : S79} {cs : List Value} (h : k79.K w x cs) : ∃ A2 c2 A3 c3 A4 c4, cs = [.int .i64 x.f0, .int .i64 x.f1, .slice A2 x.f2.length c2, .slice A3 x.f3.length c3, .slice A4 x.f4.length c4] ∧ x.f2.length ≤ c2 ∧ (Kd.int .u8).C w A2 x.f2.length x.f2 ∧ x.f3.length ≤ c3 ∧ (Kd.slice 5 (Kd.int .u8)).C w A3 x.f3.length x.f3 ∧ x.f4.length ≤ c4 ∧ k79.C w A4 x.f4.length x.f4 := by
 obtain ⟨n, h⟩ := h
 cases n with
 | zero => exact h.elim
 | succ n =>
  obtain ⟨_, _, rfl, rfl, ⟨_, _, rfl, rfl, ⟨_, _, rfl, ⟨A2, c2, rfl, l2, g2⟩, ⟨_, _, rfl, ⟨A3, c3, rfl, l3, g3⟩, ⟨A4, c4, rfl, l4, g4⟩⟩⟩⟩⟩ := h
  exact ⟨A2, c2, A3, c3, A4, c4, rfl, l2, g2, l3, g3, l4, Kd.fix_C g4⟩
theorem k79_openM {w : World} {base : Nat} {ok : Nat → Prop} {x : S79} {cs : List Value} (h : k79.M w base ok x cs) : ∃ v2 v3 v4, cs = [.int .i64 x.f0, .int .i64 x.f1, v2, v3, v4] ∧ (Kd.int .u8).R 5 w base ok v2 x.f2 ∧ (Kd.slice 5 (Kd.int .u8)).R 22 w base ok v3 x.f3 ∧ k79.R 79 w base ok v4 x.f4 := by
 obtain ⟨n, h⟩ := h
 cases n with
 | zero => exact h.elim
 | succ n =>
  obtain ⟨_, _, rfl, rfl, ⟨_, _, rfl, rfl, ⟨_, _, rfl, ⟨v2, rfl, g2⟩, ⟨_, _, rfl, ⟨v3, rfl, g3⟩, ⟨v4, rfl, g4⟩⟩⟩⟩⟩ := h
  exact ⟨v2, v3, v4, rfl, g2, g3, Kd.fix_R g4⟩
theorem k79_mk (w : World) (x : S79) {A2 : Option Addr} {c2 : Nat} (l2 : x.f2.length ≤ c2) (g2 : (Kd.int .u8).C w A2 x.f2.length x.f2) {A3 : Option Addr} {c3 : Nat} (l3 : x.f3.length ≤ c3) (g3 : (Kd.slice 5 (Kd.int .u8)).C w A3 x.f3.length x.f3) {A4 : Option Addr} {c4 : Nat} (l4 : x.f4.length ≤ c4) (g4 : k79.C w A4 x.f4.length x.f4) : k79.K w x [.int .i64 x.f0, .int .i64 x.f1, .slice A2 x.f2.length c2, .slice A3 x.f3.length c3, .slice A4 x.f4.length c4] := by
 obtain ⟨n4, q4⟩ := Kd.fix_C_back mono79 g4
 have r4 := Kd.upto_C_le mono79 sz79 (show n4 ≤ n4 by omega) q4
 exact ⟨n4 + 1, ⟨[.int .i64 x.f0], [.int .i64 x.f1, .slice A2 x.f2.length c2, .slice A3 x.f3.length c3, .slice A4 x.f4.length c4], rfl, rfl, ⟨[.int .i64 x.f1], [.slice A2 x.f2.length c2, .slice A3 x.f3.length c3, .slice A4 x.f4.length c4], rfl, rfl, ⟨[.slice A2 x.f2.length c2], [.slice A3 x.f3.length c3, .slice A4 x.f4.length c4], rfl, ⟨A2, c2, rfl, l2, g2⟩, ⟨[.slice A3 x.f3.length c3], [.slice A4 x.f4.length c4], rfl, ⟨A3, c3, rfl, l3, g3⟩, ⟨A4, c4, rfl, l4, r4⟩⟩⟩⟩⟩⟩
theorem k79_mkM (w : World) (base : Nat) (ok : Nat → Prop) (x : S79) {v2 : Value} (g2 : (Kd.int .u8).R 5 w base ok v2 x.f2) {v3 : Value} (g3 : (Kd.slice 5 (Kd.int .u8)).R 22 w base ok v3 x.f3) {v4 : Value} (g4 : k79.R 79 w base ok v4 x.f4) : k79.M w base ok x [.int .i64 x.f0, .int .i64 x.f1, v2, v3, v4] := by
 obtain ⟨n4, q4⟩ := Kd.fix_R_back mono79 g4
 have r4 := Kd.upto_R_le mono79 sz79 (show n4 ≤ n4 by omega) q4
 exact ⟨n4 + 1, ⟨[.int .i64 x.f0], [.int .i64 x.f1, v2, v3, v4], rfl, rfl, ⟨[.int .i64 x.f1], [v2, v3, v4], rfl, rfl, ⟨[v2], [v3, v4], rfl, ⟨v2, rfl, g2⟩, ⟨[v3], [v4], rfl, ⟨v3, rfl, g3⟩, ⟨v4, rfl, r4⟩⟩⟩⟩⟩⟩
def rd_T79 (xs : List S79) (i : Int) : S79 := xs.getD i.toNat z79
theorem at_T79 {w : World} {A : Option Addr} {n : Nat} {xs : List S79} (h : Kd.C k79 w A n xs) (i : Int) (h0 : 0 ≤ i) (h1 : i < n) : ∃ ad A2 c2 A3 c3 A4 c4, A = some ad ∧ w.cell? (ad.add (i.toNat * 5)) = some (.int .i64 (rd_T79 xs i).f0) ∧ w.cell? ⟨(ad.add (i.toNat * 5)).block, (ad.add (i.toNat * 5)).off + 1, none⟩ = some (.int .i64 (rd_T79 xs i).f1) ∧ w.cell? ⟨(ad.add (i.toNat * 5)).block, (ad.add (i.toNat * 5)).off + 2, none⟩ = some (.slice A2 (rd_T79 xs i).f2.length c2) ∧ w.cell? ⟨(ad.add (i.toNat * 5)).block, (ad.add (i.toNat * 5)).off + 3, none⟩ = some (.slice A3 (rd_T79 xs i).f3.length c3) ∧ w.cell? ⟨(ad.add (i.toNat * 5)).block, (ad.add (i.toNat * 5)).off + 4, none⟩ = some (.slice A4 (rd_T79 xs i).f4.length c4) ∧ (rd_T79 xs i).f2.length ≤ c2 ∧ (Kd.int .u8).C w A2 (rd_T79 xs i).f2.length (rd_T79 xs i).f2 ∧ (rd_T79 xs i).f3.length ≤ c3 ∧ (Kd.slice 5 (Kd.int .u8)).C w A3 (rd_T79 xs i).f3.length (rd_T79 xs i).f3 ∧ (rd_T79 xs i).f4.length ≤ c4 ∧ k79.C w A4 (rd_T79 xs i).f4.length (rd_T79 xs i).f4 := by
 obtain ⟨ad, c, e, _, hK, hc0⟩ := Kd.C_get h z79 i h0 h1
 have hc : ∀ j u, c[j]? = some u → w.cell? (ad.add (i.toNat * 5 + j)) = some u := hc0
 obtain ⟨A2, c2, A3, c3, A4, c4, rfl, l2, g2, l3, g3, l4, g4⟩ := k79_open hK
 exact ⟨ad, A2, c2, A3, c3, A4, c4, e, hc 0 _ rfl, by rw [← add_field _ _ 1 (by omega)]; exact hc 1 _ rfl, by rw [← add_field _ _ 2 (by omega)]; exact hc 2 _ rfl, by rw [← add_field _ _ 3 (by omega)]; exact hc 3 _ rfl, by rw [← add_field _ _ 4 (by omega)]; exact hc 4 _ rfl, l2, g2, l3, g3, l4, g4⟩

def rd_L11 (xs : List (List S100)) (i : Int) : (List S100) := xs.getD i.toNat ([] : List S100)
theorem at_L11 {w : World} {A : Option Addr} {n : Nat} {xs : List (List S100)} (h : Kd.C (Kd.slice 100 k100) w A n xs) (i : Int) (h0 : 0 ≤ i) (h1 : i < n) : ∃ ad A0 c0, A = some ad ∧ w.cell? (ad.add i.toNat) = some (.slice A0 (rd_L11 xs i).length c0) ∧ (rd_L11 xs i).length ≤ c0 ∧ k100.C w A0 (rd_L11 xs i).length (rd_L11 xs i) := by
 obtain ⟨ad, c, e, _, hK, hc0⟩ := Kd.C_get h ([] : List S100) i h0 h1
 have hc : ∀ j u, c[j]? = some u → w.cell? (ad.add (i.toNat * 1 + j)) = some u := hc0
 obtain ⟨A0, c0, rfl, l0, g0⟩ := hK
 exact ⟨ad, A0, c0, e, by have hq := hc 0 _ rfl; rwa [Nat.mul_one, Nat.add_zero] at hq, l0, g0⟩

/-! #### struct type 81 -/
structure S81 where
 f0 : (List S100)
 f1 : Bool
 f2 : S79
 f3 : Bool
 f4 : S79
def z81 : S81 := ⟨([] : List S100), false, z79, false, z79⟩
def k81 : Kd S81 := Kd.iso (Kd.pair (Kd.slice 100 k100) (Kd.pair Kd.bool (Kd.pair k79 (Kd.pair Kd.bool k79)))) (fun x : S81 => (x.f0, x.f1, x.f2, x.f3, x.f4))
theorem k81_open {w : World} {x : S81} {cs : List Value} (h : k81.K w x cs) : ∃ A0 c0 A4 c4 A5 c5 A6 c6 A10 c10 A11 c11 A12 c12, cs = [.slice A0 x.f0.length c0, .bool x.f1, .int .i64 x.f2.f0, .int .i64 x.f2.f1, .slice A4 x.f2.f2.length c4, .slice A5 x.f2.f3.length c5, .slice A6 x.f2.f4.length c6, .bool x.f3, .int .i64 x.f4.f0, .int .i64 x.f4.f1, .slice A10 x.f4.f2.length c10, .slice A11 x.f4.f3.length c11, .slice A12 x.f4.f4.length c12] ∧ x.f0.length ≤ c0 ∧ k100.C w A0 x.f0.length x.f0 ∧ x.f2.f2.length ≤ c4 ∧ (Kd.int .u8).C w A4 x.f2.f2.length x.f2.f2 ∧ x.f2.f3.length ≤ c5 ∧ (Kd.slice 5 (Kd.int .u8)).C w A5 x.f2.f3.length x.f2.f3 ∧ x.f2.f4.length ≤ c6 ∧ k79.C w A6 x.f2.f4.length x.f2.f4 ∧ x.f4.f2.length ≤ c10 ∧ (Kd.int .u8).C w A10 x.f4.f2.length x.f4.f2 ∧ x.f4.f3.length ≤ c11 ∧ (Kd.slice 5 (Kd.int .u8)).C w A11 x.f4.f3.length x.f4.f3 ∧ x.f4.f4.length ≤ c12 ∧ k79.C w A12 x.f4.f4.length x.f4.f4 := by
 obtain ⟨_, _, rfl, ⟨A0, c0, rfl, l0, g0⟩, ⟨_, _, rfl, rfl, ⟨_, _, rfl, s2, ⟨_, _, rfl, rfl, s8⟩⟩⟩⟩ := h
 obtain ⟨A4, c4, A5, c5, A6, c6, rfl, l4, g4, l5, g5, l6, g6⟩ := k79_open s2
 obtain ⟨A10, c10, A11, c11, A12, c12, rfl, l10, g10, l11, g11, l12, g12⟩ := k79_open s8
 exact ⟨A0, c0, A4, c4, A5, c5, A6, c6, A10, c10, A11, c11, A12, c12, rfl, l0, g0, l4, g4, l5, g5, l6, g6, l10, g10, l11, g11, l12, g12⟩
theorem k81_openM {w : World} {base : Nat} {ok : Nat → Prop} {x : S81} {cs : List Value} (h : k81.M w base ok x cs) : ∃ v0 v4 v5 v6 v10 v11 v12, cs = [v0, .bool x.f1, .int .i64 x.f2.f0, .int .i64 x.f2.f1, v4, v5, v6, .bool x.f3, .int .i64 x.f4.f0, .int .i64 x.f4.f1, v10, v11, v12] ∧ k100.R 100 w base ok v0 x.f0 ∧ (Kd.int .u8).R 5 w base ok v4 x.f2.f2 ∧ (Kd.slice 5 (Kd.int .u8)).R 22 w base ok v5 x.f2.f3 ∧ k79.R 79 w base ok v6 x.f2.f4 ∧ (Kd.int .u8).R 5 w base ok v10 x.f4.f2 ∧ (Kd.slice 5 (Kd.int .u8)).R 22 w base ok v11 x.f4.f3 ∧ k79.R 79 w base ok v12 x.f4.f4 := by
 obtain ⟨_, _, rfl, ⟨v0, rfl, g0⟩, ⟨_, _, rfl, rfl, ⟨_, _, rfl, s2, ⟨_, _, rfl, rfl, s8⟩⟩⟩⟩ := h
 obtain ⟨v4, v5, v6, rfl, g4, g5, g6⟩ := k79_openM s2
 obtain ⟨v10, v11, v12, rfl, g10, g11, g12⟩ := k79_openM s8
 exact ⟨v0, v4, v5, v6, v10, v11, v12, rfl, g0, g4, g5, g6, g10, g11, g12⟩
theorem k81_mk (w : World) (x : S81) {A0 : Option Addr} {c0 : Nat} (l0 : x.f0.length ≤ c0) (g0 : k100.C w A0 x.f0.length x.f0) {A4 : Option Addr} {c4 : Nat} (l4 : x.f2.f2.length ≤ c4) (g4 : (Kd.int .u8).C w A4 x.f2.f2.length x.f2.f2) {A5 : Option Addr} {c5 : Nat} (l5 : x.f2.f3.length ≤ c5) (g5 : (Kd.slice 5 (Kd.int .u8)).C w A5 x.f2.f3.length x.f2.f3) {A6 : Option Addr} {c6 : Nat} (l6 : x.f2.f4.length ≤ c6) (g6 : k79.C w A6 x.f2.f4.length x.f2.f4) {A10 : Option Addr} {c10 : Nat} (l10 : x.f4.f2.length ≤ c10) (g10 : (Kd.int .u8).C w A10 x.f4.f2.length x.f4.f2) {A11 : Option Addr} {c11 : Nat} (l11 : x.f4.f3.length ≤ c11) (g11 : (Kd.slice 5 (Kd.int .u8)).C w A11 x.f4.f3.length x.f4.f3) {A12 : Option Addr} {c12 : Nat} (l12 : x.f4.f4.length ≤ c12) (g12 : k79.C w A12 x.f4.f4.length x.f4.f4) : k81.K w x [.slice A0 x.f0.length c0, .bool x.f1, .int .i64 x.f2.f0, .int .i64 x.f2.f1, .slice A4 x.f2.f2.length c4, .slice A5 x.f2.f3.length c5, .slice A6 x.f2.f4.length c6, .bool x.f3, .int .i64 x.f4.f0, .int .i64 x.f4.f1, .slice A10 x.f4.f2.length c10, .slice A11 x.f4.f3.length c11, .slice A12 x.f4.f4.length c12] := ⟨[.slice A0 x.f0.length c0], [.bool x.f1, .int .i64 x.f2.f0, .int .i64 x.f2.f1, .slice A4 x.f2.f2.length c4, .slice A5 x.f2.f3.length c5, .slice A6 x.f2.f4.length c6, .bool x.f3, .int .i64 x.f4.f0, .int .i64 x.f4.f1, .slice A10 x.f4.f2.length c10, .slice A11 x.f4.f3.length c11, .slice A12 x.f4.f4.length c12], rfl, ⟨A0, c0, rfl, l0, g0⟩, ⟨[.bool x.f1], [.int .i64 x.f2.f0, .int .i64 x.f2.f1, .slice A4 x.f2.f2.length c4, .slice A5 x.f2.f3.length c5, .slice A6 x.f2.f4.length c6, .bool x.f3, .int .i64 x.f4.f0, .int .i64 x.f4.f1, .slice A10 x.f4.f2.length c10, .slice A11 x.f4.f3.length c11, .slice A12 x.f4.f4.length c12], rfl, rfl, ⟨[.int .i64 x.f2.f0, .int .i64 x.f2.f1, .slice A4 x.f2.f2.length c4, .slice A5 x.f2.f3.length c5, .slice A6 x.f2.f4.length c6], [.bool x.f3, .int .i64 x.f4.f0, .int .i64 x.f4.f1, .slice A10 x.f4.f2.length c10, .slice A11 x.f4.f3.length c11, .slice A12 x.f4.f4.length c12], rfl, (k79_mk w x.f2 l4 g4 l5 g5 l6 g6), ⟨[.bool x.f3], [.int .i64 x.f4.f0, .int .i64 x.f4.f1, .slice A10 x.f4.f2.length c10, .slice A11 x.f4.f3.length c11, .slice A12 x.f4.f4.length c12], rfl, rfl, (k79_mk w x.f4 l10 g10 l11 g11 l12 g12)⟩⟩⟩⟩
theorem k81_mkM (w : World) (base : Nat) (ok : Nat → Prop) (x : S81) {v0 : Value} (g0 : k100.R 100 w base ok v0 x.f0) {v4 : Value} (g4 : (Kd.int .u8).R 5 w base ok v4 x.f2.f2) {v5 : Value} (g5 : (Kd.slice 5 (Kd.int .u8)).R 22 w base ok v5 x.f2.f3) {v6 : Value} (g6 : k79.R 79 w base ok v6 x.f2.f4) {v10 : Value} (g10 : (Kd.int .u8).R 5 w base ok v10 x.f4.f2) {v11 : Value} (g11 : (Kd.slice 5 (Kd.int .u8)).R 22 w base ok v11 x.f4.f3) {v12 : Value} (g12 : k79.R 79 w base ok v12 x.f4.f4) : k81.M w base ok x [v0, .bool x.f1, .int .i64 x.f2.f0, .int .i64 x.f2.f1, v4, v5, v6, .bool x.f3, .int .i64 x.f4.f0, .int .i64 x.f4.f1, v10, v11, v12] := ⟨[v0], [.bool x.f1, .int .i64 x.f2.f0, .int .i64 x.f2.f1, v4, v5, v6, .bool x.f3, .int .i64 x.f4.f0, .int .i64 x.f4.f1, v10, v11, v12], rfl, ⟨v0, rfl, g0⟩, ⟨[.bool x.f1], [.int .i64 x.f2.f0, .int .i64 x.f2.f1, v4, v5, v6, .bool x.f3, .int .i64 x.f4.f0, .int .i64 x.f4.f1, v10, v11, v12], rfl, rfl, ⟨[.int .i64 x.f2.f0, .int .i64 x.f2.f1, v4, v5, v6], [.bool x.f3, .int .i64 x.f4.f0, .int .i64 x.f4.f1, v10, v11, v12], rfl, (k79_mkM w base ok x.f2 g4 g5 g6), ⟨[.bool x.f3], [.int .i64 x.f4.f0, .int .i64 x.f4.f1, v10, v11, v12], rfl, rfl, (k79_mkM w base ok x.f4 g10 g11 g12)⟩⟩⟩⟩
def rd_T81 (xs : List S81) (i : Int) : S81 := xs.getD i.toNat z81
theorem at_T81 {w : World} {A : Option Addr} {n : Nat} {xs : List S81} (h : Kd.C k81 w A n xs) (i : Int) (h0 : 0 ≤ i) (h1 : i < n) : ∃ ad A0 c0 A4 c4 A5 c5 A6 c6 A10 c10 A11 c11 A12 c12, A = some ad ∧ w.cell? (ad.add (i.toNat * 13)) = some (.slice A0 (rd_T81 xs i).f0.length c0) ∧ w.cell? ⟨(ad.add (i.toNat * 13)).block, (ad.add (i.toNat * 13)).off + 1, none⟩ = some (.bool (rd_T81 xs i).f1) ∧ w.cell? ⟨(ad.add (i.toNat * 13)).block, (ad.add (i.toNat * 13)).off + 2, none⟩ = some (.int .i64 (rd_T81 xs i).f2.f0) ∧ w.cell? ⟨(ad.add (i.toNat * 13)).block, (ad.add (i.toNat * 13)).off + 3, none⟩ = some (.int .i64 (rd_T81 xs i).f2.f1) ∧ w.cell? ⟨(ad.add (i.toNat * 13)).block, (ad.add (i.toNat * 13)).off + 4, none⟩ = some (.slice A4 (rd_T81 xs i).f2.f2.length c4) ∧ w.cell? ⟨(ad.add (i.toNat * 13)).block, (ad.add (i.toNat * 13)).off + 5, none⟩ = some (.slice A5 (rd_T81 xs i).f2.f3.length c5) ∧ w.cell? ⟨(ad.add (i.toNat * 13)).block, (ad.add (i.toNat * 13)).off + 6, none⟩ = some (.slice A6 (rd_T81 xs i).f2.f4.length c6) ∧ w.cell? ⟨(ad.add (i.toNat * 13)).block, (ad.add (i.toNat * 13)).off + 7, none⟩ = some (.bool (rd_T81 xs i).f3) ∧ w.cell? ⟨(ad.add (i.toNat * 13)).block, (ad.add (i.toNat * 13)).off + 8, none⟩ = some (.int .i64 (rd_T81 xs i).f4.f0) ∧ w.cell? ⟨(ad.add (i.toNat * 13)).block, (ad.add (i.toNat * 13)).off + 9, none⟩ = some (.int .i64 (rd_T81 xs i).f4.f1) ∧ w.cell? ⟨(ad.add (i.toNat * 13)).block, (ad.add (i.toNat * 13)).off + 10, none⟩ = some (.slice A10 (rd_T81 xs i).f4.f2.length c10) ∧ w.cell? ⟨(ad.add (i.toNat * 13)).block, (ad.add (i.toNat * 13)).off + 11, none⟩ = some (.slice A11 (rd_T81 xs i).f4.f3.length c11) ∧ w.cell? ⟨(ad.add (i.toNat * 13)).block, (ad.add (i.toNat * 13)).off + 12, none⟩ = some (.slice A12 (rd_T81 xs i).f4.f4.length c12) ∧ (rd_T81 xs i).f0.length ≤ c0 ∧ k100.C w A0 (rd_T81 xs i).f0.length (rd_T81 xs i).f0 ∧ (rd_T81 xs i).f2.f2.length ≤ c4 ∧ (Kd.int .u8).C w A4 (rd_T81 xs i).f2.f2.length (rd_T81 xs i).f2.f2 ∧ (rd_T81 xs i).f2.f3.length ≤ c5 ∧ (Kd.slice 5 (Kd.int .u8)).C w A5 (rd_T81 xs i).f2.f3.length (rd_T81 xs i).f2.f3 ∧ (rd_T81 xs i).f2.f4.length ≤ c6 ∧ k79.C w A6 (rd_T81 xs i).f2.f4.length (rd_T81 xs i).f2.f4 ∧ (rd_T81 xs i).f4.f2.length ≤ c10 ∧ (Kd.int .u8).C w A10 (rd_T81 xs i).f4.f2.length (rd_T81 xs i).f4.f2 ∧ (rd_T81 xs i).f4.f3.length ≤ c11 ∧ (Kd.slice 5 (Kd.int .u8)).C w A11 (rd_T81 xs i).f4.f3.length (rd_T81 xs i).f4.f3 ∧ (rd_T81 xs i).f4.f4.length ≤ c12 ∧ k79.C w A12 (rd_T81 xs i).f4.f4.length (rd_T81 xs i).f4.f4 := by
 obtain ⟨ad, c, e, _, hK, hc0⟩ := Kd.C_get h z81 i h0 h1
 have hc : ∀ j u, c[j]? = some u → w.cell? (ad.add (i.toNat * 13 + j)) = some u := hc0
 obtain ⟨A0, c0, A4, c4, A5, c5, A6, c6, A10, c10, A11, c11, A12, c12, rfl, l0, g0, l4, g4, l5, g5, l6, g6, l10, g10, l11, g11, l12, g12⟩ := k81_open hK
 exact ⟨ad, A0, c0, A4, c4, A5, c5, A6, c6, A10, c10, A11, c11, A12, c12, e, hc 0 _ rfl, by rw [← add_field _ _ 1 (by omega)]; exact hc 1 _ rfl, by rw [← add_field _ _ 2 (by omega)]; exact hc 2 _ rfl, by rw [← add_field _ _ 3 (by omega)]; exact hc 3 _ rfl, by rw [← add_field _ _ 4 (by omega)]; exact hc 4 _ rfl, by rw [← add_field _ _ 5 (by omega)]; exact hc 5 _ rfl, by rw [← add_field _ _ 6 (by omega)]; exact hc 6 _ rfl, by rw [← add_field _ _ 7 (by omega)]; exact hc 7 _ rfl, by rw [← add_field _ _ 8 (by omega)]; exact hc 8 _ rfl, by rw [← add_field _ _ 9 (by omega)]; exact hc 9 _ rfl, by rw [← add_field _ _ 10 (by omega)]; exact hc 10 _ rfl, by rw [← add_field _ _ 11 (by omega)]; exact hc 11 _ rfl, by rw [← add_field _ _ 12 (by omega)]; exact hc 12 _ rfl, l0, g0, l4, g4, l5, g5, l6, g6, l10, g10, l11, g11, l12, g12⟩

theorem fr14 : Fr Try.prog 14 := ⟨_, Try.func14, by kernel_rfl, rfl⟩
theorem fr21 : Fr Try.prog 21 := ⟨_, Try.func21, by kernel_rfl, rfl⟩
theorem fr23 : Fr Try.prog 23 := ⟨_, Try.func23, by kernel_rfl, rfl⟩
theorem fr25 : Fr Try.prog 25 := ⟨_, Try.func25, by kernel_rfl, rfl⟩
theorem fr35 : Fr Try.prog 35 := ⟨_, Try.func35, by kernel_rfl, rfl⟩
theorem fr36 : Fr Try.prog 36 := ⟨_, Try.func36, by kernel_rfl, rfl⟩
theorem fr39 : Fr Try.prog 39 := ⟨_, Try.func39, by kernel_rfl, rfl⟩
theorem fr40 : Fr Try.prog 40 := ⟨_, Try.func40, by kernel_rfl, rfl⟩
theorem fr41 : Fr Try.prog 41 := ⟨_, Try.func41, by kernel_rfl, rfl⟩
theorem fr45 : Fr Try.prog 45 := ⟨_, Try.func45, by kernel_rfl, rfl⟩
theorem fr46 : Fr Try.prog 46 := ⟨_, Try.func46, by kernel_rfl, rfl⟩
theorem fr50 : Fr Try.prog 50 := ⟨_, Try.func50, by kernel_rfl, rfl⟩
theorem fr55 : Fr Try.prog 55 := ⟨_, Try.func55, by kernel_rfl, rfl⟩
theorem fr57 : Fr Try.prog 57 := ⟨_, Try.func57, by kernel_rfl, rfl⟩
theorem fr58 : Fr Try.prog 58 := ⟨_, Try.func58, by kernel_rfl, rfl⟩
theorem fr72 : Fr Try.prog 72 := ⟨_, Try.func72, by kernel_rfl, rfl⟩
theorem fr88 : Fr Try.prog 88 := ⟨_, Try.func88, by kernel_rfl, rfl⟩
theorem fr89 : Fr Try.prog 89 := ⟨_, Try.func89, by kernel_rfl, rfl⟩
theorem fr91 : Fr Try.prog 91 := ⟨_, Try.func91, by kernel_rfl, rfl⟩
theorem fr92 : Fr Try.prog 92 := ⟨_, Try.func92, by kernel_rfl, rfl⟩
theorem fr93 : Fr Try.prog 93 := ⟨_, Try.func93, by kernel_rfl, rfl⟩
theorem fr98 : Fr Try.prog 98 := ⟨_, Try.func98, by kernel_rfl, rfl⟩
theorem fr99 : Fr Try.prog 99 := ⟨_, Try.func99, by kernel_rfl, rfl⟩
theorem fr101 : Fr Try.prog 101 := ⟨_, Try.func101, by kernel_rfl, rfl⟩
theorem fr108 : Fr Try.prog 108 := ⟨_, Try.func108, by kernel_rfl, rfl⟩
theorem fr111 : Fr Try.prog 111 := ⟨_, Try.func111, by kernel_rfl, rfl⟩
theorem fr116 : Fr Try.prog 116 := ⟨_, Try.func116, by kernel_rfl, rfl⟩
theorem fr117 : Fr Try.prog 117 := ⟨_, Try.func117, by kernel_rfl, rfl⟩
theorem fr119 : Fr Try.prog 119 := ⟨_, Try.func119, by kernel_rfl, rfl⟩
theorem fr126 : Fr Try.prog 126 := ⟨_, Try.func126, by kernel_rfl, rfl⟩
theorem fr127 : Fr Try.prog 127 := ⟨_, Try.func127, by kernel_rfl, rfl⟩
theorem fr128 : Fr Try.prog 128 := ⟨_, Try.func128, by kernel_rfl, rfl⟩
theorem fr129 : Fr Try.prog 129 := ⟨_, Try.func129, by kernel_rfl, rfl⟩
theorem fr132 : Fr Try.prog 132 := ⟨_, Try.func132, by kernel_rfl, rfl⟩
theorem fr133 : Fr Try.prog 133 := ⟨_, Try.func133, by kernel_rfl, rfl⟩
theorem fr134 : Fr Try.prog 134 := ⟨_, Try.func134, by kernel_rfl, rfl⟩
theorem fr137 : Fr Try.prog 137 := ⟨_, Try.func137, by kernel_rfl, rfl⟩
theorem fr141 : Fr Try.prog 141 := ⟨_, Try.func141, by kernel_rfl, rfl⟩
theorem fr157 : Fr Try.prog 157 := ⟨_, Try.func157, by kernel_rfl, rfl⟩
theorem fr169 : Fr Try.prog 169 := ⟨_, Try.func169, by kernel_rfl, rfl⟩
end Go.Proofs.Ytockllljeeakaaa.PFnExactChangesOk
