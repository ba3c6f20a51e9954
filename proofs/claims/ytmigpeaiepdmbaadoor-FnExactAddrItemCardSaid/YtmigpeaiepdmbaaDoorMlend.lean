/- A row of bytes that is lent: who puts to it writes its block, and blocks that are new; what lies elsewhere stays. -/
import Derived.Test.YtmigpeaiepdmbaaDoorMals
namespace Go.Proofs.YtmigpeaiepdmbaaDoor.M
open Go.RowKit Go.Proofs.YtmigpeaiepdmbaaDoorW.PrintWords Go.Proofs.YtmigpeaiepdmbaaDoorW.PrintLast Go.Proofs.YtmigpeaiepdmbaaDoorW.PrintMore
set_option linter.unusedVariables false
set_option linter.unusedSimpArgs false
/-- Bytes that were readable are so wherever their block stays. -/
theorem cbytes_kept {w0 w W' : World} {A : Option Addr} {n : Nat} {xs : List Int} {S : Nat → Prop} (h : (Kd.int .u8).C w0 A n xs) (hb : Below w0.heap.size w0 w) (hS : ∀ k, S k → w0.heap.size ≤ k) (hk : Kept w W' S) : (Kd.int .u8).C W' A n xs := by
  refine ⟨h.1, h.2.1, fun hn => ?_⟩
  obtain ⟨ad, e, hc⟩ := h.2.2 hn
  refine ⟨ad, e, fun j p hj => ?_⟩
  obtain ⟨c, h1, h2, h3⟩ := hc j p hj
  refine ⟨c, h1, h2, fun i u hu => ?_⟩
  have h4 := h3 i u hu
  have hlt := World.block_lt_of_cell? w0 _ h4
  have he : W'.heap[(ad.add (j * (Kd.int .u8).sz + i)).block]? = w0.heap[(ad.add (j * (Kd.int .u8).sz + i)).block]? := (hk.2 _ (Nat.lt_of_lt_of_le hlt hb.size) (fun h2 => by have := hS _ h2; omega)).trans (hb.block _ hlt)
  unfold World.cell? at h4 ⊢
  rw [he]
  exact h4
/-- The row: its block is one of Q. -/
structure Ln (e : Nat) (w0 : World) (Q : Nat → Prop) (w : World) (l : List Int) (v : Value) : Prop where
  r : (Kd.int .u8).R e w w0.heap.size Q v l
/-- What a call leaves that puts to a row whose block is one of Q. -/
structure Put (e : Nat) (w0 : World) (Q : Nat → Prop) (w : World) (r : List Int) (v : Value) (w' : World) : Prop where
  ln : Ln e w0 (fun k => Q k ∨ w.heap.size ≤ k) w' r v
  hb : Below w0.heap.size w0 w'
  hk : Kept w w' Q
/-- In between: the call was entered in W with a row whose block is one of P; now its block is one of Q. -/
structure In (e : Nat) (w0 W : World) (P Q : Nat → Prop) (w : World) (l : List Int) (v : Value) : Prop where
  ln : Ln e w0 Q w l v
  hb : Below w0.heap.size w0 w
  hk : Kept W w P
  hq : ∀ k, Q k → P k ∨ W.heap.size ≤ k
  lo : ∀ k, Q k → w0.heap.size ≤ k
  up : ∀ k, w.heap.size ≤ k → Q k
section
variable {e t g : Nat} {w0 W w w' : World} {P Q : Nat → Prop} {l r : List Int} {v v' : Value} {bs : Array Value}
theorem In.start (hb : Below w0.heap.size w0 W) (h : Ln e w0 P W l v) (hP : ∀ k, P k → w0.heap.size ≤ k) : In e w0 W P (fun k => P k ∨ W.heap.size ≤ k) W l v :=
  ⟨⟨Kd.R_mono h.r (fun k hk => .inl hk)⟩, hb, Kept.refl _ _, fun _ h => h, fun k hk => hk.elim (hP k) (Nat.le_trans hb.size), fun _ h => .inr h⟩
theorem In.put (h : In e w0 W P Q w l v) (p : Put e w0 Q w r v' w') : In e w0 W P Q w' r v' :=
  ⟨⟨Kd.R_mono p.ln.r (fun k hk => hk.elim id (h.up k))⟩, p.hb, h.hk.then_ p.hk h.hq, h.hq, h.lo, fun k hk => h.up k (Nat.le_trans p.hk.1 hk)⟩
/-- A block is made that is no row's. -/
theorem In.box (h : In e w0 W P Q w l v) (hb : Below w.heap.size w w') (hg : w.heap.size ≤ g) (hl : g < w'.heap.size) : In e w0 W P (fun k => Q k ∧ k ≠ g) w' l v :=
  ⟨⟨Kd.R_below (Kd.R_mono (Kd.R_bound h.ln.r) (fun k hk => ⟨hk.1, fun e1 => by have := hk.2.2.1; omega⟩)) hb⟩, below_step h.hb hb, h.hk.below hb, fun k hk => h.hq k hk.1, fun k hk => h.lo k hk.1, fun k hk => ⟨h.up k (by have := hb.size; omega), by omega⟩⟩
theorem In.back (h : In e w0 W P (fun k => Q k ∧ k ≠ g) w l v) (h2 : In e w0 W P Q w' r v') : In e w0 W P Q w l v :=
  ⟨⟨Kd.R_mono h.ln.r (fun k hk => hk.1)⟩, h.hb, h.hk, h2.hq, h2.lo, fun k hk => (h.up k hk).1⟩
theorem In.done (h : In e w0 W P Q w l v) : Put e w0 P W l v w := ⟨⟨Kd.R_mono h.ln.r h.hq⟩, h.hb, h.hk⟩
theorem Bx.put (h : Bx w g t bs) (p : Put e w0 Q w r v' w') (hn : ¬ Q g) : Bx w' g t bs := ⟨blk_kept h.h p.hk hn⟩
end
end Go.Proofs.YtmigpeaiepdmbaaDoor.M
