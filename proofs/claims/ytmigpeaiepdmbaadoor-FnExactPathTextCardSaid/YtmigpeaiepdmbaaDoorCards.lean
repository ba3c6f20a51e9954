/-
  DERIVED. GIVEN WITH THE SEED: THE CARDS: each row of YtmigpeaiepdmbaaDoorRows.lean that lists a variable, with what it lists TIED to the program's text (the seventh form; the later family's looks); each row that meets fmt, with fmt's text TOLD by the authors' own Lean function (tested against real Go, not proved from fmt's source: count such statements apart). THE CARD IS WHAT COUNTS. Prove the row's statement (the work); the ties are given (YtmigpeaiepdmbaaDoorTie.lean); close each card by the builder's one call (the guide's Derived/Test/ToyasCard.lean, 'card_holds'). Laid BY PROGRAM, IN A SANDBOX (cutbox-door.mjs). By AI agents, Wed Nov 11 2026. No macro, syntax, notation, axiom, sorry.
-/
import Derived.Test.YtmigpeaiepdmbaaDoorRows
import GoSem.ClaimSeven
namespace Go.Proofs.YtmigpeaiepdmbaaDoor
namespace Rows

/-- THE TIED CARD OF 'laws.FnExactAddrItem'. -/
def fnExactAddrItemCard : Claim7 := { stood := { row := fnExactAddrItemRow, standIns := [], harness := (true, "61ec017add66b6c76e7edbc2acaaedc41c0560e03e095b9016930429da04bbde"), looks := false }, kinds := [], alts := [], laidByText := true, laidKinds := [.data, .data, .data], laidTests := true, laidLooks := .later }
def FnExactAddrItemCardSaid : Prop := Claim7.holds Tryd.pinned (.plain (OpenSpec.ofChange fnExactAddrItemSpec)) fnExactAddrItemCard

/-- THE TIED CARD OF 'laws.FnExactPathText'. -/
def fnExactPathTextCard : Claim7 := { stood := { row := fnExactPathTextRow, standIns := [], harness := (true, "61ec017add66b6c76e7edbc2acaaedc41c0560e03e095b9016930429da04bbde"), looks := false }, kinds := [], alts := [], laidByText := true, laidKinds := [.data, .data, .data], laidTests := true, laidLooks := .later }
def FnExactPathTextCardSaid : Prop := Claim7.holds Tryd.pinned (.plain (OpenSpec.ofChange fnExactPathTextSpec)) fnExactPathTextCard

/-- THE SECOND FORM's CARD OF 'laws.FnExactAddrItem'. -/
def fnExactAddrItemUptoCard : Claim7 := { stood := { row := fnExactAddrItemUptoRow, standIns := [], harness := (true, "61ec017add66b6c76e7edbc2acaaedc41c0560e03e095b9016930429da04bbde"), looks := false }, kinds := [], alts := [], laidByText := true, laidKinds := [.data, .data, .data], laidTests := true, laidLooks := .later }
def FnExactAddrItemUptoCardSaid : Prop := Claim7.holds Tryd.pinned (.plain (OpenSpec.upto fnExactAddrItemSpec)) fnExactAddrItemUptoCard

/-- THE SECOND FORM's CARD OF 'laws.FnExactPathText'. -/
def fnExactPathTextUptoCard : Claim7 := { stood := { row := fnExactPathTextUptoRow, standIns := [], harness := (true, "61ec017add66b6c76e7edbc2acaaedc41c0560e03e095b9016930429da04bbde"), looks := false }, kinds := [], alts := [], laidByText := true, laidKinds := [.data, .data, .data], laidTests := true, laidLooks := .later }
def FnExactPathTextUptoCardSaid : Prop := Claim7.holds Tryd.pinned (.plain (OpenSpec.upto fnExactPathTextSpec)) fnExactPathTextUptoCard
end Rows
end Go.Proofs.YtmigpeaiepdmbaaDoor
