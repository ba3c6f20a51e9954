/-
  DERIVED. GIVEN WITH THE SEED: THE CARDS: each row of YtockllljeeakaaaDoorRows.lean that lists a variable, with what it lists TIED to the program's text (the seventh form; the later family's looks); each row that meets fmt, with fmt's text TOLD by the authors' own Lean function (tested against real Go, not proved from fmt's source: count such statements apart). THE CARD IS WHAT COUNTS. Prove the row's statement (the work); the ties are given (YtockllljeeakaaaDoorTie.lean); close each card by the builder's one call (the guide's Derived/Test/ToyasCard.lean, 'card_holds'). Laid BY PROGRAM, IN A SANDBOX (cutbox-door.mjs). By AI agents, Wed Nov 11 2026. No macro, syntax, notation, axiom, sorry.
-/
import Derived.Test.YtockllljeeakaaaDoorRows
import GoSem.ClaimSeven
namespace Go.Proofs.YtockllljeeakaaaDoor
namespace Rows

/-- THE TIED CARD OF 'laws.FnExactAddrOk'. -/
def fnExactAddrOkCard : Claim7 := { stood := { row := fnExactAddrOkRow, standIns := [], harness := (true, "bc931b9900d45d1d9be3b5f7feb06cfed14a86811fb49cef84d67f44b7c8374b"), looks := true }, kinds := [], alts := [], laidByText := true, laidKinds := [.data, .data, .data, .sentinel, .sentinel], laidTests := true, laidLooks := .later }
def FnExactAddrOkCardSaid : Prop := Claim7.holds Tryd.pinned (.plain (OpenSpec.ofChange fnExactAddrOkSpec)) fnExactAddrOkCard

/-- THE TIED CARD OF 'laws.FnExactPathRead'. -/
def fnExactPathReadCard : Claim7 := { stood := { row := fnExactPathReadRow, standIns := [], harness := (true, "bc931b9900d45d1d9be3b5f7feb06cfed14a86811fb49cef84d67f44b7c8374b"), looks := true }, kinds := [], alts := [], laidByText := true, laidKinds := [.data, .data, .data, .sentinel, .sentinel], laidTests := true, laidLooks := .later }
def FnExactPathReadCardSaid : Prop := Claim7.holds Tryd.pinned (.plain (OpenSpec.ofChange fnExactPathReadSpec)) fnExactPathReadCard

/-- THE TIED CARD OF 'laws.FnExactAddrName'. -/
def fnExactAddrNameCard : Claim7 := { stood := { row := fnExactAddrNameRow, standIns := [], harness := (true, "bc931b9900d45d1d9be3b5f7feb06cfed14a86811fb49cef84d67f44b7c8374b"), looks := true }, kinds := [], alts := [], laidByText := true, laidKinds := [.data, .data, .data, .sentinel, .sentinel], laidTests := true, laidLooks := .later }
def FnExactAddrNameCardSaid : Prop := Claim7.holds Tryd.pinned (.plain (OpenSpec.ofChange fnExactAddrNameSpec)) fnExactAddrNameCard

/-- THE TIED CARD OF 'laws.FnAddrs'. -/
def fnAddrsCard : Claim7 := { stood := { row := fnAddrsRow, standIns := [], harness := (true, "bc931b9900d45d1d9be3b5f7feb06cfed14a86811fb49cef84d67f44b7c8374b"), looks := true }, kinds := [], alts := [], laidByText := true, laidKinds := [.data, .data, .data, .sentinel, .sentinel], laidTests := true, laidLooks := .later }
def FnAddrsCardSaid : Prop := Claim7.holds Tryd.pinned (.plain (OpenSpec.ofChange fnAddrsSpec)) fnAddrsCard

/-- THE TIED CARD OF 'laws.FnExactExprText'. -/
def fnExactExprTextCard : Claim7 := { stood := { row := fnExactExprTextRow, standIns := [], harness := (true, "bc931b9900d45d1d9be3b5f7feb06cfed14a86811fb49cef84d67f44b7c8374b"), looks := true }, kinds := [], alts := [], laidByText := true, laidKinds := [.data, .data, .data], laidTests := true, laidLooks := .later }
def FnExactExprTextCardSaid : Prop := Claim7.holds Tryd.pinned (.plain (OpenSpec.ofChange fnExactExprTextSpec)) fnExactExprTextCard

/-- THE SECOND FORM's CARD OF 'laws.FnExactAddrOk'. -/
def fnExactAddrOkUptoCard : Claim7 := { stood := { row := fnExactAddrOkUptoRow, standIns := [], harness := (true, "bc931b9900d45d1d9be3b5f7feb06cfed14a86811fb49cef84d67f44b7c8374b"), looks := true }, kinds := [], alts := [], laidByText := true, laidKinds := [.data, .data, .data, .sentinel, .sentinel], laidTests := true, laidLooks := .later }
def FnExactAddrOkUptoCardSaid : Prop := Claim7.holds Tryd.pinned (.plain (OpenSpec.upto fnExactAddrOkSpec)) fnExactAddrOkUptoCard

/-- THE SECOND FORM's CARD OF 'laws.FnExactPathRead'. -/
def fnExactPathReadUptoCard : Claim7 := { stood := { row := fnExactPathReadUptoRow, standIns := [], harness := (true, "bc931b9900d45d1d9be3b5f7feb06cfed14a86811fb49cef84d67f44b7c8374b"), looks := true }, kinds := [], alts := [], laidByText := true, laidKinds := [.data, .data, .data, .sentinel, .sentinel], laidTests := true, laidLooks := .later }
def FnExactPathReadUptoCardSaid : Prop := Claim7.holds Tryd.pinned (.plain (OpenSpec.upto fnExactPathReadSpec)) fnExactPathReadUptoCard

/-- THE SECOND FORM's CARD OF 'laws.FnExactAddrName'. -/
def fnExactAddrNameUptoCard : Claim7 := { stood := { row := fnExactAddrNameUptoRow, standIns := [], harness := (true, "bc931b9900d45d1d9be3b5f7feb06cfed14a86811fb49cef84d67f44b7c8374b"), looks := true }, kinds := [], alts := [], laidByText := true, laidKinds := [.data, .data, .data, .sentinel, .sentinel], laidTests := true, laidLooks := .later }
def FnExactAddrNameUptoCardSaid : Prop := Claim7.holds Tryd.pinned (.plain (OpenSpec.upto fnExactAddrNameSpec)) fnExactAddrNameUptoCard

/-- THE SECOND FORM's CARD OF 'laws.FnAddrs'. -/
def fnAddrsUptoCard : Claim7 := { stood := { row := fnAddrsUptoRow, standIns := [], harness := (true, "bc931b9900d45d1d9be3b5f7feb06cfed14a86811fb49cef84d67f44b7c8374b"), looks := true }, kinds := [], alts := [], laidByText := true, laidKinds := [.data, .data, .data, .sentinel, .sentinel], laidTests := true, laidLooks := .later }
def FnAddrsUptoCardSaid : Prop := Claim7.holds Tryd.pinned (.plain (OpenSpec.upto fnAddrsSpec)) fnAddrsUptoCard

/-- THE SECOND FORM's CARD OF 'laws.FnExactExprText'. -/
def fnExactExprTextUptoCard : Claim7 := { stood := { row := fnExactExprTextUptoRow, standIns := [], harness := (true, "bc931b9900d45d1d9be3b5f7feb06cfed14a86811fb49cef84d67f44b7c8374b"), looks := true }, kinds := [], alts := [], laidByText := true, laidKinds := [.data, .data, .data], laidTests := true, laidLooks := .later }
def FnExactExprTextUptoCardSaid : Prop := Claim7.holds Tryd.pinned (.plain (OpenSpec.upto fnExactExprTextSpec)) fnExactExprTextUptoCard
end Rows
end Go.Proofs.YtockllljeeakaaaDoor
