/-
  DERIVED. GIVEN WITH THE SEED: THE CARDS: each row of YtgddbcdkhfdojaaGreatDoorRows.lean that lists a variable, with what it lists TIED to the program's text (the seventh form; the later family's looks); each row that meets fmt, with fmt's text TOLD by the authors' own Lean function (tested against real Go, not proved from fmt's source: count such statements apart). THE CARD IS WHAT COUNTS. Prove the row's statement (the work); the ties are given (YtgddbcdkhfdojaaGreatDoorTie.lean); close each card by the builder's one call (the guide's Derived/Test/ToyasCard.lean, 'card_holds'). Laid BY PROGRAM, IN A SANDBOX (cutbox-door.mjs). By AI agents, Wed Nov 11 2026. No macro, syntax, notation, axiom, sorry.
-/
import Derived.Test.YtgddbcdkhfdojaaGreatDoorRows
import GoSem.ClaimSeven
namespace Go.Proofs.YtgddbcdkhfdojaaGreatDoor
namespace Rows

/-- THE TIED CARD OF 'laws.FnExactParseNetwork'. -/
def fnExactParseNetworkCard : Claim7 := { stood := { row := fnExactParseNetworkRow, standIns := [], harness := (true, "267811c2fd306bd1ee2d06d594ba03496d1c9c117ea883c13b468a9a15275da2"), looks := true }, kinds := [], alts := [], laidByText := true, laidKinds := [.data, .data, .data, .data, .sentinel, .sentinel, .pinned], laidTests := true, laidLooks := .later }
def FnExactParseNetworkCardSaid : Prop := Claim7.holds Tryz.pinned (.plain (OpenSpec.ofChange fnExactParseNetworkSpec)) fnExactParseNetworkCard

/-- THE TIED CARD OF 'laws.FnExactParseState'. -/
def fnExactParseStateCard : Claim7 := { stood := { row := fnExactParseStateRow, standIns := [], harness := (true, "267811c2fd306bd1ee2d06d594ba03496d1c9c117ea883c13b468a9a15275da2"), looks := true }, kinds := [], alts := [], laidByText := true, laidKinds := [.data, .data, .data, .data, .sentinel, .sentinel, .pinned], laidTests := true, laidLooks := .later }
def FnExactParseStateCardSaid : Prop := Claim7.holds Tryz.pinned (.plain (OpenSpec.ofChange fnExactParseStateSpec)) fnExactParseStateCard

/-- THE TIED CARD OF 'laws.FnSaved'. -/
def fnSavedCard : Claim7 := { stood := { row := fnSavedRow, standIns := [], harness := (true, "267811c2fd306bd1ee2d06d594ba03496d1c9c117ea883c13b468a9a15275da2"), looks := true }, kinds := [], alts := [], laidByText := true, laidKinds := [.data, .data, .data, .data, .sentinel, .sentinel, .pinned], laidTests := true, laidLooks := .later }
def FnSavedCardSaid : Prop := Claim7.holds Tryz.pinned (.plain (OpenSpec.ofChange fnSavedSpec)) fnSavedCard

/-- THE TIED CARD OF 'laws.FnWritten'. -/
def fnWrittenCard : Claim7 := { stood := { row := fnWrittenRow, standIns := [], harness := (true, "267811c2fd306bd1ee2d06d594ba03496d1c9c117ea883c13b468a9a15275da2"), looks := true }, kinds := [], alts := [], laidByText := true, laidKinds := [.data, .data, .data, .data, .sentinel, .sentinel, .pinned], laidTests := true, laidLooks := .later }
def FnWrittenCardSaid : Prop := Claim7.holds Tryz.pinned (.plain (OpenSpec.ofChange fnWrittenSpec)) fnWrittenCard

/-- THE SECOND FORM's CARD OF 'laws.FnExactParseNetwork'. -/
def fnExactParseNetworkUptoCard : Claim7 := { stood := { row := fnExactParseNetworkUptoRow, standIns := [], harness := (true, "267811c2fd306bd1ee2d06d594ba03496d1c9c117ea883c13b468a9a15275da2"), looks := true }, kinds := [], alts := [], laidByText := true, laidKinds := [.data, .data, .data, .data, .sentinel, .sentinel, .pinned], laidTests := true, laidLooks := .later }
def FnExactParseNetworkUptoCardSaid : Prop := Claim7.holds Tryz.pinned (.plain (OpenSpec.upto fnExactParseNetworkSpec)) fnExactParseNetworkUptoCard

/-- THE SECOND FORM's CARD OF 'laws.FnExactParseState'. -/
def fnExactParseStateUptoCard : Claim7 := { stood := { row := fnExactParseStateUptoRow, standIns := [], harness := (true, "267811c2fd306bd1ee2d06d594ba03496d1c9c117ea883c13b468a9a15275da2"), looks := true }, kinds := [], alts := [], laidByText := true, laidKinds := [.data, .data, .data, .data, .sentinel, .sentinel, .pinned], laidTests := true, laidLooks := .later }
def FnExactParseStateUptoCardSaid : Prop := Claim7.holds Tryz.pinned (.plain (OpenSpec.upto fnExactParseStateSpec)) fnExactParseStateUptoCard

/-- THE SECOND FORM's CARD OF 'laws.FnSaved'. -/
def fnSavedUptoCard : Claim7 := { stood := { row := fnSavedUptoRow, standIns := [], harness := (true, "267811c2fd306bd1ee2d06d594ba03496d1c9c117ea883c13b468a9a15275da2"), looks := true }, kinds := [], alts := [], laidByText := true, laidKinds := [.data, .data, .data, .data, .sentinel, .sentinel, .pinned], laidTests := true, laidLooks := .later }
def FnSavedUptoCardSaid : Prop := Claim7.holds Tryz.pinned (.plain (OpenSpec.upto fnSavedSpec)) fnSavedUptoCard

/-- THE SECOND FORM's CARD OF 'laws.FnWritten'. -/
def fnWrittenUptoCard : Claim7 := { stood := { row := fnWrittenUptoRow, standIns := [], harness := (true, "267811c2fd306bd1ee2d06d594ba03496d1c9c117ea883c13b468a9a15275da2"), looks := true }, kinds := [], alts := [], laidByText := true, laidKinds := [.data, .data, .data, .data, .sentinel, .sentinel, .pinned], laidTests := true, laidLooks := .later }
def FnWrittenUptoCardSaid : Prop := Claim7.holds Tryz.pinned (.plain (OpenSpec.upto fnWrittenSpec)) fnWrittenUptoCard
end Rows
end Go.Proofs.YtgddbcdkhfdojaaGreatDoor
