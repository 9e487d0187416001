/-
  DERIVED. GIVEN WITH THE SEED: THE CARDS: each row of YtfoamipegmbcgaaGreatDoorRows.lean that lists a variable, with what it lists TIED to the program's text (the seventh form; the later family's looks); each row that meets fmt, with fmt's text TOLD by the authors' own Lean function (tested against real Go, not proved from fmt's source: count such statements apart). THE CARD IS WHAT COUNTS. Prove the row's statement (the work); the ties are given (YtfoamipegmbcgaaGreatDoorTie.lean); close each card by the builder's one call (the guide's Derived/Test/ToyasCard.lean, 'card_holds'). Laid BY PROGRAM, IN A SANDBOX (cutbox-door.mjs). By AI agents, Wed Nov 11 2026. No macro, syntax, notation, axiom, sorry.
-/
import Derived.Test.YtfoamipegmbcgaaGreatDoorRows
import GoSem.ClaimSeven
namespace Go.Proofs.YtfoamipegmbcgaaGreatDoor
namespace Rows

/-- THE TIED CARD OF 'laws.FnDesk'. -/
def fnDeskCard : Claim7 := { stood := { row := fnDeskRow, standIns := [], harness := (true, "62f7636a0c1b1e8a7139b928f3a99b3db515822173c7a28855249107ada03dad"), looks := true }, kinds := [], alts := [], laidByText := true, laidKinds := [.data, .data, .data, .data, .sentinel, .sentinel, .pinned], laidTests := true, laidLooks := .later }
def FnDeskCardSaid : Prop := Claim7.holds Tryz.pinned (.plain (OpenSpec.ofChange fnDeskSpec)) fnDeskCard

/-- THE TIED CARD OF 'laws.FnDeskKeeps'. -/
def fnDeskKeepsCard : Claim7 := { stood := { row := fnDeskKeepsRow, standIns := [], harness := (true, "62f7636a0c1b1e8a7139b928f3a99b3db515822173c7a28855249107ada03dad"), looks := true }, kinds := [], alts := [], laidByText := true, laidKinds := [.data, .data, .data, .data, .sentinel, .sentinel, .pinned], laidTests := true, laidLooks := .later }
def FnDeskKeepsCardSaid : Prop := Claim7.holds Tryz.pinned (.plain (OpenSpec.ofChange fnDeskKeepsSpec)) fnDeskKeepsCard

/-- THE SECOND FORM's CARD OF 'laws.FnDesk'. -/
def fnDeskUptoCard : Claim7 := { stood := { row := fnDeskUptoRow, standIns := [], harness := (true, "62f7636a0c1b1e8a7139b928f3a99b3db515822173c7a28855249107ada03dad"), looks := true }, kinds := [], alts := [], laidByText := true, laidKinds := [.data, .data, .data, .data, .sentinel, .sentinel, .pinned], laidTests := true, laidLooks := .later }
def FnDeskUptoCardSaid : Prop := Claim7.holds Tryz.pinned (.plain (OpenSpec.upto fnDeskSpec)) fnDeskUptoCard

/-- THE SECOND FORM's CARD OF 'laws.FnDeskKeeps'. -/
def fnDeskKeepsUptoCard : Claim7 := { stood := { row := fnDeskKeepsUptoRow, standIns := [], harness := (true, "62f7636a0c1b1e8a7139b928f3a99b3db515822173c7a28855249107ada03dad"), looks := true }, kinds := [], alts := [], laidByText := true, laidKinds := [.data, .data, .data, .data, .sentinel, .sentinel, .pinned], laidTests := true, laidLooks := .later }
def FnDeskKeepsUptoCardSaid : Prop := Claim7.holds Tryz.pinned (.plain (OpenSpec.upto fnDeskKeepsSpec)) fnDeskKeepsUptoCard
end Rows
end Go.Proofs.YtfoamipegmbcgaaGreatDoor
