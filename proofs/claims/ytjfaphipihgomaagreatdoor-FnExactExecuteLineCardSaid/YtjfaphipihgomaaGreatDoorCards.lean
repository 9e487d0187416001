/-
  DERIVED. GIVEN WITH THE SEED: THE CARDS: each row of YtjfaphipihgomaaGreatDoorRows.lean that lists a variable, with what it lists TIED to the program's text (the seventh form; the later family's looks); each row that meets fmt, with fmt's text TOLD by the authors' own Lean function (tested against real Go, not proved from fmt's source: count such statements apart). THE CARD IS WHAT COUNTS. Prove the row's statement (the work); the ties are given (YtjfaphipihgomaaGreatDoorTie.lean); close each card by the builder's one call (the guide's Derived/Test/ToyasCard.lean, 'card_holds'). Laid BY PROGRAM, IN A SANDBOX (cutbox-door.mjs). By AI agents, Wed Nov 11 2026. No macro, syntax, notation, axiom, sorry.
-/
import Derived.Test.YtjfaphipihgomaaGreatDoorRows
import GoSem.ClaimSeven
namespace Go.Proofs.YtjfaphipihgomaaGreatDoor
namespace Rows

/-- THE TIED CARD OF 'laws.FnExactRunDesk'. -/
def fnExactRunDeskCard : Claim7 := { stood := { row := fnExactRunDeskRow, standIns := [], harness := (true, "5f2d92a5c9389ee7243b47461be5528aab05e5e4b0ad4190be4c57f8afd1a8c1"), looks := true }, kinds := [], alts := [], laidByText := true, laidKinds := [.data, .data, .data, .data, .sentinel, .sentinel, .pinned], laidTests := true, laidLooks := .later }
def FnExactRunDeskCardSaid : Prop := Claim7.holds Tryz.pinned (.plain (OpenSpec.ofChange fnExactRunDeskSpec)) fnExactRunDeskCard

/-- THE TIED CARD OF 'laws.FnExactExecuteLine'. -/
def fnExactExecuteLineCard : Claim7 := { stood := { row := fnExactExecuteLineRow, standIns := [], harness := (true, "5f2d92a5c9389ee7243b47461be5528aab05e5e4b0ad4190be4c57f8afd1a8c1"), looks := true }, kinds := [], alts := [], laidByText := true, laidKinds := [.data, .data, .data, .data, .sentinel, .sentinel, .pinned], laidTests := true, laidLooks := .later }
def FnExactExecuteLineCardSaid : Prop := Claim7.holds Tryz.pinned (.plain (OpenSpec.ofChange fnExactExecuteLineSpec)) fnExactExecuteLineCard

/-- THE SECOND FORM's CARD OF 'laws.FnExactRunDesk'. -/
def fnExactRunDeskUptoCard : Claim7 := { stood := { row := fnExactRunDeskUptoRow, standIns := [], harness := (true, "5f2d92a5c9389ee7243b47461be5528aab05e5e4b0ad4190be4c57f8afd1a8c1"), looks := true }, kinds := [], alts := [], laidByText := true, laidKinds := [.data, .data, .data, .data, .sentinel, .sentinel, .pinned], laidTests := true, laidLooks := .later }
def FnExactRunDeskUptoCardSaid : Prop := Claim7.holds Tryz.pinned (.plain (OpenSpec.upto fnExactRunDeskSpec)) fnExactRunDeskUptoCard

/-- THE SECOND FORM's CARD OF 'laws.FnExactExecuteLine'. -/
def fnExactExecuteLineUptoCard : Claim7 := { stood := { row := fnExactExecuteLineUptoRow, standIns := [], harness := (true, "5f2d92a5c9389ee7243b47461be5528aab05e5e4b0ad4190be4c57f8afd1a8c1"), looks := true }, kinds := [], alts := [], laidByText := true, laidKinds := [.data, .data, .data, .data, .sentinel, .sentinel, .pinned], laidTests := true, laidLooks := .later }
def FnExactExecuteLineUptoCardSaid : Prop := Claim7.holds Tryz.pinned (.plain (OpenSpec.upto fnExactExecuteLineSpec)) fnExactExecuteLineUptoCard
end Rows
end Go.Proofs.YtjfaphipihgomaaGreatDoor
