/-
  DERIVED. GIVEN WITH THE SEED: THE CARDS: each row of YtgddbcdkhfdojaaDoorRows.lean that lists a variable, with what it lists TIED to the program's text (the seventh form; the later family's looks); each row that meets fmt, with fmt's text TOLD by the authors' own Lean function (tested against real Go, not proved from fmt's source: count such statements apart). THE CARD IS WHAT COUNTS. Prove the row's statement (the work); the ties are given (YtgddbcdkhfdojaaDoorTie.lean); close each card by the builder's one call (the guide's Derived/Test/ToyasCard.lean, 'card_holds'). Laid BY PROGRAM, IN A SANDBOX (cutbox-door.mjs). By AI agents, Wed Nov 11 2026. No macro, syntax, notation, axiom, sorry.
-/
import Derived.Test.YtgddbcdkhfdojaaDoorRows
import GoSem.ClaimSeven
namespace Go.Proofs.YtgddbcdkhfdojaaDoor
namespace Rows

/-- THE TIED CARD OF 'laws.FnExactFormatInstr'. -/
def fnExactFormatInstrCard : Claim7 := { stood := { row := fnExactFormatInstrRow, standIns := [], harness := (true, "b27f51799a0c21f26b22ce4b7448dcf1e95b49f01bf099e1615ee26594e79221"), looks := true }, kinds := [], alts := [], laidByText := true, laidKinds := [.data, .data, .data], laidTests := true, laidLooks := .later }
def FnExactFormatInstrCardSaid : Prop := Claim7.holds Tryd.pinned (.plain (OpenSpec.ofChange fnExactFormatInstrSpec)) fnExactFormatInstrCard

/-- THE TIED CARD OF 'laws.FnExactFormatProgram'. -/
def fnExactFormatProgramCard : Claim7 := { stood := { row := fnExactFormatProgramRow, standIns := [], harness := (true, "b27f51799a0c21f26b22ce4b7448dcf1e95b49f01bf099e1615ee26594e79221"), looks := true }, kinds := [], alts := [], laidByText := true, laidKinds := [.data, .data, .data], laidTests := true, laidLooks := .later }
def FnExactFormatProgramCardSaid : Prop := Claim7.holds Tryd.pinned (.plain (OpenSpec.ofChange fnExactFormatProgramSpec)) fnExactFormatProgramCard

/-- THE TIED CARD OF 'laws.FnExactFormatNetwork'. -/
def fnExactFormatNetworkCard : Claim7 := { stood := { row := fnExactFormatNetworkRow, standIns := [], harness := (true, "b27f51799a0c21f26b22ce4b7448dcf1e95b49f01bf099e1615ee26594e79221"), looks := true }, kinds := [], alts := [], laidByText := true, laidKinds := [.data, .data, .data], laidTests := true, laidLooks := .later }
def FnExactFormatNetworkCardSaid : Prop := Claim7.holds Tryd.pinned (.plain (OpenSpec.ofChange fnExactFormatNetworkSpec)) fnExactFormatNetworkCard

/-- THE TIED CARD OF 'laws.FnExactParseInstr'. -/
def fnExactParseInstrCard : Claim7 := { stood := { row := fnExactParseInstrRow, standIns := [], harness := (true, "b27f51799a0c21f26b22ce4b7448dcf1e95b49f01bf099e1615ee26594e79221"), looks := true }, kinds := [], alts := [], laidByText := true, laidKinds := [.data, .data, .data, .data, .sentinel, .sentinel, .pinned], laidTests := true, laidLooks := .later }
def FnExactParseInstrCardSaid : Prop := Claim7.holds Tryd.pinned (.plain (OpenSpec.ofChange fnExactParseInstrSpec)) fnExactParseInstrCard

/-- THE TIED CARD OF 'laws.FnExactFormatState'. -/
def fnExactFormatStateCard : Claim7 := { stood := { row := fnExactFormatStateRow, standIns := [], harness := (true, "b27f51799a0c21f26b22ce4b7448dcf1e95b49f01bf099e1615ee26594e79221"), looks := true }, kinds := [], alts := [], laidByText := true, laidKinds := [.data, .data, .data], laidTests := true, laidLooks := .later }
def FnExactFormatStateCardSaid : Prop := Claim7.holds Tryd.pinned (.plain (OpenSpec.ofChange fnExactFormatStateSpec)) fnExactFormatStateCard

/-- THE TIED CARD OF 'laws.FnExactParseProgram'. -/
def fnExactParseProgramCard : Claim7 := { stood := { row := fnExactParseProgramRow, standIns := [], harness := (true, "b27f51799a0c21f26b22ce4b7448dcf1e95b49f01bf099e1615ee26594e79221"), looks := true }, kinds := [], alts := [], laidByText := true, laidKinds := [.data, .data, .data, .data, .sentinel, .sentinel, .pinned], laidTests := true, laidLooks := .later }
def FnExactParseProgramCardSaid : Prop := Claim7.holds Tryd.pinned (.plain (OpenSpec.ofChange fnExactParseProgramSpec)) fnExactParseProgramCard

/-- THE SECOND FORM's CARD OF 'laws.FnExactFormatInstr'. -/
def fnExactFormatInstrUptoCard : Claim7 := { stood := { row := fnExactFormatInstrUptoRow, standIns := [], harness := (true, "b27f51799a0c21f26b22ce4b7448dcf1e95b49f01bf099e1615ee26594e79221"), looks := true }, kinds := [], alts := [], laidByText := true, laidKinds := [.data, .data, .data], laidTests := true, laidLooks := .later }
def FnExactFormatInstrUptoCardSaid : Prop := Claim7.holds Tryd.pinned (.plain (OpenSpec.upto fnExactFormatInstrSpec)) fnExactFormatInstrUptoCard

/-- THE SECOND FORM's CARD OF 'laws.FnExactFormatProgram'. -/
def fnExactFormatProgramUptoCard : Claim7 := { stood := { row := fnExactFormatProgramUptoRow, standIns := [], harness := (true, "b27f51799a0c21f26b22ce4b7448dcf1e95b49f01bf099e1615ee26594e79221"), looks := true }, kinds := [], alts := [], laidByText := true, laidKinds := [.data, .data, .data], laidTests := true, laidLooks := .later }
def FnExactFormatProgramUptoCardSaid : Prop := Claim7.holds Tryd.pinned (.plain (OpenSpec.upto fnExactFormatProgramSpec)) fnExactFormatProgramUptoCard

/-- THE SECOND FORM's CARD OF 'laws.FnExactFormatNetwork'. -/
def fnExactFormatNetworkUptoCard : Claim7 := { stood := { row := fnExactFormatNetworkUptoRow, standIns := [], harness := (true, "b27f51799a0c21f26b22ce4b7448dcf1e95b49f01bf099e1615ee26594e79221"), looks := true }, kinds := [], alts := [], laidByText := true, laidKinds := [.data, .data, .data], laidTests := true, laidLooks := .later }
def FnExactFormatNetworkUptoCardSaid : Prop := Claim7.holds Tryd.pinned (.plain (OpenSpec.upto fnExactFormatNetworkSpec)) fnExactFormatNetworkUptoCard

/-- THE SECOND FORM's CARD OF 'laws.FnExactParseInstr'. -/
def fnExactParseInstrUptoCard : Claim7 := { stood := { row := fnExactParseInstrUptoRow, standIns := [], harness := (true, "b27f51799a0c21f26b22ce4b7448dcf1e95b49f01bf099e1615ee26594e79221"), looks := true }, kinds := [], alts := [], laidByText := true, laidKinds := [.data, .data, .data, .data, .sentinel, .sentinel, .pinned], laidTests := true, laidLooks := .later }
def FnExactParseInstrUptoCardSaid : Prop := Claim7.holds Tryd.pinned (.plain (OpenSpec.upto fnExactParseInstrSpec)) fnExactParseInstrUptoCard

/-- THE SECOND FORM's CARD OF 'laws.FnExactFormatState'. -/
def fnExactFormatStateUptoCard : Claim7 := { stood := { row := fnExactFormatStateUptoRow, standIns := [], harness := (true, "b27f51799a0c21f26b22ce4b7448dcf1e95b49f01bf099e1615ee26594e79221"), looks := true }, kinds := [], alts := [], laidByText := true, laidKinds := [.data, .data, .data], laidTests := true, laidLooks := .later }
def FnExactFormatStateUptoCardSaid : Prop := Claim7.holds Tryd.pinned (.plain (OpenSpec.upto fnExactFormatStateSpec)) fnExactFormatStateUptoCard

/-- THE SECOND FORM's CARD OF 'laws.FnExactParseProgram'. -/
def fnExactParseProgramUptoCard : Claim7 := { stood := { row := fnExactParseProgramUptoRow, standIns := [], harness := (true, "b27f51799a0c21f26b22ce4b7448dcf1e95b49f01bf099e1615ee26594e79221"), looks := true }, kinds := [], alts := [], laidByText := true, laidKinds := [.data, .data, .data, .data, .sentinel, .sentinel, .pinned], laidTests := true, laidLooks := .later }
def FnExactParseProgramUptoCardSaid : Prop := Claim7.holds Tryd.pinned (.plain (OpenSpec.upto fnExactParseProgramSpec)) fnExactParseProgramUptoCard
end Rows
end Go.Proofs.YtgddbcdkhfdojaaDoor
