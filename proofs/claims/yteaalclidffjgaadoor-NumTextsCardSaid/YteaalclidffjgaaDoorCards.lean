/-
  DERIVED. GIVEN WITH THE SEED: THE CARDS: each row of YteaalclidffjgaaDoorRows.lean that lists a variable, with what it lists TIED to the program's text (the seventh form; the later family's looks); each row that meets fmt, with fmt's text TOLD by the authors' own Lean function (tested against real Go, not proved from fmt's source: count such statements apart). THE CARD IS WHAT COUNTS. Prove the row's statement (the work); the ties are given (YteaalclidffjgaaDoorTie.lean); close each card by the builder's one call (the guide's Derived/Test/ToyasCard.lean, 'card_holds'). Laid BY PROGRAM, IN A SANDBOX (cutbox-door.mjs). By AI agents, Wed Nov 11 2026. No macro, syntax, notation, axiom, sorry.
-/
import Derived.Test.YteaalclidffjgaaDoorRows
import GoSem.ClaimSeven
namespace Go.Proofs.YteaalclidffjgaaDoor
namespace Rows

/-- THE TIED CARD OF 'tracebooklaw01.NumSums'. -/
def numSumsCard : Claim7 := { stood := { row := numSumsRow, standIns := [], harness := (true, "8182907167d93a299bc0a6f0749ddb5f6a3c70ee7bc944ce95c2c960be02a479"), looks := true }, kinds := [], alts := [], laidByText := true, laidKinds := [.data, .data, .data, .sentinel, .sentinel], laidTests := true, laidLooks := .later }
def NumSumsCardSaid : Prop := Claim7.holds Tryd.pinned (.plain (OpenSpec.ofChange numSumsSpec)) numSumsCard

/-- THE TIED CARD OF 'tracebooklaw01.NumUndoes'. -/
def numUndoesCard : Claim7 := { stood := { row := numUndoesRow, standIns := [], harness := (true, "8182907167d93a299bc0a6f0749ddb5f6a3c70ee7bc944ce95c2c960be02a479"), looks := true }, kinds := [], alts := [], laidByText := true, laidKinds := [.data, .data, .data, .sentinel, .sentinel], laidTests := true, laidLooks := .later }
def NumUndoesCardSaid : Prop := Claim7.holds Tryd.pinned (.plain (OpenSpec.ofChange numUndoesSpec)) numUndoesCard

/-- THE TIED CARD OF 'tracebooklaw01.NumQuotients'. -/
def numQuotientsCard : Claim7 := { stood := { row := numQuotientsRow, standIns := [], harness := (true, "8182907167d93a299bc0a6f0749ddb5f6a3c70ee7bc944ce95c2c960be02a479"), looks := true }, kinds := [], alts := [], laidByText := true, laidKinds := [.data, .data, .data, .sentinel, .sentinel], laidTests := true, laidLooks := .later }
def NumQuotientsCardSaid : Prop := Claim7.holds Tryd.pinned (.plain (OpenSpec.ofChange numQuotientsSpec)) numQuotientsCard

/-- THE TIED CARD OF 'tracebooklaw01.NumRounds'. -/
def numRoundsCard : Claim7 := { stood := { row := numRoundsRow, standIns := [], harness := (true, "8182907167d93a299bc0a6f0749ddb5f6a3c70ee7bc944ce95c2c960be02a479"), looks := true }, kinds := [], alts := [], laidByText := true, laidKinds := [.data, .data, .data, .sentinel, .sentinel], laidTests := true, laidLooks := .later }
def NumRoundsCardSaid : Prop := Claim7.holds Tryd.pinned (.plain (OpenSpec.ofChange numRoundsSpec)) numRoundsCard

/-- THE TIED CARD OF 'tracebooklaw01.NumQuantiles'. -/
def numQuantilesCard : Claim7 := { stood := { row := numQuantilesRow, standIns := [], harness := (true, "8182907167d93a299bc0a6f0749ddb5f6a3c70ee7bc944ce95c2c960be02a479"), looks := true }, kinds := [], alts := [], laidByText := true, laidKinds := [.data, .data, .data, .sentinel, .sentinel], laidTests := true, laidLooks := .later }
def NumQuantilesCardSaid : Prop := Claim7.holds Tryd.pinned (.plain (OpenSpec.ofChange numQuantilesSpec)) numQuantilesCard

/-- THE TIED CARD OF 'tracebooklaw01.NumRanks'. -/
def numRanksCard : Claim7 := { stood := { row := numRanksRow, standIns := [], harness := (true, "8182907167d93a299bc0a6f0749ddb5f6a3c70ee7bc944ce95c2c960be02a479"), looks := true }, kinds := [], alts := [], laidByText := true, laidKinds := [.data, .data, .data, .sentinel, .sentinel], laidTests := true, laidLooks := .later }
def NumRanksCardSaid : Prop := Claim7.holds Tryd.pinned (.plain (OpenSpec.ofChange numRanksSpec)) numRanksCard

/-- THE TIED CARD OF 'tracebooklaw01.NumTexts'. -/
def numTextsCard : Claim7 := { stood := { row := numTextsRow, standIns := [], harness := (true, "8182907167d93a299bc0a6f0749ddb5f6a3c70ee7bc944ce95c2c960be02a479"), looks := true }, kinds := [], alts := [], laidByText := true, laidKinds := [.data, .data, .data, .sentinel, .sentinel], laidTests := true, laidLooks := .later }
def NumTextsCardSaid : Prop := Claim7.holds Tryd.pinned (.plain (OpenSpec.ofChange numTextsSpec)) numTextsCard

/-- THE SECOND FORM's CARD OF 'tracebooklaw01.NumSums'. -/
def numSumsUptoCard : Claim7 := { stood := { row := numSumsUptoRow, standIns := [], harness := (true, "8182907167d93a299bc0a6f0749ddb5f6a3c70ee7bc944ce95c2c960be02a479"), looks := true }, kinds := [], alts := [], laidByText := true, laidKinds := [.data, .data, .data, .sentinel, .sentinel], laidTests := true, laidLooks := .later }
def NumSumsUptoCardSaid : Prop := Claim7.holds Tryd.pinned (.plain (OpenSpec.upto numSumsSpec)) numSumsUptoCard

/-- THE SECOND FORM's CARD OF 'tracebooklaw01.NumUndoes'. -/
def numUndoesUptoCard : Claim7 := { stood := { row := numUndoesUptoRow, standIns := [], harness := (true, "8182907167d93a299bc0a6f0749ddb5f6a3c70ee7bc944ce95c2c960be02a479"), looks := true }, kinds := [], alts := [], laidByText := true, laidKinds := [.data, .data, .data, .sentinel, .sentinel], laidTests := true, laidLooks := .later }
def NumUndoesUptoCardSaid : Prop := Claim7.holds Tryd.pinned (.plain (OpenSpec.upto numUndoesSpec)) numUndoesUptoCard

/-- THE SECOND FORM's CARD OF 'tracebooklaw01.NumQuotients'. -/
def numQuotientsUptoCard : Claim7 := { stood := { row := numQuotientsUptoRow, standIns := [], harness := (true, "8182907167d93a299bc0a6f0749ddb5f6a3c70ee7bc944ce95c2c960be02a479"), looks := true }, kinds := [], alts := [], laidByText := true, laidKinds := [.data, .data, .data, .sentinel, .sentinel], laidTests := true, laidLooks := .later }
def NumQuotientsUptoCardSaid : Prop := Claim7.holds Tryd.pinned (.plain (OpenSpec.upto numQuotientsSpec)) numQuotientsUptoCard

/-- THE SECOND FORM's CARD OF 'tracebooklaw01.NumRounds'. -/
def numRoundsUptoCard : Claim7 := { stood := { row := numRoundsUptoRow, standIns := [], harness := (true, "8182907167d93a299bc0a6f0749ddb5f6a3c70ee7bc944ce95c2c960be02a479"), looks := true }, kinds := [], alts := [], laidByText := true, laidKinds := [.data, .data, .data, .sentinel, .sentinel], laidTests := true, laidLooks := .later }
def NumRoundsUptoCardSaid : Prop := Claim7.holds Tryd.pinned (.plain (OpenSpec.upto numRoundsSpec)) numRoundsUptoCard

/-- THE SECOND FORM's CARD OF 'tracebooklaw01.NumQuantiles'. -/
def numQuantilesUptoCard : Claim7 := { stood := { row := numQuantilesUptoRow, standIns := [], harness := (true, "8182907167d93a299bc0a6f0749ddb5f6a3c70ee7bc944ce95c2c960be02a479"), looks := true }, kinds := [], alts := [], laidByText := true, laidKinds := [.data, .data, .data, .sentinel, .sentinel], laidTests := true, laidLooks := .later }
def NumQuantilesUptoCardSaid : Prop := Claim7.holds Tryd.pinned (.plain (OpenSpec.upto numQuantilesSpec)) numQuantilesUptoCard

/-- THE SECOND FORM's CARD OF 'tracebooklaw01.NumRanks'. -/
def numRanksUptoCard : Claim7 := { stood := { row := numRanksUptoRow, standIns := [], harness := (true, "8182907167d93a299bc0a6f0749ddb5f6a3c70ee7bc944ce95c2c960be02a479"), looks := true }, kinds := [], alts := [], laidByText := true, laidKinds := [.data, .data, .data, .sentinel, .sentinel], laidTests := true, laidLooks := .later }
def NumRanksUptoCardSaid : Prop := Claim7.holds Tryd.pinned (.plain (OpenSpec.upto numRanksSpec)) numRanksUptoCard

/-- THE SECOND FORM's CARD OF 'tracebooklaw01.NumTexts'. -/
def numTextsUptoCard : Claim7 := { stood := { row := numTextsUptoRow, standIns := [], harness := (true, "8182907167d93a299bc0a6f0749ddb5f6a3c70ee7bc944ce95c2c960be02a479"), looks := true }, kinds := [], alts := [], laidByText := true, laidKinds := [.data, .data, .data, .sentinel, .sentinel], laidTests := true, laidLooks := .later }
def NumTextsUptoCardSaid : Prop := Claim7.holds Tryd.pinned (.plain (OpenSpec.upto numTextsSpec)) numTextsUptoCard
end Rows
end Go.Proofs.YteaalclidffjgaaDoor
