/-
  DERIVED. GIVEN WITH THE SEED: THE CARDS: each row of YtghfncgciaiofaaDoorRows.lean that lists a variable, with what it lists TIED to the program's text (the seventh form; the later family's looks); each row that meets fmt, with fmt's text TOLD by the authors' own Lean function (tested against real Go, not proved from fmt's source: count such statements apart). THE CARD IS WHAT COUNTS. Prove the row's statement (the work); the ties are given (YtghfncgciaiofaaDoorTie.lean); close each card by the builder's one call (the guide's Derived/Test/ToyasCard.lean, 'card_holds'). Laid BY PROGRAM, IN A SANDBOX (cutbox-door.mjs). By AI agents, Wed Nov 11 2026. No macro, syntax, notation, axiom, sorry.
-/
import Derived.Test.YtghfncgciaiofaaDoorRows
import GoSem.ClaimSeven
namespace Go.Proofs.YtghfncgciaiofaaDoor
namespace Rows

/-- THE TIED CARD OF 'tracebooklaw55.SymbolFinds'. -/
def symbolFindsCard : Claim7 := { stood := { row := symbolFindsRow, standIns := [], harness := (true, "521e7b657756ffa03936eb739647a91b3fd11bb570b8d56f551517bbdc5049ec"), looks := true }, kinds := [], alts := [], laidByText := true, laidKinds := [.data, .data, .data, .sentinel, .sentinel], laidTests := true, laidLooks := .later }
def SymbolFindsCardSaid : Prop := Claim7.holds Tryd.pinned (.plain (OpenSpec.ofChange symbolFindsSpec)) symbolFindsCard

/-- THE TIED CARD OF 'tracebooklaw55.SymbolFrames'. -/
def symbolFramesCard : Claim7 := { stood := { row := symbolFramesRow, standIns := [], harness := (true, "521e7b657756ffa03936eb739647a91b3fd11bb570b8d56f551517bbdc5049ec"), looks := true }, kinds := [], alts := [], laidByText := true, laidKinds := [.data, .data, .data, .sentinel, .sentinel], laidTests := true, laidLooks := .later }
def SymbolFramesCardSaid : Prop := Claim7.holds Tryd.pinned (.plain (OpenSpec.ofChange symbolFramesSpec)) symbolFramesCard

/-- THE TIED CARD OF 'tracebooklaw55.SymbolInside'. -/
def symbolInsideCard : Claim7 := { stood := { row := symbolInsideRow, standIns := [], harness := (true, "521e7b657756ffa03936eb739647a91b3fd11bb570b8d56f551517bbdc5049ec"), looks := true }, kinds := [], alts := [], laidByText := true, laidKinds := [.data, .data, .data, .sentinel, .sentinel], laidTests := true, laidLooks := .later }
def SymbolInsideCardSaid : Prop := Claim7.holds Tryd.pinned (.plain (OpenSpec.ofChange symbolInsideSpec)) symbolInsideCard

/-- THE TIED CARD OF 'tracebooklaw55.SymbolSamples'. -/
def symbolSamplesCard : Claim7 := { stood := { row := symbolSamplesRow, standIns := [], harness := (true, "521e7b657756ffa03936eb739647a91b3fd11bb570b8d56f551517bbdc5049ec"), looks := true }, kinds := [], alts := [], laidByText := true, laidKinds := [.data, .data, .data, .sentinel, .sentinel], laidTests := true, laidLooks := .later }
def SymbolSamplesCardSaid : Prop := Claim7.holds Tryd.pinned (.plain (OpenSpec.ofChange symbolSamplesSpec)) symbolSamplesCard

/-- THE TIED CARD OF 'tracebooklaw55.SymbolKeeps'. -/
def symbolKeepsCard : Claim7 := { stood := { row := symbolKeepsRow, standIns := [], harness := (true, "521e7b657756ffa03936eb739647a91b3fd11bb570b8d56f551517bbdc5049ec"), looks := true }, kinds := [], alts := [], laidByText := true, laidKinds := [.data, .data, .data, .sentinel, .sentinel], laidTests := true, laidLooks := .later }
def SymbolKeepsCardSaid : Prop := Claim7.holds Tryd.pinned (.plain (OpenSpec.ofChange symbolKeepsSpec)) symbolKeepsCard

/-- THE SECOND FORM's CARD OF 'tracebooklaw55.SymbolFinds'. -/
def symbolFindsUptoCard : Claim7 := { stood := { row := symbolFindsUptoRow, standIns := [], harness := (true, "521e7b657756ffa03936eb739647a91b3fd11bb570b8d56f551517bbdc5049ec"), looks := true }, kinds := [], alts := [], laidByText := true, laidKinds := [.data, .data, .data, .sentinel, .sentinel], laidTests := true, laidLooks := .later }
def SymbolFindsUptoCardSaid : Prop := Claim7.holds Tryd.pinned (.plain (OpenSpec.upto symbolFindsSpec)) symbolFindsUptoCard

/-- THE SECOND FORM's CARD OF 'tracebooklaw55.SymbolFrames'. -/
def symbolFramesUptoCard : Claim7 := { stood := { row := symbolFramesUptoRow, standIns := [], harness := (true, "521e7b657756ffa03936eb739647a91b3fd11bb570b8d56f551517bbdc5049ec"), looks := true }, kinds := [], alts := [], laidByText := true, laidKinds := [.data, .data, .data, .sentinel, .sentinel], laidTests := true, laidLooks := .later }
def SymbolFramesUptoCardSaid : Prop := Claim7.holds Tryd.pinned (.plain (OpenSpec.upto symbolFramesSpec)) symbolFramesUptoCard

/-- THE SECOND FORM's CARD OF 'tracebooklaw55.SymbolInside'. -/
def symbolInsideUptoCard : Claim7 := { stood := { row := symbolInsideUptoRow, standIns := [], harness := (true, "521e7b657756ffa03936eb739647a91b3fd11bb570b8d56f551517bbdc5049ec"), looks := true }, kinds := [], alts := [], laidByText := true, laidKinds := [.data, .data, .data, .sentinel, .sentinel], laidTests := true, laidLooks := .later }
def SymbolInsideUptoCardSaid : Prop := Claim7.holds Tryd.pinned (.plain (OpenSpec.upto symbolInsideSpec)) symbolInsideUptoCard

/-- THE SECOND FORM's CARD OF 'tracebooklaw55.SymbolSamples'. -/
def symbolSamplesUptoCard : Claim7 := { stood := { row := symbolSamplesUptoRow, standIns := [], harness := (true, "521e7b657756ffa03936eb739647a91b3fd11bb570b8d56f551517bbdc5049ec"), looks := true }, kinds := [], alts := [], laidByText := true, laidKinds := [.data, .data, .data, .sentinel, .sentinel], laidTests := true, laidLooks := .later }
def SymbolSamplesUptoCardSaid : Prop := Claim7.holds Tryd.pinned (.plain (OpenSpec.upto symbolSamplesSpec)) symbolSamplesUptoCard

/-- THE SECOND FORM's CARD OF 'tracebooklaw55.SymbolKeeps'. -/
def symbolKeepsUptoCard : Claim7 := { stood := { row := symbolKeepsUptoRow, standIns := [], harness := (true, "521e7b657756ffa03936eb739647a91b3fd11bb570b8d56f551517bbdc5049ec"), looks := true }, kinds := [], alts := [], laidByText := true, laidKinds := [.data, .data, .data, .sentinel, .sentinel], laidTests := true, laidLooks := .later }
def SymbolKeepsUptoCardSaid : Prop := Claim7.holds Tryd.pinned (.plain (OpenSpec.upto symbolKeepsSpec)) symbolKeepsUptoCard
end Rows
end Go.Proofs.YtghfncgciaiofaaDoor
