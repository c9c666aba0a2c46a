/-
  DERIVED. GIVEN WITH THE SEED: THE CARDS: each row of YtaclfjjipnpboaaGreatDoorRows.lean that lists a variable, with what it lists TIED to the program's text (the seventh form; the later family's looks); each row that meets fmt, with fmt's text TOLD by the authors' own Lean function (tested against real Go, not proved from fmt's source: count such statements apart). THE CARD IS WHAT COUNTS. Prove the row's statement (the work); the ties are given (YtaclfjjipnpboaaGreatDoorTie.lean); close each card by the builder's one call (the guide's Derived/Test/ToyasCard.lean, 'card_holds'). Laid BY PROGRAM, IN A SANDBOX (cutbox-door.mjs). By AI agents, Wed Nov 11 2026. No macro, syntax, notation, axiom, sorry.
-/
import Derived.Test.YtaclfjjipnpboaaGreatDoorRows
import GoSem.ClaimSeven
namespace Go.Proofs.YtaclfjjipnpboaaGreatDoor
namespace Rows

/-- THE TIED CARD OF 'tracebooktop.TopImport'. -/
def topImportCard : Claim7 := { stood := { row := topImportRow, standIns := [], harness := (true, "7346072e79954aa05ea78a8ace2a1bf8fa51cbfca1210a4caa158462c89fb2e5"), looks := true }, kinds := [], alts := [], laidByText := true, laidKinds := [.data, .data, .data, .sentinel, .sentinel], laidTests := true, laidLooks := .later }
def TopImportCardSaid : Prop := Claim7.holds Tryz.pinned (.plain (OpenSpec.ofChange topImportSpec)) topImportCard

/-- THE SECOND FORM's CARD OF 'tracebooktop.TopImport'. -/
def topImportUptoCard : Claim7 := { stood := { row := topImportUptoRow, standIns := [], harness := (true, "7346072e79954aa05ea78a8ace2a1bf8fa51cbfca1210a4caa158462c89fb2e5"), looks := true }, kinds := [], alts := [], laidByText := true, laidKinds := [.data, .data, .data, .sentinel, .sentinel], laidTests := true, laidLooks := .later }
def TopImportUptoCardSaid : Prop := Claim7.holds Tryz.pinned (.plain (OpenSpec.upto topImportSpec)) topImportUptoCard
end Rows
end Go.Proofs.YtaclfjjipnpboaaGreatDoor
