/-
  DERIVED. GIVEN WITH THE SEED: THE CARDS: each row of YtjgjbdnjjepibaaGreatDoorRows.lean that lists a variable, with what it lists TIED to the program's text (the seventh form; the later family's looks); each row that meets fmt, with fmt's text TOLD by the authors' own Lean function (tested against real Go, not proved from fmt's source: count such statements apart). THE CARD IS WHAT COUNTS. Prove the row's statement (the work); the ties are given (YtjgjbdnjjepibaaGreatDoorTie.lean); close each card by the builder's one call (the guide's Derived/Test/ToyasCard.lean, 'card_holds'). Laid BY PROGRAM, IN A SANDBOX (cutbox-door.mjs). By AI agents, Wed Nov 11 2026. No macro, syntax, notation, axiom, sorry.
-/
import Derived.Test.YtjgjbdnjjepibaaGreatDoorRows
import GoSem.ClaimSeven
namespace Go.Proofs.YtjgjbdnjjepibaaGreatDoor
namespace Rows

/-- THE TIED CARD OF 'signalbenchlaw34.DeclPrints'. -/
def declPrintsCard : Claim7 := { stood := { row := declPrintsRow, standIns := [], harness := (true, "ecacd9ef6d646c2db9c7b78bff8078d329260d44dbf59e3e2ff897a35a1b5a71"), looks := false }, kinds := [], alts := [], laidByText := true, laidKinds := [.data, .data, .data], laidTests := true, laidLooks := .later }
def DeclPrintsCardSaid : Prop := Claim7.holds Tryz.pinned (.plain (OpenSpec.ofChange declPrintsSpec)) declPrintsCard

/-- THE TIED CARD OF 'signalbenchlaw34.DeclParses'. -/
def declParsesCard : Claim7 := { stood := { row := declParsesRow, standIns := [], harness := (true, "ecacd9ef6d646c2db9c7b78bff8078d329260d44dbf59e3e2ff897a35a1b5a71"), looks := false }, kinds := [], alts := [], laidByText := true, laidKinds := [.data, .data, .data], laidTests := true, laidLooks := .later }
def DeclParsesCardSaid : Prop := Claim7.holds Tryz.pinned (.plain (OpenSpec.ofChange declParsesSpec)) declParsesCard

/-- THE SECOND FORM's CARD OF 'signalbenchlaw34.DeclPrints'. -/
def declPrintsUptoCard : Claim7 := { stood := { row := declPrintsUptoRow, standIns := [], harness := (true, "ecacd9ef6d646c2db9c7b78bff8078d329260d44dbf59e3e2ff897a35a1b5a71"), looks := false }, kinds := [], alts := [], laidByText := true, laidKinds := [.data, .data, .data], laidTests := true, laidLooks := .later }
def DeclPrintsUptoCardSaid : Prop := Claim7.holds Tryz.pinned (.plain (OpenSpec.upto declPrintsSpec)) declPrintsUptoCard

/-- THE SECOND FORM's CARD OF 'signalbenchlaw34.DeclParses'. -/
def declParsesUptoCard : Claim7 := { stood := { row := declParsesUptoRow, standIns := [], harness := (true, "ecacd9ef6d646c2db9c7b78bff8078d329260d44dbf59e3e2ff897a35a1b5a71"), looks := false }, kinds := [], alts := [], laidByText := true, laidKinds := [.data, .data, .data], laidTests := true, laidLooks := .later }
def DeclParsesUptoCardSaid : Prop := Claim7.holds Tryz.pinned (.plain (OpenSpec.upto declParsesSpec)) declParsesUptoCard
end Rows
end Go.Proofs.YtjgjbdnjjepibaaGreatDoor
