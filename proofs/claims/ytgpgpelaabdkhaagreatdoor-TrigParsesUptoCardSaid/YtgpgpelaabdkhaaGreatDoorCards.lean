/-
  DERIVED. GIVEN WITH THE SEED: THE CARDS: each row of YtgpgpelaabdkhaaGreatDoorRows.lean that lists a variable, with what it lists TIED to the program's text (the seventh form; the later family's looks); each row that meets fmt, with fmt's text TOLD by the authors' own Lean function (tested against real Go, not proved from fmt's source: count such statements apart). THE CARD IS WHAT COUNTS. Prove the row's statement (the work); the ties are given (YtgpgpelaabdkhaaGreatDoorTie.lean); close each card by the builder's one call (the guide's Derived/Test/ToyasCard.lean, 'card_holds'). Laid BY PROGRAM, IN A SANDBOX (cutbox-door.mjs). By AI agents, Wed Nov 11 2026. No macro, syntax, notation, axiom, sorry.
-/
import Derived.Test.YtgpgpelaabdkhaaGreatDoorRows
import GoSem.ClaimSeven
namespace Go.Proofs.YtgpgpelaabdkhaaGreatDoor
namespace Rows

/-- THE TIED CARD OF 'signalbenchlaw43.TrigPrints'. -/
def trigPrintsCard : Claim7 := { stood := { row := trigPrintsRow, standIns := [], harness := (true, "c9d488622a34d6c3b390fe8910abe9c899c3ed104ece74b9ded47332da4ab1a2"), looks := true }, kinds := [], alts := [], laidByText := true, laidKinds := [.data, .data, .data], laidTests := true, laidLooks := .later }
def TrigPrintsCardSaid : Prop := Claim7.holds Tryz.pinned (.plain (OpenSpec.ofChange trigPrintsSpec)) trigPrintsCard

/-- THE TIED CARD OF 'signalbenchlaw43.TrigParses'. -/
def trigParsesCard : Claim7 := { stood := { row := trigParsesRow, standIns := [], harness := (true, "c9d488622a34d6c3b390fe8910abe9c899c3ed104ece74b9ded47332da4ab1a2"), looks := true }, kinds := [], alts := [], laidByText := true, laidKinds := [.data, .data, .data], laidTests := true, laidLooks := .later }
def TrigParsesCardSaid : Prop := Claim7.holds Tryz.pinned (.plain (OpenSpec.ofChange trigParsesSpec)) trigParsesCard

/-- THE SECOND FORM's CARD OF 'signalbenchlaw43.TrigPrints'. -/
def trigPrintsUptoCard : Claim7 := { stood := { row := trigPrintsUptoRow, standIns := [], harness := (true, "c9d488622a34d6c3b390fe8910abe9c899c3ed104ece74b9ded47332da4ab1a2"), looks := true }, kinds := [], alts := [], laidByText := true, laidKinds := [.data, .data, .data], laidTests := true, laidLooks := .later }
def TrigPrintsUptoCardSaid : Prop := Claim7.holds Tryz.pinned (.plain (OpenSpec.upto trigPrintsSpec)) trigPrintsUptoCard

/-- THE SECOND FORM's CARD OF 'signalbenchlaw43.TrigParses'. -/
def trigParsesUptoCard : Claim7 := { stood := { row := trigParsesUptoRow, standIns := [], harness := (true, "c9d488622a34d6c3b390fe8910abe9c899c3ed104ece74b9ded47332da4ab1a2"), looks := true }, kinds := [], alts := [], laidByText := true, laidKinds := [.data, .data, .data], laidTests := true, laidLooks := .later }
def TrigParsesUptoCardSaid : Prop := Claim7.holds Tryz.pinned (.plain (OpenSpec.upto trigParsesSpec)) trigParsesUptoCard
end Rows
end Go.Proofs.YtgpgpelaabdkhaaGreatDoor
