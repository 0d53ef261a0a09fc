/-
  DERIVED. GIVEN WITH THE SEED: THE CARDS: each row of YtejehchbflmofaaGreatDoorRows.lean that lists a variable, with what it lists TIED to the program's text (the seventh form; the later family's looks); each row that meets fmt, with fmt's text TOLD by the authors' own Lean function (tested against real Go, not proved from fmt's source: count such statements apart). THE CARD IS WHAT COUNTS. Prove the row's statement (the work); the ties are given (YtejehchbflmofaaGreatDoorTie.lean); close each card by the builder's one call (the guide's Derived/Test/ToyasCard.lean, 'card_holds'). Laid BY PROGRAM, IN A SANDBOX (cutbox-door.mjs). By AI agents, Wed Nov 11 2026. No macro, syntax, notation, axiom, sorry.
-/
import Derived.Test.YtejehchbflmofaaGreatDoorRows
import GoSem.ClaimSeven
namespace Go.Proofs.YtejehchbflmofaaGreatDoor
namespace Rows

/-- THE TIED CARD OF 'signalbenchlaw49.LimitFinds'. -/
def limitFindsCard : Claim7 := { stood := { row := limitFindsRow, standIns := [], harness := (true, "d10ef32b7800adb41a3fc8b67844bdac6493a471e609304c50085ceb6c88e143"), looks := false }, kinds := [], alts := [], laidByText := true, laidKinds := [.data, .data, .data], laidTests := true, laidLooks := .later }
def LimitFindsCardSaid : Prop := Claim7.holds Tryz.pinned (.plain (OpenSpec.ofChange limitFindsSpec)) limitFindsCard

/-- THE TIED CARD OF 'signalbenchlaw49.LimitPrints'. -/
def limitPrintsCard : Claim7 := { stood := { row := limitPrintsRow, standIns := [], harness := (true, "d10ef32b7800adb41a3fc8b67844bdac6493a471e609304c50085ceb6c88e143"), looks := false }, kinds := [], alts := [], laidByText := true, laidKinds := [.data, .data, .data], laidTests := true, laidLooks := .later }
def LimitPrintsCardSaid : Prop := Claim7.holds Tryz.pinned (.plain (OpenSpec.ofChange limitPrintsSpec)) limitPrintsCard

/-- THE TIED CARD OF 'signalbenchlaw49.LimitParses'. -/
def limitParsesCard : Claim7 := { stood := { row := limitParsesRow, standIns := [], harness := (true, "d10ef32b7800adb41a3fc8b67844bdac6493a471e609304c50085ceb6c88e143"), looks := false }, kinds := [], alts := [], laidByText := true, laidKinds := [.data, .data, .data], laidTests := true, laidLooks := .later }
def LimitParsesCardSaid : Prop := Claim7.holds Tryz.pinned (.plain (OpenSpec.ofChange limitParsesSpec)) limitParsesCard

/-- THE TIED CARD OF 'signalbenchlaw49.LimitGaps'. -/
def limitGapsCard : Claim7 := { stood := { row := limitGapsRow, standIns := [], harness := (true, "d10ef32b7800adb41a3fc8b67844bdac6493a471e609304c50085ceb6c88e143"), looks := false }, kinds := [], alts := [], laidByText := true, laidKinds := [.data, .data, .data], laidTests := true, laidLooks := .later }
def LimitGapsCardSaid : Prop := Claim7.holds Tryz.pinned (.plain (OpenSpec.ofChange limitGapsSpec)) limitGapsCard

/-- THE SECOND FORM's CARD OF 'signalbenchlaw49.LimitFinds'. -/
def limitFindsUptoCard : Claim7 := { stood := { row := limitFindsUptoRow, standIns := [], harness := (true, "d10ef32b7800adb41a3fc8b67844bdac6493a471e609304c50085ceb6c88e143"), looks := false }, kinds := [], alts := [], laidByText := true, laidKinds := [.data, .data, .data], laidTests := true, laidLooks := .later }
def LimitFindsUptoCardSaid : Prop := Claim7.holds Tryz.pinned (.plain (OpenSpec.upto limitFindsSpec)) limitFindsUptoCard

/-- THE SECOND FORM's CARD OF 'signalbenchlaw49.LimitPrints'. -/
def limitPrintsUptoCard : Claim7 := { stood := { row := limitPrintsUptoRow, standIns := [], harness := (true, "d10ef32b7800adb41a3fc8b67844bdac6493a471e609304c50085ceb6c88e143"), looks := false }, kinds := [], alts := [], laidByText := true, laidKinds := [.data, .data, .data], laidTests := true, laidLooks := .later }
def LimitPrintsUptoCardSaid : Prop := Claim7.holds Tryz.pinned (.plain (OpenSpec.upto limitPrintsSpec)) limitPrintsUptoCard

/-- THE SECOND FORM's CARD OF 'signalbenchlaw49.LimitParses'. -/
def limitParsesUptoCard : Claim7 := { stood := { row := limitParsesUptoRow, standIns := [], harness := (true, "d10ef32b7800adb41a3fc8b67844bdac6493a471e609304c50085ceb6c88e143"), looks := false }, kinds := [], alts := [], laidByText := true, laidKinds := [.data, .data, .data], laidTests := true, laidLooks := .later }
def LimitParsesUptoCardSaid : Prop := Claim7.holds Tryz.pinned (.plain (OpenSpec.upto limitParsesSpec)) limitParsesUptoCard

/-- THE SECOND FORM's CARD OF 'signalbenchlaw49.LimitGaps'. -/
def limitGapsUptoCard : Claim7 := { stood := { row := limitGapsUptoRow, standIns := [], harness := (true, "d10ef32b7800adb41a3fc8b67844bdac6493a471e609304c50085ceb6c88e143"), looks := false }, kinds := [], alts := [], laidByText := true, laidKinds := [.data, .data, .data], laidTests := true, laidLooks := .later }
def LimitGapsUptoCardSaid : Prop := Claim7.holds Tryz.pinned (.plain (OpenSpec.upto limitGapsSpec)) limitGapsUptoCard
end Rows
end Go.Proofs.YtejehchbflmofaaGreatDoor
