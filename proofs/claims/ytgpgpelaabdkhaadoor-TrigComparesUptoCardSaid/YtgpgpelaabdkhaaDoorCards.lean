/-
  DERIVED. GIVEN WITH THE SEED: THE CARDS: each row of YtgpgpelaabdkhaaDoorRows.lean that lists a variable, with what it lists TIED to the program's text (the seventh form; the later family's looks); each row that meets fmt, with fmt's text TOLD by the authors' own Lean function (tested against real Go, not proved from fmt's source: count such statements apart). THE CARD IS WHAT COUNTS. Prove the row's statement (the work); the ties are given (YtgpgpelaabdkhaaDoorTie.lean); close each card by the builder's one call (the guide's Derived/Test/ToyasCard.lean, 'card_holds'). Laid BY PROGRAM, IN A SANDBOX (cutbox-door.mjs). By AI agents, Wed Nov 11 2026. No macro, syntax, notation, axiom, sorry.
-/
import Derived.Test.YtgpgpelaabdkhaaDoorRows
import GoSem.ClaimSeven
namespace Go.Proofs.YtgpgpelaabdkhaaDoor
namespace Rows

/-- THE TIED CARD OF 'signalbenchlaw43.TrigChecks'. -/
def trigChecksCard : Claim7 := { stood := { row := trigChecksRow, standIns := [], harness := (true, "6c8fc4cad2ff73f3ba0604ea856c87b8b2d0cf3534efc367885bf23e4eefe3e0"), looks := true }, kinds := [], alts := [], laidByText := true, laidKinds := [.data, .data, .data], laidTests := true, laidLooks := .later }
def TrigChecksCardSaid : Prop := Claim7.holds Tryd.pinned (.plain (OpenSpec.ofChange trigChecksSpec)) trigChecksCard

/-- THE TIED CARD OF 'signalbenchlaw43.TrigHolds'. -/
def trigHoldsCard : Claim7 := { stood := { row := trigHoldsRow, standIns := [], harness := (true, "6c8fc4cad2ff73f3ba0604ea856c87b8b2d0cf3534efc367885bf23e4eefe3e0"), looks := true }, kinds := [], alts := [], laidByText := true, laidKinds := [.data, .data, .data], laidTests := true, laidLooks := .later }
def TrigHoldsCardSaid : Prop := Claim7.holds Tryd.pinned (.plain (OpenSpec.ofChange trigHoldsSpec)) trigHoldsCard

/-- THE TIED CARD OF 'signalbenchlaw43.TrigRoundTrips'. -/
def trigRoundTripsCard : Claim7 := { stood := { row := trigRoundTripsRow, standIns := [], harness := (true, "6c8fc4cad2ff73f3ba0604ea856c87b8b2d0cf3534efc367885bf23e4eefe3e0"), looks := true }, kinds := [], alts := [], laidByText := true, laidKinds := [.data, .data, .data], laidTests := true, laidLooks := .later }
def TrigRoundTripsCardSaid : Prop := Claim7.holds Tryd.pinned (.plain (OpenSpec.ofChange trigRoundTripsSpec)) trigRoundTripsCard

/-- THE TIED CARD OF 'signalbenchlaw43.TrigTexts'. -/
def trigTextsCard : Claim7 := { stood := { row := trigTextsRow, standIns := [], harness := (true, "6c8fc4cad2ff73f3ba0604ea856c87b8b2d0cf3534efc367885bf23e4eefe3e0"), looks := true }, kinds := [], alts := [], laidByText := true, laidKinds := [.data, .data, .data], laidTests := true, laidLooks := .later }
def TrigTextsCardSaid : Prop := Claim7.holds Tryd.pinned (.plain (OpenSpec.ofChange trigTextsSpec)) trigTextsCard

/-- THE TIED CARD OF 'signalbenchlaw43.TrigCompares'. -/
def trigComparesCard : Claim7 := { stood := { row := trigComparesRow, standIns := [], harness := (true, "6c8fc4cad2ff73f3ba0604ea856c87b8b2d0cf3534efc367885bf23e4eefe3e0"), looks := true }, kinds := [], alts := [], laidByText := true, laidKinds := [.data, .data, .data], laidTests := true, laidLooks := .later }
def TrigComparesCardSaid : Prop := Claim7.holds Tryd.pinned (.plain (OpenSpec.ofChange trigComparesSpec)) trigComparesCard

/-- THE SECOND FORM's CARD OF 'signalbenchlaw43.TrigChecks'. -/
def trigChecksUptoCard : Claim7 := { stood := { row := trigChecksUptoRow, standIns := [], harness := (true, "6c8fc4cad2ff73f3ba0604ea856c87b8b2d0cf3534efc367885bf23e4eefe3e0"), looks := true }, kinds := [], alts := [], laidByText := true, laidKinds := [.data, .data, .data], laidTests := true, laidLooks := .later }
def TrigChecksUptoCardSaid : Prop := Claim7.holds Tryd.pinned (.plain (OpenSpec.upto trigChecksSpec)) trigChecksUptoCard

/-- THE SECOND FORM's CARD OF 'signalbenchlaw43.TrigHolds'. -/
def trigHoldsUptoCard : Claim7 := { stood := { row := trigHoldsUptoRow, standIns := [], harness := (true, "6c8fc4cad2ff73f3ba0604ea856c87b8b2d0cf3534efc367885bf23e4eefe3e0"), looks := true }, kinds := [], alts := [], laidByText := true, laidKinds := [.data, .data, .data], laidTests := true, laidLooks := .later }
def TrigHoldsUptoCardSaid : Prop := Claim7.holds Tryd.pinned (.plain (OpenSpec.upto trigHoldsSpec)) trigHoldsUptoCard

/-- THE SECOND FORM's CARD OF 'signalbenchlaw43.TrigRoundTrips'. -/
def trigRoundTripsUptoCard : Claim7 := { stood := { row := trigRoundTripsUptoRow, standIns := [], harness := (true, "6c8fc4cad2ff73f3ba0604ea856c87b8b2d0cf3534efc367885bf23e4eefe3e0"), looks := true }, kinds := [], alts := [], laidByText := true, laidKinds := [.data, .data, .data], laidTests := true, laidLooks := .later }
def TrigRoundTripsUptoCardSaid : Prop := Claim7.holds Tryd.pinned (.plain (OpenSpec.upto trigRoundTripsSpec)) trigRoundTripsUptoCard

/-- THE SECOND FORM's CARD OF 'signalbenchlaw43.TrigTexts'. -/
def trigTextsUptoCard : Claim7 := { stood := { row := trigTextsUptoRow, standIns := [], harness := (true, "6c8fc4cad2ff73f3ba0604ea856c87b8b2d0cf3534efc367885bf23e4eefe3e0"), looks := true }, kinds := [], alts := [], laidByText := true, laidKinds := [.data, .data, .data], laidTests := true, laidLooks := .later }
def TrigTextsUptoCardSaid : Prop := Claim7.holds Tryd.pinned (.plain (OpenSpec.upto trigTextsSpec)) trigTextsUptoCard

/-- THE SECOND FORM's CARD OF 'signalbenchlaw43.TrigCompares'. -/
def trigComparesUptoCard : Claim7 := { stood := { row := trigComparesUptoRow, standIns := [], harness := (true, "6c8fc4cad2ff73f3ba0604ea856c87b8b2d0cf3534efc367885bf23e4eefe3e0"), looks := true }, kinds := [], alts := [], laidByText := true, laidKinds := [.data, .data, .data], laidTests := true, laidLooks := .later }
def TrigComparesUptoCardSaid : Prop := Claim7.holds Tryd.pinned (.plain (OpenSpec.upto trigComparesSpec)) trigComparesUptoCard
end Rows
end Go.Proofs.YtgpgpelaabdkhaaDoor
