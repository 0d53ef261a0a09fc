/-
  DERIVED. GIVEN WITH THE SEED: THE CARDS: each row of YtejehchbflmofaaDoorRows.lean that lists a variable, with what it lists TIED to the program's text (the seventh form; the later family's looks); each row that meets fmt, with fmt's text TOLD by the authors' own Lean function (tested against real Go, not proved from fmt's source: count such statements apart). THE CARD IS WHAT COUNTS. Prove the row's statement (the work); the ties are given (YtejehchbflmofaaDoorTie.lean); close each card by the builder's one call (the guide's Derived/Test/ToyasCard.lean, 'card_holds'). Laid BY PROGRAM, IN A SANDBOX (cutbox-door.mjs). By AI agents, Wed Nov 11 2026. No macro, syntax, notation, axiom, sorry.
-/
import Derived.Test.YtejehchbflmofaaDoorRows
import GoSem.ClaimSeven
namespace Go.Proofs.YtejehchbflmofaaDoor
namespace Rows

/-- THE TIED CARD OF 'signalbenchlaw49.LimitChecks'. -/
def limitChecksCard : Claim7 := { stood := { row := limitChecksRow, standIns := [], harness := (true, "e9d8f6dfbb4b837c1371ab947eb15eea7a5e0ea264b98f891b204dbdc2e52493"), looks := false }, kinds := [], alts := [], laidByText := true, laidKinds := [.data, .data, .data], laidTests := true, laidLooks := .later }
def LimitChecksCardSaid : Prop := Claim7.holds Tryd.pinned (.plain (OpenSpec.ofChange limitChecksSpec)) limitChecksCard

/-- THE TIED CARD OF 'signalbenchlaw49.LimitRoundTrips'. -/
def limitRoundTripsCard : Claim7 := { stood := { row := limitRoundTripsRow, standIns := [], harness := (true, "e9d8f6dfbb4b837c1371ab947eb15eea7a5e0ea264b98f891b204dbdc2e52493"), looks := false }, kinds := [], alts := [], laidByText := true, laidKinds := [.data, .data, .data], laidTests := true, laidLooks := .later }
def LimitRoundTripsCardSaid : Prop := Claim7.holds Tryd.pinned (.plain (OpenSpec.ofChange limitRoundTripsSpec)) limitRoundTripsCard

/-- THE TIED CARD OF 'signalbenchlaw49.LimitViolations'. -/
def limitViolationsCard : Claim7 := { stood := { row := limitViolationsRow, standIns := [], harness := (true, "e9d8f6dfbb4b837c1371ab947eb15eea7a5e0ea264b98f891b204dbdc2e52493"), looks := false }, kinds := [], alts := [], laidByText := true, laidKinds := [.data, .data, .data], laidTests := true, laidLooks := .later }
def LimitViolationsCardSaid : Prop := Claim7.holds Tryd.pinned (.plain (OpenSpec.ofChange limitViolationsSpec)) limitViolationsCard

/-- THE SECOND FORM's CARD OF 'signalbenchlaw49.LimitChecks'. -/
def limitChecksUptoCard : Claim7 := { stood := { row := limitChecksUptoRow, standIns := [], harness := (true, "e9d8f6dfbb4b837c1371ab947eb15eea7a5e0ea264b98f891b204dbdc2e52493"), looks := false }, kinds := [], alts := [], laidByText := true, laidKinds := [.data, .data, .data], laidTests := true, laidLooks := .later }
def LimitChecksUptoCardSaid : Prop := Claim7.holds Tryd.pinned (.plain (OpenSpec.upto limitChecksSpec)) limitChecksUptoCard

/-- THE SECOND FORM's CARD OF 'signalbenchlaw49.LimitRoundTrips'. -/
def limitRoundTripsUptoCard : Claim7 := { stood := { row := limitRoundTripsUptoRow, standIns := [], harness := (true, "e9d8f6dfbb4b837c1371ab947eb15eea7a5e0ea264b98f891b204dbdc2e52493"), looks := false }, kinds := [], alts := [], laidByText := true, laidKinds := [.data, .data, .data], laidTests := true, laidLooks := .later }
def LimitRoundTripsUptoCardSaid : Prop := Claim7.holds Tryd.pinned (.plain (OpenSpec.upto limitRoundTripsSpec)) limitRoundTripsUptoCard

/-- THE SECOND FORM's CARD OF 'signalbenchlaw49.LimitViolations'. -/
def limitViolationsUptoCard : Claim7 := { stood := { row := limitViolationsUptoRow, standIns := [], harness := (true, "e9d8f6dfbb4b837c1371ab947eb15eea7a5e0ea264b98f891b204dbdc2e52493"), looks := false }, kinds := [], alts := [], laidByText := true, laidKinds := [.data, .data, .data], laidTests := true, laidLooks := .later }
def LimitViolationsUptoCardSaid : Prop := Claim7.holds Tryd.pinned (.plain (OpenSpec.upto limitViolationsSpec)) limitViolationsUptoCard
end Rows
end Go.Proofs.YtejehchbflmofaaDoor
