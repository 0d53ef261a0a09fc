/-
  DERIVED. GIVEN WITH THE SEED: THE CARDS: each row of YtjlagiolgpjglaaDoorRows.lean that lists a variable, with what it lists TIED to the program's text (the seventh form; the later family's looks); each row that meets fmt, with fmt's text TOLD by the authors' own Lean function (tested against real Go, not proved from fmt's source: count such statements apart). THE CARD IS WHAT COUNTS. Prove the row's statement (the work); the ties are given (YtjlagiolgpjglaaDoorTie.lean); close each card by the builder's one call (the guide's Derived/Test/ToyasCard.lean, 'card_holds'). Laid BY PROGRAM, IN A SANDBOX (cutbox-door.mjs). By AI agents, Wed Nov 11 2026. No macro, syntax, notation, axiom, sorry.
-/
import Derived.Test.YtjlagiolgpjglaaDoorRows
import GoSem.ClaimSeven
namespace Go.Proofs.YtjlagiolgpjglaaDoor
namespace Rows

/-- THE TIED CARD OF 'signalbenchlaw38.KindsValues'. -/
def kindsValuesCard : Claim7 := { stood := { row := kindsValuesRow, standIns := [], harness := (true, "5ac1a7f51fc82c00a8b74236078e00f66900252cc29977056bf1a12e1346a58c"), looks := true }, kinds := [], alts := [], laidByText := true, laidKinds := [.data, .data, .data, .data, .sentinel, .sentinel, .listed, .data, .pinned], laidTests := true, laidLooks := .later }
def KindsValuesCardSaid : Prop := Claim7.holds Tryd.pinned (.plain (OpenSpec.ofChange kindsValuesSpec)) kindsValuesCard

/-- THE TIED CARD OF 'signalbenchlaw38.KindsChecks'. -/
def kindsChecksCard : Claim7 := { stood := { row := kindsChecksRow, standIns := [], harness := (true, "5ac1a7f51fc82c00a8b74236078e00f66900252cc29977056bf1a12e1346a58c"), looks := true }, kinds := [], alts := [], laidByText := true, laidKinds := [.data, .data, .data, .data, .sentinel, .sentinel, .listed, .data, .pinned], laidTests := true, laidLooks := .later }
def KindsChecksCardSaid : Prop := Claim7.holds Tryd.pinned (.plain (OpenSpec.ofChange kindsChecksSpec)) kindsChecksCard

/-- THE TIED CARD OF 'signalbenchlaw38.KindsInside'. -/
def kindsInsideCard : Claim7 := { stood := { row := kindsInsideRow, standIns := [], harness := (true, "5ac1a7f51fc82c00a8b74236078e00f66900252cc29977056bf1a12e1346a58c"), looks := true }, kinds := [], alts := [], laidByText := true, laidKinds := [.data, .data, .data, .data, .sentinel, .sentinel, .listed, .data, .pinned], laidTests := true, laidLooks := .later }
def KindsInsideCardSaid : Prop := Claim7.holds Tryd.pinned (.plain (OpenSpec.ofChange kindsInsideSpec)) kindsInsideCard

/-- THE TIED CARD OF 'signalbenchlaw38.KindsOrder'. -/
def kindsOrderCard : Claim7 := { stood := { row := kindsOrderRow, standIns := [], harness := (true, "5ac1a7f51fc82c00a8b74236078e00f66900252cc29977056bf1a12e1346a58c"), looks := true }, kinds := [], alts := [], laidByText := true, laidKinds := [.data, .data, .data, .data, .sentinel, .sentinel, .listed, .data, .pinned], laidTests := true, laidLooks := .later }
def KindsOrderCardSaid : Prop := Claim7.holds Tryd.pinned (.plain (OpenSpec.ofChange kindsOrderSpec)) kindsOrderCard

/-- THE TIED CARD OF 'signalbenchlaw38.KindsTables'. -/
def kindsTablesCard : Claim7 := { stood := { row := kindsTablesRow, standIns := [], harness := (true, "5ac1a7f51fc82c00a8b74236078e00f66900252cc29977056bf1a12e1346a58c"), looks := true }, kinds := [], alts := [], laidByText := true, laidKinds := [.data, .data, .data, .data, .sentinel, .sentinel, .listed, .data, .pinned], laidTests := true, laidLooks := .later }
def KindsTablesCardSaid : Prop := Claim7.holds Tryd.pinned (.plain (OpenSpec.ofChange kindsTablesSpec)) kindsTablesCard

/-- THE TIED CARD OF 'signalbenchlaw38.KindsPorts'. -/
def kindsPortsCard : Claim7 := { stood := { row := kindsPortsRow, standIns := [], harness := (true, "5ac1a7f51fc82c00a8b74236078e00f66900252cc29977056bf1a12e1346a58c"), looks := true }, kinds := [], alts := [], laidByText := true, laidKinds := [.data, .data, .data, .data, .sentinel, .sentinel, .listed, .data, .pinned], laidTests := true, laidLooks := .later }
def KindsPortsCardSaid : Prop := Claim7.holds Tryd.pinned (.plain (OpenSpec.ofChange kindsPortsSpec)) kindsPortsCard

/-- THE SECOND FORM's CARD OF 'signalbenchlaw38.KindsValues'. -/
def kindsValuesUptoCard : Claim7 := { stood := { row := kindsValuesUptoRow, standIns := [], harness := (true, "5ac1a7f51fc82c00a8b74236078e00f66900252cc29977056bf1a12e1346a58c"), looks := true }, kinds := [], alts := [], laidByText := true, laidKinds := [.data, .data, .data, .data, .sentinel, .sentinel, .listed, .data, .pinned], laidTests := true, laidLooks := .later }
def KindsValuesUptoCardSaid : Prop := Claim7.holds Tryd.pinned (.plain (OpenSpec.upto kindsValuesSpec)) kindsValuesUptoCard

/-- THE SECOND FORM's CARD OF 'signalbenchlaw38.KindsChecks'. -/
def kindsChecksUptoCard : Claim7 := { stood := { row := kindsChecksUptoRow, standIns := [], harness := (true, "5ac1a7f51fc82c00a8b74236078e00f66900252cc29977056bf1a12e1346a58c"), looks := true }, kinds := [], alts := [], laidByText := true, laidKinds := [.data, .data, .data, .data, .sentinel, .sentinel, .listed, .data, .pinned], laidTests := true, laidLooks := .later }
def KindsChecksUptoCardSaid : Prop := Claim7.holds Tryd.pinned (.plain (OpenSpec.upto kindsChecksSpec)) kindsChecksUptoCard

/-- THE SECOND FORM's CARD OF 'signalbenchlaw38.KindsInside'. -/
def kindsInsideUptoCard : Claim7 := { stood := { row := kindsInsideUptoRow, standIns := [], harness := (true, "5ac1a7f51fc82c00a8b74236078e00f66900252cc29977056bf1a12e1346a58c"), looks := true }, kinds := [], alts := [], laidByText := true, laidKinds := [.data, .data, .data, .data, .sentinel, .sentinel, .listed, .data, .pinned], laidTests := true, laidLooks := .later }
def KindsInsideUptoCardSaid : Prop := Claim7.holds Tryd.pinned (.plain (OpenSpec.upto kindsInsideSpec)) kindsInsideUptoCard

/-- THE SECOND FORM's CARD OF 'signalbenchlaw38.KindsOrder'. -/
def kindsOrderUptoCard : Claim7 := { stood := { row := kindsOrderUptoRow, standIns := [], harness := (true, "5ac1a7f51fc82c00a8b74236078e00f66900252cc29977056bf1a12e1346a58c"), looks := true }, kinds := [], alts := [], laidByText := true, laidKinds := [.data, .data, .data, .data, .sentinel, .sentinel, .listed, .data, .pinned], laidTests := true, laidLooks := .later }
def KindsOrderUptoCardSaid : Prop := Claim7.holds Tryd.pinned (.plain (OpenSpec.upto kindsOrderSpec)) kindsOrderUptoCard

/-- THE SECOND FORM's CARD OF 'signalbenchlaw38.KindsTables'. -/
def kindsTablesUptoCard : Claim7 := { stood := { row := kindsTablesUptoRow, standIns := [], harness := (true, "5ac1a7f51fc82c00a8b74236078e00f66900252cc29977056bf1a12e1346a58c"), looks := true }, kinds := [], alts := [], laidByText := true, laidKinds := [.data, .data, .data, .data, .sentinel, .sentinel, .listed, .data, .pinned], laidTests := true, laidLooks := .later }
def KindsTablesUptoCardSaid : Prop := Claim7.holds Tryd.pinned (.plain (OpenSpec.upto kindsTablesSpec)) kindsTablesUptoCard

/-- THE SECOND FORM's CARD OF 'signalbenchlaw38.KindsPorts'. -/
def kindsPortsUptoCard : Claim7 := { stood := { row := kindsPortsUptoRow, standIns := [], harness := (true, "5ac1a7f51fc82c00a8b74236078e00f66900252cc29977056bf1a12e1346a58c"), looks := true }, kinds := [], alts := [], laidByText := true, laidKinds := [.data, .data, .data, .data, .sentinel, .sentinel, .listed, .data, .pinned], laidTests := true, laidLooks := .later }
def KindsPortsUptoCardSaid : Prop := Claim7.holds Tryd.pinned (.plain (OpenSpec.upto kindsPortsSpec)) kindsPortsUptoCard
end Rows
end Go.Proofs.YtjlagiolgpjglaaDoor
