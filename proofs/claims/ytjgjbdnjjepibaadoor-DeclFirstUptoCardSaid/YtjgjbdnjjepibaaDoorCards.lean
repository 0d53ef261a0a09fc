/-
  DERIVED. GIVEN WITH THE SEED: THE CARDS: each row of YtjgjbdnjjepibaaDoorRows.lean that lists a variable, with what it lists TIED to the program's text (the seventh form; the later family's looks); each row that meets fmt, with fmt's text TOLD by the authors' own Lean function (tested against real Go, not proved from fmt's source: count such statements apart). THE CARD IS WHAT COUNTS. Prove the row's statement (the work); the ties are given (YtjgjbdnjjepibaaDoorTie.lean); close each card by the builder's one call (the guide's Derived/Test/ToyasCard.lean, 'card_holds'). Laid BY PROGRAM, IN A SANDBOX (cutbox-door.mjs). By AI agents, Wed Nov 11 2026. No macro, syntax, notation, axiom, sorry.
-/
import Derived.Test.YtjgjbdnjjepibaaDoorRows
import GoSem.ClaimSeven
namespace Go.Proofs.YtjgjbdnjjepibaaDoor
namespace Rows

/-- THE TIED CARD OF 'signalbenchlaw34.DeclChecks'. -/
def declChecksCard : Claim7 := { stood := { row := declChecksRow, standIns := [], harness := (true, "a47af626a3efbda69f3bc72fcdc996e36af8cc65b3ac5b42ccf3de2f5e24646a"), looks := false }, kinds := [], alts := [], laidByText := true, laidKinds := [.data, .data, .data], laidTests := true, laidLooks := .later }
def DeclChecksCardSaid : Prop := Claim7.holds Tryd.pinned (.plain (OpenSpec.ofChange declChecksSpec)) declChecksCard

/-- THE TIED CARD OF 'signalbenchlaw34.DeclMatches'. -/
def declMatchesCard : Claim7 := { stood := { row := declMatchesRow, standIns := [], harness := (true, "a47af626a3efbda69f3bc72fcdc996e36af8cc65b3ac5b42ccf3de2f5e24646a"), looks := false }, kinds := [], alts := [], laidByText := true, laidKinds := [.data, .data, .data], laidTests := true, laidLooks := .later }
def DeclMatchesCardSaid : Prop := Claim7.holds Tryd.pinned (.plain (OpenSpec.ofChange declMatchesSpec)) declMatchesCard

/-- THE TIED CARD OF 'signalbenchlaw34.DeclRoundTrips'. -/
def declRoundTripsCard : Claim7 := { stood := { row := declRoundTripsRow, standIns := [], harness := (true, "a47af626a3efbda69f3bc72fcdc996e36af8cc65b3ac5b42ccf3de2f5e24646a"), looks := false }, kinds := [], alts := [], laidByText := true, laidKinds := [.data, .data, .data], laidTests := true, laidLooks := .later }
def DeclRoundTripsCardSaid : Prop := Claim7.holds Tryd.pinned (.plain (OpenSpec.ofChange declRoundTripsSpec)) declRoundTripsCard

/-- THE TIED CARD OF 'signalbenchlaw34.DeclTexts'. -/
def declTextsCard : Claim7 := { stood := { row := declTextsRow, standIns := [], harness := (true, "a47af626a3efbda69f3bc72fcdc996e36af8cc65b3ac5b42ccf3de2f5e24646a"), looks := false }, kinds := [], alts := [], laidByText := true, laidKinds := [.data, .data, .data], laidTests := true, laidLooks := .later }
def DeclTextsCardSaid : Prop := Claim7.holds Tryd.pinned (.plain (OpenSpec.ofChange declTextsSpec)) declTextsCard

/-- THE TIED CARD OF 'signalbenchlaw34.DeclFirst'. -/
def declFirstCard : Claim7 := { stood := { row := declFirstRow, standIns := [], harness := (true, "a47af626a3efbda69f3bc72fcdc996e36af8cc65b3ac5b42ccf3de2f5e24646a"), looks := false }, kinds := [], alts := [], laidByText := true, laidKinds := [.data, .data, .data], laidTests := true, laidLooks := .later }
def DeclFirstCardSaid : Prop := Claim7.holds Tryd.pinned (.plain (OpenSpec.ofChange declFirstSpec)) declFirstCard

/-- THE SECOND FORM's CARD OF 'signalbenchlaw34.DeclChecks'. -/
def declChecksUptoCard : Claim7 := { stood := { row := declChecksUptoRow, standIns := [], harness := (true, "a47af626a3efbda69f3bc72fcdc996e36af8cc65b3ac5b42ccf3de2f5e24646a"), looks := false }, kinds := [], alts := [], laidByText := true, laidKinds := [.data, .data, .data], laidTests := true, laidLooks := .later }
def DeclChecksUptoCardSaid : Prop := Claim7.holds Tryd.pinned (.plain (OpenSpec.upto declChecksSpec)) declChecksUptoCard

/-- THE SECOND FORM's CARD OF 'signalbenchlaw34.DeclMatches'. -/
def declMatchesUptoCard : Claim7 := { stood := { row := declMatchesUptoRow, standIns := [], harness := (true, "a47af626a3efbda69f3bc72fcdc996e36af8cc65b3ac5b42ccf3de2f5e24646a"), looks := false }, kinds := [], alts := [], laidByText := true, laidKinds := [.data, .data, .data], laidTests := true, laidLooks := .later }
def DeclMatchesUptoCardSaid : Prop := Claim7.holds Tryd.pinned (.plain (OpenSpec.upto declMatchesSpec)) declMatchesUptoCard

/-- THE SECOND FORM's CARD OF 'signalbenchlaw34.DeclRoundTrips'. -/
def declRoundTripsUptoCard : Claim7 := { stood := { row := declRoundTripsUptoRow, standIns := [], harness := (true, "a47af626a3efbda69f3bc72fcdc996e36af8cc65b3ac5b42ccf3de2f5e24646a"), looks := false }, kinds := [], alts := [], laidByText := true, laidKinds := [.data, .data, .data], laidTests := true, laidLooks := .later }
def DeclRoundTripsUptoCardSaid : Prop := Claim7.holds Tryd.pinned (.plain (OpenSpec.upto declRoundTripsSpec)) declRoundTripsUptoCard

/-- THE SECOND FORM's CARD OF 'signalbenchlaw34.DeclTexts'. -/
def declTextsUptoCard : Claim7 := { stood := { row := declTextsUptoRow, standIns := [], harness := (true, "a47af626a3efbda69f3bc72fcdc996e36af8cc65b3ac5b42ccf3de2f5e24646a"), looks := false }, kinds := [], alts := [], laidByText := true, laidKinds := [.data, .data, .data], laidTests := true, laidLooks := .later }
def DeclTextsUptoCardSaid : Prop := Claim7.holds Tryd.pinned (.plain (OpenSpec.upto declTextsSpec)) declTextsUptoCard

/-- THE SECOND FORM's CARD OF 'signalbenchlaw34.DeclFirst'. -/
def declFirstUptoCard : Claim7 := { stood := { row := declFirstUptoRow, standIns := [], harness := (true, "a47af626a3efbda69f3bc72fcdc996e36af8cc65b3ac5b42ccf3de2f5e24646a"), looks := false }, kinds := [], alts := [], laidByText := true, laidKinds := [.data, .data, .data], laidTests := true, laidLooks := .later }
def DeclFirstUptoCardSaid : Prop := Claim7.holds Tryd.pinned (.plain (OpenSpec.upto declFirstSpec)) declFirstUptoCard
end Rows
end Go.Proofs.YtjgjbdnjjepibaaDoor
