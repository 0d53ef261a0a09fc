/-
  DERIVED. GIVEN WITH THE SEED: THE CARDS: each row of YtcflnhimlidbcaaDoorRows.lean that lists a variable, with what it lists TIED to the program's text (the seventh form; the later family's looks); each row that meets fmt, with fmt's text TOLD by the authors' own Lean function (tested against real Go, not proved from fmt's source: count such statements apart). THE CARD IS WHAT COUNTS. Prove the row's statement (the work); the ties are given (YtcflnhimlidbcaaDoorTie.lean); close each card by the builder's one call (the guide's Derived/Test/ToyasCard.lean, 'card_holds'). Laid BY PROGRAM, IN A SANDBOX (cutbox-door.mjs). By AI agents, Wed Nov 11 2026. No macro, syntax, notation, axiom, sorry.
-/
import Derived.Test.YtcflnhimlidbcaaDoorRows
import GoSem.ClaimSeven
namespace Go.Proofs.YtcflnhimlidbcaaDoor
namespace Rows

/-- THE TIED CARD OF 'signalbenchlaw05.LexRoundTrips'. -/
def lexRoundTripsCard : Claim7 := { stood := { row := lexRoundTripsRow, standIns := [], harness := (true, "6b476b6250ee1b6e8e64a82a5897d8782a0c5021a8bd5271afae21712da9dac0"), looks := false }, kinds := [], alts := [], laidByText := true, laidKinds := [.data, .data, .data], laidTests := true, laidLooks := .later }
def LexRoundTripsCardSaid : Prop := Claim7.holds Tryd.pinned (.plain (OpenSpec.ofChange lexRoundTripsSpec)) lexRoundTripsCard

/-- THE TIED CARD OF 'signalbenchlaw05.LexTexts'. -/
def lexTextsCard : Claim7 := { stood := { row := lexTextsRow, standIns := [], harness := (true, "6b476b6250ee1b6e8e64a82a5897d8782a0c5021a8bd5271afae21712da9dac0"), looks := false }, kinds := [], alts := [], laidByText := true, laidKinds := [.data, .data, .data], laidTests := true, laidLooks := .later }
def LexTextsCardSaid : Prop := Claim7.holds Tryd.pinned (.plain (OpenSpec.ofChange lexTextsSpec)) lexTextsCard

/-- THE SECOND FORM's CARD OF 'signalbenchlaw05.LexRoundTrips'. -/
def lexRoundTripsUptoCard : Claim7 := { stood := { row := lexRoundTripsUptoRow, standIns := [], harness := (true, "6b476b6250ee1b6e8e64a82a5897d8782a0c5021a8bd5271afae21712da9dac0"), looks := false }, kinds := [], alts := [], laidByText := true, laidKinds := [.data, .data, .data], laidTests := true, laidLooks := .later }
def LexRoundTripsUptoCardSaid : Prop := Claim7.holds Tryd.pinned (.plain (OpenSpec.upto lexRoundTripsSpec)) lexRoundTripsUptoCard

/-- THE SECOND FORM's CARD OF 'signalbenchlaw05.LexTexts'. -/
def lexTextsUptoCard : Claim7 := { stood := { row := lexTextsUptoRow, standIns := [], harness := (true, "6b476b6250ee1b6e8e64a82a5897d8782a0c5021a8bd5271afae21712da9dac0"), looks := false }, kinds := [], alts := [], laidByText := true, laidKinds := [.data, .data, .data], laidTests := true, laidLooks := .later }
def LexTextsUptoCardSaid : Prop := Claim7.holds Tryd.pinned (.plain (OpenSpec.upto lexTextsSpec)) lexTextsUptoCard
end Rows
end Go.Proofs.YtcflnhimlidbcaaDoor
