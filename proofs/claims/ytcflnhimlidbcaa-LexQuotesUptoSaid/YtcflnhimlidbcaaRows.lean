/-
  No cell of these rows narrows 'for every input' (looked for: loops, veiled, ifaces, maps, wideKeys, modest, calm, conditions, laid).
  DERIVED. THE GIVEN ROWS OF THIS SEAT. 5 by the template 'for every input the law returns true; each argument reads behind the call as it read before'; 0 by the template 'total and deterministic' (their statements: YtcflnhimlidbcaaTotals.lean).
  GIVEN WITH THE SEED: the statements are not yours to turn. If you find one false, say at which input.
  Laid BY PROGRAM, IN A SANDBOX (cutbox-rows.mjs): the forced cells as the released guide's own fill.sh prints them over the translation 474759af88a53891… (all of the seat's roots in one cut). By AI agents, Wed Nov 11 2026. No macro, syntax, notation, axiom, sorry.
-/
import Derived.Test.YtcflnhimlidbcaaChecked
import GoSem.Claim
import GoSem.ClaimJoined
import GoSem.ClaimMapViews
import Derived.JoinedTies
import Derived.KernelRfl
namespace Go.Proofs.Ytcflnhimlidbcaa
/- THE CELL 'sum', in the pinned program and in every row, IS THE sha256 OF THE DUMP (.gsa) THAT YtcflnhimlidbcaaProg.lean LOADS. Nothing in Lean hashes anything: it is a label: what it is worth is what the hold of that sum in a sandbox is worth. -/
noncomputable def Try.pinned : Pinned := { name := "ytcflnhimlidbcaa", sum := "474759af88a53891dac37fdc596273c02b40abf2b0c008f81b483504f7c29775", checked := Try.checked }
namespace Rows
def none {H : Type} : Left H := { results := [], args := [] }

/-- 'signalbenchlaw05.LexTokens': WHATEVER THE INPUT: true; the input reads as it did. -/
def lexTokensSpec : ChangeSpec := { name := "lexTokens", fn := fun _ => fun
  | [d] => { results := [.lit (.bool true)], args := [d] }
  | _ => none }
def lexTokensRow : OpenClaim := { program := "ytcflnhimlidbcaa", sum := "474759af88a53891dac37fdc596273c02b40abf2b0c008f81b483504f7c29775", func := "signalbench/signalbenchlaw05.LexTokens", spec := "lexTokens", inPlace := ["internal/bytealg.IndexByteString"], apart := false }
def LexTokensSaid : Prop := lexTokensRow.holds Try.pinned (OpenSpec.ofChange lexTokensSpec)

/-- ITS FALSE NEIGHBOUR: 'it returns false'. Refute it at one input. -/
def lexTokensWrong : ChangeSpec := { name := "lexTokens", fn := fun _ => fun
  | [d] => { results := [.lit (.bool false)], args := [d] }
  | _ => none }
def LexTokensWrongFalsely : Prop := lexTokensRow.holds Try.pinned (OpenSpec.ofChange lexTokensWrong)

/-- 'signalbenchlaw05.LexNumbers': WHATEVER THE INPUT: true; the input reads as it did. -/
def lexNumbersSpec : ChangeSpec := { name := "lexNumbers", fn := fun _ => fun
  | [d] => { results := [.lit (.bool true)], args := [d] }
  | _ => none }
def lexNumbersRow : OpenClaim := { program := "ytcflnhimlidbcaa", sum := "474759af88a53891dac37fdc596273c02b40abf2b0c008f81b483504f7c29775", func := "signalbench/signalbenchlaw05.LexNumbers", spec := "lexNumbers", inPlace := ["internal/bytealg.IndexByteString"], apart := false }
def LexNumbersSaid : Prop := lexNumbersRow.holds Try.pinned (OpenSpec.ofChange lexNumbersSpec)

/-- ITS FALSE NEIGHBOUR: 'it returns false'. Refute it at one input. -/
def lexNumbersWrong : ChangeSpec := { name := "lexNumbers", fn := fun _ => fun
  | [d] => { results := [.lit (.bool false)], args := [d] }
  | _ => none }
def LexNumbersWrongFalsely : Prop := lexNumbersRow.holds Try.pinned (OpenSpec.ofChange lexNumbersWrong)

/-- 'signalbenchlaw05.LexUnquotes': WHATEVER THE INPUT: true; the input reads as it did. -/
def lexUnquotesSpec : ChangeSpec := { name := "lexUnquotes", fn := fun _ => fun
  | [d] => { results := [.lit (.bool true)], args := [d] }
  | _ => none }
def lexUnquotesRow : OpenClaim := { program := "ytcflnhimlidbcaa", sum := "474759af88a53891dac37fdc596273c02b40abf2b0c008f81b483504f7c29775", func := "signalbench/signalbenchlaw05.LexUnquotes", spec := "lexUnquotes", inPlace := ["internal/bytealg.IndexByteString"], apart := false }
def LexUnquotesSaid : Prop := lexUnquotesRow.holds Try.pinned (OpenSpec.ofChange lexUnquotesSpec)

/-- ITS FALSE NEIGHBOUR: 'it returns false'. Refute it at one input. -/
def lexUnquotesWrong : ChangeSpec := { name := "lexUnquotes", fn := fun _ => fun
  | [d] => { results := [.lit (.bool false)], args := [d] }
  | _ => none }
def LexUnquotesWrongFalsely : Prop := lexUnquotesRow.holds Try.pinned (OpenSpec.ofChange lexUnquotesWrong)

/-- 'signalbenchlaw05.LexSkips': WHATEVER THE INPUT: true; the input reads as it did. -/
def lexSkipsSpec : ChangeSpec := { name := "lexSkips", fn := fun _ => fun
  | [d1, d2] => { results := [.lit (.bool true)], args := [d1, d2] }
  | _ => none }
def lexSkipsRow : OpenClaim := { program := "ytcflnhimlidbcaa", sum := "474759af88a53891dac37fdc596273c02b40abf2b0c008f81b483504f7c29775", func := "signalbench/signalbenchlaw05.LexSkips", spec := "lexSkips", inPlace := ["internal/bytealg.IndexByteString"], apart := false }
def LexSkipsSaid : Prop := lexSkipsRow.holds Try.pinned (OpenSpec.ofChange lexSkipsSpec)

/-- ITS FALSE NEIGHBOUR: 'it returns false'. Refute it at one input. -/
def lexSkipsWrong : ChangeSpec := { name := "lexSkips", fn := fun _ => fun
  | [d1, d2] => { results := [.lit (.bool false)], args := [d1, d2] }
  | _ => none }
def LexSkipsWrongFalsely : Prop := lexSkipsRow.holds Try.pinned (OpenSpec.ofChange lexSkipsWrong)

/-- 'signalbenchlaw05.LexQuotes': WHATEVER THE INPUT: true; the input reads as it did. -/
def lexQuotesSpec : ChangeSpec := { name := "lexQuotes", fn := fun _ => fun
  | [d] => { results := [.lit (.bool true)], args := [d] }
  | _ => none }
def lexQuotesRow : OpenClaim := { program := "ytcflnhimlidbcaa", sum := "474759af88a53891dac37fdc596273c02b40abf2b0c008f81b483504f7c29775", func := "signalbench/signalbenchlaw05.LexQuotes", spec := "lexQuotes", inPlace := ["internal/abi.NoEscape", "internal/bytealg.IndexByteString"], apart := false }
def LexQuotesSaid : Prop := lexQuotesRow.holds Try.pinned (OpenSpec.ofChange lexQuotesSpec)

/-- ITS FALSE NEIGHBOUR: 'it returns false'. Refute it at one input. -/
def lexQuotesWrong : ChangeSpec := { name := "lexQuotes", fn := fun _ => fun
  | [d] => { results := [.lit (.bool false)], args := [d] }
  | _ => none }
def LexQuotesWrongFalsely : Prop := lexQuotesRow.holds Try.pinned (OpenSpec.ofChange lexQuotesWrong)

/- THE SECOND FORM. 'bulk': how many values and letters a reading holds, each counted each time it is reached (what is shared counts as often as it is met; a slice's spare places count too). A statement '..UptoSaid' is the law's where the arguments, and the package variables that the reading takes, are together of bulk at most 1048576: NARROWER than '..Said'. Prove '..Said' where nothing that the law and all that it calls make is longer than what came in: it says more and counts as full. Else prove '..UptoSaid'. A law counts once. -/
mutual
def uptoBulk {H : Type} : DataW H → Nat
  | .lit (.string bytes) => bytes.length + 1
  | .lit _ => 1
  | .nil => 1
  | .ptr d => uptoBulk d + 1
  | .slice elems spare => uptoBulkAll elems + uptoBulkAll spare + 1
  | .agg parts => uptoBulkAll parts + 1
  | .iface _ d => uptoBulk d + 1
  | .map entries => uptoBulkEntries entries + 1
  | .held _ => 1
def uptoBulkAll {H : Type} : List (DataW H) → Nat
  | [] => 0
  | d :: r => uptoBulk d + uptoBulkAll r
def uptoBulkEntries {H : Type} : List (Lit × DataW H) → Nat
  | [] => 0
  | x :: r => uptoBulkEntry x + uptoBulkEntries r
def uptoBulkEntry {H : Type} : Lit × DataW H → Nat
  | (.string bytes, d) => bytes.length + uptoBulk d + 1
  | (_, d) => uptoBulk d + 1
 end
def uptoSmall : (H : Type) → List (DataW H) → Bool := fun _ ds => decide (uptoBulkAll ds ≤ 1048576)
def OpenSpec.upto (s : _root_.Go.ChangeSpec) : _root_.Go.OpenSpec := { _root_.Go.OpenSpec.ofChange s with cond := some uptoSmall }

/-- 'signalbenchlaw05.LexTokens', WHERE WHAT IT READS IS OF BULK AT MOST 1048576: true; the input reads as it did. -/
def lexTokensUptoRow : OpenClaim := { program := "ytcflnhimlidbcaa", sum := "474759af88a53891dac37fdc596273c02b40abf2b0c008f81b483504f7c29775", func := "signalbench/signalbenchlaw05.LexTokens", spec := "lexTokens", inPlace := ["internal/bytealg.IndexByteString"], apart := false, narrowed := true }
def LexTokensUptoSaid : Prop := lexTokensUptoRow.holds Try.pinned (OpenSpec.upto lexTokensSpec)

/-- 'signalbenchlaw05.LexNumbers', WHERE WHAT IT READS IS OF BULK AT MOST 1048576: true; the input reads as it did. -/
def lexNumbersUptoRow : OpenClaim := { program := "ytcflnhimlidbcaa", sum := "474759af88a53891dac37fdc596273c02b40abf2b0c008f81b483504f7c29775", func := "signalbench/signalbenchlaw05.LexNumbers", spec := "lexNumbers", inPlace := ["internal/bytealg.IndexByteString"], apart := false, narrowed := true }
def LexNumbersUptoSaid : Prop := lexNumbersUptoRow.holds Try.pinned (OpenSpec.upto lexNumbersSpec)

/-- 'signalbenchlaw05.LexUnquotes', WHERE WHAT IT READS IS OF BULK AT MOST 1048576: true; the input reads as it did. -/
def lexUnquotesUptoRow : OpenClaim := { program := "ytcflnhimlidbcaa", sum := "474759af88a53891dac37fdc596273c02b40abf2b0c008f81b483504f7c29775", func := "signalbench/signalbenchlaw05.LexUnquotes", spec := "lexUnquotes", inPlace := ["internal/bytealg.IndexByteString"], apart := false, narrowed := true }
def LexUnquotesUptoSaid : Prop := lexUnquotesUptoRow.holds Try.pinned (OpenSpec.upto lexUnquotesSpec)

/-- 'signalbenchlaw05.LexSkips', WHERE WHAT IT READS IS OF BULK AT MOST 1048576: true; the input reads as it did. -/
def lexSkipsUptoRow : OpenClaim := { program := "ytcflnhimlidbcaa", sum := "474759af88a53891dac37fdc596273c02b40abf2b0c008f81b483504f7c29775", func := "signalbench/signalbenchlaw05.LexSkips", spec := "lexSkips", inPlace := ["internal/bytealg.IndexByteString"], apart := false, narrowed := true }
def LexSkipsUptoSaid : Prop := lexSkipsUptoRow.holds Try.pinned (OpenSpec.upto lexSkipsSpec)

/-- 'signalbenchlaw05.LexQuotes', WHERE WHAT IT READS IS OF BULK AT MOST 1048576: true; the input reads as it did. -/
def lexQuotesUptoRow : OpenClaim := { program := "ytcflnhimlidbcaa", sum := "474759af88a53891dac37fdc596273c02b40abf2b0c008f81b483504f7c29775", func := "signalbench/signalbenchlaw05.LexQuotes", spec := "lexQuotes", inPlace := ["internal/abi.NoEscape", "internal/bytealg.IndexByteString"], apart := false, narrowed := true }
def LexQuotesUptoSaid : Prop := lexQuotesUptoRow.holds Try.pinned (OpenSpec.upto lexQuotesSpec)

end Rows
end Go.Proofs.Ytcflnhimlidbcaa
