/-
  No cell of these rows narrows 'for every input' (looked for: loops, veiled, ifaces, maps, wideKeys, modest, calm, conditions, laid).
  DERIVED. THE GIVEN ROWS OF THIS SEAT. 12 by the template 'for every input the law returns true; each argument reads behind the call as it read before'; 0 by the template 'total and deterministic' (their statements: YtgjimkgehbppbaaTotals.lean).
  GIVEN WITH THE SEED: the statements are not yours to turn. If you find one false, say at which input.
  Laid BY PROGRAM, IN A SANDBOX (cutbox-rows.mjs): the forced cells as the released guide's own fill.sh prints them over the translation 2e7716b4c3a0c309… (all of the seat's roots in one cut). By AI agents, Wed Nov 11 2026. No macro, syntax, notation, axiom, sorry.
-/
import Derived.Test.YtgjimkgehbppbaaChecked
import GoSem.Claim
import GoSem.ClaimJoined
import GoSem.ClaimMapViews
import Derived.JoinedTies
import Derived.KernelRfl
namespace Go.Proofs.Ytgjimkgehbppbaa
/- THE CELL 'sum', in the pinned program and in every row, IS THE sha256 OF THE DUMP (.gsa) THAT YtgjimkgehbppbaaProg.lean LOADS. Nothing in Lean hashes anything: it is a label: what it is worth is what the hold of that sum in a sandbox is worth. -/
noncomputable def Try.pinned : Pinned := { name := "ytgjimkgehbppbaa", sum := "2e7716b4c3a0c30928b66097a55ad894a6db74833708ae392fb1572d67394f7e", checked := Try.checked }
namespace Rows
def none {H : Type} : Left H := { results := [], args := [] }

/-- 'signalbenchlaw35.DeclcheckFinds': WHATEVER THE INPUT: true; the input reads as it did. -/
def declcheckFindsSpec : ChangeSpec := { name := "declcheckFinds", fn := fun _ => fun
  | [d] => { results := [.lit (.bool true)], args := [d] }
  | _ => none }
def declcheckFindsRow : OpenClaim := { program := "ytgjimkgehbppbaa", sum := "2e7716b4c3a0c30928b66097a55ad894a6db74833708ae392fb1572d67394f7e", func := "signalbench/signalbenchlaw35.DeclcheckFinds", spec := "declcheckFinds", unfollowed := true, recurses := true, apart := false }
def DeclcheckFindsSaid : Prop := declcheckFindsRow.holds Try.pinned (OpenSpec.ofChange declcheckFindsSpec)

/-- ITS FALSE NEIGHBOUR: 'it returns false'. Refute it at one input. -/
def declcheckFindsWrong : ChangeSpec := { name := "declcheckFinds", fn := fun _ => fun
  | [d] => { results := [.lit (.bool false)], args := [d] }
  | _ => none }
def DeclcheckFindsWrongFalsely : Prop := declcheckFindsRow.holds Try.pinned (OpenSpec.ofChange declcheckFindsWrong)

/-- 'signalbenchlaw35.DeclcheckReaches': WHATEVER THE INPUT: true; the input reads as it did. -/
def declcheckReachesSpec : ChangeSpec := { name := "declcheckReaches", fn := fun _ => fun
  | [d] => { results := [.lit (.bool true)], args := [d] }
  | _ => none }
def declcheckReachesRow : OpenClaim := { program := "ytgjimkgehbppbaa", sum := "2e7716b4c3a0c30928b66097a55ad894a6db74833708ae392fb1572d67394f7e", func := "signalbench/signalbenchlaw35.DeclcheckReaches", spec := "declcheckReaches", unfollowed := true, recurses := true, apart := false }
def DeclcheckReachesSaid : Prop := declcheckReachesRow.holds Try.pinned (OpenSpec.ofChange declcheckReachesSpec)

/-- ITS FALSE NEIGHBOUR: 'it returns false'. Refute it at one input. -/
def declcheckReachesWrong : ChangeSpec := { name := "declcheckReaches", fn := fun _ => fun
  | [d] => { results := [.lit (.bool false)], args := [d] }
  | _ => none }
def DeclcheckReachesWrongFalsely : Prop := declcheckReachesRow.holds Try.pinned (OpenSpec.ofChange declcheckReachesWrong)

/-- 'signalbenchlaw35.DeclcheckChecks': WHATEVER THE INPUT: true; the input reads as it did. -/
def declcheckChecksSpec : ChangeSpec := { name := "declcheckChecks", fn := fun _ => fun
  | [d] => { results := [.lit (.bool true)], args := [d] }
  | _ => none }
def declcheckChecksRow : OpenClaim := { program := "ytgjimkgehbppbaa", sum := "2e7716b4c3a0c30928b66097a55ad894a6db74833708ae392fb1572d67394f7e", func := "signalbench/signalbenchlaw35.DeclcheckChecks", spec := "declcheckChecks", unfollowed := true, recurses := true, apart := false }
def DeclcheckChecksSaid : Prop := declcheckChecksRow.holds Try.pinned (OpenSpec.ofChange declcheckChecksSpec)

/-- ITS FALSE NEIGHBOUR: 'it returns false'. Refute it at one input. -/
def declcheckChecksWrong : ChangeSpec := { name := "declcheckChecks", fn := fun _ => fun
  | [d] => { results := [.lit (.bool false)], args := [d] }
  | _ => none }
def DeclcheckChecksWrongFalsely : Prop := declcheckChecksRow.holds Try.pinned (OpenSpec.ofChange declcheckChecksWrong)

/-- 'signalbenchlaw35.DeclcheckOneRule': WHATEVER THE INPUT: true; the input reads as it did. -/
def declcheckOneRuleSpec : ChangeSpec := { name := "declcheckOneRule", fn := fun _ => fun
  | [d1, d2, d3] => { results := [.lit (.bool true)], args := [d1, d2, d3] }
  | _ => none }
def declcheckOneRuleRow : OpenClaim := { program := "ytgjimkgehbppbaa", sum := "2e7716b4c3a0c30928b66097a55ad894a6db74833708ae392fb1572d67394f7e", func := "signalbench/signalbenchlaw35.DeclcheckOneRule", spec := "declcheckOneRule", unfollowed := true, recurses := true, apart := false }
def DeclcheckOneRuleSaid : Prop := declcheckOneRuleRow.holds Try.pinned (OpenSpec.ofChange declcheckOneRuleSpec)

/-- ITS FALSE NEIGHBOUR: 'it returns false'. Refute it at one input. -/
def declcheckOneRuleWrong : ChangeSpec := { name := "declcheckOneRule", fn := fun _ => fun
  | [d1, d2, d3] => { results := [.lit (.bool false)], args := [d1, d2, d3] }
  | _ => none }
def DeclcheckOneRuleWrongFalsely : Prop := declcheckOneRuleRow.holds Try.pinned (OpenSpec.ofChange declcheckOneRuleWrong)

/-- 'signalbenchlaw35.DeclcheckOrder': WHATEVER THE INPUT: true; the input reads as it did. -/
def declcheckOrderSpec : ChangeSpec := { name := "declcheckOrder", fn := fun _ => fun
  | [d1, d2] => { results := [.lit (.bool true)], args := [d1, d2] }
  | _ => none }
def declcheckOrderRow : OpenClaim := { program := "ytgjimkgehbppbaa", sum := "2e7716b4c3a0c30928b66097a55ad894a6db74833708ae392fb1572d67394f7e", func := "signalbench/signalbenchlaw35.DeclcheckOrder", spec := "declcheckOrder", unfollowed := true, recurses := true, apart := false }
def DeclcheckOrderSaid : Prop := declcheckOrderRow.holds Try.pinned (OpenSpec.ofChange declcheckOrderSpec)

/-- ITS FALSE NEIGHBOUR: 'it returns false'. Refute it at one input. -/
def declcheckOrderWrong : ChangeSpec := { name := "declcheckOrder", fn := fun _ => fun
  | [d1, d2] => { results := [.lit (.bool false)], args := [d1, d2] }
  | _ => none }
def DeclcheckOrderWrongFalsely : Prop := declcheckOrderRow.holds Try.pinned (OpenSpec.ofChange declcheckOrderWrong)

/-- 'signalbenchlaw35.DeclcheckElse': WHATEVER THE INPUT: true; the input reads as it did. -/
def declcheckElseSpec : ChangeSpec := { name := "declcheckElse", fn := fun _ => fun
  | [d] => { results := [.lit (.bool true)], args := [d] }
  | _ => none }
def declcheckElseRow : OpenClaim := { program := "ytgjimkgehbppbaa", sum := "2e7716b4c3a0c30928b66097a55ad894a6db74833708ae392fb1572d67394f7e", func := "signalbench/signalbenchlaw35.DeclcheckElse", spec := "declcheckElse", unfollowed := true, recurses := true, apart := false }
def DeclcheckElseSaid : Prop := declcheckElseRow.holds Try.pinned (OpenSpec.ofChange declcheckElseSpec)

/-- ITS FALSE NEIGHBOUR: 'it returns false'. Refute it at one input. -/
def declcheckElseWrong : ChangeSpec := { name := "declcheckElse", fn := fun _ => fun
  | [d] => { results := [.lit (.bool false)], args := [d] }
  | _ => none }
def DeclcheckElseWrongFalsely : Prop := declcheckElseRow.holds Try.pinned (OpenSpec.ofChange declcheckElseWrong)

/-- 'signalbenchlaw36.DecltabCompiles': WHATEVER THE INPUT: true; the input reads as it did. -/
def decltabCompilesSpec : ChangeSpec := { name := "decltabCompiles", fn := fun _ => fun
  | [d] => { results := [.lit (.bool true)], args := [d] }
  | _ => none }
def decltabCompilesRow : OpenClaim := { program := "ytgjimkgehbppbaa", sum := "2e7716b4c3a0c30928b66097a55ad894a6db74833708ae392fb1572d67394f7e", func := "signalbench/signalbenchlaw36.DecltabCompiles", spec := "decltabCompiles", unfollowed := true, recurses := true, apart := false }
def DecltabCompilesSaid : Prop := decltabCompilesRow.holds Try.pinned (OpenSpec.ofChange decltabCompilesSpec)

/-- ITS FALSE NEIGHBOUR: 'it returns false'. Refute it at one input. -/
def decltabCompilesWrong : ChangeSpec := { name := "decltabCompiles", fn := fun _ => fun
  | [d] => { results := [.lit (.bool false)], args := [d] }
  | _ => none }
def DecltabCompilesWrongFalsely : Prop := decltabCompilesRow.holds Try.pinned (OpenSpec.ofChange decltabCompilesWrong)

/-- 'signalbenchlaw36.DecltabReads': WHATEVER THE INPUT: true; the input reads as it did. -/
def decltabReadsSpec : ChangeSpec := { name := "decltabReads", fn := fun _ => fun
  | [d1, d2, d3] => { results := [.lit (.bool true)], args := [d1, d2, d3] }
  | _ => none }
def decltabReadsRow : OpenClaim := { program := "ytgjimkgehbppbaa", sum := "2e7716b4c3a0c30928b66097a55ad894a6db74833708ae392fb1572d67394f7e", func := "signalbench/signalbenchlaw36.DecltabReads", spec := "decltabReads", unfollowed := true, recurses := true, apart := false }
def DecltabReadsSaid : Prop := decltabReadsRow.holds Try.pinned (OpenSpec.ofChange decltabReadsSpec)

/-- ITS FALSE NEIGHBOUR: 'it returns false'. Refute it at one input. -/
def decltabReadsWrong : ChangeSpec := { name := "decltabReads", fn := fun _ => fun
  | [d1, d2, d3] => { results := [.lit (.bool false)], args := [d1, d2, d3] }
  | _ => none }
def DecltabReadsWrongFalsely : Prop := decltabReadsRow.holds Try.pinned (OpenSpec.ofChange decltabReadsWrong)

/-- 'signalbenchlaw36.DecltabFollowsRules': WHATEVER THE INPUT: true; the input reads as it did. -/
def decltabFollowsRulesSpec : ChangeSpec := { name := "decltabFollowsRules", fn := fun _ => fun
  | [d1, d2, d3] => { results := [.lit (.bool true)], args := [d1, d2, d3] }
  | _ => none }
def decltabFollowsRulesRow : OpenClaim := { program := "ytgjimkgehbppbaa", sum := "2e7716b4c3a0c30928b66097a55ad894a6db74833708ae392fb1572d67394f7e", func := "signalbench/signalbenchlaw36.DecltabFollowsRules", spec := "decltabFollowsRules", unfollowed := true, recurses := true, apart := false }
def DecltabFollowsRulesSaid : Prop := decltabFollowsRulesRow.holds Try.pinned (OpenSpec.ofChange decltabFollowsRulesSpec)

/-- ITS FALSE NEIGHBOUR: 'it returns false'. Refute it at one input. -/
def decltabFollowsRulesWrong : ChangeSpec := { name := "decltabFollowsRules", fn := fun _ => fun
  | [d1, d2, d3] => { results := [.lit (.bool false)], args := [d1, d2, d3] }
  | _ => none }
def DecltabFollowsRulesWrongFalsely : Prop := decltabFollowsRulesRow.holds Try.pinned (OpenSpec.ofChange decltabFollowsRulesWrong)

/-- 'signalbenchlaw36.DecltabCells': WHATEVER THE INPUT: true; the input reads as it did. -/
def decltabCellsSpec : ChangeSpec := { name := "decltabCells", fn := fun _ => fun
  | [d] => { results := [.lit (.bool true)], args := [d] }
  | _ => none }
def decltabCellsRow : OpenClaim := { program := "ytgjimkgehbppbaa", sum := "2e7716b4c3a0c30928b66097a55ad894a6db74833708ae392fb1572d67394f7e", func := "signalbench/signalbenchlaw36.DecltabCells", spec := "decltabCells", unfollowed := true, recurses := true, apart := false }
def DecltabCellsSaid : Prop := decltabCellsRow.holds Try.pinned (OpenSpec.ofChange decltabCellsSpec)

/-- ITS FALSE NEIGHBOUR: 'it returns false'. Refute it at one input. -/
def decltabCellsWrong : ChangeSpec := { name := "decltabCells", fn := fun _ => fun
  | [d] => { results := [.lit (.bool false)], args := [d] }
  | _ => none }
def DecltabCellsWrongFalsely : Prop := decltabCellsRow.holds Try.pinned (OpenSpec.ofChange decltabCellsWrong)

/-- 'signalbenchlaw36.DecltabOwn': WHATEVER THE INPUT: true; the input reads as it did. -/
def decltabOwnSpec : ChangeSpec := { name := "decltabOwn", fn := fun _ => fun
  | [d1, d2, d3] => { results := [.lit (.bool true)], args := [d1, d2, d3] }
  | _ => none }
def decltabOwnRow : OpenClaim := { program := "ytgjimkgehbppbaa", sum := "2e7716b4c3a0c30928b66097a55ad894a6db74833708ae392fb1572d67394f7e", func := "signalbench/signalbenchlaw36.DecltabOwn", spec := "decltabOwn", unfollowed := true, recurses := true, apart := false }
def DecltabOwnSaid : Prop := decltabOwnRow.holds Try.pinned (OpenSpec.ofChange decltabOwnSpec)

/-- ITS FALSE NEIGHBOUR: 'it returns false'. Refute it at one input. -/
def decltabOwnWrong : ChangeSpec := { name := "decltabOwn", fn := fun _ => fun
  | [d1, d2, d3] => { results := [.lit (.bool false)], args := [d1, d2, d3] }
  | _ => none }
def DecltabOwnWrongFalsely : Prop := decltabOwnRow.holds Try.pinned (OpenSpec.ofChange decltabOwnWrong)

/-- 'signalbenchlaw37.DeclrunDirect': WHATEVER THE INPUT: true; the input reads as it did. -/
def declrunDirectSpec : ChangeSpec := { name := "declrunDirect", fn := fun _ => fun
  | [d1, d2] => { results := [.lit (.bool true)], args := [d1, d2] }
  | _ => none }
def declrunDirectRow : OpenClaim := { program := "ytgjimkgehbppbaa", sum := "2e7716b4c3a0c30928b66097a55ad894a6db74833708ae392fb1572d67394f7e", func := "signalbench/signalbenchlaw37.DeclrunDirect", spec := "declrunDirect", unfollowed := true, recurses := true, apart := false }
def DeclrunDirectSaid : Prop := declrunDirectRow.holds Try.pinned (OpenSpec.ofChange declrunDirectSpec)

/-- ITS FALSE NEIGHBOUR: 'it returns false'. Refute it at one input. -/
def declrunDirectWrong : ChangeSpec := { name := "declrunDirect", fn := fun _ => fun
  | [d1, d2] => { results := [.lit (.bool false)], args := [d1, d2] }
  | _ => none }
def DeclrunDirectWrongFalsely : Prop := declrunDirectRow.holds Try.pinned (OpenSpec.ofChange declrunDirectWrong)

/- THE SECOND FORM. 'bulk': how many values and letters a reading holds, each counted each time it is reached (what is shared counts as often as it is met; a slice's spare places count too). A statement '..UptoSaid' is the law's where the arguments, and the package variables that the reading takes, are together of bulk at most 1048576: NARROWER than '..Said'. Prove '..Said' where nothing that the law and all that it calls make is longer than what came in: it says more and counts as full. Else prove '..UptoSaid'. A law counts once. -/
mutual
def uptoBulk {H : Type} : DataW H → Nat
  | .lit (.string bytes) => bytes.length + 1
  | .lit _ => 1
  | .nil => 1
  | .ptr d => uptoBulk d + 1
  | .slice elems spare => uptoBulkAll elems + uptoBulkAll spare + 1
  | .agg parts => uptoBulkAll parts + 1
  | .iface _ d => uptoBulk d + 1
  | .map entries => uptoBulkEntries entries + 1
  | .held _ => 1
def uptoBulkAll {H : Type} : List (DataW H) → Nat
  | [] => 0
  | d :: r => uptoBulk d + uptoBulkAll r
def uptoBulkEntries {H : Type} : List (Lit × DataW H) → Nat
  | [] => 0
  | x :: r => uptoBulkEntry x + uptoBulkEntries r
def uptoBulkEntry {H : Type} : Lit × DataW H → Nat
  | (.string bytes, d) => bytes.length + uptoBulk d + 1
  | (_, d) => uptoBulk d + 1
 end
def uptoSmall : (H : Type) → List (DataW H) → Bool := fun _ ds => decide (uptoBulkAll ds ≤ 1048576)
def OpenSpec.upto (s : _root_.Go.ChangeSpec) : _root_.Go.OpenSpec := { _root_.Go.OpenSpec.ofChange s with cond := some uptoSmall }

/-- 'signalbenchlaw35.DeclcheckFinds', WHERE WHAT IT READS IS OF BULK AT MOST 1048576: true; the input reads as it did. -/
def declcheckFindsUptoRow : OpenClaim := { program := "ytgjimkgehbppbaa", sum := "2e7716b4c3a0c30928b66097a55ad894a6db74833708ae392fb1572d67394f7e", func := "signalbench/signalbenchlaw35.DeclcheckFinds", spec := "declcheckFinds", unfollowed := true, recurses := true, apart := false, narrowed := true }
def DeclcheckFindsUptoSaid : Prop := declcheckFindsUptoRow.holds Try.pinned (OpenSpec.upto declcheckFindsSpec)

/-- 'signalbenchlaw35.DeclcheckReaches', WHERE WHAT IT READS IS OF BULK AT MOST 1048576: true; the input reads as it did. -/
def declcheckReachesUptoRow : OpenClaim := { program := "ytgjimkgehbppbaa", sum := "2e7716b4c3a0c30928b66097a55ad894a6db74833708ae392fb1572d67394f7e", func := "signalbench/signalbenchlaw35.DeclcheckReaches", spec := "declcheckReaches", unfollowed := true, recurses := true, apart := false, narrowed := true }
def DeclcheckReachesUptoSaid : Prop := declcheckReachesUptoRow.holds Try.pinned (OpenSpec.upto declcheckReachesSpec)

/-- 'signalbenchlaw35.DeclcheckChecks', WHERE WHAT IT READS IS OF BULK AT MOST 1048576: true; the input reads as it did. -/
def declcheckChecksUptoRow : OpenClaim := { program := "ytgjimkgehbppbaa", sum := "2e7716b4c3a0c30928b66097a55ad894a6db74833708ae392fb1572d67394f7e", func := "signalbench/signalbenchlaw35.DeclcheckChecks", spec := "declcheckChecks", unfollowed := true, recurses := true, apart := false, narrowed := true }
def DeclcheckChecksUptoSaid : Prop := declcheckChecksUptoRow.holds Try.pinned (OpenSpec.upto declcheckChecksSpec)

/-- 'signalbenchlaw35.DeclcheckOneRule', WHERE WHAT IT READS IS OF BULK AT MOST 1048576: true; the input reads as it did. -/
def declcheckOneRuleUptoRow : OpenClaim := { program := "ytgjimkgehbppbaa", sum := "2e7716b4c3a0c30928b66097a55ad894a6db74833708ae392fb1572d67394f7e", func := "signalbench/signalbenchlaw35.DeclcheckOneRule", spec := "declcheckOneRule", unfollowed := true, recurses := true, apart := false, narrowed := true }
def DeclcheckOneRuleUptoSaid : Prop := declcheckOneRuleUptoRow.holds Try.pinned (OpenSpec.upto declcheckOneRuleSpec)

/-- 'signalbenchlaw35.DeclcheckOrder', WHERE WHAT IT READS IS OF BULK AT MOST 1048576: true; the input reads as it did. -/
def declcheckOrderUptoRow : OpenClaim := { program := "ytgjimkgehbppbaa", sum := "2e7716b4c3a0c30928b66097a55ad894a6db74833708ae392fb1572d67394f7e", func := "signalbench/signalbenchlaw35.DeclcheckOrder", spec := "declcheckOrder", unfollowed := true, recurses := true, apart := false, narrowed := true }
def DeclcheckOrderUptoSaid : Prop := declcheckOrderUptoRow.holds Try.pinned (OpenSpec.upto declcheckOrderSpec)

/-- 'signalbenchlaw35.DeclcheckElse', WHERE WHAT IT READS IS OF BULK AT MOST 1048576: true; the input reads as it did. -/
def declcheckElseUptoRow : OpenClaim := { program := "ytgjimkgehbppbaa", sum := "2e7716b4c3a0c30928b66097a55ad894a6db74833708ae392fb1572d67394f7e", func := "signalbench/signalbenchlaw35.DeclcheckElse", spec := "declcheckElse", unfollowed := true, recurses := true, apart := false, narrowed := true }
def DeclcheckElseUptoSaid : Prop := declcheckElseUptoRow.holds Try.pinned (OpenSpec.upto declcheckElseSpec)

/-- 'signalbenchlaw36.DecltabCompiles', WHERE WHAT IT READS IS OF BULK AT MOST 1048576: true; the input reads as it did. -/
def decltabCompilesUptoRow : OpenClaim := { program := "ytgjimkgehbppbaa", sum := "2e7716b4c3a0c30928b66097a55ad894a6db74833708ae392fb1572d67394f7e", func := "signalbench/signalbenchlaw36.DecltabCompiles", spec := "decltabCompiles", unfollowed := true, recurses := true, apart := false, narrowed := true }
def DecltabCompilesUptoSaid : Prop := decltabCompilesUptoRow.holds Try.pinned (OpenSpec.upto decltabCompilesSpec)

/-- 'signalbenchlaw36.DecltabReads', WHERE WHAT IT READS IS OF BULK AT MOST 1048576: true; the input reads as it did. -/
def decltabReadsUptoRow : OpenClaim := { program := "ytgjimkgehbppbaa", sum := "2e7716b4c3a0c30928b66097a55ad894a6db74833708ae392fb1572d67394f7e", func := "signalbench/signalbenchlaw36.DecltabReads", spec := "decltabReads", unfollowed := true, recurses := true, apart := false, narrowed := true }
def DecltabReadsUptoSaid : Prop := decltabReadsUptoRow.holds Try.pinned (OpenSpec.upto decltabReadsSpec)

/-- 'signalbenchlaw36.DecltabFollowsRules', WHERE WHAT IT READS IS OF BULK AT MOST 1048576: true; the input reads as it did. -/
def decltabFollowsRulesUptoRow : OpenClaim := { program := "ytgjimkgehbppbaa", sum := "2e7716b4c3a0c30928b66097a55ad894a6db74833708ae392fb1572d67394f7e", func := "signalbench/signalbenchlaw36.DecltabFollowsRules", spec := "decltabFollowsRules", unfollowed := true, recurses := true, apart := false, narrowed := true }
def DecltabFollowsRulesUptoSaid : Prop := decltabFollowsRulesUptoRow.holds Try.pinned (OpenSpec.upto decltabFollowsRulesSpec)

/-- 'signalbenchlaw36.DecltabCells', WHERE WHAT IT READS IS OF BULK AT MOST 1048576: true; the input reads as it did. -/
def decltabCellsUptoRow : OpenClaim := { program := "ytgjimkgehbppbaa", sum := "2e7716b4c3a0c30928b66097a55ad894a6db74833708ae392fb1572d67394f7e", func := "signalbench/signalbenchlaw36.DecltabCells", spec := "decltabCells", unfollowed := true, recurses := true, apart := false, narrowed := true }
def DecltabCellsUptoSaid : Prop := decltabCellsUptoRow.holds Try.pinned (OpenSpec.upto decltabCellsSpec)

/-- 'signalbenchlaw36.DecltabOwn', WHERE WHAT IT READS IS OF BULK AT MOST 1048576: true; the input reads as it did. -/
def decltabOwnUptoRow : OpenClaim := { program := "ytgjimkgehbppbaa", sum := "2e7716b4c3a0c30928b66097a55ad894a6db74833708ae392fb1572d67394f7e", func := "signalbench/signalbenchlaw36.DecltabOwn", spec := "decltabOwn", unfollowed := true, recurses := true, apart := false, narrowed := true }
def DecltabOwnUptoSaid : Prop := decltabOwnUptoRow.holds Try.pinned (OpenSpec.upto decltabOwnSpec)

/-- 'signalbenchlaw37.DeclrunDirect', WHERE WHAT IT READS IS OF BULK AT MOST 1048576: true; the input reads as it did. -/
def declrunDirectUptoRow : OpenClaim := { program := "ytgjimkgehbppbaa", sum := "2e7716b4c3a0c30928b66097a55ad894a6db74833708ae392fb1572d67394f7e", func := "signalbench/signalbenchlaw37.DeclrunDirect", spec := "declrunDirect", unfollowed := true, recurses := true, apart := false, narrowed := true }
def DeclrunDirectUptoSaid : Prop := declrunDirectUptoRow.holds Try.pinned (OpenSpec.upto declrunDirectSpec)

end Rows
end Go.Proofs.Ytgjimkgehbppbaa
