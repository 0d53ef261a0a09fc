/-
  No cell of these rows narrows 'for every input' (looked for: loops, veiled, ifaces, maps, wideKeys, modest, calm, conditions, laid).
  DERIVED. THE GIVEN ROWS OF THIS SEAT. 4 by the template 'for every input the law returns true; each argument reads behind the call as it read before'; 0 by the template 'total and deterministic' (their statements: YtgjimkgehbppbabTotals.lean).
  GIVEN WITH THE SEED: the statements are not yours to turn. If you find one false, say at which input.
  Laid BY PROGRAM, IN A SANDBOX (cutbox-rows.mjs): the forced cells as the released guide's own fill.sh prints them over the translation 3a82940c2826190c… (all of the seat's roots in one cut). By AI agents, Wed Nov 11 2026. No macro, syntax, notation, axiom, sorry.
-/
import Derived.Test.YtgjimkgehbppbabChecked
import GoSem.Claim
import GoSem.ClaimJoined
import GoSem.ClaimMapViews
import Derived.JoinedTies
import Derived.KernelRfl
namespace Go.Proofs.Ytgjimkgehbppbab
/- THE CELL 'sum', in the pinned program and in every row, IS THE sha256 OF THE DUMP (.gsa) THAT YtgjimkgehbppbabProg.lean LOADS. Nothing in Lean hashes anything: it is a label: what it is worth is what the hold of that sum in a sandbox is worth. -/
noncomputable def Try.pinned : Pinned := { name := "ytgjimkgehbppbab", sum := "3a82940c2826190c881afe23e9464460775157ac7c3be8405345d53abafb0f33", checked := Try.checked }
namespace Rows
def none {H : Type} : Left H := { results := [], args := [] }

/-- 'signalbenchlaw37.DeclrunFollowsRules': WHATEVER THE INPUT: true; the input reads as it did. -/
def declrunFollowsRulesSpec : ChangeSpec := { name := "declrunFollowsRules", fn := fun _ => fun
  | [d1, d2] => { results := [.lit (.bool true)], args := [d1, d2] }
  | _ => none }
def declrunFollowsRulesRow : OpenClaim := { program := "ytgjimkgehbppbab", sum := "3a82940c2826190c881afe23e9464460775157ac7c3be8405345d53abafb0f33", func := "signalbench/signalbenchlaw37.DeclrunFollowsRules", spec := "declrunFollowsRules", unfollowed := true, recurses := true, apart := false }
def DeclrunFollowsRulesSaid : Prop := declrunFollowsRulesRow.holds Try.pinned (OpenSpec.ofChange declrunFollowsRulesSpec)

/-- ITS FALSE NEIGHBOUR: 'it returns false'. Refute it at one input. -/
def declrunFollowsRulesWrong : ChangeSpec := { name := "declrunFollowsRules", fn := fun _ => fun
  | [d1, d2] => { results := [.lit (.bool false)], args := [d1, d2] }
  | _ => none }
def DeclrunFollowsRulesWrongFalsely : Prop := declrunFollowsRulesRow.holds Try.pinned (OpenSpec.ofChange declrunFollowsRulesWrong)

/-- 'signalbenchlaw37.DeclrunEmits': WHATEVER THE INPUT: true; the input reads as it did. -/
def declrunEmitsSpec : ChangeSpec := { name := "declrunEmits", fn := fun _ => fun
  | [d1, d2] => { results := [.lit (.bool true)], args := [d1, d2] }
  | _ => none }
def declrunEmitsRow : OpenClaim := { program := "ytgjimkgehbppbab", sum := "3a82940c2826190c881afe23e9464460775157ac7c3be8405345d53abafb0f33", func := "signalbench/signalbenchlaw37.DeclrunEmits", spec := "declrunEmits", unfollowed := true, recurses := true, apart := false }
def DeclrunEmitsSaid : Prop := declrunEmitsRow.holds Try.pinned (OpenSpec.ofChange declrunEmitsSpec)

/-- ITS FALSE NEIGHBOUR: 'it returns false'. Refute it at one input. -/
def declrunEmitsWrong : ChangeSpec := { name := "declrunEmits", fn := fun _ => fun
  | [d1, d2] => { results := [.lit (.bool false)], args := [d1, d2] }
  | _ => none }
def DeclrunEmitsWrongFalsely : Prop := declrunEmitsRow.holds Try.pinned (OpenSpec.ofChange declrunEmitsWrong)

/-- 'signalbenchlaw37.DeclrunIgnores': WHATEVER THE INPUT: true; the input reads as it did. -/
def declrunIgnoresSpec : ChangeSpec := { name := "declrunIgnores", fn := fun _ => fun
  | [d1, d2, d3] => { results := [.lit (.bool true)], args := [d1, d2, d3] }
  | _ => none }
def declrunIgnoresRow : OpenClaim := { program := "ytgjimkgehbppbab", sum := "3a82940c2826190c881afe23e9464460775157ac7c3be8405345d53abafb0f33", func := "signalbench/signalbenchlaw37.DeclrunIgnores", spec := "declrunIgnores", unfollowed := true, recurses := true, apart := false }
def DeclrunIgnoresSaid : Prop := declrunIgnoresRow.holds Try.pinned (OpenSpec.ofChange declrunIgnoresSpec)

/-- ITS FALSE NEIGHBOUR: 'it returns false'. Refute it at one input. -/
def declrunIgnoresWrong : ChangeSpec := { name := "declrunIgnores", fn := fun _ => fun
  | [d1, d2, d3] => { results := [.lit (.bool false)], args := [d1, d2, d3] }
  | _ => none }
def DeclrunIgnoresWrongFalsely : Prop := declrunIgnoresRow.holds Try.pinned (OpenSpec.ofChange declrunIgnoresWrong)

/-- 'signalbenchlaw37.DeclrunDecodes': WHATEVER THE INPUT: true; the input reads as it did. -/
def declrunDecodesSpec : ChangeSpec := { name := "declrunDecodes", fn := fun _ => fun
  | [d1, d2] => { results := [.lit (.bool true)], args := [d1, d2] }
  | _ => none }
def declrunDecodesRow : OpenClaim := { program := "ytgjimkgehbppbab", sum := "3a82940c2826190c881afe23e9464460775157ac7c3be8405345d53abafb0f33", func := "signalbench/signalbenchlaw37.DeclrunDecodes", spec := "declrunDecodes", unfollowed := true, recurses := true, apart := false }
def DeclrunDecodesSaid : Prop := declrunDecodesRow.holds Try.pinned (OpenSpec.ofChange declrunDecodesSpec)

/-- ITS FALSE NEIGHBOUR: 'it returns false'. Refute it at one input. -/
def declrunDecodesWrong : ChangeSpec := { name := "declrunDecodes", fn := fun _ => fun
  | [d1, d2] => { results := [.lit (.bool false)], args := [d1, d2] }
  | _ => none }
def DeclrunDecodesWrongFalsely : Prop := declrunDecodesRow.holds Try.pinned (OpenSpec.ofChange declrunDecodesWrong)

/- THE SECOND FORM. 'bulk': how many values and letters a reading holds, each counted each time it is reached (what is shared counts as often as it is met; a slice's spare places count too). A statement '..UptoSaid' is the law's where the arguments, and the package variables that the reading takes, are together of bulk at most 1048576: NARROWER than '..Said'. Prove '..Said' where nothing that the law and all that it calls make is longer than what came in: it says more and counts as full. Else prove '..UptoSaid'. A law counts once. -/
mutual
def uptoBulk {H : Type} : DataW H → Nat
  | .lit (.string bytes) => bytes.length + 1
  | .lit _ => 1
  | .nil => 1
  | .ptr d => uptoBulk d + 1
  | .slice elems spare => uptoBulkAll elems + uptoBulkAll spare + 1
  | .agg parts => uptoBulkAll parts + 1
  | .iface _ d => uptoBulk d + 1
  | .map entries => uptoBulkEntries entries + 1
  | .held _ => 1
def uptoBulkAll {H : Type} : List (DataW H) → Nat
  | [] => 0
  | d :: r => uptoBulk d + uptoBulkAll r
def uptoBulkEntries {H : Type} : List (Lit × DataW H) → Nat
  | [] => 0
  | x :: r => uptoBulkEntry x + uptoBulkEntries r
def uptoBulkEntry {H : Type} : Lit × DataW H → Nat
  | (.string bytes, d) => bytes.length + uptoBulk d + 1
  | (_, d) => uptoBulk d + 1
 end
def uptoSmall : (H : Type) → List (DataW H) → Bool := fun _ ds => decide (uptoBulkAll ds ≤ 1048576)
def OpenSpec.upto (s : _root_.Go.ChangeSpec) : _root_.Go.OpenSpec := { _root_.Go.OpenSpec.ofChange s with cond := some uptoSmall }

/-- 'signalbenchlaw37.DeclrunFollowsRules', WHERE WHAT IT READS IS OF BULK AT MOST 1048576: true; the input reads as it did. -/
def declrunFollowsRulesUptoRow : OpenClaim := { program := "ytgjimkgehbppbab", sum := "3a82940c2826190c881afe23e9464460775157ac7c3be8405345d53abafb0f33", func := "signalbench/signalbenchlaw37.DeclrunFollowsRules", spec := "declrunFollowsRules", unfollowed := true, recurses := true, apart := false, narrowed := true }
def DeclrunFollowsRulesUptoSaid : Prop := declrunFollowsRulesUptoRow.holds Try.pinned (OpenSpec.upto declrunFollowsRulesSpec)

/-- 'signalbenchlaw37.DeclrunEmits', WHERE WHAT IT READS IS OF BULK AT MOST 1048576: true; the input reads as it did. -/
def declrunEmitsUptoRow : OpenClaim := { program := "ytgjimkgehbppbab", sum := "3a82940c2826190c881afe23e9464460775157ac7c3be8405345d53abafb0f33", func := "signalbench/signalbenchlaw37.DeclrunEmits", spec := "declrunEmits", unfollowed := true, recurses := true, apart := false, narrowed := true }
def DeclrunEmitsUptoSaid : Prop := declrunEmitsUptoRow.holds Try.pinned (OpenSpec.upto declrunEmitsSpec)

/-- 'signalbenchlaw37.DeclrunIgnores', WHERE WHAT IT READS IS OF BULK AT MOST 1048576: true; the input reads as it did. -/
def declrunIgnoresUptoRow : OpenClaim := { program := "ytgjimkgehbppbab", sum := "3a82940c2826190c881afe23e9464460775157ac7c3be8405345d53abafb0f33", func := "signalbench/signalbenchlaw37.DeclrunIgnores", spec := "declrunIgnores", unfollowed := true, recurses := true, apart := false, narrowed := true }
def DeclrunIgnoresUptoSaid : Prop := declrunIgnoresUptoRow.holds Try.pinned (OpenSpec.upto declrunIgnoresSpec)

/-- 'signalbenchlaw37.DeclrunDecodes', WHERE WHAT IT READS IS OF BULK AT MOST 1048576: true; the input reads as it did. -/
def declrunDecodesUptoRow : OpenClaim := { program := "ytgjimkgehbppbab", sum := "3a82940c2826190c881afe23e9464460775157ac7c3be8405345d53abafb0f33", func := "signalbench/signalbenchlaw37.DeclrunDecodes", spec := "declrunDecodes", unfollowed := true, recurses := true, apart := false, narrowed := true }
def DeclrunDecodesUptoSaid : Prop := declrunDecodesUptoRow.holds Try.pinned (OpenSpec.upto declrunDecodesSpec)

end Rows
end Go.Proofs.Ytgjimkgehbppbab
