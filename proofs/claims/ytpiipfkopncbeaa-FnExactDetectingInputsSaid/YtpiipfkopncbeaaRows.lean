/-
  No cell of these rows narrows 'for every input' (looked for: loops, veiled, ifaces, maps, wideKeys, modest, calm, conditions, laid).
  DERIVED. THE GIVEN ROWS OF THIS SEAT. 12 by the template 'for every input the law returns true; each argument reads behind the call as it read before'; 0 by the template 'total and deterministic' (their statements: YtpiipfkopncbeaaTotals.lean).
  GIVEN WITH THE SEED: the statements are not yours to turn. If you find one false, say at which input.
  Laid BY PROGRAM, IN A SANDBOX (cutbox-rows.mjs): the forced cells as the released guide's own fill.sh prints them over the translation af5cc982eb38dfc1… (all of the seat's roots in one cut). By AI agents, Wed Nov 11 2026. No macro, syntax, notation, axiom, sorry.
-/
import Derived.Test.YtpiipfkopncbeaaChecked
import GoSem.Claim
import GoSem.ClaimJoined
import GoSem.ClaimMapViews
import Derived.JoinedTies
import Derived.KernelRfl
namespace Go.Proofs.Ytpiipfkopncbeaa
/- THE CELL 'sum', in the pinned program and in every row, IS THE sha256 OF THE DUMP (.gsa) THAT YtpiipfkopncbeaaProg.lean LOADS. Nothing in Lean hashes anything: it is a label: what it is worth is what the hold of that sum in a sandbox is worth. -/
noncomputable def Try.pinned : Pinned := { name := "ytpiipfkopncbeaa", sum := "af5cc982eb38dfc16ba4770086e0049abedb461cc11a6d8ff64b53085d08d25a", checked := Try.checked }
namespace Rows
def none {H : Type} : Left H := { results := [], args := [] }

/-- 'laws.FnExactClaimWord': WHATEVER THE INPUT: true; the input reads as it did. -/
def fnExactClaimWordSpec : ChangeSpec := { name := "fnExactClaimWord", fn := fun _ => fun
  | [d] => { results := [.lit (.bool true)], args := [d] }
  | _ => none }
def fnExactClaimWordRow : OpenClaim := { program := "ytpiipfkopncbeaa", sum := "af5cc982eb38dfc16ba4770086e0049abedb461cc11a6d8ff64b53085d08d25a", func := "loop.example/g03403/laws.FnExactClaimWord", spec := "fnExactClaimWord", apart := false }
def FnExactClaimWordSaid : Prop := fnExactClaimWordRow.holds Try.pinned (OpenSpec.ofChange fnExactClaimWordSpec)

/-- ITS FALSE NEIGHBOUR: 'it returns false'. Refute it at one input. -/
def fnExactClaimWordWrong : ChangeSpec := { name := "fnExactClaimWord", fn := fun _ => fun
  | [d] => { results := [.lit (.bool false)], args := [d] }
  | _ => none }
def FnExactClaimWordWrongFalsely : Prop := fnExactClaimWordRow.holds Try.pinned (OpenSpec.ofChange fnExactClaimWordWrong)

/-- 'laws.FnExactKindNames': WHATEVER THE INPUT: true; the input reads as it did. -/
def fnExactKindNamesSpec : ChangeSpec := { name := "fnExactKindNames", fn := fun _ => fun
  | [] => { results := [.lit (.bool true)], args := [] }
  | _ => none }
def fnExactKindNamesRow : OpenClaim := { program := "ytpiipfkopncbeaa", sum := "af5cc982eb38dfc16ba4770086e0049abedb461cc11a6d8ff64b53085d08d25a", func := "loop.example/g03403/laws.FnExactKindNames", spec := "fnExactKindNames", apart := false }
def FnExactKindNamesSaid : Prop := fnExactKindNamesRow.holds Try.pinned (OpenSpec.ofChange fnExactKindNamesSpec)

/-- ITS FALSE NEIGHBOUR: 'it returns false'. Refute it at one input. -/
def fnExactKindNamesWrong : ChangeSpec := { name := "fnExactKindNames", fn := fun _ => fun
  | [] => { results := [.lit (.bool false)], args := [] }
  | _ => none }
def FnExactKindNamesWrongFalsely : Prop := fnExactKindNamesRow.holds Try.pinned (OpenSpec.ofChange fnExactKindNamesWrong)

/-- 'laws.FnExactMeasureNames': WHATEVER THE INPUT: true; the input reads as it did. -/
def fnExactMeasureNamesSpec : ChangeSpec := { name := "fnExactMeasureNames", fn := fun _ => fun
  | [] => { results := [.lit (.bool true)], args := [] }
  | _ => none }
def fnExactMeasureNamesRow : OpenClaim := { program := "ytpiipfkopncbeaa", sum := "af5cc982eb38dfc16ba4770086e0049abedb461cc11a6d8ff64b53085d08d25a", func := "loop.example/g03403/laws.FnExactMeasureNames", spec := "fnExactMeasureNames", apart := false }
def FnExactMeasureNamesSaid : Prop := fnExactMeasureNamesRow.holds Try.pinned (OpenSpec.ofChange fnExactMeasureNamesSpec)

/-- ITS FALSE NEIGHBOUR: 'it returns false'. Refute it at one input. -/
def fnExactMeasureNamesWrong : ChangeSpec := { name := "fnExactMeasureNames", fn := fun _ => fun
  | [] => { results := [.lit (.bool false)], args := [] }
  | _ => none }
def FnExactMeasureNamesWrongFalsely : Prop := fnExactMeasureNamesRow.holds Try.pinned (OpenSpec.ofChange fnExactMeasureNamesWrong)

/-- 'laws.FnExactRelationNames': WHATEVER THE INPUT: true; the input reads as it did. -/
def fnExactRelationNamesSpec : ChangeSpec := { name := "fnExactRelationNames", fn := fun _ => fun
  | [] => { results := [.lit (.bool true)], args := [] }
  | _ => none }
def fnExactRelationNamesRow : OpenClaim := { program := "ytpiipfkopncbeaa", sum := "af5cc982eb38dfc16ba4770086e0049abedb461cc11a6d8ff64b53085d08d25a", func := "loop.example/g03403/laws.FnExactRelationNames", spec := "fnExactRelationNames", apart := false }
def FnExactRelationNamesSaid : Prop := fnExactRelationNamesRow.holds Try.pinned (OpenSpec.ofChange fnExactRelationNamesSpec)

/-- ITS FALSE NEIGHBOUR: 'it returns false'. Refute it at one input. -/
def fnExactRelationNamesWrong : ChangeSpec := { name := "fnExactRelationNames", fn := fun _ => fun
  | [] => { results := [.lit (.bool false)], args := [] }
  | _ => none }
def FnExactRelationNamesWrongFalsely : Prop := fnExactRelationNamesRow.holds Try.pinned (OpenSpec.ofChange fnExactRelationNamesWrong)

/-- 'laws.FnExactStuckTable': WHATEVER THE INPUT: true; the input reads as it did. -/
def fnExactStuckTableSpec : ChangeSpec := { name := "fnExactStuckTable", fn := fun _ => fun
  | [d1, d2, d3] => { results := [.lit (.bool true)], args := [d1, d2, d3] }
  | _ => none }
def fnExactStuckTableRow : OpenClaim := { program := "ytpiipfkopncbeaa", sum := "af5cc982eb38dfc16ba4770086e0049abedb461cc11a6d8ff64b53085d08d25a", func := "loop.example/g03403/laws.FnExactStuckTable", spec := "fnExactStuckTable", unfollowed := true, recurses := true, apart := false }
def FnExactStuckTableSaid : Prop := fnExactStuckTableRow.holds Try.pinned (OpenSpec.ofChange fnExactStuckTableSpec)

/-- ITS FALSE NEIGHBOUR: 'it returns false'. Refute it at one input. -/
def fnExactStuckTableWrong : ChangeSpec := { name := "fnExactStuckTable", fn := fun _ => fun
  | [d1, d2, d3] => { results := [.lit (.bool false)], args := [d1, d2, d3] }
  | _ => none }
def FnExactStuckTableWrongFalsely : Prop := fnExactStuckTableRow.holds Try.pinned (OpenSpec.ofChange fnExactStuckTableWrong)

/-- 'laws.FnExactCountDetectable': WHATEVER THE INPUT: true; the input reads as it did. -/
def fnExactCountDetectableSpec : ChangeSpec := { name := "fnExactCountDetectable", fn := fun _ => fun
  | [d] => { results := [.lit (.bool true)], args := [d] }
  | _ => none }
def fnExactCountDetectableRow : OpenClaim := { program := "ytpiipfkopncbeaa", sum := "af5cc982eb38dfc16ba4770086e0049abedb461cc11a6d8ff64b53085d08d25a", func := "loop.example/g03403/laws.FnExactCountDetectable", spec := "fnExactCountDetectable", unfollowed := true, recurses := true, apart := false }
def FnExactCountDetectableSaid : Prop := fnExactCountDetectableRow.holds Try.pinned (OpenSpec.ofChange fnExactCountDetectableSpec)

/-- ITS FALSE NEIGHBOUR: 'it returns false'. Refute it at one input. -/
def fnExactCountDetectableWrong : ChangeSpec := { name := "fnExactCountDetectable", fn := fun _ => fun
  | [d] => { results := [.lit (.bool false)], args := [d] }
  | _ => none }
def FnExactCountDetectableWrongFalsely : Prop := fnExactCountDetectableRow.holds Try.pinned (OpenSpec.ofChange fnExactCountDetectableWrong)

/-- 'laws.FnExactDetectedBy': WHATEVER THE INPUT: true; the input reads as it did. -/
def fnExactDetectedBySpec : ChangeSpec := { name := "fnExactDetectedBy", fn := fun _ => fun
  | [d1, d2] => { results := [.lit (.bool true)], args := [d1, d2] }
  | _ => none }
def fnExactDetectedByRow : OpenClaim := { program := "ytpiipfkopncbeaa", sum := "af5cc982eb38dfc16ba4770086e0049abedb461cc11a6d8ff64b53085d08d25a", func := "loop.example/g03403/laws.FnExactDetectedBy", spec := "fnExactDetectedBy", unfollowed := true, recurses := true, apart := false }
def FnExactDetectedBySaid : Prop := fnExactDetectedByRow.holds Try.pinned (OpenSpec.ofChange fnExactDetectedBySpec)

/-- ITS FALSE NEIGHBOUR: 'it returns false'. Refute it at one input. -/
def fnExactDetectedByWrong : ChangeSpec := { name := "fnExactDetectedBy", fn := fun _ => fun
  | [d1, d2] => { results := [.lit (.bool false)], args := [d1, d2] }
  | _ => none }
def FnExactDetectedByWrongFalsely : Prop := fnExactDetectedByRow.holds Try.pinned (OpenSpec.ofChange fnExactDetectedByWrong)

/-- 'laws.FnExactEqualKept': WHATEVER THE INPUT: true; the input reads as it did. -/
def fnExactEqualKeptSpec : ChangeSpec := { name := "fnExactEqualKept", fn := fun _ => fun
  | [d1, d2] => { results := [.lit (.bool true)], args := [d1, d2] }
  | _ => none }
def fnExactEqualKeptRow : OpenClaim := { program := "ytpiipfkopncbeaa", sum := "af5cc982eb38dfc16ba4770086e0049abedb461cc11a6d8ff64b53085d08d25a", func := "loop.example/g03403/laws.FnExactEqualKept", spec := "fnExactEqualKept", apart := false }
def FnExactEqualKeptSaid : Prop := fnExactEqualKeptRow.holds Try.pinned (OpenSpec.ofChange fnExactEqualKeptSpec)

/-- ITS FALSE NEIGHBOUR: 'it returns false'. Refute it at one input. -/
def fnExactEqualKeptWrong : ChangeSpec := { name := "fnExactEqualKept", fn := fun _ => fun
  | [d1, d2] => { results := [.lit (.bool false)], args := [d1, d2] }
  | _ => none }
def FnExactEqualKeptWrongFalsely : Prop := fnExactEqualKeptRow.holds Try.pinned (OpenSpec.ofChange fnExactEqualKeptWrong)

/-- 'laws.FnExactDetectingInputs': WHATEVER THE INPUT: true; the input reads as it did. -/
def fnExactDetectingInputsSpec : ChangeSpec := { name := "fnExactDetectingInputs", fn := fun _ => fun
  | [d1, d2, d3] => { results := [.lit (.bool true)], args := [d1, d2, d3] }
  | _ => none }
def fnExactDetectingInputsRow : OpenClaim := { program := "ytpiipfkopncbeaa", sum := "af5cc982eb38dfc16ba4770086e0049abedb461cc11a6d8ff64b53085d08d25a", func := "loop.example/g03403/laws.FnExactDetectingInputs", spec := "fnExactDetectingInputs", unfollowed := true, recurses := true, apart := false }
def FnExactDetectingInputsSaid : Prop := fnExactDetectingInputsRow.holds Try.pinned (OpenSpec.ofChange fnExactDetectingInputsSpec)

/-- ITS FALSE NEIGHBOUR: 'it returns false'. Refute it at one input. -/
def fnExactDetectingInputsWrong : ChangeSpec := { name := "fnExactDetectingInputs", fn := fun _ => fun
  | [d1, d2, d3] => { results := [.lit (.bool false)], args := [d1, d2, d3] }
  | _ => none }
def FnExactDetectingInputsWrongFalsely : Prop := fnExactDetectingInputsRow.holds Try.pinned (OpenSpec.ofChange fnExactDetectingInputsWrong)

/-- 'laws.FnExactIsTestSet': WHATEVER THE INPUT: true; the input reads as it did. -/
def fnExactIsTestSetSpec : ChangeSpec := { name := "fnExactIsTestSet", fn := fun _ => fun
  | [d1, d2] => { results := [.lit (.bool true)], args := [d1, d2] }
  | _ => none }
def fnExactIsTestSetRow : OpenClaim := { program := "ytpiipfkopncbeaa", sum := "af5cc982eb38dfc16ba4770086e0049abedb461cc11a6d8ff64b53085d08d25a", func := "loop.example/g03403/laws.FnExactIsTestSet", spec := "fnExactIsTestSet", unfollowed := true, recurses := true, apart := false }
def FnExactIsTestSetSaid : Prop := fnExactIsTestSetRow.holds Try.pinned (OpenSpec.ofChange fnExactIsTestSetSpec)

/-- ITS FALSE NEIGHBOUR: 'it returns false'. Refute it at one input. -/
def fnExactIsTestSetWrong : ChangeSpec := { name := "fnExactIsTestSet", fn := fun _ => fun
  | [d1, d2] => { results := [.lit (.bool false)], args := [d1, d2] }
  | _ => none }
def FnExactIsTestSetWrongFalsely : Prop := fnExactIsTestSetRow.holds Try.pinned (OpenSpec.ofChange fnExactIsTestSetWrong)

/-- 'laws.FnExactEqualClaims': WHATEVER THE INPUT: true; the input reads as it did. -/
def fnExactEqualClaimsSpec : ChangeSpec := { name := "fnExactEqualClaims", fn := fun _ => fun
  | [d1, d2] => { results := [.lit (.bool true)], args := [d1, d2] }
  | _ => none }
def fnExactEqualClaimsRow : OpenClaim := { program := "ytpiipfkopncbeaa", sum := "af5cc982eb38dfc16ba4770086e0049abedb461cc11a6d8ff64b53085d08d25a", func := "loop.example/g03403/laws.FnExactEqualClaims", spec := "fnExactEqualClaims", apart := false }
def FnExactEqualClaimsSaid : Prop := fnExactEqualClaimsRow.holds Try.pinned (OpenSpec.ofChange fnExactEqualClaimsSpec)

/-- ITS FALSE NEIGHBOUR: 'it returns false'. Refute it at one input. -/
def fnExactEqualClaimsWrong : ChangeSpec := { name := "fnExactEqualClaims", fn := fun _ => fun
  | [d1, d2] => { results := [.lit (.bool false)], args := [d1, d2] }
  | _ => none }
def FnExactEqualClaimsWrongFalsely : Prop := fnExactEqualClaimsRow.holds Try.pinned (OpenSpec.ofChange fnExactEqualClaimsWrong)

/-- 'laws.FnExactNewKept': WHATEVER THE INPUT: true; the input reads as it did. -/
def fnExactNewKeptSpec : ChangeSpec := { name := "fnExactNewKept", fn := fun _ => fun
  | [d] => { results := [.lit (.bool true)], args := [d] }
  | _ => none }
def fnExactNewKeptRow : OpenClaim := { program := "ytpiipfkopncbeaa", sum := "af5cc982eb38dfc16ba4770086e0049abedb461cc11a6d8ff64b53085d08d25a", func := "loop.example/g03403/laws.FnExactNewKept", spec := "fnExactNewKept", apart := false }
def FnExactNewKeptSaid : Prop := fnExactNewKeptRow.holds Try.pinned (OpenSpec.ofChange fnExactNewKeptSpec)

/-- ITS FALSE NEIGHBOUR: 'it returns false'. Refute it at one input. -/
def fnExactNewKeptWrong : ChangeSpec := { name := "fnExactNewKept", fn := fun _ => fun
  | [d] => { results := [.lit (.bool false)], args := [d] }
  | _ => none }
def FnExactNewKeptWrongFalsely : Prop := fnExactNewKeptRow.holds Try.pinned (OpenSpec.ofChange fnExactNewKeptWrong)

/- THE SECOND FORM. 'bulk': how many values and letters a reading holds, each counted each time it is reached (what is shared counts as often as it is met; a slice's spare places count too). A statement '..UptoSaid' is the law's where the arguments, and the package variables that the reading takes, are together of bulk at most 1048576: NARROWER than '..Said'. Prove '..Said' where nothing that the law and all that it calls make is longer than what came in: it says more and counts as full. Else prove '..UptoSaid'. A law counts once. -/
mutual
def uptoBulk {H : Type} : DataW H → Nat
  | .lit (.string bytes) => bytes.length + 1
  | .lit _ => 1
  | .nil => 1
  | .ptr d => uptoBulk d + 1
  | .slice elems spare => uptoBulkAll elems + uptoBulkAll spare + 1
  | .agg parts => uptoBulkAll parts + 1
  | .iface _ d => uptoBulk d + 1
  | .map entries => uptoBulkEntries entries + 1
  | .held _ => 1
def uptoBulkAll {H : Type} : List (DataW H) → Nat
  | [] => 0
  | d :: r => uptoBulk d + uptoBulkAll r
def uptoBulkEntries {H : Type} : List (Lit × DataW H) → Nat
  | [] => 0
  | x :: r => uptoBulkEntry x + uptoBulkEntries r
def uptoBulkEntry {H : Type} : Lit × DataW H → Nat
  | (.string bytes, d) => bytes.length + uptoBulk d + 1
  | (_, d) => uptoBulk d + 1
 end
def uptoSmall : (H : Type) → List (DataW H) → Bool := fun _ ds => decide (uptoBulkAll ds ≤ 1048576)
def OpenSpec.upto (s : _root_.Go.ChangeSpec) : _root_.Go.OpenSpec := { _root_.Go.OpenSpec.ofChange s with cond := some uptoSmall }

/-- 'laws.FnExactClaimWord', WHERE WHAT IT READS IS OF BULK AT MOST 1048576: true; the input reads as it did. -/
def fnExactClaimWordUptoRow : OpenClaim := { program := "ytpiipfkopncbeaa", sum := "af5cc982eb38dfc16ba4770086e0049abedb461cc11a6d8ff64b53085d08d25a", func := "loop.example/g03403/laws.FnExactClaimWord", spec := "fnExactClaimWord", apart := false, narrowed := true }
def FnExactClaimWordUptoSaid : Prop := fnExactClaimWordUptoRow.holds Try.pinned (OpenSpec.upto fnExactClaimWordSpec)

/-- 'laws.FnExactKindNames', WHERE WHAT IT READS IS OF BULK AT MOST 1048576: true; the input reads as it did. -/
def fnExactKindNamesUptoRow : OpenClaim := { program := "ytpiipfkopncbeaa", sum := "af5cc982eb38dfc16ba4770086e0049abedb461cc11a6d8ff64b53085d08d25a", func := "loop.example/g03403/laws.FnExactKindNames", spec := "fnExactKindNames", apart := false, narrowed := true }
def FnExactKindNamesUptoSaid : Prop := fnExactKindNamesUptoRow.holds Try.pinned (OpenSpec.upto fnExactKindNamesSpec)

/-- 'laws.FnExactMeasureNames', WHERE WHAT IT READS IS OF BULK AT MOST 1048576: true; the input reads as it did. -/
def fnExactMeasureNamesUptoRow : OpenClaim := { program := "ytpiipfkopncbeaa", sum := "af5cc982eb38dfc16ba4770086e0049abedb461cc11a6d8ff64b53085d08d25a", func := "loop.example/g03403/laws.FnExactMeasureNames", spec := "fnExactMeasureNames", apart := false, narrowed := true }
def FnExactMeasureNamesUptoSaid : Prop := fnExactMeasureNamesUptoRow.holds Try.pinned (OpenSpec.upto fnExactMeasureNamesSpec)

/-- 'laws.FnExactRelationNames', WHERE WHAT IT READS IS OF BULK AT MOST 1048576: true; the input reads as it did. -/
def fnExactRelationNamesUptoRow : OpenClaim := { program := "ytpiipfkopncbeaa", sum := "af5cc982eb38dfc16ba4770086e0049abedb461cc11a6d8ff64b53085d08d25a", func := "loop.example/g03403/laws.FnExactRelationNames", spec := "fnExactRelationNames", apart := false, narrowed := true }
def FnExactRelationNamesUptoSaid : Prop := fnExactRelationNamesUptoRow.holds Try.pinned (OpenSpec.upto fnExactRelationNamesSpec)

/-- 'laws.FnExactStuckTable', WHERE WHAT IT READS IS OF BULK AT MOST 1048576: true; the input reads as it did. -/
def fnExactStuckTableUptoRow : OpenClaim := { program := "ytpiipfkopncbeaa", sum := "af5cc982eb38dfc16ba4770086e0049abedb461cc11a6d8ff64b53085d08d25a", func := "loop.example/g03403/laws.FnExactStuckTable", spec := "fnExactStuckTable", unfollowed := true, recurses := true, apart := false, narrowed := true }
def FnExactStuckTableUptoSaid : Prop := fnExactStuckTableUptoRow.holds Try.pinned (OpenSpec.upto fnExactStuckTableSpec)

/-- 'laws.FnExactCountDetectable', WHERE WHAT IT READS IS OF BULK AT MOST 1048576: true; the input reads as it did. -/
def fnExactCountDetectableUptoRow : OpenClaim := { program := "ytpiipfkopncbeaa", sum := "af5cc982eb38dfc16ba4770086e0049abedb461cc11a6d8ff64b53085d08d25a", func := "loop.example/g03403/laws.FnExactCountDetectable", spec := "fnExactCountDetectable", unfollowed := true, recurses := true, apart := false, narrowed := true }
def FnExactCountDetectableUptoSaid : Prop := fnExactCountDetectableUptoRow.holds Try.pinned (OpenSpec.upto fnExactCountDetectableSpec)

/-- 'laws.FnExactDetectedBy', WHERE WHAT IT READS IS OF BULK AT MOST 1048576: true; the input reads as it did. -/
def fnExactDetectedByUptoRow : OpenClaim := { program := "ytpiipfkopncbeaa", sum := "af5cc982eb38dfc16ba4770086e0049abedb461cc11a6d8ff64b53085d08d25a", func := "loop.example/g03403/laws.FnExactDetectedBy", spec := "fnExactDetectedBy", unfollowed := true, recurses := true, apart := false, narrowed := true }
def FnExactDetectedByUptoSaid : Prop := fnExactDetectedByUptoRow.holds Try.pinned (OpenSpec.upto fnExactDetectedBySpec)

/-- 'laws.FnExactEqualKept', WHERE WHAT IT READS IS OF BULK AT MOST 1048576: true; the input reads as it did. -/
def fnExactEqualKeptUptoRow : OpenClaim := { program := "ytpiipfkopncbeaa", sum := "af5cc982eb38dfc16ba4770086e0049abedb461cc11a6d8ff64b53085d08d25a", func := "loop.example/g03403/laws.FnExactEqualKept", spec := "fnExactEqualKept", apart := false, narrowed := true }
def FnExactEqualKeptUptoSaid : Prop := fnExactEqualKeptUptoRow.holds Try.pinned (OpenSpec.upto fnExactEqualKeptSpec)

/-- 'laws.FnExactDetectingInputs', WHERE WHAT IT READS IS OF BULK AT MOST 1048576: true; the input reads as it did. -/
def fnExactDetectingInputsUptoRow : OpenClaim := { program := "ytpiipfkopncbeaa", sum := "af5cc982eb38dfc16ba4770086e0049abedb461cc11a6d8ff64b53085d08d25a", func := "loop.example/g03403/laws.FnExactDetectingInputs", spec := "fnExactDetectingInputs", unfollowed := true, recurses := true, apart := false, narrowed := true }
def FnExactDetectingInputsUptoSaid : Prop := fnExactDetectingInputsUptoRow.holds Try.pinned (OpenSpec.upto fnExactDetectingInputsSpec)

/-- 'laws.FnExactIsTestSet', WHERE WHAT IT READS IS OF BULK AT MOST 1048576: true; the input reads as it did. -/
def fnExactIsTestSetUptoRow : OpenClaim := { program := "ytpiipfkopncbeaa", sum := "af5cc982eb38dfc16ba4770086e0049abedb461cc11a6d8ff64b53085d08d25a", func := "loop.example/g03403/laws.FnExactIsTestSet", spec := "fnExactIsTestSet", unfollowed := true, recurses := true, apart := false, narrowed := true }
def FnExactIsTestSetUptoSaid : Prop := fnExactIsTestSetUptoRow.holds Try.pinned (OpenSpec.upto fnExactIsTestSetSpec)

/-- 'laws.FnExactEqualClaims', WHERE WHAT IT READS IS OF BULK AT MOST 1048576: true; the input reads as it did. -/
def fnExactEqualClaimsUptoRow : OpenClaim := { program := "ytpiipfkopncbeaa", sum := "af5cc982eb38dfc16ba4770086e0049abedb461cc11a6d8ff64b53085d08d25a", func := "loop.example/g03403/laws.FnExactEqualClaims", spec := "fnExactEqualClaims", apart := false, narrowed := true }
def FnExactEqualClaimsUptoSaid : Prop := fnExactEqualClaimsUptoRow.holds Try.pinned (OpenSpec.upto fnExactEqualClaimsSpec)

/-- 'laws.FnExactNewKept', WHERE WHAT IT READS IS OF BULK AT MOST 1048576: true; the input reads as it did. -/
def fnExactNewKeptUptoRow : OpenClaim := { program := "ytpiipfkopncbeaa", sum := "af5cc982eb38dfc16ba4770086e0049abedb461cc11a6d8ff64b53085d08d25a", func := "loop.example/g03403/laws.FnExactNewKept", spec := "fnExactNewKept", apart := false, narrowed := true }
def FnExactNewKeptUptoSaid : Prop := fnExactNewKeptUptoRow.holds Try.pinned (OpenSpec.upto fnExactNewKeptSpec)

end Rows
end Go.Proofs.Ytpiipfkopncbeaa
