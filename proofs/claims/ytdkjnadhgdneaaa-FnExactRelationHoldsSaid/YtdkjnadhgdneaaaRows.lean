/-
  No cell of these rows narrows 'for every input' (looked for: loops, veiled, ifaces, maps, wideKeys, modest, calm, conditions, laid).
  DERIVED. THE GIVEN ROWS OF THIS SEAT. 5 by the template 'for every input the law returns true; each argument reads behind the call as it read before'; 0 by the template 'total and deterministic' (their statements: YtdkjnadhgdneaaaTotals.lean).
  GIVEN WITH THE SEED: the statements are not yours to turn. If you find one false, say at which input.
  Laid BY PROGRAM, IN A SANDBOX (cutbox-rows.mjs): the forced cells as the released guide's own fill.sh prints them over the translation 48516008255181f3… (all of the seat's roots in one cut). By AI agents, Wed Nov 11 2026. No macro, syntax, notation, axiom, sorry.
-/
import Derived.Test.YtdkjnadhgdneaaaChecked
import GoSem.Claim
import GoSem.ClaimJoined
import GoSem.ClaimMapViews
import Derived.JoinedTies
import Derived.KernelRfl
namespace Go.Proofs.Ytdkjnadhgdneaaa
/- THE CELL 'sum', in the pinned program and in every row, IS THE sha256 OF THE DUMP (.gsa) THAT YtdkjnadhgdneaaaProg.lean LOADS. Nothing in Lean hashes anything: it is a label: what it is worth is what the hold of that sum in a sandbox is worth. -/
noncomputable def Try.pinned : Pinned := { name := "ytdkjnadhgdneaaa", sum := "48516008255181f3916ec87d236ea83c1d8c93edb00cd3ba98dd517dfcbe6853", checked := Try.checked }
namespace Rows
def none {H : Type} : Left H := { results := [], args := [] }

/-- 'laws.FnEdits': WHATEVER THE INPUT: true; the input reads as it did. -/
def fnEditsSpec : ChangeSpec := { name := "fnEdits", fn := fun _ => fun
  | [d] => { results := [.lit (.bool true)], args := [d] }
  | _ => none }
def fnEditsRow : OpenClaim := { program := "ytdkjnadhgdneaaa", sum := "48516008255181f3916ec87d236ea83c1d8c93edb00cd3ba98dd517dfcbe6853", func := "loop.example/g03403/laws.FnEdits", spec := "fnEdits", plainKeys := false, apart := false }
def FnEditsSaid : Prop := fnEditsRow.holds Try.pinned (OpenSpec.ofChange fnEditsSpec)

/-- ITS FALSE NEIGHBOUR: 'it returns false'. Refute it at one input. -/
def fnEditsWrong : ChangeSpec := { name := "fnEdits", fn := fun _ => fun
  | [d] => { results := [.lit (.bool false)], args := [d] }
  | _ => none }
def FnEditsWrongFalsely : Prop := fnEditsRow.holds Try.pinned (OpenSpec.ofChange fnEditsWrong)

/-- 'laws.FnFaults': WHATEVER THE INPUT: true; the input reads as it did. -/
def fnFaultsSpec : ChangeSpec := { name := "fnFaults", fn := fun _ => fun
  | [d] => { results := [.lit (.bool true)], args := [d] }
  | _ => none }
def fnFaultsRow : OpenClaim := { program := "ytdkjnadhgdneaaa", sum := "48516008255181f3916ec87d236ea83c1d8c93edb00cd3ba98dd517dfcbe6853", func := "loop.example/g03403/laws.FnFaults", spec := "fnFaults", unfollowed := true, recurses := true, plainKeys := false, apart := false }
def FnFaultsSaid : Prop := fnFaultsRow.holds Try.pinned (OpenSpec.ofChange fnFaultsSpec)

/-- ITS FALSE NEIGHBOUR: 'it returns false'. Refute it at one input. -/
def fnFaultsWrong : ChangeSpec := { name := "fnFaults", fn := fun _ => fun
  | [d] => { results := [.lit (.bool false)], args := [d] }
  | _ => none }
def FnFaultsWrongFalsely : Prop := fnFaultsRow.holds Try.pinned (OpenSpec.ofChange fnFaultsWrong)

/-- 'laws.FnExactMeasureOf': WHATEVER THE INPUT: true; the input reads as it did. -/
def fnExactMeasureOfSpec : ChangeSpec := { name := "fnExactMeasureOf", fn := fun _ => fun
  | [d1, d2] => { results := [.lit (.bool true)], args := [d1, d2] }
  | _ => none }
def fnExactMeasureOfRow : OpenClaim := { program := "ytdkjnadhgdneaaa", sum := "48516008255181f3916ec87d236ea83c1d8c93edb00cd3ba98dd517dfcbe6853", func := "loop.example/g03403/laws.FnExactMeasureOf", spec := "fnExactMeasureOf", unfollowed := true, recurses := true, plainKeys := false, apart := false }
def FnExactMeasureOfSaid : Prop := fnExactMeasureOfRow.holds Try.pinned (OpenSpec.ofChange fnExactMeasureOfSpec)

/-- ITS FALSE NEIGHBOUR: 'it returns false'. Refute it at one input. -/
def fnExactMeasureOfWrong : ChangeSpec := { name := "fnExactMeasureOf", fn := fun _ => fun
  | [d1, d2] => { results := [.lit (.bool false)], args := [d1, d2] }
  | _ => none }
def FnExactMeasureOfWrongFalsely : Prop := fnExactMeasureOfRow.holds Try.pinned (OpenSpec.ofChange fnExactMeasureOfWrong)

/-- 'laws.FnExactMaximumOf': WHATEVER THE INPUT: true; the input reads as it did. -/
def fnExactMaximumOfSpec : ChangeSpec := { name := "fnExactMaximumOf", fn := fun _ => fun
  | [d1, d2] => { results := [.lit (.bool true)], args := [d1, d2] }
  | _ => none }
def fnExactMaximumOfRow : OpenClaim := { program := "ytdkjnadhgdneaaa", sum := "48516008255181f3916ec87d236ea83c1d8c93edb00cd3ba98dd517dfcbe6853", func := "loop.example/g03403/laws.FnExactMaximumOf", spec := "fnExactMaximumOf", unfollowed := true, recurses := true, plainKeys := false, apart := false }
def FnExactMaximumOfSaid : Prop := fnExactMaximumOfRow.holds Try.pinned (OpenSpec.ofChange fnExactMaximumOfSpec)

/-- ITS FALSE NEIGHBOUR: 'it returns false'. Refute it at one input. -/
def fnExactMaximumOfWrong : ChangeSpec := { name := "fnExactMaximumOf", fn := fun _ => fun
  | [d1, d2] => { results := [.lit (.bool false)], args := [d1, d2] }
  | _ => none }
def FnExactMaximumOfWrongFalsely : Prop := fnExactMaximumOfRow.holds Try.pinned (OpenSpec.ofChange fnExactMaximumOfWrong)

/-- 'laws.FnExactRelationHolds': WHATEVER THE INPUT: true; the input reads as it did. -/
def fnExactRelationHoldsSpec : ChangeSpec := { name := "fnExactRelationHolds", fn := fun _ => fun
  | [d1, d2] => { results := [.lit (.bool true)], args := [d1, d2] }
  | _ => none }
def fnExactRelationHoldsRow : OpenClaim := { program := "ytdkjnadhgdneaaa", sum := "48516008255181f3916ec87d236ea83c1d8c93edb00cd3ba98dd517dfcbe6853", func := "loop.example/g03403/laws.FnExactRelationHolds", spec := "fnExactRelationHolds", unfollowed := true, recurses := true, plainKeys := false, apart := false }
def FnExactRelationHoldsSaid : Prop := fnExactRelationHoldsRow.holds Try.pinned (OpenSpec.ofChange fnExactRelationHoldsSpec)

/-- ITS FALSE NEIGHBOUR: 'it returns false'. Refute it at one input. -/
def fnExactRelationHoldsWrong : ChangeSpec := { name := "fnExactRelationHolds", fn := fun _ => fun
  | [d1, d2] => { results := [.lit (.bool false)], args := [d1, d2] }
  | _ => none }
def FnExactRelationHoldsWrongFalsely : Prop := fnExactRelationHoldsRow.holds Try.pinned (OpenSpec.ofChange fnExactRelationHoldsWrong)

/- THE SECOND FORM. 'bulk': how many values and letters a reading holds, each counted each time it is reached (what is shared counts as often as it is met; a slice's spare places count too). A statement '..UptoSaid' is the law's where the arguments, and the package variables that the reading takes, are together of bulk at most 1048576: NARROWER than '..Said'. Prove '..Said' where nothing that the law and all that it calls make is longer than what came in: it says more and counts as full. Else prove '..UptoSaid'. A law counts once. -/
mutual
def uptoBulk {H : Type} : DataW H → Nat
  | .lit (.string bytes) => bytes.length + 1
  | .lit _ => 1
  | .nil => 1
  | .ptr d => uptoBulk d + 1
  | .slice elems spare => uptoBulkAll elems + uptoBulkAll spare + 1
  | .agg parts => uptoBulkAll parts + 1
  | .iface _ d => uptoBulk d + 1
  | .map entries => uptoBulkEntries entries + 1
  | .held _ => 1
def uptoBulkAll {H : Type} : List (DataW H) → Nat
  | [] => 0
  | d :: r => uptoBulk d + uptoBulkAll r
def uptoBulkEntries {H : Type} : List (Lit × DataW H) → Nat
  | [] => 0
  | x :: r => uptoBulkEntry x + uptoBulkEntries r
def uptoBulkEntry {H : Type} : Lit × DataW H → Nat
  | (.string bytes, d) => bytes.length + uptoBulk d + 1
  | (_, d) => uptoBulk d + 1
 end
def uptoSmall : (H : Type) → List (DataW H) → Bool := fun _ ds => decide (uptoBulkAll ds ≤ 1048576)
def OpenSpec.upto (s : _root_.Go.ChangeSpec) : _root_.Go.OpenSpec := { _root_.Go.OpenSpec.ofChange s with cond := some uptoSmall }

/-- 'laws.FnEdits', WHERE WHAT IT READS IS OF BULK AT MOST 1048576: true; the input reads as it did. -/
def fnEditsUptoRow : OpenClaim := { program := "ytdkjnadhgdneaaa", sum := "48516008255181f3916ec87d236ea83c1d8c93edb00cd3ba98dd517dfcbe6853", func := "loop.example/g03403/laws.FnEdits", spec := "fnEdits", plainKeys := false, apart := false, narrowed := true }
def FnEditsUptoSaid : Prop := fnEditsUptoRow.holds Try.pinned (OpenSpec.upto fnEditsSpec)

/-- 'laws.FnFaults', WHERE WHAT IT READS IS OF BULK AT MOST 1048576: true; the input reads as it did. -/
def fnFaultsUptoRow : OpenClaim := { program := "ytdkjnadhgdneaaa", sum := "48516008255181f3916ec87d236ea83c1d8c93edb00cd3ba98dd517dfcbe6853", func := "loop.example/g03403/laws.FnFaults", spec := "fnFaults", unfollowed := true, recurses := true, plainKeys := false, apart := false, narrowed := true }
def FnFaultsUptoSaid : Prop := fnFaultsUptoRow.holds Try.pinned (OpenSpec.upto fnFaultsSpec)

/-- 'laws.FnExactMeasureOf', WHERE WHAT IT READS IS OF BULK AT MOST 1048576: true; the input reads as it did. -/
def fnExactMeasureOfUptoRow : OpenClaim := { program := "ytdkjnadhgdneaaa", sum := "48516008255181f3916ec87d236ea83c1d8c93edb00cd3ba98dd517dfcbe6853", func := "loop.example/g03403/laws.FnExactMeasureOf", spec := "fnExactMeasureOf", unfollowed := true, recurses := true, plainKeys := false, apart := false, narrowed := true }
def FnExactMeasureOfUptoSaid : Prop := fnExactMeasureOfUptoRow.holds Try.pinned (OpenSpec.upto fnExactMeasureOfSpec)

/-- 'laws.FnExactMaximumOf', WHERE WHAT IT READS IS OF BULK AT MOST 1048576: true; the input reads as it did. -/
def fnExactMaximumOfUptoRow : OpenClaim := { program := "ytdkjnadhgdneaaa", sum := "48516008255181f3916ec87d236ea83c1d8c93edb00cd3ba98dd517dfcbe6853", func := "loop.example/g03403/laws.FnExactMaximumOf", spec := "fnExactMaximumOf", unfollowed := true, recurses := true, plainKeys := false, apart := false, narrowed := true }
def FnExactMaximumOfUptoSaid : Prop := fnExactMaximumOfUptoRow.holds Try.pinned (OpenSpec.upto fnExactMaximumOfSpec)

/-- 'laws.FnExactRelationHolds', WHERE WHAT IT READS IS OF BULK AT MOST 1048576: true; the input reads as it did. -/
def fnExactRelationHoldsUptoRow : OpenClaim := { program := "ytdkjnadhgdneaaa", sum := "48516008255181f3916ec87d236ea83c1d8c93edb00cd3ba98dd517dfcbe6853", func := "loop.example/g03403/laws.FnExactRelationHolds", spec := "fnExactRelationHolds", unfollowed := true, recurses := true, plainKeys := false, apart := false, narrowed := true }
def FnExactRelationHoldsUptoSaid : Prop := fnExactRelationHoldsUptoRow.holds Try.pinned (OpenSpec.upto fnExactRelationHoldsSpec)

end Rows
end Go.Proofs.Ytdkjnadhgdneaaa
