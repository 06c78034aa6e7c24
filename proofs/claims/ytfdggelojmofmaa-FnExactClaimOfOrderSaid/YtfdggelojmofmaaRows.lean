/-
  No cell of these rows narrows 'for every input' (looked for: loops, veiled, ifaces, maps, wideKeys, modest, calm, conditions, laid).
  DERIVED. THE GIVEN ROWS OF THIS SEAT. 5 by the template 'for every input the law returns true; each argument reads behind the call as it read before'; 0 by the template 'total and deterministic' (their statements: YtfdggelojmofmaaTotals.lean).
  GIVEN WITH THE SEED: the statements are not yours to turn. If you find one false, say at which input.
  Laid BY PROGRAM, IN A SANDBOX (cutbox-rows.mjs): the forced cells as the released guide's own fill.sh prints them over the translation 6c934568bbd51324… (all of the seat's roots in one cut). By AI agents, Wed Nov 11 2026. No macro, syntax, notation, axiom, sorry.
-/
import Derived.Test.YtfdggelojmofmaaChecked
import GoSem.Claim
import GoSem.ClaimJoined
import GoSem.ClaimMapViews
import Derived.JoinedTies
import Derived.KernelRfl
namespace Go.Proofs.Ytfdggelojmofmaa
/- THE CELL 'sum', in the pinned program and in every row, IS THE sha256 OF THE DUMP (.gsa) THAT YtfdggelojmofmaaProg.lean LOADS. Nothing in Lean hashes anything: it is a label: what it is worth is what the hold of that sum in a sandbox is worth. -/
noncomputable def Try.pinned : Pinned := { name := "ytfdggelojmofmaa", sum := "6c934568bbd513244134e7a2e85e3c09c7fe7a2daf0a0e42f77b22d539b88e06", checked := Try.checked }
namespace Rows
def none {H : Type} : Left H := { results := [], args := [] }

/-- 'laws.FnExactPushNegations': WHATEVER THE INPUT: true; the input reads as it did. -/
def fnExactPushNegationsSpec : ChangeSpec := { name := "fnExactPushNegations", fn := fun _ => fun
  | [d] => { results := [.lit (.bool true)], args := [d] }
  | _ => none }
def fnExactPushNegationsRow : OpenClaim := { program := "ytfdggelojmofmaa", sum := "6c934568bbd513244134e7a2e85e3c09c7fe7a2daf0a0e42f77b22d539b88e06", func := "loop.example/g03403/laws.FnExactPushNegations", spec := "fnExactPushNegations", recurses := true, plainKeys := false, apart := false }
def FnExactPushNegationsSaid : Prop := fnExactPushNegationsRow.holds Try.pinned (OpenSpec.ofChange fnExactPushNegationsSpec)

/-- ITS FALSE NEIGHBOUR: 'it returns false'. Refute it at one input. -/
def fnExactPushNegationsWrong : ChangeSpec := { name := "fnExactPushNegations", fn := fun _ => fun
  | [d] => { results := [.lit (.bool false)], args := [d] }
  | _ => none }
def FnExactPushNegationsWrongFalsely : Prop := fnExactPushNegationsRow.holds Try.pinned (OpenSpec.ofChange fnExactPushNegationsWrong)

/-- 'laws.FnExactClaimOfThreshold': WHATEVER THE INPUT: true; the input reads as it did. -/
def fnExactClaimOfThresholdSpec : ChangeSpec := { name := "fnExactClaimOfThreshold", fn := fun _ => fun
  | [d] => { results := [.lit (.bool true)], args := [d] }
  | _ => none }
def fnExactClaimOfThresholdRow : OpenClaim := { program := "ytfdggelojmofmaa", sum := "6c934568bbd513244134e7a2e85e3c09c7fe7a2daf0a0e42f77b22d539b88e06", func := "loop.example/g03403/laws.FnExactClaimOfThreshold", spec := "fnExactClaimOfThreshold", plainKeys := false, apart := false }
def FnExactClaimOfThresholdSaid : Prop := fnExactClaimOfThresholdRow.holds Try.pinned (OpenSpec.ofChange fnExactClaimOfThresholdSpec)

/-- ITS FALSE NEIGHBOUR: 'it returns false'. Refute it at one input. -/
def fnExactClaimOfThresholdWrong : ChangeSpec := { name := "fnExactClaimOfThreshold", fn := fun _ => fun
  | [d] => { results := [.lit (.bool false)], args := [d] }
  | _ => none }
def FnExactClaimOfThresholdWrongFalsely : Prop := fnExactClaimOfThresholdRow.holds Try.pinned (OpenSpec.ofChange fnExactClaimOfThresholdWrong)

/-- 'laws.FnExactBrokenRelations': WHATEVER THE INPUT: true; the input reads as it did. -/
def fnExactBrokenRelationsSpec : ChangeSpec := { name := "fnExactBrokenRelations", fn := fun _ => fun
  | [d] => { results := [.lit (.bool true)], args := [d] }
  | _ => none }
def fnExactBrokenRelationsRow : OpenClaim := { program := "ytfdggelojmofmaa", sum := "6c934568bbd513244134e7a2e85e3c09c7fe7a2daf0a0e42f77b22d539b88e06", func := "loop.example/g03403/laws.FnExactBrokenRelations", spec := "fnExactBrokenRelations", unfollowed := true, recurses := true, plainKeys := false, apart := false }
def FnExactBrokenRelationsSaid : Prop := fnExactBrokenRelationsRow.holds Try.pinned (OpenSpec.ofChange fnExactBrokenRelationsSpec)

/-- ITS FALSE NEIGHBOUR: 'it returns false'. Refute it at one input. -/
def fnExactBrokenRelationsWrong : ChangeSpec := { name := "fnExactBrokenRelations", fn := fun _ => fun
  | [d] => { results := [.lit (.bool false)], args := [d] }
  | _ => none }
def FnExactBrokenRelationsWrongFalsely : Prop := fnExactBrokenRelationsRow.holds Try.pinned (OpenSpec.ofChange fnExactBrokenRelationsWrong)

/-- 'laws.FnExactClaimOfOrder': WHATEVER THE INPUT: true; the input reads as it did. -/
def fnExactClaimOfOrderSpec : ChangeSpec := { name := "fnExactClaimOfOrder", fn := fun _ => fun
  | [d] => { results := [.lit (.bool true)], args := [d] }
  | _ => none }
def fnExactClaimOfOrderRow : OpenClaim := { program := "ytfdggelojmofmaa", sum := "6c934568bbd513244134e7a2e85e3c09c7fe7a2daf0a0e42f77b22d539b88e06", func := "loop.example/g03403/laws.FnExactClaimOfOrder", spec := "fnExactClaimOfOrder", unfollowed := true, recurses := true, plainKeys := false, apart := false }
def FnExactClaimOfOrderSaid : Prop := fnExactClaimOfOrderRow.holds Try.pinned (OpenSpec.ofChange fnExactClaimOfOrderSpec)

/-- ITS FALSE NEIGHBOUR: 'it returns false'. Refute it at one input. -/
def fnExactClaimOfOrderWrong : ChangeSpec := { name := "fnExactClaimOfOrder", fn := fun _ => fun
  | [d] => { results := [.lit (.bool false)], args := [d] }
  | _ => none }
def FnExactClaimOfOrderWrongFalsely : Prop := fnExactClaimOfOrderRow.holds Try.pinned (OpenSpec.ofChange fnExactClaimOfOrderWrong)

/-- 'laws.FnFormulas': WHATEVER THE INPUT: true; the input reads as it did. -/
def fnFormulasSpec : ChangeSpec := { name := "fnFormulas", fn := fun _ => fun
  | [d] => { results := [.lit (.bool true)], args := [d] }
  | _ => none }
def fnFormulasRow : OpenClaim := { program := "ytfdggelojmofmaa", sum := "6c934568bbd513244134e7a2e85e3c09c7fe7a2daf0a0e42f77b22d539b88e06", func := "loop.example/g03403/laws.FnFormulas", spec := "fnFormulas", inPlace := ["internal/bytealg.IndexByteString", "internal/bytealg.IndexString", "internal/bytealg.CountString"], unfollowed := true, recurses := true, named := ["internal/bytealg.MaxLen"], plainKeys := false, apart := false }
def FnFormulasSaid : Prop := fnFormulasRow.holds Try.pinned (OpenSpec.ofChange fnFormulasSpec)

/-- ITS FALSE NEIGHBOUR: 'it returns false'. Refute it at one input. -/
def fnFormulasWrong : ChangeSpec := { name := "fnFormulas", fn := fun _ => fun
  | [d] => { results := [.lit (.bool false)], args := [d] }
  | _ => none }
def FnFormulasWrongFalsely : Prop := fnFormulasRow.holds Try.pinned (OpenSpec.ofChange fnFormulasWrong)

/- THE SECOND FORM. 'bulk': how many values and letters a reading holds, each counted each time it is reached (what is shared counts as often as it is met; a slice's spare places count too). A statement '..UptoSaid' is the law's where the arguments, and the package variables that the reading takes, are together of bulk at most 1048576: NARROWER than '..Said'. Prove '..Said' where nothing that the law and all that it calls make is longer than what came in: it says more and counts as full. Else prove '..UptoSaid'. A law counts once. -/
mutual
def uptoBulk {H : Type} : DataW H → Nat
  | .lit (.string bytes) => bytes.length + 1
  | .lit _ => 1
  | .nil => 1
  | .ptr d => uptoBulk d + 1
  | .slice elems spare => uptoBulkAll elems + uptoBulkAll spare + 1
  | .agg parts => uptoBulkAll parts + 1
  | .iface _ d => uptoBulk d + 1
  | .map entries => uptoBulkEntries entries + 1
  | .held _ => 1
def uptoBulkAll {H : Type} : List (DataW H) → Nat
  | [] => 0
  | d :: r => uptoBulk d + uptoBulkAll r
def uptoBulkEntries {H : Type} : List (Lit × DataW H) → Nat
  | [] => 0
  | x :: r => uptoBulkEntry x + uptoBulkEntries r
def uptoBulkEntry {H : Type} : Lit × DataW H → Nat
  | (.string bytes, d) => bytes.length + uptoBulk d + 1
  | (_, d) => uptoBulk d + 1
 end
def uptoSmall : (H : Type) → List (DataW H) → Bool := fun _ ds => decide (uptoBulkAll ds ≤ 1048576)
def OpenSpec.upto (s : _root_.Go.ChangeSpec) : _root_.Go.OpenSpec := { _root_.Go.OpenSpec.ofChange s with cond := some uptoSmall }

/-- 'laws.FnExactPushNegations', WHERE WHAT IT READS IS OF BULK AT MOST 1048576: true; the input reads as it did. -/
def fnExactPushNegationsUptoRow : OpenClaim := { program := "ytfdggelojmofmaa", sum := "6c934568bbd513244134e7a2e85e3c09c7fe7a2daf0a0e42f77b22d539b88e06", func := "loop.example/g03403/laws.FnExactPushNegations", spec := "fnExactPushNegations", recurses := true, plainKeys := false, apart := false, narrowed := true }
def FnExactPushNegationsUptoSaid : Prop := fnExactPushNegationsUptoRow.holds Try.pinned (OpenSpec.upto fnExactPushNegationsSpec)

/-- 'laws.FnExactClaimOfThreshold', WHERE WHAT IT READS IS OF BULK AT MOST 1048576: true; the input reads as it did. -/
def fnExactClaimOfThresholdUptoRow : OpenClaim := { program := "ytfdggelojmofmaa", sum := "6c934568bbd513244134e7a2e85e3c09c7fe7a2daf0a0e42f77b22d539b88e06", func := "loop.example/g03403/laws.FnExactClaimOfThreshold", spec := "fnExactClaimOfThreshold", plainKeys := false, apart := false, narrowed := true }
def FnExactClaimOfThresholdUptoSaid : Prop := fnExactClaimOfThresholdUptoRow.holds Try.pinned (OpenSpec.upto fnExactClaimOfThresholdSpec)

/-- 'laws.FnExactBrokenRelations', WHERE WHAT IT READS IS OF BULK AT MOST 1048576: true; the input reads as it did. -/
def fnExactBrokenRelationsUptoRow : OpenClaim := { program := "ytfdggelojmofmaa", sum := "6c934568bbd513244134e7a2e85e3c09c7fe7a2daf0a0e42f77b22d539b88e06", func := "loop.example/g03403/laws.FnExactBrokenRelations", spec := "fnExactBrokenRelations", unfollowed := true, recurses := true, plainKeys := false, apart := false, narrowed := true }
def FnExactBrokenRelationsUptoSaid : Prop := fnExactBrokenRelationsUptoRow.holds Try.pinned (OpenSpec.upto fnExactBrokenRelationsSpec)

/-- 'laws.FnExactClaimOfOrder', WHERE WHAT IT READS IS OF BULK AT MOST 1048576: true; the input reads as it did. -/
def fnExactClaimOfOrderUptoRow : OpenClaim := { program := "ytfdggelojmofmaa", sum := "6c934568bbd513244134e7a2e85e3c09c7fe7a2daf0a0e42f77b22d539b88e06", func := "loop.example/g03403/laws.FnExactClaimOfOrder", spec := "fnExactClaimOfOrder", unfollowed := true, recurses := true, plainKeys := false, apart := false, narrowed := true }
def FnExactClaimOfOrderUptoSaid : Prop := fnExactClaimOfOrderUptoRow.holds Try.pinned (OpenSpec.upto fnExactClaimOfOrderSpec)

/-- 'laws.FnFormulas', WHERE WHAT IT READS IS OF BULK AT MOST 1048576: true; the input reads as it did. -/
def fnFormulasUptoRow : OpenClaim := { program := "ytfdggelojmofmaa", sum := "6c934568bbd513244134e7a2e85e3c09c7fe7a2daf0a0e42f77b22d539b88e06", func := "loop.example/g03403/laws.FnFormulas", spec := "fnFormulas", inPlace := ["internal/bytealg.IndexByteString", "internal/bytealg.IndexString", "internal/bytealg.CountString"], unfollowed := true, recurses := true, named := ["internal/bytealg.MaxLen"], plainKeys := false, apart := false, narrowed := true }
def FnFormulasUptoSaid : Prop := fnFormulasUptoRow.holds Try.pinned (OpenSpec.upto fnFormulasSpec)

end Rows
end Go.Proofs.Ytfdggelojmofmaa
