/-
  No cell of these rows narrows 'for every input' (looked for: loops, veiled, ifaces, maps, wideKeys, modest, calm, conditions, laid).
  DERIVED. THE GIVEN ROWS OF THIS SEAT. 9 by the template 'for every input the law returns true; each argument reads behind the call as it read before'; 0 by the template 'total and deterministic' (their statements: YtdjmbggefcfacaaTotals.lean).
  GIVEN WITH THE SEED: the statements are not yours to turn. If you find one false, say at which input.
  Laid BY PROGRAM, IN A SANDBOX (cutbox-rows.mjs): the forced cells as the released guide's own fill.sh prints them over the translation eb86e3268e36bb2b… (all of the seat's roots in one cut). By AI agents, Wed Nov 11 2026. No macro, syntax, notation, axiom, sorry.
-/
import Derived.Test.YtdjmbggefcfacaaChecked
import GoSem.Claim
import GoSem.ClaimJoined
import GoSem.ClaimMapViews
import Derived.JoinedTies
import Derived.KernelRfl
namespace Go.Proofs.Ytdjmbggefcfacaa
/- THE CELL 'sum', in the pinned program and in every row, IS THE sha256 OF THE DUMP (.gsa) THAT YtdjmbggefcfacaaProg.lean LOADS. Nothing in Lean hashes anything: it is a label: what it is worth is what the hold of that sum in a sandbox is worth. -/
noncomputable def Try.pinned : Pinned := { name := "ytdjmbggefcfacaa", sum := "eb86e3268e36bb2ba5ed2d367b75250d107b202ad85b85e5f386e60e770d9c45", checked := Try.checked }
namespace Rows
def none {H : Type} : Left H := { results := [], args := [] }

/-- 'laws.FnExactNewKept': WHATEVER THE INPUT: true; the input reads as it did. -/
def fnExactNewKeptSpec : ChangeSpec := { name := "fnExactNewKept", fn := fun _ => fun
  | [d] => { results := [.lit (.bool true)], args := [d] }
  | _ => none }
def fnExactNewKeptRow : OpenClaim := { program := "ytdjmbggefcfacaa", sum := "eb86e3268e36bb2ba5ed2d367b75250d107b202ad85b85e5f386e60e770d9c45", func := "loop.example/g03403/laws.FnExactNewKept", spec := "fnExactNewKept", plainKeys := false, apart := false }
def FnExactNewKeptSaid : Prop := fnExactNewKeptRow.holds Try.pinned (OpenSpec.ofChange fnExactNewKeptSpec)

/-- ITS FALSE NEIGHBOUR: 'it returns false'. Refute it at one input. -/
def fnExactNewKeptWrong : ChangeSpec := { name := "fnExactNewKept", fn := fun _ => fun
  | [d] => { results := [.lit (.bool false)], args := [d] }
  | _ => none }
def FnExactNewKeptWrongFalsely : Prop := fnExactNewKeptRow.holds Try.pinned (OpenSpec.ofChange fnExactNewKeptWrong)

/-- 'laws.FnExactLeastTestSet': WHATEVER THE INPUT: true; the input reads as it did. -/
def fnExactLeastTestSetSpec : ChangeSpec := { name := "fnExactLeastTestSet", fn := fun _ => fun
  | [d] => { results := [.lit (.bool true)], args := [d] }
  | _ => none }
def fnExactLeastTestSetRow : OpenClaim := { program := "ytdjmbggefcfacaa", sum := "eb86e3268e36bb2ba5ed2d367b75250d107b202ad85b85e5f386e60e770d9c45", func := "loop.example/g03403/laws.FnExactLeastTestSet", spec := "fnExactLeastTestSet", unfollowed := true, recurses := true, plainKeys := false, apart := false }
def FnExactLeastTestSetSaid : Prop := fnExactLeastTestSetRow.holds Try.pinned (OpenSpec.ofChange fnExactLeastTestSetSpec)

/-- ITS FALSE NEIGHBOUR: 'it returns false'. Refute it at one input. -/
def fnExactLeastTestSetWrong : ChangeSpec := { name := "fnExactLeastTestSet", fn := fun _ => fun
  | [d] => { results := [.lit (.bool false)], args := [d] }
  | _ => none }
def FnExactLeastTestSetWrongFalsely : Prop := fnExactLeastTestSetRow.holds Try.pinned (OpenSpec.ofChange fnExactLeastTestSetWrong)

/-- 'laws.FnExactIsKept': WHATEVER THE INPUT: true; the input reads as it did. -/
def fnExactIsKeptSpec : ChangeSpec := { name := "fnExactIsKept", fn := fun _ => fun
  | [d] => { results := [.lit (.bool true)], args := [d] }
  | _ => none }
def fnExactIsKeptRow : OpenClaim := { program := "ytdjmbggefcfacaa", sum := "eb86e3268e36bb2ba5ed2d367b75250d107b202ad85b85e5f386e60e770d9c45", func := "loop.example/g03403/laws.FnExactIsKept", spec := "fnExactIsKept", plainKeys := false, apart := false }
def FnExactIsKeptSaid : Prop := fnExactIsKeptRow.holds Try.pinned (OpenSpec.ofChange fnExactIsKeptSpec)

/-- ITS FALSE NEIGHBOUR: 'it returns false'. Refute it at one input. -/
def fnExactIsKeptWrong : ChangeSpec := { name := "fnExactIsKept", fn := fun _ => fun
  | [d] => { results := [.lit (.bool false)], args := [d] }
  | _ => none }
def FnExactIsKeptWrongFalsely : Prop := fnExactIsKeptRow.holds Try.pinned (OpenSpec.ofChange fnExactIsKeptWrong)

/-- 'laws.FnExactClaimOfTests': WHATEVER THE INPUT: true; the input reads as it did. -/
def fnExactClaimOfTestsSpec : ChangeSpec := { name := "fnExactClaimOfTests", fn := fun _ => fun
  | [d] => { results := [.lit (.bool true)], args := [d] }
  | _ => none }
def fnExactClaimOfTestsRow : OpenClaim := { program := "ytdjmbggefcfacaa", sum := "eb86e3268e36bb2ba5ed2d367b75250d107b202ad85b85e5f386e60e770d9c45", func := "loop.example/g03403/laws.FnExactClaimOfTests", spec := "fnExactClaimOfTests", unfollowed := true, recurses := true, plainKeys := false, apart := false }
def FnExactClaimOfTestsSaid : Prop := fnExactClaimOfTestsRow.holds Try.pinned (OpenSpec.ofChange fnExactClaimOfTestsSpec)

/-- ITS FALSE NEIGHBOUR: 'it returns false'. Refute it at one input. -/
def fnExactClaimOfTestsWrong : ChangeSpec := { name := "fnExactClaimOfTests", fn := fun _ => fun
  | [d] => { results := [.lit (.bool false)], args := [d] }
  | _ => none }
def FnExactClaimOfTestsWrongFalsely : Prop := fnExactClaimOfTestsRow.holds Try.pinned (OpenSpec.ofChange fnExactClaimOfTestsWrong)

/-- 'laws.FnExactFlipAt': WHATEVER THE INPUT: true; the input reads as it did. -/
def fnExactFlipAtSpec : ChangeSpec := { name := "fnExactFlipAt", fn := fun _ => fun
  | [d1, d2] => { results := [.lit (.bool true)], args := [d1, d2] }
  | _ => none }
def fnExactFlipAtRow : OpenClaim := { program := "ytdjmbggefcfacaa", sum := "eb86e3268e36bb2ba5ed2d367b75250d107b202ad85b85e5f386e60e770d9c45", func := "loop.example/g03403/laws.FnExactFlipAt", spec := "fnExactFlipAt", plainKeys := false, apart := false }
def FnExactFlipAtSaid : Prop := fnExactFlipAtRow.holds Try.pinned (OpenSpec.ofChange fnExactFlipAtSpec)

/-- ITS FALSE NEIGHBOUR: 'it returns false'. Refute it at one input. -/
def fnExactFlipAtWrong : ChangeSpec := { name := "fnExactFlipAt", fn := fun _ => fun
  | [d1, d2] => { results := [.lit (.bool false)], args := [d1, d2] }
  | _ => none }
def FnExactFlipAtWrongFalsely : Prop := fnExactFlipAtRow.holds Try.pinned (OpenSpec.ofChange fnExactFlipAtWrong)

/-- 'laws.FnExactFlipAll': WHATEVER THE INPUT: true; the input reads as it did. -/
def fnExactFlipAllSpec : ChangeSpec := { name := "fnExactFlipAll", fn := fun _ => fun
  | [d1, d2] => { results := [.lit (.bool true)], args := [d1, d2] }
  | _ => none }
def fnExactFlipAllRow : OpenClaim := { program := "ytdjmbggefcfacaa", sum := "eb86e3268e36bb2ba5ed2d367b75250d107b202ad85b85e5f386e60e770d9c45", func := "loop.example/g03403/laws.FnExactFlipAll", spec := "fnExactFlipAll", plainKeys := false, apart := false }
def FnExactFlipAllSaid : Prop := fnExactFlipAllRow.holds Try.pinned (OpenSpec.ofChange fnExactFlipAllSpec)

/-- ITS FALSE NEIGHBOUR: 'it returns false'. Refute it at one input. -/
def fnExactFlipAllWrong : ChangeSpec := { name := "fnExactFlipAll", fn := fun _ => fun
  | [d1, d2] => { results := [.lit (.bool false)], args := [d1, d2] }
  | _ => none }
def FnExactFlipAllWrongFalsely : Prop := fnExactFlipAllRow.holds Try.pinned (OpenSpec.ofChange fnExactFlipAllWrong)

/-- 'laws.FnExactClaimOfThreshold': WHATEVER THE INPUT: true; the input reads as it did. -/
def fnExactClaimOfThresholdSpec : ChangeSpec := { name := "fnExactClaimOfThreshold", fn := fun _ => fun
  | [d] => { results := [.lit (.bool true)], args := [d] }
  | _ => none }
def fnExactClaimOfThresholdRow : OpenClaim := { program := "ytdjmbggefcfacaa", sum := "eb86e3268e36bb2ba5ed2d367b75250d107b202ad85b85e5f386e60e770d9c45", func := "loop.example/g03403/laws.FnExactClaimOfThreshold", spec := "fnExactClaimOfThreshold", plainKeys := false, apart := false }
def FnExactClaimOfThresholdSaid : Prop := fnExactClaimOfThresholdRow.holds Try.pinned (OpenSpec.ofChange fnExactClaimOfThresholdSpec)

/-- ITS FALSE NEIGHBOUR: 'it returns false'. Refute it at one input. -/
def fnExactClaimOfThresholdWrong : ChangeSpec := { name := "fnExactClaimOfThreshold", fn := fun _ => fun
  | [d] => { results := [.lit (.bool false)], args := [d] }
  | _ => none }
def FnExactClaimOfThresholdWrongFalsely : Prop := fnExactClaimOfThresholdRow.holds Try.pinned (OpenSpec.ofChange fnExactClaimOfThresholdWrong)

/-- 'laws.FnExactPushNegations': WHATEVER THE INPUT: true; the input reads as it did. -/
def fnExactPushNegationsSpec : ChangeSpec := { name := "fnExactPushNegations", fn := fun _ => fun
  | [d] => { results := [.lit (.bool true)], args := [d] }
  | _ => none }
def fnExactPushNegationsRow : OpenClaim := { program := "ytdjmbggefcfacaa", sum := "eb86e3268e36bb2ba5ed2d367b75250d107b202ad85b85e5f386e60e770d9c45", func := "loop.example/g03403/laws.FnExactPushNegations", spec := "fnExactPushNegations", recurses := true, plainKeys := false, apart := false }
def FnExactPushNegationsSaid : Prop := fnExactPushNegationsRow.holds Try.pinned (OpenSpec.ofChange fnExactPushNegationsSpec)

/-- ITS FALSE NEIGHBOUR: 'it returns false'. Refute it at one input. -/
def fnExactPushNegationsWrong : ChangeSpec := { name := "fnExactPushNegations", fn := fun _ => fun
  | [d] => { results := [.lit (.bool false)], args := [d] }
  | _ => none }
def FnExactPushNegationsWrongFalsely : Prop := fnExactPushNegationsRow.holds Try.pinned (OpenSpec.ofChange fnExactPushNegationsWrong)

/-- 'laws.FnExactClaimOfOrder': WHATEVER THE INPUT: true; the input reads as it did. -/
def fnExactClaimOfOrderSpec : ChangeSpec := { name := "fnExactClaimOfOrder", fn := fun _ => fun
  | [d] => { results := [.lit (.bool true)], args := [d] }
  | _ => none }
def fnExactClaimOfOrderRow : OpenClaim := { program := "ytdjmbggefcfacaa", sum := "eb86e3268e36bb2ba5ed2d367b75250d107b202ad85b85e5f386e60e770d9c45", func := "loop.example/g03403/laws.FnExactClaimOfOrder", spec := "fnExactClaimOfOrder", unfollowed := true, recurses := true, plainKeys := false, apart := false }
def FnExactClaimOfOrderSaid : Prop := fnExactClaimOfOrderRow.holds Try.pinned (OpenSpec.ofChange fnExactClaimOfOrderSpec)

/-- ITS FALSE NEIGHBOUR: 'it returns false'. Refute it at one input. -/
def fnExactClaimOfOrderWrong : ChangeSpec := { name := "fnExactClaimOfOrder", fn := fun _ => fun
  | [d] => { results := [.lit (.bool false)], args := [d] }
  | _ => none }
def FnExactClaimOfOrderWrongFalsely : Prop := fnExactClaimOfOrderRow.holds Try.pinned (OpenSpec.ofChange fnExactClaimOfOrderWrong)

/- THE SECOND FORM. 'bulk': how many values and letters a reading holds, each counted each time it is reached (what is shared counts as often as it is met; a slice's spare places count too). A statement '..UptoSaid' is the law's where the arguments, and the package variables that the reading takes, are together of bulk at most 1048576: NARROWER than '..Said'. Prove '..Said' where nothing that the law and all that it calls make is longer than what came in: it says more and counts as full. Else prove '..UptoSaid'. A law counts once. -/
mutual
def uptoBulk {H : Type} : DataW H → Nat
  | .lit (.string bytes) => bytes.length + 1
  | .lit _ => 1
  | .nil => 1
  | .ptr d => uptoBulk d + 1
  | .slice elems spare => uptoBulkAll elems + uptoBulkAll spare + 1
  | .agg parts => uptoBulkAll parts + 1
  | .iface _ d => uptoBulk d + 1
  | .map entries => uptoBulkEntries entries + 1
  | .held _ => 1
def uptoBulkAll {H : Type} : List (DataW H) → Nat
  | [] => 0
  | d :: r => uptoBulk d + uptoBulkAll r
def uptoBulkEntries {H : Type} : List (Lit × DataW H) → Nat
  | [] => 0
  | x :: r => uptoBulkEntry x + uptoBulkEntries r
def uptoBulkEntry {H : Type} : Lit × DataW H → Nat
  | (.string bytes, d) => bytes.length + uptoBulk d + 1
  | (_, d) => uptoBulk d + 1
 end
def uptoSmall : (H : Type) → List (DataW H) → Bool := fun _ ds => decide (uptoBulkAll ds ≤ 1048576)
def OpenSpec.upto (s : _root_.Go.ChangeSpec) : _root_.Go.OpenSpec := { _root_.Go.OpenSpec.ofChange s with cond := some uptoSmall }

/-- 'laws.FnExactNewKept', WHERE WHAT IT READS IS OF BULK AT MOST 1048576: true; the input reads as it did. -/
def fnExactNewKeptUptoRow : OpenClaim := { program := "ytdjmbggefcfacaa", sum := "eb86e3268e36bb2ba5ed2d367b75250d107b202ad85b85e5f386e60e770d9c45", func := "loop.example/g03403/laws.FnExactNewKept", spec := "fnExactNewKept", plainKeys := false, apart := false, narrowed := true }
def FnExactNewKeptUptoSaid : Prop := fnExactNewKeptUptoRow.holds Try.pinned (OpenSpec.upto fnExactNewKeptSpec)

/-- 'laws.FnExactLeastTestSet', WHERE WHAT IT READS IS OF BULK AT MOST 1048576: true; the input reads as it did. -/
def fnExactLeastTestSetUptoRow : OpenClaim := { program := "ytdjmbggefcfacaa", sum := "eb86e3268e36bb2ba5ed2d367b75250d107b202ad85b85e5f386e60e770d9c45", func := "loop.example/g03403/laws.FnExactLeastTestSet", spec := "fnExactLeastTestSet", unfollowed := true, recurses := true, plainKeys := false, apart := false, narrowed := true }
def FnExactLeastTestSetUptoSaid : Prop := fnExactLeastTestSetUptoRow.holds Try.pinned (OpenSpec.upto fnExactLeastTestSetSpec)

/-- 'laws.FnExactIsKept', WHERE WHAT IT READS IS OF BULK AT MOST 1048576: true; the input reads as it did. -/
def fnExactIsKeptUptoRow : OpenClaim := { program := "ytdjmbggefcfacaa", sum := "eb86e3268e36bb2ba5ed2d367b75250d107b202ad85b85e5f386e60e770d9c45", func := "loop.example/g03403/laws.FnExactIsKept", spec := "fnExactIsKept", plainKeys := false, apart := false, narrowed := true }
def FnExactIsKeptUptoSaid : Prop := fnExactIsKeptUptoRow.holds Try.pinned (OpenSpec.upto fnExactIsKeptSpec)

/-- 'laws.FnExactClaimOfTests', WHERE WHAT IT READS IS OF BULK AT MOST 1048576: true; the input reads as it did. -/
def fnExactClaimOfTestsUptoRow : OpenClaim := { program := "ytdjmbggefcfacaa", sum := "eb86e3268e36bb2ba5ed2d367b75250d107b202ad85b85e5f386e60e770d9c45", func := "loop.example/g03403/laws.FnExactClaimOfTests", spec := "fnExactClaimOfTests", unfollowed := true, recurses := true, plainKeys := false, apart := false, narrowed := true }
def FnExactClaimOfTestsUptoSaid : Prop := fnExactClaimOfTestsUptoRow.holds Try.pinned (OpenSpec.upto fnExactClaimOfTestsSpec)

/-- 'laws.FnExactFlipAt', WHERE WHAT IT READS IS OF BULK AT MOST 1048576: true; the input reads as it did. -/
def fnExactFlipAtUptoRow : OpenClaim := { program := "ytdjmbggefcfacaa", sum := "eb86e3268e36bb2ba5ed2d367b75250d107b202ad85b85e5f386e60e770d9c45", func := "loop.example/g03403/laws.FnExactFlipAt", spec := "fnExactFlipAt", plainKeys := false, apart := false, narrowed := true }
def FnExactFlipAtUptoSaid : Prop := fnExactFlipAtUptoRow.holds Try.pinned (OpenSpec.upto fnExactFlipAtSpec)

/-- 'laws.FnExactFlipAll', WHERE WHAT IT READS IS OF BULK AT MOST 1048576: true; the input reads as it did. -/
def fnExactFlipAllUptoRow : OpenClaim := { program := "ytdjmbggefcfacaa", sum := "eb86e3268e36bb2ba5ed2d367b75250d107b202ad85b85e5f386e60e770d9c45", func := "loop.example/g03403/laws.FnExactFlipAll", spec := "fnExactFlipAll", plainKeys := false, apart := false, narrowed := true }
def FnExactFlipAllUptoSaid : Prop := fnExactFlipAllUptoRow.holds Try.pinned (OpenSpec.upto fnExactFlipAllSpec)

/-- 'laws.FnExactClaimOfThreshold', WHERE WHAT IT READS IS OF BULK AT MOST 1048576: true; the input reads as it did. -/
def fnExactClaimOfThresholdUptoRow : OpenClaim := { program := "ytdjmbggefcfacaa", sum := "eb86e3268e36bb2ba5ed2d367b75250d107b202ad85b85e5f386e60e770d9c45", func := "loop.example/g03403/laws.FnExactClaimOfThreshold", spec := "fnExactClaimOfThreshold", plainKeys := false, apart := false, narrowed := true }
def FnExactClaimOfThresholdUptoSaid : Prop := fnExactClaimOfThresholdUptoRow.holds Try.pinned (OpenSpec.upto fnExactClaimOfThresholdSpec)

/-- 'laws.FnExactPushNegations', WHERE WHAT IT READS IS OF BULK AT MOST 1048576: true; the input reads as it did. -/
def fnExactPushNegationsUptoRow : OpenClaim := { program := "ytdjmbggefcfacaa", sum := "eb86e3268e36bb2ba5ed2d367b75250d107b202ad85b85e5f386e60e770d9c45", func := "loop.example/g03403/laws.FnExactPushNegations", spec := "fnExactPushNegations", recurses := true, plainKeys := false, apart := false, narrowed := true }
def FnExactPushNegationsUptoSaid : Prop := fnExactPushNegationsUptoRow.holds Try.pinned (OpenSpec.upto fnExactPushNegationsSpec)

/-- 'laws.FnExactClaimOfOrder', WHERE WHAT IT READS IS OF BULK AT MOST 1048576: true; the input reads as it did. -/
def fnExactClaimOfOrderUptoRow : OpenClaim := { program := "ytdjmbggefcfacaa", sum := "eb86e3268e36bb2ba5ed2d367b75250d107b202ad85b85e5f386e60e770d9c45", func := "loop.example/g03403/laws.FnExactClaimOfOrder", spec := "fnExactClaimOfOrder", unfollowed := true, recurses := true, plainKeys := false, apart := false, narrowed := true }
def FnExactClaimOfOrderUptoSaid : Prop := fnExactClaimOfOrderUptoRow.holds Try.pinned (OpenSpec.upto fnExactClaimOfOrderSpec)

end Rows
end Go.Proofs.Ytdjmbggefcfacaa
