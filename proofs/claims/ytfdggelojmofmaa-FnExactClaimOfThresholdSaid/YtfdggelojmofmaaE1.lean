/- The functions that the claims reach answer as their texts do. -/
import Derived.Test.YtfdggelojmofmaaE0
namespace Go.Proofs.Ytfdggelojmofmaa
open Go.Rv
set_option maxRecDepth 100000
set_option maxHeartbeats 2000000
set_option linter.unusedVariables false
def VS50 {β : Type} (N : Nat) (q_spec_Contradiction : (a0 : Int) → (a1 : Int) → (k : List Int → Bool → Option β) → Option β) : Rv.Spec β := fun args K => match args with
  | [.v (.agg [.int .i64 a0, .int .i64 a1])] => q_spec_Contradiction a0 a1 (fun z2 z3 => K (.tup [.one (.sl 3 (.ints .i64 z2)), .one (.bool z3)]))
  | _ => none
def S50 {β : Type} (N : Nat) : Rv.Spec β := VS50 N (spec_Contradiction N)
def h50_0_0  (v0 : Int) (v1 : Int) (v2 : Int) (v3 : Int) : St := ⟨.v (.one .und) :: .v (.one (.ptr 0 0)) :: .v (.one .und) :: .v (.one .und) :: .v (.one (.int .i64 v0)) :: .v (.one (.int .i64 v1)) :: .v (.one .und) :: .v (.one .und) :: .v (.one .und) :: .v (.one .und) :: .v (.one .und) :: .v (.one .und) :: .v (.one .und) :: .v (.one .und) :: .v (.one .und) :: .v (.one .und) :: .v (.one .und) :: .v (.one .und) :: .v (.one .und) :: .v (.one .und) :: .v (.one .und) :: .v (.one .und) :: .v (.one .und) :: .v (.one .und) :: .v (.one .und) :: .v (.one .und) :: .v (.one .und) :: .v (.one .und) :: .v (.one .und) :: .v (.one .und) :: .v (.one .und) :: .v (.one .und) :: .v (.one .und) :: .v (.one .und) :: .v (.one .und) :: .v (.one .und) :: .v (.one .und) :: .v (.one .und) :: .v (.one .und) :: .v (.one .und) :: .v (.one .und) :: .v (.one .und) :: .v (.one .und) :: .v (.one .und) :: .v (.one .und) :: .v (.one .und) :: .v (.one .und) :: .v (.one .und) :: .v (.one .und) :: .v (.one .und) :: .v (.one .und) :: .v (.one .und) :: .v (.one .und) :: .v (.one .und) :: .v (.one .und) :: .v (.one .und) :: .v (.one .und) :: .v (.one .und) :: .v (.one .und) :: .v (.one .und) :: .v (.one .und) :: .v (.one .und) :: .v (.one .und) :: .v (.one .und) :: .v (.one .und) :: .v (.one .und) :: .v (.one .und) :: .v (.one .und) :: .v (.one .und) :: .v (.one .und) :: .v (.one .und) :: .v (.one .und) :: .v (.one .und) :: .v (.one .und) :: .v (.one .und) :: .v (.one .und) :: .v (.one .und) :: .v (.one .und) :: .v (.one .und) :: .v (.one .und) :: .v (.one .und) :: .v (.one .und) :: .v (.one .und) :: .v (.one .und) :: [], [.cells 27 [.int .i64 v2, .int .i64 v3]]⟩
def x50_0_0_k0  (y0 : Bool) (y1 : List Int) : St := ⟨.v (.one .und) :: .v (.one .und) :: .v (.one (.row 0)) :: .v (.one (.bool y0)) :: .v (.one .und) :: .v (.one .und) :: .v (.one .und) :: .v (.one .und) :: .v (.one .und) :: .v (.one .und) :: .v (.one .und) :: .v (.one .und) :: .v (.one .und) :: .v (.one .und) :: .v (.one .und) :: .v (.one .und) :: .v (.one .und) :: .v (.one .und) :: .v (.one .und) :: .v (.one .und) :: .v (.one .und) :: .v (.one .und) :: .v (.one .und) :: .v (.one .und) :: .v (.one .und) :: .v (.one .und) :: .v (.one .und) :: .v (.one .und) :: .v (.one .und) :: .v (.one .und) :: .v (.one .und) :: .v (.one .und) :: .v (.one .und) :: .v (.one .und) :: .v (.one .und) :: .v (.one .und) :: .v (.one .und) :: .v (.one .und) :: .v (.one .und) :: .v (.one .und) :: .v (.one .und) :: .v (.one .und) :: .v (.one .und) :: .v (.one .und) :: .v (.one .und) :: .v (.one .und) :: .v (.one .und) :: .v (.one .und) :: .v (.one .und) :: .v (.one .und) :: .v (.one .und) :: .v (.one .und) :: .v (.one .und) :: .v (.one .und) :: .v (.one .und) :: .v (.one .und) :: .v (.one .und) :: .v (.one .und) :: .v (.one .und) :: .v (.one .und) :: .v (.one .und) :: .v (.one .und) :: .v (.one .und) :: .v (.one .und) :: .v (.one .und) :: .v (.one .und) :: .v (.one .und) :: .v (.one .und) :: .v (.one .und) :: .v (.one .und) :: .v (.one .und) :: .v (.one .und) :: .v (.one .und) :: .v (.one .und) :: .v (.one .und) :: .v (.one .und) :: .v (.one .und) :: .v (.one .und) :: .v (.one .und) :: .v (.one .und) :: .v (.one .und) :: .v (.one .und) :: .v (.one .und) :: .v (.one .und) :: [], [.row 3 (.ints .i64 y1)]⟩
def x50_0_0_k1   : St := ⟨.v (.one .und) :: .v (.one .und) :: .v (.one .und) :: .v (.one .und) :: .v (.one .und) :: .v (.one .und) :: .v (.one .und) :: .v (.one .und) :: .v (.one .und) :: .v (.one .und) :: .v (.one .und) :: .v (.one .und) :: .v (.one .und) :: .v (.one .und) :: .v (.one .und) :: .v (.one .und) :: .v (.one .und) :: .v (.one .und) :: .v (.one .und) :: .v (.one .und) :: .v (.one .und) :: .v (.one .und) :: .v (.one .und) :: .v (.one .und) :: .v (.one .und) :: .v (.one .und) :: .v (.one .und) :: .v (.one .und) :: .v (.one .und) :: .v (.one .und) :: .v (.one .und) :: .v (.one .und) :: .v (.one .und) :: .v (.one .und) :: .v (.one .und) :: .v (.one .und) :: .v (.one .und) :: .v (.one .und) :: .v (.one .und) :: .v (.one .und) :: .v (.one .und) :: .v (.one .und) :: .v (.one .und) :: .v (.one .und) :: .v (.one .und) :: .v (.one .und) :: .v (.one .und) :: .v (.one .und) :: .v (.one .und) :: .v (.one .und) :: .v (.one .und) :: .v (.one .und) :: .v (.one .und) :: .v (.one .und) :: .v (.one .und) :: .v (.one .und) :: .v (.one .und) :: .v (.one .und) :: .v (.one .und) :: .v (.one .und) :: .v (.one .und) :: .v (.one .und) :: .v (.one .und) :: .v (.one .und) :: .v (.one .und) :: .v (.one .und) :: .v (.one .und) :: .v (.one .und) :: .v (.one .und) :: .v (.one .und) :: .v (.one .und) :: .v (.one .und) :: .v (.one .und) :: .v (.one .und) :: .v (.one .und) :: .v (.one .und) :: .v (.one .und) :: .v (.one .und) :: .v (.one .und) :: .v (.one .und) :: .v (.one .und) :: .v (.one .und) :: .v (.one .und) :: .v (.one .und) :: [], []⟩
def h50_1_0  (v0 : Int) (v1 : Int) (v2 : Int) (v3 : Int) (v4 : Int) : St := ⟨.v (.one .und) :: .v (.one (.ptr 0 0)) :: .v (.one .und) :: .v (.one .und) :: .v (.one (.int .i64 v0)) :: .v (.one (.int .i64 v1)) :: .v (.one (.int .i64 v2)) :: .v (.one .und) :: .v (.one .und) :: .v (.one .und) :: .v (.one .und) :: .v (.one .und) :: .v (.one .und) :: .v (.one .und) :: .v (.one .und) :: .v (.one .und) :: .v (.one .und) :: .v (.one .und) :: .v (.one .und) :: .v (.one .und) :: .v (.one .und) :: .v (.one .und) :: .v (.one .und) :: .v (.one .und) :: .v (.one .und) :: .v (.one .und) :: .v (.one .und) :: .v (.one .und) :: .v (.one .und) :: .v (.one .und) :: .v (.one .und) :: .v (.one .und) :: .v (.one .und) :: .v (.one .und) :: .v (.one .und) :: .v (.one .und) :: .v (.one .und) :: .v (.one .und) :: .v (.one .und) :: .v (.one .und) :: .v (.one .und) :: .v (.one .und) :: .v (.one .und) :: .v (.one .und) :: .v (.one .und) :: .v (.one .und) :: .v (.one .und) :: .v (.one .und) :: .v (.one .und) :: .v (.one .und) :: .v (.one .und) :: .v (.one .und) :: .v (.one .und) :: .v (.one .und) :: .v (.one .und) :: .v (.one .und) :: .v (.one .und) :: .v (.one .und) :: .v (.one .und) :: .v (.one .und) :: .v (.one .und) :: .v (.one .und) :: .v (.one .und) :: .v (.one .und) :: .v (.one .und) :: .v (.one .und) :: .v (.one .und) :: .v (.one .und) :: .v (.one .und) :: .v (.one .und) :: .v (.one .und) :: .v (.one .und) :: .v (.one .und) :: .v (.one .und) :: .v (.one .und) :: .v (.one .und) :: .v (.one .und) :: .v (.one .und) :: .v (.one .und) :: .v (.one .und) :: .v (.one .und) :: .v (.one .und) :: .v (.one .und) :: .v (.one .und) :: [], [.cells 27 [.int .i64 v3, .int .i64 v4]]⟩
def x50_1_0_k0  (y0 : Bool) (y1 : List Int) : St := ⟨.v (.one .und) :: .v (.one .und) :: .v (.one (.row 0)) :: .v (.one (.bool y0)) :: .v (.one .und) :: .v (.one .und) :: .v (.one .und) :: .v (.one .und) :: .v (.one .und) :: .v (.one .und) :: .v (.one .und) :: .v (.one .und) :: .v (.one .und) :: .v (.one .und) :: .v (.one .und) :: .v (.one .und) :: .v (.one .und) :: .v (.one .und) :: .v (.one .und) :: .v (.one .und) :: .v (.one .und) :: .v (.one .und) :: .v (.one .und) :: .v (.one .und) :: .v (.one .und) :: .v (.one .und) :: .v (.one .und) :: .v (.one .und) :: .v (.one .und) :: .v (.one .und) :: .v (.one .und) :: .v (.one .und) :: .v (.one .und) :: .v (.one .und) :: .v (.one .und) :: .v (.one .und) :: .v (.one .und) :: .v (.one .und) :: .v (.one .und) :: .v (.one .und) :: .v (.one .und) :: .v (.one .und) :: .v (.one .und) :: .v (.one .und) :: .v (.one .und) :: .v (.one .und) :: .v (.one .und) :: .v (.one .und) :: .v (.one .und) :: .v (.one .und) :: .v (.one .und) :: .v (.one .und) :: .v (.one .und) :: .v (.one .und) :: .v (.one .und) :: .v (.one .und) :: .v (.one .und) :: .v (.one .und) :: .v (.one .und) :: .v (.one .und) :: .v (.one .und) :: .v (.one .und) :: .v (.one .und) :: .v (.one .und) :: .v (.one .und) :: .v (.one .und) :: .v (.one .und) :: .v (.one .und) :: .v (.one .und) :: .v (.one .und) :: .v (.one .und) :: .v (.one .und) :: .v (.one .und) :: .v (.one .und) :: .v (.one .und) :: .v (.one .und) :: .v (.one .und) :: .v (.one .und) :: .v (.one .und) :: .v (.one .und) :: .v (.one .und) :: .v (.one .und) :: .v (.one .und) :: .v (.one .und) :: [], [.row 3 (.ints .i64 y1)]⟩
def x50_1_0_k1  (y0 : Int) (y1 : Int) (y2 : Int) (y3 : Int) : St := ⟨.v (.one .und) :: .v (.one (.ptr 0 0)) :: .v (.one .und) :: .v (.one .und) :: .v (.one (.int .i64 y0)) :: .v (.one (.int .i64 y1)) :: .v (.one .und) :: .v (.one .und) :: .v (.one .und) :: .v (.one .und) :: .v (.one .und) :: .v (.one .und) :: .v (.one .und) :: .v (.one .und) :: .v (.one .und) :: .v (.one .und) :: .v (.one .und) :: .v (.one .und) :: .v (.one .und) :: .v (.one .und) :: .v (.one .und) :: .v (.one .und) :: .v (.one .und) :: .v (.one .und) :: .v (.one .und) :: .v (.one .und) :: .v (.one .und) :: .v (.one .und) :: .v (.one .und) :: .v (.one .und) :: .v (.one .und) :: .v (.one .und) :: .v (.one .und) :: .v (.one .und) :: .v (.one .und) :: .v (.one .und) :: .v (.one .und) :: .v (.one .und) :: .v (.one .und) :: .v (.one .und) :: .v (.one .und) :: .v (.one .und) :: .v (.one .und) :: .v (.one .und) :: .v (.one .und) :: .v (.one .und) :: .v (.one .und) :: .v (.one .und) :: .v (.one .und) :: .v (.one .und) :: .v (.one .und) :: .v (.one .und) :: .v (.one .und) :: .v (.one .und) :: .v (.one .und) :: .v (.one .und) :: .v (.one .und) :: .v (.one .und) :: .v (.one .und) :: .v (.one .und) :: .v (.one .und) :: .v (.one .und) :: .v (.one .und) :: .v (.one .und) :: .v (.one .und) :: .v (.one .und) :: .v (.one .und) :: .v (.one .und) :: .v (.one .und) :: .v (.one .und) :: .v (.one .und) :: .v (.one .und) :: .v (.one .und) :: .v (.one .und) :: .v (.one .und) :: .v (.one .und) :: .v (.one .und) :: .v (.one .und) :: .v (.one .und) :: .v (.one .und) :: .v (.one .und) :: .v (.one .und) :: .v (.one .und) :: .v (.one .und) :: [], [.cells 27 [.int .i64 y2, .int .i64 y3]]⟩
def h50_2_0  (v0 : Int) (v1 : Int) (v2 : Int) (v3 : Int) (v4 : Int) (v5 : Int) : St := ⟨.v (.one .und) :: .v (.one (.ptr 0 0)) :: .v (.one .und) :: .v (.one .und) :: .v (.one (.int .i64 v0)) :: .v (.one (.int .i64 v1)) :: .v (.one (.int .i64 v2)) :: .v (.one (.int .i64 v3)) :: .v (.one .und) :: .v (.one .und) :: .v (.one .und) :: .v (.one .und) :: .v (.one .und) :: .v (.one .und) :: .v (.one .und) :: .v (.one .und) :: .v (.one .und) :: .v (.one .und) :: .v (.one .und) :: .v (.one .und) :: .v (.one .und) :: .v (.one .und) :: .v (.one .und) :: .v (.one .und) :: .v (.one .und) :: .v (.one .und) :: .v (.one .und) :: .v (.one .und) :: .v (.one .und) :: .v (.one .und) :: .v (.one .und) :: .v (.one .und) :: .v (.one .und) :: .v (.one .und) :: .v (.one .und) :: .v (.one .und) :: .v (.one .und) :: .v (.one .und) :: .v (.one .und) :: .v (.one .und) :: .v (.one .und) :: .v (.one .und) :: .v (.one .und) :: .v (.one .und) :: .v (.one .und) :: .v (.one .und) :: .v (.one .und) :: .v (.one .und) :: .v (.one .und) :: .v (.one .und) :: .v (.one .und) :: .v (.one .und) :: .v (.one .und) :: .v (.one .und) :: .v (.one .und) :: .v (.one .und) :: .v (.one .und) :: .v (.one .und) :: .v (.one .und) :: .v (.one .und) :: .v (.one .und) :: .v (.one .und) :: .v (.one .und) :: .v (.one .und) :: .v (.one .und) :: .v (.one .und) :: .v (.one .und) :: .v (.one .und) :: .v (.one .und) :: .v (.one .und) :: .v (.one .und) :: .v (.one .und) :: .v (.one .und) :: .v (.one .und) :: .v (.one .und) :: .v (.one .und) :: .v (.one .und) :: .v (.one .und) :: .v (.one .und) :: .v (.one .und) :: .v (.one .und) :: .v (.one .und) :: .v (.one .und) :: .v (.one .und) :: [], [.cells 27 [.int .i64 v4, .int .i64 v5]]⟩
def x50_2_0_k0  (y0 : Bool) (y1 : List Int) : St := ⟨.v (.one .und) :: .v (.one .und) :: .v (.one (.row 0)) :: .v (.one (.bool y0)) :: .v (.one .und) :: .v (.one .und) :: .v (.one .und) :: .v (.one .und) :: .v (.one .und) :: .v (.one .und) :: .v (.one .und) :: .v (.one .und) :: .v (.one .und) :: .v (.one .und) :: .v (.one .und) :: .v (.one .und) :: .v (.one .und) :: .v (.one .und) :: .v (.one .und) :: .v (.one .und) :: .v (.one .und) :: .v (.one .und) :: .v (.one .und) :: .v (.one .und) :: .v (.one .und) :: .v (.one .und) :: .v (.one .und) :: .v (.one .und) :: .v (.one .und) :: .v (.one .und) :: .v (.one .und) :: .v (.one .und) :: .v (.one .und) :: .v (.one .und) :: .v (.one .und) :: .v (.one .und) :: .v (.one .und) :: .v (.one .und) :: .v (.one .und) :: .v (.one .und) :: .v (.one .und) :: .v (.one .und) :: .v (.one .und) :: .v (.one .und) :: .v (.one .und) :: .v (.one .und) :: .v (.one .und) :: .v (.one .und) :: .v (.one .und) :: .v (.one .und) :: .v (.one .und) :: .v (.one .und) :: .v (.one .und) :: .v (.one .und) :: .v (.one .und) :: .v (.one .und) :: .v (.one .und) :: .v (.one .und) :: .v (.one .und) :: .v (.one .und) :: .v (.one .und) :: .v (.one .und) :: .v (.one .und) :: .v (.one .und) :: .v (.one .und) :: .v (.one .und) :: .v (.one .und) :: .v (.one .und) :: .v (.one .und) :: .v (.one .und) :: .v (.one .und) :: .v (.one .und) :: .v (.one .und) :: .v (.one .und) :: .v (.one .und) :: .v (.one .und) :: .v (.one .und) :: .v (.one .und) :: .v (.one .und) :: .v (.one .und) :: .v (.one .und) :: .v (.one .und) :: .v (.one .und) :: .v (.one .und) :: [], [.row 3 (.ints .i64 y1)]⟩
def x50_2_0_k1  (y0 : Int) (y1 : Int) (y2 : Int) (y3 : Int) (y4 : Int) : St := ⟨.v (.one .und) :: .v (.one (.ptr 0 0)) :: .v (.one .und) :: .v (.one .und) :: .v (.one (.int .i64 y0)) :: .v (.one (.int .i64 y1)) :: .v (.one (.int .i64 y2)) :: .v (.one .und) :: .v (.one .und) :: .v (.one .und) :: .v (.one .und) :: .v (.one .und) :: .v (.one .und) :: .v (.one .und) :: .v (.one .und) :: .v (.one .und) :: .v (.one .und) :: .v (.one .und) :: .v (.one .und) :: .v (.one .und) :: .v (.one .und) :: .v (.one .und) :: .v (.one .und) :: .v (.one .und) :: .v (.one .und) :: .v (.one .und) :: .v (.one .und) :: .v (.one .und) :: .v (.one .und) :: .v (.one .und) :: .v (.one .und) :: .v (.one .und) :: .v (.one .und) :: .v (.one .und) :: .v (.one .und) :: .v (.one .und) :: .v (.one .und) :: .v (.one .und) :: .v (.one .und) :: .v (.one .und) :: .v (.one .und) :: .v (.one .und) :: .v (.one .und) :: .v (.one .und) :: .v (.one .und) :: .v (.one .und) :: .v (.one .und) :: .v (.one .und) :: .v (.one .und) :: .v (.one .und) :: .v (.one .und) :: .v (.one .und) :: .v (.one .und) :: .v (.one .und) :: .v (.one .und) :: .v (.one .und) :: .v (.one .und) :: .v (.one .und) :: .v (.one .und) :: .v (.one .und) :: .v (.one .und) :: .v (.one .und) :: .v (.one .und) :: .v (.one .und) :: .v (.one .und) :: .v (.one .und) :: .v (.one .und) :: .v (.one .und) :: .v (.one .und) :: .v (.one .und) :: .v (.one .und) :: .v (.one .und) :: .v (.one .und) :: .v (.one .und) :: .v (.one .und) :: .v (.one .und) :: .v (.one .und) :: .v (.one .und) :: .v (.one .und) :: .v (.one .und) :: .v (.one .und) :: .v (.one .und) :: .v (.one .und) :: .v (.one .und) :: [], [.cells 27 [.int .i64 y3, .int .i64 y4]]⟩
def h50_3_0  (v0 : Int) (v1 : Int) (v2 : Int) (v3 : Int) (v4 : Int) (v5 : Int) (v6 : Int) : St := ⟨.v (.one .und) :: .v (.one (.ptr 0 0)) :: .v (.one .und) :: .v (.one .und) :: .v (.one (.int .i64 v0)) :: .v (.one (.int .i64 v1)) :: .v (.one (.int .i64 v2)) :: .v (.one (.int .i64 v3)) :: .v (.one (.int .i64 v4)) :: .v (.one .und) :: .v (.one .und) :: .v (.one .und) :: .v (.one .und) :: .v (.one .und) :: .v (.one .und) :: .v (.one .und) :: .v (.one .und) :: .v (.one .und) :: .v (.one .und) :: .v (.one .und) :: .v (.one .und) :: .v (.one .und) :: .v (.one .und) :: .v (.one .und) :: .v (.one .und) :: .v (.one .und) :: .v (.one .und) :: .v (.one .und) :: .v (.one .und) :: .v (.one .und) :: .v (.one .und) :: .v (.one .und) :: .v (.one .und) :: .v (.one .und) :: .v (.one .und) :: .v (.one .und) :: .v (.one .und) :: .v (.one .und) :: .v (.one .und) :: .v (.one .und) :: .v (.one .und) :: .v (.one .und) :: .v (.one .und) :: .v (.one .und) :: .v (.one .und) :: .v (.one .und) :: .v (.one .und) :: .v (.one .und) :: .v (.one .und) :: .v (.one .und) :: .v (.one .und) :: .v (.one .und) :: .v (.one .und) :: .v (.one .und) :: .v (.one .und) :: .v (.one .und) :: .v (.one .und) :: .v (.one .und) :: .v (.one .und) :: .v (.one .und) :: .v (.one .und) :: .v (.one .und) :: .v (.one .und) :: .v (.one .und) :: .v (.one .und) :: .v (.one .und) :: .v (.one .und) :: .v (.one .und) :: .v (.one .und) :: .v (.one .und) :: .v (.one .und) :: .v (.one .und) :: .v (.one .und) :: .v (.one .und) :: .v (.one .und) :: .v (.one .und) :: .v (.one .und) :: .v (.one .und) :: .v (.one .und) :: .v (.one .und) :: .v (.one .und) :: .v (.one .und) :: .v (.one .und) :: .v (.one .und) :: [], [.cells 27 [.int .i64 v5, .int .i64 v6]]⟩
def x50_3_0_k0  (y0 : Bool) (y1 : List Int) : St := ⟨.v (.one .und) :: .v (.one .und) :: .v (.one (.row 0)) :: .v (.one (.bool y0)) :: .v (.one .und) :: .v (.one .und) :: .v (.one .und) :: .v (.one .und) :: .v (.one .und) :: .v (.one .und) :: .v (.one .und) :: .v (.one .und) :: .v (.one .und) :: .v (.one .und) :: .v (.one .und) :: .v (.one .und) :: .v (.one .und) :: .v (.one .und) :: .v (.one .und) :: .v (.one .und) :: .v (.one .und) :: .v (.one .und) :: .v (.one .und) :: .v (.one .und) :: .v (.one .und) :: .v (.one .und) :: .v (.one .und) :: .v (.one .und) :: .v (.one .und) :: .v (.one .und) :: .v (.one .und) :: .v (.one .und) :: .v (.one .und) :: .v (.one .und) :: .v (.one .und) :: .v (.one .und) :: .v (.one .und) :: .v (.one .und) :: .v (.one .und) :: .v (.one .und) :: .v (.one .und) :: .v (.one .und) :: .v (.one .und) :: .v (.one .und) :: .v (.one .und) :: .v (.one .und) :: .v (.one .und) :: .v (.one .und) :: .v (.one .und) :: .v (.one .und) :: .v (.one .und) :: .v (.one .und) :: .v (.one .und) :: .v (.one .und) :: .v (.one .und) :: .v (.one .und) :: .v (.one .und) :: .v (.one .und) :: .v (.one .und) :: .v (.one .und) :: .v (.one .und) :: .v (.one .und) :: .v (.one .und) :: .v (.one .und) :: .v (.one .und) :: .v (.one .und) :: .v (.one .und) :: .v (.one .und) :: .v (.one .und) :: .v (.one .und) :: .v (.one .und) :: .v (.one .und) :: .v (.one .und) :: .v (.one .und) :: .v (.one .und) :: .v (.one .und) :: .v (.one .und) :: .v (.one .und) :: .v (.one .und) :: .v (.one .und) :: .v (.one .und) :: .v (.one .und) :: .v (.one .und) :: .v (.one .und) :: [], [.row 3 (.ints .i64 y1)]⟩
def x50_3_0_k1  (y0 : Int) (y1 : Int) (y2 : Int) (y3 : Int) (y4 : Int) (y5 : Int) : St := ⟨.v (.one .und) :: .v (.one (.ptr 0 0)) :: .v (.one .und) :: .v (.one .und) :: .v (.one (.int .i64 y0)) :: .v (.one (.int .i64 y1)) :: .v (.one (.int .i64 y2)) :: .v (.one (.int .i64 y3)) :: .v (.one .und) :: .v (.one .und) :: .v (.one .und) :: .v (.one .und) :: .v (.one .und) :: .v (.one .und) :: .v (.one .und) :: .v (.one .und) :: .v (.one .und) :: .v (.one .und) :: .v (.one .und) :: .v (.one .und) :: .v (.one .und) :: .v (.one .und) :: .v (.one .und) :: .v (.one .und) :: .v (.one .und) :: .v (.one .und) :: .v (.one .und) :: .v (.one .und) :: .v (.one .und) :: .v (.one .und) :: .v (.one .und) :: .v (.one .und) :: .v (.one .und) :: .v (.one .und) :: .v (.one .und) :: .v (.one .und) :: .v (.one .und) :: .v (.one .und) :: .v (.one .und) :: .v (.one .und) :: .v (.one .und) :: .v (.one .und) :: .v (.one .und) :: .v (.one .und) :: .v (.one .und) :: .v (.one .und) :: .v (.one .und) :: .v (.one .und) :: .v (.one .und) :: .v (.one .und) :: .v (.one .und) :: .v (.one .und) :: .v (.one .und) :: .v (.one .und) :: .v (.one .und) :: .v (.one .und) :: .v (.one .und) :: .v (.one .und) :: .v (.one .und) :: .v (.one .und) :: .v (.one .und) :: .v (.one .und) :: .v (.one .und) :: .v (.one .und) :: .v (.one .und) :: .v (.one .und) :: .v (.one .und) :: .v (.one .und) :: .v (.one .und) :: .v (.one .und) :: .v (.one .und) :: .v (.one .und) :: .v (.one .und) :: .v (.one .und) :: .v (.one .und) :: .v (.one .und) :: .v (.one .und) :: .v (.one .und) :: .v (.one .und) :: .v (.one .und) :: .v (.one .und) :: .v (.one .und) :: .v (.one .und) :: .v (.one .und) :: [], [.cells 27 [.int .i64 y4, .int .i64 y5]]⟩
theorem fl50_0_0 (s : St) : refSt (h50_0_0 0 0 0 0) s = h50_0_0 (intS (oneA (vT (nx tund s.tmps 4)))) (intS (oneA (vT (nx tund s.tmps 5)))) (intS (nx .und (cellsB (nx .dead s.blks 0)) 0)) (intS (nx .und (cellsB (nx .dead s.blks 0)) 1)) := by kernel_rfl
def VLS50_0 {β : Type} (N : Nat) (q_spec_Contradiction_l0 : Nat → Int → Int → Int → Int → (Bool → List Int → Option β) → (Option β) → Option β) : LSpec β := fun s K => cond (shpSt (h50_0_0 0 0 0 0) s) ((fun (v0 : Int) (v1 : Int) (v2 : Int) (v3 : Int) => q_spec_Contradiction_l0  N v0 v1 v2 v3 (fun y0 y1 => K .ret (x50_0_0_k0  y0 y1)) (K (.exit 0) (x50_0_0_k1  ))) (intS (oneA (vT (nx tund s.tmps 4)))) (intS (oneA (vT (nx tund s.tmps 5)))) (intS (nx .und (cellsB (nx .dead s.blks 0)) 0)) (intS (nx .und (cellsB (nx .dead s.blks 0)) 1))) (none)
def LS50_0 {β : Type} (N : Nat) : LSpec β := VLS50_0 N (spec_Contradiction_l0 N)
theorem fl50_1_0 (s : St) : refSt (h50_1_0 0 0 0 0 0) s = h50_1_0 (intS (oneA (vT (nx tund s.tmps 4)))) (intS (oneA (vT (nx tund s.tmps 5)))) (intS (oneA (vT (nx tund s.tmps 6)))) (intS (nx .und (cellsB (nx .dead s.blks 0)) 0)) (intS (nx .und (cellsB (nx .dead s.blks 0)) 1)) := by kernel_rfl
def VLS50_2 {β : Type} (N : Nat) (q_spec_Contradiction_l2 : Nat → Int → Int → Int → Int → Int → (Bool → List Int → Option β) → (Int → Int → Int → Int → Option β) → Option β) : LSpec β := fun s K => cond (shpSt (h50_1_0 0 0 0 0 0) s) ((fun (v0 : Int) (v1 : Int) (v2 : Int) (v3 : Int) (v4 : Int) => q_spec_Contradiction_l2  N v0 v1 v2 v3 v4 (fun y0 y1 => K .ret (x50_1_0_k0  y0 y1)) (fun y0 y1 y2 y3 => K (.exit 2) (x50_1_0_k1  y0 y1 y2 y3))) (intS (oneA (vT (nx tund s.tmps 4)))) (intS (oneA (vT (nx tund s.tmps 5)))) (intS (oneA (vT (nx tund s.tmps 6)))) (intS (nx .und (cellsB (nx .dead s.blks 0)) 0)) (intS (nx .und (cellsB (nx .dead s.blks 0)) 1))) (none)
def LS50_2 {β : Type} (N : Nat) : LSpec β := VLS50_2 N (spec_Contradiction_l2 N)
theorem fl50_2_0 (s : St) : refSt (h50_2_0 0 0 0 0 0 0) s = h50_2_0 (intS (oneA (vT (nx tund s.tmps 4)))) (intS (oneA (vT (nx tund s.tmps 5)))) (intS (oneA (vT (nx tund s.tmps 6)))) (intS (oneA (vT (nx tund s.tmps 7)))) (intS (nx .und (cellsB (nx .dead s.blks 0)) 0)) (intS (nx .und (cellsB (nx .dead s.blks 0)) 1)) := by kernel_rfl
def VLS50_4 {β : Type} (N : Nat) (q_spec_Contradiction_l4 : Nat → Int → Int → Int → Int → Int → Int → (Bool → List Int → Option β) → (Int → Int → Int → Int → Int → Option β) → Option β) : LSpec β := fun s K => cond (shpSt (h50_2_0 0 0 0 0 0 0) s) ((fun (v0 : Int) (v1 : Int) (v2 : Int) (v3 : Int) (v4 : Int) (v5 : Int) => q_spec_Contradiction_l4  N v0 v1 v2 v3 v4 v5 (fun y0 y1 => K .ret (x50_2_0_k0  y0 y1)) (fun y0 y1 y2 y3 y4 => K (.exit 4) (x50_2_0_k1  y0 y1 y2 y3 y4))) (intS (oneA (vT (nx tund s.tmps 4)))) (intS (oneA (vT (nx tund s.tmps 5)))) (intS (oneA (vT (nx tund s.tmps 6)))) (intS (oneA (vT (nx tund s.tmps 7)))) (intS (nx .und (cellsB (nx .dead s.blks 0)) 0)) (intS (nx .und (cellsB (nx .dead s.blks 0)) 1))) (none)
def LS50_4 {β : Type} (N : Nat) : LSpec β := VLS50_4 N (spec_Contradiction_l4 N)
theorem fl50_3_0 (s : St) : refSt (h50_3_0 0 0 0 0 0 0 0) s = h50_3_0 (intS (oneA (vT (nx tund s.tmps 4)))) (intS (oneA (vT (nx tund s.tmps 5)))) (intS (oneA (vT (nx tund s.tmps 6)))) (intS (oneA (vT (nx tund s.tmps 7)))) (intS (oneA (vT (nx tund s.tmps 8)))) (intS (nx .und (cellsB (nx .dead s.blks 0)) 0)) (intS (nx .und (cellsB (nx .dead s.blks 0)) 1)) := by kernel_rfl
def VLS50_6 {β : Type} (N : Nat) (q_spec_Contradiction_l6 : Nat → Int → Int → Int → Int → Int → Int → Int → (Bool → List Int → Option β) → (Int → Int → Int → Int → Int → Int → Option β) → Option β) : LSpec β := fun s K => cond (shpSt (h50_3_0 0 0 0 0 0 0 0) s) ((fun (v0 : Int) (v1 : Int) (v2 : Int) (v3 : Int) (v4 : Int) (v5 : Int) (v6 : Int) => q_spec_Contradiction_l6  N v0 v1 v2 v3 v4 v5 v6 (fun y0 y1 => K .ret (x50_3_0_k0  y0 y1)) (fun y0 y1 y2 y3 y4 y5 => K (.exit 6) (x50_3_0_k1  y0 y1 y2 y3 y4 y5))) (intS (oneA (vT (nx tund s.tmps 4)))) (intS (oneA (vT (nx tund s.tmps 5)))) (intS (oneA (vT (nx tund s.tmps 6)))) (intS (oneA (vT (nx tund s.tmps 7)))) (intS (oneA (vT (nx tund s.tmps 8)))) (intS (nx .und (cellsB (nx .dead s.blks 0)) 0)) (intS (nx .und (cellsB (nx .dead s.blks 0)) 1))) (none)
def LS50_6 {β : Type} (N : Nat) : LSpec β := VLS50_6 N (spec_Contradiction_l6 N)
def VE50 {β : Type} (N : Nat) (q_spec_IsTable : (a0 : Int) → (a1 : Int) → (k : Bool → Option β) → Option β) (q_spec_Contradiction_l0 : Nat → Int → Int → Int → Int → (Bool → List Int → Option β) → (Option β) → Option β) (q_spec_Contradiction_l2 : Nat → Int → Int → Int → Int → Int → (Bool → List Int → Option β) → (Int → Int → Int → Int → Option β) → Option β) (q_spec_Contradiction_l4 : Nat → Int → Int → Int → Int → Int → Int → (Bool → List Int → Option β) → (Int → Int → Int → Int → Int → Option β) → Option β) (q_spec_Contradiction_l6 : Nat → Int → Int → Int → Int → Int → Int → Int → (Bool → List Int → Option β) → (Int → Int → Int → Int → Int → Int → Option β) → Option β) : Env β := ⟨[(58, VS58 N q_spec_IsTable)], [], [(0, VLS50_0 N q_spec_Contradiction_l0), (2, VLS50_2 N q_spec_Contradiction_l2), (4, VLS50_4 N q_spec_Contradiction_l4), (6, VLS50_6 N q_spec_Contradiction_l6)], [], ⟨[], [], []⟩⟩
def E50 {β : Type} (N : Nat) : Env β := VE50 N (spec_IsTable N) (spec_Contradiction_l0 N) (spec_Contradiction_l2 N) (spec_Contradiction_l4 N) (spec_Contradiction_l6 N)
def BV_spec_Contradiction_l0b {β : Type} (N : Nat) (q_spec_Contradiction_l2 : Nat → Int → Int → Int → Int → Int → (Bool → List Int → Option β) → (Int → Int → Int → Int → Option β) → Option β)  (v0 : Int) (v1 : Int) (v2 : Int) (v3 : Int) (rec_ : Int → Int → Int → Int → Option β) (k0 : Bool → List Int → Option β) (k1 : Option β) : Option β :=
(cond ((decide (v1 < v0)))
(q_spec_Contradiction_l2  N v0 v1 v1 v2 v3 (fun e9_0 e9_1 =>
k0 e9_0 e9_1) (fun e10_0 e10_1 e10_2 e10_3 =>
rec_ e10_0 ((w64 (e10_1 + 1))) e10_2 e10_3))
(k1 ))
theorem t_spec_Contradiction_l0b {β : Type} (N : Nat)  (v0 : Int) (v1 : Int) (v2 : Int) (v3 : Int) (rec_ : Int → Int → Int → Int → Option β) (k0 : Bool → List Int → Option β) (k1 : Option β) : spec_Contradiction_l0b N v0 v1 v2 v3 rec_ k0 k1 = BV_spec_Contradiction_l0b N (spec_Contradiction_l2 N) v0 v1 v2 v3 rec_ k0 k1 := by
  unfold spec_Contradiction_l0b BV_spec_Contradiction_l0b
  rfl
theorem vst50_0_0 {β : Type} (N : Nat) (q_spec_IsTable : (a0 : Int) → (a1 : Int) → (k : Bool → Option β) → Option β) (q_spec_Contradiction_l0 : Nat → Int → Int → Int → Int → (Bool → List Int → Option β) → (Option β) → Option β) (q_spec_Contradiction_l2 : Nat → Int → Int → Int → Int → Int → (Bool → List Int → Option β) → (Int → Int → Int → Int → Option β) → Option β) (q_spec_Contradiction_l4 : Nat → Int → Int → Int → Int → Int → Int → (Bool → List Int → Option β) → (Int → Int → Int → Int → Int → Option β) → Option β) (q_spec_Contradiction_l6 : Nat → Int → Int → Int → Int → Int → Int → Int → (Bool → List Int → Option β) → (Int → Int → Int → Int → Int → Int → Option β) → Option β)  (v0 : Int) (v1 : Int) (v2 : Int) (v3 : Int) (rec_ : St → Option β) (K : Exit → St → Option β) :
    ev lay (VE50 N q_spec_IsTable q_spec_Contradiction_l0 q_spec_Contradiction_l2 q_spec_Contradiction_l4 q_spec_Contradiction_l6) (retMask Try.f50) (lp Try.f50 0).body (lp Try.f50 0).ex ((lp Try.f50 0).lv (retMask Try.f50)) (h50_0_0  v0 v1 v2 v3) (nextR (fun s' => rec_ (s'.tidy ((lp Try.f50 0).lv (retMask Try.f50)))) K) = BV_spec_Contradiction_l0b N q_spec_Contradiction_l2  v0 v1 v2 v3 (fun v0 v1 v2 v3 => rec_ (h50_0_0  v0 v1 v2 v3)) (fun y0 y1 => K .ret (x50_0_0_k0  y0 y1)) (K (.exit 0) (x50_0_0_k1  )) := by kernel_rfl
theorem st50_0_0 {β : Type} (N : Nat)  (v0 : Int) (v1 : Int) (v2 : Int) (v3 : Int) (rec_ : St → Option β) (K : Exit → St → Option β) :
    ev lay (E50 N) (retMask Try.f50) (lp Try.f50 0).body (lp Try.f50 0).ex ((lp Try.f50 0).lv (retMask Try.f50)) (h50_0_0  v0 v1 v2 v3) (nextR (fun s' => rec_ (s'.tidy ((lp Try.f50 0).lv (retMask Try.f50)))) K) = spec_Contradiction_l0b N  v0 v1 v2 v3 (fun v0 v1 v2 v3 => rec_ (h50_0_0  v0 v1 v2 v3)) (fun y0 y1 => K .ret (x50_0_0_k0  y0 y1)) (K (.exit 0) (x50_0_0_k1  )) := (vst50_0_0 N (spec_IsTable N) (spec_Contradiction_l0 N) (spec_Contradiction_l2 N) (spec_Contradiction_l4 N) (spec_Contradiction_l6 N) v0 v1 v2 v3 rec_ K).trans (t_spec_Contradiction_l0b N  v0 v1 v2 v3 (fun v0 v1 v2 v3 => rec_ (h50_0_0  v0 v1 v2 v3)) (fun y0 y1 => K .ret (x50_0_0_k0  y0 y1)) (K (.exit 0) (x50_0_0_k1  ))).symm
theorem ro50_0_0 {β : Type} (N : Nat)  (K : Exit → St → Option β) : ∀ (F : Nat) (v0 : Int) (v1 : Int) (v2 : Int) (v3 : Int), (lp Try.f50 0).rounds lay (E50 N) (retMask Try.f50) F (h50_0_0  v0 v1 v2 v3) K = spec_Contradiction_l0 N  F v0 v1 v2 v3 (fun y0 y1 => K .ret (x50_0_0_k0  y0 y1)) (K (.exit 0) (x50_0_0_k1  )) := by
  intro F
  induction F with
  | zero => intros; rfl
  | succ F ih =>
    intros
    rw [rounds_next]
    refine (st50_0_0 N  _ _ _ _ (fun s => (lp Try.f50 0).rounds lay (E50 N) (retMask Try.f50) F s K) K).trans ?_
    simp only [ih]
    rfl
theorem lk50_0 {β : Type} (N : Nat) : lookL (E50 (β := β) N).loops (lp Try.f50 0).id = LS50_0 N := by kernel_rfl
theorem rk50_0 {β : Type} (N : Nat) : RoundsOK lay (E50 (β := β) N) (retMask Try.f50) (lp Try.f50 0) := by
  intro s K r h
  rw [lk50_0] at h
  unfold LS50_0 VLS50_0 at h
  cases hb : shpSt (h50_0_0 0 0 0 0) s with
  | true =>
    rw [hb, cond_true] at h
    exact ⟨N, by rw [← shpSt_ref hb, fl50_0_0 s]; exact (ro50_0_0 N  K N (intS (oneA (vT (nx tund s.tmps 4)))) (intS (oneA (vT (nx tund s.tmps 5)))) (intS (nx .und (cellsB (nx .dead s.blks 0)) 0)) (intS (nx .und (cellsB (nx .dead s.blks 0)) 1))).trans h⟩
  | false =>
  rw [hb, cond_false] at h
  clear hb
  cases h
def BV_spec_Contradiction_l2b {β : Type} (N : Nat) (q_spec_Contradiction_l4 : Nat → Int → Int → Int → Int → Int → Int → (Bool → List Int → Option β) → (Int → Int → Int → Int → Int → Option β) → Option β)  (v0 : Int) (v1 : Int) (v2 : Int) (v3 : Int) (v4 : Int) (rec_ : Int → Int → Int → Int → Int → Option β) (k0 : Bool → List Int → Option β) (k1 : Int → Int → Int → Int → Option β) : Option β :=
(cond ((decide (v2 < v0)))
((gd ((decide (0 ≤ v1)))
((gd ((decide (0 ≤ v2)))
((cond (((bits .and .i64 (bits .and .i64 (shrI .i64 v4 v1) (shrI .i64 v4 v2)) 1) == 0))
(rec_ v0 v1 ((w64 (v2 + 1))) v3 v4)
(q_spec_Contradiction_l4  N v0 v1 v2 0 v3 v4 (fun e7_0 e7_1 =>
k0 e7_0 e7_1) (fun e8_0 e8_1 e8_2 e8_3 e8_4 =>
rec_ e8_0 e8_1 ((w64 (e8_2 + 1))) e8_3 e8_4))))))))
(k1 v0 v1 v3 v4))
theorem t_spec_Contradiction_l2b {β : Type} (N : Nat)  (v0 : Int) (v1 : Int) (v2 : Int) (v3 : Int) (v4 : Int) (rec_ : Int → Int → Int → Int → Int → Option β) (k0 : Bool → List Int → Option β) (k1 : Int → Int → Int → Int → Option β) : spec_Contradiction_l2b N v0 v1 v2 v3 v4 rec_ k0 k1 = BV_spec_Contradiction_l2b N (spec_Contradiction_l4 N) v0 v1 v2 v3 v4 rec_ k0 k1 := by
  unfold spec_Contradiction_l2b BV_spec_Contradiction_l2b
  rfl
theorem vst50_1_0 {β : Type} (N : Nat) (q_spec_IsTable : (a0 : Int) → (a1 : Int) → (k : Bool → Option β) → Option β) (q_spec_Contradiction_l0 : Nat → Int → Int → Int → Int → (Bool → List Int → Option β) → (Option β) → Option β) (q_spec_Contradiction_l2 : Nat → Int → Int → Int → Int → Int → (Bool → List Int → Option β) → (Int → Int → Int → Int → Option β) → Option β) (q_spec_Contradiction_l4 : Nat → Int → Int → Int → Int → Int → Int → (Bool → List Int → Option β) → (Int → Int → Int → Int → Int → Option β) → Option β) (q_spec_Contradiction_l6 : Nat → Int → Int → Int → Int → Int → Int → Int → (Bool → List Int → Option β) → (Int → Int → Int → Int → Int → Int → Option β) → Option β)  (v0 : Int) (v1 : Int) (v2 : Int) (v3 : Int) (v4 : Int) (rec_ : St → Option β) (K : Exit → St → Option β) :
    ev lay (VE50 N q_spec_IsTable q_spec_Contradiction_l0 q_spec_Contradiction_l2 q_spec_Contradiction_l4 q_spec_Contradiction_l6) (retMask Try.f50) (lp Try.f50 1).body (lp Try.f50 1).ex ((lp Try.f50 1).lv (retMask Try.f50)) (h50_1_0  v0 v1 v2 v3 v4) (nextR (fun s' => rec_ (s'.tidy ((lp Try.f50 1).lv (retMask Try.f50)))) K) = BV_spec_Contradiction_l2b N q_spec_Contradiction_l4  v0 v1 v2 v3 v4 (fun v0 v1 v2 v3 v4 => rec_ (h50_1_0  v0 v1 v2 v3 v4)) (fun y0 y1 => K .ret (x50_1_0_k0  y0 y1)) (fun y0 y1 y2 y3 => K (.exit 2) (x50_1_0_k1  y0 y1 y2 y3)) := by kernel_rfl
theorem st50_1_0 {β : Type} (N : Nat)  (v0 : Int) (v1 : Int) (v2 : Int) (v3 : Int) (v4 : Int) (rec_ : St → Option β) (K : Exit → St → Option β) :
    ev lay (E50 N) (retMask Try.f50) (lp Try.f50 1).body (lp Try.f50 1).ex ((lp Try.f50 1).lv (retMask Try.f50)) (h50_1_0  v0 v1 v2 v3 v4) (nextR (fun s' => rec_ (s'.tidy ((lp Try.f50 1).lv (retMask Try.f50)))) K) = spec_Contradiction_l2b N  v0 v1 v2 v3 v4 (fun v0 v1 v2 v3 v4 => rec_ (h50_1_0  v0 v1 v2 v3 v4)) (fun y0 y1 => K .ret (x50_1_0_k0  y0 y1)) (fun y0 y1 y2 y3 => K (.exit 2) (x50_1_0_k1  y0 y1 y2 y3)) := (vst50_1_0 N (spec_IsTable N) (spec_Contradiction_l0 N) (spec_Contradiction_l2 N) (spec_Contradiction_l4 N) (spec_Contradiction_l6 N) v0 v1 v2 v3 v4 rec_ K).trans (t_spec_Contradiction_l2b N  v0 v1 v2 v3 v4 (fun v0 v1 v2 v3 v4 => rec_ (h50_1_0  v0 v1 v2 v3 v4)) (fun y0 y1 => K .ret (x50_1_0_k0  y0 y1)) (fun y0 y1 y2 y3 => K (.exit 2) (x50_1_0_k1  y0 y1 y2 y3))).symm
theorem ro50_1_0 {β : Type} (N : Nat)  (K : Exit → St → Option β) : ∀ (F : Nat) (v0 : Int) (v1 : Int) (v2 : Int) (v3 : Int) (v4 : Int), (lp Try.f50 1).rounds lay (E50 N) (retMask Try.f50) F (h50_1_0  v0 v1 v2 v3 v4) K = spec_Contradiction_l2 N  F v0 v1 v2 v3 v4 (fun y0 y1 => K .ret (x50_1_0_k0  y0 y1)) (fun y0 y1 y2 y3 => K (.exit 2) (x50_1_0_k1  y0 y1 y2 y3)) := by
  intro F
  induction F with
  | zero => intros; rfl
  | succ F ih =>
    intros
    rw [rounds_next]
    refine (st50_1_0 N  _ _ _ _ _ (fun s => (lp Try.f50 1).rounds lay (E50 N) (retMask Try.f50) F s K) K).trans ?_
    simp only [ih]
    rfl
theorem lk50_2 {β : Type} (N : Nat) : lookL (E50 (β := β) N).loops (lp Try.f50 1).id = LS50_2 N := by kernel_rfl
theorem rk50_2 {β : Type} (N : Nat) : RoundsOK lay (E50 (β := β) N) (retMask Try.f50) (lp Try.f50 1) := by
  intro s K r h
  rw [lk50_2] at h
  unfold LS50_2 VLS50_2 at h
  cases hb : shpSt (h50_1_0 0 0 0 0 0) s with
  | true =>
    rw [hb, cond_true] at h
    exact ⟨N, by rw [← shpSt_ref hb, fl50_1_0 s]; exact (ro50_1_0 N  K N (intS (oneA (vT (nx tund s.tmps 4)))) (intS (oneA (vT (nx tund s.tmps 5)))) (intS (oneA (vT (nx tund s.tmps 6)))) (intS (nx .und (cellsB (nx .dead s.blks 0)) 0)) (intS (nx .und (cellsB (nx .dead s.blks 0)) 1))).trans h⟩
  | false =>
  rw [hb, cond_false] at h
  clear hb
  cases h
def BV_spec_Contradiction_l4b {β : Type} (N : Nat) (q_spec_Contradiction_l6 : Nat → Int → Int → Int → Int → Int → Int → Int → (Bool → List Int → Option β) → (Int → Int → Int → Int → Int → Int → Option β) → Option β)  (v0 : Int) (v1 : Int) (v2 : Int) (v3 : Int) (v4 : Int) (v5 : Int) (rec_ : Int → Int → Int → Int → Int → Int → Option β) (k0 : Bool → List Int → Option β) (k1 : Int → Int → Int → Int → Int → Option β) : Option β :=
(cond ((decide (v3 < v0)))
(q_spec_Contradiction_l6  N v0 v1 v2 v3 v3 v4 v5 (fun e5_0 e5_1 =>
k0 e5_0 e5_1) (fun e6_0 e6_1 e6_2 e6_3 e6_4 e6_5 =>
rec_ e6_0 e6_1 e6_2 ((w64 (e6_3 + 1))) e6_4 e6_5))
(k1 v0 v1 v2 v4 v5))
theorem t_spec_Contradiction_l4b {β : Type} (N : Nat)  (v0 : Int) (v1 : Int) (v2 : Int) (v3 : Int) (v4 : Int) (v5 : Int) (rec_ : Int → Int → Int → Int → Int → Int → Option β) (k0 : Bool → List Int → Option β) (k1 : Int → Int → Int → Int → Int → Option β) : spec_Contradiction_l4b N v0 v1 v2 v3 v4 v5 rec_ k0 k1 = BV_spec_Contradiction_l4b N (spec_Contradiction_l6 N) v0 v1 v2 v3 v4 v5 rec_ k0 k1 := by
  unfold spec_Contradiction_l4b BV_spec_Contradiction_l4b
  rfl
theorem vst50_2_0 {β : Type} (N : Nat) (q_spec_IsTable : (a0 : Int) → (a1 : Int) → (k : Bool → Option β) → Option β) (q_spec_Contradiction_l0 : Nat → Int → Int → Int → Int → (Bool → List Int → Option β) → (Option β) → Option β) (q_spec_Contradiction_l2 : Nat → Int → Int → Int → Int → Int → (Bool → List Int → Option β) → (Int → Int → Int → Int → Option β) → Option β) (q_spec_Contradiction_l4 : Nat → Int → Int → Int → Int → Int → Int → (Bool → List Int → Option β) → (Int → Int → Int → Int → Int → Option β) → Option β) (q_spec_Contradiction_l6 : Nat → Int → Int → Int → Int → Int → Int → Int → (Bool → List Int → Option β) → (Int → Int → Int → Int → Int → Int → Option β) → Option β)  (v0 : Int) (v1 : Int) (v2 : Int) (v3 : Int) (v4 : Int) (v5 : Int) (rec_ : St → Option β) (K : Exit → St → Option β) :
    ev lay (VE50 N q_spec_IsTable q_spec_Contradiction_l0 q_spec_Contradiction_l2 q_spec_Contradiction_l4 q_spec_Contradiction_l6) (retMask Try.f50) (lp Try.f50 2).body (lp Try.f50 2).ex ((lp Try.f50 2).lv (retMask Try.f50)) (h50_2_0  v0 v1 v2 v3 v4 v5) (nextR (fun s' => rec_ (s'.tidy ((lp Try.f50 2).lv (retMask Try.f50)))) K) = BV_spec_Contradiction_l4b N q_spec_Contradiction_l6  v0 v1 v2 v3 v4 v5 (fun v0 v1 v2 v3 v4 v5 => rec_ (h50_2_0  v0 v1 v2 v3 v4 v5)) (fun y0 y1 => K .ret (x50_2_0_k0  y0 y1)) (fun y0 y1 y2 y3 y4 => K (.exit 4) (x50_2_0_k1  y0 y1 y2 y3 y4)) := by kernel_rfl
theorem st50_2_0 {β : Type} (N : Nat)  (v0 : Int) (v1 : Int) (v2 : Int) (v3 : Int) (v4 : Int) (v5 : Int) (rec_ : St → Option β) (K : Exit → St → Option β) :
    ev lay (E50 N) (retMask Try.f50) (lp Try.f50 2).body (lp Try.f50 2).ex ((lp Try.f50 2).lv (retMask Try.f50)) (h50_2_0  v0 v1 v2 v3 v4 v5) (nextR (fun s' => rec_ (s'.tidy ((lp Try.f50 2).lv (retMask Try.f50)))) K) = spec_Contradiction_l4b N  v0 v1 v2 v3 v4 v5 (fun v0 v1 v2 v3 v4 v5 => rec_ (h50_2_0  v0 v1 v2 v3 v4 v5)) (fun y0 y1 => K .ret (x50_2_0_k0  y0 y1)) (fun y0 y1 y2 y3 y4 => K (.exit 4) (x50_2_0_k1  y0 y1 y2 y3 y4)) := (vst50_2_0 N (spec_IsTable N) (spec_Contradiction_l0 N) (spec_Contradiction_l2 N) (spec_Contradiction_l4 N) (spec_Contradiction_l6 N) v0 v1 v2 v3 v4 v5 rec_ K).trans (t_spec_Contradiction_l4b N  v0 v1 v2 v3 v4 v5 (fun v0 v1 v2 v3 v4 v5 => rec_ (h50_2_0  v0 v1 v2 v3 v4 v5)) (fun y0 y1 => K .ret (x50_2_0_k0  y0 y1)) (fun y0 y1 y2 y3 y4 => K (.exit 4) (x50_2_0_k1  y0 y1 y2 y3 y4))).symm
theorem ro50_2_0 {β : Type} (N : Nat)  (K : Exit → St → Option β) : ∀ (F : Nat) (v0 : Int) (v1 : Int) (v2 : Int) (v3 : Int) (v4 : Int) (v5 : Int), (lp Try.f50 2).rounds lay (E50 N) (retMask Try.f50) F (h50_2_0  v0 v1 v2 v3 v4 v5) K = spec_Contradiction_l4 N  F v0 v1 v2 v3 v4 v5 (fun y0 y1 => K .ret (x50_2_0_k0  y0 y1)) (fun y0 y1 y2 y3 y4 => K (.exit 4) (x50_2_0_k1  y0 y1 y2 y3 y4)) := by
  intro F
  induction F with
  | zero => intros; rfl
  | succ F ih =>
    intros
    rw [rounds_next]
    refine (st50_2_0 N  _ _ _ _ _ _ (fun s => (lp Try.f50 2).rounds lay (E50 N) (retMask Try.f50) F s K) K).trans ?_
    simp only [ih]
    rfl
theorem lk50_4 {β : Type} (N : Nat) : lookL (E50 (β := β) N).loops (lp Try.f50 2).id = LS50_4 N := by kernel_rfl
theorem rk50_4 {β : Type} (N : Nat) : RoundsOK lay (E50 (β := β) N) (retMask Try.f50) (lp Try.f50 2) := by
  intro s K r h
  rw [lk50_4] at h
  unfold LS50_4 VLS50_4 at h
  cases hb : shpSt (h50_2_0 0 0 0 0 0 0) s with
  | true =>
    rw [hb, cond_true] at h
    exact ⟨N, by rw [← shpSt_ref hb, fl50_2_0 s]; exact (ro50_2_0 N  K N (intS (oneA (vT (nx tund s.tmps 4)))) (intS (oneA (vT (nx tund s.tmps 5)))) (intS (oneA (vT (nx tund s.tmps 6)))) (intS (oneA (vT (nx tund s.tmps 7)))) (intS (nx .und (cellsB (nx .dead s.blks 0)) 0)) (intS (nx .und (cellsB (nx .dead s.blks 0)) 1))).trans h⟩
  | false =>
  rw [hb, cond_false] at h
  clear hb
  cases h
def BV_spec_Contradiction_l6b {β : Type} (N : Nat)  (v0 : Int) (v1 : Int) (v2 : Int) (v3 : Int) (v4 : Int) (v5 : Int) (v6 : Int) (rec_ : Int → Int → Int → Int → Int → Int → Int → Option β) (k0 : Bool → List Int → Option β) (k1 : Int → Int → Int → Int → Int → Int → Option β) : Option β :=
(cond ((decide (v4 < v0)))
((cond (((bits .and .i64 v1 v2) == (bits .and .i64 v3 v4)))
((cond (((bits .xor .i64 v1 v2) == (bits .xor .i64 v3 v4)))
((gd ((decide (0 ≤ v3)))
((gd ((decide (0 ≤ v4)))
((cond (((bits .and .i64 (bits .or .i64 (shrI .i64 v6 v3) (shrI .i64 v6 v4)) 1) == 0))
(k0 true (((((([] : List Int) ++ [v1]) ++ [v2]) ++ [v3]) ++ [v4])))
(rec_ v0 v1 v2 v3 ((w64 (v4 + 1))) v5 v6)))))))
(rec_ v0 v1 v2 v3 ((w64 (v4 + 1))) v5 v6)))
(rec_ v0 v1 v2 v3 ((w64 (v4 + 1))) v5 v6)))
(k1 v0 v1 v2 v3 v5 v6))
theorem t_spec_Contradiction_l6b {β : Type} (N : Nat)  (v0 : Int) (v1 : Int) (v2 : Int) (v3 : Int) (v4 : Int) (v5 : Int) (v6 : Int) (rec_ : Int → Int → Int → Int → Int → Int → Int → Option β) (k0 : Bool → List Int → Option β) (k1 : Int → Int → Int → Int → Int → Int → Option β) : spec_Contradiction_l6b N v0 v1 v2 v3 v4 v5 v6 rec_ k0 k1 = BV_spec_Contradiction_l6b N v0 v1 v2 v3 v4 v5 v6 rec_ k0 k1 := by
  unfold spec_Contradiction_l6b BV_spec_Contradiction_l6b
  rfl
theorem vst50_3_0 {β : Type} (N : Nat) (q_spec_IsTable : (a0 : Int) → (a1 : Int) → (k : Bool → Option β) → Option β) (q_spec_Contradiction_l0 : Nat → Int → Int → Int → Int → (Bool → List Int → Option β) → (Option β) → Option β) (q_spec_Contradiction_l2 : Nat → Int → Int → Int → Int → Int → (Bool → List Int → Option β) → (Int → Int → Int → Int → Option β) → Option β) (q_spec_Contradiction_l4 : Nat → Int → Int → Int → Int → Int → Int → (Bool → List Int → Option β) → (Int → Int → Int → Int → Int → Option β) → Option β) (q_spec_Contradiction_l6 : Nat → Int → Int → Int → Int → Int → Int → Int → (Bool → List Int → Option β) → (Int → Int → Int → Int → Int → Int → Option β) → Option β)  (v0 : Int) (v1 : Int) (v2 : Int) (v3 : Int) (v4 : Int) (v5 : Int) (v6 : Int) (rec_ : St → Option β) (K : Exit → St → Option β) :
    ev lay (VE50 N q_spec_IsTable q_spec_Contradiction_l0 q_spec_Contradiction_l2 q_spec_Contradiction_l4 q_spec_Contradiction_l6) (retMask Try.f50) (lp Try.f50 3).body (lp Try.f50 3).ex ((lp Try.f50 3).lv (retMask Try.f50)) (h50_3_0  v0 v1 v2 v3 v4 v5 v6) (nextR (fun s' => rec_ (s'.tidy ((lp Try.f50 3).lv (retMask Try.f50)))) K) = BV_spec_Contradiction_l6b N  v0 v1 v2 v3 v4 v5 v6 (fun v0 v1 v2 v3 v4 v5 v6 => rec_ (h50_3_0  v0 v1 v2 v3 v4 v5 v6)) (fun y0 y1 => K .ret (x50_3_0_k0  y0 y1)) (fun y0 y1 y2 y3 y4 y5 => K (.exit 6) (x50_3_0_k1  y0 y1 y2 y3 y4 y5)) := by kernel_rfl
theorem st50_3_0 {β : Type} (N : Nat)  (v0 : Int) (v1 : Int) (v2 : Int) (v3 : Int) (v4 : Int) (v5 : Int) (v6 : Int) (rec_ : St → Option β) (K : Exit → St → Option β) :
    ev lay (E50 N) (retMask Try.f50) (lp Try.f50 3).body (lp Try.f50 3).ex ((lp Try.f50 3).lv (retMask Try.f50)) (h50_3_0  v0 v1 v2 v3 v4 v5 v6) (nextR (fun s' => rec_ (s'.tidy ((lp Try.f50 3).lv (retMask Try.f50)))) K) = spec_Contradiction_l6b N  v0 v1 v2 v3 v4 v5 v6 (fun v0 v1 v2 v3 v4 v5 v6 => rec_ (h50_3_0  v0 v1 v2 v3 v4 v5 v6)) (fun y0 y1 => K .ret (x50_3_0_k0  y0 y1)) (fun y0 y1 y2 y3 y4 y5 => K (.exit 6) (x50_3_0_k1  y0 y1 y2 y3 y4 y5)) := (vst50_3_0 N (spec_IsTable N) (spec_Contradiction_l0 N) (spec_Contradiction_l2 N) (spec_Contradiction_l4 N) (spec_Contradiction_l6 N) v0 v1 v2 v3 v4 v5 v6 rec_ K).trans (t_spec_Contradiction_l6b N  v0 v1 v2 v3 v4 v5 v6 (fun v0 v1 v2 v3 v4 v5 v6 => rec_ (h50_3_0  v0 v1 v2 v3 v4 v5 v6)) (fun y0 y1 => K .ret (x50_3_0_k0  y0 y1)) (fun y0 y1 y2 y3 y4 y5 => K (.exit 6) (x50_3_0_k1  y0 y1 y2 y3 y4 y5))).symm
theorem ro50_3_0 {β : Type} (N : Nat)  (K : Exit → St → Option β) : ∀ (F : Nat) (v0 : Int) (v1 : Int) (v2 : Int) (v3 : Int) (v4 : Int) (v5 : Int) (v6 : Int), (lp Try.f50 3).rounds lay (E50 N) (retMask Try.f50) F (h50_3_0  v0 v1 v2 v3 v4 v5 v6) K = spec_Contradiction_l6 N  F v0 v1 v2 v3 v4 v5 v6 (fun y0 y1 => K .ret (x50_3_0_k0  y0 y1)) (fun y0 y1 y2 y3 y4 y5 => K (.exit 6) (x50_3_0_k1  y0 y1 y2 y3 y4 y5)) := by
  intro F
  induction F with
  | zero => intros; rfl
  | succ F ih =>
    intros
    rw [rounds_next]
    refine (st50_3_0 N  _ _ _ _ _ _ _ (fun s => (lp Try.f50 3).rounds lay (E50 N) (retMask Try.f50) F s K) K).trans ?_
    simp only [ih]
    rfl
theorem lk50_6 {β : Type} (N : Nat) : lookL (E50 (β := β) N).loops (lp Try.f50 3).id = LS50_6 N := by kernel_rfl
theorem rk50_6 {β : Type} (N : Nat) : RoundsOK lay (E50 (β := β) N) (retMask Try.f50) (lp Try.f50 3) := by
  intro s K r h
  rw [lk50_6] at h
  unfold LS50_6 VLS50_6 at h
  cases hb : shpSt (h50_3_0 0 0 0 0 0 0 0) s with
  | true =>
    rw [hb, cond_true] at h
    exact ⟨N, by rw [← shpSt_ref hb, fl50_3_0 s]; exact (ro50_3_0 N  K N (intS (oneA (vT (nx tund s.tmps 4)))) (intS (oneA (vT (nx tund s.tmps 5)))) (intS (oneA (vT (nx tund s.tmps 6)))) (intS (oneA (vT (nx tund s.tmps 7)))) (intS (oneA (vT (nx tund s.tmps 8)))) (intS (nx .und (cellsB (nx .dead s.blks 0)) 0)) (intS (nx .und (cellsB (nx .dead s.blks 0)) 1))).trans h⟩
  | false =>
  rw [hb, cond_false] at h
  clear hb
  cases h
def BV_spec_Contradiction {β : Type} (N : Nat) (q_spec_IsTable : (a0 : Int) → (a1 : Int) → (k : Bool → Option β) → Option β) (q_spec_Contradiction_l0 : Nat → Int → Int → Int → Int → (Bool → List Int → Option β) → (Option β) → Option β) (a0 : Int) (a1 : Int) (k : List Int → Bool → Option β) : Option β :=
q_spec_IsTable a0 a1 fun r4 =>
(cond (!r4)
(k (([] : List Int)) false)
((gd ((decide (0 ≤ a0)))
(q_spec_Contradiction_l0  N ((shlI .i64 1 a0)) 0 a0 a1 (fun e11_0 e11_1 =>
k e11_1 e11_0) (k (([] : List Int)) false)))))
theorem t_spec_Contradiction {β : Type} (N : Nat) (a0 : Int) (a1 : Int) (k : List Int → Bool → Option β) : spec_Contradiction N a0 a1 k = BV_spec_Contradiction N (spec_IsTable N) (spec_Contradiction_l0 N) a0 a1 k := by
  unfold spec_Contradiction BV_spec_Contradiction
  rfl
theorem ve50_0 {β : Type} (N : Nat) (q_spec_IsTable : (a0 : Int) → (a1 : Int) → (k : Bool → Option β) → Option β) (q_spec_Contradiction_l0 : Nat → Int → Int → Int → Int → (Bool → List Int → Option β) → (Option β) → Option β) (q_spec_Contradiction_l2 : Nat → Int → Int → Int → Int → Int → (Bool → List Int → Option β) → (Int → Int → Int → Int → Option β) → Option β) (q_spec_Contradiction_l4 : Nat → Int → Int → Int → Int → Int → Int → (Bool → List Int → Option β) → (Int → Int → Int → Int → Int → Option β) → Option β) (q_spec_Contradiction_l6 : Nat → Int → Int → Int → Int → Int → Int → Int → (Bool → List Int → Option β) → (Int → Int → Int → Int → Int → Int → Option β) → Option β)  (a0 : Int) (a1 : Int) (K : TV → Option β) : evFn lay (VE50 N q_spec_IsTable q_spec_Contradiction_l0 q_spec_Contradiction_l2 q_spec_Contradiction_l4 q_spec_Contradiction_l6) Try.f50 [.v (.agg [.int .i64 a0, .int .i64 a1])] K = BV_spec_Contradiction N q_spec_IsTable q_spec_Contradiction_l0 a0 a1 (fun z2 z3 => K (.tup [.one (.sl 3 (.ints .i64 z2)), .one (.bool z3)])) := by kernel_rfl
theorem e50_0 {β : Type} (N : Nat)  (a0 : Int) (a1 : Int) (K : TV → Option β) : evFn lay (E50 N) Try.f50 [.v (.agg [.int .i64 a0, .int .i64 a1])] K = spec_Contradiction N a0 a1 (fun z2 z3 => K (.tup [.one (.sl 3 (.ints .i64 z2)), .one (.bool z3)])) := (ve50_0 N (spec_IsTable N) (spec_Contradiction_l0 N) (spec_Contradiction_l2 N) (spec_Contradiction_l4 N) (spec_Contradiction_l6 N) a0 a1 K).trans (t_spec_Contradiction N a0 a1 (fun z2 z3 => K (.tup [.one (.sl 3 (.ints .i64 z2)), .one (.bool z3)]))).symm
theorem o50 {β : Type} (N : Nat) : SpecOK (β := β) inv Try.prog 50 (S50 N) := by
  refine spec_of lay_ok mixed (E := E50 N) (specs_loops (specs_cons (o58 N) specs_nil)) muts_nil gs_nil Try.func50 (by kernel_rfl) 4 (by kernel_rfl) ⟨⟨⟨⟨trivial, rk50_0 N⟩, rk50_2 N⟩, rk50_4 N⟩, rk50_6 N⟩ fun args K r h => ?_
  unfold S50 VS50 at h
  split at h
  · exact (e50_0 N _ _ _).trans h
  · cases h
def VS10 {β : Type} (N : Nat) (q_spec_ClaimOfThreshold : (a0 : Int) → (a1 : Int) → (k : Int → Int → Int → Int → Int → ByteArray → List Int → Bool → Option β) → Option β) : Rv.Spec β := fun args K => match args with
  | [.v (.agg [.int .i64 a0, .int .i64 a1])] => q_spec_ClaimOfThreshold a0 a1 (fun z2 z3 z4 z5 z6 z7 z8 z9 => K (.tup [.agg [.int .i64 z2, .int .i64 z3, .int .i64 z4, .int .i64 z5, .int .i64 z6, .str z7, .sl 3 (.ints .i64 z8)], .one (.bool z9)]))
  | _ => none
def S10 {β : Type} (N : Nat) : Rv.Spec β := VS10 N (spec_ClaimOfThreshold N)
def VE10 {β : Type} (N : Nat) (q_spec_WeightsFor : (a0 : Int) → (a1 : Int) → (k : List Int → Int → Bool → Option β) → Option β) (q_spec_Contradiction : (a0 : Int) → (a1 : Int) → (k : List Int → Bool → Option β) → Option β) : Env β := ⟨[(49, VS49 N q_spec_WeightsFor), (50, VS50 N q_spec_Contradiction)], [], [], [], ⟨[], [], []⟩⟩
def E10 {β : Type} (N : Nat) : Env β := VE10 N (spec_WeightsFor N) (spec_Contradiction N)
def BV_spec_ClaimOfThreshold {β : Type} (N : Nat) (q_spec_WeightsFor : (a0 : Int) → (a1 : Int) → (k : List Int → Int → Bool → Option β) → Option β) (q_spec_Contradiction : (a0 : Int) → (a1 : Int) → (k : List Int → Bool → Option β) → Option β) (a0 : Int) (a1 : Int) (k : Int → Int → Int → Int → Int → ByteArray → List Int → Bool → Option β) : Option β :=
q_spec_WeightsFor a0 a1 fun r10 r11 r12 =>
(cond r12
(k 2 a0 a1 r11 0 ByteArray.empty r10 true)
(q_spec_Contradiction a0 a1 fun r13 r14 =>
(cond (!r14)
(k 0 0 0 0 0 ByteArray.empty (([] : List Int)) false)
((cond ((decide (a0 > 4)))
(k 0 0 0 0 0 ByteArray.empty (([] : List Int)) false)
(k 3 a0 a1 0 0 ByteArray.empty r13 true))))))
theorem t_spec_ClaimOfThreshold {β : Type} (N : Nat) (a0 : Int) (a1 : Int) (k : Int → Int → Int → Int → Int → ByteArray → List Int → Bool → Option β) : spec_ClaimOfThreshold N a0 a1 k = BV_spec_ClaimOfThreshold N (spec_WeightsFor N) (spec_Contradiction N) a0 a1 k := by
  unfold spec_ClaimOfThreshold BV_spec_ClaimOfThreshold
  rfl
theorem ve10_0 {β : Type} (N : Nat) (q_spec_WeightsFor : (a0 : Int) → (a1 : Int) → (k : List Int → Int → Bool → Option β) → Option β) (q_spec_Contradiction : (a0 : Int) → (a1 : Int) → (k : List Int → Bool → Option β) → Option β)  (a0 : Int) (a1 : Int) (K : TV → Option β) : evFn lay (VE10 N q_spec_WeightsFor q_spec_Contradiction) Try.f10 [.v (.agg [.int .i64 a0, .int .i64 a1])] K = BV_spec_ClaimOfThreshold N q_spec_WeightsFor q_spec_Contradiction a0 a1 (fun z2 z3 z4 z5 z6 z7 z8 z9 => K (.tup [.agg [.int .i64 z2, .int .i64 z3, .int .i64 z4, .int .i64 z5, .int .i64 z6, .str z7, .sl 3 (.ints .i64 z8)], .one (.bool z9)])) := by kernel_rfl
theorem e10_0 {β : Type} (N : Nat)  (a0 : Int) (a1 : Int) (K : TV → Option β) : evFn lay (E10 N) Try.f10 [.v (.agg [.int .i64 a0, .int .i64 a1])] K = spec_ClaimOfThreshold N a0 a1 (fun z2 z3 z4 z5 z6 z7 z8 z9 => K (.tup [.agg [.int .i64 z2, .int .i64 z3, .int .i64 z4, .int .i64 z5, .int .i64 z6, .str z7, .sl 3 (.ints .i64 z8)], .one (.bool z9)])) := (ve10_0 N (spec_WeightsFor N) (spec_Contradiction N) a0 a1 K).trans (t_spec_ClaimOfThreshold N a0 a1 (fun z2 z3 z4 z5 z6 z7 z8 z9 => K (.tup [.agg [.int .i64 z2, .int .i64 z3, .int .i64 z4, .int .i64 z5, .int .i64 z6, .str z7, .sl 3 (.ints .i64 z8)], .one (.bool z9)]))).symm
theorem o10 {β : Type} (N : Nat) : SpecOK (β := β) inv Try.prog 10 (S10 N) := by
  refine spec_of lay_ok mixed (E := E10 N) (specs_loops (specs_cons (o49 N) (specs_cons (o50 N) specs_nil))) muts_nil gs_nil Try.func10 (by kernel_rfl) 0 (by kernel_rfl) trivial fun args K r h => ?_
  unfold S10 VS10 at h
  split at h
  · exact (e10_0 N _ _ _).trans h
  · cases h
def VS71 {β : Type} (N : Nat) (q_impl_isBits : (a0 : Int) → (k : Bool → Option β) → Option β) : Rv.Spec β := fun args K => match args with
  | [.v (.one (.int .i64 a0))] => q_impl_isBits a0 (fun z1 => K (.v (.one (.bool z1))))
  | _ => none
def S71 {β : Type} (N : Nat) : Rv.Spec β := VS71 N (impl_isBits N)
def VE71 {β : Type} (N : Nat) : Env β := ⟨[], [], [], [], ⟨[], [], []⟩⟩
def E71 {β : Type} (N : Nat) : Env β := VE71 N
def BV_impl_isBits {β : Type} (N : Nat) (a0 : Int) (k : Bool → Option β) : Option β :=
(cond ((decide (a0 ≥ 0)))
(k ((decide (a0 ≤ 5))))
(k false))
theorem t_impl_isBits {β : Type} (N : Nat) (a0 : Int) (k : Bool → Option β) : impl_isBits N a0 k = BV_impl_isBits N a0 k := by
  unfold impl_isBits BV_impl_isBits
  rfl
theorem ve71_0 {β : Type} (N : Nat)  (a0 : Int) (K : TV → Option β) : evFn lay (VE71 N) Try.f71 [.v (.one (.int .i64 a0))] K = BV_impl_isBits N a0 (fun z1 => K (.v (.one (.bool z1)))) := by kernel_rfl
theorem e71_0 {β : Type} (N : Nat)  (a0 : Int) (K : TV → Option β) : evFn lay (E71 N) Try.f71 [.v (.one (.int .i64 a0))] K = impl_isBits N a0 (fun z1 => K (.v (.one (.bool z1)))) := (ve71_0 N a0 K).trans (t_impl_isBits N a0 (fun z1 => K (.v (.one (.bool z1))))).symm
theorem o71 {β : Type} (N : Nat) : SpecOK (β := β) inv Try.prog 71 (S71 N) := by
  refine spec_of lay_ok mixed (E := E71 N) (specs_loops specs_nil) muts_nil gs_nil Try.func71 (by kernel_rfl) 0 (by kernel_rfl) trivial fun args K r h => ?_
  unfold S71 VS71 at h
  split at h
  · exact (e71_0 N _ _).trans h
  · cases h
def VS96 {β : Type} (N : Nat) (q_impl_Table_size : (a0 : Int) → (a1 : Int) → (k : Int → Option β) → Option β) : Rv.Spec β := fun args K => match args with
  | [.v (.agg [.int .i64 a0, .int .i64 a1])] => q_impl_Table_size a0 a1 (fun z2 => K (.v (.one (.int .i64 z2))))
  | _ => none
def S96 {β : Type} (N : Nat) : Rv.Spec β := VS96 N (impl_Table_size N)
def VE96 {β : Type} (N : Nat) : Env β := ⟨[], [], [], [], ⟨[], [], []⟩⟩
def E96 {β : Type} (N : Nat) : Env β := VE96 N
def BV_impl_Table_size {β : Type} (N : Nat) (a0 : Int) (a1 : Int) (k : Int → Option β) : Option β :=
(gd ((decide (0 ≤ a0)))
(k ((shlI .i64 1 a0))))
theorem t_impl_Table_size {β : Type} (N : Nat) (a0 : Int) (a1 : Int) (k : Int → Option β) : impl_Table_size N a0 a1 k = BV_impl_Table_size N a0 a1 k := by
  unfold impl_Table_size BV_impl_Table_size
  rfl
theorem ve96_0 {β : Type} (N : Nat)  (a0 : Int) (a1 : Int) (K : TV → Option β) : evFn lay (VE96 N) Try.f96 [.v (.agg [.int .i64 a0, .int .i64 a1])] K = BV_impl_Table_size N a0 a1 (fun z2 => K (.v (.one (.int .i64 z2)))) := by kernel_rfl
theorem e96_0 {β : Type} (N : Nat)  (a0 : Int) (a1 : Int) (K : TV → Option β) : evFn lay (E96 N) Try.f96 [.v (.agg [.int .i64 a0, .int .i64 a1])] K = impl_Table_size N a0 a1 (fun z2 => K (.v (.one (.int .i64 z2)))) := (ve96_0 N a0 a1 K).trans (t_impl_Table_size N a0 a1 (fun z2 => K (.v (.one (.int .i64 z2))))).symm
theorem o96 {β : Type} (N : Nat) : SpecOK (β := β) inv Try.prog 96 (S96 N) := by
  refine spec_of lay_ok mixed (E := E96 N) (specs_loops specs_nil) muts_nil gs_nil Try.func96 (by kernel_rfl) 0 (by kernel_rfl) trivial fun args K r h => ?_
  unfold S96 VS96 at h
  split at h
  · exact (e96_0 N _ _ _).trans h
  · cases h
def VS82 {β : Type} (N : Nat) (q_impl_IsTable : (a0 : Int) → (a1 : Int) → (k : Bool → Option β) → Option β) : Rv.Spec β := fun args K => match args with
  | [.v (.agg [.int .i64 a0, .int .i64 a1])] => q_impl_IsTable a0 a1 (fun z2 => K (.v (.one (.bool z2))))
  | _ => none
def S82 {β : Type} (N : Nat) : Rv.Spec β := VS82 N (impl_IsTable N)
def VE82 {β : Type} (N : Nat) (q_impl_isBits : (a0 : Int) → (k : Bool → Option β) → Option β) (q_impl_Table_size : (a0 : Int) → (a1 : Int) → (k : Int → Option β) → Option β) : Env β := ⟨[(71, VS71 N q_impl_isBits), (96, VS96 N q_impl_Table_size)], [], [], [], ⟨[], [], []⟩⟩
def E82 {β : Type} (N : Nat) : Env β := VE82 N (impl_isBits N) (impl_Table_size N)
def BV_impl_IsTable {β : Type} (N : Nat) (q_impl_isBits : (a0 : Int) → (k : Bool → Option β) → Option β) (q_impl_Table_size : (a0 : Int) → (a1 : Int) → (k : Int → Option β) → Option β) (a0 : Int) (a1 : Int) (k : Bool → Option β) : Option β :=
q_impl_isBits a0 fun r3 =>
(cond r3
((cond ((decide (a1 ≥ 0)))
(q_impl_Table_size a0 a1 fun r4 =>
(gd ((decide (0 ≤ r4)))
(k (((shrI .i64 a1 r4) == 0)))))
(k false)))
(k false))
theorem t_impl_IsTable {β : Type} (N : Nat) (a0 : Int) (a1 : Int) (k : Bool → Option β) : impl_IsTable N a0 a1 k = BV_impl_IsTable N (impl_isBits N) (impl_Table_size N) a0 a1 k := by
  unfold impl_IsTable BV_impl_IsTable
  rfl
theorem ve82_0 {β : Type} (N : Nat) (q_impl_isBits : (a0 : Int) → (k : Bool → Option β) → Option β) (q_impl_Table_size : (a0 : Int) → (a1 : Int) → (k : Int → Option β) → Option β)  (a0 : Int) (a1 : Int) (K : TV → Option β) : evFn lay (VE82 N q_impl_isBits q_impl_Table_size) Try.f82 [.v (.agg [.int .i64 a0, .int .i64 a1])] K = BV_impl_IsTable N q_impl_isBits q_impl_Table_size a0 a1 (fun z2 => K (.v (.one (.bool z2)))) := by kernel_rfl
theorem e82_0 {β : Type} (N : Nat)  (a0 : Int) (a1 : Int) (K : TV → Option β) : evFn lay (E82 N) Try.f82 [.v (.agg [.int .i64 a0, .int .i64 a1])] K = impl_IsTable N a0 a1 (fun z2 => K (.v (.one (.bool z2)))) := (ve82_0 N (impl_isBits N) (impl_Table_size N) a0 a1 K).trans (t_impl_IsTable N a0 a1 (fun z2 => K (.v (.one (.bool z2))))).symm
theorem o82 {β : Type} (N : Nat) : SpecOK (β := β) inv Try.prog 82 (S82 N) := by
  refine spec_of lay_ok mixed (E := E82 N) (specs_loops (specs_cons (o71 N) (specs_cons (o96 N) specs_nil))) muts_nil gs_nil Try.func82 (by kernel_rfl) 0 (by kernel_rfl) trivial fun args K r h => ?_
  unfold S82 VS82 at h
  split at h
  · exact (e82_0 N _ _ _).trans h
  · cases h
def VS51 {β : Type} (N : Nat) (q_impl_isSmall : (a0 : Int) → (a1 : Int) → (a2 : Int) → (k : Bool → Option β) → Option β) : Rv.Spec β := fun args K => match args with
  | [.v (.agg [.int .i64 a0, .int .i64 a1]), .v (.one (.int .i64 a2))] => q_impl_isSmall a0 a1 a2 (fun z3 => K (.v (.one (.bool z3))))
  | _ => none
def S51 {β : Type} (N : Nat) : Rv.Spec β := VS51 N (impl_isSmall N)
def VE51 {β : Type} (N : Nat) (q_impl_IsTable : (a0 : Int) → (a1 : Int) → (k : Bool → Option β) → Option β) : Env β := ⟨[(82, VS82 N q_impl_IsTable)], [], [], [], ⟨[], [], []⟩⟩
def E51 {β : Type} (N : Nat) : Env β := VE51 N (impl_IsTable N)
def BV_impl_isSmall {β : Type} (N : Nat) (q_impl_IsTable : (a0 : Int) → (a1 : Int) → (k : Bool → Option β) → Option β) (a0 : Int) (a1 : Int) (a2 : Int) (k : Bool → Option β) : Option β :=
q_impl_IsTable a0 a1 fun r4 =>
(cond r4
(k ((decide (a0 ≤ a2))))
(k false))
theorem t_impl_isSmall {β : Type} (N : Nat) (a0 : Int) (a1 : Int) (a2 : Int) (k : Bool → Option β) : impl_isSmall N a0 a1 a2 k = BV_impl_isSmall N (impl_IsTable N) a0 a1 a2 k := by
  unfold impl_isSmall BV_impl_isSmall
  rfl
theorem ve51_0 {β : Type} (N : Nat) (q_impl_IsTable : (a0 : Int) → (a1 : Int) → (k : Bool → Option β) → Option β)  (a0 : Int) (a1 : Int) (a2 : Int) (K : TV → Option β) : evFn lay (VE51 N q_impl_IsTable) Try.f51 [.v (.agg [.int .i64 a0, .int .i64 a1]), .v (.one (.int .i64 a2))] K = BV_impl_isSmall N q_impl_IsTable a0 a1 a2 (fun z3 => K (.v (.one (.bool z3)))) := by kernel_rfl
theorem e51_0 {β : Type} (N : Nat)  (a0 : Int) (a1 : Int) (a2 : Int) (K : TV → Option β) : evFn lay (E51 N) Try.f51 [.v (.agg [.int .i64 a0, .int .i64 a1]), .v (.one (.int .i64 a2))] K = impl_isSmall N a0 a1 a2 (fun z3 => K (.v (.one (.bool z3)))) := (ve51_0 N (impl_IsTable N) a0 a1 a2 K).trans (t_impl_isSmall N a0 a1 a2 (fun z3 => K (.v (.one (.bool z3))))).symm
theorem o51 {β : Type} (N : Nat) : SpecOK (β := β) inv Try.prog 51 (S51 N) := by
  refine spec_of lay_ok mixed (E := E51 N) (specs_loops (specs_cons (o82 N) specs_nil)) muts_nil gs_nil Try.func51 (by kernel_rfl) 0 (by kernel_rfl) trivial fun args K r h => ?_
  unfold S51 VS51 at h
  split at h
  · exact (e51_0 N _ _ _ _).trans h
  · cases h
def VS125 {β : Type} (N : Nat) (q_impl_weightAt : (a0 : List Int) → (a1 : Int) → (k : Int → Option β) → Option β) : Rv.Spec β := fun args K => match args with
  | [.v (.one (.sl 3 (.ints .i64 a0))), .v (.one (.int .i64 a1))] => q_impl_weightAt a0 a1 (fun z2 => K (.v (.one (.int .i64 z2))))
  | _ => none
def S125 {β : Type} (N : Nat) : Rv.Spec β := VS125 N (impl_weightAt N)
def h125_0_0  (v0 : Int) (v1 : Int) (v2 : List Int) (v3 : Int) (v4 : Int) : St := ⟨.v (.one .und) :: .v (.one (.int .i64 v0)) :: .v (.one .und) :: .v (.one .und) :: .v (.one .und) :: .v (.one (.int .i64 v1)) :: .v (.one .und) :: .v (.one .und) :: .v (.one (.sl 3 (.ints .i64 v2))) :: .v (.one (.int .i64 v3)) :: .v (.one (.int .i64 v4)) :: .v (.one .und) :: .v (.one .und) :: .v (.one .und) :: .v (.one .und) :: .v (.one .und) :: .v (.one .und) :: .v (.one .und) :: .v (.one .und) :: .v (.one .und) :: .v (.one .und) :: .v (.one .und) :: .v (.one .und) :: .v (.one .und) :: .v (.one .und) :: [], []⟩
def x125_0_0_k0  (y0 : Int) : St := ⟨.v (.one .und) :: .v (.one .und) :: .v (.one .und) :: .v (.one .und) :: .v (.one .und) :: .v (.one (.int .i64 y0)) :: .v (.one .und) :: .v (.one .und) :: .v (.one .und) :: .v (.one .und) :: .v (.one .und) :: .v (.one .und) :: .v (.one .und) :: .v (.one .und) :: .v (.one .und) :: .v (.one .und) :: .v (.one .und) :: .v (.one .und) :: .v (.one .und) :: .v (.one .und) :: .v (.one .und) :: .v (.one .und) :: .v (.one .und) :: .v (.one .und) :: .v (.one .und) :: [], []⟩
theorem fl125_0_0 (s : St) : refSt (h125_0_0 0 0 [] 0 0) s = h125_0_0 (intS (oneA (vT (nx tund s.tmps 1)))) (intS (oneA (vT (nx tund s.tmps 5)))) (rInts (rowV (oneA (vT (nx tund s.tmps 8))))) (intS (oneA (vT (nx tund s.tmps 9)))) (intS (oneA (vT (nx tund s.tmps 10)))) := by kernel_rfl
def VLS125_0 {β : Type} (N : Nat) (q_impl_weightAt_l0 : Nat → Int → Int → List Int → Int → Int → (Int → Option β) → Option β) : LSpec β := fun s K => cond (shpSt (h125_0_0 0 0 [] 0 0) s) ((fun (v0 : Int) (v1 : Int) (v2 : List Int) (v3 : Int) (v4 : Int) => q_impl_weightAt_l0  N v0 v1 v2 v3 v4 (fun y0 => K (.exit 0) (x125_0_0_k0  y0))) (intS (oneA (vT (nx tund s.tmps 1)))) (intS (oneA (vT (nx tund s.tmps 5)))) (rInts (rowV (oneA (vT (nx tund s.tmps 8))))) (intS (oneA (vT (nx tund s.tmps 9)))) (intS (oneA (vT (nx tund s.tmps 10))))) (none)
def LS125_0 {β : Type} (N : Nat) : LSpec β := VLS125_0 N (impl_weightAt_l0 N)
def VE125 {β : Type} (N : Nat) (q_impl_weightAt_l0 : Nat → Int → Int → List Int → Int → Int → (Int → Option β) → Option β) : Env β := ⟨[], [], [(0, VLS125_0 N q_impl_weightAt_l0)], [], ⟨[], [], []⟩⟩
def E125 {β : Type} (N : Nat) : Env β := VE125 N (impl_weightAt_l0 N)
def BV_impl_weightAt_l0b {β : Type} (N : Nat)  (v0 : Int) (v1 : Int) (v2 : List Int) (v3 : Int) (v4 : Int) (rec_ : Int → Int → List Int → Int → Int → Option β) (k0 : Int → Option β) : Option β :=
(cond ((decide (v4 < v3)))
((gd ((decide (0 ≤ v4)))
((gd ((decide (v4 < (v2.length : Int))))
((gd ((decide (0 ≤ v4)))
(rec_ v0 ((w64 (v1 + (w64 ((rd 0 v2 v4) * (bits .and .i64 (shrI .i64 v0 v4) 1)))))) v2 v3 ((w64 (v4 + 1))))))))))
(k0 v1))
theorem t_impl_weightAt_l0b {β : Type} (N : Nat)  (v0 : Int) (v1 : Int) (v2 : List Int) (v3 : Int) (v4 : Int) (rec_ : Int → Int → List Int → Int → Int → Option β) (k0 : Int → Option β) : impl_weightAt_l0b N v0 v1 v2 v3 v4 rec_ k0 = BV_impl_weightAt_l0b N v0 v1 v2 v3 v4 rec_ k0 := by
  unfold impl_weightAt_l0b BV_impl_weightAt_l0b
  rfl
theorem vst125_0_0 {β : Type} (N : Nat) (q_impl_weightAt_l0 : Nat → Int → Int → List Int → Int → Int → (Int → Option β) → Option β)  (v0 : Int) (v1 : Int) (v2 : List Int) (v3 : Int) (v4 : Int) (rec_ : St → Option β) (K : Exit → St → Option β) :
    ev lay (VE125 N q_impl_weightAt_l0) (retMask Try.f125) (lp Try.f125 0).body (lp Try.f125 0).ex ((lp Try.f125 0).lv (retMask Try.f125)) (h125_0_0  v0 v1 v2 v3 v4) (nextR (fun s' => rec_ (s'.tidy ((lp Try.f125 0).lv (retMask Try.f125)))) K) = BV_impl_weightAt_l0b N  v0 v1 v2 v3 v4 (fun v0 v1 v2 v3 v4 => rec_ (h125_0_0  v0 v1 v2 v3 v4)) (fun y0 => K (.exit 0) (x125_0_0_k0  y0)) := by kernel_rfl
theorem st125_0_0 {β : Type} (N : Nat)  (v0 : Int) (v1 : Int) (v2 : List Int) (v3 : Int) (v4 : Int) (rec_ : St → Option β) (K : Exit → St → Option β) :
    ev lay (E125 N) (retMask Try.f125) (lp Try.f125 0).body (lp Try.f125 0).ex ((lp Try.f125 0).lv (retMask Try.f125)) (h125_0_0  v0 v1 v2 v3 v4) (nextR (fun s' => rec_ (s'.tidy ((lp Try.f125 0).lv (retMask Try.f125)))) K) = impl_weightAt_l0b N  v0 v1 v2 v3 v4 (fun v0 v1 v2 v3 v4 => rec_ (h125_0_0  v0 v1 v2 v3 v4)) (fun y0 => K (.exit 0) (x125_0_0_k0  y0)) := (vst125_0_0 N (impl_weightAt_l0 N) v0 v1 v2 v3 v4 rec_ K).trans (t_impl_weightAt_l0b N  v0 v1 v2 v3 v4 (fun v0 v1 v2 v3 v4 => rec_ (h125_0_0  v0 v1 v2 v3 v4)) (fun y0 => K (.exit 0) (x125_0_0_k0  y0))).symm
theorem ro125_0_0 {β : Type} (N : Nat)  (K : Exit → St → Option β) : ∀ (F : Nat) (v0 : Int) (v1 : Int) (v2 : List Int) (v3 : Int) (v4 : Int), (lp Try.f125 0).rounds lay (E125 N) (retMask Try.f125) F (h125_0_0  v0 v1 v2 v3 v4) K = impl_weightAt_l0 N  F v0 v1 v2 v3 v4 (fun y0 => K (.exit 0) (x125_0_0_k0  y0)) := by
  intro F
  induction F with
  | zero => intros; rfl
  | succ F ih =>
    intros
    rw [rounds_next]
    refine (st125_0_0 N  _ _ _ _ _ (fun s => (lp Try.f125 0).rounds lay (E125 N) (retMask Try.f125) F s K) K).trans ?_
    simp only [ih]
    rfl
theorem lk125_0 {β : Type} (N : Nat) : lookL (E125 (β := β) N).loops (lp Try.f125 0).id = LS125_0 N := by kernel_rfl
theorem rk125_0 {β : Type} (N : Nat) : RoundsOK lay (E125 (β := β) N) (retMask Try.f125) (lp Try.f125 0) := by
  intro s K r h
  rw [lk125_0] at h
  unfold LS125_0 VLS125_0 at h
  cases hb : shpSt (h125_0_0 0 0 [] 0 0) s with
  | true =>
    rw [hb, cond_true] at h
    exact ⟨N, by rw [← shpSt_ref hb, fl125_0_0 s]; exact (ro125_0_0 N  K N (intS (oneA (vT (nx tund s.tmps 1)))) (intS (oneA (vT (nx tund s.tmps 5)))) (rInts (rowV (oneA (vT (nx tund s.tmps 8))))) (intS (oneA (vT (nx tund s.tmps 9)))) (intS (oneA (vT (nx tund s.tmps 10))))).trans h⟩
  | false =>
  rw [hb, cond_false] at h
  clear hb
  cases h
def BV_impl_weightAt {β : Type} (N : Nat) (q_impl_weightAt_l0 : Nat → Int → Int → List Int → Int → Int → (Int → Option β) → Option β) (a0 : List Int) (a1 : Int) (k : Int → Option β) : Option β :=
q_impl_weightAt_l0  N a1 0 a0 ((a0.length : Int)) 0 (fun e3_0 =>
k e3_0)
theorem t_impl_weightAt {β : Type} (N : Nat) (a0 : List Int) (a1 : Int) (k : Int → Option β) : impl_weightAt N a0 a1 k = BV_impl_weightAt N (impl_weightAt_l0 N) a0 a1 k := by
  unfold impl_weightAt BV_impl_weightAt
  rfl
theorem ve125_0 {β : Type} (N : Nat) (q_impl_weightAt_l0 : Nat → Int → Int → List Int → Int → Int → (Int → Option β) → Option β)  (a0 : List Int) (a1 : Int) (K : TV → Option β) : evFn lay (VE125 N q_impl_weightAt_l0) Try.f125 [.v (.one (.sl 3 (.ints .i64 a0))), .v (.one (.int .i64 a1))] K = BV_impl_weightAt N q_impl_weightAt_l0 a0 a1 (fun z2 => K (.v (.one (.int .i64 z2)))) := by kernel_rfl
theorem e125_0 {β : Type} (N : Nat)  (a0 : List Int) (a1 : Int) (K : TV → Option β) : evFn lay (E125 N) Try.f125 [.v (.one (.sl 3 (.ints .i64 a0))), .v (.one (.int .i64 a1))] K = impl_weightAt N a0 a1 (fun z2 => K (.v (.one (.int .i64 z2)))) := (ve125_0 N (impl_weightAt_l0 N) a0 a1 K).trans (t_impl_weightAt N a0 a1 (fun z2 => K (.v (.one (.int .i64 z2))))).symm
theorem o125 {β : Type} (N : Nat) : SpecOK (β := β) inv Try.prog 125 (S125 N) := by
  refine spec_of lay_ok mixed (E := E125 N) (specs_loops specs_nil) muts_nil gs_nil Try.func125 (by kernel_rfl) 1 (by kernel_rfl) ⟨trivial, rk125_0 N⟩ fun args K r h => ?_
  unfold S125 VS125 at h
  split at h
  · exact (e125_0 N _ _ _).trans h
  · cases h
end Go.Proofs.Ytfdggelojmofmaa
