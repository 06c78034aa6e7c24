/- The functions that the claims reach answer as their texts do. -/
import Derived.Test.YtfdggelojmofmaaE2
namespace Go.Proofs.Ytfdggelojmofmaa
open Go.Rv
set_option maxRecDepth 100000
set_option maxHeartbeats 2000000
set_option linter.unusedVariables false
def VS53 {β : Type} (N : Nat) (q_impl_Contradiction : (a0 : Int) → (a1 : Int) → (k : List Int → Bool → Option β) → Option β) : Rv.Spec β := fun args K => match args with
  | [.v (.agg [.int .i64 a0, .int .i64 a1])] => q_impl_Contradiction a0 a1 (fun z2 z3 => K (.tup [.one (.sl 3 (.ints .i64 z2)), .one (.bool z3)]))
  | _ => none
def S53 {β : Type} (N : Nat) : Rv.Spec β := VS53 N (impl_Contradiction N)
def h53_0_0  (v0 : Int) (v1 : Int) (v2 : Int) (v3 : Int) : St := ⟨.v (.one .und) :: .v (.one (.ptr 0 0)) :: .v (.one .und) :: .v (.one .und) :: .v (.one .und) :: .v (.one .und) :: .v (.one .und) :: .v (.one .und) :: .v (.one .und) :: .v (.one .und) :: .v (.one .und) :: .v (.one .und) :: .v (.one (.int .i64 v0)) :: .v (.one (.int .i64 v1)) :: .v (.one .und) :: .v (.one .und) :: .v (.one .und) :: .v (.one .und) :: .v (.one .und) :: .v (.one .und) :: .v (.one .und) :: .v (.one .und) :: .v (.one .und) :: .v (.one .und) :: .v (.one .und) :: .v (.one .und) :: .v (.one .und) :: .v (.one .und) :: .v (.one .und) :: .v (.one .und) :: .v (.one .und) :: .v (.one .und) :: .v (.one .und) :: .v (.one .und) :: .v (.one .und) :: .v (.one .und) :: .v (.one .und) :: .v (.one .und) :: .v (.one .und) :: .v (.one .und) :: .v (.one .und) :: .v (.one .und) :: .v (.one .und) :: .v (.one .und) :: .v (.one .und) :: .v (.one .und) :: .v (.one .und) :: .v (.one .und) :: .v (.one .und) :: .v (.one .und) :: .v (.one .und) :: .v (.one .und) :: .v (.one .und) :: .v (.one .und) :: .v (.one .und) :: .v (.one .und) :: .v (.one .und) :: .v (.one .und) :: .v (.one .und) :: .v (.one .und) :: .v (.one .und) :: .v (.one .und) :: .v (.one .und) :: .v (.one .und) :: .v (.one .und) :: .v (.one .und) :: .v (.one .und) :: .v (.one .und) :: .v (.one .und) :: .v (.one .und) :: .v (.one .und) :: .v (.one .und) :: [], [.cells 27 [.int .i64 v2, .int .i64 v3]]⟩
def x53_0_0_k0  (y0 : Bool) (y1 : List Int) : St := ⟨.v (.one .und) :: .v (.one .und) :: .v (.one (.row 0)) :: .v (.one (.bool y0)) :: .v (.one .und) :: .v (.one .und) :: .v (.one .und) :: .v (.one .und) :: .v (.one .und) :: .v (.one .und) :: .v (.one .und) :: .v (.one .und) :: .v (.one .und) :: .v (.one .und) :: .v (.one .und) :: .v (.one .und) :: .v (.one .und) :: .v (.one .und) :: .v (.one .und) :: .v (.one .und) :: .v (.one .und) :: .v (.one .und) :: .v (.one .und) :: .v (.one .und) :: .v (.one .und) :: .v (.one .und) :: .v (.one .und) :: .v (.one .und) :: .v (.one .und) :: .v (.one .und) :: .v (.one .und) :: .v (.one .und) :: .v (.one .und) :: .v (.one .und) :: .v (.one .und) :: .v (.one .und) :: .v (.one .und) :: .v (.one .und) :: .v (.one .und) :: .v (.one .und) :: .v (.one .und) :: .v (.one .und) :: .v (.one .und) :: .v (.one .und) :: .v (.one .und) :: .v (.one .und) :: .v (.one .und) :: .v (.one .und) :: .v (.one .und) :: .v (.one .und) :: .v (.one .und) :: .v (.one .und) :: .v (.one .und) :: .v (.one .und) :: .v (.one .und) :: .v (.one .und) :: .v (.one .und) :: .v (.one .und) :: .v (.one .und) :: .v (.one .und) :: .v (.one .und) :: .v (.one .und) :: .v (.one .und) :: .v (.one .und) :: .v (.one .und) :: .v (.one .und) :: .v (.one .und) :: .v (.one .und) :: .v (.one .und) :: .v (.one .und) :: .v (.one .und) :: .v (.one .und) :: [], [.row 3 (.ints .i64 y1)]⟩
def x53_0_0_k1   : St := ⟨.v (.one .und) :: .v (.one .und) :: .v (.one .und) :: .v (.one .und) :: .v (.one .und) :: .v (.one .und) :: .v (.one .und) :: .v (.one .und) :: .v (.one .und) :: .v (.one .und) :: .v (.one .und) :: .v (.one .und) :: .v (.one .und) :: .v (.one .und) :: .v (.one .und) :: .v (.one .und) :: .v (.one .und) :: .v (.one .und) :: .v (.one .und) :: .v (.one .und) :: .v (.one .und) :: .v (.one .und) :: .v (.one .und) :: .v (.one .und) :: .v (.one .und) :: .v (.one .und) :: .v (.one .und) :: .v (.one .und) :: .v (.one .und) :: .v (.one .und) :: .v (.one .und) :: .v (.one .und) :: .v (.one .und) :: .v (.one .und) :: .v (.one .und) :: .v (.one .und) :: .v (.one .und) :: .v (.one .und) :: .v (.one .und) :: .v (.one .und) :: .v (.one .und) :: .v (.one .und) :: .v (.one .und) :: .v (.one .und) :: .v (.one .und) :: .v (.one .und) :: .v (.one .und) :: .v (.one .und) :: .v (.one .und) :: .v (.one .und) :: .v (.one .und) :: .v (.one .und) :: .v (.one .und) :: .v (.one .und) :: .v (.one .und) :: .v (.one .und) :: .v (.one .und) :: .v (.one .und) :: .v (.one .und) :: .v (.one .und) :: .v (.one .und) :: .v (.one .und) :: .v (.one .und) :: .v (.one .und) :: .v (.one .und) :: .v (.one .und) :: .v (.one .und) :: .v (.one .und) :: .v (.one .und) :: .v (.one .und) :: .v (.one .und) :: .v (.one .und) :: [], []⟩
def h53_1_0  (v0 : Int) (v1 : Int) (v2 : Int) (v3 : Int) (v4 : Int) (v5 : Int) : St := ⟨.v (.one .und) :: .v (.one (.ptr 0 0)) :: .v (.one .und) :: .v (.one .und) :: .v (.one (.int .i64 v0)) :: .v (.one (.int .i64 v1)) :: .v (.one .und) :: .v (.one .und) :: .v (.one .und) :: .v (.one .und) :: .v (.one .und) :: .v (.one .und) :: .v (.one (.int .i64 v2)) :: .v (.one (.int .i64 v3)) :: .v (.one .und) :: .v (.one .und) :: .v (.one .und) :: .v (.one .und) :: .v (.one .und) :: .v (.one .und) :: .v (.one .und) :: .v (.one .und) :: .v (.one .und) :: .v (.one .und) :: .v (.one .und) :: .v (.one .und) :: .v (.one .und) :: .v (.one .und) :: .v (.one .und) :: .v (.one .und) :: .v (.one .und) :: .v (.one .und) :: .v (.one .und) :: .v (.one .und) :: .v (.one .und) :: .v (.one .und) :: .v (.one .und) :: .v (.one .und) :: .v (.one .und) :: .v (.one .und) :: .v (.one .und) :: .v (.one .und) :: .v (.one .und) :: .v (.one .und) :: .v (.one .und) :: .v (.one .und) :: .v (.one .und) :: .v (.one .und) :: .v (.one .und) :: .v (.one .und) :: .v (.one .und) :: .v (.one .und) :: .v (.one .und) :: .v (.one .und) :: .v (.one .und) :: .v (.one .und) :: .v (.one .und) :: .v (.one .und) :: .v (.one .und) :: .v (.one .und) :: .v (.one .und) :: .v (.one .und) :: .v (.one .und) :: .v (.one .und) :: .v (.one .und) :: .v (.one .und) :: .v (.one .und) :: .v (.one .und) :: .v (.one .und) :: .v (.one .und) :: .v (.one .und) :: .v (.one .und) :: [], [.cells 27 [.int .i64 v4, .int .i64 v5]]⟩
def x53_1_0_k0  (y0 : Bool) (y1 : List Int) : St := ⟨.v (.one .und) :: .v (.one .und) :: .v (.one (.row 0)) :: .v (.one (.bool y0)) :: .v (.one .und) :: .v (.one .und) :: .v (.one .und) :: .v (.one .und) :: .v (.one .und) :: .v (.one .und) :: .v (.one .und) :: .v (.one .und) :: .v (.one .und) :: .v (.one .und) :: .v (.one .und) :: .v (.one .und) :: .v (.one .und) :: .v (.one .und) :: .v (.one .und) :: .v (.one .und) :: .v (.one .und) :: .v (.one .und) :: .v (.one .und) :: .v (.one .und) :: .v (.one .und) :: .v (.one .und) :: .v (.one .und) :: .v (.one .und) :: .v (.one .und) :: .v (.one .und) :: .v (.one .und) :: .v (.one .und) :: .v (.one .und) :: .v (.one .und) :: .v (.one .und) :: .v (.one .und) :: .v (.one .und) :: .v (.one .und) :: .v (.one .und) :: .v (.one .und) :: .v (.one .und) :: .v (.one .und) :: .v (.one .und) :: .v (.one .und) :: .v (.one .und) :: .v (.one .und) :: .v (.one .und) :: .v (.one .und) :: .v (.one .und) :: .v (.one .und) :: .v (.one .und) :: .v (.one .und) :: .v (.one .und) :: .v (.one .und) :: .v (.one .und) :: .v (.one .und) :: .v (.one .und) :: .v (.one .und) :: .v (.one .und) :: .v (.one .und) :: .v (.one .und) :: .v (.one .und) :: .v (.one .und) :: .v (.one .und) :: .v (.one .und) :: .v (.one .und) :: .v (.one .und) :: .v (.one .und) :: .v (.one .und) :: .v (.one .und) :: .v (.one .und) :: .v (.one .und) :: [], [.row 3 (.ints .i64 y1)]⟩
def x53_1_0_k1  (y0 : Int) (y1 : Int) (y2 : Int) (y3 : Int) : St := ⟨.v (.one .und) :: .v (.one (.ptr 0 0)) :: .v (.one .und) :: .v (.one .und) :: .v (.one .und) :: .v (.one .und) :: .v (.one .und) :: .v (.one .und) :: .v (.one .und) :: .v (.one .und) :: .v (.one .und) :: .v (.one .und) :: .v (.one (.int .i64 y0)) :: .v (.one (.int .i64 y1)) :: .v (.one .und) :: .v (.one .und) :: .v (.one .und) :: .v (.one .und) :: .v (.one .und) :: .v (.one .und) :: .v (.one .und) :: .v (.one .und) :: .v (.one .und) :: .v (.one .und) :: .v (.one .und) :: .v (.one .und) :: .v (.one .und) :: .v (.one .und) :: .v (.one .und) :: .v (.one .und) :: .v (.one .und) :: .v (.one .und) :: .v (.one .und) :: .v (.one .und) :: .v (.one .und) :: .v (.one .und) :: .v (.one .und) :: .v (.one .und) :: .v (.one .und) :: .v (.one .und) :: .v (.one .und) :: .v (.one .und) :: .v (.one .und) :: .v (.one .und) :: .v (.one .und) :: .v (.one .und) :: .v (.one .und) :: .v (.one .und) :: .v (.one .und) :: .v (.one .und) :: .v (.one .und) :: .v (.one .und) :: .v (.one .und) :: .v (.one .und) :: .v (.one .und) :: .v (.one .und) :: .v (.one .und) :: .v (.one .und) :: .v (.one .und) :: .v (.one .und) :: .v (.one .und) :: .v (.one .und) :: .v (.one .und) :: .v (.one .und) :: .v (.one .und) :: .v (.one .und) :: .v (.one .und) :: .v (.one .und) :: .v (.one .und) :: .v (.one .und) :: .v (.one .und) :: .v (.one .und) :: [], [.cells 27 [.int .i64 y2, .int .i64 y3]]⟩
def h53_2_0  (v0 : Int) (v1 : Int) (v2 : Int) (v3 : Int) (v4 : Int) (v5 : Int) (v6 : Int) (v7 : Int) : St := ⟨.v (.one .und) :: .v (.one (.ptr 0 0)) :: .v (.one .und) :: .v (.one .und) :: .v (.one (.int .i64 v0)) :: .v (.one (.int .i64 v1)) :: .v (.one .und) :: .v (.one .und) :: .v (.one .und) :: .v (.one .und) :: .v (.one .und) :: .v (.one .und) :: .v (.one (.int .i64 v2)) :: .v (.one (.int .i64 v3)) :: .v (.one .und) :: .v (.one .und) :: .v (.one .und) :: .v (.one .und) :: .v (.one .und) :: .v (.one .und) :: .v (.one .und) :: .v (.one .und) :: .v (.one .und) :: .v (.one .und) :: .v (.one .und) :: .v (.one .und) :: .v (.one .und) :: .v (.one .und) :: .v (.one .und) :: .v (.one .und) :: .v (.one .und) :: .v (.one .und) :: .v (.one .und) :: .v (.one .und) :: .v (.one (.int .i64 v4)) :: .v (.one (.int .i64 v5)) :: .v (.one .und) :: .v (.one .und) :: .v (.one .und) :: .v (.one .und) :: .v (.one .und) :: .v (.one .und) :: .v (.one .und) :: .v (.one .und) :: .v (.one .und) :: .v (.one .und) :: .v (.one .und) :: .v (.one .und) :: .v (.one .und) :: .v (.one .und) :: .v (.one .und) :: .v (.one .und) :: .v (.one .und) :: .v (.one .und) :: .v (.one .und) :: .v (.one .und) :: .v (.one .und) :: .v (.one .und) :: .v (.one .und) :: .v (.one .und) :: .v (.one .und) :: .v (.one .und) :: .v (.one .und) :: .v (.one .und) :: .v (.one .und) :: .v (.one .und) :: .v (.one .und) :: .v (.one .und) :: .v (.one .und) :: .v (.one .und) :: .v (.one .und) :: .v (.one .und) :: [], [.cells 27 [.int .i64 v6, .int .i64 v7]]⟩
def x53_2_0_k0  (y0 : Bool) (y1 : List Int) : St := ⟨.v (.one .und) :: .v (.one .und) :: .v (.one (.row 0)) :: .v (.one (.bool y0)) :: .v (.one .und) :: .v (.one .und) :: .v (.one .und) :: .v (.one .und) :: .v (.one .und) :: .v (.one .und) :: .v (.one .und) :: .v (.one .und) :: .v (.one .und) :: .v (.one .und) :: .v (.one .und) :: .v (.one .und) :: .v (.one .und) :: .v (.one .und) :: .v (.one .und) :: .v (.one .und) :: .v (.one .und) :: .v (.one .und) :: .v (.one .und) :: .v (.one .und) :: .v (.one .und) :: .v (.one .und) :: .v (.one .und) :: .v (.one .und) :: .v (.one .und) :: .v (.one .und) :: .v (.one .und) :: .v (.one .und) :: .v (.one .und) :: .v (.one .und) :: .v (.one .und) :: .v (.one .und) :: .v (.one .und) :: .v (.one .und) :: .v (.one .und) :: .v (.one .und) :: .v (.one .und) :: .v (.one .und) :: .v (.one .und) :: .v (.one .und) :: .v (.one .und) :: .v (.one .und) :: .v (.one .und) :: .v (.one .und) :: .v (.one .und) :: .v (.one .und) :: .v (.one .und) :: .v (.one .und) :: .v (.one .und) :: .v (.one .und) :: .v (.one .und) :: .v (.one .und) :: .v (.one .und) :: .v (.one .und) :: .v (.one .und) :: .v (.one .und) :: .v (.one .und) :: .v (.one .und) :: .v (.one .und) :: .v (.one .und) :: .v (.one .und) :: .v (.one .und) :: .v (.one .und) :: .v (.one .und) :: .v (.one .und) :: .v (.one .und) :: .v (.one .und) :: .v (.one .und) :: [], [.row 3 (.ints .i64 y1)]⟩
def x53_2_0_k1  (y0 : Int) (y1 : Int) (y2 : Int) (y3 : Int) (y4 : Int) (y5 : Int) : St := ⟨.v (.one .und) :: .v (.one (.ptr 0 0)) :: .v (.one .und) :: .v (.one .und) :: .v (.one (.int .i64 y0)) :: .v (.one (.int .i64 y1)) :: .v (.one .und) :: .v (.one .und) :: .v (.one .und) :: .v (.one .und) :: .v (.one .und) :: .v (.one .und) :: .v (.one (.int .i64 y2)) :: .v (.one (.int .i64 y3)) :: .v (.one .und) :: .v (.one .und) :: .v (.one .und) :: .v (.one .und) :: .v (.one .und) :: .v (.one .und) :: .v (.one .und) :: .v (.one .und) :: .v (.one .und) :: .v (.one .und) :: .v (.one .und) :: .v (.one .und) :: .v (.one .und) :: .v (.one .und) :: .v (.one .und) :: .v (.one .und) :: .v (.one .und) :: .v (.one .und) :: .v (.one .und) :: .v (.one .und) :: .v (.one .und) :: .v (.one .und) :: .v (.one .und) :: .v (.one .und) :: .v (.one .und) :: .v (.one .und) :: .v (.one .und) :: .v (.one .und) :: .v (.one .und) :: .v (.one .und) :: .v (.one .und) :: .v (.one .und) :: .v (.one .und) :: .v (.one .und) :: .v (.one .und) :: .v (.one .und) :: .v (.one .und) :: .v (.one .und) :: .v (.one .und) :: .v (.one .und) :: .v (.one .und) :: .v (.one .und) :: .v (.one .und) :: .v (.one .und) :: .v (.one .und) :: .v (.one .und) :: .v (.one .und) :: .v (.one .und) :: .v (.one .und) :: .v (.one .und) :: .v (.one .und) :: .v (.one .und) :: .v (.one .und) :: .v (.one .und) :: .v (.one .und) :: .v (.one .und) :: .v (.one .und) :: .v (.one .und) :: [], [.cells 27 [.int .i64 y4, .int .i64 y5]]⟩
theorem fl53_0_0 (s : St) : refSt (h53_0_0 0 0 0 0) s = h53_0_0 (intS (oneA (vT (nx tund s.tmps 12)))) (intS (oneA (vT (nx tund s.tmps 13)))) (intS (nx .und (cellsB (nx .dead s.blks 0)) 0)) (intS (nx .und (cellsB (nx .dead s.blks 0)) 1)) := by kernel_rfl
def VLS53_0 {β : Type} (N : Nat) (q_impl_Contradiction_l0 : Nat → Int → Int → Int → Int → (Bool → List Int → Option β) → (Option β) → Option β) : LSpec β := fun s K => cond (shpSt (h53_0_0 0 0 0 0) s) ((fun (v0 : Int) (v1 : Int) (v2 : Int) (v3 : Int) => q_impl_Contradiction_l0  N v0 v1 v2 v3 (fun y0 y1 => K .ret (x53_0_0_k0  y0 y1)) (K (.exit 0) (x53_0_0_k1  ))) (intS (oneA (vT (nx tund s.tmps 12)))) (intS (oneA (vT (nx tund s.tmps 13)))) (intS (nx .und (cellsB (nx .dead s.blks 0)) 0)) (intS (nx .und (cellsB (nx .dead s.blks 0)) 1))) (none)
def LS53_0 {β : Type} (N : Nat) : LSpec β := VLS53_0 N (impl_Contradiction_l0 N)
theorem fl53_1_0 (s : St) : refSt (h53_1_0 0 0 0 0 0 0) s = h53_1_0 (intS (oneA (vT (nx tund s.tmps 4)))) (intS (oneA (vT (nx tund s.tmps 5)))) (intS (oneA (vT (nx tund s.tmps 12)))) (intS (oneA (vT (nx tund s.tmps 13)))) (intS (nx .und (cellsB (nx .dead s.blks 0)) 0)) (intS (nx .und (cellsB (nx .dead s.blks 0)) 1)) := by kernel_rfl
def VLS53_2 {β : Type} (N : Nat) (q_impl_Contradiction_l2 : Nat → Int → Int → Int → Int → Int → Int → (Bool → List Int → Option β) → (Int → Int → Int → Int → Option β) → Option β) : LSpec β := fun s K => cond (shpSt (h53_1_0 0 0 0 0 0 0) s) ((fun (v0 : Int) (v1 : Int) (v2 : Int) (v3 : Int) (v4 : Int) (v5 : Int) => q_impl_Contradiction_l2  N v0 v1 v2 v3 v4 v5 (fun y0 y1 => K .ret (x53_1_0_k0  y0 y1)) (fun y0 y1 y2 y3 => K (.exit 2) (x53_1_0_k1  y0 y1 y2 y3))) (intS (oneA (vT (nx tund s.tmps 4)))) (intS (oneA (vT (nx tund s.tmps 5)))) (intS (oneA (vT (nx tund s.tmps 12)))) (intS (oneA (vT (nx tund s.tmps 13)))) (intS (nx .und (cellsB (nx .dead s.blks 0)) 0)) (intS (nx .und (cellsB (nx .dead s.blks 0)) 1))) (none)
def LS53_2 {β : Type} (N : Nat) : LSpec β := VLS53_2 N (impl_Contradiction_l2 N)
theorem fl53_2_0 (s : St) : refSt (h53_2_0 0 0 0 0 0 0 0 0) s = h53_2_0 (intS (oneA (vT (nx tund s.tmps 4)))) (intS (oneA (vT (nx tund s.tmps 5)))) (intS (oneA (vT (nx tund s.tmps 12)))) (intS (oneA (vT (nx tund s.tmps 13)))) (intS (oneA (vT (nx tund s.tmps 34)))) (intS (oneA (vT (nx tund s.tmps 35)))) (intS (nx .und (cellsB (nx .dead s.blks 0)) 0)) (intS (nx .und (cellsB (nx .dead s.blks 0)) 1)) := by kernel_rfl
def VLS53_4 {β : Type} (N : Nat) (q_impl_Contradiction_l4 : Nat → Int → Int → Int → Int → Int → Int → Int → Int → (Bool → List Int → Option β) → (Int → Int → Int → Int → Int → Int → Option β) → Option β) : LSpec β := fun s K => cond (shpSt (h53_2_0 0 0 0 0 0 0 0 0) s) ((fun (v0 : Int) (v1 : Int) (v2 : Int) (v3 : Int) (v4 : Int) (v5 : Int) (v6 : Int) (v7 : Int) => q_impl_Contradiction_l4  N v0 v1 v2 v3 v4 v5 v6 v7 (fun y0 y1 => K .ret (x53_2_0_k0  y0 y1)) (fun y0 y1 y2 y3 y4 y5 => K (.exit 4) (x53_2_0_k1  y0 y1 y2 y3 y4 y5))) (intS (oneA (vT (nx tund s.tmps 4)))) (intS (oneA (vT (nx tund s.tmps 5)))) (intS (oneA (vT (nx tund s.tmps 12)))) (intS (oneA (vT (nx tund s.tmps 13)))) (intS (oneA (vT (nx tund s.tmps 34)))) (intS (oneA (vT (nx tund s.tmps 35)))) (intS (nx .und (cellsB (nx .dead s.blks 0)) 0)) (intS (nx .und (cellsB (nx .dead s.blks 0)) 1))) (none)
def LS53_4 {β : Type} (N : Nat) : LSpec β := VLS53_4 N (impl_Contradiction_l4 N)
def VE53 {β : Type} (N : Nat) (q_impl_IsTable : (a0 : Int) → (a1 : Int) → (k : Bool → Option β) → Option β) (q_impl_Table_size : (a0 : Int) → (a1 : Int) → (k : Int → Option β) → Option β) (q_impl_Table_at : (a0 : Int) → (a1 : Int) → (a2 : Int) → (k : Int → Option β) → Option β) (q_impl_isContradiction : (a0 : Int) → (a1 : Int) → (a2 : Int) → (a3 : Int) → (k : Bool → Option β) → Option β) (q_impl_Contradiction_l0 : Nat → Int → Int → Int → Int → (Bool → List Int → Option β) → (Option β) → Option β) (q_impl_Contradiction_l2 : Nat → Int → Int → Int → Int → Int → Int → (Bool → List Int → Option β) → (Int → Int → Int → Int → Option β) → Option β) (q_impl_Contradiction_l4 : Nat → Int → Int → Int → Int → Int → Int → Int → Int → (Bool → List Int → Option β) → (Int → Int → Int → Int → Int → Int → Option β) → Option β) : Env β := ⟨[(82, VS82 N q_impl_IsTable), (96, VS96 N q_impl_Table_size), (97, VS97 N q_impl_Table_at), (98, VS98 N q_impl_isContradiction)], [], [(0, VLS53_0 N q_impl_Contradiction_l0), (2, VLS53_2 N q_impl_Contradiction_l2), (4, VLS53_4 N q_impl_Contradiction_l4)], [], ⟨[], [], []⟩⟩
def E53 {β : Type} (N : Nat) : Env β := VE53 N (impl_IsTable N) (impl_Table_size N) (impl_Table_at N) (impl_isContradiction N) (impl_Contradiction_l0 N) (impl_Contradiction_l2 N) (impl_Contradiction_l4 N)
def BV_impl_Contradiction_l0b {β : Type} (N : Nat) (q_impl_Contradiction_l2 : Nat → Int → Int → Int → Int → Int → Int → (Bool → List Int → Option β) → (Int → Int → Int → Int → Option β) → Option β)  (v0 : Int) (v1 : Int) (v2 : Int) (v3 : Int) (rec_ : Int → Int → Int → Int → Option β) (k0 : Bool → List Int → Option β) (k1 : Option β) : Option β :=
(cond ((decide (v1 < v0)))
(q_impl_Contradiction_l2  N v1 v1 v0 v1 v2 v3 (fun e15_0 e15_1 =>
k0 e15_0 e15_1) (fun e16_0 e16_1 e16_2 e16_3 =>
rec_ e16_0 ((w64 (e16_1 + 1))) e16_2 e16_3))
(k1 ))
theorem t_impl_Contradiction_l0b {β : Type} (N : Nat)  (v0 : Int) (v1 : Int) (v2 : Int) (v3 : Int) (rec_ : Int → Int → Int → Int → Option β) (k0 : Bool → List Int → Option β) (k1 : Option β) : impl_Contradiction_l0b N v0 v1 v2 v3 rec_ k0 k1 = BV_impl_Contradiction_l0b N (impl_Contradiction_l2 N) v0 v1 v2 v3 rec_ k0 k1 := by
  unfold impl_Contradiction_l0b BV_impl_Contradiction_l0b
  rfl
theorem vst53_0_0 {β : Type} (N : Nat) (q_impl_IsTable : (a0 : Int) → (a1 : Int) → (k : Bool → Option β) → Option β) (q_impl_Table_size : (a0 : Int) → (a1 : Int) → (k : Int → Option β) → Option β) (q_impl_Table_at : (a0 : Int) → (a1 : Int) → (a2 : Int) → (k : Int → Option β) → Option β) (q_impl_isContradiction : (a0 : Int) → (a1 : Int) → (a2 : Int) → (a3 : Int) → (k : Bool → Option β) → Option β) (q_impl_Contradiction_l0 : Nat → Int → Int → Int → Int → (Bool → List Int → Option β) → (Option β) → Option β) (q_impl_Contradiction_l2 : Nat → Int → Int → Int → Int → Int → Int → (Bool → List Int → Option β) → (Int → Int → Int → Int → Option β) → Option β) (q_impl_Contradiction_l4 : Nat → Int → Int → Int → Int → Int → Int → Int → Int → (Bool → List Int → Option β) → (Int → Int → Int → Int → Int → Int → Option β) → Option β)  (v0 : Int) (v1 : Int) (v2 : Int) (v3 : Int) (rec_ : St → Option β) (K : Exit → St → Option β) :
    ev lay (VE53 N q_impl_IsTable q_impl_Table_size q_impl_Table_at q_impl_isContradiction q_impl_Contradiction_l0 q_impl_Contradiction_l2 q_impl_Contradiction_l4) (retMask Try.f53) (lp Try.f53 0).body (lp Try.f53 0).ex ((lp Try.f53 0).lv (retMask Try.f53)) (h53_0_0  v0 v1 v2 v3) (nextR (fun s' => rec_ (s'.tidy ((lp Try.f53 0).lv (retMask Try.f53)))) K) = BV_impl_Contradiction_l0b N q_impl_Contradiction_l2  v0 v1 v2 v3 (fun v0 v1 v2 v3 => rec_ (h53_0_0  v0 v1 v2 v3)) (fun y0 y1 => K .ret (x53_0_0_k0  y0 y1)) (K (.exit 0) (x53_0_0_k1  )) := by kernel_rfl
theorem st53_0_0 {β : Type} (N : Nat)  (v0 : Int) (v1 : Int) (v2 : Int) (v3 : Int) (rec_ : St → Option β) (K : Exit → St → Option β) :
    ev lay (E53 N) (retMask Try.f53) (lp Try.f53 0).body (lp Try.f53 0).ex ((lp Try.f53 0).lv (retMask Try.f53)) (h53_0_0  v0 v1 v2 v3) (nextR (fun s' => rec_ (s'.tidy ((lp Try.f53 0).lv (retMask Try.f53)))) K) = impl_Contradiction_l0b N  v0 v1 v2 v3 (fun v0 v1 v2 v3 => rec_ (h53_0_0  v0 v1 v2 v3)) (fun y0 y1 => K .ret (x53_0_0_k0  y0 y1)) (K (.exit 0) (x53_0_0_k1  )) := (vst53_0_0 N (impl_IsTable N) (impl_Table_size N) (impl_Table_at N) (impl_isContradiction N) (impl_Contradiction_l0 N) (impl_Contradiction_l2 N) (impl_Contradiction_l4 N) v0 v1 v2 v3 rec_ K).trans (t_impl_Contradiction_l0b N  v0 v1 v2 v3 (fun v0 v1 v2 v3 => rec_ (h53_0_0  v0 v1 v2 v3)) (fun y0 y1 => K .ret (x53_0_0_k0  y0 y1)) (K (.exit 0) (x53_0_0_k1  ))).symm
theorem ro53_0_0 {β : Type} (N : Nat)  (K : Exit → St → Option β) : ∀ (F : Nat) (v0 : Int) (v1 : Int) (v2 : Int) (v3 : Int), (lp Try.f53 0).rounds lay (E53 N) (retMask Try.f53) F (h53_0_0  v0 v1 v2 v3) K = impl_Contradiction_l0 N  F v0 v1 v2 v3 (fun y0 y1 => K .ret (x53_0_0_k0  y0 y1)) (K (.exit 0) (x53_0_0_k1  )) := by
  intro F
  induction F with
  | zero => intros; rfl
  | succ F ih =>
    intros
    rw [rounds_next]
    refine (st53_0_0 N  _ _ _ _ (fun s => (lp Try.f53 0).rounds lay (E53 N) (retMask Try.f53) F s K) K).trans ?_
    simp only [ih]
    rfl
theorem lk53_0 {β : Type} (N : Nat) : lookL (E53 (β := β) N).loops (lp Try.f53 0).id = LS53_0 N := by kernel_rfl
theorem rk53_0 {β : Type} (N : Nat) : RoundsOK lay (E53 (β := β) N) (retMask Try.f53) (lp Try.f53 0) := by
  intro s K r h
  rw [lk53_0] at h
  unfold LS53_0 VLS53_0 at h
  cases hb : shpSt (h53_0_0 0 0 0 0) s with
  | true =>
    rw [hb, cond_true] at h
    exact ⟨N, by rw [← shpSt_ref hb, fl53_0_0 s]; exact (ro53_0_0 N  K N (intS (oneA (vT (nx tund s.tmps 12)))) (intS (oneA (vT (nx tund s.tmps 13)))) (intS (nx .und (cellsB (nx .dead s.blks 0)) 0)) (intS (nx .und (cellsB (nx .dead s.blks 0)) 1))).trans h⟩
  | false =>
  rw [hb, cond_false] at h
  clear hb
  cases h
def BV_impl_Contradiction_l2b {β : Type} (N : Nat) (q_impl_Table_size : (a0 : Int) → (a1 : Int) → (k : Int → Option β) → Option β) (q_impl_Table_at : (a0 : Int) → (a1 : Int) → (a2 : Int) → (k : Int → Option β) → Option β) (q_impl_Contradiction_l4 : Nat → Int → Int → Int → Int → Int → Int → Int → Int → (Bool → List Int → Option β) → (Int → Int → Int → Int → Int → Int → Option β) → Option β)  (v0 : Int) (v1 : Int) (v2 : Int) (v3 : Int) (v4 : Int) (v5 : Int) (rec_ : Int → Int → Int → Int → Int → Int → Option β) (k0 : Bool → List Int → Option β) (k1 : Int → Int → Int → Int → Option β) : Option β :=
q_impl_Table_size v4 v5 fun r6 =>
(cond ((decide (v1 < r6)))
(q_impl_Table_at v4 v5 v0 fun r7 =>
(cond ((r7 == 0))
(rec_ v0 ((w64 (v1 + 1))) v2 v3 v4 v5)
(q_impl_Table_at v4 v5 v1 fun r8 =>
(cond ((r8 == 0))
(rec_ v0 ((w64 (v1 + 1))) v2 v3 v4 v5)
(q_impl_Table_size v4 v5 fun r9 =>
q_impl_Contradiction_l4  N v0 v1 v2 v3 r9 0 v4 v5 (fun e13_0 e13_1 =>
k0 e13_0 e13_1) (fun e14_0 e14_1 e14_2 e14_3 e14_4 e14_5 =>
rec_ e14_0 ((w64 (e14_1 + 1))) e14_2 e14_3 e14_4 e14_5))))))
(k1 v2 v3 v4 v5))
theorem t_impl_Contradiction_l2b {β : Type} (N : Nat)  (v0 : Int) (v1 : Int) (v2 : Int) (v3 : Int) (v4 : Int) (v5 : Int) (rec_ : Int → Int → Int → Int → Int → Int → Option β) (k0 : Bool → List Int → Option β) (k1 : Int → Int → Int → Int → Option β) : impl_Contradiction_l2b N v0 v1 v2 v3 v4 v5 rec_ k0 k1 = BV_impl_Contradiction_l2b N (impl_Table_size N) (impl_Table_at N) (impl_Contradiction_l4 N) v0 v1 v2 v3 v4 v5 rec_ k0 k1 := by
  unfold impl_Contradiction_l2b BV_impl_Contradiction_l2b
  rfl
theorem vst53_1_0 {β : Type} (N : Nat) (q_impl_IsTable : (a0 : Int) → (a1 : Int) → (k : Bool → Option β) → Option β) (q_impl_Table_size : (a0 : Int) → (a1 : Int) → (k : Int → Option β) → Option β) (q_impl_Table_at : (a0 : Int) → (a1 : Int) → (a2 : Int) → (k : Int → Option β) → Option β) (q_impl_isContradiction : (a0 : Int) → (a1 : Int) → (a2 : Int) → (a3 : Int) → (k : Bool → Option β) → Option β) (q_impl_Contradiction_l0 : Nat → Int → Int → Int → Int → (Bool → List Int → Option β) → (Option β) → Option β) (q_impl_Contradiction_l2 : Nat → Int → Int → Int → Int → Int → Int → (Bool → List Int → Option β) → (Int → Int → Int → Int → Option β) → Option β) (q_impl_Contradiction_l4 : Nat → Int → Int → Int → Int → Int → Int → Int → Int → (Bool → List Int → Option β) → (Int → Int → Int → Int → Int → Int → Option β) → Option β)  (v0 : Int) (v1 : Int) (v2 : Int) (v3 : Int) (v4 : Int) (v5 : Int) (rec_ : St → Option β) (K : Exit → St → Option β) :
    ev lay (VE53 N q_impl_IsTable q_impl_Table_size q_impl_Table_at q_impl_isContradiction q_impl_Contradiction_l0 q_impl_Contradiction_l2 q_impl_Contradiction_l4) (retMask Try.f53) (lp Try.f53 1).body (lp Try.f53 1).ex ((lp Try.f53 1).lv (retMask Try.f53)) (h53_1_0  v0 v1 v2 v3 v4 v5) (nextR (fun s' => rec_ (s'.tidy ((lp Try.f53 1).lv (retMask Try.f53)))) K) = BV_impl_Contradiction_l2b N q_impl_Table_size q_impl_Table_at q_impl_Contradiction_l4  v0 v1 v2 v3 v4 v5 (fun v0 v1 v2 v3 v4 v5 => rec_ (h53_1_0  v0 v1 v2 v3 v4 v5)) (fun y0 y1 => K .ret (x53_1_0_k0  y0 y1)) (fun y0 y1 y2 y3 => K (.exit 2) (x53_1_0_k1  y0 y1 y2 y3)) := by kernel_rfl
theorem st53_1_0 {β : Type} (N : Nat)  (v0 : Int) (v1 : Int) (v2 : Int) (v3 : Int) (v4 : Int) (v5 : Int) (rec_ : St → Option β) (K : Exit → St → Option β) :
    ev lay (E53 N) (retMask Try.f53) (lp Try.f53 1).body (lp Try.f53 1).ex ((lp Try.f53 1).lv (retMask Try.f53)) (h53_1_0  v0 v1 v2 v3 v4 v5) (nextR (fun s' => rec_ (s'.tidy ((lp Try.f53 1).lv (retMask Try.f53)))) K) = impl_Contradiction_l2b N  v0 v1 v2 v3 v4 v5 (fun v0 v1 v2 v3 v4 v5 => rec_ (h53_1_0  v0 v1 v2 v3 v4 v5)) (fun y0 y1 => K .ret (x53_1_0_k0  y0 y1)) (fun y0 y1 y2 y3 => K (.exit 2) (x53_1_0_k1  y0 y1 y2 y3)) := (vst53_1_0 N (impl_IsTable N) (impl_Table_size N) (impl_Table_at N) (impl_isContradiction N) (impl_Contradiction_l0 N) (impl_Contradiction_l2 N) (impl_Contradiction_l4 N) v0 v1 v2 v3 v4 v5 rec_ K).trans (t_impl_Contradiction_l2b N  v0 v1 v2 v3 v4 v5 (fun v0 v1 v2 v3 v4 v5 => rec_ (h53_1_0  v0 v1 v2 v3 v4 v5)) (fun y0 y1 => K .ret (x53_1_0_k0  y0 y1)) (fun y0 y1 y2 y3 => K (.exit 2) (x53_1_0_k1  y0 y1 y2 y3))).symm
theorem ro53_1_0 {β : Type} (N : Nat)  (K : Exit → St → Option β) : ∀ (F : Nat) (v0 : Int) (v1 : Int) (v2 : Int) (v3 : Int) (v4 : Int) (v5 : Int), (lp Try.f53 1).rounds lay (E53 N) (retMask Try.f53) F (h53_1_0  v0 v1 v2 v3 v4 v5) K = impl_Contradiction_l2 N  F v0 v1 v2 v3 v4 v5 (fun y0 y1 => K .ret (x53_1_0_k0  y0 y1)) (fun y0 y1 y2 y3 => K (.exit 2) (x53_1_0_k1  y0 y1 y2 y3)) := by
  intro F
  induction F with
  | zero => intros; rfl
  | succ F ih =>
    intros
    rw [rounds_next]
    refine (st53_1_0 N  _ _ _ _ _ _ (fun s => (lp Try.f53 1).rounds lay (E53 N) (retMask Try.f53) F s K) K).trans ?_
    simp only [ih]
    rfl
theorem lk53_2 {β : Type} (N : Nat) : lookL (E53 (β := β) N).loops (lp Try.f53 1).id = LS53_2 N := by kernel_rfl
theorem rk53_2 {β : Type} (N : Nat) : RoundsOK lay (E53 (β := β) N) (retMask Try.f53) (lp Try.f53 1) := by
  intro s K r h
  rw [lk53_2] at h
  unfold LS53_2 VLS53_2 at h
  cases hb : shpSt (h53_1_0 0 0 0 0 0 0) s with
  | true =>
    rw [hb, cond_true] at h
    exact ⟨N, by rw [← shpSt_ref hb, fl53_1_0 s]; exact (ro53_1_0 N  K N (intS (oneA (vT (nx tund s.tmps 4)))) (intS (oneA (vT (nx tund s.tmps 5)))) (intS (oneA (vT (nx tund s.tmps 12)))) (intS (oneA (vT (nx tund s.tmps 13)))) (intS (nx .und (cellsB (nx .dead s.blks 0)) 0)) (intS (nx .und (cellsB (nx .dead s.blks 0)) 1))).trans h⟩
  | false =>
  rw [hb, cond_false] at h
  clear hb
  cases h
def BV_impl_Contradiction_l4b {β : Type} (N : Nat) (q_impl_Table_at : (a0 : Int) → (a1 : Int) → (a2 : Int) → (k : Int → Option β) → Option β) (q_impl_isContradiction : (a0 : Int) → (a1 : Int) → (a2 : Int) → (a3 : Int) → (k : Bool → Option β) → Option β)  (v0 : Int) (v1 : Int) (v2 : Int) (v3 : Int) (v4 : Int) (v5 : Int) (v6 : Int) (v7 : Int) (rec_ : Int → Int → Int → Int → Int → Int → Int → Int → Option β) (k0 : Bool → List Int → Option β) (k1 : Int → Int → Int → Int → Int → Int → Option β) : Option β :=
(cond ((decide (v5 < v4)))
((cond ((decide (v5 ≤ (bits .xor .i64 (bits .xor .i64 v0 v1) v5))))
(q_impl_Table_at v6 v7 v5 fun r10 =>
(cond ((r10 == 0))
(q_impl_Table_at v6 v7 ((bits .xor .i64 (bits .xor .i64 v0 v1) v5)) fun r11 =>
(cond ((r11 == 0))
(q_impl_isContradiction v0 v1 v5 ((bits .xor .i64 (bits .xor .i64 v0 v1) v5)) fun r12 =>
(cond r12
(k0 true (((((([] : List Int) ++ [v0]) ++ [v1]) ++ [v5]) ++ [(bits .xor .i64 (bits .xor .i64 v0 v1) v5)])))
(rec_ v0 v1 v2 v3 v4 ((w64 (v5 + 1))) v6 v7)))
(rec_ v0 v1 v2 v3 v4 ((w64 (v5 + 1))) v6 v7)))
(rec_ v0 v1 v2 v3 v4 ((w64 (v5 + 1))) v6 v7)))
(rec_ v0 v1 v2 v3 v4 ((w64 (v5 + 1))) v6 v7)))
(k1 v0 v1 v2 v3 v6 v7))
theorem t_impl_Contradiction_l4b {β : Type} (N : Nat)  (v0 : Int) (v1 : Int) (v2 : Int) (v3 : Int) (v4 : Int) (v5 : Int) (v6 : Int) (v7 : Int) (rec_ : Int → Int → Int → Int → Int → Int → Int → Int → Option β) (k0 : Bool → List Int → Option β) (k1 : Int → Int → Int → Int → Int → Int → Option β) : impl_Contradiction_l4b N v0 v1 v2 v3 v4 v5 v6 v7 rec_ k0 k1 = BV_impl_Contradiction_l4b N (impl_Table_at N) (impl_isContradiction N) v0 v1 v2 v3 v4 v5 v6 v7 rec_ k0 k1 := by
  unfold impl_Contradiction_l4b BV_impl_Contradiction_l4b
  rfl
theorem vst53_2_0 {β : Type} (N : Nat) (q_impl_IsTable : (a0 : Int) → (a1 : Int) → (k : Bool → Option β) → Option β) (q_impl_Table_size : (a0 : Int) → (a1 : Int) → (k : Int → Option β) → Option β) (q_impl_Table_at : (a0 : Int) → (a1 : Int) → (a2 : Int) → (k : Int → Option β) → Option β) (q_impl_isContradiction : (a0 : Int) → (a1 : Int) → (a2 : Int) → (a3 : Int) → (k : Bool → Option β) → Option β) (q_impl_Contradiction_l0 : Nat → Int → Int → Int → Int → (Bool → List Int → Option β) → (Option β) → Option β) (q_impl_Contradiction_l2 : Nat → Int → Int → Int → Int → Int → Int → (Bool → List Int → Option β) → (Int → Int → Int → Int → Option β) → Option β) (q_impl_Contradiction_l4 : Nat → Int → Int → Int → Int → Int → Int → Int → Int → (Bool → List Int → Option β) → (Int → Int → Int → Int → Int → Int → Option β) → Option β)  (v0 : Int) (v1 : Int) (v2 : Int) (v3 : Int) (v4 : Int) (v5 : Int) (v6 : Int) (v7 : Int) (rec_ : St → Option β) (K : Exit → St → Option β) :
    ev lay (VE53 N q_impl_IsTable q_impl_Table_size q_impl_Table_at q_impl_isContradiction q_impl_Contradiction_l0 q_impl_Contradiction_l2 q_impl_Contradiction_l4) (retMask Try.f53) (lp Try.f53 2).body (lp Try.f53 2).ex ((lp Try.f53 2).lv (retMask Try.f53)) (h53_2_0  v0 v1 v2 v3 v4 v5 v6 v7) (nextR (fun s' => rec_ (s'.tidy ((lp Try.f53 2).lv (retMask Try.f53)))) K) = BV_impl_Contradiction_l4b N q_impl_Table_at q_impl_isContradiction  v0 v1 v2 v3 v4 v5 v6 v7 (fun v0 v1 v2 v3 v4 v5 v6 v7 => rec_ (h53_2_0  v0 v1 v2 v3 v4 v5 v6 v7)) (fun y0 y1 => K .ret (x53_2_0_k0  y0 y1)) (fun y0 y1 y2 y3 y4 y5 => K (.exit 4) (x53_2_0_k1  y0 y1 y2 y3 y4 y5)) := by kernel_rfl
theorem st53_2_0 {β : Type} (N : Nat)  (v0 : Int) (v1 : Int) (v2 : Int) (v3 : Int) (v4 : Int) (v5 : Int) (v6 : Int) (v7 : Int) (rec_ : St → Option β) (K : Exit → St → Option β) :
    ev lay (E53 N) (retMask Try.f53) (lp Try.f53 2).body (lp Try.f53 2).ex ((lp Try.f53 2).lv (retMask Try.f53)) (h53_2_0  v0 v1 v2 v3 v4 v5 v6 v7) (nextR (fun s' => rec_ (s'.tidy ((lp Try.f53 2).lv (retMask Try.f53)))) K) = impl_Contradiction_l4b N  v0 v1 v2 v3 v4 v5 v6 v7 (fun v0 v1 v2 v3 v4 v5 v6 v7 => rec_ (h53_2_0  v0 v1 v2 v3 v4 v5 v6 v7)) (fun y0 y1 => K .ret (x53_2_0_k0  y0 y1)) (fun y0 y1 y2 y3 y4 y5 => K (.exit 4) (x53_2_0_k1  y0 y1 y2 y3 y4 y5)) := (vst53_2_0 N (impl_IsTable N) (impl_Table_size N) (impl_Table_at N) (impl_isContradiction N) (impl_Contradiction_l0 N) (impl_Contradiction_l2 N) (impl_Contradiction_l4 N) v0 v1 v2 v3 v4 v5 v6 v7 rec_ K).trans (t_impl_Contradiction_l4b N  v0 v1 v2 v3 v4 v5 v6 v7 (fun v0 v1 v2 v3 v4 v5 v6 v7 => rec_ (h53_2_0  v0 v1 v2 v3 v4 v5 v6 v7)) (fun y0 y1 => K .ret (x53_2_0_k0  y0 y1)) (fun y0 y1 y2 y3 y4 y5 => K (.exit 4) (x53_2_0_k1  y0 y1 y2 y3 y4 y5))).symm
theorem ro53_2_0 {β : Type} (N : Nat)  (K : Exit → St → Option β) : ∀ (F : Nat) (v0 : Int) (v1 : Int) (v2 : Int) (v3 : Int) (v4 : Int) (v5 : Int) (v6 : Int) (v7 : Int), (lp Try.f53 2).rounds lay (E53 N) (retMask Try.f53) F (h53_2_0  v0 v1 v2 v3 v4 v5 v6 v7) K = impl_Contradiction_l4 N  F v0 v1 v2 v3 v4 v5 v6 v7 (fun y0 y1 => K .ret (x53_2_0_k0  y0 y1)) (fun y0 y1 y2 y3 y4 y5 => K (.exit 4) (x53_2_0_k1  y0 y1 y2 y3 y4 y5)) := by
  intro F
  induction F with
  | zero => intros; rfl
  | succ F ih =>
    intros
    rw [rounds_next]
    refine (st53_2_0 N  _ _ _ _ _ _ _ _ (fun s => (lp Try.f53 2).rounds lay (E53 N) (retMask Try.f53) F s K) K).trans ?_
    simp only [ih]
    rfl
theorem lk53_4 {β : Type} (N : Nat) : lookL (E53 (β := β) N).loops (lp Try.f53 2).id = LS53_4 N := by kernel_rfl
theorem rk53_4 {β : Type} (N : Nat) : RoundsOK lay (E53 (β := β) N) (retMask Try.f53) (lp Try.f53 2) := by
  intro s K r h
  rw [lk53_4] at h
  unfold LS53_4 VLS53_4 at h
  cases hb : shpSt (h53_2_0 0 0 0 0 0 0 0 0) s with
  | true =>
    rw [hb, cond_true] at h
    exact ⟨N, by rw [← shpSt_ref hb, fl53_2_0 s]; exact (ro53_2_0 N  K N (intS (oneA (vT (nx tund s.tmps 4)))) (intS (oneA (vT (nx tund s.tmps 5)))) (intS (oneA (vT (nx tund s.tmps 12)))) (intS (oneA (vT (nx tund s.tmps 13)))) (intS (oneA (vT (nx tund s.tmps 34)))) (intS (oneA (vT (nx tund s.tmps 35)))) (intS (nx .und (cellsB (nx .dead s.blks 0)) 0)) (intS (nx .und (cellsB (nx .dead s.blks 0)) 1))).trans h⟩
  | false =>
  rw [hb, cond_false] at h
  clear hb
  cases h
def BV_impl_Contradiction {β : Type} (N : Nat) (q_impl_IsTable : (a0 : Int) → (a1 : Int) → (k : Bool → Option β) → Option β) (q_impl_Table_size : (a0 : Int) → (a1 : Int) → (k : Int → Option β) → Option β) (q_impl_Contradiction_l0 : Nat → Int → Int → Int → Int → (Bool → List Int → Option β) → (Option β) → Option β) (a0 : Int) (a1 : Int) (k : List Int → Bool → Option β) : Option β :=
q_impl_IsTable a0 a1 fun r4 =>
(cond (!r4)
(k (([] : List Int)) false)
(q_impl_Table_size a0 a1 fun r5 =>
q_impl_Contradiction_l0  N r5 0 a0 a1 (fun e17_0 e17_1 =>
k e17_1 e17_0) (k (([] : List Int)) false)))
theorem t_impl_Contradiction {β : Type} (N : Nat) (a0 : Int) (a1 : Int) (k : List Int → Bool → Option β) : impl_Contradiction N a0 a1 k = BV_impl_Contradiction N (impl_IsTable N) (impl_Table_size N) (impl_Contradiction_l0 N) a0 a1 k := by
  unfold impl_Contradiction BV_impl_Contradiction
  rfl
theorem ve53_0 {β : Type} (N : Nat) (q_impl_IsTable : (a0 : Int) → (a1 : Int) → (k : Bool → Option β) → Option β) (q_impl_Table_size : (a0 : Int) → (a1 : Int) → (k : Int → Option β) → Option β) (q_impl_Table_at : (a0 : Int) → (a1 : Int) → (a2 : Int) → (k : Int → Option β) → Option β) (q_impl_isContradiction : (a0 : Int) → (a1 : Int) → (a2 : Int) → (a3 : Int) → (k : Bool → Option β) → Option β) (q_impl_Contradiction_l0 : Nat → Int → Int → Int → Int → (Bool → List Int → Option β) → (Option β) → Option β) (q_impl_Contradiction_l2 : Nat → Int → Int → Int → Int → Int → Int → (Bool → List Int → Option β) → (Int → Int → Int → Int → Option β) → Option β) (q_impl_Contradiction_l4 : Nat → Int → Int → Int → Int → Int → Int → Int → Int → (Bool → List Int → Option β) → (Int → Int → Int → Int → Int → Int → Option β) → Option β)  (a0 : Int) (a1 : Int) (K : TV → Option β) : evFn lay (VE53 N q_impl_IsTable q_impl_Table_size q_impl_Table_at q_impl_isContradiction q_impl_Contradiction_l0 q_impl_Contradiction_l2 q_impl_Contradiction_l4) Try.f53 [.v (.agg [.int .i64 a0, .int .i64 a1])] K = BV_impl_Contradiction N q_impl_IsTable q_impl_Table_size q_impl_Contradiction_l0 a0 a1 (fun z2 z3 => K (.tup [.one (.sl 3 (.ints .i64 z2)), .one (.bool z3)])) := by kernel_rfl
theorem e53_0 {β : Type} (N : Nat)  (a0 : Int) (a1 : Int) (K : TV → Option β) : evFn lay (E53 N) Try.f53 [.v (.agg [.int .i64 a0, .int .i64 a1])] K = impl_Contradiction N a0 a1 (fun z2 z3 => K (.tup [.one (.sl 3 (.ints .i64 z2)), .one (.bool z3)])) := (ve53_0 N (impl_IsTable N) (impl_Table_size N) (impl_Table_at N) (impl_isContradiction N) (impl_Contradiction_l0 N) (impl_Contradiction_l2 N) (impl_Contradiction_l4 N) a0 a1 K).trans (t_impl_Contradiction N a0 a1 (fun z2 z3 => K (.tup [.one (.sl 3 (.ints .i64 z2)), .one (.bool z3)]))).symm
theorem o53 {β : Type} (N : Nat) : SpecOK (β := β) inv Try.prog 53 (S53 N) := by
  refine spec_of lay_ok mixed (E := E53 N) (specs_loops (specs_cons (o82 N) (specs_cons (o96 N) (specs_cons (o97 N) (specs_cons (o98 N) specs_nil))))) muts_nil gs_nil Try.func53 (by kernel_rfl) 3 (by kernel_rfl) ⟨⟨⟨trivial, rk53_0 N⟩, rk53_2 N⟩, rk53_4 N⟩ fun args K r h => ?_
  unfold S53 VS53 at h
  split at h
  · exact (e53_0 N _ _ _).trans h
  · cases h
def VS12 {β : Type} (N : Nat) (q_impl_ClaimOfThreshold : (a0 : Int) → (a1 : Int) → (k : Int → Int → Int → Int → Int → ByteArray → List Int → Bool → Option β) → Option β) : Rv.Spec β := fun args K => match args with
  | [.v (.agg [.int .i64 a0, .int .i64 a1])] => q_impl_ClaimOfThreshold a0 a1 (fun z2 z3 z4 z5 z6 z7 z8 z9 => K (.tup [.agg [.int .i64 z2, .int .i64 z3, .int .i64 z4, .int .i64 z5, .int .i64 z6, .str z7, .sl 3 (.ints .i64 z8)], .one (.bool z9)]))
  | _ => none
def S12 {β : Type} (N : Nat) : Rv.Spec β := VS12 N (impl_ClaimOfThreshold N)
def VE12 {β : Type} (N : Nat) (q_impl_isSmall : (a0 : Int) → (a1 : Int) → (a2 : Int) → (k : Bool → Option β) → Option β) (q_impl_WeightsFor : (a0 : Int) → (a1 : Int) → (k : List Int → Int → Bool → Option β) → Option β) (q_impl_Contradiction : (a0 : Int) → (a1 : Int) → (k : List Int → Bool → Option β) → Option β) : Env β := ⟨[(51, VS51 N q_impl_isSmall), (52, VS52 N q_impl_WeightsFor), (53, VS53 N q_impl_Contradiction)], [], [], [], ⟨[], [], []⟩⟩
def E12 {β : Type} (N : Nat) : Env β := VE12 N (impl_isSmall N) (impl_WeightsFor N) (impl_Contradiction N)
def BV_impl_ClaimOfThreshold {β : Type} (N : Nat) (q_impl_isSmall : (a0 : Int) → (a1 : Int) → (a2 : Int) → (k : Bool → Option β) → Option β) (q_impl_WeightsFor : (a0 : Int) → (a1 : Int) → (k : List Int → Int → Bool → Option β) → Option β) (q_impl_Contradiction : (a0 : Int) → (a1 : Int) → (k : List Int → Bool → Option β) → Option β) (a0 : Int) (a1 : Int) (k : Int → Int → Int → Int → Int → ByteArray → List Int → Bool → Option β) : Option β :=
q_impl_isSmall a0 a1 4 fun r10 =>
(cond (!r10)
(k 0 0 0 0 0 ByteArray.empty (([] : List Int)) false)
(q_impl_WeightsFor a0 a1 fun r11 r12 r13 =>
(cond r13
(k 2 a0 a1 r12 0 ByteArray.empty r11 true)
(q_impl_Contradiction a0 a1 fun r14 r15 =>
(cond (!r15)
(k 0 0 0 0 0 ByteArray.empty (([] : List Int)) false)
(k 3 a0 a1 0 0 ByteArray.empty r14 true))))))
theorem t_impl_ClaimOfThreshold {β : Type} (N : Nat) (a0 : Int) (a1 : Int) (k : Int → Int → Int → Int → Int → ByteArray → List Int → Bool → Option β) : impl_ClaimOfThreshold N a0 a1 k = BV_impl_ClaimOfThreshold N (impl_isSmall N) (impl_WeightsFor N) (impl_Contradiction N) a0 a1 k := by
  unfold impl_ClaimOfThreshold BV_impl_ClaimOfThreshold
  rfl
theorem ve12_0 {β : Type} (N : Nat) (q_impl_isSmall : (a0 : Int) → (a1 : Int) → (a2 : Int) → (k : Bool → Option β) → Option β) (q_impl_WeightsFor : (a0 : Int) → (a1 : Int) → (k : List Int → Int → Bool → Option β) → Option β) (q_impl_Contradiction : (a0 : Int) → (a1 : Int) → (k : List Int → Bool → Option β) → Option β)  (a0 : Int) (a1 : Int) (K : TV → Option β) : evFn lay (VE12 N q_impl_isSmall q_impl_WeightsFor q_impl_Contradiction) Try.f12 [.v (.agg [.int .i64 a0, .int .i64 a1])] K = BV_impl_ClaimOfThreshold N q_impl_isSmall q_impl_WeightsFor q_impl_Contradiction a0 a1 (fun z2 z3 z4 z5 z6 z7 z8 z9 => K (.tup [.agg [.int .i64 z2, .int .i64 z3, .int .i64 z4, .int .i64 z5, .int .i64 z6, .str z7, .sl 3 (.ints .i64 z8)], .one (.bool z9)])) := by kernel_rfl
theorem e12_0 {β : Type} (N : Nat)  (a0 : Int) (a1 : Int) (K : TV → Option β) : evFn lay (E12 N) Try.f12 [.v (.agg [.int .i64 a0, .int .i64 a1])] K = impl_ClaimOfThreshold N a0 a1 (fun z2 z3 z4 z5 z6 z7 z8 z9 => K (.tup [.agg [.int .i64 z2, .int .i64 z3, .int .i64 z4, .int .i64 z5, .int .i64 z6, .str z7, .sl 3 (.ints .i64 z8)], .one (.bool z9)])) := (ve12_0 N (impl_isSmall N) (impl_WeightsFor N) (impl_Contradiction N) a0 a1 K).trans (t_impl_ClaimOfThreshold N a0 a1 (fun z2 z3 z4 z5 z6 z7 z8 z9 => K (.tup [.agg [.int .i64 z2, .int .i64 z3, .int .i64 z4, .int .i64 z5, .int .i64 z6, .str z7, .sl 3 (.ints .i64 z8)], .one (.bool z9)]))).symm
theorem o12 {β : Type} (N : Nat) : SpecOK (β := β) inv Try.prog 12 (S12 N) := by
  refine spec_of lay_ok mixed (E := E12 N) (specs_loops (specs_cons (o51 N) (specs_cons (o52 N) (specs_cons (o53 N) specs_nil)))) muts_nil gs_nil Try.func12 (by kernel_rfl) 0 (by kernel_rfl) trivial fun args K r h => ?_
  unfold S12 VS12 at h
  split at h
  · exact (e12_0 N _ _ _).trans h
  · cases h
def VS54 {β : Type} (N : Nat) (q_laws_eqTable : (a0 : Int) → (a1 : Int) → (a2 : Int) → (a3 : Int) → (k : Bool → Option β) → Option β) : Rv.Spec β := fun args K => match args with
  | [.v (.agg [.int .i64 a0, .int .i64 a1]), .v (.agg [.int .i64 a2, .int .i64 a3])] => q_laws_eqTable a0 a1 a2 a3 (fun z4 => K (.v (.one (.bool z4))))
  | _ => none
def S54 {β : Type} (N : Nat) : Rv.Spec β := VS54 N (laws_eqTable N)
def VE54 {β : Type} (N : Nat) : Env β := ⟨[], [], [], [], ⟨[], [], []⟩⟩
def E54 {β : Type} (N : Nat) : Env β := VE54 N
def BV_laws_eqTable {β : Type} (N : Nat) (a0 : Int) (a1 : Int) (a2 : Int) (a3 : Int) (k : Bool → Option β) : Option β :=
(cond ((a0 != a2))
(k false)
((cond ((a1 != a3))
(k false)
(k true))))
theorem t_laws_eqTable {β : Type} (N : Nat) (a0 : Int) (a1 : Int) (a2 : Int) (a3 : Int) (k : Bool → Option β) : laws_eqTable N a0 a1 a2 a3 k = BV_laws_eqTable N a0 a1 a2 a3 k := by
  unfold laws_eqTable BV_laws_eqTable
  rfl
theorem ve54_0 {β : Type} (N : Nat)  (a0 : Int) (a1 : Int) (a2 : Int) (a3 : Int) (K : TV → Option β) : evFn lay (VE54 N) Try.f54 [.v (.agg [.int .i64 a0, .int .i64 a1]), .v (.agg [.int .i64 a2, .int .i64 a3])] K = BV_laws_eqTable N a0 a1 a2 a3 (fun z4 => K (.v (.one (.bool z4)))) := by kernel_rfl
theorem e54_0 {β : Type} (N : Nat)  (a0 : Int) (a1 : Int) (a2 : Int) (a3 : Int) (K : TV → Option β) : evFn lay (E54 N) Try.f54 [.v (.agg [.int .i64 a0, .int .i64 a1]), .v (.agg [.int .i64 a2, .int .i64 a3])] K = laws_eqTable N a0 a1 a2 a3 (fun z4 => K (.v (.one (.bool z4)))) := (ve54_0 N a0 a1 a2 a3 K).trans (t_laws_eqTable N a0 a1 a2 a3 (fun z4 => K (.v (.one (.bool z4))))).symm
theorem o54 {β : Type} (N : Nat) : SpecOK (β := β) inv Try.prog 54 (S54 N) := by
  refine spec_of lay_ok mixed (E := E54 N) (specs_loops specs_nil) muts_nil gs_nil Try.func54 (by kernel_rfl) 0 (by kernel_rfl) trivial fun args K r h => ?_
  unfold S54 VS54 at h
  split at h
  · exact (e54_0 N _ _ _ _ _).trans h
  · cases h
def VS55 {β : Type} (N : Nat) (q_laws_eqIntS : (a0 : List Int) → (a1 : List Int) → (k : Bool → Option β) → Option β) : Rv.Spec β := fun args K => match args with
  | [.v (.one (.sl 3 (.ints .i64 a0))), .v (.one (.sl 3 (.ints .i64 a1)))] => q_laws_eqIntS a0 a1 (fun z2 => K (.v (.one (.bool z2))))
  | _ => none
def S55 {β : Type} (N : Nat) : Rv.Spec β := VS55 N (laws_eqIntS N)
def h55_0_0  (v0 : List Int) (v1 : List Int) (v2 : Int) : St := ⟨.v (.one (.sl 3 (.ints .i64 v0))) :: .v (.one (.sl 3 (.ints .i64 v1))) :: .v (.one .und) :: .v (.one .und) :: .v (.one .und) :: .v (.one (.int .i64 v2)) :: .v (.one .und) :: .v (.one .und) :: .v (.one .und) :: .v (.one .und) :: .v (.one .und) :: .v (.one .und) :: .v (.one .und) :: .v (.one .und) :: .v (.one .und) :: .v (.one .und) :: .v (.one .und) :: .v (.one .und) :: .v (.one .und) :: .v (.one .und) :: .v (.one .und) :: .v (.one .und) :: .v (.one .und) :: .v (.one .und) :: .v (.one .und) :: .v (.one .und) :: [], []⟩
def x55_0_0_k0  (y0 : Bool) : St := ⟨.v (.one .und) :: .v (.one .und) :: .v (.one .und) :: .v (.one .und) :: .v (.one (.bool y0)) :: .v (.one .und) :: .v (.one .und) :: .v (.one .und) :: .v (.one .und) :: .v (.one .und) :: .v (.one .und) :: .v (.one .und) :: .v (.one .und) :: .v (.one .und) :: .v (.one .und) :: .v (.one .und) :: .v (.one .und) :: .v (.one .und) :: .v (.one .und) :: .v (.one .und) :: .v (.one .und) :: .v (.one .und) :: .v (.one .und) :: .v (.one .und) :: .v (.one .und) :: .v (.one .und) :: [], []⟩
def x55_0_0_k1   : St := ⟨.v (.one .und) :: .v (.one .und) :: .v (.one .und) :: .v (.one .und) :: .v (.one .und) :: .v (.one .und) :: .v (.one .und) :: .v (.one .und) :: .v (.one .und) :: .v (.one .und) :: .v (.one .und) :: .v (.one .und) :: .v (.one .und) :: .v (.one .und) :: .v (.one .und) :: .v (.one .und) :: .v (.one .und) :: .v (.one .und) :: .v (.one .und) :: .v (.one .und) :: .v (.one .und) :: .v (.one .und) :: .v (.one .und) :: .v (.one .und) :: .v (.one .und) :: .v (.one .und) :: [], []⟩
theorem fl55_0_0 (s : St) : refSt (h55_0_0 [] [] 0) s = h55_0_0 (rInts (rowV (oneA (vT (nx tund s.tmps 0))))) (rInts (rowV (oneA (vT (nx tund s.tmps 1))))) (intS (oneA (vT (nx tund s.tmps 5)))) := by kernel_rfl
def VLS55_0 {β : Type} (N : Nat) (q_laws_eqIntS_l0 : Nat → List Int → List Int → Int → (Bool → Option β) → (Option β) → Option β) : LSpec β := fun s K => cond (shpSt (h55_0_0 [] [] 0) s) ((fun (v0 : List Int) (v1 : List Int) (v2 : Int) => q_laws_eqIntS_l0  N v0 v1 v2 (fun y0 => K .ret (x55_0_0_k0  y0)) (K (.exit 0) (x55_0_0_k1  ))) (rInts (rowV (oneA (vT (nx tund s.tmps 0))))) (rInts (rowV (oneA (vT (nx tund s.tmps 1))))) (intS (oneA (vT (nx tund s.tmps 5))))) (none)
def LS55_0 {β : Type} (N : Nat) : LSpec β := VLS55_0 N (laws_eqIntS_l0 N)
def VE55 {β : Type} (N : Nat) (q_laws_eqIntS_l0 : Nat → List Int → List Int → Int → (Bool → Option β) → (Option β) → Option β) : Env β := ⟨[], [], [(0, VLS55_0 N q_laws_eqIntS_l0)], [], ⟨[], [], []⟩⟩
def E55 {β : Type} (N : Nat) : Env β := VE55 N (laws_eqIntS_l0 N)
def BV_laws_eqIntS_l0b {β : Type} (N : Nat)  (v0 : List Int) (v1 : List Int) (v2 : Int) (rec_ : List Int → List Int → Int → Option β) (k0 : Bool → Option β) (k1 : Option β) : Option β :=
(cond ((decide (v2 < (v0.length : Int))))
((gd ((decide (0 ≤ v2)))
((gd ((decide (v2 < (v0.length : Int))))
((gd ((decide (0 ≤ v2)))
((gd ((decide (v2 < (v1.length : Int))))
((cond (((rd 0 v0 v2) != (rd 0 v1 v2)))
(k0 false)
(rec_ v0 v1 ((w64 (v2 + 1))))))))))))))
(k1 ))
theorem t_laws_eqIntS_l0b {β : Type} (N : Nat)  (v0 : List Int) (v1 : List Int) (v2 : Int) (rec_ : List Int → List Int → Int → Option β) (k0 : Bool → Option β) (k1 : Option β) : laws_eqIntS_l0b N v0 v1 v2 rec_ k0 k1 = BV_laws_eqIntS_l0b N v0 v1 v2 rec_ k0 k1 := by
  unfold laws_eqIntS_l0b BV_laws_eqIntS_l0b
  rfl
theorem vst55_0_0 {β : Type} (N : Nat) (q_laws_eqIntS_l0 : Nat → List Int → List Int → Int → (Bool → Option β) → (Option β) → Option β)  (v0 : List Int) (v1 : List Int) (v2 : Int) (rec_ : St → Option β) (K : Exit → St → Option β) :
    ev lay (VE55 N q_laws_eqIntS_l0) (retMask Try.f55) (lp Try.f55 0).body (lp Try.f55 0).ex ((lp Try.f55 0).lv (retMask Try.f55)) (h55_0_0  v0 v1 v2) (nextR (fun s' => rec_ (s'.tidy ((lp Try.f55 0).lv (retMask Try.f55)))) K) = BV_laws_eqIntS_l0b N  v0 v1 v2 (fun v0 v1 v2 => rec_ (h55_0_0  v0 v1 v2)) (fun y0 => K .ret (x55_0_0_k0  y0)) (K (.exit 0) (x55_0_0_k1  )) := by kernel_rfl
theorem st55_0_0 {β : Type} (N : Nat)  (v0 : List Int) (v1 : List Int) (v2 : Int) (rec_ : St → Option β) (K : Exit → St → Option β) :
    ev lay (E55 N) (retMask Try.f55) (lp Try.f55 0).body (lp Try.f55 0).ex ((lp Try.f55 0).lv (retMask Try.f55)) (h55_0_0  v0 v1 v2) (nextR (fun s' => rec_ (s'.tidy ((lp Try.f55 0).lv (retMask Try.f55)))) K) = laws_eqIntS_l0b N  v0 v1 v2 (fun v0 v1 v2 => rec_ (h55_0_0  v0 v1 v2)) (fun y0 => K .ret (x55_0_0_k0  y0)) (K (.exit 0) (x55_0_0_k1  )) := (vst55_0_0 N (laws_eqIntS_l0 N) v0 v1 v2 rec_ K).trans (t_laws_eqIntS_l0b N  v0 v1 v2 (fun v0 v1 v2 => rec_ (h55_0_0  v0 v1 v2)) (fun y0 => K .ret (x55_0_0_k0  y0)) (K (.exit 0) (x55_0_0_k1  ))).symm
theorem ro55_0_0 {β : Type} (N : Nat)  (K : Exit → St → Option β) : ∀ (F : Nat) (v0 : List Int) (v1 : List Int) (v2 : Int), (lp Try.f55 0).rounds lay (E55 N) (retMask Try.f55) F (h55_0_0  v0 v1 v2) K = laws_eqIntS_l0 N  F v0 v1 v2 (fun y0 => K .ret (x55_0_0_k0  y0)) (K (.exit 0) (x55_0_0_k1  )) := by
  intro F
  induction F with
  | zero => intros; rfl
  | succ F ih =>
    intros
    rw [rounds_next]
    refine (st55_0_0 N  _ _ _ (fun s => (lp Try.f55 0).rounds lay (E55 N) (retMask Try.f55) F s K) K).trans ?_
    simp only [ih]
    rfl
theorem lk55_0 {β : Type} (N : Nat) : lookL (E55 (β := β) N).loops (lp Try.f55 0).id = LS55_0 N := by kernel_rfl
theorem rk55_0 {β : Type} (N : Nat) : RoundsOK lay (E55 (β := β) N) (retMask Try.f55) (lp Try.f55 0) := by
  intro s K r h
  rw [lk55_0] at h
  unfold LS55_0 VLS55_0 at h
  cases hb : shpSt (h55_0_0 [] [] 0) s with
  | true =>
    rw [hb, cond_true] at h
    exact ⟨N, by rw [← shpSt_ref hb, fl55_0_0 s]; exact (ro55_0_0 N  K N (rInts (rowV (oneA (vT (nx tund s.tmps 0))))) (rInts (rowV (oneA (vT (nx tund s.tmps 1))))) (intS (oneA (vT (nx tund s.tmps 5))))).trans h⟩
  | false =>
  rw [hb, cond_false] at h
  clear hb
  cases h
def BV_laws_eqIntS {β : Type} (N : Nat) (q_laws_eqIntS_l0 : Nat → List Int → List Int → Int → (Bool → Option β) → (Option β) → Option β) (a0 : List Int) (a1 : List Int) (k : Bool → Option β) : Option β :=
(cond (((a0.length : Int) != (a1.length : Int)))
(k false)
(q_laws_eqIntS_l0  N a0 a1 0 (fun e3_0 =>
k e3_0) (k true)))
theorem t_laws_eqIntS {β : Type} (N : Nat) (a0 : List Int) (a1 : List Int) (k : Bool → Option β) : laws_eqIntS N a0 a1 k = BV_laws_eqIntS N (laws_eqIntS_l0 N) a0 a1 k := by
  unfold laws_eqIntS BV_laws_eqIntS
  rfl
theorem ve55_0 {β : Type} (N : Nat) (q_laws_eqIntS_l0 : Nat → List Int → List Int → Int → (Bool → Option β) → (Option β) → Option β)  (a0 : List Int) (a1 : List Int) (K : TV → Option β) : evFn lay (VE55 N q_laws_eqIntS_l0) Try.f55 [.v (.one (.sl 3 (.ints .i64 a0))), .v (.one (.sl 3 (.ints .i64 a1)))] K = BV_laws_eqIntS N q_laws_eqIntS_l0 a0 a1 (fun z2 => K (.v (.one (.bool z2)))) := by kernel_rfl
theorem e55_0 {β : Type} (N : Nat)  (a0 : List Int) (a1 : List Int) (K : TV → Option β) : evFn lay (E55 N) Try.f55 [.v (.one (.sl 3 (.ints .i64 a0))), .v (.one (.sl 3 (.ints .i64 a1)))] K = laws_eqIntS N a0 a1 (fun z2 => K (.v (.one (.bool z2)))) := (ve55_0 N (laws_eqIntS_l0 N) a0 a1 K).trans (t_laws_eqIntS N a0 a1 (fun z2 => K (.v (.one (.bool z2))))).symm
theorem o55 {β : Type} (N : Nat) : SpecOK (β := β) inv Try.prog 55 (S55 N) := by
  refine spec_of lay_ok mixed (E := E55 N) (specs_loops specs_nil) muts_nil gs_nil Try.func55 (by kernel_rfl) 1 (by kernel_rfl) ⟨trivial, rk55_0 N⟩ fun args K r h => ?_
  unfold S55 VS55 at h
  split at h
  · exact (e55_0 N _ _ _).trans h
  · cases h
def VS13 {β : Type} (N : Nat) (q_laws_eqClaim : (a0 : Int) → (a1 : Int) → (a2 : Int) → (a3 : Int) → (a4 : Int) → (a5 : ByteArray) → (a6 : List Int) → (a7 : Int) → (a8 : Int) → (a9 : Int) → (a10 : Int) → (a11 : Int) → (a12 : ByteArray) → (a13 : List Int) → (k : Bool → Option β) → Option β) : Rv.Spec β := fun args K => match args with
  | [.v (.agg [.int .i64 a0, .int .i64 a1, .int .i64 a2, .int .i64 a3, .int .i64 a4, .str a5, .sl 3 (.ints .i64 a6)]), .v (.agg [.int .i64 a7, .int .i64 a8, .int .i64 a9, .int .i64 a10, .int .i64 a11, .str a12, .sl 3 (.ints .i64 a13)])] => q_laws_eqClaim a0 a1 a2 a3 a4 a5 a6 a7 a8 a9 a10 a11 a12 a13 (fun z14 => K (.v (.one (.bool z14))))
  | _ => none
def S13 {β : Type} (N : Nat) : Rv.Spec β := VS13 N (laws_eqClaim N)
def VE13 {β : Type} (N : Nat) (q_laws_eqTable : (a0 : Int) → (a1 : Int) → (a2 : Int) → (a3 : Int) → (k : Bool → Option β) → Option β) (q_laws_eqIntS : (a0 : List Int) → (a1 : List Int) → (k : Bool → Option β) → Option β) : Env β := ⟨[(54, VS54 N q_laws_eqTable), (55, VS55 N q_laws_eqIntS)], [], [], [], ⟨[], [], []⟩⟩
def E13 {β : Type} (N : Nat) : Env β := VE13 N (laws_eqTable N) (laws_eqIntS N)
def BV_laws_eqClaim {β : Type} (N : Nat) (q_laws_eqTable : (a0 : Int) → (a1 : Int) → (a2 : Int) → (a3 : Int) → (k : Bool → Option β) → Option β) (q_laws_eqIntS : (a0 : List Int) → (a1 : List Int) → (k : Bool → Option β) → Option β) (a0 : Int) (a1 : Int) (a2 : Int) (a3 : Int) (a4 : Int) (a5 : ByteArray) (a6 : List Int) (a7 : Int) (a8 : Int) (a9 : Int) (a10 : Int) (a11 : Int) (a12 : ByteArray) (a13 : List Int) (k : Bool → Option β) : Option β :=
(cond ((a0 != a7))
(k false)
(q_laws_eqTable a1 a2 a8 a9 fun r15 =>
(cond (!r15)
(k false)
((cond ((a3 != a10))
(k false)
((cond ((a4 != a11))
(k false)
((cond ((!(a5.toList == a12.toList)))
(k false)
(q_laws_eqIntS a6 a13 fun r16 =>
(cond (!r16)
(k false)
(k true))))))))))))
theorem t_laws_eqClaim {β : Type} (N : Nat) (a0 : Int) (a1 : Int) (a2 : Int) (a3 : Int) (a4 : Int) (a5 : ByteArray) (a6 : List Int) (a7 : Int) (a8 : Int) (a9 : Int) (a10 : Int) (a11 : Int) (a12 : ByteArray) (a13 : List Int) (k : Bool → Option β) : laws_eqClaim N a0 a1 a2 a3 a4 a5 a6 a7 a8 a9 a10 a11 a12 a13 k = BV_laws_eqClaim N (laws_eqTable N) (laws_eqIntS N) a0 a1 a2 a3 a4 a5 a6 a7 a8 a9 a10 a11 a12 a13 k := by
  unfold laws_eqClaim BV_laws_eqClaim
  rfl
theorem ve13_0 {β : Type} (N : Nat) (q_laws_eqTable : (a0 : Int) → (a1 : Int) → (a2 : Int) → (a3 : Int) → (k : Bool → Option β) → Option β) (q_laws_eqIntS : (a0 : List Int) → (a1 : List Int) → (k : Bool → Option β) → Option β)  (a0 : Int) (a1 : Int) (a2 : Int) (a3 : Int) (a4 : Int) (a5 : ByteArray) (a6 : List Int) (a7 : Int) (a8 : Int) (a9 : Int) (a10 : Int) (a11 : Int) (a12 : ByteArray) (a13 : List Int) (K : TV → Option β) : evFn lay (VE13 N q_laws_eqTable q_laws_eqIntS) Try.f13 [.v (.agg [.int .i64 a0, .int .i64 a1, .int .i64 a2, .int .i64 a3, .int .i64 a4, .str a5, .sl 3 (.ints .i64 a6)]), .v (.agg [.int .i64 a7, .int .i64 a8, .int .i64 a9, .int .i64 a10, .int .i64 a11, .str a12, .sl 3 (.ints .i64 a13)])] K = BV_laws_eqClaim N q_laws_eqTable q_laws_eqIntS a0 a1 a2 a3 a4 a5 a6 a7 a8 a9 a10 a11 a12 a13 (fun z14 => K (.v (.one (.bool z14)))) := by kernel_rfl
theorem e13_0 {β : Type} (N : Nat)  (a0 : Int) (a1 : Int) (a2 : Int) (a3 : Int) (a4 : Int) (a5 : ByteArray) (a6 : List Int) (a7 : Int) (a8 : Int) (a9 : Int) (a10 : Int) (a11 : Int) (a12 : ByteArray) (a13 : List Int) (K : TV → Option β) : evFn lay (E13 N) Try.f13 [.v (.agg [.int .i64 a0, .int .i64 a1, .int .i64 a2, .int .i64 a3, .int .i64 a4, .str a5, .sl 3 (.ints .i64 a6)]), .v (.agg [.int .i64 a7, .int .i64 a8, .int .i64 a9, .int .i64 a10, .int .i64 a11, .str a12, .sl 3 (.ints .i64 a13)])] K = laws_eqClaim N a0 a1 a2 a3 a4 a5 a6 a7 a8 a9 a10 a11 a12 a13 (fun z14 => K (.v (.one (.bool z14)))) := (ve13_0 N (laws_eqTable N) (laws_eqIntS N) a0 a1 a2 a3 a4 a5 a6 a7 a8 a9 a10 a11 a12 a13 K).trans (t_laws_eqClaim N a0 a1 a2 a3 a4 a5 a6 a7 a8 a9 a10 a11 a12 a13 (fun z14 => K (.v (.one (.bool z14))))).symm
theorem o13 {β : Type} (N : Nat) : SpecOK (β := β) inv Try.prog 13 (S13 N) := by
  refine spec_of lay_ok mixed (E := E13 N) (specs_loops (specs_cons (o54 N) (specs_cons (o55 N) specs_nil))) muts_nil gs_nil Try.func13 (by kernel_rfl) 0 (by kernel_rfl) trivial fun args K r h => ?_
  unfold S13 VS13 at h
  split at h
  · exact (e13_0 N _ _ _ _ _ _ _ _ _ _ _ _ _ _ _).trans h
  · cases h
def VS57 {β : Type} (N : Nat) (q_laws_heldIntS : (a0 : List Int) → (a1 : Int) → (k : Int → Option β) → Option β) : Rv.Spec β := fun args K => match args with
  | [.v (.one (.sl 3 (.ints .i64 a0))), .v (.one (.int .i64 a1))] => q_laws_heldIntS a0 a1 (fun z2 => K (.v (.one (.int .i64 z2))))
  | _ => none
def S57 {β : Type} (N : Nat) : Rv.Spec β := VS57 N (laws_heldIntS N)
def h57_0_0  (v0 : List Int) (v1 : Int) (v2 : Int) : St := ⟨.v (.one (.sl 3 (.ints .i64 v0))) :: .v (.one (.int .i64 v1)) :: .v (.one .und) :: .v (.one .und) :: .v (.one .und) :: .v (.one (.int .i64 v2)) :: .v (.one .und) :: .v (.one .und) :: .v (.one .und) :: .v (.one .und) :: .v (.one .und) :: .v (.one .und) :: .v (.one .und) :: .v (.one .und) :: .v (.one .und) :: .v (.one .und) :: .v (.one .und) :: .v (.one .und) :: .v (.one .und) :: .v (.one .und) :: .v (.one .und) :: [], []⟩
def x57_0_0_k0  (y0 : Int) : St := ⟨.v (.one .und) :: .v (.one .und) :: .v (.one .und) :: .v (.one .und) :: .v (.one (.int .i64 y0)) :: .v (.one .und) :: .v (.one .und) :: .v (.one .und) :: .v (.one .und) :: .v (.one .und) :: .v (.one .und) :: .v (.one .und) :: .v (.one .und) :: .v (.one .und) :: .v (.one .und) :: .v (.one .und) :: .v (.one .und) :: .v (.one .und) :: .v (.one .und) :: .v (.one .und) :: .v (.one .und) :: [], []⟩
def x57_0_0_k1  (y0 : Int) : St := ⟨.v (.one .und) :: .v (.one (.int .i64 y0)) :: .v (.one .und) :: .v (.one .und) :: .v (.one .und) :: .v (.one .und) :: .v (.one .und) :: .v (.one .und) :: .v (.one .und) :: .v (.one .und) :: .v (.one .und) :: .v (.one .und) :: .v (.one .und) :: .v (.one .und) :: .v (.one .und) :: .v (.one .und) :: .v (.one .und) :: .v (.one .und) :: .v (.one .und) :: .v (.one .und) :: .v (.one .und) :: [], []⟩
theorem fl57_0_0 (s : St) : refSt (h57_0_0 [] 0 0) s = h57_0_0 (rInts (rowV (oneA (vT (nx tund s.tmps 0))))) (intS (oneA (vT (nx tund s.tmps 1)))) (intS (oneA (vT (nx tund s.tmps 5)))) := by kernel_rfl
def VLS57_0 {β : Type} (N : Nat) (q_laws_heldIntS_l0 : Nat → List Int → Int → Int → (Int → Option β) → (Int → Option β) → Option β) : LSpec β := fun s K => cond (shpSt (h57_0_0 [] 0 0) s) ((fun (v0 : List Int) (v1 : Int) (v2 : Int) => q_laws_heldIntS_l0  N v0 v1 v2 (fun y0 => K .ret (x57_0_0_k0  y0)) (fun y0 => K (.exit 0) (x57_0_0_k1  y0))) (rInts (rowV (oneA (vT (nx tund s.tmps 0))))) (intS (oneA (vT (nx tund s.tmps 1)))) (intS (oneA (vT (nx tund s.tmps 5))))) (none)
def LS57_0 {β : Type} (N : Nat) : LSpec β := VLS57_0 N (laws_heldIntS_l0 N)
def VE57 {β : Type} (N : Nat) (q_laws_heldIntS_l0 : Nat → List Int → Int → Int → (Int → Option β) → (Int → Option β) → Option β) : Env β := ⟨[], [], [(0, VLS57_0 N q_laws_heldIntS_l0)], [], ⟨[], [], []⟩⟩
def E57 {β : Type} (N : Nat) : Env β := VE57 N (laws_heldIntS_l0 N)
def BV_laws_heldIntS_l0b {β : Type} (N : Nat)  (v0 : List Int) (v1 : Int) (v2 : Int) (rec_ : List Int → Int → Int → Option β) (k0 : Int → Option β) (k1 : Int → Option β) : Option β :=
(cond ((decide (v2 < (v0.length : Int))))
((gd ((decide (0 ≤ v2)))
((gd ((decide (v2 < (v0.length : Int))))
((cond (((rd 0 v0 v2) != v1))
(k0 (-1))
(rec_ v0 ((w64 (v1 + 1))) ((w64 (v2 + 1))))))))))
(k1 v1))
theorem t_laws_heldIntS_l0b {β : Type} (N : Nat)  (v0 : List Int) (v1 : Int) (v2 : Int) (rec_ : List Int → Int → Int → Option β) (k0 : Int → Option β) (k1 : Int → Option β) : laws_heldIntS_l0b N v0 v1 v2 rec_ k0 k1 = BV_laws_heldIntS_l0b N v0 v1 v2 rec_ k0 k1 := by
  unfold laws_heldIntS_l0b BV_laws_heldIntS_l0b
  rfl
theorem vst57_0_0 {β : Type} (N : Nat) (q_laws_heldIntS_l0 : Nat → List Int → Int → Int → (Int → Option β) → (Int → Option β) → Option β)  (v0 : List Int) (v1 : Int) (v2 : Int) (rec_ : St → Option β) (K : Exit → St → Option β) :
    ev lay (VE57 N q_laws_heldIntS_l0) (retMask Try.f57) (lp Try.f57 0).body (lp Try.f57 0).ex ((lp Try.f57 0).lv (retMask Try.f57)) (h57_0_0  v0 v1 v2) (nextR (fun s' => rec_ (s'.tidy ((lp Try.f57 0).lv (retMask Try.f57)))) K) = BV_laws_heldIntS_l0b N  v0 v1 v2 (fun v0 v1 v2 => rec_ (h57_0_0  v0 v1 v2)) (fun y0 => K .ret (x57_0_0_k0  y0)) (fun y0 => K (.exit 0) (x57_0_0_k1  y0)) := by kernel_rfl
theorem st57_0_0 {β : Type} (N : Nat)  (v0 : List Int) (v1 : Int) (v2 : Int) (rec_ : St → Option β) (K : Exit → St → Option β) :
    ev lay (E57 N) (retMask Try.f57) (lp Try.f57 0).body (lp Try.f57 0).ex ((lp Try.f57 0).lv (retMask Try.f57)) (h57_0_0  v0 v1 v2) (nextR (fun s' => rec_ (s'.tidy ((lp Try.f57 0).lv (retMask Try.f57)))) K) = laws_heldIntS_l0b N  v0 v1 v2 (fun v0 v1 v2 => rec_ (h57_0_0  v0 v1 v2)) (fun y0 => K .ret (x57_0_0_k0  y0)) (fun y0 => K (.exit 0) (x57_0_0_k1  y0)) := (vst57_0_0 N (laws_heldIntS_l0 N) v0 v1 v2 rec_ K).trans (t_laws_heldIntS_l0b N  v0 v1 v2 (fun v0 v1 v2 => rec_ (h57_0_0  v0 v1 v2)) (fun y0 => K .ret (x57_0_0_k0  y0)) (fun y0 => K (.exit 0) (x57_0_0_k1  y0))).symm
theorem ro57_0_0 {β : Type} (N : Nat)  (K : Exit → St → Option β) : ∀ (F : Nat) (v0 : List Int) (v1 : Int) (v2 : Int), (lp Try.f57 0).rounds lay (E57 N) (retMask Try.f57) F (h57_0_0  v0 v1 v2) K = laws_heldIntS_l0 N  F v0 v1 v2 (fun y0 => K .ret (x57_0_0_k0  y0)) (fun y0 => K (.exit 0) (x57_0_0_k1  y0)) := by
  intro F
  induction F with
  | zero => intros; rfl
  | succ F ih =>
    intros
    rw [rounds_next]
    refine (st57_0_0 N  _ _ _ (fun s => (lp Try.f57 0).rounds lay (E57 N) (retMask Try.f57) F s K) K).trans ?_
    simp only [ih]
    rfl
theorem lk57_0 {β : Type} (N : Nat) : lookL (E57 (β := β) N).loops (lp Try.f57 0).id = LS57_0 N := by kernel_rfl
theorem rk57_0 {β : Type} (N : Nat) : RoundsOK lay (E57 (β := β) N) (retMask Try.f57) (lp Try.f57 0) := by
  intro s K r h
  rw [lk57_0] at h
  unfold LS57_0 VLS57_0 at h
  cases hb : shpSt (h57_0_0 [] 0 0) s with
  | true =>
    rw [hb, cond_true] at h
    exact ⟨N, by rw [← shpSt_ref hb, fl57_0_0 s]; exact (ro57_0_0 N  K N (rInts (rowV (oneA (vT (nx tund s.tmps 0))))) (intS (oneA (vT (nx tund s.tmps 1)))) (intS (oneA (vT (nx tund s.tmps 5))))).trans h⟩
  | false =>
  rw [hb, cond_false] at h
  clear hb
  cases h
def BV_laws_heldIntS {β : Type} (N : Nat) (q_laws_heldIntS_l0 : Nat → List Int → Int → Int → (Int → Option β) → (Int → Option β) → Option β) (a0 : List Int) (a1 : Int) (k : Int → Option β) : Option β :=
q_laws_heldIntS_l0  N a0 a1 0 (fun e3_0 =>
k e3_0) (fun e4_0 =>
k e4_0)
theorem t_laws_heldIntS {β : Type} (N : Nat) (a0 : List Int) (a1 : Int) (k : Int → Option β) : laws_heldIntS N a0 a1 k = BV_laws_heldIntS N (laws_heldIntS_l0 N) a0 a1 k := by
  unfold laws_heldIntS BV_laws_heldIntS
  rfl
theorem ve57_0 {β : Type} (N : Nat) (q_laws_heldIntS_l0 : Nat → List Int → Int → Int → (Int → Option β) → (Int → Option β) → Option β)  (a0 : List Int) (a1 : Int) (K : TV → Option β) : evFn lay (VE57 N q_laws_heldIntS_l0) Try.f57 [.v (.one (.sl 3 (.ints .i64 a0))), .v (.one (.int .i64 a1))] K = BV_laws_heldIntS N q_laws_heldIntS_l0 a0 a1 (fun z2 => K (.v (.one (.int .i64 z2)))) := by kernel_rfl
theorem e57_0 {β : Type} (N : Nat)  (a0 : List Int) (a1 : Int) (K : TV → Option β) : evFn lay (E57 N) Try.f57 [.v (.one (.sl 3 (.ints .i64 a0))), .v (.one (.int .i64 a1))] K = laws_heldIntS N a0 a1 (fun z2 => K (.v (.one (.int .i64 z2)))) := (ve57_0 N (laws_heldIntS_l0 N) a0 a1 K).trans (t_laws_heldIntS N a0 a1 (fun z2 => K (.v (.one (.int .i64 z2))))).symm
theorem o57 {β : Type} (N : Nat) : SpecOK (β := β) inv Try.prog 57 (S57 N) := by
  refine spec_of lay_ok mixed (E := E57 N) (specs_loops specs_nil) muts_nil gs_nil Try.func57 (by kernel_rfl) 1 (by kernel_rfl) ⟨trivial, rk57_0 N⟩ fun args K r h => ?_
  unfold S57 VS57 at h
  split at h
  · exact (e57_0 N _ _ _).trans h
  · cases h
def VS15 {β : Type} (N : Nat) (q_laws_heldClaim : (a0 : Int) → (a1 : Int) → (a2 : Int) → (a3 : Int) → (a4 : Int) → (a5 : ByteArray) → (a6 : List Int) → (a7 : Int) → (k : Int → Option β) → Option β) : Rv.Spec β := fun args K => match args with
  | [.v (.agg [.int .i64 a0, .int .i64 a1, .int .i64 a2, .int .i64 a3, .int .i64 a4, .str a5, .sl 3 (.ints .i64 a6)]), .v (.one (.int .i64 a7))] => q_laws_heldClaim a0 a1 a2 a3 a4 a5 a6 a7 (fun z8 => K (.v (.one (.int .i64 z8))))
  | _ => none
def S15 {β : Type} (N : Nat) : Rv.Spec β := VS15 N (laws_heldClaim N)
def VE15 {β : Type} (N : Nat) (q_laws_heldIntS : (a0 : List Int) → (a1 : Int) → (k : Int → Option β) → Option β) : Env β := ⟨[(57, VS57 N q_laws_heldIntS)], [], [], [], ⟨[], [], []⟩⟩
def E15 {β : Type} (N : Nat) : Env β := VE15 N (laws_heldIntS N)
def BV_laws_heldClaim {β : Type} (N : Nat) (q_laws_heldIntS : (a0 : List Int) → (a1 : Int) → (k : Int → Option β) → Option β) (a0 : Int) (a1 : Int) (a2 : Int) (a3 : Int) (a4 : Int) (a5 : ByteArray) (a6 : List Int) (a7 : Int) (k : Int → Option β) : Option β :=
q_laws_heldIntS a6 a7 fun r9 =>
(cond ((decide (r9 < 0)))
(k (-1))
(k r9))
theorem t_laws_heldClaim {β : Type} (N : Nat) (a0 : Int) (a1 : Int) (a2 : Int) (a3 : Int) (a4 : Int) (a5 : ByteArray) (a6 : List Int) (a7 : Int) (k : Int → Option β) : laws_heldClaim N a0 a1 a2 a3 a4 a5 a6 a7 k = BV_laws_heldClaim N (laws_heldIntS N) a0 a1 a2 a3 a4 a5 a6 a7 k := by
  unfold laws_heldClaim BV_laws_heldClaim
  rfl
theorem ve15_0 {β : Type} (N : Nat) (q_laws_heldIntS : (a0 : List Int) → (a1 : Int) → (k : Int → Option β) → Option β)  (a0 : Int) (a1 : Int) (a2 : Int) (a3 : Int) (a4 : Int) (a5 : ByteArray) (a6 : List Int) (a7 : Int) (K : TV → Option β) : evFn lay (VE15 N q_laws_heldIntS) Try.f15 [.v (.agg [.int .i64 a0, .int .i64 a1, .int .i64 a2, .int .i64 a3, .int .i64 a4, .str a5, .sl 3 (.ints .i64 a6)]), .v (.one (.int .i64 a7))] K = BV_laws_heldClaim N q_laws_heldIntS a0 a1 a2 a3 a4 a5 a6 a7 (fun z8 => K (.v (.one (.int .i64 z8)))) := by kernel_rfl
theorem e15_0 {β : Type} (N : Nat)  (a0 : Int) (a1 : Int) (a2 : Int) (a3 : Int) (a4 : Int) (a5 : ByteArray) (a6 : List Int) (a7 : Int) (K : TV → Option β) : evFn lay (E15 N) Try.f15 [.v (.agg [.int .i64 a0, .int .i64 a1, .int .i64 a2, .int .i64 a3, .int .i64 a4, .str a5, .sl 3 (.ints .i64 a6)]), .v (.one (.int .i64 a7))] K = laws_heldClaim N a0 a1 a2 a3 a4 a5 a6 a7 (fun z8 => K (.v (.one (.int .i64 z8)))) := (ve15_0 N (laws_heldIntS N) a0 a1 a2 a3 a4 a5 a6 a7 K).trans (t_laws_heldClaim N a0 a1 a2 a3 a4 a5 a6 a7 (fun z8 => K (.v (.one (.int .i64 z8))))).symm
theorem o15 {β : Type} (N : Nat) : SpecOK (β := β) inv Try.prog 15 (S15 N) := by
  refine spec_of lay_ok mixed (E := E15 N) (specs_loops (specs_cons (o57 N) specs_nil)) muts_nil gs_nil Try.func15 (by kernel_rfl) 0 (by kernel_rfl) trivial fun args K r h => ?_
  unfold S15 VS15 at h
  split at h
  · exact (e15_0 N _ _ _ _ _ _ _ _ _).trans h
  · cases h
end Go.Proofs.Ytfdggelojmofmaa
