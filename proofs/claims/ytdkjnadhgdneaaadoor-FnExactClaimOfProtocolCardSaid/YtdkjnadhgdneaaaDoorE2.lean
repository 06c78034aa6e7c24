/- The functions that the claims reach answer as their texts do. -/
import Derived.Test.YtdkjnadhgdneaaaDoorE1
namespace Go.Proofs.YtdkjnadhgdneaaaDoor
open Go.Rv
set_option maxRecDepth 100000
set_option maxHeartbeats 2000000
set_option linter.unusedVariables false
def VSF18 {β : Type} (N : Nat) (q_spec_l21Build_f : Nat → List Int → Int → Int → Int → (ByteArray → Option β) → Option β) (G : Nat) : Rv.Spec β := fun args K => match args with
  | [.v (.one (.sl 3 (.ints .i64 a0))), .v (.one (.int .i64 a1)), .v (.one (.int .i64 a2)), .v (.one (.int .i64 a3))] => q_spec_l21Build_f G a0 a1 a2 a3 (fun z4 => K (.v (.one (.str z4))))
  | _ => none
def SF18 {β : Type} (N : Nat) (G : Nat) : Rv.Spec β := VSF18 N (spec_l21Build_f N) G
def VS18 {β : Type} (N : Nat) (q_spec_l21Build_f : Nat → List Int → Int → Int → Int → (ByteArray → Option β) → Option β) : Rv.Spec β := VSF18 N q_spec_l21Build_f N
def S18 {β : Type} (N : Nat) : Rv.Spec β := SF18 N N
def h18_0_0  (v0 : List Int) (v1 : Int) (v2 : Int) (v3 : Int) (v4 : Int) : St := ⟨.v (.one (.sl 3 (.ints .i64 v0))) :: .v (.one (.int .i64 v1)) :: .v (.one (.int .i64 v2)) :: .v (.one (.int .i64 v3)) :: .v (.one .und) :: .v (.one .und) :: .v (.one .und) :: .v (.one .und) :: .v (.one .und) :: .v (.one .und) :: .v (.one (.int .i64 v4)) :: .v (.one .und) :: .v (.one .und) :: .v (.one .und) :: .v (.one .und) :: .v (.one .und) :: .v (.one .und) :: .v (.one .und) :: .v (.one .und) :: .v (.one .und) :: .v (.one .und) :: .v (.one .und) :: .v (.one .und) :: .v (.one .und) :: .v (.one .und) :: .v (.one .und) :: .v (.one .und) :: .v (.one .und) :: .v (.one .und) :: .v (.one .und) :: .v (.one .und) :: .v (.one .und) :: .v (.one .und) :: .v (.one .und) :: .v (.one .und) :: .v (.one .und) :: .v (.one .und) :: .v (.one .und) :: .v (.one .und) :: .v (.one .und) :: .v (.one .und) :: .v (.one .und) :: .v (.one .und) :: .v (.one .und) :: .v (.one .und) :: .v (.one .und) :: .v (.one .und) :: .v (.one .und) :: .v (.one .und) :: .v (.one .und) :: .v (.one .und) :: .v (.one .und) :: .v (.one .und) :: .v (.one .und) :: .v (.one .und) :: .v (.one .und) :: .v (.one .und) :: .v (.one .und) :: .v (.one .und) :: .v (.one .und) :: .v (.one .und) :: .v (.one .und) :: .v (.one .und) :: .v (.one .und) :: .v (.one .und) :: .v (.one .und) :: .v (.one .und) :: .v (.one .und) :: .v (.one .und) :: .v (.one .und) :: .v (.one .und) :: .v (.one .und) :: .v (.one .und) :: .v (.one .und) :: .v (.one .und) :: .v (.one .und) :: .v (.one .und) :: .v (.one .und) :: .v (.one .und) :: .v (.one .und) :: .v (.one .und) :: .v (.one .und) :: .v (.one .und) :: .v (.one .und) :: .v (.one .und) :: .v (.one .und) :: .v (.one .und) :: .v (.one .und) :: .v (.one .und) :: .v (.one .und) :: .v (.one .und) :: .v (.one .und) :: .v (.one .und) :: .v (.one .und) :: .v (.one .und) :: .v (.one .und) :: .v (.one .und) :: .v (.one .und) :: .v (.one .und) :: .v (.one .und) :: .v (.one .und) :: .v (.one .und) :: .v (.one .und) :: .v (.one .und) :: .v (.one .und) :: .v (.one .und) :: .v (.one .und) :: .v (.one .und) :: .v (.one .und) :: .v (.one .und) :: .v (.one .und) :: .v (.one .und) :: .v (.one .und) :: .v (.one .und) :: .v (.one .und) :: .v (.one .und) :: .v (.one .und) :: .v (.one .und) :: .v (.one .und) :: .v (.one .und) :: .v (.one .und) :: .v (.one .und) :: .v (.one .und) :: .v (.one .und) :: .v (.one .und) :: .v (.one .und) :: .v (.one .und) :: .v (.one .und) :: .v (.one .und) :: .v (.one .und) :: .v (.one .und) :: .v (.one .und) :: .v (.one .und) :: .v (.one .und) :: .v (.one .und) :: .v (.one .und) :: .v (.one .und) :: .v (.one .und) :: .v (.one .und) :: .v (.one .und) :: .v (.one .und) :: .v (.one .und) :: .v (.one .und) :: .v (.one .und) :: [], []⟩
def x18_0_0_k0  (y0 : ByteArray) : St := ⟨.v (.one .und) :: .v (.one .und) :: .v (.one .und) :: .v (.one .und) :: .v (.one .und) :: .v (.one .und) :: .v (.one .und) :: .v (.one .und) :: .v (.one (.str y0)) :: .v (.one .und) :: .v (.one .und) :: .v (.one .und) :: .v (.one .und) :: .v (.one .und) :: .v (.one .und) :: .v (.one .und) :: .v (.one .und) :: .v (.one .und) :: .v (.one .und) :: .v (.one .und) :: .v (.one .und) :: .v (.one .und) :: .v (.one .und) :: .v (.one .und) :: .v (.one .und) :: .v (.one .und) :: .v (.one .und) :: .v (.one .und) :: .v (.one .und) :: .v (.one .und) :: .v (.one .und) :: .v (.one .und) :: .v (.one .und) :: .v (.one .und) :: .v (.one .und) :: .v (.one .und) :: .v (.one .und) :: .v (.one .und) :: .v (.one .und) :: .v (.one .und) :: .v (.one .und) :: .v (.one .und) :: .v (.one .und) :: .v (.one .und) :: .v (.one .und) :: .v (.one .und) :: .v (.one .und) :: .v (.one .und) :: .v (.one .und) :: .v (.one .und) :: .v (.one .und) :: .v (.one .und) :: .v (.one .und) :: .v (.one .und) :: .v (.one .und) :: .v (.one .und) :: .v (.one .und) :: .v (.one .und) :: .v (.one .und) :: .v (.one .und) :: .v (.one .und) :: .v (.one .und) :: .v (.one .und) :: .v (.one .und) :: .v (.one .und) :: .v (.one .und) :: .v (.one .und) :: .v (.one .und) :: .v (.one .und) :: .v (.one .und) :: .v (.one .und) :: .v (.one .und) :: .v (.one .und) :: .v (.one .und) :: .v (.one .und) :: .v (.one .und) :: .v (.one .und) :: .v (.one .und) :: .v (.one .und) :: .v (.one .und) :: .v (.one .und) :: .v (.one .und) :: .v (.one .und) :: .v (.one .und) :: .v (.one .und) :: .v (.one .und) :: .v (.one .und) :: .v (.one .und) :: .v (.one .und) :: .v (.one .und) :: .v (.one .und) :: .v (.one .und) :: .v (.one .und) :: .v (.one .und) :: .v (.one .und) :: .v (.one .und) :: .v (.one .und) :: .v (.one .und) :: .v (.one .und) :: .v (.one .und) :: .v (.one .und) :: .v (.one .und) :: .v (.one .und) :: .v (.one .und) :: .v (.one .und) :: .v (.one .und) :: .v (.one .und) :: .v (.one .und) :: .v (.one .und) :: .v (.one .und) :: .v (.one .und) :: .v (.one .und) :: .v (.one .und) :: .v (.one .und) :: .v (.one .und) :: .v (.one .und) :: .v (.one .und) :: .v (.one .und) :: .v (.one .und) :: .v (.one .und) :: .v (.one .und) :: .v (.one .und) :: .v (.one .und) :: .v (.one .und) :: .v (.one .und) :: .v (.one .und) :: .v (.one .und) :: .v (.one .und) :: .v (.one .und) :: .v (.one .und) :: .v (.one .und) :: .v (.one .und) :: .v (.one .und) :: .v (.one .und) :: .v (.one .und) :: .v (.one .und) :: .v (.one .und) :: .v (.one .und) :: .v (.one .und) :: .v (.one .und) :: .v (.one .und) :: .v (.one .und) :: .v (.one .und) :: .v (.one .und) :: [], []⟩
def x18_0_0_k1  (y0 : List Int) (y1 : Int) (y2 : Int) (y3 : Int) : St := ⟨.v (.one (.sl 3 (.ints .i64 y0))) :: .v (.one (.int .i64 y1)) :: .v (.one (.int .i64 y2)) :: .v (.one (.int .i64 y3)) :: .v (.one .und) :: .v (.one .und) :: .v (.one .und) :: .v (.one .und) :: .v (.one .und) :: .v (.one .und) :: .v (.one .und) :: .v (.one .und) :: .v (.one .und) :: .v (.one .und) :: .v (.one .und) :: .v (.one .und) :: .v (.one .und) :: .v (.one .und) :: .v (.one .und) :: .v (.one .und) :: .v (.one .und) :: .v (.one .und) :: .v (.one .und) :: .v (.one .und) :: .v (.one .und) :: .v (.one .und) :: .v (.one .und) :: .v (.one .und) :: .v (.one .und) :: .v (.one .und) :: .v (.one .und) :: .v (.one .und) :: .v (.one .und) :: .v (.one .und) :: .v (.one .und) :: .v (.one .und) :: .v (.one .und) :: .v (.one .und) :: .v (.one .und) :: .v (.one .und) :: .v (.one .und) :: .v (.one .und) :: .v (.one .und) :: .v (.one .und) :: .v (.one .und) :: .v (.one .und) :: .v (.one .und) :: .v (.one .und) :: .v (.one .und) :: .v (.one .und) :: .v (.one .und) :: .v (.one .und) :: .v (.one .und) :: .v (.one .und) :: .v (.one .und) :: .v (.one .und) :: .v (.one .und) :: .v (.one .und) :: .v (.one .und) :: .v (.one .und) :: .v (.one .und) :: .v (.one .und) :: .v (.one .und) :: .v (.one .und) :: .v (.one .und) :: .v (.one .und) :: .v (.one .und) :: .v (.one .und) :: .v (.one .und) :: .v (.one .und) :: .v (.one .und) :: .v (.one .und) :: .v (.one .und) :: .v (.one .und) :: .v (.one .und) :: .v (.one .und) :: .v (.one .und) :: .v (.one .und) :: .v (.one .und) :: .v (.one .und) :: .v (.one .und) :: .v (.one .und) :: .v (.one .und) :: .v (.one .und) :: .v (.one .und) :: .v (.one .und) :: .v (.one .und) :: .v (.one .und) :: .v (.one .und) :: .v (.one .und) :: .v (.one .und) :: .v (.one .und) :: .v (.one .und) :: .v (.one .und) :: .v (.one .und) :: .v (.one .und) :: .v (.one .und) :: .v (.one .und) :: .v (.one .und) :: .v (.one .und) :: .v (.one .und) :: .v (.one .und) :: .v (.one .und) :: .v (.one .und) :: .v (.one .und) :: .v (.one .und) :: .v (.one .und) :: .v (.one .und) :: .v (.one .und) :: .v (.one .und) :: .v (.one .und) :: .v (.one .und) :: .v (.one .und) :: .v (.one .und) :: .v (.one .und) :: .v (.one .und) :: .v (.one .und) :: .v (.one .und) :: .v (.one .und) :: .v (.one .und) :: .v (.one .und) :: .v (.one .und) :: .v (.one .und) :: .v (.one .und) :: .v (.one .und) :: .v (.one .und) :: .v (.one .und) :: .v (.one .und) :: .v (.one .und) :: .v (.one .und) :: .v (.one .und) :: .v (.one .und) :: .v (.one .und) :: .v (.one .und) :: .v (.one .und) :: .v (.one .und) :: .v (.one .und) :: .v (.one .und) :: .v (.one .und) :: .v (.one .und) :: .v (.one .und) :: .v (.one .und) :: .v (.one .und) :: .v (.one .und) :: [], []⟩
def h18_1_0  (v0 : List Int) (v1 : Int) (v2 : Int) (v3 : Int) (v4 : Int) : St := ⟨.v (.one (.sl 3 (.ints .i64 v0))) :: .v (.one (.int .i64 v1)) :: .v (.one (.int .i64 v2)) :: .v (.one (.int .i64 v3)) :: .v (.one .und) :: .v (.one .und) :: .v (.one .und) :: .v (.one .und) :: .v (.one .und) :: .v (.one .und) :: .v (.one .und) :: .v (.one (.int .i64 v4)) :: .v (.one .und) :: .v (.one .und) :: .v (.one .und) :: .v (.one .und) :: .v (.one .und) :: .v (.one .und) :: .v (.one .und) :: .v (.one .und) :: .v (.one .und) :: .v (.one .und) :: .v (.one .und) :: .v (.one .und) :: .v (.one .und) :: .v (.one .und) :: .v (.one .und) :: .v (.one .und) :: .v (.one .und) :: .v (.one .und) :: .v (.one .und) :: .v (.one .und) :: .v (.one .und) :: .v (.one .und) :: .v (.one .und) :: .v (.one .und) :: .v (.one .und) :: .v (.one .und) :: .v (.one .und) :: .v (.one .und) :: .v (.one .und) :: .v (.one .und) :: .v (.one .und) :: .v (.one .und) :: .v (.one .und) :: .v (.one .und) :: .v (.one .und) :: .v (.one .und) :: .v (.one .und) :: .v (.one .und) :: .v (.one .und) :: .v (.one .und) :: .v (.one .und) :: .v (.one .und) :: .v (.one .und) :: .v (.one .und) :: .v (.one .und) :: .v (.one .und) :: .v (.one .und) :: .v (.one .und) :: .v (.one .und) :: .v (.one .und) :: .v (.one .und) :: .v (.one .und) :: .v (.one .und) :: .v (.one .und) :: .v (.one .und) :: .v (.one .und) :: .v (.one .und) :: .v (.one .und) :: .v (.one .und) :: .v (.one .und) :: .v (.one .und) :: .v (.one .und) :: .v (.one .und) :: .v (.one .und) :: .v (.one .und) :: .v (.one .und) :: .v (.one .und) :: .v (.one .und) :: .v (.one .und) :: .v (.one .und) :: .v (.one .und) :: .v (.one .und) :: .v (.one .und) :: .v (.one .und) :: .v (.one .und) :: .v (.one .und) :: .v (.one .und) :: .v (.one .und) :: .v (.one .und) :: .v (.one .und) :: .v (.one .und) :: .v (.one .und) :: .v (.one .und) :: .v (.one .und) :: .v (.one .und) :: .v (.one .und) :: .v (.one .und) :: .v (.one .und) :: .v (.one .und) :: .v (.one .und) :: .v (.one .und) :: .v (.one .und) :: .v (.one .und) :: .v (.one .und) :: .v (.one .und) :: .v (.one .und) :: .v (.one .und) :: .v (.one .und) :: .v (.one .und) :: .v (.one .und) :: .v (.one .und) :: .v (.one .und) :: .v (.one .und) :: .v (.one .und) :: .v (.one .und) :: .v (.one .und) :: .v (.one .und) :: .v (.one .und) :: .v (.one .und) :: .v (.one .und) :: .v (.one .und) :: .v (.one .und) :: .v (.one .und) :: .v (.one .und) :: .v (.one .und) :: .v (.one .und) :: .v (.one .und) :: .v (.one .und) :: .v (.one .und) :: .v (.one .und) :: .v (.one .und) :: .v (.one .und) :: .v (.one .und) :: .v (.one .und) :: .v (.one .und) :: .v (.one .und) :: .v (.one .und) :: .v (.one .und) :: .v (.one .und) :: .v (.one .und) :: .v (.one .und) :: .v (.one .und) :: [], []⟩
def x18_1_0_k0  (y0 : ByteArray) : St := ⟨.v (.one .und) :: .v (.one .und) :: .v (.one .und) :: .v (.one .und) :: .v (.one .und) :: .v (.one .und) :: .v (.one .und) :: .v (.one .und) :: .v (.one (.str y0)) :: .v (.one .und) :: .v (.one .und) :: .v (.one .und) :: .v (.one .und) :: .v (.one .und) :: .v (.one .und) :: .v (.one .und) :: .v (.one .und) :: .v (.one .und) :: .v (.one .und) :: .v (.one .und) :: .v (.one .und) :: .v (.one .und) :: .v (.one .und) :: .v (.one .und) :: .v (.one .und) :: .v (.one .und) :: .v (.one .und) :: .v (.one .und) :: .v (.one .und) :: .v (.one .und) :: .v (.one .und) :: .v (.one .und) :: .v (.one .und) :: .v (.one .und) :: .v (.one .und) :: .v (.one .und) :: .v (.one .und) :: .v (.one .und) :: .v (.one .und) :: .v (.one .und) :: .v (.one .und) :: .v (.one .und) :: .v (.one .und) :: .v (.one .und) :: .v (.one .und) :: .v (.one .und) :: .v (.one .und) :: .v (.one .und) :: .v (.one .und) :: .v (.one .und) :: .v (.one .und) :: .v (.one .und) :: .v (.one .und) :: .v (.one .und) :: .v (.one .und) :: .v (.one .und) :: .v (.one .und) :: .v (.one .und) :: .v (.one .und) :: .v (.one .und) :: .v (.one .und) :: .v (.one .und) :: .v (.one .und) :: .v (.one .und) :: .v (.one .und) :: .v (.one .und) :: .v (.one .und) :: .v (.one .und) :: .v (.one .und) :: .v (.one .und) :: .v (.one .und) :: .v (.one .und) :: .v (.one .und) :: .v (.one .und) :: .v (.one .und) :: .v (.one .und) :: .v (.one .und) :: .v (.one .und) :: .v (.one .und) :: .v (.one .und) :: .v (.one .und) :: .v (.one .und) :: .v (.one .und) :: .v (.one .und) :: .v (.one .und) :: .v (.one .und) :: .v (.one .und) :: .v (.one .und) :: .v (.one .und) :: .v (.one .und) :: .v (.one .und) :: .v (.one .und) :: .v (.one .und) :: .v (.one .und) :: .v (.one .und) :: .v (.one .und) :: .v (.one .und) :: .v (.one .und) :: .v (.one .und) :: .v (.one .und) :: .v (.one .und) :: .v (.one .und) :: .v (.one .und) :: .v (.one .und) :: .v (.one .und) :: .v (.one .und) :: .v (.one .und) :: .v (.one .und) :: .v (.one .und) :: .v (.one .und) :: .v (.one .und) :: .v (.one .und) :: .v (.one .und) :: .v (.one .und) :: .v (.one .und) :: .v (.one .und) :: .v (.one .und) :: .v (.one .und) :: .v (.one .und) :: .v (.one .und) :: .v (.one .und) :: .v (.one .und) :: .v (.one .und) :: .v (.one .und) :: .v (.one .und) :: .v (.one .und) :: .v (.one .und) :: .v (.one .und) :: .v (.one .und) :: .v (.one .und) :: .v (.one .und) :: .v (.one .und) :: .v (.one .und) :: .v (.one .und) :: .v (.one .und) :: .v (.one .und) :: .v (.one .und) :: .v (.one .und) :: .v (.one .und) :: .v (.one .und) :: .v (.one .und) :: .v (.one .und) :: .v (.one .und) :: .v (.one .und) :: [], []⟩
def x18_1_0_k1   : St := ⟨.v (.one .und) :: .v (.one .und) :: .v (.one .und) :: .v (.one .und) :: .v (.one .und) :: .v (.one .und) :: .v (.one .und) :: .v (.one .und) :: .v (.one .und) :: .v (.one .und) :: .v (.one .und) :: .v (.one .und) :: .v (.one .und) :: .v (.one .und) :: .v (.one .und) :: .v (.one .und) :: .v (.one .und) :: .v (.one .und) :: .v (.one .und) :: .v (.one .und) :: .v (.one .und) :: .v (.one .und) :: .v (.one .und) :: .v (.one .und) :: .v (.one .und) :: .v (.one .und) :: .v (.one .und) :: .v (.one .und) :: .v (.one .und) :: .v (.one .und) :: .v (.one .und) :: .v (.one .und) :: .v (.one .und) :: .v (.one .und) :: .v (.one .und) :: .v (.one .und) :: .v (.one .und) :: .v (.one .und) :: .v (.one .und) :: .v (.one .und) :: .v (.one .und) :: .v (.one .und) :: .v (.one .und) :: .v (.one .und) :: .v (.one .und) :: .v (.one .und) :: .v (.one .und) :: .v (.one .und) :: .v (.one .und) :: .v (.one .und) :: .v (.one .und) :: .v (.one .und) :: .v (.one .und) :: .v (.one .und) :: .v (.one .und) :: .v (.one .und) :: .v (.one .und) :: .v (.one .und) :: .v (.one .und) :: .v (.one .und) :: .v (.one .und) :: .v (.one .und) :: .v (.one .und) :: .v (.one .und) :: .v (.one .und) :: .v (.one .und) :: .v (.one .und) :: .v (.one .und) :: .v (.one .und) :: .v (.one .und) :: .v (.one .und) :: .v (.one .und) :: .v (.one .und) :: .v (.one .und) :: .v (.one .und) :: .v (.one .und) :: .v (.one .und) :: .v (.one .und) :: .v (.one .und) :: .v (.one .und) :: .v (.one .und) :: .v (.one .und) :: .v (.one .und) :: .v (.one .und) :: .v (.one .und) :: .v (.one .und) :: .v (.one .und) :: .v (.one .und) :: .v (.one .und) :: .v (.one .und) :: .v (.one .und) :: .v (.one .und) :: .v (.one .und) :: .v (.one .und) :: .v (.one .und) :: .v (.one .und) :: .v (.one .und) :: .v (.one .und) :: .v (.one .und) :: .v (.one .und) :: .v (.one .und) :: .v (.one .und) :: .v (.one .und) :: .v (.one .und) :: .v (.one .und) :: .v (.one .und) :: .v (.one .und) :: .v (.one .und) :: .v (.one .und) :: .v (.one .und) :: .v (.one .und) :: .v (.one .und) :: .v (.one .und) :: .v (.one .und) :: .v (.one .und) :: .v (.one .und) :: .v (.one .und) :: .v (.one .und) :: .v (.one .und) :: .v (.one .und) :: .v (.one .und) :: .v (.one .und) :: .v (.one .und) :: .v (.one .und) :: .v (.one .und) :: .v (.one .und) :: .v (.one .und) :: .v (.one .und) :: .v (.one .und) :: .v (.one .und) :: .v (.one .und) :: .v (.one .und) :: .v (.one .und) :: .v (.one .und) :: .v (.one .und) :: .v (.one .und) :: .v (.one .und) :: .v (.one .und) :: .v (.one .und) :: .v (.one .und) :: .v (.one .und) :: .v (.one .und) :: .v (.one .und) :: .v (.one .und) :: [], []⟩
theorem fl18_0_0 (s : St) : refSt (h18_0_0 [] 0 0 0 0) s = h18_0_0 (rInts (rowV (oneA (vT (nx tund s.tmps 0))))) (intS (oneA (vT (nx tund s.tmps 1)))) (intS (oneA (vT (nx tund s.tmps 2)))) (intS (oneA (vT (nx tund s.tmps 3)))) (intS (oneA (vT (nx tund s.tmps 10)))) := by kernel_rfl
def VLS18_0 {β : Type} (N : Nat) (q_spec_l21Build_l0 : (self : List Int → Int → Int → Int → (ByteArray → Option β) → Option β) → Nat → List Int → Int → Int → Int → Int → (ByteArray → Option β) → (List Int → Int → Int → Int → Option β) → Option β) (q_spec_l21Build_f : Nat → List Int → Int → Int → Int → (ByteArray → Option β) → Option β) (G : Nat) : LSpec β := fun s K => cond (shpSt (h18_0_0 [] 0 0 0 0) s) ((fun (v0 : List Int) (v1 : Int) (v2 : Int) (v3 : Int) (v4 : Int) => q_spec_l21Build_l0 (q_spec_l21Build_f G)  N v0 v1 v2 v3 v4 (fun y0 => K .ret (x18_0_0_k0  y0)) (fun y0 y1 y2 y3 => K (.exit 0) (x18_0_0_k1  y0 y1 y2 y3))) (rInts (rowV (oneA (vT (nx tund s.tmps 0))))) (intS (oneA (vT (nx tund s.tmps 1)))) (intS (oneA (vT (nx tund s.tmps 2)))) (intS (oneA (vT (nx tund s.tmps 3)))) (intS (oneA (vT (nx tund s.tmps 10))))) (none)
def LS18_0 {β : Type} (N : Nat) (G : Nat) : LSpec β := VLS18_0 N (spec_l21Build_l0 N) (spec_l21Build_f N) G
theorem fl18_1_0 (s : St) : refSt (h18_1_0 [] 0 0 0 0) s = h18_1_0 (rInts (rowV (oneA (vT (nx tund s.tmps 0))))) (intS (oneA (vT (nx tund s.tmps 1)))) (intS (oneA (vT (nx tund s.tmps 2)))) (intS (oneA (vT (nx tund s.tmps 3)))) (intS (oneA (vT (nx tund s.tmps 11)))) := by kernel_rfl
def VLS18_2 {β : Type} (N : Nat) (q_spec_l21Build_l2 : (self : List Int → Int → Int → Int → (ByteArray → Option β) → Option β) → Nat → List Int → Int → Int → Int → Int → (ByteArray → Option β) → (Option β) → Option β) (q_spec_l21Build_f : Nat → List Int → Int → Int → Int → (ByteArray → Option β) → Option β) (G : Nat) : LSpec β := fun s K => cond (shpSt (h18_1_0 [] 0 0 0 0) s) ((fun (v0 : List Int) (v1 : Int) (v2 : Int) (v3 : Int) (v4 : Int) => q_spec_l21Build_l2 (q_spec_l21Build_f G)  N v0 v1 v2 v3 v4 (fun y0 => K .ret (x18_1_0_k0  y0)) (K (.exit 2) (x18_1_0_k1  ))) (rInts (rowV (oneA (vT (nx tund s.tmps 0))))) (intS (oneA (vT (nx tund s.tmps 1)))) (intS (oneA (vT (nx tund s.tmps 2)))) (intS (oneA (vT (nx tund s.tmps 3)))) (intS (oneA (vT (nx tund s.tmps 11))))) (none)
def LS18_2 {β : Type} (N : Nat) (G : Nat) : LSpec β := VLS18_2 N (spec_l21Build_l2 N) (spec_l21Build_f N) G
def VE18 {β : Type} (N : Nat) (q_spec_l21One : (a0 : List Int) → (a1 : Int) → (a2 : Int) → (k : Int → Option β) → Option β) (q_spec_l21Least_f : Nat → List Int → Int → Int → Int → (Int → Option β) → Option β) (q_spec_l21Hex : (a0 : Int) → (k : ByteArray → Option β) → Option β) (q_spec_l21Build_f : Nat → List Int → Int → Int → Int → (ByteArray → Option β) → Option β) (q_spec_l21Build_l0 : (self : List Int → Int → Int → Int → (ByteArray → Option β) → Option β) → Nat → List Int → Int → Int → Int → Int → (ByteArray → Option β) → (List Int → Int → Int → Int → Option β) → Option β) (q_spec_l21Build_l2 : (self : List Int → Int → Int → Int → (ByteArray → Option β) → Option β) → Nat → List Int → Int → Int → Int → Int → (ByteArray → Option β) → (Option β) → Option β) (G : Nat) : Env β := ⟨[(33, VS33 N q_spec_l21One), (34, VS34 N q_spec_l21Least_f), (35, VS35 N q_spec_l21Hex), (18, VSF18 N q_spec_l21Build_f G)], [], [(0, VLS18_0 N q_spec_l21Build_l0 q_spec_l21Build_f G), (2, VLS18_2 N q_spec_l21Build_l2 q_spec_l21Build_f G)], []⟩
def E18 {β : Type} (N : Nat) (G : Nat) : Env β := VE18 N (spec_l21One N) (spec_l21Least_f N) (spec_l21Hex N) (spec_l21Build_f N) (spec_l21Build_l0 N) (spec_l21Build_l2 N) G
def BV_spec_l21Build_l0b {β : Type} (N : Nat) (q_spec_l21Least_f : Nat → List Int → Int → Int → Int → (Int → Option β) → Option β) (q_spec_l21Hex : (a0 : Int) → (k : ByteArray → Option β) → Option β) (self : List Int → Int → Int → Int → (ByteArray → Option β) → Option β)  (v0 : List Int) (v1 : Int) (v2 : Int) (v3 : Int) (v4 : Int) (rec_ : List Int → Int → Int → Int → Int → Option β) (k0 : ByteArray → Option β) (k1 : List Int → Int → Int → Int → Option β) : Option β :=
(cond ((decide (v4 < v1)))
((cond (((bits .and .i64 v4 v1) == v4))
(q_spec_l21Least_f N v0 v4 v2 ((w64 (v3 - 1))) fun r6 =>
(cond ((decide (r6 < v3)))
(q_spec_l21Least_f N v0 ((w64 (v1 - v4))) v2 ((w64 (v3 - 1))) fun r7 =>
(cond ((decide (r7 < v3)))
(q_spec_l21Hex v4 fun r8 =>
(gd ((decide (((strOf [65])).size + r8.size ≤ 9223372036854775807)))
(q_spec_l21Least_f N v0 ((w64 (v1 - v4))) v2 ((w64 (v3 - 1))) fun r9 =>
self v0 ((w64 (v1 - v4))) v2 r9 fun r10 =>
(gd ((decide ((((strOf [65]) ++ r8)).size + r10.size ≤ 9223372036854775807)))
(q_spec_l21Least_f N v0 v4 v2 ((w64 (v3 - 1))) fun r11 =>
self v0 v4 v2 r11 fun r12 =>
(gd ((decide (((((strOf [65]) ++ r8) ++ r10)).size + r12.size ≤ 9223372036854775807)))
(k0 (((((strOf [65]) ++ r8) ++ r10) ++ r12)))))))))
(rec_ v0 v1 v2 v3 ((w64 (v4 + 1))))))
(rec_ v0 v1 v2 v3 ((w64 (v4 + 1))))))
(rec_ v0 v1 v2 v3 ((w64 (v4 + 1))))))
(k1 v0 v1 v2 v3))
theorem t_spec_l21Build_l0b {β : Type} (N : Nat) (self : List Int → Int → Int → Int → (ByteArray → Option β) → Option β)  (v0 : List Int) (v1 : Int) (v2 : Int) (v3 : Int) (v4 : Int) (rec_ : List Int → Int → Int → Int → Int → Option β) (k0 : ByteArray → Option β) (k1 : List Int → Int → Int → Int → Option β) : spec_l21Build_l0b N self v0 v1 v2 v3 v4 rec_ k0 k1 = BV_spec_l21Build_l0b N (spec_l21Least_f N) (spec_l21Hex N) self v0 v1 v2 v3 v4 rec_ k0 k1 := by
  unfold spec_l21Build_l0b BV_spec_l21Build_l0b
  rfl
theorem vst18_0_0 {β : Type} (N : Nat) (q_spec_l21One : (a0 : List Int) → (a1 : Int) → (a2 : Int) → (k : Int → Option β) → Option β) (q_spec_l21Least_f : Nat → List Int → Int → Int → Int → (Int → Option β) → Option β) (q_spec_l21Hex : (a0 : Int) → (k : ByteArray → Option β) → Option β) (q_spec_l21Build_f : Nat → List Int → Int → Int → Int → (ByteArray → Option β) → Option β) (q_spec_l21Build_l0 : (self : List Int → Int → Int → Int → (ByteArray → Option β) → Option β) → Nat → List Int → Int → Int → Int → Int → (ByteArray → Option β) → (List Int → Int → Int → Int → Option β) → Option β) (q_spec_l21Build_l2 : (self : List Int → Int → Int → Int → (ByteArray → Option β) → Option β) → Nat → List Int → Int → Int → Int → Int → (ByteArray → Option β) → (Option β) → Option β) (G : Nat)  (v0 : List Int) (v1 : Int) (v2 : Int) (v3 : Int) (v4 : Int) (rec_ : St → Option β) (K : Exit → St → Option β) :
    ev lay (VE18 N q_spec_l21One q_spec_l21Least_f q_spec_l21Hex q_spec_l21Build_f q_spec_l21Build_l0 q_spec_l21Build_l2 G) (retMask Tryd.f18) (lp Tryd.f18 0).body (lp Tryd.f18 0).ex ((lp Tryd.f18 0).lv (retMask Tryd.f18)) (h18_0_0  v0 v1 v2 v3 v4) (nextR (fun s' => rec_ (s'.tidy ((lp Tryd.f18 0).lv (retMask Tryd.f18)))) K) = BV_spec_l21Build_l0b N q_spec_l21Least_f q_spec_l21Hex (q_spec_l21Build_f G)  v0 v1 v2 v3 v4 (fun v0 v1 v2 v3 v4 => rec_ (h18_0_0  v0 v1 v2 v3 v4)) (fun y0 => K .ret (x18_0_0_k0  y0)) (fun y0 y1 y2 y3 => K (.exit 0) (x18_0_0_k1  y0 y1 y2 y3)) := by kernel_rfl
theorem st18_0_0 {β : Type} (N : Nat) (G : Nat)  (v0 : List Int) (v1 : Int) (v2 : Int) (v3 : Int) (v4 : Int) (rec_ : St → Option β) (K : Exit → St → Option β) :
    ev lay (E18 N G) (retMask Tryd.f18) (lp Tryd.f18 0).body (lp Tryd.f18 0).ex ((lp Tryd.f18 0).lv (retMask Tryd.f18)) (h18_0_0  v0 v1 v2 v3 v4) (nextR (fun s' => rec_ (s'.tidy ((lp Tryd.f18 0).lv (retMask Tryd.f18)))) K) = spec_l21Build_l0b N (spec_l21Build_f N G)  v0 v1 v2 v3 v4 (fun v0 v1 v2 v3 v4 => rec_ (h18_0_0  v0 v1 v2 v3 v4)) (fun y0 => K .ret (x18_0_0_k0  y0)) (fun y0 y1 y2 y3 => K (.exit 0) (x18_0_0_k1  y0 y1 y2 y3)) := (vst18_0_0 N (spec_l21One N) (spec_l21Least_f N) (spec_l21Hex N) (spec_l21Build_f N) (spec_l21Build_l0 N) (spec_l21Build_l2 N) G v0 v1 v2 v3 v4 rec_ K).trans (t_spec_l21Build_l0b N (spec_l21Build_f N G)  v0 v1 v2 v3 v4 (fun v0 v1 v2 v3 v4 => rec_ (h18_0_0  v0 v1 v2 v3 v4)) (fun y0 => K .ret (x18_0_0_k0  y0)) (fun y0 y1 y2 y3 => K (.exit 0) (x18_0_0_k1  y0 y1 y2 y3))).symm
theorem ro18_0_0 {β : Type} (N : Nat) (G : Nat)  (K : Exit → St → Option β) : ∀ (F : Nat) (v0 : List Int) (v1 : Int) (v2 : Int) (v3 : Int) (v4 : Int), (lp Tryd.f18 0).rounds lay (E18 N G) (retMask Tryd.f18) F (h18_0_0  v0 v1 v2 v3 v4) K = spec_l21Build_l0 N (spec_l21Build_f N G)  F v0 v1 v2 v3 v4 (fun y0 => K .ret (x18_0_0_k0  y0)) (fun y0 y1 y2 y3 => K (.exit 0) (x18_0_0_k1  y0 y1 y2 y3)) := by
  intro F
  induction F with
  | zero => intros; rfl
  | succ F ih =>
    intros
    rw [rounds_next]
    refine (st18_0_0 N G  _ _ _ _ _ (fun s => (lp Tryd.f18 0).rounds lay (E18 N G) (retMask Tryd.f18) F s K) K).trans ?_
    simp only [ih]
    rfl
theorem lk18_0 {β : Type} (N : Nat) (G : Nat) : lookL (E18 (β := β) N G).loops (lp Tryd.f18 0).id = LS18_0 N G := by kernel_rfl
theorem rk18_0 {β : Type} (N : Nat) (G : Nat) : RoundsOK lay (E18 (β := β) N G) (retMask Tryd.f18) (lp Tryd.f18 0) := by
  intro s K r h
  rw [lk18_0] at h
  unfold LS18_0 VLS18_0 at h
  cases hb : shpSt (h18_0_0 [] 0 0 0 0) s with
  | true =>
    rw [hb, cond_true] at h
    exact ⟨N, by rw [← shpSt_ref hb, fl18_0_0 s]; exact (ro18_0_0 N G  K N (rInts (rowV (oneA (vT (nx tund s.tmps 0))))) (intS (oneA (vT (nx tund s.tmps 1)))) (intS (oneA (vT (nx tund s.tmps 2)))) (intS (oneA (vT (nx tund s.tmps 3)))) (intS (oneA (vT (nx tund s.tmps 10))))).trans h⟩
  | false =>
  rw [hb, cond_false] at h
  clear hb
  cases h
def BV_spec_l21Build_l2b {β : Type} (N : Nat) (q_spec_l21Least_f : Nat → List Int → Int → Int → Int → (Int → Option β) → Option β) (q_spec_l21Hex : (a0 : Int) → (k : ByteArray → Option β) → Option β) (self : List Int → Int → Int → Int → (ByteArray → Option β) → Option β)  (v0 : List Int) (v1 : Int) (v2 : Int) (v3 : Int) (v4 : Int) (rec_ : List Int → Int → Int → Int → Int → Option β) (k0 : ByteArray → Option β) (k1 : Option β) : Option β :=
(cond ((decide (v4 < v2)))
((cond (((bits .and .i64 v4 v2) == v4))
(q_spec_l21Least_f N v0 v1 v4 ((w64 (v3 - 1))) fun r15 =>
(cond ((decide (r15 < v3)))
(q_spec_l21Least_f N v0 v1 ((w64 (v2 - v4))) ((w64 (v3 - 1))) fun r16 =>
(cond ((decide (r16 < v3)))
(q_spec_l21Hex v4 fun r17 =>
(gd ((decide (((strOf [66])).size + r17.size ≤ 9223372036854775807)))
(q_spec_l21Least_f N v0 v1 ((w64 (v2 - v4))) ((w64 (v3 - 1))) fun r18 =>
self v0 v1 ((w64 (v2 - v4))) r18 fun r19 =>
(gd ((decide ((((strOf [66]) ++ r17)).size + r19.size ≤ 9223372036854775807)))
(q_spec_l21Least_f N v0 v1 v4 ((w64 (v3 - 1))) fun r20 =>
self v0 v1 v4 r20 fun r21 =>
(gd ((decide (((((strOf [66]) ++ r17) ++ r19)).size + r21.size ≤ 9223372036854775807)))
(k0 (((((strOf [66]) ++ r17) ++ r19) ++ r21)))))))))
(rec_ v0 v1 v2 v3 ((w64 (v4 + 1))))))
(rec_ v0 v1 v2 v3 ((w64 (v4 + 1))))))
(rec_ v0 v1 v2 v3 ((w64 (v4 + 1))))))
(k1 ))
theorem t_spec_l21Build_l2b {β : Type} (N : Nat) (self : List Int → Int → Int → Int → (ByteArray → Option β) → Option β)  (v0 : List Int) (v1 : Int) (v2 : Int) (v3 : Int) (v4 : Int) (rec_ : List Int → Int → Int → Int → Int → Option β) (k0 : ByteArray → Option β) (k1 : Option β) : spec_l21Build_l2b N self v0 v1 v2 v3 v4 rec_ k0 k1 = BV_spec_l21Build_l2b N (spec_l21Least_f N) (spec_l21Hex N) self v0 v1 v2 v3 v4 rec_ k0 k1 := by
  unfold spec_l21Build_l2b BV_spec_l21Build_l2b
  rfl
theorem vst18_1_0 {β : Type} (N : Nat) (q_spec_l21One : (a0 : List Int) → (a1 : Int) → (a2 : Int) → (k : Int → Option β) → Option β) (q_spec_l21Least_f : Nat → List Int → Int → Int → Int → (Int → Option β) → Option β) (q_spec_l21Hex : (a0 : Int) → (k : ByteArray → Option β) → Option β) (q_spec_l21Build_f : Nat → List Int → Int → Int → Int → (ByteArray → Option β) → Option β) (q_spec_l21Build_l0 : (self : List Int → Int → Int → Int → (ByteArray → Option β) → Option β) → Nat → List Int → Int → Int → Int → Int → (ByteArray → Option β) → (List Int → Int → Int → Int → Option β) → Option β) (q_spec_l21Build_l2 : (self : List Int → Int → Int → Int → (ByteArray → Option β) → Option β) → Nat → List Int → Int → Int → Int → Int → (ByteArray → Option β) → (Option β) → Option β) (G : Nat)  (v0 : List Int) (v1 : Int) (v2 : Int) (v3 : Int) (v4 : Int) (rec_ : St → Option β) (K : Exit → St → Option β) :
    ev lay (VE18 N q_spec_l21One q_spec_l21Least_f q_spec_l21Hex q_spec_l21Build_f q_spec_l21Build_l0 q_spec_l21Build_l2 G) (retMask Tryd.f18) (lp Tryd.f18 1).body (lp Tryd.f18 1).ex ((lp Tryd.f18 1).lv (retMask Tryd.f18)) (h18_1_0  v0 v1 v2 v3 v4) (nextR (fun s' => rec_ (s'.tidy ((lp Tryd.f18 1).lv (retMask Tryd.f18)))) K) = BV_spec_l21Build_l2b N q_spec_l21Least_f q_spec_l21Hex (q_spec_l21Build_f G)  v0 v1 v2 v3 v4 (fun v0 v1 v2 v3 v4 => rec_ (h18_1_0  v0 v1 v2 v3 v4)) (fun y0 => K .ret (x18_1_0_k0  y0)) (K (.exit 2) (x18_1_0_k1  )) := by kernel_rfl
theorem st18_1_0 {β : Type} (N : Nat) (G : Nat)  (v0 : List Int) (v1 : Int) (v2 : Int) (v3 : Int) (v4 : Int) (rec_ : St → Option β) (K : Exit → St → Option β) :
    ev lay (E18 N G) (retMask Tryd.f18) (lp Tryd.f18 1).body (lp Tryd.f18 1).ex ((lp Tryd.f18 1).lv (retMask Tryd.f18)) (h18_1_0  v0 v1 v2 v3 v4) (nextR (fun s' => rec_ (s'.tidy ((lp Tryd.f18 1).lv (retMask Tryd.f18)))) K) = spec_l21Build_l2b N (spec_l21Build_f N G)  v0 v1 v2 v3 v4 (fun v0 v1 v2 v3 v4 => rec_ (h18_1_0  v0 v1 v2 v3 v4)) (fun y0 => K .ret (x18_1_0_k0  y0)) (K (.exit 2) (x18_1_0_k1  )) := (vst18_1_0 N (spec_l21One N) (spec_l21Least_f N) (spec_l21Hex N) (spec_l21Build_f N) (spec_l21Build_l0 N) (spec_l21Build_l2 N) G v0 v1 v2 v3 v4 rec_ K).trans (t_spec_l21Build_l2b N (spec_l21Build_f N G)  v0 v1 v2 v3 v4 (fun v0 v1 v2 v3 v4 => rec_ (h18_1_0  v0 v1 v2 v3 v4)) (fun y0 => K .ret (x18_1_0_k0  y0)) (K (.exit 2) (x18_1_0_k1  ))).symm
theorem ro18_1_0 {β : Type} (N : Nat) (G : Nat)  (K : Exit → St → Option β) : ∀ (F : Nat) (v0 : List Int) (v1 : Int) (v2 : Int) (v3 : Int) (v4 : Int), (lp Tryd.f18 1).rounds lay (E18 N G) (retMask Tryd.f18) F (h18_1_0  v0 v1 v2 v3 v4) K = spec_l21Build_l2 N (spec_l21Build_f N G)  F v0 v1 v2 v3 v4 (fun y0 => K .ret (x18_1_0_k0  y0)) (K (.exit 2) (x18_1_0_k1  )) := by
  intro F
  induction F with
  | zero => intros; rfl
  | succ F ih =>
    intros
    rw [rounds_next]
    refine (st18_1_0 N G  _ _ _ _ _ (fun s => (lp Tryd.f18 1).rounds lay (E18 N G) (retMask Tryd.f18) F s K) K).trans ?_
    simp only [ih]
    rfl
theorem lk18_2 {β : Type} (N : Nat) (G : Nat) : lookL (E18 (β := β) N G).loops (lp Tryd.f18 1).id = LS18_2 N G := by kernel_rfl
theorem rk18_2 {β : Type} (N : Nat) (G : Nat) : RoundsOK lay (E18 (β := β) N G) (retMask Tryd.f18) (lp Tryd.f18 1) := by
  intro s K r h
  rw [lk18_2] at h
  unfold LS18_2 VLS18_2 at h
  cases hb : shpSt (h18_1_0 [] 0 0 0 0) s with
  | true =>
    rw [hb, cond_true] at h
    exact ⟨N, by rw [← shpSt_ref hb, fl18_1_0 s]; exact (ro18_1_0 N G  K N (rInts (rowV (oneA (vT (nx tund s.tmps 0))))) (intS (oneA (vT (nx tund s.tmps 1)))) (intS (oneA (vT (nx tund s.tmps 2)))) (intS (oneA (vT (nx tund s.tmps 3)))) (intS (oneA (vT (nx tund s.tmps 11))))).trans h⟩
  | false =>
  rw [hb, cond_false] at h
  clear hb
  cases h
def BV_spec_l21Build_b {β : Type} (N : Nat) (q_spec_l21One : (a0 : List Int) → (a1 : Int) → (a2 : Int) → (k : Int → Option β) → Option β) (q_spec_l21Build_l0 : (self : List Int → Int → Int → Int → (ByteArray → Option β) → Option β) → Nat → List Int → Int → Int → Int → Int → (ByteArray → Option β) → (List Int → Int → Int → Int → Option β) → Option β) (q_spec_l21Build_l2 : (self : List Int → Int → Int → Int → (ByteArray → Option β) → Option β) → Nat → List Int → Int → Int → Int → Int → (ByteArray → Option β) → (Option β) → Option β) (self : List Int → Int → Int → Int → (ByteArray → Option β) → Option β) (a0 : List Int) (a1 : Int) (a2 : Int) (a3 : Int) (k : ByteArray → Option β) : Option β :=
q_spec_l21One a0 a1 a2 fun r5 =>
(cond ((decide (r5 < 2)))
((gd ((decide (0 ≤ (w64 (r5 + 1)))))
((gd ((decide ((w64 (r5 + 1)) ≤ (((strOf [48, 49])).size : Int))))
((gd ((decide (0 ≤ r5)))
((gd ((decide (r5 ≤ (w64 (r5 + 1)))))
(k ((((strOf [48, 49])).extract (Int.toNat r5) (Int.toNat (w64 (r5 + 1))))))))))))))
(q_spec_l21Build_l0 self  N a0 a1 a2 a3 1 (fun e13_0 =>
k e13_0) (fun e14_0 e14_1 e14_2 e14_3 =>
q_spec_l21Build_l2 self  N e14_0 e14_1 e14_2 e14_3 1 (fun e22_0 =>
k e22_0) (k ByteArray.empty))))
theorem t_spec_l21Build_b {β : Type} (N : Nat) (self : List Int → Int → Int → Int → (ByteArray → Option β) → Option β) (a0 : List Int) (a1 : Int) (a2 : Int) (a3 : Int) (k : ByteArray → Option β) : spec_l21Build_b N self a0 a1 a2 a3 k = BV_spec_l21Build_b N (spec_l21One N) (spec_l21Build_l0 N) (spec_l21Build_l2 N) self a0 a1 a2 a3 k := by
  unfold spec_l21Build_b BV_spec_l21Build_b
  rfl
theorem ve18_0 {β : Type} (N : Nat) (q_spec_l21One : (a0 : List Int) → (a1 : Int) → (a2 : Int) → (k : Int → Option β) → Option β) (q_spec_l21Least_f : Nat → List Int → Int → Int → Int → (Int → Option β) → Option β) (q_spec_l21Hex : (a0 : Int) → (k : ByteArray → Option β) → Option β) (q_spec_l21Build_f : Nat → List Int → Int → Int → Int → (ByteArray → Option β) → Option β) (q_spec_l21Build_l0 : (self : List Int → Int → Int → Int → (ByteArray → Option β) → Option β) → Nat → List Int → Int → Int → Int → Int → (ByteArray → Option β) → (List Int → Int → Int → Int → Option β) → Option β) (q_spec_l21Build_l2 : (self : List Int → Int → Int → Int → (ByteArray → Option β) → Option β) → Nat → List Int → Int → Int → Int → Int → (ByteArray → Option β) → (Option β) → Option β) (G : Nat)  (a0 : List Int) (a1 : Int) (a2 : Int) (a3 : Int) (K : TV → Option β) : evFn lay (VE18 N q_spec_l21One q_spec_l21Least_f q_spec_l21Hex q_spec_l21Build_f q_spec_l21Build_l0 q_spec_l21Build_l2 G) Tryd.f18 [.v (.one (.sl 3 (.ints .i64 a0))), .v (.one (.int .i64 a1)), .v (.one (.int .i64 a2)), .v (.one (.int .i64 a3))] K = BV_spec_l21Build_b N q_spec_l21One q_spec_l21Build_l0 q_spec_l21Build_l2 (q_spec_l21Build_f G) a0 a1 a2 a3 (fun z4 => K (.v (.one (.str z4)))) := by kernel_rfl
theorem e18_0 {β : Type} (N : Nat) (G : Nat)  (a0 : List Int) (a1 : Int) (a2 : Int) (a3 : Int) (K : TV → Option β) : evFn lay (E18 N G) Tryd.f18 [.v (.one (.sl 3 (.ints .i64 a0))), .v (.one (.int .i64 a1)), .v (.one (.int .i64 a2)), .v (.one (.int .i64 a3))] K = spec_l21Build_f N (G + 1) a0 a1 a2 a3 (fun z4 => K (.v (.one (.str z4)))) := (ve18_0 N (spec_l21One N) (spec_l21Least_f N) (spec_l21Hex N) (spec_l21Build_f N) (spec_l21Build_l0 N) (spec_l21Build_l2 N) G a0 a1 a2 a3 K).trans (t_spec_l21Build_b N (spec_l21Build_f N G) a0 a1 a2 a3 (fun z4 => K (.v (.one (.str z4))))).symm
theorem z18 {β : Type} (N : Nat) : ∀ args K r, SF18 (β := β) N 0 args K = some r → (none : Option β) = some r := by
  intro args K r h
  unfold SF18 VSF18 at h
  split at h <;> exact h
theorem of18 {β : Type} (N : Nat) : ∀ G, SpecOK (β := β) Tryd.prog 18 (SF18 N G) := by
  intro G
  induction G with
  | zero => exact s_zero Tryd.func18 (by kernel_rfl) (z18 N)
  | succ G ih =>
    refine spec_of lay_ok mixed (E := E18 N G) (specs_loops (specs_cons (o33 N) (specs_cons (o34 N) (specs_cons (o35 N) (specs_cons ih specs_nil))))) muts_nil gs_nil Tryd.func18 (by kernel_rfl) 2 (by kernel_rfl) ⟨⟨trivial, rk18_0 N G⟩, rk18_2 N G⟩ fun args K r h => ?_
    unfold SF18 VSF18 at h
    split at h
    · exact (e18_0 N G _ _ _ _ _).trans h
    · cases h
theorem o18 {β : Type} (N : Nat) : SpecOK (β := β) Tryd.prog 18 (S18 N) := of18 N N
def VS6 {β : Type} (N : Nat) (q_spec_ProtocolOf : (a0 : Int) → (a1 : Int) → (a2 : Int) → (k : ByteArray → Bool → Option β) → Option β) : Rv.Spec β := fun args K => match args with
  | [.v (.agg [.int .i64 a0, .int .i64 a1]), .v (.one (.int .i64 a2))] => q_spec_ProtocolOf a0 a1 a2 (fun z3 z4 => K (.tup [.one (.str z3), .one (.bool z4)]))
  | _ => none
def S6 {β : Type} (N : Nat) : Rv.Spec β := VS6 N (spec_ProtocolOf N)
def VE6 {β : Type} (N : Nat) (q_spec_l21Fine : (a0 : Int) → (a1 : Int) → (a2 : Int) → (k : Bool → Option β) → Option β) (q_spec_MatrixOf : (a0 : Int) → (a1 : Int) → (a2 : Int) → (k : List Int → Bool → Option β) → Option β) (q_spec_LeastBits : (a0 : Int) → (a1 : Int) → (a2 : Int) → (k : Int → Option β) → Option β) (q_spec_l21Build_f : Nat → List Int → Int → Int → Int → (ByteArray → Option β) → Option β) : Env β := ⟨[(16, VS16 N q_spec_l21Fine), (17, VS17 N q_spec_MatrixOf), (19, VS19 N q_spec_LeastBits), (18, VS18 N q_spec_l21Build_f)], [], [], []⟩
def E6 {β : Type} (N : Nat) : Env β := VE6 N (spec_l21Fine N) (spec_MatrixOf N) (spec_LeastBits N) (spec_l21Build_f N)
def BV_spec_ProtocolOf {β : Type} (N : Nat) (q_spec_l21Fine : (a0 : Int) → (a1 : Int) → (a2 : Int) → (k : Bool → Option β) → Option β) (q_spec_MatrixOf : (a0 : Int) → (a1 : Int) → (a2 : Int) → (k : List Int → Bool → Option β) → Option β) (q_spec_LeastBits : (a0 : Int) → (a1 : Int) → (a2 : Int) → (k : Int → Option β) → Option β) (q_spec_l21Build_f : Nat → List Int → Int → Int → Int → (ByteArray → Option β) → Option β) (a0 : Int) (a1 : Int) (a2 : Int) (k : ByteArray → Bool → Option β) : Option β :=
q_spec_l21Fine a0 a1 a2 fun r5 =>
(cond (!r5)
(k ByteArray.empty false)
(q_spec_MatrixOf a0 a1 a2 fun r6 r7 =>
(gd ((decide (0 ≤ (r6.length : Int))))
((gd ((decide (0 ≤ (w64 (a0 - a2)))))
((gd ((decide (0 ≤ (shlI .u64 1 (w64 (a0 - a2))))))
(q_spec_LeastBits a0 a1 a2 fun r8 =>
q_spec_l21Build_f N r6 ((w64 ((shlI .i64 1 (r6.length : Int)) - 1))) ((w64 ((shlI .i64 1 (shlI .u64 1 (w64 (a0 - a2)))) - 1))) r8 fun r9 =>
k r9 true))))))))
theorem t_spec_ProtocolOf {β : Type} (N : Nat) (a0 : Int) (a1 : Int) (a2 : Int) (k : ByteArray → Bool → Option β) : spec_ProtocolOf N a0 a1 a2 k = BV_spec_ProtocolOf N (spec_l21Fine N) (spec_MatrixOf N) (spec_LeastBits N) (spec_l21Build_f N) a0 a1 a2 k := by
  unfold spec_ProtocolOf BV_spec_ProtocolOf
  rfl
theorem ve6_0 {β : Type} (N : Nat) (q_spec_l21Fine : (a0 : Int) → (a1 : Int) → (a2 : Int) → (k : Bool → Option β) → Option β) (q_spec_MatrixOf : (a0 : Int) → (a1 : Int) → (a2 : Int) → (k : List Int → Bool → Option β) → Option β) (q_spec_LeastBits : (a0 : Int) → (a1 : Int) → (a2 : Int) → (k : Int → Option β) → Option β) (q_spec_l21Build_f : Nat → List Int → Int → Int → Int → (ByteArray → Option β) → Option β)  (a0 : Int) (a1 : Int) (a2 : Int) (K : TV → Option β) : evFn lay (VE6 N q_spec_l21Fine q_spec_MatrixOf q_spec_LeastBits q_spec_l21Build_f) Tryd.f6 [.v (.agg [.int .i64 a0, .int .i64 a1]), .v (.one (.int .i64 a2))] K = BV_spec_ProtocolOf N q_spec_l21Fine q_spec_MatrixOf q_spec_LeastBits q_spec_l21Build_f a0 a1 a2 (fun z3 z4 => K (.tup [.one (.str z3), .one (.bool z4)])) := by kernel_rfl
theorem e6_0 {β : Type} (N : Nat)  (a0 : Int) (a1 : Int) (a2 : Int) (K : TV → Option β) : evFn lay (E6 N) Tryd.f6 [.v (.agg [.int .i64 a0, .int .i64 a1]), .v (.one (.int .i64 a2))] K = spec_ProtocolOf N a0 a1 a2 (fun z3 z4 => K (.tup [.one (.str z3), .one (.bool z4)])) := (ve6_0 N (spec_l21Fine N) (spec_MatrixOf N) (spec_LeastBits N) (spec_l21Build_f N) a0 a1 a2 K).trans (t_spec_ProtocolOf N a0 a1 a2 (fun z3 z4 => K (.tup [.one (.str z3), .one (.bool z4)]))).symm
theorem o6 {β : Type} (N : Nat) : SpecOK (β := β) Tryd.prog 6 (S6 N) := by
  refine spec_of lay_ok mixed (E := E6 N) (specs_loops (specs_cons (o16 N) (specs_cons (o17 N) (specs_cons (o19 N) (specs_cons (o18 N) specs_nil))))) muts_nil gs_nil Tryd.func6 (by kernel_rfl) 0 (by kernel_rfl) trivial fun args K r h => ?_
  unfold S6 VS6 at h
  split at h
  · exact (e6_0 N _ _ _ _).trans h
  · cases h
def VS61 {β : Type} (N : Nat) (q_impl_isBits : (a0 : Int) → (k : Bool → Option β) → Option β) : Rv.Spec β := fun args K => match args with
  | [.v (.one (.int .i64 a0))] => q_impl_isBits a0 (fun z1 => K (.v (.one (.bool z1))))
  | _ => none
def S61 {β : Type} (N : Nat) : Rv.Spec β := VS61 N (impl_isBits N)
def VE61 {β : Type} (N : Nat) : Env β := ⟨[], [], [], []⟩
def E61 {β : Type} (N : Nat) : Env β := VE61 N
def BV_impl_isBits {β : Type} (N : Nat) (a0 : Int) (k : Bool → Option β) : Option β :=
(cond ((decide (a0 ≥ 0)))
(k ((decide (a0 ≤ 5))))
(k false))
theorem t_impl_isBits {β : Type} (N : Nat) (a0 : Int) (k : Bool → Option β) : impl_isBits N a0 k = BV_impl_isBits N a0 k := by
  unfold impl_isBits BV_impl_isBits
  rfl
theorem ve61_0 {β : Type} (N : Nat)  (a0 : Int) (K : TV → Option β) : evFn lay (VE61 N) Tryd.f61 [.v (.one (.int .i64 a0))] K = BV_impl_isBits N a0 (fun z1 => K (.v (.one (.bool z1)))) := by kernel_rfl
theorem e61_0 {β : Type} (N : Nat)  (a0 : Int) (K : TV → Option β) : evFn lay (E61 N) Tryd.f61 [.v (.one (.int .i64 a0))] K = impl_isBits N a0 (fun z1 => K (.v (.one (.bool z1)))) := (ve61_0 N a0 K).trans (t_impl_isBits N a0 (fun z1 => K (.v (.one (.bool z1))))).symm
theorem o61 {β : Type} (N : Nat) : SpecOK (β := β) Tryd.prog 61 (S61 N) := by
  refine spec_of lay_ok mixed (E := E61 N) (specs_loops specs_nil) muts_nil gs_nil Tryd.func61 (by kernel_rfl) 0 (by kernel_rfl) trivial fun args K r h => ?_
  unfold S61 VS61 at h
  split at h
  · exact (e61_0 N _ _).trans h
  · cases h
def VS50 {β : Type} (N : Nat) (q_impl_Table_size : (a0 : Int) → (a1 : Int) → (k : Int → Option β) → Option β) : Rv.Spec β := fun args K => match args with
  | [.v (.agg [.int .i64 a0, .int .i64 a1])] => q_impl_Table_size a0 a1 (fun z2 => K (.v (.one (.int .i64 z2))))
  | _ => none
def S50 {β : Type} (N : Nat) : Rv.Spec β := VS50 N (impl_Table_size N)
def VE50 {β : Type} (N : Nat) : Env β := ⟨[], [], [], []⟩
def E50 {β : Type} (N : Nat) : Env β := VE50 N
def BV_impl_Table_size {β : Type} (N : Nat) (a0 : Int) (a1 : Int) (k : Int → Option β) : Option β :=
(gd ((decide (0 ≤ a0)))
(k ((shlI .i64 1 a0))))
theorem t_impl_Table_size {β : Type} (N : Nat) (a0 : Int) (a1 : Int) (k : Int → Option β) : impl_Table_size N a0 a1 k = BV_impl_Table_size N a0 a1 k := by
  unfold impl_Table_size BV_impl_Table_size
  rfl
theorem ve50_0 {β : Type} (N : Nat)  (a0 : Int) (a1 : Int) (K : TV → Option β) : evFn lay (VE50 N) Tryd.f50 [.v (.agg [.int .i64 a0, .int .i64 a1])] K = BV_impl_Table_size N a0 a1 (fun z2 => K (.v (.one (.int .i64 z2)))) := by kernel_rfl
theorem e50_0 {β : Type} (N : Nat)  (a0 : Int) (a1 : Int) (K : TV → Option β) : evFn lay (E50 N) Tryd.f50 [.v (.agg [.int .i64 a0, .int .i64 a1])] K = impl_Table_size N a0 a1 (fun z2 => K (.v (.one (.int .i64 z2)))) := (ve50_0 N a0 a1 K).trans (t_impl_Table_size N a0 a1 (fun z2 => K (.v (.one (.int .i64 z2))))).symm
theorem o50 {β : Type} (N : Nat) : SpecOK (β := β) Tryd.prog 50 (S50 N) := by
  refine spec_of lay_ok mixed (E := E50 N) (specs_loops specs_nil) muts_nil gs_nil Tryd.func50 (by kernel_rfl) 0 (by kernel_rfl) trivial fun args K r h => ?_
  unfold S50 VS50 at h
  split at h
  · exact (e50_0 N _ _ _).trans h
  · cases h
def VS49 {β : Type} (N : Nat) (q_impl_IsTable : (a0 : Int) → (a1 : Int) → (k : Bool → Option β) → Option β) : Rv.Spec β := fun args K => match args with
  | [.v (.agg [.int .i64 a0, .int .i64 a1])] => q_impl_IsTable a0 a1 (fun z2 => K (.v (.one (.bool z2))))
  | _ => none
def S49 {β : Type} (N : Nat) : Rv.Spec β := VS49 N (impl_IsTable N)
def VE49 {β : Type} (N : Nat) (q_impl_isBits : (a0 : Int) → (k : Bool → Option β) → Option β) (q_impl_Table_size : (a0 : Int) → (a1 : Int) → (k : Int → Option β) → Option β) : Env β := ⟨[(61, VS61 N q_impl_isBits), (50, VS50 N q_impl_Table_size)], [], [], []⟩
def E49 {β : Type} (N : Nat) : Env β := VE49 N (impl_isBits N) (impl_Table_size N)
def BV_impl_IsTable {β : Type} (N : Nat) (q_impl_isBits : (a0 : Int) → (k : Bool → Option β) → Option β) (q_impl_Table_size : (a0 : Int) → (a1 : Int) → (k : Int → Option β) → Option β) (a0 : Int) (a1 : Int) (k : Bool → Option β) : Option β :=
q_impl_isBits a0 fun r3 =>
(cond r3
((cond ((decide (a1 ≥ 0)))
(q_impl_Table_size a0 a1 fun r4 =>
(gd ((decide (0 ≤ r4)))
(k (((shrI .i64 a1 r4) == 0)))))
(k false)))
(k false))
theorem t_impl_IsTable {β : Type} (N : Nat) (a0 : Int) (a1 : Int) (k : Bool → Option β) : impl_IsTable N a0 a1 k = BV_impl_IsTable N (impl_isBits N) (impl_Table_size N) a0 a1 k := by
  unfold impl_IsTable BV_impl_IsTable
  rfl
theorem ve49_0 {β : Type} (N : Nat) (q_impl_isBits : (a0 : Int) → (k : Bool → Option β) → Option β) (q_impl_Table_size : (a0 : Int) → (a1 : Int) → (k : Int → Option β) → Option β)  (a0 : Int) (a1 : Int) (K : TV → Option β) : evFn lay (VE49 N q_impl_isBits q_impl_Table_size) Tryd.f49 [.v (.agg [.int .i64 a0, .int .i64 a1])] K = BV_impl_IsTable N q_impl_isBits q_impl_Table_size a0 a1 (fun z2 => K (.v (.one (.bool z2)))) := by kernel_rfl
theorem e49_0 {β : Type} (N : Nat)  (a0 : Int) (a1 : Int) (K : TV → Option β) : evFn lay (E49 N) Tryd.f49 [.v (.agg [.int .i64 a0, .int .i64 a1])] K = impl_IsTable N a0 a1 (fun z2 => K (.v (.one (.bool z2)))) := (ve49_0 N (impl_isBits N) (impl_Table_size N) a0 a1 K).trans (t_impl_IsTable N a0 a1 (fun z2 => K (.v (.one (.bool z2))))).symm
theorem o49 {β : Type} (N : Nat) : SpecOK (β := β) Tryd.prog 49 (S49 N) := by
  refine spec_of lay_ok mixed (E := E49 N) (specs_loops (specs_cons (o61 N) (specs_cons (o50 N) specs_nil))) muts_nil gs_nil Tryd.func49 (by kernel_rfl) 0 (by kernel_rfl) trivial fun args K r h => ?_
  unfold S49 VS49 at h
  split at h
  · exact (e49_0 N _ _ _).trans h
  · cases h
def VS36 {β : Type} (N : Nat) (q_impl_isSplit : (a0 : Int) → (a1 : Int) → (a2 : Int) → (k : Bool → Option β) → Option β) : Rv.Spec β := fun args K => match args with
  | [.v (.agg [.int .i64 a0, .int .i64 a1]), .v (.one (.int .i64 a2))] => q_impl_isSplit a0 a1 a2 (fun z3 => K (.v (.one (.bool z3))))
  | _ => none
def S36 {β : Type} (N : Nat) : Rv.Spec β := VS36 N (impl_isSplit N)
def VE36 {β : Type} (N : Nat) (q_impl_IsTable : (a0 : Int) → (a1 : Int) → (k : Bool → Option β) → Option β) : Env β := ⟨[(49, VS49 N q_impl_IsTable)], [], [], []⟩
def E36 {β : Type} (N : Nat) : Env β := VE36 N (impl_IsTable N)
def BV_impl_isSplit {β : Type} (N : Nat) (q_impl_IsTable : (a0 : Int) → (a1 : Int) → (k : Bool → Option β) → Option β) (a0 : Int) (a1 : Int) (a2 : Int) (k : Bool → Option β) : Option β :=
q_impl_IsTable a0 a1 fun r4 =>
(cond r4
((cond ((decide (a2 ≥ 0)))
(k ((decide (a2 ≤ a0))))
(k false)))
(k false))
theorem t_impl_isSplit {β : Type} (N : Nat) (a0 : Int) (a1 : Int) (a2 : Int) (k : Bool → Option β) : impl_isSplit N a0 a1 a2 k = BV_impl_isSplit N (impl_IsTable N) a0 a1 a2 k := by
  unfold impl_isSplit BV_impl_isSplit
  rfl
theorem ve36_0 {β : Type} (N : Nat) (q_impl_IsTable : (a0 : Int) → (a1 : Int) → (k : Bool → Option β) → Option β)  (a0 : Int) (a1 : Int) (a2 : Int) (K : TV → Option β) : evFn lay (VE36 N q_impl_IsTable) Tryd.f36 [.v (.agg [.int .i64 a0, .int .i64 a1]), .v (.one (.int .i64 a2))] K = BV_impl_isSplit N q_impl_IsTable a0 a1 a2 (fun z3 => K (.v (.one (.bool z3)))) := by kernel_rfl
theorem e36_0 {β : Type} (N : Nat)  (a0 : Int) (a1 : Int) (a2 : Int) (K : TV → Option β) : evFn lay (E36 N) Tryd.f36 [.v (.agg [.int .i64 a0, .int .i64 a1]), .v (.one (.int .i64 a2))] K = impl_isSplit N a0 a1 a2 (fun z3 => K (.v (.one (.bool z3)))) := (ve36_0 N (impl_IsTable N) a0 a1 a2 K).trans (t_impl_isSplit N a0 a1 a2 (fun z3 => K (.v (.one (.bool z3))))).symm
theorem o36 {β : Type} (N : Nat) : SpecOK (β := β) Tryd.prog 36 (S36 N) := by
  refine spec_of lay_ok mixed (E := E36 N) (specs_loops (specs_cons (o49 N) specs_nil)) muts_nil gs_nil Tryd.func36 (by kernel_rfl) 0 (by kernel_rfl) trivial fun args K r h => ?_
  unfold S36 VS36 at h
  split at h
  · exact (e36_0 N _ _ _ _).trans h
  · cases h
def VS20 {β : Type} (N : Nat) (q_impl_Table_talking_g0 : (a0 : Int) → (a1 : Int) → (a2 : Int) → (k0 : Int → Int → Option β) → (k1 : Int → Int → Int → Int → Int → Mp → Option β) → Option β) : GSpec β := fun args bl K => match args, bl with
  | [.v (.agg [.int .i64 a0, .int .i64 a1]), .v (.one (.int .i64 a2))], [] => q_impl_Table_talking_g0 a0 a1 a2 (fun y0 y1 => K (.tup [.one (.und), .agg [.int .i64 y0, .int .i64 y1], .one (.bool false)]) []) (fun y0 y1 y3 y4 y5 y6 => K (.tup [.one (.ptr 0 0), .agg [.int .i64 y0, .int .i64 y1], .one (.bool true)]) [.cells 62 [.int .i64 y3, .int .i64 y4, .int .i64 y5, .mp 1], .mp ⟨true, false⟩ y6])
  | _, _ => none
def S20 {β : Type} (N : Nat) : GSpec β := VS20 N (impl_Table_talking_g0 N)
def VE20 {β : Type} (N : Nat) (q_impl_isSplit : (a0 : Int) → (a1 : Int) → (a2 : Int) → (k : Bool → Option β) → Option β) : Env β := ⟨[(36, VS36 N q_impl_isSplit)], [], [], []⟩
def E20 {β : Type} (N : Nat) : Env β := VE20 N (impl_isSplit N)
def BV_impl_Table_talking_g0 {β : Type} (N : Nat) (q_impl_isSplit : (a0 : Int) → (a1 : Int) → (a2 : Int) → (k : Bool → Option β) → Option β) (a0 : Int) (a1 : Int) (a2 : Int) (k0 : Int → Int → Option β) (k1 : Int → Int → Int → Int → Int → Mp → Option β) : Option β :=
q_impl_isSplit a0 a1 a2 fun r5 =>
(cond (!r5)
(k0 0 0)
((cond ((decide (a2 > 2)))
(k0 0 0)
((cond ((decide ((w64 (a0 - a2)) > 2)))
(k0 0 0)
((gd ((decide (0 ≤ a2)))
((gd ((decide (0 ≤ (shlI .u64 1 a2))))
((gd ((decide (0 ≤ (w64 (a0 - a2)))))
((gd ((decide (0 ≤ (shlI .u64 1 (w64 (a0 - a2))))))
(k1 ((w64 ((shlI .i64 1 (shlI .u64 1 a2)) - 1))) ((w64 ((shlI .i64 1 (shlI .u64 1 (w64 (a0 - a2)))) - 1))) a0 a1 a2 (([] : Mp))))))))))))))))
theorem t_impl_Table_talking_g0 {β : Type} (N : Nat) (a0 : Int) (a1 : Int) (a2 : Int) (k0 : Int → Int → Option β) (k1 : Int → Int → Int → Int → Int → Mp → Option β) : impl_Table_talking_g0 N a0 a1 a2 k0 k1 = BV_impl_Table_talking_g0 N (impl_isSplit N) a0 a1 a2 k0 k1 := by
  unfold impl_Table_talking_g0 BV_impl_Table_talking_g0
  rfl
theorem ve20_0 {β : Type} (N : Nat) (q_impl_isSplit : (a0 : Int) → (a1 : Int) → (a2 : Int) → (k : Bool → Option β) → Option β) (a0 : Int) (a1 : Int) (a2 : Int) (K : TV → List Blk → Option β) : evFnG lay (VE20 N q_impl_isSplit) Tryd.f20 [.v (.agg [.int .i64 a0, .int .i64 a1]), .v (.one (.int .i64 a2))] [] K = BV_impl_Table_talking_g0 N q_impl_isSplit a0 a1 a2 (fun y0 y1 => K (.tup [.one (.und), .agg [.int .i64 y0, .int .i64 y1], .one (.bool false)]) []) (fun y0 y1 y3 y4 y5 y6 => K (.tup [.one (.ptr 0 0), .agg [.int .i64 y0, .int .i64 y1], .one (.bool true)]) [.cells 62 [.int .i64 y3, .int .i64 y4, .int .i64 y5, .mp 1], .mp ⟨true, false⟩ y6]) := by kernel_rfl
theorem e20_0 {β : Type} (N : Nat) (a0 : Int) (a1 : Int) (a2 : Int) (K : TV → List Blk → Option β) : evFnG lay (E20 N) Tryd.f20 [.v (.agg [.int .i64 a0, .int .i64 a1]), .v (.one (.int .i64 a2))] [] K = impl_Table_talking_g0 N a0 a1 a2 (fun y0 y1 => K (.tup [.one (.und), .agg [.int .i64 y0, .int .i64 y1], .one (.bool false)]) []) (fun y0 y1 y3 y4 y5 y6 => K (.tup [.one (.ptr 0 0), .agg [.int .i64 y0, .int .i64 y1], .one (.bool true)]) [.cells 62 [.int .i64 y3, .int .i64 y4, .int .i64 y5, .mp 1], .mp ⟨true, false⟩ y6]) := (ve20_0 N (impl_isSplit N) a0 a1 a2 K).trans (t_impl_Table_talking_g0 N a0 a1 a2 (fun y0 y1 => K (.tup [.one (.und), .agg [.int .i64 y0, .int .i64 y1], .one (.bool false)]) []) (fun y0 y1 y3 y4 y5 y6 => K (.tup [.one (.ptr 0 0), .agg [.int .i64 y0, .int .i64 y1], .one (.bool true)]) [.cells 62 [.int .i64 y3, .int .i64 y4, .int .i64 y5, .mp 1], .mp ⟨true, false⟩ y6])).symm
theorem o20 {β : Type} (N : Nat) : GOK (β := β) Tryd.prog 20 (S20 N) := by
  refine g_of lay_ok mixed (E := E20 N) (specs_loops (specs_cons (o36 N) specs_nil)) muts_nil gs_nil Tryd.func20 (by kernel_rfl) 0 (by kernel_rfl) trivial fun args bl K r h => ?_
  unfold S20 VS20 at h
  split at h
  · exact (e20_0 N _ _ _ _).trans h
  · cases h
def VS68 {β : Type} (N : Nat) (q_internal_strconv_small : (a0 : Int) → (k : ByteArray → Option β) → Option β) : Rv.Spec β := fun args K => match args with
  | [.v (.one (.int .i64 a0))] => q_internal_strconv_small a0 (fun z1 => K (.v (.one (.str z1))))
  | _ => none
def S68 {β : Type} (N : Nat) : Rv.Spec β := VS68 N (internal_strconv_small N)
def VE68 {β : Type} (N : Nat) : Env β := ⟨[], [], [], []⟩
def E68 {β : Type} (N : Nat) : Env β := VE68 N
def BV_internal_strconv_small {β : Type} (N : Nat) (a0 : Int) (k : ByteArray → Option β) : Option β :=
(cond ((decide (a0 < 10)))
((gd ((decide (0 ≤ (w64 (a0 + 1)))))
((gd ((decide ((w64 (a0 + 1)) ≤ (((strOf [48, 49, 50, 51, 52, 53, 54, 55, 56, 57, 97, 98, 99, 100, 101, 102, 103, 104, 105, 106, 107, 108, 109, 110, 111, 112, 113, 114, 115, 116, 117, 118, 119, 120, 121, 122])).size : Int))))
((gd ((decide (0 ≤ a0)))
((gd ((decide (a0 ≤ (w64 (a0 + 1)))))
(k ((((strOf [48, 49, 50, 51, 52, 53, 54, 55, 56, 57, 97, 98, 99, 100, 101, 102, 103, 104, 105, 106, 107, 108, 109, 110, 111, 112, 113, 114, 115, 116, 117, 118, 119, 120, 121, 122])).extract (Int.toNat a0) (Int.toNat (w64 (a0 + 1))))))))))))))
((gd ((decide (0 ≤ (w64 ((w64 (a0 * 2)) + 2)))))
((gd ((decide ((w64 ((w64 (a0 * 2)) + 2)) ≤ (((strOf [48, 48, 48, 49, 48, 50, 48, 51, 48, 52, 48, 53, 48, 54, 48, 55, 48, 56, 48, 57, 49, 48, 49, 49, 49, 50, 49, 51, 49, 52, 49, 53, 49, 54, 49, 55, 49, 56, 49, 57, 50, 48, 50, 49, 50, 50, 50, 51, 50, 52, 50, 53, 50, 54, 50, 55, 50, 56, 50, 57, 51, 48, 51, 49, 51, 50, 51, 51, 51, 52, 51, 53, 51, 54, 51, 55, 51, 56, 51, 57, 52, 48, 52, 49, 52, 50, 52, 51, 52, 52, 52, 53, 52, 54, 52, 55, 52, 56, 52, 57, 53, 48, 53, 49, 53, 50, 53, 51, 53, 52, 53, 53, 53, 54, 53, 55, 53, 56, 53, 57, 54, 48, 54, 49, 54, 50, 54, 51, 54, 52, 54, 53, 54, 54, 54, 55, 54, 56, 54, 57, 55, 48, 55, 49, 55, 50, 55, 51, 55, 52, 55, 53, 55, 54, 55, 55, 55, 56, 55, 57, 56, 48, 56, 49, 56, 50, 56, 51, 56, 52, 56, 53, 56, 54, 56, 55, 56, 56, 56, 57, 57, 48, 57, 49, 57, 50, 57, 51, 57, 52, 57, 53, 57, 54, 57, 55, 57, 56, 57, 57])).size : Int))))
((gd ((decide (0 ≤ (w64 (a0 * 2)))))
((gd ((decide ((w64 (a0 * 2)) ≤ (w64 ((w64 (a0 * 2)) + 2)))))
(k ((((strOf [48, 48, 48, 49, 48, 50, 48, 51, 48, 52, 48, 53, 48, 54, 48, 55, 48, 56, 48, 57, 49, 48, 49, 49, 49, 50, 49, 51, 49, 52, 49, 53, 49, 54, 49, 55, 49, 56, 49, 57, 50, 48, 50, 49, 50, 50, 50, 51, 50, 52, 50, 53, 50, 54, 50, 55, 50, 56, 50, 57, 51, 48, 51, 49, 51, 50, 51, 51, 51, 52, 51, 53, 51, 54, 51, 55, 51, 56, 51, 57, 52, 48, 52, 49, 52, 50, 52, 51, 52, 52, 52, 53, 52, 54, 52, 55, 52, 56, 52, 57, 53, 48, 53, 49, 53, 50, 53, 51, 53, 52, 53, 53, 53, 54, 53, 55, 53, 56, 53, 57, 54, 48, 54, 49, 54, 50, 54, 51, 54, 52, 54, 53, 54, 54, 54, 55, 54, 56, 54, 57, 55, 48, 55, 49, 55, 50, 55, 51, 55, 52, 55, 53, 55, 54, 55, 55, 55, 56, 55, 57, 56, 48, 56, 49, 56, 50, 56, 51, 56, 52, 56, 53, 56, 54, 56, 55, 56, 56, 56, 57, 57, 48, 57, 49, 57, 50, 57, 51, 57, 52, 57, 53, 57, 54, 57, 55, 57, 56, 57, 57])).extract (Int.toNat (w64 (a0 * 2))) (Int.toNat (w64 ((w64 (a0 * 2)) + 2)))))))))))))))
theorem t_internal_strconv_small {β : Type} (N : Nat) (a0 : Int) (k : ByteArray → Option β) : internal_strconv_small N a0 k = BV_internal_strconv_small N a0 k := by
  unfold internal_strconv_small BV_internal_strconv_small
  rfl
theorem ve68_0 {β : Type} (N : Nat)  (a0 : Int) (K : TV → Option β) : evFn lay (VE68 N) Tryd.f68 [.v (.one (.int .i64 a0))] K = BV_internal_strconv_small N a0 (fun z1 => K (.v (.one (.str z1)))) := by kernel_rfl
theorem e68_0 {β : Type} (N : Nat)  (a0 : Int) (K : TV → Option β) : evFn lay (E68 N) Tryd.f68 [.v (.one (.int .i64 a0))] K = internal_strconv_small N a0 (fun z1 => K (.v (.one (.str z1)))) := (ve68_0 N a0 K).trans (t_internal_strconv_small N a0 (fun z1 => K (.v (.one (.str z1))))).symm
theorem o68 {β : Type} (N : Nat) : SpecOK (β := β) Tryd.prog 68 (S68 N) := by
  refine spec_of lay_ok mixed (E := E68 N) (specs_loops specs_nil) muts_nil gs_nil Tryd.func68 (by kernel_rfl) 0 (by kernel_rfl) trivial fun args K r h => ?_
  unfold S68 VS68 at h
  split at h
  · exact (e68_0 N _ _).trans h
  · cases h
def VS71 {β : Type} (N : Nat) (q_internal_strconv_formatBits : (a0 : List Int) → (a1 : Int) → (a2 : Int) → (a3 : Bool) → (a4 : Bool) → (k : List Int → ByteArray → Option β) → Option β) : Rv.Spec β := fun args K => match args with
  | [.v (.one (.sl 5 (.ints .u8 a0))), .v (.one (.int .u64 a1)), .v (.one (.int .i64 a2)), .v (.one (.bool a3)), .v (.one (.bool a4))] => q_internal_strconv_formatBits a0 a1 a2 a3 a4 (fun z5 z6 => K (.tup [.one (.sl 5 (.ints .u8 z5)), .one (.str z6)]))
  | _ => none
def S71 {β : Type} (N : Nat) : Rv.Spec β := VS71 N (internal_strconv_formatBits N)
def VLS71_0 {β : Type} (N : Nat) : LSpec β := fun _ _ => none
def LS71_0 {β : Type} (N : Nat) : LSpec β := VLS71_0 N
def VLS71_2 {β : Type} (N : Nat) : LSpec β := fun _ _ => none
def LS71_2 {β : Type} (N : Nat) : LSpec β := VLS71_2 N
def VE71 {β : Type} (N : Nat) : Env β := ⟨[], [], [(0, VLS71_0 N), (2, VLS71_2 N)], []⟩
def E71 {β : Type} (N : Nat) : Env β := VE71 N
theorem lk71_0 {β : Type} (N : Nat) : lookL (E71 (β := β) N).loops (lp Tryd.f71 0).id = LS71_0 N := by kernel_rfl
theorem rk71_0 {β : Type} (N : Nat) : RoundsOK lay (E71 (β := β) N) (retMask Tryd.f71) (lp Tryd.f71 0) := by
  intro s K r h
  rw [lk71_0] at h
  cases h
theorem lk71_2 {β : Type} (N : Nat) : lookL (E71 (β := β) N).loops (lp Tryd.f71 1).id = LS71_2 N := by kernel_rfl
theorem rk71_2 {β : Type} (N : Nat) : RoundsOK lay (E71 (β := β) N) (retMask Tryd.f71) (lp Tryd.f71 1) := by
  intro s K r h
  rw [lk71_2] at h
  cases h
def BV_internal_strconv_formatBits {β : Type} (N : Nat) (a0 : List Int) (a1 : Int) (a2 : Int) (a3 : Bool) (a4 : Bool) (k : List Int → ByteArray → Option β) : Option β :=
(cond ((decide (a2 < 2)))
(none)
((cond ((a2 == 10))
(none)
((cond ((decide (a2 > 36)))
(none)
(none))))))
theorem t_internal_strconv_formatBits {β : Type} (N : Nat) (a0 : List Int) (a1 : Int) (a2 : Int) (a3 : Bool) (a4 : Bool) (k : List Int → ByteArray → Option β) : internal_strconv_formatBits N a0 a1 a2 a3 a4 k = BV_internal_strconv_formatBits N a0 a1 a2 a3 a4 k := by
  unfold internal_strconv_formatBits BV_internal_strconv_formatBits
  rfl
theorem ve71_0 {β : Type} (N : Nat)  (a0 : List Int) (a1 : Int) (a2 : Int) (a3 : Bool) (a4 : Bool) (K : TV → Option β) : evFn lay (VE71 N) Tryd.f71 [.v (.one (.sl 5 (.ints .u8 a0))), .v (.one (.int .u64 a1)), .v (.one (.int .i64 a2)), .v (.one (.bool a3)), .v (.one (.bool a4))] K = BV_internal_strconv_formatBits N a0 a1 a2 a3 a4 (fun z5 z6 => K (.tup [.one (.sl 5 (.ints .u8 z5)), .one (.str z6)])) := by kernel_rfl
theorem e71_0 {β : Type} (N : Nat)  (a0 : List Int) (a1 : Int) (a2 : Int) (a3 : Bool) (a4 : Bool) (K : TV → Option β) : evFn lay (E71 N) Tryd.f71 [.v (.one (.sl 5 (.ints .u8 a0))), .v (.one (.int .u64 a1)), .v (.one (.int .i64 a2)), .v (.one (.bool a3)), .v (.one (.bool a4))] K = internal_strconv_formatBits N a0 a1 a2 a3 a4 (fun z5 z6 => K (.tup [.one (.sl 5 (.ints .u8 z5)), .one (.str z6)])) := (ve71_0 N a0 a1 a2 a3 a4 K).trans (t_internal_strconv_formatBits N a0 a1 a2 a3 a4 (fun z5 z6 => K (.tup [.one (.sl 5 (.ints .u8 z5)), .one (.str z6)]))).symm
theorem o71 {β : Type} (N : Nat) : SpecOK (β := β) Tryd.prog 71 (S71 N) := by
  refine spec_of lay_ok mixed (E := E71 N) (specs_loops specs_nil) muts_nil gs_nil Tryd.func71 (by kernel_rfl) 2 (by kernel_rfl) ⟨⟨trivial, rk71_0 N⟩, rk71_2 N⟩ fun args K r h => ?_
  unfold S71 VS71 at h
  split at h
  · exact (e71_0 N _ _ _ _ _ _).trans h
  · cases h
def VS67 {β : Type} (N : Nat) (q_internal_strconv_FormatInt : (a0 : Int) → (a1 : Int) → (k : ByteArray → Option β) → Option β) : Rv.Spec β := fun args K => match args with
  | [.v (.one (.int .i64 a0)), .v (.one (.int .i64 a1))] => q_internal_strconv_FormatInt a0 a1 (fun z2 => K (.v (.one (.str z2))))
  | _ => none
def S67 {β : Type} (N : Nat) : Rv.Spec β := VS67 N (internal_strconv_FormatInt N)
def VE67 {β : Type} (N : Nat) (q_internal_strconv_small : (a0 : Int) → (k : ByteArray → Option β) → Option β) (q_internal_strconv_formatBits : (a0 : List Int) → (a1 : Int) → (a2 : Int) → (a3 : Bool) → (a4 : Bool) → (k : List Int → ByteArray → Option β) → Option β) : Env β := ⟨[(68, VS68 N q_internal_strconv_small), (71, VS71 N q_internal_strconv_formatBits)], [], [], []⟩
def E67 {β : Type} (N : Nat) : Env β := VE67 N (internal_strconv_small N) (internal_strconv_formatBits N)
def BV_internal_strconv_FormatInt {β : Type} (N : Nat) (q_internal_strconv_small : (a0 : Int) → (k : ByteArray → Option β) → Option β) (q_internal_strconv_formatBits : (a0 : List Int) → (a1 : Int) → (a2 : Int) → (a3 : Bool) → (a4 : Bool) → (k : List Int → ByteArray → Option β) → Option β) (a0 : Int) (a1 : Int) (k : ByteArray → Option β) : Option β :=
(cond ((a1 == 10))
((cond ((decide (0 ≤ a0)))
((cond ((decide (a0 < 100)))
(q_internal_strconv_small a0 fun r3 =>
k r3)
(none)))
(none)))
(q_internal_strconv_formatBits (([] : List Int)) ((wu64 (a0))) a1 ((decide (a0 < 0))) false fun r4 r5 =>
k r5))
theorem t_internal_strconv_FormatInt {β : Type} (N : Nat) (a0 : Int) (a1 : Int) (k : ByteArray → Option β) : internal_strconv_FormatInt N a0 a1 k = BV_internal_strconv_FormatInt N (internal_strconv_small N) (internal_strconv_formatBits N) a0 a1 k := by
  unfold internal_strconv_FormatInt BV_internal_strconv_FormatInt
  rfl
theorem ve67_0 {β : Type} (N : Nat) (q_internal_strconv_small : (a0 : Int) → (k : ByteArray → Option β) → Option β) (q_internal_strconv_formatBits : (a0 : List Int) → (a1 : Int) → (a2 : Int) → (a3 : Bool) → (a4 : Bool) → (k : List Int → ByteArray → Option β) → Option β)  (a0 : Int) (a1 : Int) (K : TV → Option β) : evFn lay (VE67 N q_internal_strconv_small q_internal_strconv_formatBits) Tryd.f67 [.v (.one (.int .i64 a0)), .v (.one (.int .i64 a1))] K = BV_internal_strconv_FormatInt N q_internal_strconv_small q_internal_strconv_formatBits a0 a1 (fun z2 => K (.v (.one (.str z2)))) := by kernel_rfl
theorem e67_0 {β : Type} (N : Nat)  (a0 : Int) (a1 : Int) (K : TV → Option β) : evFn lay (E67 N) Tryd.f67 [.v (.one (.int .i64 a0)), .v (.one (.int .i64 a1))] K = internal_strconv_FormatInt N a0 a1 (fun z2 => K (.v (.one (.str z2)))) := (ve67_0 N (internal_strconv_small N) (internal_strconv_formatBits N) a0 a1 K).trans (t_internal_strconv_FormatInt N a0 a1 (fun z2 => K (.v (.one (.str z2))))).symm
theorem o67 {β : Type} (N : Nat) : SpecOK (β := β) Tryd.prog 67 (S67 N) := by
  refine spec_of lay_ok mixed (E := E67 N) (specs_loops (specs_cons (o68 N) (specs_cons (o71 N) specs_nil))) muts_nil gs_nil Tryd.func67 (by kernel_rfl) 0 (by kernel_rfl) trivial fun args K r h => ?_
  unfold S67 VS67 at h
  split at h
  · exact (e67_0 N _ _ _).trans h
  · cases h
def VS62 {β : Type} (N : Nat) (q_internal_strconv_Itoa : (a0 : Int) → (k : ByteArray → Option β) → Option β) : Rv.Spec β := fun args K => match args with
  | [.v (.one (.int .i64 a0))] => q_internal_strconv_Itoa a0 (fun z1 => K (.v (.one (.str z1))))
  | _ => none
def S62 {β : Type} (N : Nat) : Rv.Spec β := VS62 N (internal_strconv_Itoa N)
def VE62 {β : Type} (N : Nat) (q_internal_strconv_FormatInt : (a0 : Int) → (a1 : Int) → (k : ByteArray → Option β) → Option β) : Env β := ⟨[(67, VS67 N q_internal_strconv_FormatInt)], [], [], []⟩
def E62 {β : Type} (N : Nat) : Env β := VE62 N (internal_strconv_FormatInt N)
def BV_internal_strconv_Itoa {β : Type} (N : Nat) (q_internal_strconv_FormatInt : (a0 : Int) → (a1 : Int) → (k : ByteArray → Option β) → Option β) (a0 : Int) (k : ByteArray → Option β) : Option β :=
q_internal_strconv_FormatInt a0 10 fun r2 =>
k r2
theorem t_internal_strconv_Itoa {β : Type} (N : Nat) (a0 : Int) (k : ByteArray → Option β) : internal_strconv_Itoa N a0 k = BV_internal_strconv_Itoa N (internal_strconv_FormatInt N) a0 k := by
  unfold internal_strconv_Itoa BV_internal_strconv_Itoa
  rfl
theorem ve62_0 {β : Type} (N : Nat) (q_internal_strconv_FormatInt : (a0 : Int) → (a1 : Int) → (k : ByteArray → Option β) → Option β)  (a0 : Int) (K : TV → Option β) : evFn lay (VE62 N q_internal_strconv_FormatInt) Tryd.f62 [.v (.one (.int .i64 a0))] K = BV_internal_strconv_Itoa N q_internal_strconv_FormatInt a0 (fun z1 => K (.v (.one (.str z1)))) := by kernel_rfl
theorem e62_0 {β : Type} (N : Nat)  (a0 : Int) (K : TV → Option β) : evFn lay (E62 N) Tryd.f62 [.v (.one (.int .i64 a0))] K = internal_strconv_Itoa N a0 (fun z1 => K (.v (.one (.str z1)))) := (ve62_0 N (internal_strconv_FormatInt N) a0 K).trans (t_internal_strconv_Itoa N a0 (fun z1 => K (.v (.one (.str z1))))).symm
theorem o62 {β : Type} (N : Nat) : SpecOK (β := β) Tryd.prog 62 (S62 N) := by
  refine spec_of lay_ok mixed (E := E62 N) (specs_loops (specs_cons (o67 N) specs_nil)) muts_nil gs_nil Tryd.func62 (by kernel_rfl) 0 (by kernel_rfl) trivial fun args K r h => ?_
  unfold S62 VS62 at h
  split at h
  · exact (e62_0 N _ _).trans h
  · cases h
def VS52 {β : Type} (N : Nat) (q_strconv_Itoa : (a0 : Int) → (k : ByteArray → Option β) → Option β) : Rv.Spec β := fun args K => match args with
  | [.v (.one (.int .i64 a0))] => q_strconv_Itoa a0 (fun z1 => K (.v (.one (.str z1))))
  | _ => none
def S52 {β : Type} (N : Nat) : Rv.Spec β := VS52 N (strconv_Itoa N)
def VE52 {β : Type} (N : Nat) (q_internal_strconv_Itoa : (a0 : Int) → (k : ByteArray → Option β) → Option β) : Env β := ⟨[(62, VS62 N q_internal_strconv_Itoa)], [], [], []⟩
def E52 {β : Type} (N : Nat) : Env β := VE52 N (internal_strconv_Itoa N)
def BV_strconv_Itoa {β : Type} (N : Nat) (q_internal_strconv_Itoa : (a0 : Int) → (k : ByteArray → Option β) → Option β) (a0 : Int) (k : ByteArray → Option β) : Option β :=
q_internal_strconv_Itoa a0 fun r2 =>
k r2
theorem t_strconv_Itoa {β : Type} (N : Nat) (a0 : Int) (k : ByteArray → Option β) : strconv_Itoa N a0 k = BV_strconv_Itoa N (internal_strconv_Itoa N) a0 k := by
  unfold strconv_Itoa BV_strconv_Itoa
  rfl
theorem ve52_0 {β : Type} (N : Nat) (q_internal_strconv_Itoa : (a0 : Int) → (k : ByteArray → Option β) → Option β)  (a0 : Int) (K : TV → Option β) : evFn lay (VE52 N q_internal_strconv_Itoa) Tryd.f52 [.v (.one (.int .i64 a0))] K = BV_strconv_Itoa N q_internal_strconv_Itoa a0 (fun z1 => K (.v (.one (.str z1)))) := by kernel_rfl
theorem e52_0 {β : Type} (N : Nat)  (a0 : Int) (K : TV → Option β) : evFn lay (E52 N) Tryd.f52 [.v (.one (.int .i64 a0))] K = strconv_Itoa N a0 (fun z1 => K (.v (.one (.str z1)))) := (ve52_0 N (internal_strconv_Itoa N) a0 K).trans (t_strconv_Itoa N a0 (fun z1 => K (.v (.one (.str z1))))).symm
theorem o52 {β : Type} (N : Nat) : SpecOK (β := β) Tryd.prog 52 (S52 N) := by
  refine spec_of lay_ok mixed (E := E52 N) (specs_loops (specs_cons (o62 N) specs_nil)) muts_nil gs_nil Tryd.func52 (by kernel_rfl) 0 (by kernel_rfl) trivial fun args K r h => ?_
  unfold S52 VS52 at h
  split at h
  · exact (e52_0 N _ _).trans h
  · cases h
end Go.Proofs.YtdkjnadhgdneaaaDoor
