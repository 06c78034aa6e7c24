/- The functions that the claims reach answer as their texts do. -/
import Derived.Test.YtmhlcbibbhelkaaDoorE1
namespace Go.Proofs.YtmhlcbibbhelkaaDoor
open Go.Rv
set_option maxRecDepth 100000
set_option maxHeartbeats 2000000
set_option linter.unusedVariables false
variable {β : Type}
def VSF19 (N : Nat) (zq25 : Nat → List Int → Int → Int → (ByteArray → O β) → O β) (G : Nat) : Rv.Spec β := fun args K => match args with
  | [.v (.one (.sl 3 (.ints .i64 a0))), .v (.one (.int .i64 a1)), .v (.one (.int .i64 a2))] => zq25 G a0 a1 a2 (fun z3 => K (.v (.one (.str z3))))
  | _ => none
def SF19 (N : Nat) (G : Nat) : Rv.Spec β := VSF19 N (zj25 N) G
def VS19 (N : Nat) (zq25 : Nat → List Int → Int → Int → (ByteArray → O β) → O β) : Rv.Spec β := VSF19 N zq25 N
def S19 (N : Nat) : Rv.Spec β := SF19 N N
def h19_0_0  (v0 : List Int) (v1 : Int) (v2 : Int) (v3 : Int) : St := ⟨.v (.one (.sl 3 (.ints .i64 v0))) :: .v (.one (.int .i64 v1)) :: .v (.one (.int .i64 v2)) :: tund :: tund :: tund :: tund :: .v (.one (.int .i64 v3)) :: tund :: tund :: tund :: tund :: tund :: tund :: tund :: tund :: tund :: tund :: tund :: tund :: tund :: tund :: tund :: tund :: tund :: tund :: tund :: tund :: tund :: tund :: tund :: tund :: tund :: tund :: tund :: tund :: tund :: tund :: tund :: tund :: tund :: tund :: tund :: tund :: tund :: tund :: tund :: tund :: tund :: tund :: tund :: tund :: tund :: tund :: tund :: tund :: tund :: tund :: tund :: tund :: tund :: tund :: tund :: tund :: tund :: tund :: tund :: tund :: tund :: tund :: tund :: tund :: tund :: tund :: tund :: tund :: tund :: tund :: tund :: tund :: tund :: tund :: tund :: tund :: tund :: tund :: tund :: tund :: tund :: tund :: tund :: tund :: tund :: tund :: tund :: tund :: tund :: tund :: tund :: tund :: tund :: tund :: tund :: tund :: tund :: tund :: tund :: tund :: tund :: tund :: tund :: tund :: tund :: tund :: tund :: tund :: tund :: tund :: tund :: tund :: tund :: tund :: tund :: tund :: tund :: tund :: tund :: tund :: [], []⟩
def x19_0_0_k0  (y0 : ByteArray) : St := ⟨tund :: tund :: tund :: tund :: tund :: tund :: .v (.one (.str y0)) :: tund :: tund :: tund :: tund :: tund :: tund :: tund :: tund :: tund :: tund :: tund :: tund :: tund :: tund :: tund :: tund :: tund :: tund :: tund :: tund :: tund :: tund :: tund :: tund :: tund :: tund :: tund :: tund :: tund :: tund :: tund :: tund :: tund :: tund :: tund :: tund :: tund :: tund :: tund :: tund :: tund :: tund :: tund :: tund :: tund :: tund :: tund :: tund :: tund :: tund :: tund :: tund :: tund :: tund :: tund :: tund :: tund :: tund :: tund :: tund :: tund :: tund :: tund :: tund :: tund :: tund :: tund :: tund :: tund :: tund :: tund :: tund :: tund :: tund :: tund :: tund :: tund :: tund :: tund :: tund :: tund :: tund :: tund :: tund :: tund :: tund :: tund :: tund :: tund :: tund :: tund :: tund :: tund :: tund :: tund :: tund :: tund :: tund :: tund :: tund :: tund :: tund :: tund :: tund :: tund :: tund :: tund :: tund :: tund :: tund :: tund :: tund :: tund :: tund :: tund :: tund :: tund :: tund :: tund :: tund :: tund :: [], []⟩
def x19_0_0_k1  (y0 : List Int) (y1 : Int) (y2 : Int) : St := ⟨.v (.one (.sl 3 (.ints .i64 y0))) :: .v (.one (.int .i64 y1)) :: .v (.one (.int .i64 y2)) :: tund :: tund :: tund :: tund :: tund :: tund :: tund :: tund :: tund :: tund :: tund :: tund :: tund :: tund :: tund :: tund :: tund :: tund :: tund :: tund :: tund :: tund :: tund :: tund :: tund :: tund :: tund :: tund :: tund :: tund :: tund :: tund :: tund :: tund :: tund :: tund :: tund :: tund :: tund :: tund :: tund :: tund :: tund :: tund :: tund :: tund :: tund :: tund :: tund :: tund :: tund :: tund :: tund :: tund :: tund :: tund :: tund :: tund :: tund :: tund :: tund :: tund :: tund :: tund :: tund :: tund :: tund :: tund :: tund :: tund :: tund :: tund :: tund :: tund :: tund :: tund :: tund :: tund :: tund :: tund :: tund :: tund :: tund :: tund :: tund :: tund :: tund :: tund :: tund :: tund :: tund :: tund :: tund :: tund :: tund :: tund :: tund :: tund :: tund :: tund :: tund :: tund :: tund :: tund :: tund :: tund :: tund :: tund :: tund :: tund :: tund :: tund :: tund :: tund :: tund :: tund :: tund :: tund :: tund :: tund :: tund :: tund :: tund :: tund :: tund :: [], []⟩
def h19_1_0  (v0 : List Int) (v1 : Int) (v2 : Int) (v3 : Int) : St := ⟨.v (.one (.sl 3 (.ints .i64 v0))) :: .v (.one (.int .i64 v1)) :: .v (.one (.int .i64 v2)) :: tund :: tund :: tund :: tund :: tund :: .v (.one (.int .i64 v3)) :: tund :: tund :: tund :: tund :: tund :: tund :: tund :: tund :: tund :: tund :: tund :: tund :: tund :: tund :: tund :: tund :: tund :: tund :: tund :: tund :: tund :: tund :: tund :: tund :: tund :: tund :: tund :: tund :: tund :: tund :: tund :: tund :: tund :: tund :: tund :: tund :: tund :: tund :: tund :: tund :: tund :: tund :: tund :: tund :: tund :: tund :: tund :: tund :: tund :: tund :: tund :: tund :: tund :: tund :: tund :: tund :: tund :: tund :: tund :: tund :: tund :: tund :: tund :: tund :: tund :: tund :: tund :: tund :: tund :: tund :: tund :: tund :: tund :: tund :: tund :: tund :: tund :: tund :: tund :: tund :: tund :: tund :: tund :: tund :: tund :: tund :: tund :: tund :: tund :: tund :: tund :: tund :: tund :: tund :: tund :: tund :: tund :: tund :: tund :: tund :: tund :: tund :: tund :: tund :: tund :: tund :: tund :: tund :: tund :: tund :: tund :: tund :: tund :: tund :: tund :: tund :: tund :: tund :: tund :: [], []⟩
def x19_1_0_k0  (y0 : ByteArray) : St := ⟨tund :: tund :: tund :: tund :: tund :: tund :: .v (.one (.str y0)) :: tund :: tund :: tund :: tund :: tund :: tund :: tund :: tund :: tund :: tund :: tund :: tund :: tund :: tund :: tund :: tund :: tund :: tund :: tund :: tund :: tund :: tund :: tund :: tund :: tund :: tund :: tund :: tund :: tund :: tund :: tund :: tund :: tund :: tund :: tund :: tund :: tund :: tund :: tund :: tund :: tund :: tund :: tund :: tund :: tund :: tund :: tund :: tund :: tund :: tund :: tund :: tund :: tund :: tund :: tund :: tund :: tund :: tund :: tund :: tund :: tund :: tund :: tund :: tund :: tund :: tund :: tund :: tund :: tund :: tund :: tund :: tund :: tund :: tund :: tund :: tund :: tund :: tund :: tund :: tund :: tund :: tund :: tund :: tund :: tund :: tund :: tund :: tund :: tund :: tund :: tund :: tund :: tund :: tund :: tund :: tund :: tund :: tund :: tund :: tund :: tund :: tund :: tund :: tund :: tund :: tund :: tund :: tund :: tund :: tund :: tund :: tund :: tund :: tund :: tund :: tund :: tund :: tund :: tund :: tund :: tund :: [], []⟩
def x19_1_0_k1   : St := ⟨tund :: tund :: tund :: tund :: tund :: tund :: tund :: tund :: tund :: tund :: tund :: tund :: tund :: tund :: tund :: tund :: tund :: tund :: tund :: tund :: tund :: tund :: tund :: tund :: tund :: tund :: tund :: tund :: tund :: tund :: tund :: tund :: tund :: tund :: tund :: tund :: tund :: tund :: tund :: tund :: tund :: tund :: tund :: tund :: tund :: tund :: tund :: tund :: tund :: tund :: tund :: tund :: tund :: tund :: tund :: tund :: tund :: tund :: tund :: tund :: tund :: tund :: tund :: tund :: tund :: tund :: tund :: tund :: tund :: tund :: tund :: tund :: tund :: tund :: tund :: tund :: tund :: tund :: tund :: tund :: tund :: tund :: tund :: tund :: tund :: tund :: tund :: tund :: tund :: tund :: tund :: tund :: tund :: tund :: tund :: tund :: tund :: tund :: tund :: tund :: tund :: tund :: tund :: tund :: tund :: tund :: tund :: tund :: tund :: tund :: tund :: tund :: tund :: tund :: tund :: tund :: tund :: tund :: tund :: tund :: tund :: tund :: tund :: tund :: tund :: tund :: tund :: tund :: [], []⟩
def h19_2_0  (v0 : List Int) (v1 : Int) (v2 : Int) (v3 : Int) (v4 : Int) : St := ⟨.v (.one (.sl 3 (.ints .i64 v0))) :: .v (.one (.int .i64 v1)) :: .v (.one (.int .i64 v2)) :: tund :: tund :: tund :: tund :: tund :: .v (.one (.int .i64 v3)) :: .v (.one (.int .i64 v4)) :: tund :: tund :: tund :: tund :: tund :: tund :: tund :: tund :: tund :: tund :: tund :: tund :: tund :: tund :: tund :: tund :: tund :: tund :: tund :: tund :: tund :: tund :: tund :: tund :: tund :: tund :: tund :: tund :: tund :: tund :: tund :: tund :: tund :: tund :: tund :: tund :: tund :: tund :: tund :: tund :: tund :: tund :: tund :: tund :: tund :: tund :: tund :: tund :: tund :: tund :: tund :: tund :: tund :: tund :: tund :: tund :: tund :: tund :: tund :: tund :: tund :: tund :: tund :: tund :: tund :: tund :: tund :: tund :: tund :: tund :: tund :: tund :: tund :: tund :: tund :: tund :: tund :: tund :: tund :: tund :: tund :: tund :: tund :: tund :: tund :: tund :: tund :: tund :: tund :: tund :: tund :: tund :: tund :: tund :: tund :: tund :: tund :: tund :: tund :: tund :: tund :: tund :: tund :: tund :: tund :: tund :: tund :: tund :: tund :: tund :: tund :: tund :: tund :: tund :: tund :: tund :: tund :: tund :: [], []⟩
def x19_2_0_k0  (y0 : ByteArray) : St := ⟨tund :: tund :: tund :: tund :: tund :: tund :: .v (.one (.str y0)) :: tund :: tund :: tund :: tund :: tund :: tund :: tund :: tund :: tund :: tund :: tund :: tund :: tund :: tund :: tund :: tund :: tund :: tund :: tund :: tund :: tund :: tund :: tund :: tund :: tund :: tund :: tund :: tund :: tund :: tund :: tund :: tund :: tund :: tund :: tund :: tund :: tund :: tund :: tund :: tund :: tund :: tund :: tund :: tund :: tund :: tund :: tund :: tund :: tund :: tund :: tund :: tund :: tund :: tund :: tund :: tund :: tund :: tund :: tund :: tund :: tund :: tund :: tund :: tund :: tund :: tund :: tund :: tund :: tund :: tund :: tund :: tund :: tund :: tund :: tund :: tund :: tund :: tund :: tund :: tund :: tund :: tund :: tund :: tund :: tund :: tund :: tund :: tund :: tund :: tund :: tund :: tund :: tund :: tund :: tund :: tund :: tund :: tund :: tund :: tund :: tund :: tund :: tund :: tund :: tund :: tund :: tund :: tund :: tund :: tund :: tund :: tund :: tund :: tund :: tund :: tund :: tund :: tund :: tund :: tund :: tund :: [], []⟩
def x19_2_0_k1  (y0 : List Int) (y1 : Int) (y2 : Int) (y3 : Int) : St := ⟨.v (.one (.sl 3 (.ints .i64 y0))) :: .v (.one (.int .i64 y1)) :: .v (.one (.int .i64 y2)) :: tund :: tund :: tund :: tund :: tund :: .v (.one (.int .i64 y3)) :: tund :: tund :: tund :: tund :: tund :: tund :: tund :: tund :: tund :: tund :: tund :: tund :: tund :: tund :: tund :: tund :: tund :: tund :: tund :: tund :: tund :: tund :: tund :: tund :: tund :: tund :: tund :: tund :: tund :: tund :: tund :: tund :: tund :: tund :: tund :: tund :: tund :: tund :: tund :: tund :: tund :: tund :: tund :: tund :: tund :: tund :: tund :: tund :: tund :: tund :: tund :: tund :: tund :: tund :: tund :: tund :: tund :: tund :: tund :: tund :: tund :: tund :: tund :: tund :: tund :: tund :: tund :: tund :: tund :: tund :: tund :: tund :: tund :: tund :: tund :: tund :: tund :: tund :: tund :: tund :: tund :: tund :: tund :: tund :: tund :: tund :: tund :: tund :: tund :: tund :: tund :: tund :: tund :: tund :: tund :: tund :: tund :: tund :: tund :: tund :: tund :: tund :: tund :: tund :: tund :: tund :: tund :: tund :: tund :: tund :: tund :: tund :: tund :: tund :: tund :: tund :: tund :: tund :: tund :: [], []⟩
def h19_3_0  (v0 : List Int) (v1 : Int) (v2 : Int) (v3 : Int) (v4 : Int) (v5 : Int) : St := ⟨.v (.one (.sl 3 (.ints .i64 v0))) :: .v (.one (.int .i64 v1)) :: .v (.one (.int .i64 v2)) :: tund :: tund :: tund :: tund :: tund :: .v (.one (.int .i64 v3)) :: .v (.one (.int .i64 v4)) :: .v (.one (.int .i64 v5)) :: tund :: tund :: tund :: tund :: tund :: tund :: tund :: tund :: tund :: tund :: tund :: tund :: tund :: tund :: tund :: tund :: tund :: tund :: tund :: tund :: tund :: tund :: tund :: tund :: tund :: tund :: tund :: tund :: tund :: tund :: tund :: tund :: tund :: tund :: tund :: tund :: tund :: tund :: tund :: tund :: tund :: tund :: tund :: tund :: tund :: tund :: tund :: tund :: tund :: tund :: tund :: tund :: tund :: tund :: tund :: tund :: tund :: tund :: tund :: tund :: tund :: tund :: tund :: tund :: tund :: tund :: tund :: tund :: tund :: tund :: tund :: tund :: tund :: tund :: tund :: tund :: tund :: tund :: tund :: tund :: tund :: tund :: tund :: tund :: tund :: tund :: tund :: tund :: tund :: tund :: tund :: tund :: tund :: tund :: tund :: tund :: tund :: tund :: tund :: tund :: tund :: tund :: tund :: tund :: tund :: tund :: tund :: tund :: tund :: tund :: tund :: tund :: tund :: tund :: tund :: tund :: tund :: [], []⟩
def x19_3_0_k0  (y0 : ByteArray) : St := ⟨tund :: tund :: tund :: tund :: tund :: tund :: .v (.one (.str y0)) :: tund :: tund :: tund :: tund :: tund :: tund :: tund :: tund :: tund :: tund :: tund :: tund :: tund :: tund :: tund :: tund :: tund :: tund :: tund :: tund :: tund :: tund :: tund :: tund :: tund :: tund :: tund :: tund :: tund :: tund :: tund :: tund :: tund :: tund :: tund :: tund :: tund :: tund :: tund :: tund :: tund :: tund :: tund :: tund :: tund :: tund :: tund :: tund :: tund :: tund :: tund :: tund :: tund :: tund :: tund :: tund :: tund :: tund :: tund :: tund :: tund :: tund :: tund :: tund :: tund :: tund :: tund :: tund :: tund :: tund :: tund :: tund :: tund :: tund :: tund :: tund :: tund :: tund :: tund :: tund :: tund :: tund :: tund :: tund :: tund :: tund :: tund :: tund :: tund :: tund :: tund :: tund :: tund :: tund :: tund :: tund :: tund :: tund :: tund :: tund :: tund :: tund :: tund :: tund :: tund :: tund :: tund :: tund :: tund :: tund :: tund :: tund :: tund :: tund :: tund :: tund :: tund :: tund :: tund :: tund :: tund :: [], []⟩
def x19_3_0_k1  (y0 : List Int) (y1 : Int) (y2 : Int) (y3 : Int) (y4 : Int) : St := ⟨.v (.one (.sl 3 (.ints .i64 y0))) :: .v (.one (.int .i64 y1)) :: .v (.one (.int .i64 y2)) :: tund :: tund :: tund :: tund :: tund :: .v (.one (.int .i64 y3)) :: .v (.one (.int .i64 y4)) :: tund :: tund :: tund :: tund :: tund :: tund :: tund :: tund :: tund :: tund :: tund :: tund :: tund :: tund :: tund :: tund :: tund :: tund :: tund :: tund :: tund :: tund :: tund :: tund :: tund :: tund :: tund :: tund :: tund :: tund :: tund :: tund :: tund :: tund :: tund :: tund :: tund :: tund :: tund :: tund :: tund :: tund :: tund :: tund :: tund :: tund :: tund :: tund :: tund :: tund :: tund :: tund :: tund :: tund :: tund :: tund :: tund :: tund :: tund :: tund :: tund :: tund :: tund :: tund :: tund :: tund :: tund :: tund :: tund :: tund :: tund :: tund :: tund :: tund :: tund :: tund :: tund :: tund :: tund :: tund :: tund :: tund :: tund :: tund :: tund :: tund :: tund :: tund :: tund :: tund :: tund :: tund :: tund :: tund :: tund :: tund :: tund :: tund :: tund :: tund :: tund :: tund :: tund :: tund :: tund :: tund :: tund :: tund :: tund :: tund :: tund :: tund :: tund :: tund :: tund :: tund :: tund :: tund :: [], []⟩
theorem fl19_0_0 (s : St) : refSt (h19_0_0 [] 0 0 0) s = h19_0_0 (rInts (rowV (oneA (vT (nx tund s.tmps 0))))) (intS (oneA (vT (nx tund s.tmps 1)))) (intS (oneA (vT (nx tund s.tmps 2)))) (intS (oneA (vT (nx tund s.tmps 7)))) := by kernel_rfl
def VLS19_0 (N : Nat) (zq17 : Nat → List Int → Int → Int → Int → (ByteArray → O β) → (List Int → Int → Int → O β) → O β) (G : Nat) : LSpec β := fun s K => cond (shpSt (h19_0_0 [] 0 0 0) s) ((fun (v0 : List Int) (v1 : Int) (v2 : Int) (v3 : Int) => zq17  N v0 v1 v2 v3 (fun y0 => K .ret (x19_0_0_k0  y0)) (fun y0 y1 y2 => K (.exit 0) (x19_0_0_k1  y0 y1 y2))) (rInts (rowV (oneA (vT (nx tund s.tmps 0))))) (intS (oneA (vT (nx tund s.tmps 1)))) (intS (oneA (vT (nx tund s.tmps 2)))) (intS (oneA (vT (nx tund s.tmps 7))))) (none)
def LS19_0 (N : Nat) (G : Nat) : LSpec β := VLS19_0 N (zj17 N) G
theorem fl19_1_0 (s : St) : refSt (h19_1_0 [] 0 0 0) s = h19_1_0 (rInts (rowV (oneA (vT (nx tund s.tmps 0))))) (intS (oneA (vT (nx tund s.tmps 1)))) (intS (oneA (vT (nx tund s.tmps 2)))) (intS (oneA (vT (nx tund s.tmps 8)))) := by kernel_rfl
def VLS19_2 (N : Nat) (zq23 : (self : List Int → Int → Int → (ByteArray → O β) → O β) → Nat → List Int → Int → Int → Int → (ByteArray → O β) → (O β) → O β) (zq25 : Nat → List Int → Int → Int → (ByteArray → O β) → O β) (G : Nat) : LSpec β := fun s K => cond (shpSt (h19_1_0 [] 0 0 0) s) ((fun (v0 : List Int) (v1 : Int) (v2 : Int) (v3 : Int) => zq23 (zq25 G)  N v0 v1 v2 v3 (fun y0 => K .ret (x19_1_0_k0  y0)) (K (.exit 2) (x19_1_0_k1  ))) (rInts (rowV (oneA (vT (nx tund s.tmps 0))))) (intS (oneA (vT (nx tund s.tmps 1)))) (intS (oneA (vT (nx tund s.tmps 2)))) (intS (oneA (vT (nx tund s.tmps 8))))) (none)
def LS19_2 (N : Nat) (G : Nat) : LSpec β := VLS19_2 N (zj23 N) (zj25 N) G
theorem fl19_2_0 (s : St) : refSt (h19_2_0 [] 0 0 0 0) s = h19_2_0 (rInts (rowV (oneA (vT (nx tund s.tmps 0))))) (intS (oneA (vT (nx tund s.tmps 1)))) (intS (oneA (vT (nx tund s.tmps 2)))) (intS (oneA (vT (nx tund s.tmps 8)))) (intS (oneA (vT (nx tund s.tmps 9)))) := by kernel_rfl
def VLS19_4 (N : Nat) (zq21 : (self : List Int → Int → Int → (ByteArray → O β) → O β) → Nat → List Int → Int → Int → Int → Int → (ByteArray → O β) → (List Int → Int → Int → Int → O β) → O β) (zq25 : Nat → List Int → Int → Int → (ByteArray → O β) → O β) (G : Nat) : LSpec β := fun s K => cond (shpSt (h19_2_0 [] 0 0 0 0) s) ((fun (v0 : List Int) (v1 : Int) (v2 : Int) (v3 : Int) (v4 : Int) => zq21 (zq25 G)  N v0 v1 v2 v3 v4 (fun y0 => K .ret (x19_2_0_k0  y0)) (fun y0 y1 y2 y3 => K (.exit 4) (x19_2_0_k1  y0 y1 y2 y3))) (rInts (rowV (oneA (vT (nx tund s.tmps 0))))) (intS (oneA (vT (nx tund s.tmps 1)))) (intS (oneA (vT (nx tund s.tmps 2)))) (intS (oneA (vT (nx tund s.tmps 8)))) (intS (oneA (vT (nx tund s.tmps 9))))) (none)
def LS19_4 (N : Nat) (G : Nat) : LSpec β := VLS19_4 N (zj21 N) (zj25 N) G
theorem fl19_3_0 (s : St) : refSt (h19_3_0 [] 0 0 0 0 0) s = h19_3_0 (rInts (rowV (oneA (vT (nx tund s.tmps 0))))) (intS (oneA (vT (nx tund s.tmps 1)))) (intS (oneA (vT (nx tund s.tmps 2)))) (intS (oneA (vT (nx tund s.tmps 8)))) (intS (oneA (vT (nx tund s.tmps 9)))) (intS (oneA (vT (nx tund s.tmps 10)))) := by kernel_rfl
def VLS19_6 (N : Nat) (zq19 : (self : List Int → Int → Int → (ByteArray → O β) → O β) → Nat → List Int → Int → Int → Int → Int → Int → (ByteArray → O β) → (List Int → Int → Int → Int → Int → O β) → O β) (zq25 : Nat → List Int → Int → Int → (ByteArray → O β) → O β) (G : Nat) : LSpec β := fun s K => cond (shpSt (h19_3_0 [] 0 0 0 0 0) s) ((fun (v0 : List Int) (v1 : Int) (v2 : Int) (v3 : Int) (v4 : Int) (v5 : Int) => zq19 (zq25 G)  N v0 v1 v2 v3 v4 v5 (fun y0 => K .ret (x19_3_0_k0  y0)) (fun y0 y1 y2 y3 y4 => K (.exit 6) (x19_3_0_k1  y0 y1 y2 y3 y4))) (rInts (rowV (oneA (vT (nx tund s.tmps 0))))) (intS (oneA (vT (nx tund s.tmps 1)))) (intS (oneA (vT (nx tund s.tmps 2)))) (intS (oneA (vT (nx tund s.tmps 8)))) (intS (oneA (vT (nx tund s.tmps 9)))) (intS (oneA (vT (nx tund s.tmps 10))))) (none)
def LS19_6 (N : Nat) (G : Nat) : LSpec β := VLS19_6 N (zj19 N) (zj25 N) G
def VE19 (N : Nat) (zq15 : (a0 : Int) → (k : Int → O β) → O β) (zq7 : (a0 : Int) → (a1 : Int) → (k : Int → O β) → O β) (zq25 : Nat → List Int → Int → Int → (ByteArray → O β) → O β) (zq17 : Nat → List Int → Int → Int → Int → (ByteArray → O β) → (List Int → Int → Int → O β) → O β) (zq23 : (self : List Int → Int → Int → (ByteArray → O β) → O β) → Nat → List Int → Int → Int → Int → (ByteArray → O β) → (O β) → O β) (zq21 : (self : List Int → Int → Int → (ByteArray → O β) → O β) → Nat → List Int → Int → Int → Int → Int → (ByteArray → O β) → (List Int → Int → Int → Int → O β) → O β) (zq19 : (self : List Int → Int → Int → (ByteArray → O β) → O β) → Nat → List Int → Int → Int → Int → Int → Int → (ByteArray → O β) → (List Int → Int → Int → Int → Int → O β) → O β) (G : Nat) : Env β := ⟨[(25, VS25 N zq15), (26, VS26 N zq7), (19, VSF19 N zq25 G)], [], [(0, VLS19_0 N zq17 G), (2, VLS19_2 N zq23 zq25 G), (4, VLS19_4 N zq21 zq25 G), (6, VLS19_6 N zq19 zq25 G)], [], ⟨[], [], [], []⟩⟩
def E19 (N : Nat) (G : Nat) : Env β := VE19 N (zj15 N) (zj7 N) (zj25 N) (zj17 N) (zj23 N) (zj21 N) (zj19 N) G
def zb16 (N : Nat) (zq7 : (a0 : Int) → (a1 : Int) → (k : Int → O β) → O β) (zq15 : (a0 : Int) → (k : Int → O β) → O β)  (v0 : List Int) (v1 : Int) (v2 : Int) (v3 : Int) (rec_ : List Int → Int → Int → Int → O β) (k0 : ByteArray → O β) (k1 : List Int → Int → Int → O β) : O β :=
(cond ((decide (v3 < v1)))
((gd ((decide (0 ≤ v2)))
((gd ((decide (v2 < (v0.length : Int))))
((cond (((rd 0 v0 v2) == 1))
(zq7 v1 v3 fun r5 =>
(cond ((v2 == r5))
((gd ((decide (0 ≤ (w64 (v3 + 1)))))
((gd ((decide ((w64 (v3 + 1)) ≤ (((strOf [97, 98, 99, 100, 101])).size : Int))))
((gd ((decide (0 ≤ v3)))
((gd ((decide (v3 ≤ (w64 (v3 + 1)))))
(k0 ((((strOf [97, 98, 99, 100, 101])).extract (Int.toNat v3) (Int.toNat (w64 (v3 + 1))))))))))))))
(zq15 v1 fun r6 =>
zq7 v1 v3 fun r7 =>
(cond ((v2 == (w64 (r6 - r7))))
((gd ((decide (0 ≤ (w64 (v3 + 1)))))
((gd ((decide ((w64 (v3 + 1)) ≤ (((strOf [97, 98, 99, 100, 101])).size : Int))))
((gd ((decide (0 ≤ v3)))
((gd ((decide (v3 ≤ (w64 (v3 + 1)))))
((gd ((decide (((strOf [33])).size + ((((strOf [97, 98, 99, 100, 101])).extract (Int.toNat v3) (Int.toNat (w64 (v3 + 1))))).size ≤ 9223372036854775807)))
(k0 (((strOf [33]) ++ (((strOf [97, 98, 99, 100, 101])).extract (Int.toNat v3) (Int.toNat (w64 (v3 + 1)))))))))))))))))
(rec_ v0 v1 v2 ((w64 (v3 + 1))))))))
(k1 v0 v1 v2)))))))
(k1 v0 v1 v2))
theorem zt16 (N : Nat)  (v0 : List Int) (v1 : Int) (v2 : Int) (v3 : Int) (rec_ : List Int → Int → Int → Int → O β) (k0 : ByteArray → O β) (k1 : List Int → Int → Int → O β) : zj16 N v0 v1 v2 v3 rec_ k0 k1 = zb16 N (zj7 N) (zj15 N) v0 v1 v2 v3 rec_ k0 k1 := by
  unfold zj16 zb16
  rfl
theorem vst19_0_0 (N : Nat) (zq15 : (a0 : Int) → (k : Int → O β) → O β) (zq7 : (a0 : Int) → (a1 : Int) → (k : Int → O β) → O β) (zq25 : Nat → List Int → Int → Int → (ByteArray → O β) → O β) (zq17 : Nat → List Int → Int → Int → Int → (ByteArray → O β) → (List Int → Int → Int → O β) → O β) (zq23 : (self : List Int → Int → Int → (ByteArray → O β) → O β) → Nat → List Int → Int → Int → Int → (ByteArray → O β) → (O β) → O β) (zq21 : (self : List Int → Int → Int → (ByteArray → O β) → O β) → Nat → List Int → Int → Int → Int → Int → (ByteArray → O β) → (List Int → Int → Int → Int → O β) → O β) (zq19 : (self : List Int → Int → Int → (ByteArray → O β) → O β) → Nat → List Int → Int → Int → Int → Int → Int → (ByteArray → O β) → (List Int → Int → Int → Int → Int → O β) → O β) (G : Nat)  (v0 : List Int) (v1 : Int) (v2 : Int) (v3 : Int) (rec_ : St → O β) (K : Exit → St → O β) :
    ev lay (VE19 N zq15 zq7 zq25 zq17 zq23 zq21 zq19 G) (retMask Tryd.f19) (lp Tryd.f19 0).body (lp Tryd.f19 0).ex ((lp Tryd.f19 0).lv (retMask Tryd.f19)) (h19_0_0  v0 v1 v2 v3) (nextR (fun s' => rec_ (s'.tidy ((lp Tryd.f19 0).lv (retMask Tryd.f19)))) K) = zb16 N zq7 zq15  v0 v1 v2 v3 (fun v0 v1 v2 v3 => rec_ (h19_0_0  v0 v1 v2 v3)) (fun y0 => K .ret (x19_0_0_k0  y0)) (fun y0 y1 y2 => K (.exit 0) (x19_0_0_k1  y0 y1 y2)) := by kernel_rfl
theorem st19_0_0 (N : Nat) (G : Nat)  (v0 : List Int) (v1 : Int) (v2 : Int) (v3 : Int) (rec_ : St → O β) (K : Exit → St → O β) :
    ev lay (E19 N G) (retMask Tryd.f19) (lp Tryd.f19 0).body (lp Tryd.f19 0).ex ((lp Tryd.f19 0).lv (retMask Tryd.f19)) (h19_0_0  v0 v1 v2 v3) (nextR (fun s' => rec_ (s'.tidy ((lp Tryd.f19 0).lv (retMask Tryd.f19)))) K) = zj16 N  v0 v1 v2 v3 (fun v0 v1 v2 v3 => rec_ (h19_0_0  v0 v1 v2 v3)) (fun y0 => K .ret (x19_0_0_k0  y0)) (fun y0 y1 y2 => K (.exit 0) (x19_0_0_k1  y0 y1 y2)) := (vst19_0_0 N (zj15 N) (zj7 N) (zj25 N) (zj17 N) (zj23 N) (zj21 N) (zj19 N) G v0 v1 v2 v3 rec_ K).trans (zt16 N  v0 v1 v2 v3 (fun v0 v1 v2 v3 => rec_ (h19_0_0  v0 v1 v2 v3)) (fun y0 => K .ret (x19_0_0_k0  y0)) (fun y0 y1 y2 => K (.exit 0) (x19_0_0_k1  y0 y1 y2))).symm
theorem ro19_0_0 (N : Nat) (G : Nat)  (K : Exit → St → O β) : ∀ (F : Nat) (v0 : List Int) (v1 : Int) (v2 : Int) (v3 : Int), (lp Tryd.f19 0).rounds lay (E19 N G) (retMask Tryd.f19) F (h19_0_0  v0 v1 v2 v3) K = zj17 N  F v0 v1 v2 v3 (fun y0 => K .ret (x19_0_0_k0  y0)) (fun y0 y1 y2 => K (.exit 0) (x19_0_0_k1  y0 y1 y2)) := by
  intro F
  induction F with
  | zero => intros; rfl
  | succ F ih =>
    intros
    rw [rounds_next]
    refine (st19_0_0 N G  _ _ _ _ (fun s => (lp Tryd.f19 0).rounds lay (E19 N G) (retMask Tryd.f19) F s K) K).trans ?_
    simp only [ih]
    rfl
theorem lk19_0 (N : Nat) (G : Nat) : lookL (E19 (β := β) N G).loops (lp Tryd.f19 0).id = LS19_0 N G := by kernel_rfl
theorem rk19_0 (N : Nat) (G : Nat) : RoundsOK lay (E19 (β := β) N G) (retMask Tryd.f19) (lp Tryd.f19 0) := by
  intro s K r h
  rw [lk19_0] at h
  unfold LS19_0 VLS19_0 at h
  cases hb : shpSt (h19_0_0 [] 0 0 0) s with
  | true =>
    rw [hb, cond_true] at h
    exact ⟨N, by rw [← shpSt_ref hb, fl19_0_0 s]; exact (ro19_0_0 N G  K N (rInts (rowV (oneA (vT (nx tund s.tmps 0))))) (intS (oneA (vT (nx tund s.tmps 1)))) (intS (oneA (vT (nx tund s.tmps 2)))) (intS (oneA (vT (nx tund s.tmps 7))))).trans h⟩
  | false =>
  rw [hb, cond_false] at h
  clear hb
  cases h
def zb22 (N : Nat) (zq21 : (self : List Int → Int → Int → (ByteArray → O β) → O β) → Nat → List Int → Int → Int → Int → Int → (ByteArray → O β) → (List Int → Int → Int → Int → O β) → O β) (self : List Int → Int → Int → (ByteArray → O β) → O β)  (v0 : List Int) (v1 : Int) (v2 : Int) (v3 : Int) (rec_ : List Int → Int → Int → Int → O β) (k0 : ByteArray → O β) (k1 : O β) : O β :=
(cond ((decide (v3 < 2)))
(zq21 self  N v0 v1 v2 v3 1 (fun e20_0 =>
k0 e20_0) (fun e21_0 e21_1 e21_2 e21_3 =>
rec_ e21_0 e21_1 e21_2 ((w64 (e21_3 + 1)))))
(k1 ))
theorem zt22 (N : Nat) (self : List Int → Int → Int → (ByteArray → O β) → O β)  (v0 : List Int) (v1 : Int) (v2 : Int) (v3 : Int) (rec_ : List Int → Int → Int → Int → O β) (k0 : ByteArray → O β) (k1 : O β) : zj22 N self v0 v1 v2 v3 rec_ k0 k1 = zb22 N (zj21 N) self v0 v1 v2 v3 rec_ k0 k1 := by
  unfold zj22 zb22
  rfl
theorem vst19_1_0 (N : Nat) (zq15 : (a0 : Int) → (k : Int → O β) → O β) (zq7 : (a0 : Int) → (a1 : Int) → (k : Int → O β) → O β) (zq25 : Nat → List Int → Int → Int → (ByteArray → O β) → O β) (zq17 : Nat → List Int → Int → Int → Int → (ByteArray → O β) → (List Int → Int → Int → O β) → O β) (zq23 : (self : List Int → Int → Int → (ByteArray → O β) → O β) → Nat → List Int → Int → Int → Int → (ByteArray → O β) → (O β) → O β) (zq21 : (self : List Int → Int → Int → (ByteArray → O β) → O β) → Nat → List Int → Int → Int → Int → Int → (ByteArray → O β) → (List Int → Int → Int → Int → O β) → O β) (zq19 : (self : List Int → Int → Int → (ByteArray → O β) → O β) → Nat → List Int → Int → Int → Int → Int → Int → (ByteArray → O β) → (List Int → Int → Int → Int → Int → O β) → O β) (G : Nat)  (v0 : List Int) (v1 : Int) (v2 : Int) (v3 : Int) (rec_ : St → O β) (K : Exit → St → O β) :
    ev lay (VE19 N zq15 zq7 zq25 zq17 zq23 zq21 zq19 G) (retMask Tryd.f19) (lp Tryd.f19 1).body (lp Tryd.f19 1).ex ((lp Tryd.f19 1).lv (retMask Tryd.f19)) (h19_1_0  v0 v1 v2 v3) (nextR (fun s' => rec_ (s'.tidy ((lp Tryd.f19 1).lv (retMask Tryd.f19)))) K) = zb22 N zq21 (zq25 G)  v0 v1 v2 v3 (fun v0 v1 v2 v3 => rec_ (h19_1_0  v0 v1 v2 v3)) (fun y0 => K .ret (x19_1_0_k0  y0)) (K (.exit 2) (x19_1_0_k1  )) := by kernel_rfl
theorem st19_1_0 (N : Nat) (G : Nat)  (v0 : List Int) (v1 : Int) (v2 : Int) (v3 : Int) (rec_ : St → O β) (K : Exit → St → O β) :
    ev lay (E19 N G) (retMask Tryd.f19) (lp Tryd.f19 1).body (lp Tryd.f19 1).ex ((lp Tryd.f19 1).lv (retMask Tryd.f19)) (h19_1_0  v0 v1 v2 v3) (nextR (fun s' => rec_ (s'.tidy ((lp Tryd.f19 1).lv (retMask Tryd.f19)))) K) = zj22 N (zj25 N G)  v0 v1 v2 v3 (fun v0 v1 v2 v3 => rec_ (h19_1_0  v0 v1 v2 v3)) (fun y0 => K .ret (x19_1_0_k0  y0)) (K (.exit 2) (x19_1_0_k1  )) := (vst19_1_0 N (zj15 N) (zj7 N) (zj25 N) (zj17 N) (zj23 N) (zj21 N) (zj19 N) G v0 v1 v2 v3 rec_ K).trans (zt22 N (zj25 N G)  v0 v1 v2 v3 (fun v0 v1 v2 v3 => rec_ (h19_1_0  v0 v1 v2 v3)) (fun y0 => K .ret (x19_1_0_k0  y0)) (K (.exit 2) (x19_1_0_k1  ))).symm
theorem ro19_1_0 (N : Nat) (G : Nat)  (K : Exit → St → O β) : ∀ (F : Nat) (v0 : List Int) (v1 : Int) (v2 : Int) (v3 : Int), (lp Tryd.f19 1).rounds lay (E19 N G) (retMask Tryd.f19) F (h19_1_0  v0 v1 v2 v3) K = zj23 N (zj25 N G)  F v0 v1 v2 v3 (fun y0 => K .ret (x19_1_0_k0  y0)) (K (.exit 2) (x19_1_0_k1  )) := by
  intro F
  induction F with
  | zero => intros; rfl
  | succ F ih =>
    intros
    rw [rounds_next]
    refine (st19_1_0 N G  _ _ _ _ (fun s => (lp Tryd.f19 1).rounds lay (E19 N G) (retMask Tryd.f19) F s K) K).trans ?_
    simp only [ih]
    rfl
theorem lk19_2 (N : Nat) (G : Nat) : lookL (E19 (β := β) N G).loops (lp Tryd.f19 1).id = LS19_2 N G := by kernel_rfl
theorem rk19_2 (N : Nat) (G : Nat) : RoundsOK lay (E19 (β := β) N G) (retMask Tryd.f19) (lp Tryd.f19 1) := by
  intro s K r h
  rw [lk19_2] at h
  unfold LS19_2 VLS19_2 at h
  cases hb : shpSt (h19_1_0 [] 0 0 0) s with
  | true =>
    rw [hb, cond_true] at h
    exact ⟨N, by rw [← shpSt_ref hb, fl19_1_0 s]; exact (ro19_1_0 N G  K N (rInts (rowV (oneA (vT (nx tund s.tmps 0))))) (intS (oneA (vT (nx tund s.tmps 1)))) (intS (oneA (vT (nx tund s.tmps 2)))) (intS (oneA (vT (nx tund s.tmps 8))))).trans h⟩
  | false =>
  rw [hb, cond_false] at h
  clear hb
  cases h
def zb20 (N : Nat) (zq15 : (a0 : Int) → (k : Int → O β) → O β) (zq19 : (self : List Int → Int → Int → (ByteArray → O β) → O β) → Nat → List Int → Int → Int → Int → Int → Int → (ByteArray → O β) → (List Int → Int → Int → Int → Int → O β) → O β) (self : List Int → Int → Int → (ByteArray → O β) → O β)  (v0 : List Int) (v1 : Int) (v2 : Int) (v3 : Int) (v4 : Int) (rec_ : List Int → Int → Int → Int → Int → O β) (k0 : ByteArray → O β) (k1 : List Int → Int → Int → Int → O β) : O β :=
zq15 v1 fun r10 =>
(cond ((decide (v4 < r10)))
((gd ((decide (0 ≤ v4)))
((gd ((decide (v4 < (v0.length : Int))))
((gd ((decide (0 ≤ v2)))
((gd ((decide (v2 < (v0.length : Int))))
((cond ((decide ((rd 0 v0 v4) ≥ (rd 0 v0 v2))))
(rec_ v0 v1 v2 v3 ((w64 (v4 + 1))))
(zq19 self  N v0 v1 v2 v3 v4 1 (fun e18_0 =>
k0 e18_0) (fun e19_0 e19_1 e19_2 e19_3 e19_4 =>
rec_ e19_0 e19_1 e19_2 e19_3 ((w64 (e19_4 + 1)))))))))))))))
(k1 v0 v1 v2 v3))
theorem zt20 (N : Nat) (self : List Int → Int → Int → (ByteArray → O β) → O β)  (v0 : List Int) (v1 : Int) (v2 : Int) (v3 : Int) (v4 : Int) (rec_ : List Int → Int → Int → Int → Int → O β) (k0 : ByteArray → O β) (k1 : List Int → Int → Int → Int → O β) : zj20 N self v0 v1 v2 v3 v4 rec_ k0 k1 = zb20 N (zj15 N) (zj19 N) self v0 v1 v2 v3 v4 rec_ k0 k1 := by
  unfold zj20 zb20
  rfl
theorem vst19_2_0 (N : Nat) (zq15 : (a0 : Int) → (k : Int → O β) → O β) (zq7 : (a0 : Int) → (a1 : Int) → (k : Int → O β) → O β) (zq25 : Nat → List Int → Int → Int → (ByteArray → O β) → O β) (zq17 : Nat → List Int → Int → Int → Int → (ByteArray → O β) → (List Int → Int → Int → O β) → O β) (zq23 : (self : List Int → Int → Int → (ByteArray → O β) → O β) → Nat → List Int → Int → Int → Int → (ByteArray → O β) → (O β) → O β) (zq21 : (self : List Int → Int → Int → (ByteArray → O β) → O β) → Nat → List Int → Int → Int → Int → Int → (ByteArray → O β) → (List Int → Int → Int → Int → O β) → O β) (zq19 : (self : List Int → Int → Int → (ByteArray → O β) → O β) → Nat → List Int → Int → Int → Int → Int → Int → (ByteArray → O β) → (List Int → Int → Int → Int → Int → O β) → O β) (G : Nat)  (v0 : List Int) (v1 : Int) (v2 : Int) (v3 : Int) (v4 : Int) (rec_ : St → O β) (K : Exit → St → O β) :
    ev lay (VE19 N zq15 zq7 zq25 zq17 zq23 zq21 zq19 G) (retMask Tryd.f19) (lp Tryd.f19 2).body (lp Tryd.f19 2).ex ((lp Tryd.f19 2).lv (retMask Tryd.f19)) (h19_2_0  v0 v1 v2 v3 v4) (nextR (fun s' => rec_ (s'.tidy ((lp Tryd.f19 2).lv (retMask Tryd.f19)))) K) = zb20 N zq15 zq19 (zq25 G)  v0 v1 v2 v3 v4 (fun v0 v1 v2 v3 v4 => rec_ (h19_2_0  v0 v1 v2 v3 v4)) (fun y0 => K .ret (x19_2_0_k0  y0)) (fun y0 y1 y2 y3 => K (.exit 4) (x19_2_0_k1  y0 y1 y2 y3)) := by kernel_rfl
theorem st19_2_0 (N : Nat) (G : Nat)  (v0 : List Int) (v1 : Int) (v2 : Int) (v3 : Int) (v4 : Int) (rec_ : St → O β) (K : Exit → St → O β) :
    ev lay (E19 N G) (retMask Tryd.f19) (lp Tryd.f19 2).body (lp Tryd.f19 2).ex ((lp Tryd.f19 2).lv (retMask Tryd.f19)) (h19_2_0  v0 v1 v2 v3 v4) (nextR (fun s' => rec_ (s'.tidy ((lp Tryd.f19 2).lv (retMask Tryd.f19)))) K) = zj20 N (zj25 N G)  v0 v1 v2 v3 v4 (fun v0 v1 v2 v3 v4 => rec_ (h19_2_0  v0 v1 v2 v3 v4)) (fun y0 => K .ret (x19_2_0_k0  y0)) (fun y0 y1 y2 y3 => K (.exit 4) (x19_2_0_k1  y0 y1 y2 y3)) := (vst19_2_0 N (zj15 N) (zj7 N) (zj25 N) (zj17 N) (zj23 N) (zj21 N) (zj19 N) G v0 v1 v2 v3 v4 rec_ K).trans (zt20 N (zj25 N G)  v0 v1 v2 v3 v4 (fun v0 v1 v2 v3 v4 => rec_ (h19_2_0  v0 v1 v2 v3 v4)) (fun y0 => K .ret (x19_2_0_k0  y0)) (fun y0 y1 y2 y3 => K (.exit 4) (x19_2_0_k1  y0 y1 y2 y3))).symm
theorem ro19_2_0 (N : Nat) (G : Nat)  (K : Exit → St → O β) : ∀ (F : Nat) (v0 : List Int) (v1 : Int) (v2 : Int) (v3 : Int) (v4 : Int), (lp Tryd.f19 2).rounds lay (E19 N G) (retMask Tryd.f19) F (h19_2_0  v0 v1 v2 v3 v4) K = zj21 N (zj25 N G)  F v0 v1 v2 v3 v4 (fun y0 => K .ret (x19_2_0_k0  y0)) (fun y0 y1 y2 y3 => K (.exit 4) (x19_2_0_k1  y0 y1 y2 y3)) := by
  intro F
  induction F with
  | zero => intros; rfl
  | succ F ih =>
    intros
    rw [rounds_next]
    refine (st19_2_0 N G  _ _ _ _ _ (fun s => (lp Tryd.f19 2).rounds lay (E19 N G) (retMask Tryd.f19) F s K) K).trans ?_
    simp only [ih]
    rfl
theorem lk19_4 (N : Nat) (G : Nat) : lookL (E19 (β := β) N G).loops (lp Tryd.f19 2).id = LS19_4 N G := by kernel_rfl
theorem rk19_4 (N : Nat) (G : Nat) : RoundsOK lay (E19 (β := β) N G) (retMask Tryd.f19) (lp Tryd.f19 2) := by
  intro s K r h
  rw [lk19_4] at h
  unfold LS19_4 VLS19_4 at h
  cases hb : shpSt (h19_2_0 [] 0 0 0 0) s with
  | true =>
    rw [hb, cond_true] at h
    exact ⟨N, by rw [← shpSt_ref hb, fl19_2_0 s]; exact (ro19_2_0 N G  K N (rInts (rowV (oneA (vT (nx tund s.tmps 0))))) (intS (oneA (vT (nx tund s.tmps 1)))) (intS (oneA (vT (nx tund s.tmps 2)))) (intS (oneA (vT (nx tund s.tmps 8)))) (intS (oneA (vT (nx tund s.tmps 9))))).trans h⟩
  | false =>
  rw [hb, cond_false] at h
  clear hb
  cases h
def zb18 (N : Nat) (zq15 : (a0 : Int) → (k : Int → O β) → O β) (self : List Int → Int → Int → (ByteArray → O β) → O β)  (v0 : List Int) (v1 : Int) (v2 : Int) (v3 : Int) (v4 : Int) (v5 : Int) (rec_ : List Int → Int → Int → Int → Int → Int → O β) (k0 : ByteArray → O β) (k1 : List Int → Int → Int → Int → Int → O β) : O β :=
zq15 v1 fun r11 =>
(cond ((decide (v5 < r11)))
((gd ((decide (0 ≤ v4)))
((gd ((decide (v4 < (v0.length : Int))))
((gd ((decide (0 ≤ v5)))
((gd ((decide (v5 < (v0.length : Int))))
((gd ((decide (0 ≤ v2)))
((gd ((decide (v2 < (v0.length : Int))))
((cond (((w64 ((rd 0 v0 v4) + (rd 0 v0 v5))) != (rd 0 v0 v2)))
(rec_ v0 v1 v2 v3 v4 ((w64 (v5 + 1))))
((cond ((v3 == 0))
((cond (((bits .and .i64 v4 v5) == v2))
(self v0 v1 v4 fun r12 =>
(gd ((decide (((strOf [38])).size + r12.size ≤ 9223372036854775807)))
(self v0 v1 v5 fun r13 =>
(gd ((decide ((((strOf [38]) ++ r12)).size + r13.size ≤ 9223372036854775807)))
(k0 ((((strOf [38]) ++ r12) ++ r13)))))))
((cond ((v3 == 1))
((cond (((bits .or .i64 v4 v5) == v2))
(self v0 v1 v4 fun r14 =>
(gd ((decide (((strOf [124])).size + r14.size ≤ 9223372036854775807)))
(self v0 v1 v5 fun r15 =>
(gd ((decide ((((strOf [124]) ++ r14)).size + r15.size ≤ 9223372036854775807)))
(k0 ((((strOf [124]) ++ r14) ++ r15)))))))
(rec_ v0 v1 v2 v3 v4 ((w64 (v5 + 1))))))
(rec_ v0 v1 v2 v3 v4 ((w64 (v5 + 1))))))))
((cond ((v3 == 1))
((cond (((bits .or .i64 v4 v5) == v2))
(self v0 v1 v4 fun r16 =>
(gd ((decide (((strOf [124])).size + r16.size ≤ 9223372036854775807)))
(self v0 v1 v5 fun r17 =>
(gd ((decide ((((strOf [124]) ++ r16)).size + r17.size ≤ 9223372036854775807)))
(k0 ((((strOf [124]) ++ r16) ++ r17)))))))
(rec_ v0 v1 v2 v3 v4 ((w64 (v5 + 1))))))
(rec_ v0 v1 v2 v3 v4 ((w64 (v5 + 1))))))))))))))))))))))
(k1 v0 v1 v2 v3 v4))
theorem zt18 (N : Nat) (self : List Int → Int → Int → (ByteArray → O β) → O β)  (v0 : List Int) (v1 : Int) (v2 : Int) (v3 : Int) (v4 : Int) (v5 : Int) (rec_ : List Int → Int → Int → Int → Int → Int → O β) (k0 : ByteArray → O β) (k1 : List Int → Int → Int → Int → Int → O β) : zj18 N self v0 v1 v2 v3 v4 v5 rec_ k0 k1 = zb18 N (zj15 N) self v0 v1 v2 v3 v4 v5 rec_ k0 k1 := by
  unfold zj18 zb18
  rfl
theorem vst19_3_0 (N : Nat) (zq15 : (a0 : Int) → (k : Int → O β) → O β) (zq7 : (a0 : Int) → (a1 : Int) → (k : Int → O β) → O β) (zq25 : Nat → List Int → Int → Int → (ByteArray → O β) → O β) (zq17 : Nat → List Int → Int → Int → Int → (ByteArray → O β) → (List Int → Int → Int → O β) → O β) (zq23 : (self : List Int → Int → Int → (ByteArray → O β) → O β) → Nat → List Int → Int → Int → Int → (ByteArray → O β) → (O β) → O β) (zq21 : (self : List Int → Int → Int → (ByteArray → O β) → O β) → Nat → List Int → Int → Int → Int → Int → (ByteArray → O β) → (List Int → Int → Int → Int → O β) → O β) (zq19 : (self : List Int → Int → Int → (ByteArray → O β) → O β) → Nat → List Int → Int → Int → Int → Int → Int → (ByteArray → O β) → (List Int → Int → Int → Int → Int → O β) → O β) (G : Nat)  (v0 : List Int) (v1 : Int) (v2 : Int) (v3 : Int) (v4 : Int) (v5 : Int) (rec_ : St → O β) (K : Exit → St → O β) :
    ev lay (VE19 N zq15 zq7 zq25 zq17 zq23 zq21 zq19 G) (retMask Tryd.f19) (lp Tryd.f19 3).body (lp Tryd.f19 3).ex ((lp Tryd.f19 3).lv (retMask Tryd.f19)) (h19_3_0  v0 v1 v2 v3 v4 v5) (nextR (fun s' => rec_ (s'.tidy ((lp Tryd.f19 3).lv (retMask Tryd.f19)))) K) = zb18 N zq15 (zq25 G)  v0 v1 v2 v3 v4 v5 (fun v0 v1 v2 v3 v4 v5 => rec_ (h19_3_0  v0 v1 v2 v3 v4 v5)) (fun y0 => K .ret (x19_3_0_k0  y0)) (fun y0 y1 y2 y3 y4 => K (.exit 6) (x19_3_0_k1  y0 y1 y2 y3 y4)) := by kernel_rfl
theorem st19_3_0 (N : Nat) (G : Nat)  (v0 : List Int) (v1 : Int) (v2 : Int) (v3 : Int) (v4 : Int) (v5 : Int) (rec_ : St → O β) (K : Exit → St → O β) :
    ev lay (E19 N G) (retMask Tryd.f19) (lp Tryd.f19 3).body (lp Tryd.f19 3).ex ((lp Tryd.f19 3).lv (retMask Tryd.f19)) (h19_3_0  v0 v1 v2 v3 v4 v5) (nextR (fun s' => rec_ (s'.tidy ((lp Tryd.f19 3).lv (retMask Tryd.f19)))) K) = zj18 N (zj25 N G)  v0 v1 v2 v3 v4 v5 (fun v0 v1 v2 v3 v4 v5 => rec_ (h19_3_0  v0 v1 v2 v3 v4 v5)) (fun y0 => K .ret (x19_3_0_k0  y0)) (fun y0 y1 y2 y3 y4 => K (.exit 6) (x19_3_0_k1  y0 y1 y2 y3 y4)) := (vst19_3_0 N (zj15 N) (zj7 N) (zj25 N) (zj17 N) (zj23 N) (zj21 N) (zj19 N) G v0 v1 v2 v3 v4 v5 rec_ K).trans (zt18 N (zj25 N G)  v0 v1 v2 v3 v4 v5 (fun v0 v1 v2 v3 v4 v5 => rec_ (h19_3_0  v0 v1 v2 v3 v4 v5)) (fun y0 => K .ret (x19_3_0_k0  y0)) (fun y0 y1 y2 y3 y4 => K (.exit 6) (x19_3_0_k1  y0 y1 y2 y3 y4))).symm
theorem ro19_3_0 (N : Nat) (G : Nat)  (K : Exit → St → O β) : ∀ (F : Nat) (v0 : List Int) (v1 : Int) (v2 : Int) (v3 : Int) (v4 : Int) (v5 : Int), (lp Tryd.f19 3).rounds lay (E19 N G) (retMask Tryd.f19) F (h19_3_0  v0 v1 v2 v3 v4 v5) K = zj19 N (zj25 N G)  F v0 v1 v2 v3 v4 v5 (fun y0 => K .ret (x19_3_0_k0  y0)) (fun y0 y1 y2 y3 y4 => K (.exit 6) (x19_3_0_k1  y0 y1 y2 y3 y4)) := by
  intro F
  induction F with
  | zero => intros; rfl
  | succ F ih =>
    intros
    rw [rounds_next]
    refine (st19_3_0 N G  _ _ _ _ _ _ (fun s => (lp Tryd.f19 3).rounds lay (E19 N G) (retMask Tryd.f19) F s K) K).trans ?_
    simp only [ih]
    rfl
theorem lk19_6 (N : Nat) (G : Nat) : lookL (E19 (β := β) N G).loops (lp Tryd.f19 3).id = LS19_6 N G := by kernel_rfl
theorem rk19_6 (N : Nat) (G : Nat) : RoundsOK lay (E19 (β := β) N G) (retMask Tryd.f19) (lp Tryd.f19 3) := by
  intro s K r h
  rw [lk19_6] at h
  unfold LS19_6 VLS19_6 at h
  cases hb : shpSt (h19_3_0 [] 0 0 0 0 0) s with
  | true =>
    rw [hb, cond_true] at h
    exact ⟨N, by rw [← shpSt_ref hb, fl19_3_0 s]; exact (ro19_3_0 N G  K N (rInts (rowV (oneA (vT (nx tund s.tmps 0))))) (intS (oneA (vT (nx tund s.tmps 1)))) (intS (oneA (vT (nx tund s.tmps 2)))) (intS (oneA (vT (nx tund s.tmps 8)))) (intS (oneA (vT (nx tund s.tmps 9)))) (intS (oneA (vT (nx tund s.tmps 10))))).trans h⟩
  | false =>
  rw [hb, cond_false] at h
  clear hb
  cases h
def zb24 (N : Nat) (zq15 : (a0 : Int) → (k : Int → O β) → O β) (zq17 : Nat → List Int → Int → Int → Int → (ByteArray → O β) → (List Int → Int → Int → O β) → O β) (zq23 : (self : List Int → Int → Int → (ByteArray → O β) → O β) → Nat → List Int → Int → Int → Int → (ByteArray → O β) → (O β) → O β) (self : List Int → Int → Int → (ByteArray → O β) → O β) (a0 : List Int) (a1 : Int) (a2 : Int) (k : ByteArray → O β) : O β :=
(cond ((a2 == 0))
(k ((strOf [48])))
(zq15 a1 fun r4 =>
(cond ((a2 == r4))
(k ((strOf [49])))
(zq17  N a0 a1 a2 0 (fun e8_0 =>
k e8_0) (fun e9_0 e9_1 e9_2 =>
zq23 self  N e9_0 e9_1 e9_2 0 (fun e22_0 =>
k e22_0) (k ByteArray.empty))))))
theorem zt24 (N : Nat) (self : List Int → Int → Int → (ByteArray → O β) → O β) (a0 : List Int) (a1 : Int) (a2 : Int) (k : ByteArray → O β) : zj24 N self a0 a1 a2 k = zb24 N (zj15 N) (zj17 N) (zj23 N) self a0 a1 a2 k := by
  unfold zj24 zb24
  rfl
theorem ve19_0 (N : Nat) (zq15 : (a0 : Int) → (k : Int → O β) → O β) (zq7 : (a0 : Int) → (a1 : Int) → (k : Int → O β) → O β) (zq25 : Nat → List Int → Int → Int → (ByteArray → O β) → O β) (zq17 : Nat → List Int → Int → Int → Int → (ByteArray → O β) → (List Int → Int → Int → O β) → O β) (zq23 : (self : List Int → Int → Int → (ByteArray → O β) → O β) → Nat → List Int → Int → Int → Int → (ByteArray → O β) → (O β) → O β) (zq21 : (self : List Int → Int → Int → (ByteArray → O β) → O β) → Nat → List Int → Int → Int → Int → Int → (ByteArray → O β) → (List Int → Int → Int → Int → O β) → O β) (zq19 : (self : List Int → Int → Int → (ByteArray → O β) → O β) → Nat → List Int → Int → Int → Int → Int → Int → (ByteArray → O β) → (List Int → Int → Int → Int → Int → O β) → O β) (G : Nat)  (a0 : List Int) (a1 : Int) (a2 : Int) (K : TV → O β) : evFn lay (VE19 N zq15 zq7 zq25 zq17 zq23 zq21 zq19 G) Tryd.f19 [.v (.one (.sl 3 (.ints .i64 a0))), .v (.one (.int .i64 a1)), .v (.one (.int .i64 a2))] K = zb24 N zq15 zq17 zq23 (zq25 G) a0 a1 a2 (fun z3 => K (.v (.one (.str z3)))) := by kernel_rfl
theorem e19_0 (N : Nat) (G : Nat)  (a0 : List Int) (a1 : Int) (a2 : Int) (K : TV → O β) : evFn lay (E19 N G) Tryd.f19 [.v (.one (.sl 3 (.ints .i64 a0))), .v (.one (.int .i64 a1)), .v (.one (.int .i64 a2))] K = zj25 N (G + 1) a0 a1 a2 (fun z3 => K (.v (.one (.str z3)))) := (ve19_0 N (zj15 N) (zj7 N) (zj25 N) (zj17 N) (zj23 N) (zj21 N) (zj19 N) G a0 a1 a2 K).trans (zt24 N (zj25 N G) a0 a1 a2 (fun z3 => K (.v (.one (.str z3))))).symm
theorem z19 (N : Nat) : ∀ args K r, SF19 (β := β) N 0 args K = some r → (none : O β) = some r := by
  intro args K r h
  unfold SF19 VSF19 at h
  split at h <;> exact h
theorem of19 (N : Nat) : ∀ G, SpecOK (β := β) inv Tryd.prog 19 (SF19 N G) := by
  intro G
  induction G with
  | zero => exact s_zero Tryd.func19 (by kernel_rfl) (z19 N)
  | succ G ih =>
    refine spec_of lay_ok mixed (E := E19 N G) (specs_loops (specs_cons (o25 N) (specs_cons (o26 N) (specs_cons ih specs_nil)))) muts_nil gs_nil Tryd.func19 (by kernel_rfl) 4 (by kernel_rfl) ⟨⟨⟨⟨trivial, rk19_0 N G⟩, rk19_2 N G⟩, rk19_4 N G⟩, rk19_6 N G⟩ fun args K r h => ?_
    unfold SF19 VSF19 at h
    split at h
    · exact (e19_0 N G _ _ _ _).trans h
    · cases h
theorem o19 (N : Nat) : SpecOK (β := β) inv Tryd.prog 19 (S19 N) := of19 N N
def VS10 (N : Nat) (zq27 : (a0 : Int) → (a1 : Int) → (k : ByteArray → Bool → O β) → O β) : Rv.Spec β := fun args K => match args with
  | [.v (.agg [.int .i64 a0, .int .i64 a1])] => zq27 a0 a1 (fun z2 z3 => K (.tup [.one (.str z2), .one (.bool z3)]))
  | _ => none
def S10 (N : Nat) : Rv.Spec β := VS10 N (zj27 N)
def VE10 (N : Nat) (zq14 : (a0 : Int) → (a1 : Int) → (k : Bool → O β) → O β) (zq25 : Nat → List Int → Int → Int → (ByteArray → O β) → O β) : Env β := ⟨[(18, VS18 N zq14), (20, S20 N), (19, VS19 N zq25)], [], [], [], ⟨[], [], [], []⟩⟩
def E10 (N : Nat) : Env β := VE10 N (zj14 N) (zj25 N)
def zb27 (N : Nat) (zq14 : (a0 : Int) → (a1 : Int) → (k : Bool → O β) → O β) (zq25 : Nat → List Int → Int → Int → (ByteArray → O β) → O β) (a0 : Int) (a1 : Int) (k : ByteArray → Bool → O β) : O β :=
zq14 a0 a1 fun r4 =>
(cond (!r4)
(k ByteArray.empty false)
((cond ((decide (a0 > 3)))
(k ByteArray.empty false)
(spec_l22Sizes N a0 fun r5 =>
zq25 N r5 a0 a1 fun r6 =>
k r6 true))))
theorem zt27 (N : Nat) (a0 : Int) (a1 : Int) (k : ByteArray → Bool → O β) : zj27 N a0 a1 k = zb27 N (zj14 N) (zj25 N) a0 a1 k := by
  unfold zj27 zb27
  rfl
theorem ve10_0 (N : Nat) (zq14 : (a0 : Int) → (a1 : Int) → (k : Bool → O β) → O β) (zq25 : Nat → List Int → Int → Int → (ByteArray → O β) → O β)  (a0 : Int) (a1 : Int) (K : TV → O β) : evFn lay (VE10 N zq14 zq25) Tryd.f10 [.v (.agg [.int .i64 a0, .int .i64 a1])] K = zb27 N zq14 zq25 a0 a1 (fun z2 z3 => K (.tup [.one (.str z2), .one (.bool z3)])) := by kernel_rfl
theorem e10_0 (N : Nat)  (a0 : Int) (a1 : Int) (K : TV → O β) : evFn lay (E10 N) Tryd.f10 [.v (.agg [.int .i64 a0, .int .i64 a1])] K = zj27 N a0 a1 (fun z2 z3 => K (.tup [.one (.str z2), .one (.bool z3)])) := (ve10_0 N (zj14 N) (zj25 N) a0 a1 K).trans (zt27 N a0 a1 (fun z2 z3 => K (.tup [.one (.str z2), .one (.bool z3)]))).symm
theorem o10 (N : Nat) : SpecOK (β := β) inv Tryd.prog 10 (S10 N) := by
  refine spec_of lay_ok mixed (E := E10 N) (specs_loops (specs_cons (o18 N) (specs_cons (o20 N) (specs_cons (o19 N) specs_nil)))) muts_nil gs_nil Tryd.func10 (by kernel_rfl) 0 (by kernel_rfl) trivial fun args K r h => ?_
  unfold S10 VS10 at h
  split at h
  · exact (e10_0 N _ _ _).trans h
  · cases h
end Go.Proofs.YtmhlcbibbhelkaaDoor
