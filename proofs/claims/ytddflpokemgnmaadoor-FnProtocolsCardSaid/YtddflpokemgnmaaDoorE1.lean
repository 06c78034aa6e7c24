/- The functions that the claims reach answer as their texts do. -/
import Derived.Test.YtddflpokemgnmaaDoorE0
namespace Go.Proofs.YtddflpokemgnmaaDoor
open Go.Rv
set_option maxRecDepth 100000
set_option maxHeartbeats 2000000
set_option linter.unusedVariables false
variable {β : Type}
def VS55 (N : Nat) (zq21 : (a0 : Int) → (a1 : List Int) → (a2 : Int) → (a3 : Int) → (k0 : Int → Int → List Int → Int → Int → O β) → O β) : GSpec β := fun args bl K => match args, bl with
  | [.v (.one (.ptr 0 0)), .v (.one (.int .i64 a0))], [.pcells 0 96 [.sl 5 (.ints .u8 a1), .int .i64 a2, .int .i64 a3]] => zq21 a0 a1 a2 a3 (fun y0 y1 y2 y3 y4 => K (.v (.agg [.int .i64 y0, .int .i64 y1])) [.pcells 0 96 [.sl 5 (.ints .u8 y2), .int .i64 y3, .int .i64 y4]])
  | _, _ => none
def S55 (N : Nat) : GSpec β := VS55 N (zj21 N)
def h55_0_0  (v0 : Int) (v1 : Int) (v2 : Int) (v3 : List Int) (v4 : Int) (v5 : Int) (v6 : Int) (v7 : Int) : St := ⟨tund :: .v (.one (.int .i64 v0)) :: tund :: tund :: .v (.one (.ptr 1 0)) :: .v (.one (.int .i64 v1)) :: .v (.one (.int .i64 v2)) :: tund :: tund :: tund :: tund :: tund :: tund :: tund :: tund :: tund :: tund :: tund :: tund :: tund :: tund :: tund :: tund :: tund :: tund :: tund :: tund :: tund :: tund :: tund :: tund :: tund :: tund :: tund :: tund :: tund :: tund :: tund :: tund :: tund :: tund :: tund :: tund :: tund :: tund :: tund :: tund :: tund :: tund :: tund :: tund :: tund :: tund :: tund :: tund :: tund :: tund :: tund :: tund :: tund :: tund :: tund :: tund :: tund :: tund :: tund :: tund :: tund :: tund :: tund :: tund :: tund :: tund :: tund :: tund :: tund :: tund :: tund :: tund :: tund :: tund :: tund :: tund :: tund :: tund :: tund :: tund :: tund :: tund :: tund :: tund :: tund :: tund :: tund :: tund :: tund :: tund :: [], [.pcells 0 96 [.sl 5 (.ints .u8 v3), .int .i64 v4, .int .i64 v5], .cells 25 [.int .i64 v6, .int .i64 v7]]⟩
def x55_0_0_k0  (y0 : Int) (y1 : Int) (y2 : List Int) (y3 : Int) (y4 : Int) (y5 : Int) (y6 : Int) : St := ⟨tund :: .v (.one (.int .i64 y0)) :: tund :: tund :: .v (.one (.ptr 1 0)) :: .v (.one (.int .i64 y1)) :: tund :: tund :: tund :: tund :: tund :: tund :: tund :: tund :: tund :: tund :: tund :: tund :: tund :: tund :: tund :: tund :: tund :: tund :: tund :: tund :: tund :: tund :: tund :: tund :: tund :: tund :: tund :: tund :: tund :: tund :: tund :: tund :: tund :: tund :: tund :: tund :: tund :: tund :: tund :: tund :: tund :: tund :: tund :: tund :: tund :: tund :: tund :: tund :: tund :: tund :: tund :: tund :: tund :: tund :: tund :: tund :: tund :: tund :: tund :: tund :: tund :: tund :: tund :: tund :: tund :: tund :: tund :: tund :: tund :: tund :: tund :: tund :: tund :: tund :: tund :: tund :: tund :: tund :: tund :: tund :: tund :: tund :: tund :: tund :: tund :: tund :: tund :: tund :: tund :: tund :: tund :: [], [.pcells 0 96 [.sl 5 (.ints .u8 y2), .int .i64 y3, .int .i64 y4], .cells 25 [.int .i64 y5, .int .i64 y6]]⟩
def h55_1_0  (v0 : Int) (v1 : Int) (v2 : Int) (v3 : List Int) (v4 : Int) (v5 : Int) (v6 : Int) (v7 : Int) : St := ⟨tund :: .v (.one (.int .i64 v0)) :: tund :: tund :: .v (.one (.ptr 1 0)) :: .v (.one (.int .i64 v1)) :: tund :: .v (.one (.int .i64 v2)) :: tund :: tund :: tund :: tund :: tund :: tund :: tund :: tund :: tund :: tund :: tund :: tund :: tund :: tund :: tund :: tund :: tund :: tund :: tund :: tund :: tund :: tund :: tund :: tund :: tund :: tund :: tund :: tund :: tund :: tund :: tund :: tund :: tund :: tund :: tund :: tund :: tund :: tund :: tund :: tund :: tund :: tund :: tund :: tund :: tund :: tund :: tund :: tund :: tund :: tund :: tund :: tund :: tund :: tund :: tund :: tund :: tund :: tund :: tund :: tund :: tund :: tund :: tund :: tund :: tund :: tund :: tund :: tund :: tund :: tund :: tund :: tund :: tund :: tund :: tund :: tund :: tund :: tund :: tund :: tund :: tund :: tund :: tund :: tund :: tund :: tund :: tund :: tund :: tund :: [], [.pcells 0 96 [.sl 5 (.ints .u8 v3), .int .i64 v4, .int .i64 v5], .cells 25 [.int .i64 v6, .int .i64 v7]]⟩
def x55_1_0_k0  (y0 : Int) (y1 : Int) (y2 : List Int) (y3 : Int) (y4 : Int) (y5 : Int) (y6 : Int) : St := ⟨tund :: .v (.one (.int .i64 y0)) :: tund :: tund :: .v (.one (.ptr 1 0)) :: .v (.one (.int .i64 y1)) :: tund :: tund :: tund :: tund :: tund :: tund :: tund :: tund :: tund :: tund :: tund :: tund :: tund :: tund :: tund :: tund :: tund :: tund :: tund :: tund :: tund :: tund :: tund :: tund :: tund :: tund :: tund :: tund :: tund :: tund :: tund :: tund :: tund :: tund :: tund :: tund :: tund :: tund :: tund :: tund :: tund :: tund :: tund :: tund :: tund :: tund :: tund :: tund :: tund :: tund :: tund :: tund :: tund :: tund :: tund :: tund :: tund :: tund :: tund :: tund :: tund :: tund :: tund :: tund :: tund :: tund :: tund :: tund :: tund :: tund :: tund :: tund :: tund :: tund :: tund :: tund :: tund :: tund :: tund :: tund :: tund :: tund :: tund :: tund :: tund :: tund :: tund :: tund :: tund :: tund :: tund :: [], [.pcells 0 96 [.sl 5 (.ints .u8 y2), .int .i64 y3, .int .i64 y4], .cells 25 [.int .i64 y5, .int .i64 y6]]⟩
def h55_2_0  (v0 : Int) (v1 : Int) (v2 : Int) (v3 : Int) (v4 : List Int) (v5 : Int) (v6 : Int) (v7 : Int) (v8 : Int) : St := ⟨tund :: .v (.one (.int .i64 v0)) :: tund :: tund :: .v (.one (.ptr 1 0)) :: .v (.one (.int .i64 v1)) :: tund :: tund :: .v (.one (.int .i64 v2)) :: .v (.one (.int .i64 v3)) :: tund :: tund :: tund :: tund :: tund :: tund :: tund :: tund :: tund :: tund :: tund :: tund :: tund :: tund :: tund :: tund :: tund :: tund :: tund :: tund :: tund :: tund :: tund :: tund :: tund :: tund :: tund :: tund :: tund :: tund :: tund :: tund :: tund :: tund :: tund :: tund :: tund :: tund :: tund :: tund :: tund :: tund :: tund :: tund :: tund :: tund :: tund :: tund :: tund :: tund :: tund :: tund :: tund :: tund :: tund :: tund :: tund :: tund :: tund :: tund :: tund :: tund :: tund :: tund :: tund :: tund :: tund :: tund :: tund :: tund :: tund :: tund :: tund :: tund :: tund :: tund :: tund :: tund :: tund :: tund :: tund :: tund :: tund :: tund :: tund :: tund :: tund :: [], [.pcells 0 96 [.sl 5 (.ints .u8 v4), .int .i64 v5, .int .i64 v6], .cells 25 [.int .i64 v7, .int .i64 v8]]⟩
def x55_2_0_k0  (y0 : Int) (y1 : Int) (y2 : List Int) (y3 : Int) (y4 : Int) (y5 : Int) (y6 : Int) : St := ⟨tund :: .v (.one (.int .i64 y0)) :: tund :: tund :: .v (.one (.ptr 1 0)) :: .v (.one (.int .i64 y1)) :: tund :: tund :: tund :: tund :: tund :: tund :: tund :: tund :: tund :: tund :: tund :: tund :: tund :: tund :: tund :: tund :: tund :: tund :: tund :: tund :: tund :: tund :: tund :: tund :: tund :: tund :: tund :: tund :: tund :: tund :: tund :: tund :: tund :: tund :: tund :: tund :: tund :: tund :: tund :: tund :: tund :: tund :: tund :: tund :: tund :: tund :: tund :: tund :: tund :: tund :: tund :: tund :: tund :: tund :: tund :: tund :: tund :: tund :: tund :: tund :: tund :: tund :: tund :: tund :: tund :: tund :: tund :: tund :: tund :: tund :: tund :: tund :: tund :: tund :: tund :: tund :: tund :: tund :: tund :: tund :: tund :: tund :: tund :: tund :: tund :: tund :: tund :: tund :: tund :: tund :: tund :: [], [.pcells 0 96 [.sl 5 (.ints .u8 y2), .int .i64 y3, .int .i64 y4], .cells 25 [.int .i64 y5, .int .i64 y6]]⟩
def h55_3_0  (v0 : Int) (v1 : Int) (v2 : Int) (v3 : List Int) (v4 : Int) (v5 : Int) (v6 : Int) (v7 : Int) : St := ⟨.v (.one (.ptr 0 0)) :: .v (.one (.int .i64 v0)) :: tund :: tund :: .v (.one (.ptr 1 0)) :: .v (.one (.int .i64 v1)) :: tund :: tund :: tund :: tund :: .v (.one (.int .i64 v2)) :: tund :: tund :: tund :: tund :: tund :: tund :: tund :: tund :: tund :: tund :: tund :: tund :: tund :: tund :: tund :: tund :: tund :: tund :: tund :: tund :: tund :: tund :: tund :: tund :: tund :: tund :: tund :: tund :: tund :: tund :: tund :: tund :: tund :: tund :: tund :: tund :: tund :: tund :: tund :: tund :: tund :: tund :: tund :: tund :: tund :: tund :: tund :: tund :: tund :: tund :: tund :: tund :: tund :: tund :: tund :: tund :: tund :: tund :: tund :: tund :: tund :: tund :: tund :: tund :: tund :: tund :: tund :: tund :: tund :: tund :: tund :: tund :: tund :: tund :: tund :: tund :: tund :: tund :: tund :: tund :: tund :: tund :: tund :: tund :: tund :: tund :: [], [.pcells 0 96 [.sl 5 (.ints .u8 v3), .int .i64 v4, .int .i64 v5], .cells 25 [.int .i64 v6, .int .i64 v7]]⟩
def x55_3_0_k0  (y0 : Int) (y1 : Int) (y2 : List Int) (y3 : Int) (y4 : Int) (y5 : Int) (y6 : Int) : St := ⟨tund :: .v (.one (.int .i64 y0)) :: tund :: tund :: .v (.one (.ptr 1 0)) :: .v (.one (.int .i64 y1)) :: tund :: tund :: tund :: tund :: tund :: tund :: tund :: tund :: tund :: tund :: tund :: tund :: tund :: tund :: tund :: tund :: tund :: tund :: tund :: tund :: tund :: tund :: tund :: tund :: tund :: tund :: tund :: tund :: tund :: tund :: tund :: tund :: tund :: tund :: tund :: tund :: tund :: tund :: tund :: tund :: tund :: tund :: tund :: tund :: tund :: tund :: tund :: tund :: tund :: tund :: tund :: tund :: tund :: tund :: tund :: tund :: tund :: tund :: tund :: tund :: tund :: tund :: tund :: tund :: tund :: tund :: tund :: tund :: tund :: tund :: tund :: tund :: tund :: tund :: tund :: tund :: tund :: tund :: tund :: tund :: tund :: tund :: tund :: tund :: tund :: tund :: tund :: tund :: tund :: tund :: tund :: [], [.pcells 0 96 [.sl 5 (.ints .u8 y2), .int .i64 y3, .int .i64 y4], .cells 25 [.int .i64 y5, .int .i64 y6]]⟩
theorem fl55_0_0 (s : St) : refSt (h55_0_0 0 0 0 [] 0 0 0 0) s = h55_0_0 (intS (oneA (vT (nx tund s.tmps 1)))) (intS (oneA (vT (nx tund s.tmps 5)))) (intS (oneA (vT (nx tund s.tmps 6)))) (rInts (rowV (nx .und (cellsB (nx .dead s.blks 0)) 0))) (intS (nx .und (cellsB (nx .dead s.blks 0)) 1)) (intS (nx .und (cellsB (nx .dead s.blks 0)) 2)) (intS (nx .und (cellsB (nx .dead s.blks 1)) 0)) (intS (nx .und (cellsB (nx .dead s.blks 1)) 1)) := by kernel_rfl
def VLS55_3 (N : Nat) (zq14 : Nat → Int → Int → Int → List Int → Int → Int → Int → Int → (Int → Int → List Int → Int → Int → Int → Int → O β) → O β) : LSpec β := fun s K => cond (shpSt (h55_0_0 0 0 0 [] 0 0 0 0) s) ((fun (v0 : Int) (v1 : Int) (v2 : Int) (v3 : List Int) (v4 : Int) (v5 : Int) (v6 : Int) (v7 : Int) => zq14  N v0 v1 v2 v3 v4 v5 v6 v7 (fun y0 y1 y2 y3 y4 y5 y6 => K (.exit 3) (x55_0_0_k0  y0 y1 y2 y3 y4 y5 y6))) (intS (oneA (vT (nx tund s.tmps 1)))) (intS (oneA (vT (nx tund s.tmps 5)))) (intS (oneA (vT (nx tund s.tmps 6)))) (rInts (rowV (nx .und (cellsB (nx .dead s.blks 0)) 0))) (intS (nx .und (cellsB (nx .dead s.blks 0)) 1)) (intS (nx .und (cellsB (nx .dead s.blks 0)) 2)) (intS (nx .und (cellsB (nx .dead s.blks 1)) 0)) (intS (nx .und (cellsB (nx .dead s.blks 1)) 1))) (none)
def LS55_3 (N : Nat) : LSpec β := VLS55_3 N (zj14 N)
theorem fl55_1_0 (s : St) : refSt (h55_1_0 0 0 0 [] 0 0 0 0) s = h55_1_0 (intS (oneA (vT (nx tund s.tmps 1)))) (intS (oneA (vT (nx tund s.tmps 5)))) (intS (oneA (vT (nx tund s.tmps 7)))) (rInts (rowV (nx .und (cellsB (nx .dead s.blks 0)) 0))) (intS (nx .und (cellsB (nx .dead s.blks 0)) 1)) (intS (nx .und (cellsB (nx .dead s.blks 0)) 2)) (intS (nx .und (cellsB (nx .dead s.blks 1)) 0)) (intS (nx .und (cellsB (nx .dead s.blks 1)) 1)) := by kernel_rfl
def VLS55_5 (N : Nat) (zq16 : Nat → Int → Int → Int → List Int → Int → Int → Int → Int → (Int → Int → List Int → Int → Int → Int → Int → O β) → O β) : LSpec β := fun s K => cond (shpSt (h55_1_0 0 0 0 [] 0 0 0 0) s) ((fun (v0 : Int) (v1 : Int) (v2 : Int) (v3 : List Int) (v4 : Int) (v5 : Int) (v6 : Int) (v7 : Int) => zq16  N v0 v1 v2 v3 v4 v5 v6 v7 (fun y0 y1 y2 y3 y4 y5 y6 => K (.exit 5) (x55_1_0_k0  y0 y1 y2 y3 y4 y5 y6))) (intS (oneA (vT (nx tund s.tmps 1)))) (intS (oneA (vT (nx tund s.tmps 5)))) (intS (oneA (vT (nx tund s.tmps 7)))) (rInts (rowV (nx .und (cellsB (nx .dead s.blks 0)) 0))) (intS (nx .und (cellsB (nx .dead s.blks 0)) 1)) (intS (nx .und (cellsB (nx .dead s.blks 0)) 2)) (intS (nx .und (cellsB (nx .dead s.blks 1)) 0)) (intS (nx .und (cellsB (nx .dead s.blks 1)) 1))) (none)
def LS55_5 (N : Nat) : LSpec β := VLS55_5 N (zj16 N)
theorem fl55_2_0 (s : St) : refSt (h55_2_0 0 0 0 0 [] 0 0 0 0) s = h55_2_0 (intS (oneA (vT (nx tund s.tmps 1)))) (intS (oneA (vT (nx tund s.tmps 5)))) (intS (oneA (vT (nx tund s.tmps 8)))) (intS (oneA (vT (nx tund s.tmps 9)))) (rInts (rowV (nx .und (cellsB (nx .dead s.blks 0)) 0))) (intS (nx .und (cellsB (nx .dead s.blks 0)) 1)) (intS (nx .und (cellsB (nx .dead s.blks 0)) 2)) (intS (nx .und (cellsB (nx .dead s.blks 1)) 0)) (intS (nx .und (cellsB (nx .dead s.blks 1)) 1)) := by kernel_rfl
def VLS55_7 (N : Nat) (zq18 : Nat → Int → Int → Int → Int → List Int → Int → Int → Int → Int → (Int → Int → List Int → Int → Int → Int → Int → O β) → O β) : LSpec β := fun s K => cond (shpSt (h55_2_0 0 0 0 0 [] 0 0 0 0) s) ((fun (v0 : Int) (v1 : Int) (v2 : Int) (v3 : Int) (v4 : List Int) (v5 : Int) (v6 : Int) (v7 : Int) (v8 : Int) => zq18  N v0 v1 v2 v3 v4 v5 v6 v7 v8 (fun y0 y1 y2 y3 y4 y5 y6 => K (.exit 7) (x55_2_0_k0  y0 y1 y2 y3 y4 y5 y6))) (intS (oneA (vT (nx tund s.tmps 1)))) (intS (oneA (vT (nx tund s.tmps 5)))) (intS (oneA (vT (nx tund s.tmps 8)))) (intS (oneA (vT (nx tund s.tmps 9)))) (rInts (rowV (nx .und (cellsB (nx .dead s.blks 0)) 0))) (intS (nx .und (cellsB (nx .dead s.blks 0)) 1)) (intS (nx .und (cellsB (nx .dead s.blks 0)) 2)) (intS (nx .und (cellsB (nx .dead s.blks 1)) 0)) (intS (nx .und (cellsB (nx .dead s.blks 1)) 1))) (none)
def LS55_7 (N : Nat) : LSpec β := VLS55_7 N (zj18 N)
theorem fl55_3_0 (s : St) : refSt (h55_3_0 0 0 0 [] 0 0 0 0) s = h55_3_0 (intS (oneA (vT (nx tund s.tmps 1)))) (intS (oneA (vT (nx tund s.tmps 5)))) (intS (oneA (vT (nx tund s.tmps 10)))) (rInts (rowV (nx .und (cellsB (nx .dead s.blks 0)) 0))) (intS (nx .und (cellsB (nx .dead s.blks 0)) 1)) (intS (nx .und (cellsB (nx .dead s.blks 0)) 2)) (intS (nx .und (cellsB (nx .dead s.blks 1)) 0)) (intS (nx .und (cellsB (nx .dead s.blks 1)) 1)) := by kernel_rfl
def VLS55_1 (N : Nat) (zq20 : Nat → Int → Int → Int → List Int → Int → Int → Int → Int → (Int → Int → List Int → Int → Int → Int → Int → O β) → O β) : LSpec β := fun s K => cond (shpSt (h55_3_0 0 0 0 [] 0 0 0 0) s) ((fun (v0 : Int) (v1 : Int) (v2 : Int) (v3 : List Int) (v4 : Int) (v5 : Int) (v6 : Int) (v7 : Int) => zq20  N v0 v1 v2 v3 v4 v5 v6 v7 (fun y0 y1 y2 y3 y4 y5 y6 => K (.exit 1) (x55_3_0_k0  y0 y1 y2 y3 y4 y5 y6))) (intS (oneA (vT (nx tund s.tmps 1)))) (intS (oneA (vT (nx tund s.tmps 5)))) (intS (oneA (vT (nx tund s.tmps 10)))) (rInts (rowV (nx .und (cellsB (nx .dead s.blks 0)) 0))) (intS (nx .und (cellsB (nx .dead s.blks 0)) 1)) (intS (nx .und (cellsB (nx .dead s.blks 0)) 2)) (intS (nx .und (cellsB (nx .dead s.blks 1)) 0)) (intS (nx .und (cellsB (nx .dead s.blks 1)) 1))) (none)
def LS55_1 (N : Nat) : LSpec β := VLS55_1 N (zj20 N)
def VE55 (N : Nat) (zq8 : (a0 : Int) → (a1 : Int) → (k : Int → O β) → O β) (zq9 : (a0 : Int) → (k : Int → O β) → O β) (zq12 : (a0 : Int) → (k : Int → O β) → O β) (zq14 : Nat → Int → Int → Int → List Int → Int → Int → Int → Int → (Int → Int → List Int → Int → Int → Int → Int → O β) → O β) (zq16 : Nat → Int → Int → Int → List Int → Int → Int → Int → Int → (Int → Int → List Int → Int → Int → Int → Int → O β) → O β) (zq18 : Nat → Int → Int → Int → Int → List Int → Int → Int → Int → Int → (Int → Int → List Int → Int → Int → Int → Int → O β) → O β) (zq20 : Nat → Int → Int → Int → List Int → Int → Int → Int → Int → (Int → Int → List Int → Int → Int → Int → Int → O β) → O β) (zq5 : (a0 : Int) → (a1 : List Int) → (a2 : Int) → (a3 : Int) → (k0 : Int → List Int → Int → Int → O β) → O β) : Env β := ⟨[(72, VS72 N zq8), (74, VS74 N zq9), (73, VS73 N zq12)], [], [(3, VLS55_3 N zq14), (5, VLS55_5 N zq16), (7, VLS55_7 N zq18), (1, VLS55_1 N zq20)], [(70, VS70 N zq5)], ⟨[], [], [], []⟩⟩
def E55 (N : Nat) : Env β := VE55 N (zj8 N) (zj9 N) (zj12 N) (zj14 N) (zj16 N) (zj18 N) (zj20 N) (zj5 N)
def zb13 (N : Nat) (zq12 : (a0 : Int) → (k : Int → O β) → O β)  (v0 : Int) (v1 : Int) (v2 : Int) (v3 : List Int) (v4 : Int) (v5 : Int) (v6 : Int) (v7 : Int) (rec_ : Int → Int → Int → List Int → Int → Int → Int → Int → O β) (k0 : Int → Int → List Int → Int → Int → Int → Int → O β) : O β :=
(gd ((decide (0 ≤ v0)))
((cond ((decide (v2 < (shlI .i64 1 v0))))
(zq12 v2 fun r24 =>
(cond ((decide ((w64 (2 * r24)) > v0)))
((gd ((decide (0 ≤ v2)))
(rec_ v0 ((bits .or .i64 v1 (shlI .i64 1 v2))) ((w64 (v2 + 1))) v3 v4 v5 v6 v7)))
(rec_ v0 v1 ((w64 (v2 + 1))) v3 v4 v5 v6 v7)))
(k0 v0 v1 v3 v4 v5 v6 v7))))
theorem zt13 (N : Nat)  (v0 : Int) (v1 : Int) (v2 : Int) (v3 : List Int) (v4 : Int) (v5 : Int) (v6 : Int) (v7 : Int) (rec_ : Int → Int → Int → List Int → Int → Int → Int → Int → O β) (k0 : Int → Int → List Int → Int → Int → Int → Int → O β) : zj13 N v0 v1 v2 v3 v4 v5 v6 v7 rec_ k0 = zb13 N (zj12 N) v0 v1 v2 v3 v4 v5 v6 v7 rec_ k0 := by
  unfold zj13 zb13
  rfl
theorem vst55_0_0 (N : Nat) (zq8 : (a0 : Int) → (a1 : Int) → (k : Int → O β) → O β) (zq9 : (a0 : Int) → (k : Int → O β) → O β) (zq12 : (a0 : Int) → (k : Int → O β) → O β) (zq14 : Nat → Int → Int → Int → List Int → Int → Int → Int → Int → (Int → Int → List Int → Int → Int → Int → Int → O β) → O β) (zq16 : Nat → Int → Int → Int → List Int → Int → Int → Int → Int → (Int → Int → List Int → Int → Int → Int → Int → O β) → O β) (zq18 : Nat → Int → Int → Int → Int → List Int → Int → Int → Int → Int → (Int → Int → List Int → Int → Int → Int → Int → O β) → O β) (zq20 : Nat → Int → Int → Int → List Int → Int → Int → Int → Int → (Int → Int → List Int → Int → Int → Int → Int → O β) → O β) (zq5 : (a0 : Int) → (a1 : List Int) → (a2 : Int) → (a3 : Int) → (k0 : Int → List Int → Int → Int → O β) → O β)  (v0 : Int) (v1 : Int) (v2 : Int) (v3 : List Int) (v4 : Int) (v5 : Int) (v6 : Int) (v7 : Int) (rec_ : St → O β) (K : Exit → St → O β) :
    ev lay (VE55 N zq8 zq9 zq12 zq14 zq16 zq18 zq20 zq5) (retMask Tryd.f55) (lp Tryd.f55 0).body (lp Tryd.f55 0).ex ((lp Tryd.f55 0).lv (retMask Tryd.f55)) (h55_0_0  v0 v1 v2 v3 v4 v5 v6 v7) (nextR (fun s' => rec_ (s'.tidy ((lp Tryd.f55 0).lv (retMask Tryd.f55)))) K) = zb13 N zq12  v0 v1 v2 v3 v4 v5 v6 v7 (fun v0 v1 v2 v3 v4 v5 v6 v7 => rec_ (h55_0_0  v0 v1 v2 v3 v4 v5 v6 v7)) (fun y0 y1 y2 y3 y4 y5 y6 => K (.exit 3) (x55_0_0_k0  y0 y1 y2 y3 y4 y5 y6)) := by kernel_rfl
theorem st55_0_0 (N : Nat)  (v0 : Int) (v1 : Int) (v2 : Int) (v3 : List Int) (v4 : Int) (v5 : Int) (v6 : Int) (v7 : Int) (rec_ : St → O β) (K : Exit → St → O β) :
    ev lay (E55 N) (retMask Tryd.f55) (lp Tryd.f55 0).body (lp Tryd.f55 0).ex ((lp Tryd.f55 0).lv (retMask Tryd.f55)) (h55_0_0  v0 v1 v2 v3 v4 v5 v6 v7) (nextR (fun s' => rec_ (s'.tidy ((lp Tryd.f55 0).lv (retMask Tryd.f55)))) K) = zj13 N  v0 v1 v2 v3 v4 v5 v6 v7 (fun v0 v1 v2 v3 v4 v5 v6 v7 => rec_ (h55_0_0  v0 v1 v2 v3 v4 v5 v6 v7)) (fun y0 y1 y2 y3 y4 y5 y6 => K (.exit 3) (x55_0_0_k0  y0 y1 y2 y3 y4 y5 y6)) := (vst55_0_0 N (zj8 N) (zj9 N) (zj12 N) (zj14 N) (zj16 N) (zj18 N) (zj20 N) (zj5 N) v0 v1 v2 v3 v4 v5 v6 v7 rec_ K).trans (zt13 N  v0 v1 v2 v3 v4 v5 v6 v7 (fun v0 v1 v2 v3 v4 v5 v6 v7 => rec_ (h55_0_0  v0 v1 v2 v3 v4 v5 v6 v7)) (fun y0 y1 y2 y3 y4 y5 y6 => K (.exit 3) (x55_0_0_k0  y0 y1 y2 y3 y4 y5 y6))).symm
theorem ro55_0_0 (N : Nat)  (K : Exit → St → O β) : ∀ (F : Nat) (v0 : Int) (v1 : Int) (v2 : Int) (v3 : List Int) (v4 : Int) (v5 : Int) (v6 : Int) (v7 : Int), (lp Tryd.f55 0).rounds lay (E55 N) (retMask Tryd.f55) F (h55_0_0  v0 v1 v2 v3 v4 v5 v6 v7) K = zj14 N  F v0 v1 v2 v3 v4 v5 v6 v7 (fun y0 y1 y2 y3 y4 y5 y6 => K (.exit 3) (x55_0_0_k0  y0 y1 y2 y3 y4 y5 y6)) := by
  intro F
  induction F with
  | zero => intros; rfl
  | succ F ih =>
    intros
    rw [rounds_next]
    refine (st55_0_0 N  _ _ _ _ _ _ _ _ (fun s => (lp Tryd.f55 0).rounds lay (E55 N) (retMask Tryd.f55) F s K) K).trans ?_
    simp only [ih]
    rfl
theorem lk55_3 (N : Nat) : lookL (E55 (β := β) N).loops (lp Tryd.f55 0).id = LS55_3 N := by kernel_rfl
theorem rk55_3 (N : Nat) : RoundsOK lay (E55 (β := β) N) (retMask Tryd.f55) (lp Tryd.f55 0) := by
  intro s K r h
  rw [lk55_3] at h
  unfold LS55_3 VLS55_3 at h
  cases hb : shpSt (h55_0_0 0 0 0 [] 0 0 0 0) s with
  | true =>
    rw [hb, cond_true] at h
    exact ⟨N, by rw [← shpSt_ref hb, fl55_0_0 s]; exact (ro55_0_0 N  K N (intS (oneA (vT (nx tund s.tmps 1)))) (intS (oneA (vT (nx tund s.tmps 5)))) (intS (oneA (vT (nx tund s.tmps 6)))) (rInts (rowV (nx .und (cellsB (nx .dead s.blks 0)) 0))) (intS (nx .und (cellsB (nx .dead s.blks 0)) 1)) (intS (nx .und (cellsB (nx .dead s.blks 0)) 2)) (intS (nx .und (cellsB (nx .dead s.blks 1)) 0)) (intS (nx .und (cellsB (nx .dead s.blks 1)) 1))).trans h⟩
  | false =>
  rw [hb, cond_false] at h
  clear hb
  cases h
def zb15 (N : Nat) (zq12 : (a0 : Int) → (k : Int → O β) → O β)  (v0 : Int) (v1 : Int) (v2 : Int) (v3 : List Int) (v4 : Int) (v5 : Int) (v6 : Int) (v7 : Int) (rec_ : Int → Int → Int → List Int → Int → Int → Int → Int → O β) (k0 : Int → Int → List Int → Int → Int → Int → Int → O β) : O β :=
(gd ((decide (0 ≤ v0)))
((cond ((decide (v2 < (shlI .i64 1 v0))))
(zq12 v2 fun r28 =>
(cond (((remI r28 2) == 1))
((gd ((decide (0 ≤ v2)))
(rec_ v0 ((bits .or .i64 v1 (shlI .i64 1 v2))) ((w64 (v2 + 1))) v3 v4 v5 v6 v7)))
(rec_ v0 v1 ((w64 (v2 + 1))) v3 v4 v5 v6 v7)))
(k0 v0 v1 v3 v4 v5 v6 v7))))
theorem zt15 (N : Nat)  (v0 : Int) (v1 : Int) (v2 : Int) (v3 : List Int) (v4 : Int) (v5 : Int) (v6 : Int) (v7 : Int) (rec_ : Int → Int → Int → List Int → Int → Int → Int → Int → O β) (k0 : Int → Int → List Int → Int → Int → Int → Int → O β) : zj15 N v0 v1 v2 v3 v4 v5 v6 v7 rec_ k0 = zb15 N (zj12 N) v0 v1 v2 v3 v4 v5 v6 v7 rec_ k0 := by
  unfold zj15 zb15
  rfl
theorem vst55_1_0 (N : Nat) (zq8 : (a0 : Int) → (a1 : Int) → (k : Int → O β) → O β) (zq9 : (a0 : Int) → (k : Int → O β) → O β) (zq12 : (a0 : Int) → (k : Int → O β) → O β) (zq14 : Nat → Int → Int → Int → List Int → Int → Int → Int → Int → (Int → Int → List Int → Int → Int → Int → Int → O β) → O β) (zq16 : Nat → Int → Int → Int → List Int → Int → Int → Int → Int → (Int → Int → List Int → Int → Int → Int → Int → O β) → O β) (zq18 : Nat → Int → Int → Int → Int → List Int → Int → Int → Int → Int → (Int → Int → List Int → Int → Int → Int → Int → O β) → O β) (zq20 : Nat → Int → Int → Int → List Int → Int → Int → Int → Int → (Int → Int → List Int → Int → Int → Int → Int → O β) → O β) (zq5 : (a0 : Int) → (a1 : List Int) → (a2 : Int) → (a3 : Int) → (k0 : Int → List Int → Int → Int → O β) → O β)  (v0 : Int) (v1 : Int) (v2 : Int) (v3 : List Int) (v4 : Int) (v5 : Int) (v6 : Int) (v7 : Int) (rec_ : St → O β) (K : Exit → St → O β) :
    ev lay (VE55 N zq8 zq9 zq12 zq14 zq16 zq18 zq20 zq5) (retMask Tryd.f55) (lp Tryd.f55 1).body (lp Tryd.f55 1).ex ((lp Tryd.f55 1).lv (retMask Tryd.f55)) (h55_1_0  v0 v1 v2 v3 v4 v5 v6 v7) (nextR (fun s' => rec_ (s'.tidy ((lp Tryd.f55 1).lv (retMask Tryd.f55)))) K) = zb15 N zq12  v0 v1 v2 v3 v4 v5 v6 v7 (fun v0 v1 v2 v3 v4 v5 v6 v7 => rec_ (h55_1_0  v0 v1 v2 v3 v4 v5 v6 v7)) (fun y0 y1 y2 y3 y4 y5 y6 => K (.exit 5) (x55_1_0_k0  y0 y1 y2 y3 y4 y5 y6)) := by kernel_rfl
theorem st55_1_0 (N : Nat)  (v0 : Int) (v1 : Int) (v2 : Int) (v3 : List Int) (v4 : Int) (v5 : Int) (v6 : Int) (v7 : Int) (rec_ : St → O β) (K : Exit → St → O β) :
    ev lay (E55 N) (retMask Tryd.f55) (lp Tryd.f55 1).body (lp Tryd.f55 1).ex ((lp Tryd.f55 1).lv (retMask Tryd.f55)) (h55_1_0  v0 v1 v2 v3 v4 v5 v6 v7) (nextR (fun s' => rec_ (s'.tidy ((lp Tryd.f55 1).lv (retMask Tryd.f55)))) K) = zj15 N  v0 v1 v2 v3 v4 v5 v6 v7 (fun v0 v1 v2 v3 v4 v5 v6 v7 => rec_ (h55_1_0  v0 v1 v2 v3 v4 v5 v6 v7)) (fun y0 y1 y2 y3 y4 y5 y6 => K (.exit 5) (x55_1_0_k0  y0 y1 y2 y3 y4 y5 y6)) := (vst55_1_0 N (zj8 N) (zj9 N) (zj12 N) (zj14 N) (zj16 N) (zj18 N) (zj20 N) (zj5 N) v0 v1 v2 v3 v4 v5 v6 v7 rec_ K).trans (zt15 N  v0 v1 v2 v3 v4 v5 v6 v7 (fun v0 v1 v2 v3 v4 v5 v6 v7 => rec_ (h55_1_0  v0 v1 v2 v3 v4 v5 v6 v7)) (fun y0 y1 y2 y3 y4 y5 y6 => K (.exit 5) (x55_1_0_k0  y0 y1 y2 y3 y4 y5 y6))).symm
theorem ro55_1_0 (N : Nat)  (K : Exit → St → O β) : ∀ (F : Nat) (v0 : Int) (v1 : Int) (v2 : Int) (v3 : List Int) (v4 : Int) (v5 : Int) (v6 : Int) (v7 : Int), (lp Tryd.f55 1).rounds lay (E55 N) (retMask Tryd.f55) F (h55_1_0  v0 v1 v2 v3 v4 v5 v6 v7) K = zj16 N  F v0 v1 v2 v3 v4 v5 v6 v7 (fun y0 y1 y2 y3 y4 y5 y6 => K (.exit 5) (x55_1_0_k0  y0 y1 y2 y3 y4 y5 y6)) := by
  intro F
  induction F with
  | zero => intros; rfl
  | succ F ih =>
    intros
    rw [rounds_next]
    refine (st55_1_0 N  _ _ _ _ _ _ _ _ (fun s => (lp Tryd.f55 1).rounds lay (E55 N) (retMask Tryd.f55) F s K) K).trans ?_
    simp only [ih]
    rfl
theorem lk55_5 (N : Nat) : lookL (E55 (β := β) N).loops (lp Tryd.f55 1).id = LS55_5 N := by kernel_rfl
theorem rk55_5 (N : Nat) : RoundsOK lay (E55 (β := β) N) (retMask Tryd.f55) (lp Tryd.f55 1) := by
  intro s K r h
  rw [lk55_5] at h
  unfold LS55_5 VLS55_5 at h
  cases hb : shpSt (h55_1_0 0 0 0 [] 0 0 0 0) s with
  | true =>
    rw [hb, cond_true] at h
    exact ⟨N, by rw [← shpSt_ref hb, fl55_1_0 s]; exact (ro55_1_0 N  K N (intS (oneA (vT (nx tund s.tmps 1)))) (intS (oneA (vT (nx tund s.tmps 5)))) (intS (oneA (vT (nx tund s.tmps 7)))) (rInts (rowV (nx .und (cellsB (nx .dead s.blks 0)) 0))) (intS (nx .und (cellsB (nx .dead s.blks 0)) 1)) (intS (nx .und (cellsB (nx .dead s.blks 0)) 2)) (intS (nx .und (cellsB (nx .dead s.blks 1)) 0)) (intS (nx .und (cellsB (nx .dead s.blks 1)) 1))).trans h⟩
  | false =>
  rw [hb, cond_false] at h
  clear hb
  cases h
def zb17 (N : Nat)  (v0 : Int) (v1 : Int) (v2 : Int) (v3 : Int) (v4 : List Int) (v5 : Int) (v6 : Int) (v7 : Int) (v8 : Int) (rec_ : Int → Int → Int → Int → List Int → Int → Int → Int → Int → O β) (k0 : Int → Int → List Int → Int → Int → Int → Int → O β) : O β :=
(gd ((decide (0 ≤ v0)))
((cond ((decide (v3 < (shlI .i64 1 v0))))
((cond (((bits .and .i64 v3 v2) == v2))
((gd ((decide (0 ≤ v3)))
(rec_ v0 ((bits .or .i64 v1 (shlI .i64 1 v3))) v2 ((w64 (v3 + 1))) v4 v5 v6 v7 v8)))
(rec_ v0 v1 v2 ((w64 (v3 + 1))) v4 v5 v6 v7 v8)))
(k0 v0 v1 v4 v5 v6 v7 v8))))
theorem zt17 (N : Nat)  (v0 : Int) (v1 : Int) (v2 : Int) (v3 : Int) (v4 : List Int) (v5 : Int) (v6 : Int) (v7 : Int) (v8 : Int) (rec_ : Int → Int → Int → Int → List Int → Int → Int → Int → Int → O β) (k0 : Int → Int → List Int → Int → Int → Int → Int → O β) : zj17 N v0 v1 v2 v3 v4 v5 v6 v7 v8 rec_ k0 = zb17 N v0 v1 v2 v3 v4 v5 v6 v7 v8 rec_ k0 := by
  unfold zj17 zb17
  rfl
theorem vst55_2_0 (N : Nat) (zq8 : (a0 : Int) → (a1 : Int) → (k : Int → O β) → O β) (zq9 : (a0 : Int) → (k : Int → O β) → O β) (zq12 : (a0 : Int) → (k : Int → O β) → O β) (zq14 : Nat → Int → Int → Int → List Int → Int → Int → Int → Int → (Int → Int → List Int → Int → Int → Int → Int → O β) → O β) (zq16 : Nat → Int → Int → Int → List Int → Int → Int → Int → Int → (Int → Int → List Int → Int → Int → Int → Int → O β) → O β) (zq18 : Nat → Int → Int → Int → Int → List Int → Int → Int → Int → Int → (Int → Int → List Int → Int → Int → Int → Int → O β) → O β) (zq20 : Nat → Int → Int → Int → List Int → Int → Int → Int → Int → (Int → Int → List Int → Int → Int → Int → Int → O β) → O β) (zq5 : (a0 : Int) → (a1 : List Int) → (a2 : Int) → (a3 : Int) → (k0 : Int → List Int → Int → Int → O β) → O β)  (v0 : Int) (v1 : Int) (v2 : Int) (v3 : Int) (v4 : List Int) (v5 : Int) (v6 : Int) (v7 : Int) (v8 : Int) (rec_ : St → O β) (K : Exit → St → O β) :
    ev lay (VE55 N zq8 zq9 zq12 zq14 zq16 zq18 zq20 zq5) (retMask Tryd.f55) (lp Tryd.f55 2).body (lp Tryd.f55 2).ex ((lp Tryd.f55 2).lv (retMask Tryd.f55)) (h55_2_0  v0 v1 v2 v3 v4 v5 v6 v7 v8) (nextR (fun s' => rec_ (s'.tidy ((lp Tryd.f55 2).lv (retMask Tryd.f55)))) K) = zb17 N  v0 v1 v2 v3 v4 v5 v6 v7 v8 (fun v0 v1 v2 v3 v4 v5 v6 v7 v8 => rec_ (h55_2_0  v0 v1 v2 v3 v4 v5 v6 v7 v8)) (fun y0 y1 y2 y3 y4 y5 y6 => K (.exit 7) (x55_2_0_k0  y0 y1 y2 y3 y4 y5 y6)) := by kernel_rfl
theorem st55_2_0 (N : Nat)  (v0 : Int) (v1 : Int) (v2 : Int) (v3 : Int) (v4 : List Int) (v5 : Int) (v6 : Int) (v7 : Int) (v8 : Int) (rec_ : St → O β) (K : Exit → St → O β) :
    ev lay (E55 N) (retMask Tryd.f55) (lp Tryd.f55 2).body (lp Tryd.f55 2).ex ((lp Tryd.f55 2).lv (retMask Tryd.f55)) (h55_2_0  v0 v1 v2 v3 v4 v5 v6 v7 v8) (nextR (fun s' => rec_ (s'.tidy ((lp Tryd.f55 2).lv (retMask Tryd.f55)))) K) = zj17 N  v0 v1 v2 v3 v4 v5 v6 v7 v8 (fun v0 v1 v2 v3 v4 v5 v6 v7 v8 => rec_ (h55_2_0  v0 v1 v2 v3 v4 v5 v6 v7 v8)) (fun y0 y1 y2 y3 y4 y5 y6 => K (.exit 7) (x55_2_0_k0  y0 y1 y2 y3 y4 y5 y6)) := (vst55_2_0 N (zj8 N) (zj9 N) (zj12 N) (zj14 N) (zj16 N) (zj18 N) (zj20 N) (zj5 N) v0 v1 v2 v3 v4 v5 v6 v7 v8 rec_ K).trans (zt17 N  v0 v1 v2 v3 v4 v5 v6 v7 v8 (fun v0 v1 v2 v3 v4 v5 v6 v7 v8 => rec_ (h55_2_0  v0 v1 v2 v3 v4 v5 v6 v7 v8)) (fun y0 y1 y2 y3 y4 y5 y6 => K (.exit 7) (x55_2_0_k0  y0 y1 y2 y3 y4 y5 y6))).symm
theorem ro55_2_0 (N : Nat)  (K : Exit → St → O β) : ∀ (F : Nat) (v0 : Int) (v1 : Int) (v2 : Int) (v3 : Int) (v4 : List Int) (v5 : Int) (v6 : Int) (v7 : Int) (v8 : Int), (lp Tryd.f55 2).rounds lay (E55 N) (retMask Tryd.f55) F (h55_2_0  v0 v1 v2 v3 v4 v5 v6 v7 v8) K = zj18 N  F v0 v1 v2 v3 v4 v5 v6 v7 v8 (fun y0 y1 y2 y3 y4 y5 y6 => K (.exit 7) (x55_2_0_k0  y0 y1 y2 y3 y4 y5 y6)) := by
  intro F
  induction F with
  | zero => intros; rfl
  | succ F ih =>
    intros
    rw [rounds_next]
    refine (st55_2_0 N  _ _ _ _ _ _ _ _ _ (fun s => (lp Tryd.f55 2).rounds lay (E55 N) (retMask Tryd.f55) F s K) K).trans ?_
    simp only [ih]
    rfl
theorem lk55_7 (N : Nat) : lookL (E55 (β := β) N).loops (lp Tryd.f55 2).id = LS55_7 N := by kernel_rfl
theorem rk55_7 (N : Nat) : RoundsOK lay (E55 (β := β) N) (retMask Tryd.f55) (lp Tryd.f55 2) := by
  intro s K r h
  rw [lk55_7] at h
  unfold LS55_7 VLS55_7 at h
  cases hb : shpSt (h55_2_0 0 0 0 0 [] 0 0 0 0) s with
  | true =>
    rw [hb, cond_true] at h
    exact ⟨N, by rw [← shpSt_ref hb, fl55_2_0 s]; exact (ro55_2_0 N  K N (intS (oneA (vT (nx tund s.tmps 1)))) (intS (oneA (vT (nx tund s.tmps 5)))) (intS (oneA (vT (nx tund s.tmps 8)))) (intS (oneA (vT (nx tund s.tmps 9)))) (rInts (rowV (nx .und (cellsB (nx .dead s.blks 0)) 0))) (intS (nx .und (cellsB (nx .dead s.blks 0)) 1)) (intS (nx .und (cellsB (nx .dead s.blks 0)) 2)) (intS (nx .und (cellsB (nx .dead s.blks 1)) 0)) (intS (nx .und (cellsB (nx .dead s.blks 1)) 1))).trans h⟩
  | false =>
  rw [hb, cond_false] at h
  clear hb
  cases h
def zb19 (N : Nat) (zq5 : (a0 : Int) → (a1 : List Int) → (a2 : Int) → (a3 : Int) → (k0 : Int → List Int → Int → Int → O β) → O β)  (v0 : Int) (v1 : Int) (v2 : Int) (v3 : List Int) (v4 : Int) (v5 : Int) (v6 : Int) (v7 : Int) (rec_ : Int → Int → Int → List Int → Int → Int → Int → Int → O β) (k0 : Int → Int → List Int → Int → Int → Int → Int → O β) : O β :=
(gd ((decide (0 ≤ v0)))
((cond ((decide (v2 < (shlI .i64 1 v0))))
(zq5 2 v3 v4 v5 (fun r36_0 r36_1 r36_2 r36_3 =>
(gd ((decide (0 ≤ v2)))
(rec_ v0 ((bits .or .i64 v1 (shlI .i64 r36_0 v2))) ((w64 (v2 + 1))) r36_1 r36_2 r36_3 v6 v7))))
(k0 v0 v1 v3 v4 v5 v6 v7))))
theorem zt19 (N : Nat)  (v0 : Int) (v1 : Int) (v2 : Int) (v3 : List Int) (v4 : Int) (v5 : Int) (v6 : Int) (v7 : Int) (rec_ : Int → Int → Int → List Int → Int → Int → Int → Int → O β) (k0 : Int → Int → List Int → Int → Int → Int → Int → O β) : zj19 N v0 v1 v2 v3 v4 v5 v6 v7 rec_ k0 = zb19 N (zj5 N) v0 v1 v2 v3 v4 v5 v6 v7 rec_ k0 := by
  unfold zj19 zb19
  rfl
theorem vst55_3_0 (N : Nat) (zq8 : (a0 : Int) → (a1 : Int) → (k : Int → O β) → O β) (zq9 : (a0 : Int) → (k : Int → O β) → O β) (zq12 : (a0 : Int) → (k : Int → O β) → O β) (zq14 : Nat → Int → Int → Int → List Int → Int → Int → Int → Int → (Int → Int → List Int → Int → Int → Int → Int → O β) → O β) (zq16 : Nat → Int → Int → Int → List Int → Int → Int → Int → Int → (Int → Int → List Int → Int → Int → Int → Int → O β) → O β) (zq18 : Nat → Int → Int → Int → Int → List Int → Int → Int → Int → Int → (Int → Int → List Int → Int → Int → Int → Int → O β) → O β) (zq20 : Nat → Int → Int → Int → List Int → Int → Int → Int → Int → (Int → Int → List Int → Int → Int → Int → Int → O β) → O β) (zq5 : (a0 : Int) → (a1 : List Int) → (a2 : Int) → (a3 : Int) → (k0 : Int → List Int → Int → Int → O β) → O β)  (v0 : Int) (v1 : Int) (v2 : Int) (v3 : List Int) (v4 : Int) (v5 : Int) (v6 : Int) (v7 : Int) (rec_ : St → O β) (K : Exit → St → O β) :
    ev lay (VE55 N zq8 zq9 zq12 zq14 zq16 zq18 zq20 zq5) (retMask Tryd.f55) (lp Tryd.f55 3).body (lp Tryd.f55 3).ex ((lp Tryd.f55 3).lv (retMask Tryd.f55)) (h55_3_0  v0 v1 v2 v3 v4 v5 v6 v7) (nextR (fun s' => rec_ (s'.tidy ((lp Tryd.f55 3).lv (retMask Tryd.f55)))) K) = zb19 N zq5  v0 v1 v2 v3 v4 v5 v6 v7 (fun v0 v1 v2 v3 v4 v5 v6 v7 => rec_ (h55_3_0  v0 v1 v2 v3 v4 v5 v6 v7)) (fun y0 y1 y2 y3 y4 y5 y6 => K (.exit 1) (x55_3_0_k0  y0 y1 y2 y3 y4 y5 y6)) := by kernel_rfl
theorem st55_3_0 (N : Nat)  (v0 : Int) (v1 : Int) (v2 : Int) (v3 : List Int) (v4 : Int) (v5 : Int) (v6 : Int) (v7 : Int) (rec_ : St → O β) (K : Exit → St → O β) :
    ev lay (E55 N) (retMask Tryd.f55) (lp Tryd.f55 3).body (lp Tryd.f55 3).ex ((lp Tryd.f55 3).lv (retMask Tryd.f55)) (h55_3_0  v0 v1 v2 v3 v4 v5 v6 v7) (nextR (fun s' => rec_ (s'.tidy ((lp Tryd.f55 3).lv (retMask Tryd.f55)))) K) = zj19 N  v0 v1 v2 v3 v4 v5 v6 v7 (fun v0 v1 v2 v3 v4 v5 v6 v7 => rec_ (h55_3_0  v0 v1 v2 v3 v4 v5 v6 v7)) (fun y0 y1 y2 y3 y4 y5 y6 => K (.exit 1) (x55_3_0_k0  y0 y1 y2 y3 y4 y5 y6)) := (vst55_3_0 N (zj8 N) (zj9 N) (zj12 N) (zj14 N) (zj16 N) (zj18 N) (zj20 N) (zj5 N) v0 v1 v2 v3 v4 v5 v6 v7 rec_ K).trans (zt19 N  v0 v1 v2 v3 v4 v5 v6 v7 (fun v0 v1 v2 v3 v4 v5 v6 v7 => rec_ (h55_3_0  v0 v1 v2 v3 v4 v5 v6 v7)) (fun y0 y1 y2 y3 y4 y5 y6 => K (.exit 1) (x55_3_0_k0  y0 y1 y2 y3 y4 y5 y6))).symm
theorem ro55_3_0 (N : Nat)  (K : Exit → St → O β) : ∀ (F : Nat) (v0 : Int) (v1 : Int) (v2 : Int) (v3 : List Int) (v4 : Int) (v5 : Int) (v6 : Int) (v7 : Int), (lp Tryd.f55 3).rounds lay (E55 N) (retMask Tryd.f55) F (h55_3_0  v0 v1 v2 v3 v4 v5 v6 v7) K = zj20 N  F v0 v1 v2 v3 v4 v5 v6 v7 (fun y0 y1 y2 y3 y4 y5 y6 => K (.exit 1) (x55_3_0_k0  y0 y1 y2 y3 y4 y5 y6)) := by
  intro F
  induction F with
  | zero => intros; rfl
  | succ F ih =>
    intros
    rw [rounds_next]
    refine (st55_3_0 N  _ _ _ _ _ _ _ _ (fun s => (lp Tryd.f55 3).rounds lay (E55 N) (retMask Tryd.f55) F s K) K).trans ?_
    simp only [ih]
    rfl
theorem lk55_1 (N : Nat) : lookL (E55 (β := β) N).loops (lp Tryd.f55 3).id = LS55_1 N := by kernel_rfl
theorem rk55_1 (N : Nat) : RoundsOK lay (E55 (β := β) N) (retMask Tryd.f55) (lp Tryd.f55 3) := by
  intro s K r h
  rw [lk55_1] at h
  unfold LS55_1 VLS55_1 at h
  cases hb : shpSt (h55_3_0 0 0 0 [] 0 0 0 0) s with
  | true =>
    rw [hb, cond_true] at h
    exact ⟨N, by rw [← shpSt_ref hb, fl55_3_0 s]; exact (ro55_3_0 N  K N (intS (oneA (vT (nx tund s.tmps 1)))) (intS (oneA (vT (nx tund s.tmps 5)))) (intS (oneA (vT (nx tund s.tmps 10)))) (rInts (rowV (nx .und (cellsB (nx .dead s.blks 0)) 0))) (intS (nx .und (cellsB (nx .dead s.blks 0)) 1)) (intS (nx .und (cellsB (nx .dead s.blks 0)) 2)) (intS (nx .und (cellsB (nx .dead s.blks 1)) 0)) (intS (nx .und (cellsB (nx .dead s.blks 1)) 1))).trans h⟩
  | false =>
  rw [hb, cond_false] at h
  clear hb
  cases h
def zb21 (N : Nat) (zq5 : (a0 : Int) → (a1 : List Int) → (a2 : Int) → (a3 : Int) → (k0 : Int → List Int → Int → Int → O β) → O β) (zq8 : (a0 : Int) → (a1 : Int) → (k : Int → O β) → O β) (zq9 : (a0 : Int) → (k : Int → O β) → O β) (zq14 : Nat → Int → Int → Int → List Int → Int → Int → Int → Int → (Int → Int → List Int → Int → Int → Int → Int → O β) → O β) (zq16 : Nat → Int → Int → Int → List Int → Int → Int → Int → Int → (Int → Int → List Int → Int → Int → Int → Int → O β) → O β) (zq18 : Nat → Int → Int → Int → Int → List Int → Int → Int → Int → Int → (Int → Int → List Int → Int → Int → Int → Int → O β) → O β) (zq20 : Nat → Int → Int → Int → List Int → Int → Int → Int → Int → (Int → Int → List Int → Int → Int → Int → Int → O β) → O β) (a0 : Int) (a1 : List Int) (a2 : Int) (a3 : Int) (k0 : Int → Int → List Int → Int → Int → O β) : O β :=
zq5 6 a1 a2 a3 (fun r19_0 r19_1 r19_2 r19_3 =>
(cond ((r19_0 == 0))
(zq5 ((mxI 1 a0)) r19_1 r19_2 r19_3 (fun r20_0 r20_1 r20_2 r20_3 =>
zq8 a0 r20_0 fun r21 =>
(cond ((a0 == 0))
(zq9 a0 fun r22 =>
k0 a0 ((bits .and .i64 (bits .and .i64 r21 1) r22)) r20_1 r20_2 r20_3)
(zq9 a0 fun r23 =>
k0 a0 ((bits .and .i64 r21 r23)) r20_1 r20_2 r20_3))))
((cond ((r19_0 == 1))
(zq14  N a0 0 0 r19_1 r19_2 r19_3 0 0 (fun e25_0 e25_1 e25_2 e25_3 e25_4 e25_5 e25_6 =>
(cond ((e25_0 == 0))
(zq9 e25_0 fun r26 =>
k0 e25_0 ((bits .and .i64 (bits .and .i64 e25_1 1) r26)) e25_2 e25_3 e25_4)
(zq9 e25_0 fun r27 =>
k0 e25_0 ((bits .and .i64 e25_1 r27)) e25_2 e25_3 e25_4))))
((cond ((r19_0 == 2))
(zq16  N a0 0 0 r19_1 r19_2 r19_3 0 0 (fun e29_0 e29_1 e29_2 e29_3 e29_4 e29_5 e29_6 =>
(cond ((e29_0 == 0))
(zq9 e29_0 fun r30 =>
k0 e29_0 ((bits .and .i64 (bits .and .i64 e29_1 1) r30)) e29_2 e29_3 e29_4)
(zq9 e29_0 fun r31 =>
k0 e29_0 ((bits .and .i64 e29_1 r31)) e29_2 e29_3 e29_4))))
((cond ((r19_0 == 3))
((gd ((decide (0 ≤ a0)))
(zq5 ((shlI .i64 1 a0)) r19_1 r19_2 r19_3 (fun r32_0 r32_1 r32_2 r32_3 =>
zq18  N a0 0 r32_0 0 r32_1 r32_2 r32_3 0 0 (fun e33_0 e33_1 e33_2 e33_3 e33_4 e33_5 e33_6 =>
(cond ((e33_0 == 0))
(zq9 e33_0 fun r34 =>
k0 e33_0 ((bits .and .i64 (bits .and .i64 e33_1 1) r34)) e33_2 e33_3 e33_4)
(zq9 e33_0 fun r35 =>
k0 e33_0 ((bits .and .i64 e33_1 r35)) e33_2 e33_3 e33_4)))))))
(zq20  N a0 0 0 r19_1 r19_2 r19_3 0 0 (fun e37_0 e37_1 e37_2 e37_3 e37_4 e37_5 e37_6 =>
(cond ((e37_0 == 0))
(zq9 e37_0 fun r38 =>
k0 e37_0 ((bits .and .i64 (bits .and .i64 e37_1 1) r38)) e37_2 e37_3 e37_4)
(zq9 e37_0 fun r39 =>
k0 e37_0 ((bits .and .i64 e37_1 r39)) e37_2 e37_3 e37_4))))))))))))
theorem zt21 (N : Nat) (a0 : Int) (a1 : List Int) (a2 : Int) (a3 : Int) (k0 : Int → Int → List Int → Int → Int → O β) : zj21 N a0 a1 a2 a3 k0 = zb21 N (zj5 N) (zj8 N) (zj9 N) (zj14 N) (zj16 N) (zj18 N) (zj20 N) a0 a1 a2 a3 k0 := by
  unfold zj21 zb21
  rfl
theorem ve55_0 (N : Nat) (zq8 : (a0 : Int) → (a1 : Int) → (k : Int → O β) → O β) (zq9 : (a0 : Int) → (k : Int → O β) → O β) (zq12 : (a0 : Int) → (k : Int → O β) → O β) (zq14 : Nat → Int → Int → Int → List Int → Int → Int → Int → Int → (Int → Int → List Int → Int → Int → Int → Int → O β) → O β) (zq16 : Nat → Int → Int → Int → List Int → Int → Int → Int → Int → (Int → Int → List Int → Int → Int → Int → Int → O β) → O β) (zq18 : Nat → Int → Int → Int → Int → List Int → Int → Int → Int → Int → (Int → Int → List Int → Int → Int → Int → Int → O β) → O β) (zq20 : Nat → Int → Int → Int → List Int → Int → Int → Int → Int → (Int → Int → List Int → Int → Int → Int → Int → O β) → O β) (zq5 : (a0 : Int) → (a1 : List Int) → (a2 : Int) → (a3 : Int) → (k0 : Int → List Int → Int → Int → O β) → O β) (a0 : Int) (a1 : List Int) (a2 : Int) (a3 : Int) (K : TV → List Blk → O β) : evFnG lay (VE55 N zq8 zq9 zq12 zq14 zq16 zq18 zq20 zq5) Tryd.f55 [.v (.one (.ptr 0 0)), .v (.one (.int .i64 a0))] [.pcells 0 96 [.sl 5 (.ints .u8 a1), .int .i64 a2, .int .i64 a3]] K = zb21 N zq5 zq8 zq9 zq14 zq16 zq18 zq20 a0 a1 a2 a3 (fun y0 y1 y2 y3 y4 => K (.v (.agg [.int .i64 y0, .int .i64 y1])) [.pcells 0 96 [.sl 5 (.ints .u8 y2), .int .i64 y3, .int .i64 y4]]) := by kernel_rfl
theorem e55_0 (N : Nat) (a0 : Int) (a1 : List Int) (a2 : Int) (a3 : Int) (K : TV → List Blk → O β) : evFnG lay (E55 N) Tryd.f55 [.v (.one (.ptr 0 0)), .v (.one (.int .i64 a0))] [.pcells 0 96 [.sl 5 (.ints .u8 a1), .int .i64 a2, .int .i64 a3]] K = zj21 N a0 a1 a2 a3 (fun y0 y1 y2 y3 y4 => K (.v (.agg [.int .i64 y0, .int .i64 y1])) [.pcells 0 96 [.sl 5 (.ints .u8 y2), .int .i64 y3, .int .i64 y4]]) := (ve55_0 N (zj8 N) (zj9 N) (zj12 N) (zj14 N) (zj16 N) (zj18 N) (zj20 N) (zj5 N) a0 a1 a2 a3 K).trans (zt21 N a0 a1 a2 a3 (fun y0 y1 y2 y3 y4 => K (.v (.agg [.int .i64 y0, .int .i64 y1])) [.pcells 0 96 [.sl 5 (.ints .u8 y2), .int .i64 y3, .int .i64 y4]])).symm
theorem o55 (N : Nat) : GOK (β := β) inv Tryd.prog 55 (S55 N) := by
  refine g_of lay_ok mixed (E := E55 N) (specs_loops (specs_cons (o72 N) (specs_cons (o74 N) (specs_cons (o73 N) specs_nil)))) muts_nil (gs_cons (o70 N) gs_nil) Tryd.func55 (by kernel_rfl) 4 (by kernel_rfl) ⟨⟨⟨⟨trivial, rk55_3 N⟩, rk55_5 N⟩, rk55_7 N⟩, rk55_1 N⟩ fun args bl K r h => ?_
  unfold S55 VS55 at h
  split at h
  · exact (e55_0 N _ _ _ _ _).trans h
  · cases h
def VS54 (N : Nat) (zq22 : (a0 : List Int) → (a1 : Int) → (a2 : Int) → (a3 : List Int) → (k0 : Int → List Int → Int → Int → List Int → O β) → O β) : GSpec β := fun args bl K => match args, bl with
  | [.v (.one (.ptr 0 0)), .v (.one (.row 1))], [.pcells 0 96 [.sl 5 (.ints .u8 a0), .int .i64 a1, .int .i64 a2], .prow 1 3 (.ints .i64 a3)] => zq22 a0 a1 a2 a3 (fun y0 y1 y2 y3 y4 => K (.v (.one (.int .i64 y0))) [.pcells 0 96 [.sl 5 (.ints .u8 y1), .int .i64 y2, .int .i64 y3], .prow 1 3 (.ints .i64 y4)])
  | _, _ => none
def S54 (N : Nat) : GSpec β := VS54 N (zj22 N)
def VE54 (N : Nat) (zq5 : (a0 : Int) → (a1 : List Int) → (a2 : Int) → (a3 : Int) → (k0 : Int → List Int → Int → Int → O β) → O β) : Env β := ⟨[], [], [], [(70, VS70 N zq5)], ⟨[], [], [], []⟩⟩
def E54 (N : Nat) : Env β := VE54 N (zj5 N)
def zb22 (N : Nat) (zq5 : (a0 : Int) → (a1 : List Int) → (a2 : Int) → (a3 : Int) → (k0 : Int → List Int → Int → Int → O β) → O β) (a0 : List Int) (a1 : Int) (a2 : Int) (a3 : List Int) (k0 : Int → List Int → Int → Int → List Int → O β) : O β :=
zq5 ((a3.length : Int)) a0 a1 a2 (fun r16_0 r16_1 r16_2 r16_3 =>
(gd ((decide (0 ≤ r16_0)))
((gd ((decide (r16_0 < (a3.length : Int))))
(k0 ((rd 0 a3 r16_0)) r16_1 r16_2 r16_3 a3)))))
theorem zt22 (N : Nat) (a0 : List Int) (a1 : Int) (a2 : Int) (a3 : List Int) (k0 : Int → List Int → Int → Int → List Int → O β) : zj22 N a0 a1 a2 a3 k0 = zb22 N (zj5 N) a0 a1 a2 a3 k0 := by
  unfold zj22 zb22
  rfl
theorem ve54_0 (N : Nat) (zq5 : (a0 : Int) → (a1 : List Int) → (a2 : Int) → (a3 : Int) → (k0 : Int → List Int → Int → Int → O β) → O β) (a0 : List Int) (a1 : Int) (a2 : Int) (a3 : List Int) (K : TV → List Blk → O β) : evFnG lay (VE54 N zq5) Tryd.f54 [.v (.one (.ptr 0 0)), .v (.one (.row 1))] [.pcells 0 96 [.sl 5 (.ints .u8 a0), .int .i64 a1, .int .i64 a2], .prow 1 3 (.ints .i64 a3)] K = zb22 N zq5 a0 a1 a2 a3 (fun y0 y1 y2 y3 y4 => K (.v (.one (.int .i64 y0))) [.pcells 0 96 [.sl 5 (.ints .u8 y1), .int .i64 y2, .int .i64 y3], .prow 1 3 (.ints .i64 y4)]) := by kernel_rfl
theorem e54_0 (N : Nat) (a0 : List Int) (a1 : Int) (a2 : Int) (a3 : List Int) (K : TV → List Blk → O β) : evFnG lay (E54 N) Tryd.f54 [.v (.one (.ptr 0 0)), .v (.one (.row 1))] [.pcells 0 96 [.sl 5 (.ints .u8 a0), .int .i64 a1, .int .i64 a2], .prow 1 3 (.ints .i64 a3)] K = zj22 N a0 a1 a2 a3 (fun y0 y1 y2 y3 y4 => K (.v (.one (.int .i64 y0))) [.pcells 0 96 [.sl 5 (.ints .u8 y1), .int .i64 y2, .int .i64 y3], .prow 1 3 (.ints .i64 y4)]) := (ve54_0 N (zj5 N) a0 a1 a2 a3 K).trans (zt22 N a0 a1 a2 a3 (fun y0 y1 y2 y3 y4 => K (.v (.one (.int .i64 y0))) [.pcells 0 96 [.sl 5 (.ints .u8 y1), .int .i64 y2, .int .i64 y3], .prow 1 3 (.ints .i64 y4)])).symm
theorem o54 (N : Nat) : GOK (β := β) inv Tryd.prog 54 (S54 N) := by
  refine g_of lay_ok mixed (E := E54 N) (specs_loops specs_nil) muts_nil (gs_cons (o70 N) gs_nil) Tryd.func54 (by kernel_rfl) 0 (by kernel_rfl) trivial fun args bl K r h => ?_
  unfold S54 VS54 at h
  split at h
  · exact (e54_0 N _ _ _ _ _).trans h
  · cases h
def VS71 (N : Nat) (zq23 : (a0 : List Int) → (a1 : Int) → (a2 : Int) → (k0 : Int → Int → List Int → Int → Int → O β) → O β) : GSpec β := fun args bl K => match args, bl with
  | [.v (.one (.ptr 0 0))], [.pcells 0 96 [.sl 5 (.ints .u8 a0), .int .i64 a1, .int .i64 a2]] => zq23 a0 a1 a2 (fun y0 y1 y2 y3 y4 => K (.v (.agg [.int .i64 y0, .int .i64 y1])) [.pcells 0 96 [.sl 5 (.ints .u8 y2), .int .i64 y3, .int .i64 y4]])
  | _, _ => none
def S71 (N : Nat) : GSpec β := VS71 N (zj23 N)
def VE71 (N : Nat) (zq5 : (a0 : Int) → (a1 : List Int) → (a2 : Int) → (a3 : Int) → (k0 : Int → List Int → Int → Int → O β) → O β) (zq21 : (a0 : Int) → (a1 : List Int) → (a2 : Int) → (a3 : Int) → (k0 : Int → Int → List Int → Int → Int → O β) → O β) (zq22 : (a0 : List Int) → (a1 : Int) → (a2 : Int) → (a3 : List Int) → (k0 : Int → List Int → Int → Int → List Int → O β) → O β) : Env β := ⟨[], [], [], [(70, VS70 N zq5), (55, VS55 N zq21), (54, VS54 N zq22)], ⟨[], [], [], []⟩⟩
def E71 (N : Nat) : Env β := VE71 N (zj5 N) (zj21 N) (zj22 N)
def zb23 (N : Nat) (zq5 : (a0 : Int) → (a1 : List Int) → (a2 : Int) → (a3 : Int) → (k0 : Int → List Int → Int → Int → O β) → O β) (zq21 : (a0 : Int) → (a1 : List Int) → (a2 : Int) → (a3 : Int) → (k0 : Int → Int → List Int → Int → Int → O β) → O β) (zq22 : (a0 : List Int) → (a1 : Int) → (a2 : Int) → (a3 : List Int) → (k0 : Int → List Int → Int → Int → List Int → O β) → O β) (a0 : List Int) (a1 : Int) (a2 : Int) (k0 : Int → Int → List Int → Int → Int → O β) : O β :=
zq5 5 a0 a1 a2 (fun r5_0 r5_1 r5_2 r5_3 =>
zq21 r5_0 r5_1 r5_2 r5_3 (fun r6_0 r6_1 r6_2 r6_3 r6_4 =>
zq5 14 r6_2 r6_3 r6_4 (fun r7_0 r7_1 r7_2 r7_3 =>
(cond ((r7_0 == 0))
(zq22 r7_1 r7_2 r7_3 ((((((([] : List Int) ++ [(-1)]) ++ [6]) ++ [5]) ++ [0]) ++ [9223372036854775807])) (fun r8_0 r8_1 r8_2 r8_3 r8_4 =>
k0 r8_0 r6_1 r8_1 r8_2 r8_3))
((cond ((r7_0 == 1))
(zq22 r7_1 r7_2 r7_3 ((((((([] : List Int) ++ [(-1)]) ++ [0]) ++ [1]) ++ [65536]) ++ [9223372036854775807])) (fun r9_0 r9_1 r9_2 r9_3 r9_4 =>
k0 r6_0 r9_0 r9_1 r9_2 r9_3))
(k0 r6_0 r6_1 r7_1 r7_2 r7_3)))))))
theorem zt23 (N : Nat) (a0 : List Int) (a1 : Int) (a2 : Int) (k0 : Int → Int → List Int → Int → Int → O β) : zj23 N a0 a1 a2 k0 = zb23 N (zj5 N) (zj21 N) (zj22 N) a0 a1 a2 k0 := by
  unfold zj23 zb23
  rfl
theorem ve71_0 (N : Nat) (zq5 : (a0 : Int) → (a1 : List Int) → (a2 : Int) → (a3 : Int) → (k0 : Int → List Int → Int → Int → O β) → O β) (zq21 : (a0 : Int) → (a1 : List Int) → (a2 : Int) → (a3 : Int) → (k0 : Int → Int → List Int → Int → Int → O β) → O β) (zq22 : (a0 : List Int) → (a1 : Int) → (a2 : Int) → (a3 : List Int) → (k0 : Int → List Int → Int → Int → List Int → O β) → O β) (a0 : List Int) (a1 : Int) (a2 : Int) (K : TV → List Blk → O β) : evFnG lay (VE71 N zq5 zq21 zq22) Tryd.f71 [.v (.one (.ptr 0 0))] [.pcells 0 96 [.sl 5 (.ints .u8 a0), .int .i64 a1, .int .i64 a2]] K = zb23 N zq5 zq21 zq22 a0 a1 a2 (fun y0 y1 y2 y3 y4 => K (.v (.agg [.int .i64 y0, .int .i64 y1])) [.pcells 0 96 [.sl 5 (.ints .u8 y2), .int .i64 y3, .int .i64 y4]]) := by kernel_rfl
theorem e71_0 (N : Nat) (a0 : List Int) (a1 : Int) (a2 : Int) (K : TV → List Blk → O β) : evFnG lay (E71 N) Tryd.f71 [.v (.one (.ptr 0 0))] [.pcells 0 96 [.sl 5 (.ints .u8 a0), .int .i64 a1, .int .i64 a2]] K = zj23 N a0 a1 a2 (fun y0 y1 y2 y3 y4 => K (.v (.agg [.int .i64 y0, .int .i64 y1])) [.pcells 0 96 [.sl 5 (.ints .u8 y2), .int .i64 y3, .int .i64 y4]]) := (ve71_0 N (zj5 N) (zj21 N) (zj22 N) a0 a1 a2 K).trans (zt23 N a0 a1 a2 (fun y0 y1 y2 y3 y4 => K (.v (.agg [.int .i64 y0, .int .i64 y1])) [.pcells 0 96 [.sl 5 (.ints .u8 y2), .int .i64 y3, .int .i64 y4]])).symm
theorem o71 (N : Nat) : GOK (β := β) inv Tryd.prog 71 (S71 N) := by
  refine g_of lay_ok mixed (E := E71 N) (specs_loops specs_nil) muts_nil (gs_cons (o70 N) (gs_cons (o55 N) (gs_cons (o54 N) gs_nil))) Tryd.func71 (by kernel_rfl) 0 (by kernel_rfl) trivial fun args bl K r h => ?_
  unfold S71 VS71 at h
  split at h
  · exact (e71_0 N _ _ _ _).trans h
  · cases h
def VS52 (N : Nat) (zq24 : (a0 : Int) → (a1 : List Int) → (a2 : Int) → (a3 : Int) → (k0 : Bool → List Int → Int → Int → O β) → O β) : GSpec β := fun args bl K => match args, bl with
  | [.v (.one (.ptr 0 0)), .v (.one (.int .i64 a0))], [.pcells 0 96 [.sl 5 (.ints .u8 a1), .int .i64 a2, .int .i64 a3]] => zq24 a0 a1 a2 a3 (fun y0 y1 y2 y3 => K (.v (.one (.bool y0))) [.pcells 0 96 [.sl 5 (.ints .u8 y1), .int .i64 y2, .int .i64 y3]])
  | _, _ => none
def S52 (N : Nat) : GSpec β := VS52 N (zj24 N)
def VE52 (N : Nat) (zq5 : (a0 : Int) → (a1 : List Int) → (a2 : Int) → (a3 : Int) → (k0 : Int → List Int → Int → Int → O β) → O β) : Env β := ⟨[], [], [], [(70, VS70 N zq5)], ⟨[], [], [], []⟩⟩
def E52 (N : Nat) : Env β := VE52 N (zj5 N)
def zb24 (N : Nat) (zq5 : (a0 : Int) → (a1 : List Int) → (a2 : Int) → (a3 : Int) → (k0 : Int → List Int → Int → Int → O β) → O β) (a0 : Int) (a1 : List Int) (a2 : Int) (a3 : Int) (k0 : Bool → List Int → Int → Int → O β) : O β :=
zq5 a0 a1 a2 a3 (fun r11_0 r11_1 r11_2 r11_3 =>
k0 ((r11_0 == 0)) r11_1 r11_2 r11_3)
theorem zt24 (N : Nat) (a0 : Int) (a1 : List Int) (a2 : Int) (a3 : Int) (k0 : Bool → List Int → Int → Int → O β) : zj24 N a0 a1 a2 a3 k0 = zb24 N (zj5 N) a0 a1 a2 a3 k0 := by
  unfold zj24 zb24
  rfl
theorem ve52_0 (N : Nat) (zq5 : (a0 : Int) → (a1 : List Int) → (a2 : Int) → (a3 : Int) → (k0 : Int → List Int → Int → Int → O β) → O β) (a0 : Int) (a1 : List Int) (a2 : Int) (a3 : Int) (K : TV → List Blk → O β) : evFnG lay (VE52 N zq5) Tryd.f52 [.v (.one (.ptr 0 0)), .v (.one (.int .i64 a0))] [.pcells 0 96 [.sl 5 (.ints .u8 a1), .int .i64 a2, .int .i64 a3]] K = zb24 N zq5 a0 a1 a2 a3 (fun y0 y1 y2 y3 => K (.v (.one (.bool y0))) [.pcells 0 96 [.sl 5 (.ints .u8 y1), .int .i64 y2, .int .i64 y3]]) := by kernel_rfl
theorem e52_0 (N : Nat) (a0 : Int) (a1 : List Int) (a2 : Int) (a3 : Int) (K : TV → List Blk → O β) : evFnG lay (E52 N) Tryd.f52 [.v (.one (.ptr 0 0)), .v (.one (.int .i64 a0))] [.pcells 0 96 [.sl 5 (.ints .u8 a1), .int .i64 a2, .int .i64 a3]] K = zj24 N a0 a1 a2 a3 (fun y0 y1 y2 y3 => K (.v (.one (.bool y0))) [.pcells 0 96 [.sl 5 (.ints .u8 y1), .int .i64 y2, .int .i64 y3]]) := (ve52_0 N (zj5 N) a0 a1 a2 a3 K).trans (zt24 N a0 a1 a2 a3 (fun y0 y1 y2 y3 => K (.v (.one (.bool y0))) [.pcells 0 96 [.sl 5 (.ints .u8 y1), .int .i64 y2, .int .i64 y3]])).symm
theorem o52 (N : Nat) : GOK (β := β) inv Tryd.prog 52 (S52 N) := by
  refine g_of lay_ok mixed (E := E52 N) (specs_loops specs_nil) muts_nil (gs_cons (o70 N) gs_nil) Tryd.func52 (by kernel_rfl) 0 (by kernel_rfl) trivial fun args bl K r h => ?_
  unfold S52 VS52 at h
  split at h
  · exact (e52_0 N _ _ _ _ _).trans h
  · cases h
end Go.Proofs.YtddflpokemgnmaaDoor
