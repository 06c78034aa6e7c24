/- The functions that the claims reach answer as their texts do. -/
import Derived.Test.YtddflpokemgnmaaGreatDoorE1
namespace Go.Proofs.YtddflpokemgnmaaGreatDoor
open Go.Rv
set_option maxRecDepth 100000
set_option maxHeartbeats 2000000
set_option linter.unusedVariables false
variable {β : Type}
def VS75 (N : Nat) (zq43 : (a0 : Int) → (a1 : List Int) → (a2 : Int) → (a3 : Int) → (k0 : Int → Int → List Int → Int → Int → O β) → O β) : GSpec β := fun args bl K => match args, bl with
  | [.v (.one (.ptr 0 0)), .v (.one (.int .i64 a0))], [.pcells 0 80 [.sl 5 (.ints .u8 a1), .int .i64 a2, .int .i64 a3]] => zq43 a0 a1 a2 a3 (fun y0 y1 y2 y3 y4 => K (.v (.agg [.int .i64 y0, .int .i64 y1])) [.pcells 0 80 [.sl 5 (.ints .u8 y2), .int .i64 y3, .int .i64 y4]])
  | _, _ => none
def S75 (N : Nat) : GSpec β := VS75 N (zj43 N)
def h75_0_0  (v0 : Int) (v1 : Int) (v2 : Int) (v3 : List Int) (v4 : Int) (v5 : Int) (v6 : Int) (v7 : Int) : St := ⟨tund :: .v (.one (.int .i64 v0)) :: tund :: tund :: .v (.one (.ptr 1 0)) :: .v (.one (.int .i64 v1)) :: .v (.one (.int .i64 v2)) :: tund :: tund :: tund :: tund :: tund :: tund :: tund :: tund :: tund :: tund :: tund :: tund :: tund :: tund :: tund :: tund :: tund :: tund :: tund :: tund :: tund :: tund :: tund :: tund :: tund :: tund :: tund :: tund :: tund :: tund :: tund :: tund :: tund :: tund :: tund :: tund :: tund :: tund :: tund :: tund :: tund :: tund :: tund :: tund :: tund :: tund :: tund :: tund :: tund :: tund :: tund :: tund :: tund :: tund :: tund :: tund :: tund :: tund :: tund :: tund :: tund :: tund :: tund :: tund :: tund :: tund :: tund :: tund :: tund :: tund :: tund :: tund :: tund :: tund :: tund :: tund :: tund :: tund :: tund :: tund :: tund :: tund :: tund :: tund :: tund :: tund :: tund :: tund :: tund :: tund :: [], [.pcells 0 80 [.sl 5 (.ints .u8 v3), .int .i64 v4, .int .i64 v5], .cells 36 [.int .i64 v6, .int .i64 v7]]⟩
def x75_0_0_k0  (y0 : Int) (y1 : Int) (y2 : List Int) (y3 : Int) (y4 : Int) (y5 : Int) (y6 : Int) : St := ⟨tund :: .v (.one (.int .i64 y0)) :: tund :: tund :: .v (.one (.ptr 1 0)) :: .v (.one (.int .i64 y1)) :: tund :: tund :: tund :: tund :: tund :: tund :: tund :: tund :: tund :: tund :: tund :: tund :: tund :: tund :: tund :: tund :: tund :: tund :: tund :: tund :: tund :: tund :: tund :: tund :: tund :: tund :: tund :: tund :: tund :: tund :: tund :: tund :: tund :: tund :: tund :: tund :: tund :: tund :: tund :: tund :: tund :: tund :: tund :: tund :: tund :: tund :: tund :: tund :: tund :: tund :: tund :: tund :: tund :: tund :: tund :: tund :: tund :: tund :: tund :: tund :: tund :: tund :: tund :: tund :: tund :: tund :: tund :: tund :: tund :: tund :: tund :: tund :: tund :: tund :: tund :: tund :: tund :: tund :: tund :: tund :: tund :: tund :: tund :: tund :: tund :: tund :: tund :: tund :: tund :: tund :: tund :: [], [.pcells 0 80 [.sl 5 (.ints .u8 y2), .int .i64 y3, .int .i64 y4], .cells 36 [.int .i64 y5, .int .i64 y6]]⟩
def h75_1_0  (v0 : Int) (v1 : Int) (v2 : Int) (v3 : List Int) (v4 : Int) (v5 : Int) (v6 : Int) (v7 : Int) : St := ⟨tund :: .v (.one (.int .i64 v0)) :: tund :: tund :: .v (.one (.ptr 1 0)) :: .v (.one (.int .i64 v1)) :: tund :: .v (.one (.int .i64 v2)) :: tund :: tund :: tund :: tund :: tund :: tund :: tund :: tund :: tund :: tund :: tund :: tund :: tund :: tund :: tund :: tund :: tund :: tund :: tund :: tund :: tund :: tund :: tund :: tund :: tund :: tund :: tund :: tund :: tund :: tund :: tund :: tund :: tund :: tund :: tund :: tund :: tund :: tund :: tund :: tund :: tund :: tund :: tund :: tund :: tund :: tund :: tund :: tund :: tund :: tund :: tund :: tund :: tund :: tund :: tund :: tund :: tund :: tund :: tund :: tund :: tund :: tund :: tund :: tund :: tund :: tund :: tund :: tund :: tund :: tund :: tund :: tund :: tund :: tund :: tund :: tund :: tund :: tund :: tund :: tund :: tund :: tund :: tund :: tund :: tund :: tund :: tund :: tund :: tund :: [], [.pcells 0 80 [.sl 5 (.ints .u8 v3), .int .i64 v4, .int .i64 v5], .cells 36 [.int .i64 v6, .int .i64 v7]]⟩
def x75_1_0_k0  (y0 : Int) (y1 : Int) (y2 : List Int) (y3 : Int) (y4 : Int) (y5 : Int) (y6 : Int) : St := ⟨tund :: .v (.one (.int .i64 y0)) :: tund :: tund :: .v (.one (.ptr 1 0)) :: .v (.one (.int .i64 y1)) :: tund :: tund :: tund :: tund :: tund :: tund :: tund :: tund :: tund :: tund :: tund :: tund :: tund :: tund :: tund :: tund :: tund :: tund :: tund :: tund :: tund :: tund :: tund :: tund :: tund :: tund :: tund :: tund :: tund :: tund :: tund :: tund :: tund :: tund :: tund :: tund :: tund :: tund :: tund :: tund :: tund :: tund :: tund :: tund :: tund :: tund :: tund :: tund :: tund :: tund :: tund :: tund :: tund :: tund :: tund :: tund :: tund :: tund :: tund :: tund :: tund :: tund :: tund :: tund :: tund :: tund :: tund :: tund :: tund :: tund :: tund :: tund :: tund :: tund :: tund :: tund :: tund :: tund :: tund :: tund :: tund :: tund :: tund :: tund :: tund :: tund :: tund :: tund :: tund :: tund :: tund :: [], [.pcells 0 80 [.sl 5 (.ints .u8 y2), .int .i64 y3, .int .i64 y4], .cells 36 [.int .i64 y5, .int .i64 y6]]⟩
def h75_2_0  (v0 : Int) (v1 : Int) (v2 : Int) (v3 : Int) (v4 : List Int) (v5 : Int) (v6 : Int) (v7 : Int) (v8 : Int) : St := ⟨tund :: .v (.one (.int .i64 v0)) :: tund :: tund :: .v (.one (.ptr 1 0)) :: .v (.one (.int .i64 v1)) :: tund :: tund :: .v (.one (.int .i64 v2)) :: .v (.one (.int .i64 v3)) :: tund :: tund :: tund :: tund :: tund :: tund :: tund :: tund :: tund :: tund :: tund :: tund :: tund :: tund :: tund :: tund :: tund :: tund :: tund :: tund :: tund :: tund :: tund :: tund :: tund :: tund :: tund :: tund :: tund :: tund :: tund :: tund :: tund :: tund :: tund :: tund :: tund :: tund :: tund :: tund :: tund :: tund :: tund :: tund :: tund :: tund :: tund :: tund :: tund :: tund :: tund :: tund :: tund :: tund :: tund :: tund :: tund :: tund :: tund :: tund :: tund :: tund :: tund :: tund :: tund :: tund :: tund :: tund :: tund :: tund :: tund :: tund :: tund :: tund :: tund :: tund :: tund :: tund :: tund :: tund :: tund :: tund :: tund :: tund :: tund :: tund :: tund :: [], [.pcells 0 80 [.sl 5 (.ints .u8 v4), .int .i64 v5, .int .i64 v6], .cells 36 [.int .i64 v7, .int .i64 v8]]⟩
def x75_2_0_k0  (y0 : Int) (y1 : Int) (y2 : List Int) (y3 : Int) (y4 : Int) (y5 : Int) (y6 : Int) : St := ⟨tund :: .v (.one (.int .i64 y0)) :: tund :: tund :: .v (.one (.ptr 1 0)) :: .v (.one (.int .i64 y1)) :: tund :: tund :: tund :: tund :: tund :: tund :: tund :: tund :: tund :: tund :: tund :: tund :: tund :: tund :: tund :: tund :: tund :: tund :: tund :: tund :: tund :: tund :: tund :: tund :: tund :: tund :: tund :: tund :: tund :: tund :: tund :: tund :: tund :: tund :: tund :: tund :: tund :: tund :: tund :: tund :: tund :: tund :: tund :: tund :: tund :: tund :: tund :: tund :: tund :: tund :: tund :: tund :: tund :: tund :: tund :: tund :: tund :: tund :: tund :: tund :: tund :: tund :: tund :: tund :: tund :: tund :: tund :: tund :: tund :: tund :: tund :: tund :: tund :: tund :: tund :: tund :: tund :: tund :: tund :: tund :: tund :: tund :: tund :: tund :: tund :: tund :: tund :: tund :: tund :: tund :: tund :: [], [.pcells 0 80 [.sl 5 (.ints .u8 y2), .int .i64 y3, .int .i64 y4], .cells 36 [.int .i64 y5, .int .i64 y6]]⟩
def h75_3_0  (v0 : Int) (v1 : Int) (v2 : Int) (v3 : List Int) (v4 : Int) (v5 : Int) (v6 : Int) (v7 : Int) : St := ⟨.v (.one (.ptr 0 0)) :: .v (.one (.int .i64 v0)) :: tund :: tund :: .v (.one (.ptr 1 0)) :: .v (.one (.int .i64 v1)) :: tund :: tund :: tund :: tund :: .v (.one (.int .i64 v2)) :: tund :: tund :: tund :: tund :: tund :: tund :: tund :: tund :: tund :: tund :: tund :: tund :: tund :: tund :: tund :: tund :: tund :: tund :: tund :: tund :: tund :: tund :: tund :: tund :: tund :: tund :: tund :: tund :: tund :: tund :: tund :: tund :: tund :: tund :: tund :: tund :: tund :: tund :: tund :: tund :: tund :: tund :: tund :: tund :: tund :: tund :: tund :: tund :: tund :: tund :: tund :: tund :: tund :: tund :: tund :: tund :: tund :: tund :: tund :: tund :: tund :: tund :: tund :: tund :: tund :: tund :: tund :: tund :: tund :: tund :: tund :: tund :: tund :: tund :: tund :: tund :: tund :: tund :: tund :: tund :: tund :: tund :: tund :: tund :: tund :: tund :: [], [.pcells 0 80 [.sl 5 (.ints .u8 v3), .int .i64 v4, .int .i64 v5], .cells 36 [.int .i64 v6, .int .i64 v7]]⟩
def x75_3_0_k0  (y0 : Int) (y1 : Int) (y2 : List Int) (y3 : Int) (y4 : Int) (y5 : Int) (y6 : Int) : St := ⟨tund :: .v (.one (.int .i64 y0)) :: tund :: tund :: .v (.one (.ptr 1 0)) :: .v (.one (.int .i64 y1)) :: tund :: tund :: tund :: tund :: tund :: tund :: tund :: tund :: tund :: tund :: tund :: tund :: tund :: tund :: tund :: tund :: tund :: tund :: tund :: tund :: tund :: tund :: tund :: tund :: tund :: tund :: tund :: tund :: tund :: tund :: tund :: tund :: tund :: tund :: tund :: tund :: tund :: tund :: tund :: tund :: tund :: tund :: tund :: tund :: tund :: tund :: tund :: tund :: tund :: tund :: tund :: tund :: tund :: tund :: tund :: tund :: tund :: tund :: tund :: tund :: tund :: tund :: tund :: tund :: tund :: tund :: tund :: tund :: tund :: tund :: tund :: tund :: tund :: tund :: tund :: tund :: tund :: tund :: tund :: tund :: tund :: tund :: tund :: tund :: tund :: tund :: tund :: tund :: tund :: tund :: tund :: [], [.pcells 0 80 [.sl 5 (.ints .u8 y2), .int .i64 y3, .int .i64 y4], .cells 36 [.int .i64 y5, .int .i64 y6]]⟩
theorem fl75_0_0 (s : St) : refSt (h75_0_0 0 0 0 [] 0 0 0 0) s = h75_0_0 (intS (oneA (vT (nx tund s.tmps 1)))) (intS (oneA (vT (nx tund s.tmps 5)))) (intS (oneA (vT (nx tund s.tmps 6)))) (rInts (rowV (nx .und (cellsB (nx .dead s.blks 0)) 0))) (intS (nx .und (cellsB (nx .dead s.blks 0)) 1)) (intS (nx .und (cellsB (nx .dead s.blks 0)) 2)) (intS (nx .und (cellsB (nx .dead s.blks 1)) 0)) (intS (nx .und (cellsB (nx .dead s.blks 1)) 1)) := by kernel_rfl
def VLS75_3 (N : Nat) (zq36 : Nat → Int → Int → Int → List Int → Int → Int → Int → Int → (Int → Int → List Int → Int → Int → Int → Int → O β) → O β) : LSpec β := fun s K => cond (shpSt (h75_0_0 0 0 0 [] 0 0 0 0) s) ((fun (v0 : Int) (v1 : Int) (v2 : Int) (v3 : List Int) (v4 : Int) (v5 : Int) (v6 : Int) (v7 : Int) => zq36  N v0 v1 v2 v3 v4 v5 v6 v7 (fun y0 y1 y2 y3 y4 y5 y6 => K (.exit 3) (x75_0_0_k0  y0 y1 y2 y3 y4 y5 y6))) (intS (oneA (vT (nx tund s.tmps 1)))) (intS (oneA (vT (nx tund s.tmps 5)))) (intS (oneA (vT (nx tund s.tmps 6)))) (rInts (rowV (nx .und (cellsB (nx .dead s.blks 0)) 0))) (intS (nx .und (cellsB (nx .dead s.blks 0)) 1)) (intS (nx .und (cellsB (nx .dead s.blks 0)) 2)) (intS (nx .und (cellsB (nx .dead s.blks 1)) 0)) (intS (nx .und (cellsB (nx .dead s.blks 1)) 1))) (none)
def LS75_3 (N : Nat) : LSpec β := VLS75_3 N (zj36 N)
theorem fl75_1_0 (s : St) : refSt (h75_1_0 0 0 0 [] 0 0 0 0) s = h75_1_0 (intS (oneA (vT (nx tund s.tmps 1)))) (intS (oneA (vT (nx tund s.tmps 5)))) (intS (oneA (vT (nx tund s.tmps 7)))) (rInts (rowV (nx .und (cellsB (nx .dead s.blks 0)) 0))) (intS (nx .und (cellsB (nx .dead s.blks 0)) 1)) (intS (nx .und (cellsB (nx .dead s.blks 0)) 2)) (intS (nx .und (cellsB (nx .dead s.blks 1)) 0)) (intS (nx .und (cellsB (nx .dead s.blks 1)) 1)) := by kernel_rfl
def VLS75_5 (N : Nat) (zq38 : Nat → Int → Int → Int → List Int → Int → Int → Int → Int → (Int → Int → List Int → Int → Int → Int → Int → O β) → O β) : LSpec β := fun s K => cond (shpSt (h75_1_0 0 0 0 [] 0 0 0 0) s) ((fun (v0 : Int) (v1 : Int) (v2 : Int) (v3 : List Int) (v4 : Int) (v5 : Int) (v6 : Int) (v7 : Int) => zq38  N v0 v1 v2 v3 v4 v5 v6 v7 (fun y0 y1 y2 y3 y4 y5 y6 => K (.exit 5) (x75_1_0_k0  y0 y1 y2 y3 y4 y5 y6))) (intS (oneA (vT (nx tund s.tmps 1)))) (intS (oneA (vT (nx tund s.tmps 5)))) (intS (oneA (vT (nx tund s.tmps 7)))) (rInts (rowV (nx .und (cellsB (nx .dead s.blks 0)) 0))) (intS (nx .und (cellsB (nx .dead s.blks 0)) 1)) (intS (nx .und (cellsB (nx .dead s.blks 0)) 2)) (intS (nx .und (cellsB (nx .dead s.blks 1)) 0)) (intS (nx .und (cellsB (nx .dead s.blks 1)) 1))) (none)
def LS75_5 (N : Nat) : LSpec β := VLS75_5 N (zj38 N)
theorem fl75_2_0 (s : St) : refSt (h75_2_0 0 0 0 0 [] 0 0 0 0) s = h75_2_0 (intS (oneA (vT (nx tund s.tmps 1)))) (intS (oneA (vT (nx tund s.tmps 5)))) (intS (oneA (vT (nx tund s.tmps 8)))) (intS (oneA (vT (nx tund s.tmps 9)))) (rInts (rowV (nx .und (cellsB (nx .dead s.blks 0)) 0))) (intS (nx .und (cellsB (nx .dead s.blks 0)) 1)) (intS (nx .und (cellsB (nx .dead s.blks 0)) 2)) (intS (nx .und (cellsB (nx .dead s.blks 1)) 0)) (intS (nx .und (cellsB (nx .dead s.blks 1)) 1)) := by kernel_rfl
def VLS75_7 (N : Nat) (zq40 : Nat → Int → Int → Int → Int → List Int → Int → Int → Int → Int → (Int → Int → List Int → Int → Int → Int → Int → O β) → O β) : LSpec β := fun s K => cond (shpSt (h75_2_0 0 0 0 0 [] 0 0 0 0) s) ((fun (v0 : Int) (v1 : Int) (v2 : Int) (v3 : Int) (v4 : List Int) (v5 : Int) (v6 : Int) (v7 : Int) (v8 : Int) => zq40  N v0 v1 v2 v3 v4 v5 v6 v7 v8 (fun y0 y1 y2 y3 y4 y5 y6 => K (.exit 7) (x75_2_0_k0  y0 y1 y2 y3 y4 y5 y6))) (intS (oneA (vT (nx tund s.tmps 1)))) (intS (oneA (vT (nx tund s.tmps 5)))) (intS (oneA (vT (nx tund s.tmps 8)))) (intS (oneA (vT (nx tund s.tmps 9)))) (rInts (rowV (nx .und (cellsB (nx .dead s.blks 0)) 0))) (intS (nx .und (cellsB (nx .dead s.blks 0)) 1)) (intS (nx .und (cellsB (nx .dead s.blks 0)) 2)) (intS (nx .und (cellsB (nx .dead s.blks 1)) 0)) (intS (nx .und (cellsB (nx .dead s.blks 1)) 1))) (none)
def LS75_7 (N : Nat) : LSpec β := VLS75_7 N (zj40 N)
theorem fl75_3_0 (s : St) : refSt (h75_3_0 0 0 0 [] 0 0 0 0) s = h75_3_0 (intS (oneA (vT (nx tund s.tmps 1)))) (intS (oneA (vT (nx tund s.tmps 5)))) (intS (oneA (vT (nx tund s.tmps 10)))) (rInts (rowV (nx .und (cellsB (nx .dead s.blks 0)) 0))) (intS (nx .und (cellsB (nx .dead s.blks 0)) 1)) (intS (nx .und (cellsB (nx .dead s.blks 0)) 2)) (intS (nx .und (cellsB (nx .dead s.blks 1)) 0)) (intS (nx .und (cellsB (nx .dead s.blks 1)) 1)) := by kernel_rfl
def VLS75_1 (N : Nat) (zq42 : Nat → Int → Int → Int → List Int → Int → Int → Int → Int → (Int → Int → List Int → Int → Int → Int → Int → O β) → O β) : LSpec β := fun s K => cond (shpSt (h75_3_0 0 0 0 [] 0 0 0 0) s) ((fun (v0 : Int) (v1 : Int) (v2 : Int) (v3 : List Int) (v4 : Int) (v5 : Int) (v6 : Int) (v7 : Int) => zq42  N v0 v1 v2 v3 v4 v5 v6 v7 (fun y0 y1 y2 y3 y4 y5 y6 => K (.exit 1) (x75_3_0_k0  y0 y1 y2 y3 y4 y5 y6))) (intS (oneA (vT (nx tund s.tmps 1)))) (intS (oneA (vT (nx tund s.tmps 5)))) (intS (oneA (vT (nx tund s.tmps 10)))) (rInts (rowV (nx .und (cellsB (nx .dead s.blks 0)) 0))) (intS (nx .und (cellsB (nx .dead s.blks 0)) 1)) (intS (nx .und (cellsB (nx .dead s.blks 0)) 2)) (intS (nx .und (cellsB (nx .dead s.blks 1)) 0)) (intS (nx .und (cellsB (nx .dead s.blks 1)) 1))) (none)
def LS75_1 (N : Nat) : LSpec β := VLS75_1 N (zj42 N)
def VE75 (N : Nat) (zq30 : (a0 : Int) → (a1 : Int) → (k : Int → O β) → O β) (zq31 : (a0 : Int) → (k : Int → O β) → O β) (zq34 : (a0 : Int) → (k : Int → O β) → O β) (zq36 : Nat → Int → Int → Int → List Int → Int → Int → Int → Int → (Int → Int → List Int → Int → Int → Int → Int → O β) → O β) (zq38 : Nat → Int → Int → Int → List Int → Int → Int → Int → Int → (Int → Int → List Int → Int → Int → Int → Int → O β) → O β) (zq40 : Nat → Int → Int → Int → Int → List Int → Int → Int → Int → Int → (Int → Int → List Int → Int → Int → Int → Int → O β) → O β) (zq42 : Nat → Int → Int → Int → List Int → Int → Int → Int → Int → (Int → Int → List Int → Int → Int → Int → Int → O β) → O β) (zq27 : (a0 : Int) → (a1 : List Int) → (a2 : Int) → (a3 : Int) → (k0 : Int → List Int → Int → Int → O β) → O β) : Env β := ⟨[(88, VS88 N zq30), (90, VS90 N zq31), (89, VS89 N zq34)], [], [(3, VLS75_3 N zq36), (5, VLS75_5 N zq38), (7, VLS75_7 N zq40), (1, VLS75_1 N zq42)], [(43, VS43 N zq27)], ⟨[], [], [], []⟩⟩
def E75 (N : Nat) : Env β := VE75 N (zj30 N) (zj31 N) (zj34 N) (zj36 N) (zj38 N) (zj40 N) (zj42 N) (zj27 N)
def zb35 (N : Nat) (zq34 : (a0 : Int) → (k : Int → O β) → O β)  (v0 : Int) (v1 : Int) (v2 : Int) (v3 : List Int) (v4 : Int) (v5 : Int) (v6 : Int) (v7 : Int) (rec_ : Int → Int → Int → List Int → Int → Int → Int → Int → O β) (k0 : Int → Int → List Int → Int → Int → Int → Int → O β) : O β :=
(gd ((decide (0 ≤ v0)))
((cond ((decide (v2 < (shlI .i64 1 v0))))
(zq34 v2 fun r16 =>
(cond ((decide ((w64 (2 * r16)) > v0)))
((gd ((decide (0 ≤ v2)))
(rec_ v0 ((bits .or .i64 v1 (shlI .i64 1 v2))) ((w64 (v2 + 1))) v3 v4 v5 v6 v7)))
(rec_ v0 v1 ((w64 (v2 + 1))) v3 v4 v5 v6 v7)))
(k0 v0 v1 v3 v4 v5 v6 v7))))
theorem zt35 (N : Nat)  (v0 : Int) (v1 : Int) (v2 : Int) (v3 : List Int) (v4 : Int) (v5 : Int) (v6 : Int) (v7 : Int) (rec_ : Int → Int → Int → List Int → Int → Int → Int → Int → O β) (k0 : Int → Int → List Int → Int → Int → Int → Int → O β) : zj35 N v0 v1 v2 v3 v4 v5 v6 v7 rec_ k0 = zb35 N (zj34 N) v0 v1 v2 v3 v4 v5 v6 v7 rec_ k0 := by
  unfold zj35 zb35
  rfl
theorem vst75_0_0 (N : Nat) (zq30 : (a0 : Int) → (a1 : Int) → (k : Int → O β) → O β) (zq31 : (a0 : Int) → (k : Int → O β) → O β) (zq34 : (a0 : Int) → (k : Int → O β) → O β) (zq36 : Nat → Int → Int → Int → List Int → Int → Int → Int → Int → (Int → Int → List Int → Int → Int → Int → Int → O β) → O β) (zq38 : Nat → Int → Int → Int → List Int → Int → Int → Int → Int → (Int → Int → List Int → Int → Int → Int → Int → O β) → O β) (zq40 : Nat → Int → Int → Int → Int → List Int → Int → Int → Int → Int → (Int → Int → List Int → Int → Int → Int → Int → O β) → O β) (zq42 : Nat → Int → Int → Int → List Int → Int → Int → Int → Int → (Int → Int → List Int → Int → Int → Int → Int → O β) → O β) (zq27 : (a0 : Int) → (a1 : List Int) → (a2 : Int) → (a3 : Int) → (k0 : Int → List Int → Int → Int → O β) → O β)  (v0 : Int) (v1 : Int) (v2 : Int) (v3 : List Int) (v4 : Int) (v5 : Int) (v6 : Int) (v7 : Int) (rec_ : St → O β) (K : Exit → St → O β) :
    ev lay (VE75 N zq30 zq31 zq34 zq36 zq38 zq40 zq42 zq27) (retMask Tryz.f75) (lp Tryz.f75 0).body (lp Tryz.f75 0).ex ((lp Tryz.f75 0).lv (retMask Tryz.f75)) (h75_0_0  v0 v1 v2 v3 v4 v5 v6 v7) (nextR (fun s' => rec_ (s'.tidy ((lp Tryz.f75 0).lv (retMask Tryz.f75)))) K) = zb35 N zq34  v0 v1 v2 v3 v4 v5 v6 v7 (fun v0 v1 v2 v3 v4 v5 v6 v7 => rec_ (h75_0_0  v0 v1 v2 v3 v4 v5 v6 v7)) (fun y0 y1 y2 y3 y4 y5 y6 => K (.exit 3) (x75_0_0_k0  y0 y1 y2 y3 y4 y5 y6)) := by kernel_rfl
theorem st75_0_0 (N : Nat)  (v0 : Int) (v1 : Int) (v2 : Int) (v3 : List Int) (v4 : Int) (v5 : Int) (v6 : Int) (v7 : Int) (rec_ : St → O β) (K : Exit → St → O β) :
    ev lay (E75 N) (retMask Tryz.f75) (lp Tryz.f75 0).body (lp Tryz.f75 0).ex ((lp Tryz.f75 0).lv (retMask Tryz.f75)) (h75_0_0  v0 v1 v2 v3 v4 v5 v6 v7) (nextR (fun s' => rec_ (s'.tidy ((lp Tryz.f75 0).lv (retMask Tryz.f75)))) K) = zj35 N  v0 v1 v2 v3 v4 v5 v6 v7 (fun v0 v1 v2 v3 v4 v5 v6 v7 => rec_ (h75_0_0  v0 v1 v2 v3 v4 v5 v6 v7)) (fun y0 y1 y2 y3 y4 y5 y6 => K (.exit 3) (x75_0_0_k0  y0 y1 y2 y3 y4 y5 y6)) := (vst75_0_0 N (zj30 N) (zj31 N) (zj34 N) (zj36 N) (zj38 N) (zj40 N) (zj42 N) (zj27 N) v0 v1 v2 v3 v4 v5 v6 v7 rec_ K).trans (zt35 N  v0 v1 v2 v3 v4 v5 v6 v7 (fun v0 v1 v2 v3 v4 v5 v6 v7 => rec_ (h75_0_0  v0 v1 v2 v3 v4 v5 v6 v7)) (fun y0 y1 y2 y3 y4 y5 y6 => K (.exit 3) (x75_0_0_k0  y0 y1 y2 y3 y4 y5 y6))).symm
theorem ro75_0_0 (N : Nat)  (K : Exit → St → O β) : ∀ (F : Nat) (v0 : Int) (v1 : Int) (v2 : Int) (v3 : List Int) (v4 : Int) (v5 : Int) (v6 : Int) (v7 : Int), (lp Tryz.f75 0).rounds lay (E75 N) (retMask Tryz.f75) F (h75_0_0  v0 v1 v2 v3 v4 v5 v6 v7) K = zj36 N  F v0 v1 v2 v3 v4 v5 v6 v7 (fun y0 y1 y2 y3 y4 y5 y6 => K (.exit 3) (x75_0_0_k0  y0 y1 y2 y3 y4 y5 y6)) := by
  intro F
  induction F with
  | zero => intros; rfl
  | succ F ih =>
    intros
    rw [rounds_next]
    refine (st75_0_0 N  _ _ _ _ _ _ _ _ (fun s => (lp Tryz.f75 0).rounds lay (E75 N) (retMask Tryz.f75) F s K) K).trans ?_
    simp only [ih]
    rfl
theorem lk75_3 (N : Nat) : lookL (E75 (β := β) N).loops (lp Tryz.f75 0).id = LS75_3 N := by kernel_rfl
theorem rk75_3 (N : Nat) : RoundsOK lay (E75 (β := β) N) (retMask Tryz.f75) (lp Tryz.f75 0) := by
  intro s K r h
  rw [lk75_3] at h
  unfold LS75_3 VLS75_3 at h
  cases hb : shpSt (h75_0_0 0 0 0 [] 0 0 0 0) s with
  | true =>
    rw [hb, cond_true] at h
    exact ⟨N, by rw [← shpSt_ref hb, fl75_0_0 s]; exact (ro75_0_0 N  K N (intS (oneA (vT (nx tund s.tmps 1)))) (intS (oneA (vT (nx tund s.tmps 5)))) (intS (oneA (vT (nx tund s.tmps 6)))) (rInts (rowV (nx .und (cellsB (nx .dead s.blks 0)) 0))) (intS (nx .und (cellsB (nx .dead s.blks 0)) 1)) (intS (nx .und (cellsB (nx .dead s.blks 0)) 2)) (intS (nx .und (cellsB (nx .dead s.blks 1)) 0)) (intS (nx .und (cellsB (nx .dead s.blks 1)) 1))).trans h⟩
  | false =>
  rw [hb, cond_false] at h
  clear hb
  cases h
def zb37 (N : Nat) (zq34 : (a0 : Int) → (k : Int → O β) → O β)  (v0 : Int) (v1 : Int) (v2 : Int) (v3 : List Int) (v4 : Int) (v5 : Int) (v6 : Int) (v7 : Int) (rec_ : Int → Int → Int → List Int → Int → Int → Int → Int → O β) (k0 : Int → Int → List Int → Int → Int → Int → Int → O β) : O β :=
(gd ((decide (0 ≤ v0)))
((cond ((decide (v2 < (shlI .i64 1 v0))))
(zq34 v2 fun r20 =>
(cond (((remI r20 2) == 1))
((gd ((decide (0 ≤ v2)))
(rec_ v0 ((bits .or .i64 v1 (shlI .i64 1 v2))) ((w64 (v2 + 1))) v3 v4 v5 v6 v7)))
(rec_ v0 v1 ((w64 (v2 + 1))) v3 v4 v5 v6 v7)))
(k0 v0 v1 v3 v4 v5 v6 v7))))
theorem zt37 (N : Nat)  (v0 : Int) (v1 : Int) (v2 : Int) (v3 : List Int) (v4 : Int) (v5 : Int) (v6 : Int) (v7 : Int) (rec_ : Int → Int → Int → List Int → Int → Int → Int → Int → O β) (k0 : Int → Int → List Int → Int → Int → Int → Int → O β) : zj37 N v0 v1 v2 v3 v4 v5 v6 v7 rec_ k0 = zb37 N (zj34 N) v0 v1 v2 v3 v4 v5 v6 v7 rec_ k0 := by
  unfold zj37 zb37
  rfl
theorem vst75_1_0 (N : Nat) (zq30 : (a0 : Int) → (a1 : Int) → (k : Int → O β) → O β) (zq31 : (a0 : Int) → (k : Int → O β) → O β) (zq34 : (a0 : Int) → (k : Int → O β) → O β) (zq36 : Nat → Int → Int → Int → List Int → Int → Int → Int → Int → (Int → Int → List Int → Int → Int → Int → Int → O β) → O β) (zq38 : Nat → Int → Int → Int → List Int → Int → Int → Int → Int → (Int → Int → List Int → Int → Int → Int → Int → O β) → O β) (zq40 : Nat → Int → Int → Int → Int → List Int → Int → Int → Int → Int → (Int → Int → List Int → Int → Int → Int → Int → O β) → O β) (zq42 : Nat → Int → Int → Int → List Int → Int → Int → Int → Int → (Int → Int → List Int → Int → Int → Int → Int → O β) → O β) (zq27 : (a0 : Int) → (a1 : List Int) → (a2 : Int) → (a3 : Int) → (k0 : Int → List Int → Int → Int → O β) → O β)  (v0 : Int) (v1 : Int) (v2 : Int) (v3 : List Int) (v4 : Int) (v5 : Int) (v6 : Int) (v7 : Int) (rec_ : St → O β) (K : Exit → St → O β) :
    ev lay (VE75 N zq30 zq31 zq34 zq36 zq38 zq40 zq42 zq27) (retMask Tryz.f75) (lp Tryz.f75 1).body (lp Tryz.f75 1).ex ((lp Tryz.f75 1).lv (retMask Tryz.f75)) (h75_1_0  v0 v1 v2 v3 v4 v5 v6 v7) (nextR (fun s' => rec_ (s'.tidy ((lp Tryz.f75 1).lv (retMask Tryz.f75)))) K) = zb37 N zq34  v0 v1 v2 v3 v4 v5 v6 v7 (fun v0 v1 v2 v3 v4 v5 v6 v7 => rec_ (h75_1_0  v0 v1 v2 v3 v4 v5 v6 v7)) (fun y0 y1 y2 y3 y4 y5 y6 => K (.exit 5) (x75_1_0_k0  y0 y1 y2 y3 y4 y5 y6)) := by kernel_rfl
theorem st75_1_0 (N : Nat)  (v0 : Int) (v1 : Int) (v2 : Int) (v3 : List Int) (v4 : Int) (v5 : Int) (v6 : Int) (v7 : Int) (rec_ : St → O β) (K : Exit → St → O β) :
    ev lay (E75 N) (retMask Tryz.f75) (lp Tryz.f75 1).body (lp Tryz.f75 1).ex ((lp Tryz.f75 1).lv (retMask Tryz.f75)) (h75_1_0  v0 v1 v2 v3 v4 v5 v6 v7) (nextR (fun s' => rec_ (s'.tidy ((lp Tryz.f75 1).lv (retMask Tryz.f75)))) K) = zj37 N  v0 v1 v2 v3 v4 v5 v6 v7 (fun v0 v1 v2 v3 v4 v5 v6 v7 => rec_ (h75_1_0  v0 v1 v2 v3 v4 v5 v6 v7)) (fun y0 y1 y2 y3 y4 y5 y6 => K (.exit 5) (x75_1_0_k0  y0 y1 y2 y3 y4 y5 y6)) := (vst75_1_0 N (zj30 N) (zj31 N) (zj34 N) (zj36 N) (zj38 N) (zj40 N) (zj42 N) (zj27 N) v0 v1 v2 v3 v4 v5 v6 v7 rec_ K).trans (zt37 N  v0 v1 v2 v3 v4 v5 v6 v7 (fun v0 v1 v2 v3 v4 v5 v6 v7 => rec_ (h75_1_0  v0 v1 v2 v3 v4 v5 v6 v7)) (fun y0 y1 y2 y3 y4 y5 y6 => K (.exit 5) (x75_1_0_k0  y0 y1 y2 y3 y4 y5 y6))).symm
theorem ro75_1_0 (N : Nat)  (K : Exit → St → O β) : ∀ (F : Nat) (v0 : Int) (v1 : Int) (v2 : Int) (v3 : List Int) (v4 : Int) (v5 : Int) (v6 : Int) (v7 : Int), (lp Tryz.f75 1).rounds lay (E75 N) (retMask Tryz.f75) F (h75_1_0  v0 v1 v2 v3 v4 v5 v6 v7) K = zj38 N  F v0 v1 v2 v3 v4 v5 v6 v7 (fun y0 y1 y2 y3 y4 y5 y6 => K (.exit 5) (x75_1_0_k0  y0 y1 y2 y3 y4 y5 y6)) := by
  intro F
  induction F with
  | zero => intros; rfl
  | succ F ih =>
    intros
    rw [rounds_next]
    refine (st75_1_0 N  _ _ _ _ _ _ _ _ (fun s => (lp Tryz.f75 1).rounds lay (E75 N) (retMask Tryz.f75) F s K) K).trans ?_
    simp only [ih]
    rfl
theorem lk75_5 (N : Nat) : lookL (E75 (β := β) N).loops (lp Tryz.f75 1).id = LS75_5 N := by kernel_rfl
theorem rk75_5 (N : Nat) : RoundsOK lay (E75 (β := β) N) (retMask Tryz.f75) (lp Tryz.f75 1) := by
  intro s K r h
  rw [lk75_5] at h
  unfold LS75_5 VLS75_5 at h
  cases hb : shpSt (h75_1_0 0 0 0 [] 0 0 0 0) s with
  | true =>
    rw [hb, cond_true] at h
    exact ⟨N, by rw [← shpSt_ref hb, fl75_1_0 s]; exact (ro75_1_0 N  K N (intS (oneA (vT (nx tund s.tmps 1)))) (intS (oneA (vT (nx tund s.tmps 5)))) (intS (oneA (vT (nx tund s.tmps 7)))) (rInts (rowV (nx .und (cellsB (nx .dead s.blks 0)) 0))) (intS (nx .und (cellsB (nx .dead s.blks 0)) 1)) (intS (nx .und (cellsB (nx .dead s.blks 0)) 2)) (intS (nx .und (cellsB (nx .dead s.blks 1)) 0)) (intS (nx .und (cellsB (nx .dead s.blks 1)) 1))).trans h⟩
  | false =>
  rw [hb, cond_false] at h
  clear hb
  cases h
def zb39 (N : Nat)  (v0 : Int) (v1 : Int) (v2 : Int) (v3 : Int) (v4 : List Int) (v5 : Int) (v6 : Int) (v7 : Int) (v8 : Int) (rec_ : Int → Int → Int → Int → List Int → Int → Int → Int → Int → O β) (k0 : Int → Int → List Int → Int → Int → Int → Int → O β) : O β :=
(gd ((decide (0 ≤ v0)))
((cond ((decide (v3 < (shlI .i64 1 v0))))
((cond (((bits .and .i64 v3 v2) == v2))
((gd ((decide (0 ≤ v3)))
(rec_ v0 ((bits .or .i64 v1 (shlI .i64 1 v3))) v2 ((w64 (v3 + 1))) v4 v5 v6 v7 v8)))
(rec_ v0 v1 v2 ((w64 (v3 + 1))) v4 v5 v6 v7 v8)))
(k0 v0 v1 v4 v5 v6 v7 v8))))
theorem zt39 (N : Nat)  (v0 : Int) (v1 : Int) (v2 : Int) (v3 : Int) (v4 : List Int) (v5 : Int) (v6 : Int) (v7 : Int) (v8 : Int) (rec_ : Int → Int → Int → Int → List Int → Int → Int → Int → Int → O β) (k0 : Int → Int → List Int → Int → Int → Int → Int → O β) : zj39 N v0 v1 v2 v3 v4 v5 v6 v7 v8 rec_ k0 = zb39 N v0 v1 v2 v3 v4 v5 v6 v7 v8 rec_ k0 := by
  unfold zj39 zb39
  rfl
theorem vst75_2_0 (N : Nat) (zq30 : (a0 : Int) → (a1 : Int) → (k : Int → O β) → O β) (zq31 : (a0 : Int) → (k : Int → O β) → O β) (zq34 : (a0 : Int) → (k : Int → O β) → O β) (zq36 : Nat → Int → Int → Int → List Int → Int → Int → Int → Int → (Int → Int → List Int → Int → Int → Int → Int → O β) → O β) (zq38 : Nat → Int → Int → Int → List Int → Int → Int → Int → Int → (Int → Int → List Int → Int → Int → Int → Int → O β) → O β) (zq40 : Nat → Int → Int → Int → Int → List Int → Int → Int → Int → Int → (Int → Int → List Int → Int → Int → Int → Int → O β) → O β) (zq42 : Nat → Int → Int → Int → List Int → Int → Int → Int → Int → (Int → Int → List Int → Int → Int → Int → Int → O β) → O β) (zq27 : (a0 : Int) → (a1 : List Int) → (a2 : Int) → (a3 : Int) → (k0 : Int → List Int → Int → Int → O β) → O β)  (v0 : Int) (v1 : Int) (v2 : Int) (v3 : Int) (v4 : List Int) (v5 : Int) (v6 : Int) (v7 : Int) (v8 : Int) (rec_ : St → O β) (K : Exit → St → O β) :
    ev lay (VE75 N zq30 zq31 zq34 zq36 zq38 zq40 zq42 zq27) (retMask Tryz.f75) (lp Tryz.f75 2).body (lp Tryz.f75 2).ex ((lp Tryz.f75 2).lv (retMask Tryz.f75)) (h75_2_0  v0 v1 v2 v3 v4 v5 v6 v7 v8) (nextR (fun s' => rec_ (s'.tidy ((lp Tryz.f75 2).lv (retMask Tryz.f75)))) K) = zb39 N  v0 v1 v2 v3 v4 v5 v6 v7 v8 (fun v0 v1 v2 v3 v4 v5 v6 v7 v8 => rec_ (h75_2_0  v0 v1 v2 v3 v4 v5 v6 v7 v8)) (fun y0 y1 y2 y3 y4 y5 y6 => K (.exit 7) (x75_2_0_k0  y0 y1 y2 y3 y4 y5 y6)) := by kernel_rfl
theorem st75_2_0 (N : Nat)  (v0 : Int) (v1 : Int) (v2 : Int) (v3 : Int) (v4 : List Int) (v5 : Int) (v6 : Int) (v7 : Int) (v8 : Int) (rec_ : St → O β) (K : Exit → St → O β) :
    ev lay (E75 N) (retMask Tryz.f75) (lp Tryz.f75 2).body (lp Tryz.f75 2).ex ((lp Tryz.f75 2).lv (retMask Tryz.f75)) (h75_2_0  v0 v1 v2 v3 v4 v5 v6 v7 v8) (nextR (fun s' => rec_ (s'.tidy ((lp Tryz.f75 2).lv (retMask Tryz.f75)))) K) = zj39 N  v0 v1 v2 v3 v4 v5 v6 v7 v8 (fun v0 v1 v2 v3 v4 v5 v6 v7 v8 => rec_ (h75_2_0  v0 v1 v2 v3 v4 v5 v6 v7 v8)) (fun y0 y1 y2 y3 y4 y5 y6 => K (.exit 7) (x75_2_0_k0  y0 y1 y2 y3 y4 y5 y6)) := (vst75_2_0 N (zj30 N) (zj31 N) (zj34 N) (zj36 N) (zj38 N) (zj40 N) (zj42 N) (zj27 N) v0 v1 v2 v3 v4 v5 v6 v7 v8 rec_ K).trans (zt39 N  v0 v1 v2 v3 v4 v5 v6 v7 v8 (fun v0 v1 v2 v3 v4 v5 v6 v7 v8 => rec_ (h75_2_0  v0 v1 v2 v3 v4 v5 v6 v7 v8)) (fun y0 y1 y2 y3 y4 y5 y6 => K (.exit 7) (x75_2_0_k0  y0 y1 y2 y3 y4 y5 y6))).symm
theorem ro75_2_0 (N : Nat)  (K : Exit → St → O β) : ∀ (F : Nat) (v0 : Int) (v1 : Int) (v2 : Int) (v3 : Int) (v4 : List Int) (v5 : Int) (v6 : Int) (v7 : Int) (v8 : Int), (lp Tryz.f75 2).rounds lay (E75 N) (retMask Tryz.f75) F (h75_2_0  v0 v1 v2 v3 v4 v5 v6 v7 v8) K = zj40 N  F v0 v1 v2 v3 v4 v5 v6 v7 v8 (fun y0 y1 y2 y3 y4 y5 y6 => K (.exit 7) (x75_2_0_k0  y0 y1 y2 y3 y4 y5 y6)) := by
  intro F
  induction F with
  | zero => intros; rfl
  | succ F ih =>
    intros
    rw [rounds_next]
    refine (st75_2_0 N  _ _ _ _ _ _ _ _ _ (fun s => (lp Tryz.f75 2).rounds lay (E75 N) (retMask Tryz.f75) F s K) K).trans ?_
    simp only [ih]
    rfl
theorem lk75_7 (N : Nat) : lookL (E75 (β := β) N).loops (lp Tryz.f75 2).id = LS75_7 N := by kernel_rfl
theorem rk75_7 (N : Nat) : RoundsOK lay (E75 (β := β) N) (retMask Tryz.f75) (lp Tryz.f75 2) := by
  intro s K r h
  rw [lk75_7] at h
  unfold LS75_7 VLS75_7 at h
  cases hb : shpSt (h75_2_0 0 0 0 0 [] 0 0 0 0) s with
  | true =>
    rw [hb, cond_true] at h
    exact ⟨N, by rw [← shpSt_ref hb, fl75_2_0 s]; exact (ro75_2_0 N  K N (intS (oneA (vT (nx tund s.tmps 1)))) (intS (oneA (vT (nx tund s.tmps 5)))) (intS (oneA (vT (nx tund s.tmps 8)))) (intS (oneA (vT (nx tund s.tmps 9)))) (rInts (rowV (nx .und (cellsB (nx .dead s.blks 0)) 0))) (intS (nx .und (cellsB (nx .dead s.blks 0)) 1)) (intS (nx .und (cellsB (nx .dead s.blks 0)) 2)) (intS (nx .und (cellsB (nx .dead s.blks 1)) 0)) (intS (nx .und (cellsB (nx .dead s.blks 1)) 1))).trans h⟩
  | false =>
  rw [hb, cond_false] at h
  clear hb
  cases h
def zb41 (N : Nat) (zq27 : (a0 : Int) → (a1 : List Int) → (a2 : Int) → (a3 : Int) → (k0 : Int → List Int → Int → Int → O β) → O β)  (v0 : Int) (v1 : Int) (v2 : Int) (v3 : List Int) (v4 : Int) (v5 : Int) (v6 : Int) (v7 : Int) (rec_ : Int → Int → Int → List Int → Int → Int → Int → Int → O β) (k0 : Int → Int → List Int → Int → Int → Int → Int → O β) : O β :=
(gd ((decide (0 ≤ v0)))
((cond ((decide (v2 < (shlI .i64 1 v0))))
(zq27 2 v3 v4 v5 (fun r28_0 r28_1 r28_2 r28_3 =>
(gd ((decide (0 ≤ v2)))
(rec_ v0 ((bits .or .i64 v1 (shlI .i64 r28_0 v2))) ((w64 (v2 + 1))) r28_1 r28_2 r28_3 v6 v7))))
(k0 v0 v1 v3 v4 v5 v6 v7))))
theorem zt41 (N : Nat)  (v0 : Int) (v1 : Int) (v2 : Int) (v3 : List Int) (v4 : Int) (v5 : Int) (v6 : Int) (v7 : Int) (rec_ : Int → Int → Int → List Int → Int → Int → Int → Int → O β) (k0 : Int → Int → List Int → Int → Int → Int → Int → O β) : zj41 N v0 v1 v2 v3 v4 v5 v6 v7 rec_ k0 = zb41 N (zj27 N) v0 v1 v2 v3 v4 v5 v6 v7 rec_ k0 := by
  unfold zj41 zb41
  rfl
theorem vst75_3_0 (N : Nat) (zq30 : (a0 : Int) → (a1 : Int) → (k : Int → O β) → O β) (zq31 : (a0 : Int) → (k : Int → O β) → O β) (zq34 : (a0 : Int) → (k : Int → O β) → O β) (zq36 : Nat → Int → Int → Int → List Int → Int → Int → Int → Int → (Int → Int → List Int → Int → Int → Int → Int → O β) → O β) (zq38 : Nat → Int → Int → Int → List Int → Int → Int → Int → Int → (Int → Int → List Int → Int → Int → Int → Int → O β) → O β) (zq40 : Nat → Int → Int → Int → Int → List Int → Int → Int → Int → Int → (Int → Int → List Int → Int → Int → Int → Int → O β) → O β) (zq42 : Nat → Int → Int → Int → List Int → Int → Int → Int → Int → (Int → Int → List Int → Int → Int → Int → Int → O β) → O β) (zq27 : (a0 : Int) → (a1 : List Int) → (a2 : Int) → (a3 : Int) → (k0 : Int → List Int → Int → Int → O β) → O β)  (v0 : Int) (v1 : Int) (v2 : Int) (v3 : List Int) (v4 : Int) (v5 : Int) (v6 : Int) (v7 : Int) (rec_ : St → O β) (K : Exit → St → O β) :
    ev lay (VE75 N zq30 zq31 zq34 zq36 zq38 zq40 zq42 zq27) (retMask Tryz.f75) (lp Tryz.f75 3).body (lp Tryz.f75 3).ex ((lp Tryz.f75 3).lv (retMask Tryz.f75)) (h75_3_0  v0 v1 v2 v3 v4 v5 v6 v7) (nextR (fun s' => rec_ (s'.tidy ((lp Tryz.f75 3).lv (retMask Tryz.f75)))) K) = zb41 N zq27  v0 v1 v2 v3 v4 v5 v6 v7 (fun v0 v1 v2 v3 v4 v5 v6 v7 => rec_ (h75_3_0  v0 v1 v2 v3 v4 v5 v6 v7)) (fun y0 y1 y2 y3 y4 y5 y6 => K (.exit 1) (x75_3_0_k0  y0 y1 y2 y3 y4 y5 y6)) := by kernel_rfl
theorem st75_3_0 (N : Nat)  (v0 : Int) (v1 : Int) (v2 : Int) (v3 : List Int) (v4 : Int) (v5 : Int) (v6 : Int) (v7 : Int) (rec_ : St → O β) (K : Exit → St → O β) :
    ev lay (E75 N) (retMask Tryz.f75) (lp Tryz.f75 3).body (lp Tryz.f75 3).ex ((lp Tryz.f75 3).lv (retMask Tryz.f75)) (h75_3_0  v0 v1 v2 v3 v4 v5 v6 v7) (nextR (fun s' => rec_ (s'.tidy ((lp Tryz.f75 3).lv (retMask Tryz.f75)))) K) = zj41 N  v0 v1 v2 v3 v4 v5 v6 v7 (fun v0 v1 v2 v3 v4 v5 v6 v7 => rec_ (h75_3_0  v0 v1 v2 v3 v4 v5 v6 v7)) (fun y0 y1 y2 y3 y4 y5 y6 => K (.exit 1) (x75_3_0_k0  y0 y1 y2 y3 y4 y5 y6)) := (vst75_3_0 N (zj30 N) (zj31 N) (zj34 N) (zj36 N) (zj38 N) (zj40 N) (zj42 N) (zj27 N) v0 v1 v2 v3 v4 v5 v6 v7 rec_ K).trans (zt41 N  v0 v1 v2 v3 v4 v5 v6 v7 (fun v0 v1 v2 v3 v4 v5 v6 v7 => rec_ (h75_3_0  v0 v1 v2 v3 v4 v5 v6 v7)) (fun y0 y1 y2 y3 y4 y5 y6 => K (.exit 1) (x75_3_0_k0  y0 y1 y2 y3 y4 y5 y6))).symm
theorem ro75_3_0 (N : Nat)  (K : Exit → St → O β) : ∀ (F : Nat) (v0 : Int) (v1 : Int) (v2 : Int) (v3 : List Int) (v4 : Int) (v5 : Int) (v6 : Int) (v7 : Int), (lp Tryz.f75 3).rounds lay (E75 N) (retMask Tryz.f75) F (h75_3_0  v0 v1 v2 v3 v4 v5 v6 v7) K = zj42 N  F v0 v1 v2 v3 v4 v5 v6 v7 (fun y0 y1 y2 y3 y4 y5 y6 => K (.exit 1) (x75_3_0_k0  y0 y1 y2 y3 y4 y5 y6)) := by
  intro F
  induction F with
  | zero => intros; rfl
  | succ F ih =>
    intros
    rw [rounds_next]
    refine (st75_3_0 N  _ _ _ _ _ _ _ _ (fun s => (lp Tryz.f75 3).rounds lay (E75 N) (retMask Tryz.f75) F s K) K).trans ?_
    simp only [ih]
    rfl
theorem lk75_1 (N : Nat) : lookL (E75 (β := β) N).loops (lp Tryz.f75 3).id = LS75_1 N := by kernel_rfl
theorem rk75_1 (N : Nat) : RoundsOK lay (E75 (β := β) N) (retMask Tryz.f75) (lp Tryz.f75 3) := by
  intro s K r h
  rw [lk75_1] at h
  unfold LS75_1 VLS75_1 at h
  cases hb : shpSt (h75_3_0 0 0 0 [] 0 0 0 0) s with
  | true =>
    rw [hb, cond_true] at h
    exact ⟨N, by rw [← shpSt_ref hb, fl75_3_0 s]; exact (ro75_3_0 N  K N (intS (oneA (vT (nx tund s.tmps 1)))) (intS (oneA (vT (nx tund s.tmps 5)))) (intS (oneA (vT (nx tund s.tmps 10)))) (rInts (rowV (nx .und (cellsB (nx .dead s.blks 0)) 0))) (intS (nx .und (cellsB (nx .dead s.blks 0)) 1)) (intS (nx .und (cellsB (nx .dead s.blks 0)) 2)) (intS (nx .und (cellsB (nx .dead s.blks 1)) 0)) (intS (nx .und (cellsB (nx .dead s.blks 1)) 1))).trans h⟩
  | false =>
  rw [hb, cond_false] at h
  clear hb
  cases h
def zb43 (N : Nat) (zq27 : (a0 : Int) → (a1 : List Int) → (a2 : Int) → (a3 : Int) → (k0 : Int → List Int → Int → Int → O β) → O β) (zq30 : (a0 : Int) → (a1 : Int) → (k : Int → O β) → O β) (zq31 : (a0 : Int) → (k : Int → O β) → O β) (zq36 : Nat → Int → Int → Int → List Int → Int → Int → Int → Int → (Int → Int → List Int → Int → Int → Int → Int → O β) → O β) (zq38 : Nat → Int → Int → Int → List Int → Int → Int → Int → Int → (Int → Int → List Int → Int → Int → Int → Int → O β) → O β) (zq40 : Nat → Int → Int → Int → Int → List Int → Int → Int → Int → Int → (Int → Int → List Int → Int → Int → Int → Int → O β) → O β) (zq42 : Nat → Int → Int → Int → List Int → Int → Int → Int → Int → (Int → Int → List Int → Int → Int → Int → Int → O β) → O β) (a0 : Int) (a1 : List Int) (a2 : Int) (a3 : Int) (k0 : Int → Int → List Int → Int → Int → O β) : O β :=
zq27 6 a1 a2 a3 (fun r11_0 r11_1 r11_2 r11_3 =>
(cond ((r11_0 == 0))
(zq27 ((mxI 1 a0)) r11_1 r11_2 r11_3 (fun r12_0 r12_1 r12_2 r12_3 =>
zq30 a0 r12_0 fun r13 =>
(cond ((a0 == 0))
(zq31 a0 fun r14 =>
k0 a0 ((bits .and .i64 (bits .and .i64 r13 1) r14)) r12_1 r12_2 r12_3)
(zq31 a0 fun r15 =>
k0 a0 ((bits .and .i64 r13 r15)) r12_1 r12_2 r12_3))))
((cond ((r11_0 == 1))
(zq36  N a0 0 0 r11_1 r11_2 r11_3 0 0 (fun e17_0 e17_1 e17_2 e17_3 e17_4 e17_5 e17_6 =>
(cond ((e17_0 == 0))
(zq31 e17_0 fun r18 =>
k0 e17_0 ((bits .and .i64 (bits .and .i64 e17_1 1) r18)) e17_2 e17_3 e17_4)
(zq31 e17_0 fun r19 =>
k0 e17_0 ((bits .and .i64 e17_1 r19)) e17_2 e17_3 e17_4))))
((cond ((r11_0 == 2))
(zq38  N a0 0 0 r11_1 r11_2 r11_3 0 0 (fun e21_0 e21_1 e21_2 e21_3 e21_4 e21_5 e21_6 =>
(cond ((e21_0 == 0))
(zq31 e21_0 fun r22 =>
k0 e21_0 ((bits .and .i64 (bits .and .i64 e21_1 1) r22)) e21_2 e21_3 e21_4)
(zq31 e21_0 fun r23 =>
k0 e21_0 ((bits .and .i64 e21_1 r23)) e21_2 e21_3 e21_4))))
((cond ((r11_0 == 3))
((gd ((decide (0 ≤ a0)))
(zq27 ((shlI .i64 1 a0)) r11_1 r11_2 r11_3 (fun r24_0 r24_1 r24_2 r24_3 =>
zq40  N a0 0 r24_0 0 r24_1 r24_2 r24_3 0 0 (fun e25_0 e25_1 e25_2 e25_3 e25_4 e25_5 e25_6 =>
(cond ((e25_0 == 0))
(zq31 e25_0 fun r26 =>
k0 e25_0 ((bits .and .i64 (bits .and .i64 e25_1 1) r26)) e25_2 e25_3 e25_4)
(zq31 e25_0 fun r27 =>
k0 e25_0 ((bits .and .i64 e25_1 r27)) e25_2 e25_3 e25_4)))))))
(zq42  N a0 0 0 r11_1 r11_2 r11_3 0 0 (fun e29_0 e29_1 e29_2 e29_3 e29_4 e29_5 e29_6 =>
(cond ((e29_0 == 0))
(zq31 e29_0 fun r30 =>
k0 e29_0 ((bits .and .i64 (bits .and .i64 e29_1 1) r30)) e29_2 e29_3 e29_4)
(zq31 e29_0 fun r31 =>
k0 e29_0 ((bits .and .i64 e29_1 r31)) e29_2 e29_3 e29_4))))))))))))
theorem zt43 (N : Nat) (a0 : Int) (a1 : List Int) (a2 : Int) (a3 : Int) (k0 : Int → Int → List Int → Int → Int → O β) : zj43 N a0 a1 a2 a3 k0 = zb43 N (zj27 N) (zj30 N) (zj31 N) (zj36 N) (zj38 N) (zj40 N) (zj42 N) a0 a1 a2 a3 k0 := by
  unfold zj43 zb43
  rfl
theorem ve75_0 (N : Nat) (zq30 : (a0 : Int) → (a1 : Int) → (k : Int → O β) → O β) (zq31 : (a0 : Int) → (k : Int → O β) → O β) (zq34 : (a0 : Int) → (k : Int → O β) → O β) (zq36 : Nat → Int → Int → Int → List Int → Int → Int → Int → Int → (Int → Int → List Int → Int → Int → Int → Int → O β) → O β) (zq38 : Nat → Int → Int → Int → List Int → Int → Int → Int → Int → (Int → Int → List Int → Int → Int → Int → Int → O β) → O β) (zq40 : Nat → Int → Int → Int → Int → List Int → Int → Int → Int → Int → (Int → Int → List Int → Int → Int → Int → Int → O β) → O β) (zq42 : Nat → Int → Int → Int → List Int → Int → Int → Int → Int → (Int → Int → List Int → Int → Int → Int → Int → O β) → O β) (zq27 : (a0 : Int) → (a1 : List Int) → (a2 : Int) → (a3 : Int) → (k0 : Int → List Int → Int → Int → O β) → O β) (a0 : Int) (a1 : List Int) (a2 : Int) (a3 : Int) (K : TV → List Blk → O β) : evFnG lay (VE75 N zq30 zq31 zq34 zq36 zq38 zq40 zq42 zq27) Tryz.f75 [.v (.one (.ptr 0 0)), .v (.one (.int .i64 a0))] [.pcells 0 80 [.sl 5 (.ints .u8 a1), .int .i64 a2, .int .i64 a3]] K = zb43 N zq27 zq30 zq31 zq36 zq38 zq40 zq42 a0 a1 a2 a3 (fun y0 y1 y2 y3 y4 => K (.v (.agg [.int .i64 y0, .int .i64 y1])) [.pcells 0 80 [.sl 5 (.ints .u8 y2), .int .i64 y3, .int .i64 y4]]) := by kernel_rfl
theorem e75_0 (N : Nat) (a0 : Int) (a1 : List Int) (a2 : Int) (a3 : Int) (K : TV → List Blk → O β) : evFnG lay (E75 N) Tryz.f75 [.v (.one (.ptr 0 0)), .v (.one (.int .i64 a0))] [.pcells 0 80 [.sl 5 (.ints .u8 a1), .int .i64 a2, .int .i64 a3]] K = zj43 N a0 a1 a2 a3 (fun y0 y1 y2 y3 y4 => K (.v (.agg [.int .i64 y0, .int .i64 y1])) [.pcells 0 80 [.sl 5 (.ints .u8 y2), .int .i64 y3, .int .i64 y4]]) := (ve75_0 N (zj30 N) (zj31 N) (zj34 N) (zj36 N) (zj38 N) (zj40 N) (zj42 N) (zj27 N) a0 a1 a2 a3 K).trans (zt43 N a0 a1 a2 a3 (fun y0 y1 y2 y3 y4 => K (.v (.agg [.int .i64 y0, .int .i64 y1])) [.pcells 0 80 [.sl 5 (.ints .u8 y2), .int .i64 y3, .int .i64 y4]])).symm
theorem o75 (N : Nat) : GOK (β := β) inv Tryz.prog 75 (S75 N) := by
  refine g_of lay_ok mixed (E := E75 N) (specs_loops (specs_cons (o88 N) (specs_cons (o90 N) (specs_cons (o89 N) specs_nil)))) muts_nil (gs_cons (o43 N) gs_nil) Tryz.func75 (by kernel_rfl) 4 (by kernel_rfl) ⟨⟨⟨⟨trivial, rk75_3 N⟩, rk75_5 N⟩, rk75_7 N⟩, rk75_1 N⟩ fun args bl K r h => ?_
  unfold S75 VS75 at h
  split at h
  · exact (e75_0 N _ _ _ _ _).trans h
  · cases h
def VS76 (N : Nat) (zq44 : (a0 : List Int) → (a1 : Int) → (a2 : Int) → (a3 : List Int) → (k0 : Int → List Int → Int → Int → List Int → O β) → O β) : GSpec β := fun args bl K => match args, bl with
  | [.v (.one (.ptr 0 0)), .v (.one (.row 1))], [.pcells 0 80 [.sl 5 (.ints .u8 a0), .int .i64 a1, .int .i64 a2], .prow 1 3 (.ints .i64 a3)] => zq44 a0 a1 a2 a3 (fun y0 y1 y2 y3 y4 => K (.v (.one (.int .i64 y0))) [.pcells 0 80 [.sl 5 (.ints .u8 y1), .int .i64 y2, .int .i64 y3], .prow 1 3 (.ints .i64 y4)])
  | _, _ => none
def S76 (N : Nat) : GSpec β := VS76 N (zj44 N)
def VE76 (N : Nat) (zq27 : (a0 : Int) → (a1 : List Int) → (a2 : Int) → (a3 : Int) → (k0 : Int → List Int → Int → Int → O β) → O β) : Env β := ⟨[], [], [], [(43, VS43 N zq27)], ⟨[], [], [], []⟩⟩
def E76 (N : Nat) : Env β := VE76 N (zj27 N)
def zb44 (N : Nat) (zq27 : (a0 : Int) → (a1 : List Int) → (a2 : Int) → (a3 : Int) → (k0 : Int → List Int → Int → Int → O β) → O β) (a0 : List Int) (a1 : Int) (a2 : Int) (a3 : List Int) (k0 : Int → List Int → Int → Int → List Int → O β) : O β :=
zq27 ((a3.length : Int)) a0 a1 a2 (fun r34_0 r34_1 r34_2 r34_3 =>
(gd ((decide (0 ≤ r34_0)))
((gd ((decide (r34_0 < (a3.length : Int))))
(k0 ((rd 0 a3 r34_0)) r34_1 r34_2 r34_3 a3)))))
theorem zt44 (N : Nat) (a0 : List Int) (a1 : Int) (a2 : Int) (a3 : List Int) (k0 : Int → List Int → Int → Int → List Int → O β) : zj44 N a0 a1 a2 a3 k0 = zb44 N (zj27 N) a0 a1 a2 a3 k0 := by
  unfold zj44 zb44
  rfl
theorem ve76_0 (N : Nat) (zq27 : (a0 : Int) → (a1 : List Int) → (a2 : Int) → (a3 : Int) → (k0 : Int → List Int → Int → Int → O β) → O β) (a0 : List Int) (a1 : Int) (a2 : Int) (a3 : List Int) (K : TV → List Blk → O β) : evFnG lay (VE76 N zq27) Tryz.f76 [.v (.one (.ptr 0 0)), .v (.one (.row 1))] [.pcells 0 80 [.sl 5 (.ints .u8 a0), .int .i64 a1, .int .i64 a2], .prow 1 3 (.ints .i64 a3)] K = zb44 N zq27 a0 a1 a2 a3 (fun y0 y1 y2 y3 y4 => K (.v (.one (.int .i64 y0))) [.pcells 0 80 [.sl 5 (.ints .u8 y1), .int .i64 y2, .int .i64 y3], .prow 1 3 (.ints .i64 y4)]) := by kernel_rfl
theorem e76_0 (N : Nat) (a0 : List Int) (a1 : Int) (a2 : Int) (a3 : List Int) (K : TV → List Blk → O β) : evFnG lay (E76 N) Tryz.f76 [.v (.one (.ptr 0 0)), .v (.one (.row 1))] [.pcells 0 80 [.sl 5 (.ints .u8 a0), .int .i64 a1, .int .i64 a2], .prow 1 3 (.ints .i64 a3)] K = zj44 N a0 a1 a2 a3 (fun y0 y1 y2 y3 y4 => K (.v (.one (.int .i64 y0))) [.pcells 0 80 [.sl 5 (.ints .u8 y1), .int .i64 y2, .int .i64 y3], .prow 1 3 (.ints .i64 y4)]) := (ve76_0 N (zj27 N) a0 a1 a2 a3 K).trans (zt44 N a0 a1 a2 a3 (fun y0 y1 y2 y3 y4 => K (.v (.one (.int .i64 y0))) [.pcells 0 80 [.sl 5 (.ints .u8 y1), .int .i64 y2, .int .i64 y3], .prow 1 3 (.ints .i64 y4)])).symm
theorem o76 (N : Nat) : GOK (β := β) inv Tryz.prog 76 (S76 N) := by
  refine g_of lay_ok mixed (E := E76 N) (specs_loops specs_nil) muts_nil (gs_cons (o43 N) gs_nil) Tryz.func76 (by kernel_rfl) 0 (by kernel_rfl) trivial fun args bl K r h => ?_
  unfold S76 VS76 at h
  split at h
  · exact (e76_0 N _ _ _ _ _).trans h
  · cases h
def VS63 (N : Nat) (zq45 : (a0 : List Int) → (a1 : Int) → (a2 : Int) → (k0 : Int → Int → List Int → Int → Int → O β) → O β) : GSpec β := fun args bl K => match args, bl with
  | [.v (.one (.ptr 0 0))], [.pcells 0 80 [.sl 5 (.ints .u8 a0), .int .i64 a1, .int .i64 a2]] => zq45 a0 a1 a2 (fun y0 y1 y2 y3 y4 => K (.v (.agg [.int .i64 y0, .int .i64 y1])) [.pcells 0 80 [.sl 5 (.ints .u8 y2), .int .i64 y3, .int .i64 y4]])
  | _, _ => none
def S63 (N : Nat) : GSpec β := VS63 N (zj45 N)
def VE63 (N : Nat) (zq27 : (a0 : Int) → (a1 : List Int) → (a2 : Int) → (a3 : Int) → (k0 : Int → List Int → Int → Int → O β) → O β) (zq43 : (a0 : Int) → (a1 : List Int) → (a2 : Int) → (a3 : Int) → (k0 : Int → Int → List Int → Int → Int → O β) → O β) (zq44 : (a0 : List Int) → (a1 : Int) → (a2 : Int) → (a3 : List Int) → (k0 : Int → List Int → Int → Int → List Int → O β) → O β) : Env β := ⟨[], [], [], [(43, VS43 N zq27), (75, VS75 N zq43), (76, VS76 N zq44)], ⟨[], [], [], []⟩⟩
def E63 (N : Nat) : Env β := VE63 N (zj27 N) (zj43 N) (zj44 N)
def zb45 (N : Nat) (zq27 : (a0 : Int) → (a1 : List Int) → (a2 : Int) → (a3 : Int) → (k0 : Int → List Int → Int → Int → O β) → O β) (zq43 : (a0 : Int) → (a1 : List Int) → (a2 : Int) → (a3 : Int) → (k0 : Int → Int → List Int → Int → Int → O β) → O β) (zq44 : (a0 : List Int) → (a1 : Int) → (a2 : Int) → (a3 : List Int) → (k0 : Int → List Int → Int → Int → List Int → O β) → O β) (a0 : List Int) (a1 : Int) (a2 : Int) (k0 : Int → Int → List Int → Int → Int → O β) : O β :=
zq27 5 a0 a1 a2 (fun r10_0 r10_1 r10_2 r10_3 =>
zq43 r10_0 r10_1 r10_2 r10_3 (fun r32_0 r32_1 r32_2 r32_3 r32_4 =>
zq27 14 r32_2 r32_3 r32_4 (fun r33_0 r33_1 r33_2 r33_3 =>
(cond ((r33_0 == 0))
(zq44 r33_1 r33_2 r33_3 ((((((([] : List Int) ++ [(-1)]) ++ [6]) ++ [5]) ++ [0]) ++ [9223372036854775807])) (fun r35_0 r35_1 r35_2 r35_3 r35_4 =>
k0 r35_0 r32_1 r35_1 r35_2 r35_3))
((cond ((r33_0 == 1))
(zq44 r33_1 r33_2 r33_3 ((((((([] : List Int) ++ [(-1)]) ++ [0]) ++ [1]) ++ [65536]) ++ [9223372036854775807])) (fun r36_0 r36_1 r36_2 r36_3 r36_4 =>
k0 r32_0 r36_0 r36_1 r36_2 r36_3))
(k0 r32_0 r32_1 r33_1 r33_2 r33_3)))))))
theorem zt45 (N : Nat) (a0 : List Int) (a1 : Int) (a2 : Int) (k0 : Int → Int → List Int → Int → Int → O β) : zj45 N a0 a1 a2 k0 = zb45 N (zj27 N) (zj43 N) (zj44 N) a0 a1 a2 k0 := by
  unfold zj45 zb45
  rfl
theorem ve63_0 (N : Nat) (zq27 : (a0 : Int) → (a1 : List Int) → (a2 : Int) → (a3 : Int) → (k0 : Int → List Int → Int → Int → O β) → O β) (zq43 : (a0 : Int) → (a1 : List Int) → (a2 : Int) → (a3 : Int) → (k0 : Int → Int → List Int → Int → Int → O β) → O β) (zq44 : (a0 : List Int) → (a1 : Int) → (a2 : Int) → (a3 : List Int) → (k0 : Int → List Int → Int → Int → List Int → O β) → O β) (a0 : List Int) (a1 : Int) (a2 : Int) (K : TV → List Blk → O β) : evFnG lay (VE63 N zq27 zq43 zq44) Tryz.f63 [.v (.one (.ptr 0 0))] [.pcells 0 80 [.sl 5 (.ints .u8 a0), .int .i64 a1, .int .i64 a2]] K = zb45 N zq27 zq43 zq44 a0 a1 a2 (fun y0 y1 y2 y3 y4 => K (.v (.agg [.int .i64 y0, .int .i64 y1])) [.pcells 0 80 [.sl 5 (.ints .u8 y2), .int .i64 y3, .int .i64 y4]]) := by kernel_rfl
theorem e63_0 (N : Nat) (a0 : List Int) (a1 : Int) (a2 : Int) (K : TV → List Blk → O β) : evFnG lay (E63 N) Tryz.f63 [.v (.one (.ptr 0 0))] [.pcells 0 80 [.sl 5 (.ints .u8 a0), .int .i64 a1, .int .i64 a2]] K = zj45 N a0 a1 a2 (fun y0 y1 y2 y3 y4 => K (.v (.agg [.int .i64 y0, .int .i64 y1])) [.pcells 0 80 [.sl 5 (.ints .u8 y2), .int .i64 y3, .int .i64 y4]]) := (ve63_0 N (zj27 N) (zj43 N) (zj44 N) a0 a1 a2 K).trans (zt45 N a0 a1 a2 (fun y0 y1 y2 y3 y4 => K (.v (.agg [.int .i64 y0, .int .i64 y1])) [.pcells 0 80 [.sl 5 (.ints .u8 y2), .int .i64 y3, .int .i64 y4]])).symm
theorem o63 (N : Nat) : GOK (β := β) inv Tryz.prog 63 (S63 N) := by
  refine g_of lay_ok mixed (E := E63 N) (specs_loops specs_nil) muts_nil (gs_cons (o43 N) (gs_cons (o75 N) (gs_cons (o76 N) gs_nil))) Tryz.func63 (by kernel_rfl) 0 (by kernel_rfl) trivial fun args bl K r h => ?_
  unfold S63 VS63 at h
  split at h
  · exact (e63_0 N _ _ _ _).trans h
  · cases h
def VS65 (N : Nat) (zq46 : (a0 : Int) → (a1 : List Int) → (a2 : Int) → (a3 : Int) → (k0 : Bool → List Int → Int → Int → O β) → O β) : GSpec β := fun args bl K => match args, bl with
  | [.v (.one (.ptr 0 0)), .v (.one (.int .i64 a0))], [.pcells 0 80 [.sl 5 (.ints .u8 a1), .int .i64 a2, .int .i64 a3]] => zq46 a0 a1 a2 a3 (fun y0 y1 y2 y3 => K (.v (.one (.bool y0))) [.pcells 0 80 [.sl 5 (.ints .u8 y1), .int .i64 y2, .int .i64 y3]])
  | _, _ => none
def S65 (N : Nat) : GSpec β := VS65 N (zj46 N)
def VE65 (N : Nat) (zq27 : (a0 : Int) → (a1 : List Int) → (a2 : Int) → (a3 : Int) → (k0 : Int → List Int → Int → Int → O β) → O β) : Env β := ⟨[], [], [], [(43, VS43 N zq27)], ⟨[], [], [], []⟩⟩
def E65 (N : Nat) : Env β := VE65 N (zj27 N)
def zb46 (N : Nat) (zq27 : (a0 : Int) → (a1 : List Int) → (a2 : Int) → (a3 : Int) → (k0 : Int → List Int → Int → Int → O β) → O β) (a0 : Int) (a1 : List Int) (a2 : Int) (a3 : Int) (k0 : Bool → List Int → Int → Int → O β) : O β :=
zq27 a0 a1 a2 a3 (fun r43_0 r43_1 r43_2 r43_3 =>
k0 ((r43_0 == 0)) r43_1 r43_2 r43_3)
theorem zt46 (N : Nat) (a0 : Int) (a1 : List Int) (a2 : Int) (a3 : Int) (k0 : Bool → List Int → Int → Int → O β) : zj46 N a0 a1 a2 a3 k0 = zb46 N (zj27 N) a0 a1 a2 a3 k0 := by
  unfold zj46 zb46
  rfl
theorem ve65_0 (N : Nat) (zq27 : (a0 : Int) → (a1 : List Int) → (a2 : Int) → (a3 : Int) → (k0 : Int → List Int → Int → Int → O β) → O β) (a0 : Int) (a1 : List Int) (a2 : Int) (a3 : Int) (K : TV → List Blk → O β) : evFnG lay (VE65 N zq27) Tryz.f65 [.v (.one (.ptr 0 0)), .v (.one (.int .i64 a0))] [.pcells 0 80 [.sl 5 (.ints .u8 a1), .int .i64 a2, .int .i64 a3]] K = zb46 N zq27 a0 a1 a2 a3 (fun y0 y1 y2 y3 => K (.v (.one (.bool y0))) [.pcells 0 80 [.sl 5 (.ints .u8 y1), .int .i64 y2, .int .i64 y3]]) := by kernel_rfl
theorem e65_0 (N : Nat) (a0 : Int) (a1 : List Int) (a2 : Int) (a3 : Int) (K : TV → List Blk → O β) : evFnG lay (E65 N) Tryz.f65 [.v (.one (.ptr 0 0)), .v (.one (.int .i64 a0))] [.pcells 0 80 [.sl 5 (.ints .u8 a1), .int .i64 a2, .int .i64 a3]] K = zj46 N a0 a1 a2 a3 (fun y0 y1 y2 y3 => K (.v (.one (.bool y0))) [.pcells 0 80 [.sl 5 (.ints .u8 y1), .int .i64 y2, .int .i64 y3]]) := (ve65_0 N (zj27 N) a0 a1 a2 a3 K).trans (zt46 N a0 a1 a2 a3 (fun y0 y1 y2 y3 => K (.v (.one (.bool y0))) [.pcells 0 80 [.sl 5 (.ints .u8 y1), .int .i64 y2, .int .i64 y3]])).symm
theorem o65 (N : Nat) : GOK (β := β) inv Tryz.prog 65 (S65 N) := by
  refine g_of lay_ok mixed (E := E65 N) (specs_loops specs_nil) muts_nil (gs_cons (o43 N) gs_nil) Tryz.func65 (by kernel_rfl) 0 (by kernel_rfl) trivial fun args bl K r h => ?_
  unfold S65 VS65 at h
  split at h
  · exact (e65_0 N _ _ _ _ _).trans h
  · cases h
end Go.Proofs.YtddflpokemgnmaaGreatDoor
