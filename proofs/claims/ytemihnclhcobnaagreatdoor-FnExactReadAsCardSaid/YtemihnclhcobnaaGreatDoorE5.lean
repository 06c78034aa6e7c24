/- The functions that the claims reach answer as their texts do. -/
import Derived.Test.YtemihnclhcobnaaGreatDoorE4
namespace Go.Proofs.YtemihnclhcobnaaGreatDoor
open Go.Rv
set_option maxRecDepth 100000
set_option maxHeartbeats 2000000
set_option linter.unusedVariables false
def VS129 {β : Type} (N : Nat) (zq92 : (a0 : Int) → (a1 : (Int → (Bool → Option β) → Option β)) → (k : Int → Int → Option β) → Option β) (zq65 : (a0 : Int) → (c0 : ByteArray) → (k : Bool → Option β) → Option β) (zq70 : (a0 : Int) → (c0 : Int) → (c1 : Int) → (k : Bool → Option β) → Option β) (zq81 : (a0 : Int) → (c0 : List (Int × Int)) → (k : Bool → Option β) → Option β) (zq87 : (a0 : Int) → (c0 : Tr) → (k : Bool → Option β) → Option β) (zq88 : (a0 : Int) → (c0 : Tr) → (k : Bool → Option β) → Option β) (zq89 : (a0 : Int) → (c0 : Int) → (k : Bool → Option β) → Option β) : Rv.Spec β := fun args K => match args with
  | [.v (.one (.int .i64 a0)), .v (.one (.dfn 130 [([.str q0], 0)]))] => zq92 a0 (fun x0 k => zq65 x0 q0 k) (fun z2 z3 => K (.v (.agg [.int .i64 z2, .int .i64 z3])))
  | [.v (.one (.int .i64 a0)), .v (.one (.dfn 189 [([.int .i64 q0, .int .i64 q1], 0)]))] => zq92 a0 (fun x0 k => zq70 x0 q0 q1 k) (fun z2 z3 => K (.v (.agg [.int .i64 z2, .int .i64 z3])))
  | [.v (.one (.int .i64 a0)), .v (.one (.dfn 193 [([.sl 93 (.pairs q0)], 0)]))] => zq92 a0 (fun x0 k => zq81 x0 q0 k) (fun z2 z3 => K (.v (.agg [.int .i64 z2, .int .i64 z3])))
  | [.v (.one (.int .i64 a0)), .v (.one (.dfn 198 [([.tr false q0], 0)]))] => zq92 a0 (fun x0 k => zq87 x0 q0 k) (fun z2 z3 => K (.v (.agg [.int .i64 z2, .int .i64 z3])))
  | [.v (.one (.int .i64 a0)), .v (.one (.dfn 203 [([.tr false q0], 0)]))] => zq92 a0 (fun x0 k => zq88 x0 q0 k) (fun z2 z3 => K (.v (.agg [.int .i64 z2, .int .i64 z3])))
  | [.v (.one (.int .i64 a0)), .v (.one (.dfn 238 [([.int .i64 q0], 0)]))] => zq92 a0 (fun x0 k => zq89 x0 q0 k) (fun z2 z3 => K (.v (.agg [.int .i64 z2, .int .i64 z3])))
  | _ => none
def S129 {β : Type} (N : Nat) : Rv.Spec β := VS129 N (zj92 N) (zj65 N) (zj70 N) (zj81 N) (zj87 N) (zj88 N) (zj89 N)
def h129_0_0 (q0 : ByteArray) (v0 : Int) (v1 : Int) (v2 : Int) (v3 : Int) (v4 : Int) (v5 : Int) : St := ⟨tund :: .v (.one (.dfn 130 [([.str q0], 0)])) :: tund :: tund :: .v (.one (.ptr 0 0)) :: .v (.one (.ptr 1 0)) :: tund :: tund :: tund :: tund :: .v (.one (.int .i64 v0)) :: .v (.one (.int .i64 v1)) :: tund :: tund :: tund :: tund :: tund :: tund :: tund :: tund :: tund :: tund :: tund :: tund :: tund :: [], [.cells 25 [.int .i64 v2, .int .i64 v3], .cells 25 [.int .i64 v4, .int .i64 v5]]⟩
def x129_0_0_k0 (q0 : ByteArray) (y0 : Int) (y1 : Int) (y2 : Int) (y3 : Int) : St := ⟨tund :: tund :: tund :: tund :: .v (.one (.ptr 0 0)) :: .v (.one (.ptr 1 0)) :: tund :: tund :: tund :: tund :: tund :: tund :: tund :: tund :: tund :: tund :: tund :: tund :: tund :: tund :: tund :: tund :: tund :: tund :: tund :: [], [.cells 25 [.int .i64 y0, .int .i64 y1], .cells 25 [.int .i64 y2, .int .i64 y3]]⟩
def h129_0_1 (q0 : Int) (q1 : Int) (v0 : Int) (v1 : Int) (v2 : Int) (v3 : Int) (v4 : Int) (v5 : Int) : St := ⟨tund :: .v (.one (.dfn 189 [([.int .i64 q0, .int .i64 q1], 0)])) :: tund :: tund :: .v (.one (.ptr 0 0)) :: .v (.one (.ptr 1 0)) :: tund :: tund :: tund :: tund :: .v (.one (.int .i64 v0)) :: .v (.one (.int .i64 v1)) :: tund :: tund :: tund :: tund :: tund :: tund :: tund :: tund :: tund :: tund :: tund :: tund :: tund :: [], [.cells 25 [.int .i64 v2, .int .i64 v3], .cells 25 [.int .i64 v4, .int .i64 v5]]⟩
def x129_0_1_k0 (q0 : Int) (q1 : Int) (y0 : Int) (y1 : Int) (y2 : Int) (y3 : Int) : St := ⟨tund :: tund :: tund :: tund :: .v (.one (.ptr 0 0)) :: .v (.one (.ptr 1 0)) :: tund :: tund :: tund :: tund :: tund :: tund :: tund :: tund :: tund :: tund :: tund :: tund :: tund :: tund :: tund :: tund :: tund :: tund :: tund :: [], [.cells 25 [.int .i64 y0, .int .i64 y1], .cells 25 [.int .i64 y2, .int .i64 y3]]⟩
def h129_0_2 (q0 : List (Int × Int)) (v0 : Int) (v1 : Int) (v2 : Int) (v3 : Int) (v4 : Int) (v5 : Int) : St := ⟨tund :: .v (.one (.dfn 193 [([.sl 93 (.pairs q0)], 0)])) :: tund :: tund :: .v (.one (.ptr 0 0)) :: .v (.one (.ptr 1 0)) :: tund :: tund :: tund :: tund :: .v (.one (.int .i64 v0)) :: .v (.one (.int .i64 v1)) :: tund :: tund :: tund :: tund :: tund :: tund :: tund :: tund :: tund :: tund :: tund :: tund :: tund :: [], [.cells 25 [.int .i64 v2, .int .i64 v3], .cells 25 [.int .i64 v4, .int .i64 v5]]⟩
def x129_0_2_k0 (q0 : List (Int × Int)) (y0 : Int) (y1 : Int) (y2 : Int) (y3 : Int) : St := ⟨tund :: tund :: tund :: tund :: .v (.one (.ptr 0 0)) :: .v (.one (.ptr 1 0)) :: tund :: tund :: tund :: tund :: tund :: tund :: tund :: tund :: tund :: tund :: tund :: tund :: tund :: tund :: tund :: tund :: tund :: tund :: tund :: [], [.cells 25 [.int .i64 y0, .int .i64 y1], .cells 25 [.int .i64 y2, .int .i64 y3]]⟩
def h129_0_3 (q0 : Tr) (v0 : Int) (v1 : Int) (v2 : Int) (v3 : Int) (v4 : Int) (v5 : Int) : St := ⟨tund :: .v (.one (.dfn 198 [([.tr false q0], 0)])) :: tund :: tund :: .v (.one (.ptr 0 0)) :: .v (.one (.ptr 1 0)) :: tund :: tund :: tund :: tund :: .v (.one (.int .i64 v0)) :: .v (.one (.int .i64 v1)) :: tund :: tund :: tund :: tund :: tund :: tund :: tund :: tund :: tund :: tund :: tund :: tund :: tund :: [], [.cells 25 [.int .i64 v2, .int .i64 v3], .cells 25 [.int .i64 v4, .int .i64 v5]]⟩
def x129_0_3_k0 (q0 : Tr) (y0 : Int) (y1 : Int) (y2 : Int) (y3 : Int) : St := ⟨tund :: tund :: tund :: tund :: .v (.one (.ptr 0 0)) :: .v (.one (.ptr 1 0)) :: tund :: tund :: tund :: tund :: tund :: tund :: tund :: tund :: tund :: tund :: tund :: tund :: tund :: tund :: tund :: tund :: tund :: tund :: tund :: [], [.cells 25 [.int .i64 y0, .int .i64 y1], .cells 25 [.int .i64 y2, .int .i64 y3]]⟩
def h129_0_4 (q0 : Tr) (v0 : Int) (v1 : Int) (v2 : Int) (v3 : Int) (v4 : Int) (v5 : Int) : St := ⟨tund :: .v (.one (.dfn 203 [([.tr false q0], 0)])) :: tund :: tund :: .v (.one (.ptr 0 0)) :: .v (.one (.ptr 1 0)) :: tund :: tund :: tund :: tund :: .v (.one (.int .i64 v0)) :: .v (.one (.int .i64 v1)) :: tund :: tund :: tund :: tund :: tund :: tund :: tund :: tund :: tund :: tund :: tund :: tund :: tund :: [], [.cells 25 [.int .i64 v2, .int .i64 v3], .cells 25 [.int .i64 v4, .int .i64 v5]]⟩
def x129_0_4_k0 (q0 : Tr) (y0 : Int) (y1 : Int) (y2 : Int) (y3 : Int) : St := ⟨tund :: tund :: tund :: tund :: .v (.one (.ptr 0 0)) :: .v (.one (.ptr 1 0)) :: tund :: tund :: tund :: tund :: tund :: tund :: tund :: tund :: tund :: tund :: tund :: tund :: tund :: tund :: tund :: tund :: tund :: tund :: tund :: [], [.cells 25 [.int .i64 y0, .int .i64 y1], .cells 25 [.int .i64 y2, .int .i64 y3]]⟩
def h129_0_5 (q0 : Int) (v0 : Int) (v1 : Int) (v2 : Int) (v3 : Int) (v4 : Int) (v5 : Int) : St := ⟨tund :: .v (.one (.dfn 238 [([.int .i64 q0], 0)])) :: tund :: tund :: .v (.one (.ptr 0 0)) :: .v (.one (.ptr 1 0)) :: tund :: tund :: tund :: tund :: .v (.one (.int .i64 v0)) :: .v (.one (.int .i64 v1)) :: tund :: tund :: tund :: tund :: tund :: tund :: tund :: tund :: tund :: tund :: tund :: tund :: tund :: [], [.cells 25 [.int .i64 v2, .int .i64 v3], .cells 25 [.int .i64 v4, .int .i64 v5]]⟩
def x129_0_5_k0 (q0 : Int) (y0 : Int) (y1 : Int) (y2 : Int) (y3 : Int) : St := ⟨tund :: tund :: tund :: tund :: .v (.one (.ptr 0 0)) :: .v (.one (.ptr 1 0)) :: tund :: tund :: tund :: tund :: tund :: tund :: tund :: tund :: tund :: tund :: tund :: tund :: tund :: tund :: tund :: tund :: tund :: tund :: tund :: [], [.cells 25 [.int .i64 y0, .int .i64 y1], .cells 25 [.int .i64 y2, .int .i64 y3]]⟩
theorem fl129_0_0 (s : St) : refSt (h129_0_0 ByteArray.empty 0 0 0 0 0 0) s = h129_0_0 (strF (nx .no (nx ([], 0) (dfnS (oneA (vT (nx tund s.tmps 1)))) 0).1 0)) (intS (oneA (vT (nx tund s.tmps 10)))) (intS (oneA (vT (nx tund s.tmps 11)))) (intS (nx .und (cellsB (nx .dead s.blks 0)) 0)) (intS (nx .und (cellsB (nx .dead s.blks 0)) 1)) (intS (nx .und (cellsB (nx .dead s.blks 1)) 0)) (intS (nx .und (cellsB (nx .dead s.blks 1)) 1)) := by kernel_rfl
theorem fl129_0_1 (s : St) : refSt (h129_0_1 0 0 0 0 0 0 0 0) s = h129_0_1 (intF (nx .no (nx ([], 0) (dfnS (oneA (vT (nx tund s.tmps 1)))) 0).1 0)) (intF (nx .no (nx ([], 0) (dfnS (oneA (vT (nx tund s.tmps 1)))) 0).1 1)) (intS (oneA (vT (nx tund s.tmps 10)))) (intS (oneA (vT (nx tund s.tmps 11)))) (intS (nx .und (cellsB (nx .dead s.blks 0)) 0)) (intS (nx .und (cellsB (nx .dead s.blks 0)) 1)) (intS (nx .und (cellsB (nx .dead s.blks 1)) 0)) (intS (nx .und (cellsB (nx .dead s.blks 1)) 1)) := by kernel_rfl
theorem fl129_0_2 (s : St) : refSt (h129_0_2 [] 0 0 0 0 0 0) s = h129_0_2 (rPairs (rowF (nx .no (nx ([], 0) (dfnS (oneA (vT (nx tund s.tmps 1)))) 0).1 0))) (intS (oneA (vT (nx tund s.tmps 10)))) (intS (oneA (vT (nx tund s.tmps 11)))) (intS (nx .und (cellsB (nx .dead s.blks 0)) 0)) (intS (nx .und (cellsB (nx .dead s.blks 0)) 1)) (intS (nx .und (cellsB (nx .dead s.blks 1)) 0)) (intS (nx .und (cellsB (nx .dead s.blks 1)) 1)) := by kernel_rfl
theorem fl129_0_3 (s : St) : refSt (h129_0_3 Tr.nil 0 0 0 0 0 0) s = h129_0_3 (trF (nx .no (nx ([], 0) (dfnS (oneA (vT (nx tund s.tmps 1)))) 0).1 0)) (intS (oneA (vT (nx tund s.tmps 10)))) (intS (oneA (vT (nx tund s.tmps 11)))) (intS (nx .und (cellsB (nx .dead s.blks 0)) 0)) (intS (nx .und (cellsB (nx .dead s.blks 0)) 1)) (intS (nx .und (cellsB (nx .dead s.blks 1)) 0)) (intS (nx .und (cellsB (nx .dead s.blks 1)) 1)) := by kernel_rfl
theorem fl129_0_4 (s : St) : refSt (h129_0_4 Tr.nil 0 0 0 0 0 0) s = h129_0_4 (trF (nx .no (nx ([], 0) (dfnS (oneA (vT (nx tund s.tmps 1)))) 0).1 0)) (intS (oneA (vT (nx tund s.tmps 10)))) (intS (oneA (vT (nx tund s.tmps 11)))) (intS (nx .und (cellsB (nx .dead s.blks 0)) 0)) (intS (nx .und (cellsB (nx .dead s.blks 0)) 1)) (intS (nx .und (cellsB (nx .dead s.blks 1)) 0)) (intS (nx .und (cellsB (nx .dead s.blks 1)) 1)) := by kernel_rfl
theorem fl129_0_5 (s : St) : refSt (h129_0_5 0 0 0 0 0 0 0) s = h129_0_5 (intF (nx .no (nx ([], 0) (dfnS (oneA (vT (nx tund s.tmps 1)))) 0).1 0)) (intS (oneA (vT (nx tund s.tmps 10)))) (intS (oneA (vT (nx tund s.tmps 11)))) (intS (nx .und (cellsB (nx .dead s.blks 0)) 0)) (intS (nx .und (cellsB (nx .dead s.blks 0)) 1)) (intS (nx .und (cellsB (nx .dead s.blks 1)) 0)) (intS (nx .und (cellsB (nx .dead s.blks 1)) 1)) := by kernel_rfl
def VLS129_0 {β : Type} (N : Nat) (zq91 : (a1 : (Int → (Bool → Option β) → Option β)) → Nat → Int → Int → Int → Int → Int → Int → (Int → Int → Int → Int → Option β) → Option β) (zq65 : (a0 : Int) → (c0 : ByteArray) → (k : Bool → Option β) → Option β) (zq70 : (a0 : Int) → (c0 : Int) → (c1 : Int) → (k : Bool → Option β) → Option β) (zq81 : (a0 : Int) → (c0 : List (Int × Int)) → (k : Bool → Option β) → Option β) (zq87 : (a0 : Int) → (c0 : Tr) → (k : Bool → Option β) → Option β) (zq88 : (a0 : Int) → (c0 : Tr) → (k : Bool → Option β) → Option β) (zq89 : (a0 : Int) → (c0 : Int) → (k : Bool → Option β) → Option β) : LSpec β := fun s K => cond (shpSt (h129_0_0 ByteArray.empty 0 0 0 0 0 0) s) ((fun (q0 : ByteArray) (v0 : Int) (v1 : Int) (v2 : Int) (v3 : Int) (v4 : Int) (v5 : Int) => zq91 (fun x0 k => zq65 x0 q0 k) N v0 v1 v2 v3 v4 v5 (fun y0 y1 y2 y3 => K (.exit 0) (x129_0_0_k0 q0 y0 y1 y2 y3))) (strF (nx .no (nx ([], 0) (dfnS (oneA (vT (nx tund s.tmps 1)))) 0).1 0)) (intS (oneA (vT (nx tund s.tmps 10)))) (intS (oneA (vT (nx tund s.tmps 11)))) (intS (nx .und (cellsB (nx .dead s.blks 0)) 0)) (intS (nx .und (cellsB (nx .dead s.blks 0)) 1)) (intS (nx .und (cellsB (nx .dead s.blks 1)) 0)) (intS (nx .und (cellsB (nx .dead s.blks 1)) 1))) (cond (shpSt (h129_0_1 0 0 0 0 0 0 0 0) s) ((fun (q0 : Int) (q1 : Int) (v0 : Int) (v1 : Int) (v2 : Int) (v3 : Int) (v4 : Int) (v5 : Int) => zq91 (fun x0 k => zq70 x0 q0 q1 k) N v0 v1 v2 v3 v4 v5 (fun y0 y1 y2 y3 => K (.exit 0) (x129_0_1_k0 q0 q1 y0 y1 y2 y3))) (intF (nx .no (nx ([], 0) (dfnS (oneA (vT (nx tund s.tmps 1)))) 0).1 0)) (intF (nx .no (nx ([], 0) (dfnS (oneA (vT (nx tund s.tmps 1)))) 0).1 1)) (intS (oneA (vT (nx tund s.tmps 10)))) (intS (oneA (vT (nx tund s.tmps 11)))) (intS (nx .und (cellsB (nx .dead s.blks 0)) 0)) (intS (nx .und (cellsB (nx .dead s.blks 0)) 1)) (intS (nx .und (cellsB (nx .dead s.blks 1)) 0)) (intS (nx .und (cellsB (nx .dead s.blks 1)) 1))) (cond (shpSt (h129_0_2 [] 0 0 0 0 0 0) s) ((fun (q0 : List (Int × Int)) (v0 : Int) (v1 : Int) (v2 : Int) (v3 : Int) (v4 : Int) (v5 : Int) => zq91 (fun x0 k => zq81 x0 q0 k) N v0 v1 v2 v3 v4 v5 (fun y0 y1 y2 y3 => K (.exit 0) (x129_0_2_k0 q0 y0 y1 y2 y3))) (rPairs (rowF (nx .no (nx ([], 0) (dfnS (oneA (vT (nx tund s.tmps 1)))) 0).1 0))) (intS (oneA (vT (nx tund s.tmps 10)))) (intS (oneA (vT (nx tund s.tmps 11)))) (intS (nx .und (cellsB (nx .dead s.blks 0)) 0)) (intS (nx .und (cellsB (nx .dead s.blks 0)) 1)) (intS (nx .und (cellsB (nx .dead s.blks 1)) 0)) (intS (nx .und (cellsB (nx .dead s.blks 1)) 1))) (cond (shpSt (h129_0_3 Tr.nil 0 0 0 0 0 0) s) ((fun (q0 : Tr) (v0 : Int) (v1 : Int) (v2 : Int) (v3 : Int) (v4 : Int) (v5 : Int) => zq91 (fun x0 k => zq87 x0 q0 k) N v0 v1 v2 v3 v4 v5 (fun y0 y1 y2 y3 => K (.exit 0) (x129_0_3_k0 q0 y0 y1 y2 y3))) (trF (nx .no (nx ([], 0) (dfnS (oneA (vT (nx tund s.tmps 1)))) 0).1 0)) (intS (oneA (vT (nx tund s.tmps 10)))) (intS (oneA (vT (nx tund s.tmps 11)))) (intS (nx .und (cellsB (nx .dead s.blks 0)) 0)) (intS (nx .und (cellsB (nx .dead s.blks 0)) 1)) (intS (nx .und (cellsB (nx .dead s.blks 1)) 0)) (intS (nx .und (cellsB (nx .dead s.blks 1)) 1))) (cond (shpSt (h129_0_4 Tr.nil 0 0 0 0 0 0) s) ((fun (q0 : Tr) (v0 : Int) (v1 : Int) (v2 : Int) (v3 : Int) (v4 : Int) (v5 : Int) => zq91 (fun x0 k => zq88 x0 q0 k) N v0 v1 v2 v3 v4 v5 (fun y0 y1 y2 y3 => K (.exit 0) (x129_0_4_k0 q0 y0 y1 y2 y3))) (trF (nx .no (nx ([], 0) (dfnS (oneA (vT (nx tund s.tmps 1)))) 0).1 0)) (intS (oneA (vT (nx tund s.tmps 10)))) (intS (oneA (vT (nx tund s.tmps 11)))) (intS (nx .und (cellsB (nx .dead s.blks 0)) 0)) (intS (nx .und (cellsB (nx .dead s.blks 0)) 1)) (intS (nx .und (cellsB (nx .dead s.blks 1)) 0)) (intS (nx .und (cellsB (nx .dead s.blks 1)) 1))) (cond (shpSt (h129_0_5 0 0 0 0 0 0 0) s) ((fun (q0 : Int) (v0 : Int) (v1 : Int) (v2 : Int) (v3 : Int) (v4 : Int) (v5 : Int) => zq91 (fun x0 k => zq89 x0 q0 k) N v0 v1 v2 v3 v4 v5 (fun y0 y1 y2 y3 => K (.exit 0) (x129_0_5_k0 q0 y0 y1 y2 y3))) (intF (nx .no (nx ([], 0) (dfnS (oneA (vT (nx tund s.tmps 1)))) 0).1 0)) (intS (oneA (vT (nx tund s.tmps 10)))) (intS (oneA (vT (nx tund s.tmps 11)))) (intS (nx .und (cellsB (nx .dead s.blks 0)) 0)) (intS (nx .und (cellsB (nx .dead s.blks 0)) 1)) (intS (nx .und (cellsB (nx .dead s.blks 1)) 0)) (intS (nx .und (cellsB (nx .dead s.blks 1)) 1))) (none))))))
def LS129_0 {β : Type} (N : Nat) : LSpec β := VLS129_0 N (zj91 N) (zj65 N) (zj70 N) (zj81 N) (zj87 N) (zj88 N) (zj89 N)
def VE129 {β : Type} (N : Nat) (zq65 : (a0 : Int) → (c0 : ByteArray) → (k : Bool → Option β) → Option β) (zq70 : (a0 : Int) → (c0 : Int) → (c1 : Int) → (k : Bool → Option β) → Option β) (zq81 : (a0 : Int) → (c0 : List (Int × Int)) → (k : Bool → Option β) → Option β) (zq87 : (a0 : Int) → (c0 : Tr) → (k : Bool → Option β) → Option β) (zq88 : (a0 : Int) → (c0 : Tr) → (k : Bool → Option β) → Option β) (zq89 : (a0 : Int) → (c0 : Int) → (k : Bool → Option β) → Option β) (zq91 : (a1 : (Int → (Bool → Option β) → Option β)) → Nat → Int → Int → Int → Int → Int → Int → (Int → Int → Int → Int → Option β) → Option β) : Env β := ⟨[(130, VS130 N zq65), (189, VS189 N zq70), (193, VS193 N zq81), (198, VS198 N zq87), (203, VS203 N zq88), (238, VS238 N zq89)], [], [(0, VLS129_0 N zq91 zq65 zq70 zq81 zq87 zq88 zq89)], [], ⟨[], [], [], []⟩⟩
def E129 {β : Type} (N : Nat) : Env β := VE129 N (zj65 N) (zj70 N) (zj81 N) (zj87 N) (zj88 N) (zj89 N) (zj91 N)
def zb90 {β : Type} (N : Nat) (a1 : (Int → (Bool → Option β) → Option β)) (v0 : Int) (v1 : Int) (v2 : Int) (v3 : Int) (v4 : Int) (v5 : Int) (rec_ : Int → Int → Int → Int → Int → Int → Option β) (k0 : Int → Int → Int → Int → Option β) : Option β :=
(cond ((decide (v1 < v0)))
(a1 v1 fun r4 =>
(cond r4
((gd ((decide (0 ≤ v1)))
(rec_ v0 ((w64 (v1 + 1))) v2 v3 v4 ((bits .or .i64 v5 (shlI .i64 1 v1))))))
(rec_ v0 ((w64 (v1 + 1))) v2 v3 v4 v5)))
(k0 v2 v3 v4 v5))
theorem zt90 {β : Type} (N : Nat) (a1 : (Int → (Bool → Option β) → Option β)) (v0 : Int) (v1 : Int) (v2 : Int) (v3 : Int) (v4 : Int) (v5 : Int) (rec_ : Int → Int → Int → Int → Int → Int → Option β) (k0 : Int → Int → Int → Int → Option β) : zj90 N a1 v0 v1 v2 v3 v4 v5 rec_ k0 = zb90 N a1 v0 v1 v2 v3 v4 v5 rec_ k0 := by
  unfold zj90 zb90
  rfl
theorem vst129_0_0 {β : Type} (N : Nat) (zq65 : (a0 : Int) → (c0 : ByteArray) → (k : Bool → Option β) → Option β) (zq70 : (a0 : Int) → (c0 : Int) → (c1 : Int) → (k : Bool → Option β) → Option β) (zq81 : (a0 : Int) → (c0 : List (Int × Int)) → (k : Bool → Option β) → Option β) (zq87 : (a0 : Int) → (c0 : Tr) → (k : Bool → Option β) → Option β) (zq88 : (a0 : Int) → (c0 : Tr) → (k : Bool → Option β) → Option β) (zq89 : (a0 : Int) → (c0 : Int) → (k : Bool → Option β) → Option β) (zq91 : (a1 : (Int → (Bool → Option β) → Option β)) → Nat → Int → Int → Int → Int → Int → Int → (Int → Int → Int → Int → Option β) → Option β) (q0 : ByteArray) (v0 : Int) (v1 : Int) (v2 : Int) (v3 : Int) (v4 : Int) (v5 : Int) (rec_ : St → Option β) (K : Exit → St → Option β) :
    ev lay (VE129 N zq65 zq70 zq81 zq87 zq88 zq89 zq91) (retMask Tryz.f129) (lp Tryz.f129 0).body (lp Tryz.f129 0).ex ((lp Tryz.f129 0).lv (retMask Tryz.f129)) (h129_0_0 q0 v0 v1 v2 v3 v4 v5) (nextR (fun s' => rec_ (s'.tidy ((lp Tryz.f129 0).lv (retMask Tryz.f129)))) K) = zb90 N (fun x0 k => zq65 x0 q0 k) v0 v1 v2 v3 v4 v5 (fun v0 v1 v2 v3 v4 v5 => rec_ (h129_0_0 q0 v0 v1 v2 v3 v4 v5)) (fun y0 y1 y2 y3 => K (.exit 0) (x129_0_0_k0 q0 y0 y1 y2 y3)) := by kernel_rfl
theorem st129_0_0 {β : Type} (N : Nat) (q0 : ByteArray) (v0 : Int) (v1 : Int) (v2 : Int) (v3 : Int) (v4 : Int) (v5 : Int) (rec_ : St → Option β) (K : Exit → St → Option β) :
    ev lay (E129 N) (retMask Tryz.f129) (lp Tryz.f129 0).body (lp Tryz.f129 0).ex ((lp Tryz.f129 0).lv (retMask Tryz.f129)) (h129_0_0 q0 v0 v1 v2 v3 v4 v5) (nextR (fun s' => rec_ (s'.tidy ((lp Tryz.f129 0).lv (retMask Tryz.f129)))) K) = zj90 N (fun x0 k => zj65 N x0 q0 k) v0 v1 v2 v3 v4 v5 (fun v0 v1 v2 v3 v4 v5 => rec_ (h129_0_0 q0 v0 v1 v2 v3 v4 v5)) (fun y0 y1 y2 y3 => K (.exit 0) (x129_0_0_k0 q0 y0 y1 y2 y3)) := (vst129_0_0 N (zj65 N) (zj70 N) (zj81 N) (zj87 N) (zj88 N) (zj89 N) (zj91 N) q0 v0 v1 v2 v3 v4 v5 rec_ K).trans (zt90 N (fun x0 k => zj65 N x0 q0 k) v0 v1 v2 v3 v4 v5 (fun v0 v1 v2 v3 v4 v5 => rec_ (h129_0_0 q0 v0 v1 v2 v3 v4 v5)) (fun y0 y1 y2 y3 => K (.exit 0) (x129_0_0_k0 q0 y0 y1 y2 y3))).symm
theorem ro129_0_0 {β : Type} (N : Nat) (q0 : ByteArray) (K : Exit → St → Option β) : ∀ (F : Nat) (v0 : Int) (v1 : Int) (v2 : Int) (v3 : Int) (v4 : Int) (v5 : Int), (lp Tryz.f129 0).rounds lay (E129 N) (retMask Tryz.f129) F (h129_0_0 q0 v0 v1 v2 v3 v4 v5) K = zj91 N (fun x0 k => zj65 N x0 q0 k) F v0 v1 v2 v3 v4 v5 (fun y0 y1 y2 y3 => K (.exit 0) (x129_0_0_k0 q0 y0 y1 y2 y3)) := by
  intro F
  induction F with
  | zero => intros; rfl
  | succ F ih =>
    intros
    rw [rounds_next]
    refine (st129_0_0 N q0 _ _ _ _ _ _ (fun s => (lp Tryz.f129 0).rounds lay (E129 N) (retMask Tryz.f129) F s K) K).trans ?_
    simp only [ih]
    rfl
theorem vst129_0_1 {β : Type} (N : Nat) (zq65 : (a0 : Int) → (c0 : ByteArray) → (k : Bool → Option β) → Option β) (zq70 : (a0 : Int) → (c0 : Int) → (c1 : Int) → (k : Bool → Option β) → Option β) (zq81 : (a0 : Int) → (c0 : List (Int × Int)) → (k : Bool → Option β) → Option β) (zq87 : (a0 : Int) → (c0 : Tr) → (k : Bool → Option β) → Option β) (zq88 : (a0 : Int) → (c0 : Tr) → (k : Bool → Option β) → Option β) (zq89 : (a0 : Int) → (c0 : Int) → (k : Bool → Option β) → Option β) (zq91 : (a1 : (Int → (Bool → Option β) → Option β)) → Nat → Int → Int → Int → Int → Int → Int → (Int → Int → Int → Int → Option β) → Option β) (q0 : Int) (q1 : Int) (v0 : Int) (v1 : Int) (v2 : Int) (v3 : Int) (v4 : Int) (v5 : Int) (rec_ : St → Option β) (K : Exit → St → Option β) :
    ev lay (VE129 N zq65 zq70 zq81 zq87 zq88 zq89 zq91) (retMask Tryz.f129) (lp Tryz.f129 0).body (lp Tryz.f129 0).ex ((lp Tryz.f129 0).lv (retMask Tryz.f129)) (h129_0_1 q0 q1 v0 v1 v2 v3 v4 v5) (nextR (fun s' => rec_ (s'.tidy ((lp Tryz.f129 0).lv (retMask Tryz.f129)))) K) = zb90 N (fun x0 k => zq70 x0 q0 q1 k) v0 v1 v2 v3 v4 v5 (fun v0 v1 v2 v3 v4 v5 => rec_ (h129_0_1 q0 q1 v0 v1 v2 v3 v4 v5)) (fun y0 y1 y2 y3 => K (.exit 0) (x129_0_1_k0 q0 q1 y0 y1 y2 y3)) := by kernel_rfl
theorem st129_0_1 {β : Type} (N : Nat) (q0 : Int) (q1 : Int) (v0 : Int) (v1 : Int) (v2 : Int) (v3 : Int) (v4 : Int) (v5 : Int) (rec_ : St → Option β) (K : Exit → St → Option β) :
    ev lay (E129 N) (retMask Tryz.f129) (lp Tryz.f129 0).body (lp Tryz.f129 0).ex ((lp Tryz.f129 0).lv (retMask Tryz.f129)) (h129_0_1 q0 q1 v0 v1 v2 v3 v4 v5) (nextR (fun s' => rec_ (s'.tidy ((lp Tryz.f129 0).lv (retMask Tryz.f129)))) K) = zj90 N (fun x0 k => zj70 N x0 q0 q1 k) v0 v1 v2 v3 v4 v5 (fun v0 v1 v2 v3 v4 v5 => rec_ (h129_0_1 q0 q1 v0 v1 v2 v3 v4 v5)) (fun y0 y1 y2 y3 => K (.exit 0) (x129_0_1_k0 q0 q1 y0 y1 y2 y3)) := (vst129_0_1 N (zj65 N) (zj70 N) (zj81 N) (zj87 N) (zj88 N) (zj89 N) (zj91 N) q0 q1 v0 v1 v2 v3 v4 v5 rec_ K).trans (zt90 N (fun x0 k => zj70 N x0 q0 q1 k) v0 v1 v2 v3 v4 v5 (fun v0 v1 v2 v3 v4 v5 => rec_ (h129_0_1 q0 q1 v0 v1 v2 v3 v4 v5)) (fun y0 y1 y2 y3 => K (.exit 0) (x129_0_1_k0 q0 q1 y0 y1 y2 y3))).symm
theorem ro129_0_1 {β : Type} (N : Nat) (q0 : Int) (q1 : Int) (K : Exit → St → Option β) : ∀ (F : Nat) (v0 : Int) (v1 : Int) (v2 : Int) (v3 : Int) (v4 : Int) (v5 : Int), (lp Tryz.f129 0).rounds lay (E129 N) (retMask Tryz.f129) F (h129_0_1 q0 q1 v0 v1 v2 v3 v4 v5) K = zj91 N (fun x0 k => zj70 N x0 q0 q1 k) F v0 v1 v2 v3 v4 v5 (fun y0 y1 y2 y3 => K (.exit 0) (x129_0_1_k0 q0 q1 y0 y1 y2 y3)) := by
  intro F
  induction F with
  | zero => intros; rfl
  | succ F ih =>
    intros
    rw [rounds_next]
    refine (st129_0_1 N q0 q1 _ _ _ _ _ _ (fun s => (lp Tryz.f129 0).rounds lay (E129 N) (retMask Tryz.f129) F s K) K).trans ?_
    simp only [ih]
    rfl
theorem vst129_0_2 {β : Type} (N : Nat) (zq65 : (a0 : Int) → (c0 : ByteArray) → (k : Bool → Option β) → Option β) (zq70 : (a0 : Int) → (c0 : Int) → (c1 : Int) → (k : Bool → Option β) → Option β) (zq81 : (a0 : Int) → (c0 : List (Int × Int)) → (k : Bool → Option β) → Option β) (zq87 : (a0 : Int) → (c0 : Tr) → (k : Bool → Option β) → Option β) (zq88 : (a0 : Int) → (c0 : Tr) → (k : Bool → Option β) → Option β) (zq89 : (a0 : Int) → (c0 : Int) → (k : Bool → Option β) → Option β) (zq91 : (a1 : (Int → (Bool → Option β) → Option β)) → Nat → Int → Int → Int → Int → Int → Int → (Int → Int → Int → Int → Option β) → Option β) (q0 : List (Int × Int)) (v0 : Int) (v1 : Int) (v2 : Int) (v3 : Int) (v4 : Int) (v5 : Int) (rec_ : St → Option β) (K : Exit → St → Option β) :
    ev lay (VE129 N zq65 zq70 zq81 zq87 zq88 zq89 zq91) (retMask Tryz.f129) (lp Tryz.f129 0).body (lp Tryz.f129 0).ex ((lp Tryz.f129 0).lv (retMask Tryz.f129)) (h129_0_2 q0 v0 v1 v2 v3 v4 v5) (nextR (fun s' => rec_ (s'.tidy ((lp Tryz.f129 0).lv (retMask Tryz.f129)))) K) = zb90 N (fun x0 k => zq81 x0 q0 k) v0 v1 v2 v3 v4 v5 (fun v0 v1 v2 v3 v4 v5 => rec_ (h129_0_2 q0 v0 v1 v2 v3 v4 v5)) (fun y0 y1 y2 y3 => K (.exit 0) (x129_0_2_k0 q0 y0 y1 y2 y3)) := by kernel_rfl
theorem st129_0_2 {β : Type} (N : Nat) (q0 : List (Int × Int)) (v0 : Int) (v1 : Int) (v2 : Int) (v3 : Int) (v4 : Int) (v5 : Int) (rec_ : St → Option β) (K : Exit → St → Option β) :
    ev lay (E129 N) (retMask Tryz.f129) (lp Tryz.f129 0).body (lp Tryz.f129 0).ex ((lp Tryz.f129 0).lv (retMask Tryz.f129)) (h129_0_2 q0 v0 v1 v2 v3 v4 v5) (nextR (fun s' => rec_ (s'.tidy ((lp Tryz.f129 0).lv (retMask Tryz.f129)))) K) = zj90 N (fun x0 k => zj81 N x0 q0 k) v0 v1 v2 v3 v4 v5 (fun v0 v1 v2 v3 v4 v5 => rec_ (h129_0_2 q0 v0 v1 v2 v3 v4 v5)) (fun y0 y1 y2 y3 => K (.exit 0) (x129_0_2_k0 q0 y0 y1 y2 y3)) := (vst129_0_2 N (zj65 N) (zj70 N) (zj81 N) (zj87 N) (zj88 N) (zj89 N) (zj91 N) q0 v0 v1 v2 v3 v4 v5 rec_ K).trans (zt90 N (fun x0 k => zj81 N x0 q0 k) v0 v1 v2 v3 v4 v5 (fun v0 v1 v2 v3 v4 v5 => rec_ (h129_0_2 q0 v0 v1 v2 v3 v4 v5)) (fun y0 y1 y2 y3 => K (.exit 0) (x129_0_2_k0 q0 y0 y1 y2 y3))).symm
theorem ro129_0_2 {β : Type} (N : Nat) (q0 : List (Int × Int)) (K : Exit → St → Option β) : ∀ (F : Nat) (v0 : Int) (v1 : Int) (v2 : Int) (v3 : Int) (v4 : Int) (v5 : Int), (lp Tryz.f129 0).rounds lay (E129 N) (retMask Tryz.f129) F (h129_0_2 q0 v0 v1 v2 v3 v4 v5) K = zj91 N (fun x0 k => zj81 N x0 q0 k) F v0 v1 v2 v3 v4 v5 (fun y0 y1 y2 y3 => K (.exit 0) (x129_0_2_k0 q0 y0 y1 y2 y3)) := by
  intro F
  induction F with
  | zero => intros; rfl
  | succ F ih =>
    intros
    rw [rounds_next]
    refine (st129_0_2 N q0 _ _ _ _ _ _ (fun s => (lp Tryz.f129 0).rounds lay (E129 N) (retMask Tryz.f129) F s K) K).trans ?_
    simp only [ih]
    rfl
theorem vst129_0_3 {β : Type} (N : Nat) (zq65 : (a0 : Int) → (c0 : ByteArray) → (k : Bool → Option β) → Option β) (zq70 : (a0 : Int) → (c0 : Int) → (c1 : Int) → (k : Bool → Option β) → Option β) (zq81 : (a0 : Int) → (c0 : List (Int × Int)) → (k : Bool → Option β) → Option β) (zq87 : (a0 : Int) → (c0 : Tr) → (k : Bool → Option β) → Option β) (zq88 : (a0 : Int) → (c0 : Tr) → (k : Bool → Option β) → Option β) (zq89 : (a0 : Int) → (c0 : Int) → (k : Bool → Option β) → Option β) (zq91 : (a1 : (Int → (Bool → Option β) → Option β)) → Nat → Int → Int → Int → Int → Int → Int → (Int → Int → Int → Int → Option β) → Option β) (q0 : Tr) (v0 : Int) (v1 : Int) (v2 : Int) (v3 : Int) (v4 : Int) (v5 : Int) (rec_ : St → Option β) (K : Exit → St → Option β) :
    ev lay (VE129 N zq65 zq70 zq81 zq87 zq88 zq89 zq91) (retMask Tryz.f129) (lp Tryz.f129 0).body (lp Tryz.f129 0).ex ((lp Tryz.f129 0).lv (retMask Tryz.f129)) (h129_0_3 q0 v0 v1 v2 v3 v4 v5) (nextR (fun s' => rec_ (s'.tidy ((lp Tryz.f129 0).lv (retMask Tryz.f129)))) K) = zb90 N (fun x0 k => zq87 x0 q0 k) v0 v1 v2 v3 v4 v5 (fun v0 v1 v2 v3 v4 v5 => rec_ (h129_0_3 q0 v0 v1 v2 v3 v4 v5)) (fun y0 y1 y2 y3 => K (.exit 0) (x129_0_3_k0 q0 y0 y1 y2 y3)) := by kernel_rfl
theorem st129_0_3 {β : Type} (N : Nat) (q0 : Tr) (v0 : Int) (v1 : Int) (v2 : Int) (v3 : Int) (v4 : Int) (v5 : Int) (rec_ : St → Option β) (K : Exit → St → Option β) :
    ev lay (E129 N) (retMask Tryz.f129) (lp Tryz.f129 0).body (lp Tryz.f129 0).ex ((lp Tryz.f129 0).lv (retMask Tryz.f129)) (h129_0_3 q0 v0 v1 v2 v3 v4 v5) (nextR (fun s' => rec_ (s'.tidy ((lp Tryz.f129 0).lv (retMask Tryz.f129)))) K) = zj90 N (fun x0 k => zj87 N x0 q0 k) v0 v1 v2 v3 v4 v5 (fun v0 v1 v2 v3 v4 v5 => rec_ (h129_0_3 q0 v0 v1 v2 v3 v4 v5)) (fun y0 y1 y2 y3 => K (.exit 0) (x129_0_3_k0 q0 y0 y1 y2 y3)) := (vst129_0_3 N (zj65 N) (zj70 N) (zj81 N) (zj87 N) (zj88 N) (zj89 N) (zj91 N) q0 v0 v1 v2 v3 v4 v5 rec_ K).trans (zt90 N (fun x0 k => zj87 N x0 q0 k) v0 v1 v2 v3 v4 v5 (fun v0 v1 v2 v3 v4 v5 => rec_ (h129_0_3 q0 v0 v1 v2 v3 v4 v5)) (fun y0 y1 y2 y3 => K (.exit 0) (x129_0_3_k0 q0 y0 y1 y2 y3))).symm
theorem ro129_0_3 {β : Type} (N : Nat) (q0 : Tr) (K : Exit → St → Option β) : ∀ (F : Nat) (v0 : Int) (v1 : Int) (v2 : Int) (v3 : Int) (v4 : Int) (v5 : Int), (lp Tryz.f129 0).rounds lay (E129 N) (retMask Tryz.f129) F (h129_0_3 q0 v0 v1 v2 v3 v4 v5) K = zj91 N (fun x0 k => zj87 N x0 q0 k) F v0 v1 v2 v3 v4 v5 (fun y0 y1 y2 y3 => K (.exit 0) (x129_0_3_k0 q0 y0 y1 y2 y3)) := by
  intro F
  induction F with
  | zero => intros; rfl
  | succ F ih =>
    intros
    rw [rounds_next]
    refine (st129_0_3 N q0 _ _ _ _ _ _ (fun s => (lp Tryz.f129 0).rounds lay (E129 N) (retMask Tryz.f129) F s K) K).trans ?_
    simp only [ih]
    rfl
theorem vst129_0_4 {β : Type} (N : Nat) (zq65 : (a0 : Int) → (c0 : ByteArray) → (k : Bool → Option β) → Option β) (zq70 : (a0 : Int) → (c0 : Int) → (c1 : Int) → (k : Bool → Option β) → Option β) (zq81 : (a0 : Int) → (c0 : List (Int × Int)) → (k : Bool → Option β) → Option β) (zq87 : (a0 : Int) → (c0 : Tr) → (k : Bool → Option β) → Option β) (zq88 : (a0 : Int) → (c0 : Tr) → (k : Bool → Option β) → Option β) (zq89 : (a0 : Int) → (c0 : Int) → (k : Bool → Option β) → Option β) (zq91 : (a1 : (Int → (Bool → Option β) → Option β)) → Nat → Int → Int → Int → Int → Int → Int → (Int → Int → Int → Int → Option β) → Option β) (q0 : Tr) (v0 : Int) (v1 : Int) (v2 : Int) (v3 : Int) (v4 : Int) (v5 : Int) (rec_ : St → Option β) (K : Exit → St → Option β) :
    ev lay (VE129 N zq65 zq70 zq81 zq87 zq88 zq89 zq91) (retMask Tryz.f129) (lp Tryz.f129 0).body (lp Tryz.f129 0).ex ((lp Tryz.f129 0).lv (retMask Tryz.f129)) (h129_0_4 q0 v0 v1 v2 v3 v4 v5) (nextR (fun s' => rec_ (s'.tidy ((lp Tryz.f129 0).lv (retMask Tryz.f129)))) K) = zb90 N (fun x0 k => zq88 x0 q0 k) v0 v1 v2 v3 v4 v5 (fun v0 v1 v2 v3 v4 v5 => rec_ (h129_0_4 q0 v0 v1 v2 v3 v4 v5)) (fun y0 y1 y2 y3 => K (.exit 0) (x129_0_4_k0 q0 y0 y1 y2 y3)) := by kernel_rfl
theorem st129_0_4 {β : Type} (N : Nat) (q0 : Tr) (v0 : Int) (v1 : Int) (v2 : Int) (v3 : Int) (v4 : Int) (v5 : Int) (rec_ : St → Option β) (K : Exit → St → Option β) :
    ev lay (E129 N) (retMask Tryz.f129) (lp Tryz.f129 0).body (lp Tryz.f129 0).ex ((lp Tryz.f129 0).lv (retMask Tryz.f129)) (h129_0_4 q0 v0 v1 v2 v3 v4 v5) (nextR (fun s' => rec_ (s'.tidy ((lp Tryz.f129 0).lv (retMask Tryz.f129)))) K) = zj90 N (fun x0 k => zj88 N x0 q0 k) v0 v1 v2 v3 v4 v5 (fun v0 v1 v2 v3 v4 v5 => rec_ (h129_0_4 q0 v0 v1 v2 v3 v4 v5)) (fun y0 y1 y2 y3 => K (.exit 0) (x129_0_4_k0 q0 y0 y1 y2 y3)) := (vst129_0_4 N (zj65 N) (zj70 N) (zj81 N) (zj87 N) (zj88 N) (zj89 N) (zj91 N) q0 v0 v1 v2 v3 v4 v5 rec_ K).trans (zt90 N (fun x0 k => zj88 N x0 q0 k) v0 v1 v2 v3 v4 v5 (fun v0 v1 v2 v3 v4 v5 => rec_ (h129_0_4 q0 v0 v1 v2 v3 v4 v5)) (fun y0 y1 y2 y3 => K (.exit 0) (x129_0_4_k0 q0 y0 y1 y2 y3))).symm
theorem ro129_0_4 {β : Type} (N : Nat) (q0 : Tr) (K : Exit → St → Option β) : ∀ (F : Nat) (v0 : Int) (v1 : Int) (v2 : Int) (v3 : Int) (v4 : Int) (v5 : Int), (lp Tryz.f129 0).rounds lay (E129 N) (retMask Tryz.f129) F (h129_0_4 q0 v0 v1 v2 v3 v4 v5) K = zj91 N (fun x0 k => zj88 N x0 q0 k) F v0 v1 v2 v3 v4 v5 (fun y0 y1 y2 y3 => K (.exit 0) (x129_0_4_k0 q0 y0 y1 y2 y3)) := by
  intro F
  induction F with
  | zero => intros; rfl
  | succ F ih =>
    intros
    rw [rounds_next]
    refine (st129_0_4 N q0 _ _ _ _ _ _ (fun s => (lp Tryz.f129 0).rounds lay (E129 N) (retMask Tryz.f129) F s K) K).trans ?_
    simp only [ih]
    rfl
theorem vst129_0_5 {β : Type} (N : Nat) (zq65 : (a0 : Int) → (c0 : ByteArray) → (k : Bool → Option β) → Option β) (zq70 : (a0 : Int) → (c0 : Int) → (c1 : Int) → (k : Bool → Option β) → Option β) (zq81 : (a0 : Int) → (c0 : List (Int × Int)) → (k : Bool → Option β) → Option β) (zq87 : (a0 : Int) → (c0 : Tr) → (k : Bool → Option β) → Option β) (zq88 : (a0 : Int) → (c0 : Tr) → (k : Bool → Option β) → Option β) (zq89 : (a0 : Int) → (c0 : Int) → (k : Bool → Option β) → Option β) (zq91 : (a1 : (Int → (Bool → Option β) → Option β)) → Nat → Int → Int → Int → Int → Int → Int → (Int → Int → Int → Int → Option β) → Option β) (q0 : Int) (v0 : Int) (v1 : Int) (v2 : Int) (v3 : Int) (v4 : Int) (v5 : Int) (rec_ : St → Option β) (K : Exit → St → Option β) :
    ev lay (VE129 N zq65 zq70 zq81 zq87 zq88 zq89 zq91) (retMask Tryz.f129) (lp Tryz.f129 0).body (lp Tryz.f129 0).ex ((lp Tryz.f129 0).lv (retMask Tryz.f129)) (h129_0_5 q0 v0 v1 v2 v3 v4 v5) (nextR (fun s' => rec_ (s'.tidy ((lp Tryz.f129 0).lv (retMask Tryz.f129)))) K) = zb90 N (fun x0 k => zq89 x0 q0 k) v0 v1 v2 v3 v4 v5 (fun v0 v1 v2 v3 v4 v5 => rec_ (h129_0_5 q0 v0 v1 v2 v3 v4 v5)) (fun y0 y1 y2 y3 => K (.exit 0) (x129_0_5_k0 q0 y0 y1 y2 y3)) := by kernel_rfl
theorem st129_0_5 {β : Type} (N : Nat) (q0 : Int) (v0 : Int) (v1 : Int) (v2 : Int) (v3 : Int) (v4 : Int) (v5 : Int) (rec_ : St → Option β) (K : Exit → St → Option β) :
    ev lay (E129 N) (retMask Tryz.f129) (lp Tryz.f129 0).body (lp Tryz.f129 0).ex ((lp Tryz.f129 0).lv (retMask Tryz.f129)) (h129_0_5 q0 v0 v1 v2 v3 v4 v5) (nextR (fun s' => rec_ (s'.tidy ((lp Tryz.f129 0).lv (retMask Tryz.f129)))) K) = zj90 N (fun x0 k => zj89 N x0 q0 k) v0 v1 v2 v3 v4 v5 (fun v0 v1 v2 v3 v4 v5 => rec_ (h129_0_5 q0 v0 v1 v2 v3 v4 v5)) (fun y0 y1 y2 y3 => K (.exit 0) (x129_0_5_k0 q0 y0 y1 y2 y3)) := (vst129_0_5 N (zj65 N) (zj70 N) (zj81 N) (zj87 N) (zj88 N) (zj89 N) (zj91 N) q0 v0 v1 v2 v3 v4 v5 rec_ K).trans (zt90 N (fun x0 k => zj89 N x0 q0 k) v0 v1 v2 v3 v4 v5 (fun v0 v1 v2 v3 v4 v5 => rec_ (h129_0_5 q0 v0 v1 v2 v3 v4 v5)) (fun y0 y1 y2 y3 => K (.exit 0) (x129_0_5_k0 q0 y0 y1 y2 y3))).symm
theorem ro129_0_5 {β : Type} (N : Nat) (q0 : Int) (K : Exit → St → Option β) : ∀ (F : Nat) (v0 : Int) (v1 : Int) (v2 : Int) (v3 : Int) (v4 : Int) (v5 : Int), (lp Tryz.f129 0).rounds lay (E129 N) (retMask Tryz.f129) F (h129_0_5 q0 v0 v1 v2 v3 v4 v5) K = zj91 N (fun x0 k => zj89 N x0 q0 k) F v0 v1 v2 v3 v4 v5 (fun y0 y1 y2 y3 => K (.exit 0) (x129_0_5_k0 q0 y0 y1 y2 y3)) := by
  intro F
  induction F with
  | zero => intros; rfl
  | succ F ih =>
    intros
    rw [rounds_next]
    refine (st129_0_5 N q0 _ _ _ _ _ _ (fun s => (lp Tryz.f129 0).rounds lay (E129 N) (retMask Tryz.f129) F s K) K).trans ?_
    simp only [ih]
    rfl
theorem lk129_0 {β : Type} (N : Nat) : lookL (E129 (β := β) N).loops (lp Tryz.f129 0).id = LS129_0 N := by kernel_rfl
theorem rk129_0 {β : Type} (N : Nat) : RoundsOK lay (E129 (β := β) N) (retMask Tryz.f129) (lp Tryz.f129 0) := by
  intro s K r h
  rw [lk129_0] at h
  unfold LS129_0 VLS129_0 at h
  cases hb : shpSt (h129_0_0 ByteArray.empty 0 0 0 0 0 0) s with
  | true =>
    rw [hb, cond_true] at h
    exact ⟨N, by rw [← shpSt_ref hb, fl129_0_0 s]; exact (ro129_0_0 N (strF (nx .no (nx ([], 0) (dfnS (oneA (vT (nx tund s.tmps 1)))) 0).1 0)) K N (intS (oneA (vT (nx tund s.tmps 10)))) (intS (oneA (vT (nx tund s.tmps 11)))) (intS (nx .und (cellsB (nx .dead s.blks 0)) 0)) (intS (nx .und (cellsB (nx .dead s.blks 0)) 1)) (intS (nx .und (cellsB (nx .dead s.blks 1)) 0)) (intS (nx .und (cellsB (nx .dead s.blks 1)) 1))).trans h⟩
  | false =>
  rw [hb, cond_false] at h
  clear hb
  cases hb : shpSt (h129_0_1 0 0 0 0 0 0 0 0) s with
  | true =>
    rw [hb, cond_true] at h
    exact ⟨N, by rw [← shpSt_ref hb, fl129_0_1 s]; exact (ro129_0_1 N (intF (nx .no (nx ([], 0) (dfnS (oneA (vT (nx tund s.tmps 1)))) 0).1 0)) (intF (nx .no (nx ([], 0) (dfnS (oneA (vT (nx tund s.tmps 1)))) 0).1 1)) K N (intS (oneA (vT (nx tund s.tmps 10)))) (intS (oneA (vT (nx tund s.tmps 11)))) (intS (nx .und (cellsB (nx .dead s.blks 0)) 0)) (intS (nx .und (cellsB (nx .dead s.blks 0)) 1)) (intS (nx .und (cellsB (nx .dead s.blks 1)) 0)) (intS (nx .und (cellsB (nx .dead s.blks 1)) 1))).trans h⟩
  | false =>
  rw [hb, cond_false] at h
  clear hb
  cases hb : shpSt (h129_0_2 [] 0 0 0 0 0 0) s with
  | true =>
    rw [hb, cond_true] at h
    exact ⟨N, by rw [← shpSt_ref hb, fl129_0_2 s]; exact (ro129_0_2 N (rPairs (rowF (nx .no (nx ([], 0) (dfnS (oneA (vT (nx tund s.tmps 1)))) 0).1 0))) K N (intS (oneA (vT (nx tund s.tmps 10)))) (intS (oneA (vT (nx tund s.tmps 11)))) (intS (nx .und (cellsB (nx .dead s.blks 0)) 0)) (intS (nx .und (cellsB (nx .dead s.blks 0)) 1)) (intS (nx .und (cellsB (nx .dead s.blks 1)) 0)) (intS (nx .und (cellsB (nx .dead s.blks 1)) 1))).trans h⟩
  | false =>
  rw [hb, cond_false] at h
  clear hb
  cases hb : shpSt (h129_0_3 Tr.nil 0 0 0 0 0 0) s with
  | true =>
    rw [hb, cond_true] at h
    exact ⟨N, by rw [← shpSt_ref hb, fl129_0_3 s]; exact (ro129_0_3 N (trF (nx .no (nx ([], 0) (dfnS (oneA (vT (nx tund s.tmps 1)))) 0).1 0)) K N (intS (oneA (vT (nx tund s.tmps 10)))) (intS (oneA (vT (nx tund s.tmps 11)))) (intS (nx .und (cellsB (nx .dead s.blks 0)) 0)) (intS (nx .und (cellsB (nx .dead s.blks 0)) 1)) (intS (nx .und (cellsB (nx .dead s.blks 1)) 0)) (intS (nx .und (cellsB (nx .dead s.blks 1)) 1))).trans h⟩
  | false =>
  rw [hb, cond_false] at h
  clear hb
  cases hb : shpSt (h129_0_4 Tr.nil 0 0 0 0 0 0) s with
  | true =>
    rw [hb, cond_true] at h
    exact ⟨N, by rw [← shpSt_ref hb, fl129_0_4 s]; exact (ro129_0_4 N (trF (nx .no (nx ([], 0) (dfnS (oneA (vT (nx tund s.tmps 1)))) 0).1 0)) K N (intS (oneA (vT (nx tund s.tmps 10)))) (intS (oneA (vT (nx tund s.tmps 11)))) (intS (nx .und (cellsB (nx .dead s.blks 0)) 0)) (intS (nx .und (cellsB (nx .dead s.blks 0)) 1)) (intS (nx .und (cellsB (nx .dead s.blks 1)) 0)) (intS (nx .und (cellsB (nx .dead s.blks 1)) 1))).trans h⟩
  | false =>
  rw [hb, cond_false] at h
  clear hb
  cases hb : shpSt (h129_0_5 0 0 0 0 0 0 0) s with
  | true =>
    rw [hb, cond_true] at h
    exact ⟨N, by rw [← shpSt_ref hb, fl129_0_5 s]; exact (ro129_0_5 N (intF (nx .no (nx ([], 0) (dfnS (oneA (vT (nx tund s.tmps 1)))) 0).1 0)) K N (intS (oneA (vT (nx tund s.tmps 10)))) (intS (oneA (vT (nx tund s.tmps 11)))) (intS (nx .und (cellsB (nx .dead s.blks 0)) 0)) (intS (nx .und (cellsB (nx .dead s.blks 0)) 1)) (intS (nx .und (cellsB (nx .dead s.blks 1)) 0)) (intS (nx .und (cellsB (nx .dead s.blks 1)) 1))).trans h⟩
  | false =>
  rw [hb, cond_false] at h
  clear hb
  cases h
def zb92 {β : Type} (N : Nat) (zq91 : (a1 : (Int → (Bool → Option β) → Option β)) → Nat → Int → Int → Int → Int → Int → Int → (Int → Int → Int → Int → Option β) → Option β) (a0 : Int) (a1 : (Int → (Bool → Option β) → Option β)) (k : Int → Int → Option β) : Option β :=
(gd ((decide (0 ≤ a0)))
(zq91 a1 N ((shlI .i64 1 a0)) 0 0 0 a0 0 (fun e5_0 e5_1 e5_2 e5_3 =>
k e5_2 e5_3)))
theorem zt92 {β : Type} (N : Nat) (a0 : Int) (a1 : (Int → (Bool → Option β) → Option β)) (k : Int → Int → Option β) : zj92 N a0 a1 k = zb92 N (zj91 N) a0 a1 k := by
  unfold zj92 zb92
  rfl
theorem ve129_0 {β : Type} (N : Nat) (zq65 : (a0 : Int) → (c0 : ByteArray) → (k : Bool → Option β) → Option β) (zq70 : (a0 : Int) → (c0 : Int) → (c1 : Int) → (k : Bool → Option β) → Option β) (zq81 : (a0 : Int) → (c0 : List (Int × Int)) → (k : Bool → Option β) → Option β) (zq87 : (a0 : Int) → (c0 : Tr) → (k : Bool → Option β) → Option β) (zq88 : (a0 : Int) → (c0 : Tr) → (k : Bool → Option β) → Option β) (zq89 : (a0 : Int) → (c0 : Int) → (k : Bool → Option β) → Option β) (zq91 : (a1 : (Int → (Bool → Option β) → Option β)) → Nat → Int → Int → Int → Int → Int → Int → (Int → Int → Int → Int → Option β) → Option β) (q0 : ByteArray) (a0 : Int) (K : TV → Option β) : evFn lay (VE129 N zq65 zq70 zq81 zq87 zq88 zq89 zq91) Tryz.f129 [.v (.one (.int .i64 a0)), .v (.one (.dfn 130 [([.str q0], 0)]))] K = zb92 N zq91 a0 (fun x0 k => zq65 x0 q0 k) (fun z2 z3 => K (.v (.agg [.int .i64 z2, .int .i64 z3]))) := by kernel_rfl
theorem e129_0 {β : Type} (N : Nat) (q0 : ByteArray) (a0 : Int) (K : TV → Option β) : evFn lay (E129 N) Tryz.f129 [.v (.one (.int .i64 a0)), .v (.one (.dfn 130 [([.str q0], 0)]))] K = zj92 N a0 (fun x0 k => zj65 N x0 q0 k) (fun z2 z3 => K (.v (.agg [.int .i64 z2, .int .i64 z3]))) := (ve129_0 N (zj65 N) (zj70 N) (zj81 N) (zj87 N) (zj88 N) (zj89 N) (zj91 N) q0 a0 K).trans (zt92 N a0 (fun x0 k => zj65 N x0 q0 k) (fun z2 z3 => K (.v (.agg [.int .i64 z2, .int .i64 z3])))).symm
theorem ve129_1 {β : Type} (N : Nat) (zq65 : (a0 : Int) → (c0 : ByteArray) → (k : Bool → Option β) → Option β) (zq70 : (a0 : Int) → (c0 : Int) → (c1 : Int) → (k : Bool → Option β) → Option β) (zq81 : (a0 : Int) → (c0 : List (Int × Int)) → (k : Bool → Option β) → Option β) (zq87 : (a0 : Int) → (c0 : Tr) → (k : Bool → Option β) → Option β) (zq88 : (a0 : Int) → (c0 : Tr) → (k : Bool → Option β) → Option β) (zq89 : (a0 : Int) → (c0 : Int) → (k : Bool → Option β) → Option β) (zq91 : (a1 : (Int → (Bool → Option β) → Option β)) → Nat → Int → Int → Int → Int → Int → Int → (Int → Int → Int → Int → Option β) → Option β) (q0 : Int) (q1 : Int) (a0 : Int) (K : TV → Option β) : evFn lay (VE129 N zq65 zq70 zq81 zq87 zq88 zq89 zq91) Tryz.f129 [.v (.one (.int .i64 a0)), .v (.one (.dfn 189 [([.int .i64 q0, .int .i64 q1], 0)]))] K = zb92 N zq91 a0 (fun x0 k => zq70 x0 q0 q1 k) (fun z2 z3 => K (.v (.agg [.int .i64 z2, .int .i64 z3]))) := by kernel_rfl
theorem e129_1 {β : Type} (N : Nat) (q0 : Int) (q1 : Int) (a0 : Int) (K : TV → Option β) : evFn lay (E129 N) Tryz.f129 [.v (.one (.int .i64 a0)), .v (.one (.dfn 189 [([.int .i64 q0, .int .i64 q1], 0)]))] K = zj92 N a0 (fun x0 k => zj70 N x0 q0 q1 k) (fun z2 z3 => K (.v (.agg [.int .i64 z2, .int .i64 z3]))) := (ve129_1 N (zj65 N) (zj70 N) (zj81 N) (zj87 N) (zj88 N) (zj89 N) (zj91 N) q0 q1 a0 K).trans (zt92 N a0 (fun x0 k => zj70 N x0 q0 q1 k) (fun z2 z3 => K (.v (.agg [.int .i64 z2, .int .i64 z3])))).symm
theorem ve129_2 {β : Type} (N : Nat) (zq65 : (a0 : Int) → (c0 : ByteArray) → (k : Bool → Option β) → Option β) (zq70 : (a0 : Int) → (c0 : Int) → (c1 : Int) → (k : Bool → Option β) → Option β) (zq81 : (a0 : Int) → (c0 : List (Int × Int)) → (k : Bool → Option β) → Option β) (zq87 : (a0 : Int) → (c0 : Tr) → (k : Bool → Option β) → Option β) (zq88 : (a0 : Int) → (c0 : Tr) → (k : Bool → Option β) → Option β) (zq89 : (a0 : Int) → (c0 : Int) → (k : Bool → Option β) → Option β) (zq91 : (a1 : (Int → (Bool → Option β) → Option β)) → Nat → Int → Int → Int → Int → Int → Int → (Int → Int → Int → Int → Option β) → Option β) (q0 : List (Int × Int)) (a0 : Int) (K : TV → Option β) : evFn lay (VE129 N zq65 zq70 zq81 zq87 zq88 zq89 zq91) Tryz.f129 [.v (.one (.int .i64 a0)), .v (.one (.dfn 193 [([.sl 93 (.pairs q0)], 0)]))] K = zb92 N zq91 a0 (fun x0 k => zq81 x0 q0 k) (fun z2 z3 => K (.v (.agg [.int .i64 z2, .int .i64 z3]))) := by kernel_rfl
theorem e129_2 {β : Type} (N : Nat) (q0 : List (Int × Int)) (a0 : Int) (K : TV → Option β) : evFn lay (E129 N) Tryz.f129 [.v (.one (.int .i64 a0)), .v (.one (.dfn 193 [([.sl 93 (.pairs q0)], 0)]))] K = zj92 N a0 (fun x0 k => zj81 N x0 q0 k) (fun z2 z3 => K (.v (.agg [.int .i64 z2, .int .i64 z3]))) := (ve129_2 N (zj65 N) (zj70 N) (zj81 N) (zj87 N) (zj88 N) (zj89 N) (zj91 N) q0 a0 K).trans (zt92 N a0 (fun x0 k => zj81 N x0 q0 k) (fun z2 z3 => K (.v (.agg [.int .i64 z2, .int .i64 z3])))).symm
theorem ve129_3 {β : Type} (N : Nat) (zq65 : (a0 : Int) → (c0 : ByteArray) → (k : Bool → Option β) → Option β) (zq70 : (a0 : Int) → (c0 : Int) → (c1 : Int) → (k : Bool → Option β) → Option β) (zq81 : (a0 : Int) → (c0 : List (Int × Int)) → (k : Bool → Option β) → Option β) (zq87 : (a0 : Int) → (c0 : Tr) → (k : Bool → Option β) → Option β) (zq88 : (a0 : Int) → (c0 : Tr) → (k : Bool → Option β) → Option β) (zq89 : (a0 : Int) → (c0 : Int) → (k : Bool → Option β) → Option β) (zq91 : (a1 : (Int → (Bool → Option β) → Option β)) → Nat → Int → Int → Int → Int → Int → Int → (Int → Int → Int → Int → Option β) → Option β) (q0 : Tr) (a0 : Int) (K : TV → Option β) : evFn lay (VE129 N zq65 zq70 zq81 zq87 zq88 zq89 zq91) Tryz.f129 [.v (.one (.int .i64 a0)), .v (.one (.dfn 198 [([.tr false q0], 0)]))] K = zb92 N zq91 a0 (fun x0 k => zq87 x0 q0 k) (fun z2 z3 => K (.v (.agg [.int .i64 z2, .int .i64 z3]))) := by kernel_rfl
theorem e129_3 {β : Type} (N : Nat) (q0 : Tr) (a0 : Int) (K : TV → Option β) : evFn lay (E129 N) Tryz.f129 [.v (.one (.int .i64 a0)), .v (.one (.dfn 198 [([.tr false q0], 0)]))] K = zj92 N a0 (fun x0 k => zj87 N x0 q0 k) (fun z2 z3 => K (.v (.agg [.int .i64 z2, .int .i64 z3]))) := (ve129_3 N (zj65 N) (zj70 N) (zj81 N) (zj87 N) (zj88 N) (zj89 N) (zj91 N) q0 a0 K).trans (zt92 N a0 (fun x0 k => zj87 N x0 q0 k) (fun z2 z3 => K (.v (.agg [.int .i64 z2, .int .i64 z3])))).symm
theorem ve129_4 {β : Type} (N : Nat) (zq65 : (a0 : Int) → (c0 : ByteArray) → (k : Bool → Option β) → Option β) (zq70 : (a0 : Int) → (c0 : Int) → (c1 : Int) → (k : Bool → Option β) → Option β) (zq81 : (a0 : Int) → (c0 : List (Int × Int)) → (k : Bool → Option β) → Option β) (zq87 : (a0 : Int) → (c0 : Tr) → (k : Bool → Option β) → Option β) (zq88 : (a0 : Int) → (c0 : Tr) → (k : Bool → Option β) → Option β) (zq89 : (a0 : Int) → (c0 : Int) → (k : Bool → Option β) → Option β) (zq91 : (a1 : (Int → (Bool → Option β) → Option β)) → Nat → Int → Int → Int → Int → Int → Int → (Int → Int → Int → Int → Option β) → Option β) (q0 : Tr) (a0 : Int) (K : TV → Option β) : evFn lay (VE129 N zq65 zq70 zq81 zq87 zq88 zq89 zq91) Tryz.f129 [.v (.one (.int .i64 a0)), .v (.one (.dfn 203 [([.tr false q0], 0)]))] K = zb92 N zq91 a0 (fun x0 k => zq88 x0 q0 k) (fun z2 z3 => K (.v (.agg [.int .i64 z2, .int .i64 z3]))) := by kernel_rfl
theorem e129_4 {β : Type} (N : Nat) (q0 : Tr) (a0 : Int) (K : TV → Option β) : evFn lay (E129 N) Tryz.f129 [.v (.one (.int .i64 a0)), .v (.one (.dfn 203 [([.tr false q0], 0)]))] K = zj92 N a0 (fun x0 k => zj88 N x0 q0 k) (fun z2 z3 => K (.v (.agg [.int .i64 z2, .int .i64 z3]))) := (ve129_4 N (zj65 N) (zj70 N) (zj81 N) (zj87 N) (zj88 N) (zj89 N) (zj91 N) q0 a0 K).trans (zt92 N a0 (fun x0 k => zj88 N x0 q0 k) (fun z2 z3 => K (.v (.agg [.int .i64 z2, .int .i64 z3])))).symm
theorem ve129_5 {β : Type} (N : Nat) (zq65 : (a0 : Int) → (c0 : ByteArray) → (k : Bool → Option β) → Option β) (zq70 : (a0 : Int) → (c0 : Int) → (c1 : Int) → (k : Bool → Option β) → Option β) (zq81 : (a0 : Int) → (c0 : List (Int × Int)) → (k : Bool → Option β) → Option β) (zq87 : (a0 : Int) → (c0 : Tr) → (k : Bool → Option β) → Option β) (zq88 : (a0 : Int) → (c0 : Tr) → (k : Bool → Option β) → Option β) (zq89 : (a0 : Int) → (c0 : Int) → (k : Bool → Option β) → Option β) (zq91 : (a1 : (Int → (Bool → Option β) → Option β)) → Nat → Int → Int → Int → Int → Int → Int → (Int → Int → Int → Int → Option β) → Option β) (q0 : Int) (a0 : Int) (K : TV → Option β) : evFn lay (VE129 N zq65 zq70 zq81 zq87 zq88 zq89 zq91) Tryz.f129 [.v (.one (.int .i64 a0)), .v (.one (.dfn 238 [([.int .i64 q0], 0)]))] K = zb92 N zq91 a0 (fun x0 k => zq89 x0 q0 k) (fun z2 z3 => K (.v (.agg [.int .i64 z2, .int .i64 z3]))) := by kernel_rfl
theorem e129_5 {β : Type} (N : Nat) (q0 : Int) (a0 : Int) (K : TV → Option β) : evFn lay (E129 N) Tryz.f129 [.v (.one (.int .i64 a0)), .v (.one (.dfn 238 [([.int .i64 q0], 0)]))] K = zj92 N a0 (fun x0 k => zj89 N x0 q0 k) (fun z2 z3 => K (.v (.agg [.int .i64 z2, .int .i64 z3]))) := (ve129_5 N (zj65 N) (zj70 N) (zj81 N) (zj87 N) (zj88 N) (zj89 N) (zj91 N) q0 a0 K).trans (zt92 N a0 (fun x0 k => zj89 N x0 q0 k) (fun z2 z3 => K (.v (.agg [.int .i64 z2, .int .i64 z3])))).symm
theorem o129 {β : Type} (N : Nat) : SpecOK (β := β) inv Tryz.prog 129 (S129 N) := by
  refine spec_of lay_ok mixed (E := E129 N) (specs_loops (specs_cons (o130 N) (specs_cons (o189 N) (specs_cons (o193 N) (specs_cons (o198 N) (specs_cons (o203 N) (specs_cons (o238 N) specs_nil))))))) muts_nil gs_nil Tryz.func129 (by kernel_rfl) 1 (by kernel_rfl) ⟨trivial, rk129_0 N⟩ fun args K r h => ?_
  unfold S129 VS129 at h
  split at h
  · exact (e129_0 N _ _ _).trans h
  · exact (e129_1 N _ _ _ _).trans h
  · exact (e129_2 N _ _ _).trans h
  · exact (e129_3 N _ _ _).trans h
  · exact (e129_4 N _ _ _).trans h
  · exact (e129_5 N _ _ _).trans h
  · cases h
def VS37 {β : Type} (N : Nat) (zq93 : (a0 : Int) → (a1 : Int) → (k : Bool → Option β) → Option β) : Rv.Spec β := fun args K => match args with
  | [.v (.agg [.int .i64 a0, .int .i64 a1])] => zq93 a0 a1 (fun z2 => K (.v (.one (.bool z2))))
  | _ => none
def S37 {β : Type} (N : Nat) : Rv.Spec β := VS37 N (zj93 N)
def VE37 {β : Type} (N : Nat) (zq71 : (a0 : Int) → (k : Bool → Option β) → Option β) (zq66 : (a0 : Int) → (a1 : Int) → (k : Int → Option β) → Option β) : Env β := ⟨[(99, VS99 N zq71), (100, VS100 N zq66)], [], [], [], ⟨[], [], [], []⟩⟩
def E37 {β : Type} (N : Nat) : Env β := VE37 N (zj71 N) (zj66 N)
def zb93 {β : Type} (N : Nat) (zq71 : (a0 : Int) → (k : Bool → Option β) → Option β) (zq66 : (a0 : Int) → (a1 : Int) → (k : Int → Option β) → Option β) (a0 : Int) (a1 : Int) (k : Bool → Option β) : Option β :=
zq71 a0 fun r3 =>
(cond r3
((cond ((decide (a1 ≥ 0)))
(zq66 a0 a1 fun r4 =>
(gd ((decide (0 ≤ r4)))
(k (((shrI .i64 a1 r4) == 0)))))
(k false)))
(k false))
theorem zt93 {β : Type} (N : Nat) (a0 : Int) (a1 : Int) (k : Bool → Option β) : zj93 N a0 a1 k = zb93 N (zj71 N) (zj66 N) a0 a1 k := by
  unfold zj93 zb93
  rfl
theorem ve37_0 {β : Type} (N : Nat) (zq71 : (a0 : Int) → (k : Bool → Option β) → Option β) (zq66 : (a0 : Int) → (a1 : Int) → (k : Int → Option β) → Option β)  (a0 : Int) (a1 : Int) (K : TV → Option β) : evFn lay (VE37 N zq71 zq66) Tryz.f37 [.v (.agg [.int .i64 a0, .int .i64 a1])] K = zb93 N zq71 zq66 a0 a1 (fun z2 => K (.v (.one (.bool z2)))) := by kernel_rfl
theorem e37_0 {β : Type} (N : Nat)  (a0 : Int) (a1 : Int) (K : TV → Option β) : evFn lay (E37 N) Tryz.f37 [.v (.agg [.int .i64 a0, .int .i64 a1])] K = zj93 N a0 a1 (fun z2 => K (.v (.one (.bool z2)))) := (ve37_0 N (zj71 N) (zj66 N) a0 a1 K).trans (zt93 N a0 a1 (fun z2 => K (.v (.one (.bool z2))))).symm
theorem o37 {β : Type} (N : Nat) : SpecOK (β := β) inv Tryz.prog 37 (S37 N) := by
  refine spec_of lay_ok mixed (E := E37 N) (specs_loops (specs_cons (o99 N) (specs_cons (o100 N) specs_nil))) muts_nil gs_nil Tryz.func37 (by kernel_rfl) 0 (by kernel_rfl) trivial fun args K r h => ?_
  unfold S37 VS37 at h
  split at h
  · exact (e37_0 N _ _ _).trans h
  · cases h
def VS40 {β : Type} (N : Nat) (zq96 : (a0 : Int) → (a1 : Int) → (k : ByteArray → Option β) → Option β) : Rv.Spec β := fun args K => match args with
  | [.v (.agg [.int .i64 a0, .int .i64 a1])] => zq96 a0 a1 (fun z2 => K (.v (.one (.str z2))))
  | _ => none
def S40 {β : Type} (N : Nat) : Rv.Spec β := VS40 N (zj96 N)
def h40_0_0  (v0 : Int) (v1 : Int) (v2 : Int) (v3 : Int) (v4 : List Int) : St := ⟨tund :: .v (.one (.ptr 0 0)) :: tund :: .v (.one (.row 1)) :: tund :: tund :: tund :: tund :: tund :: tund :: tund :: tund :: .v (.one (.int .i64 v0)) :: .v (.one (.int .i64 v1)) :: tund :: tund :: tund :: tund :: tund :: tund :: tund :: tund :: tund :: tund :: tund :: tund :: tund :: [], [.cells 25 [.int .i64 v2, .int .i64 v3], .row 5 (.ints .u8 v4)]⟩
def x40_0_0_k0  (y0 : List Int) : St := ⟨tund :: tund :: tund :: .v (.one (.row 0)) :: tund :: tund :: tund :: tund :: tund :: tund :: tund :: tund :: tund :: tund :: tund :: tund :: tund :: tund :: tund :: tund :: tund :: tund :: tund :: tund :: tund :: tund :: tund :: [], [.row 5 (.ints .u8 y0)]⟩
theorem fl40_0_0 (s : St) : refSt (h40_0_0 0 0 0 0 []) s = h40_0_0 (intS (oneA (vT (nx tund s.tmps 12)))) (intS (oneA (vT (nx tund s.tmps 13)))) (intS (nx .und (cellsB (nx .dead s.blks 0)) 0)) (intS (nx .und (cellsB (nx .dead s.blks 0)) 1)) (rInts (rowB_ (nx .dead s.blks 1))) := by kernel_rfl
def VLS40_0 {β : Type} (N : Nat) (zq95 : Nat → Int → Int → Int → Int → List Int → (List Int → Option β) → Option β) : LSpec β := fun s K => cond (shpSt (h40_0_0 0 0 0 0 []) s) ((fun (v0 : Int) (v1 : Int) (v2 : Int) (v3 : Int) (v4 : List Int) => zq95  N v0 v1 v2 v3 v4 (fun y0 => K (.exit 0) (x40_0_0_k0  y0))) (intS (oneA (vT (nx tund s.tmps 12)))) (intS (oneA (vT (nx tund s.tmps 13)))) (intS (nx .und (cellsB (nx .dead s.blks 0)) 0)) (intS (nx .und (cellsB (nx .dead s.blks 0)) 1)) (rInts (rowB_ (nx .dead s.blks 1)))) (none)
def LS40_0 {β : Type} (N : Nat) : LSpec β := VLS40_0 N (zj95 N)
def VE40 {β : Type} (N : Nat) (zq93 : (a0 : Int) → (a1 : Int) → (k : Bool → Option β) → Option β) (zq66 : (a0 : Int) → (a1 : Int) → (k : Int → Option β) → Option β) (zq67 : (a0 : Int) → (a1 : Int) → (a2 : Int) → (k : Int → Option β) → Option β) (zq95 : Nat → Int → Int → Int → Int → List Int → (List Int → Option β) → Option β) : Env β := ⟨[(37, VS37 N zq93), (100, VS100 N zq66), (103, VS103 N zq67)], [], [(0, VLS40_0 N zq95)], [], ⟨[], [], [], []⟩⟩
def E40 {β : Type} (N : Nat) : Env β := VE40 N (zj93 N) (zj66 N) (zj67 N) (zj95 N)
def zb94 {β : Type} (N : Nat) (zq67 : (a0 : Int) → (a1 : Int) → (a2 : Int) → (k : Int → Option β) → Option β)  (v0 : Int) (v1 : Int) (v2 : Int) (v3 : Int) (v4 : List Int) (rec_ : Int → Int → Int → Int → List Int → Option β) (k0 : List Int → Option β) : Option β :=
(cond ((decide (v1 < v0)))
(zq67 v2 v3 v1 fun r5 =>
(gd ((decide (0 ≤ v1)))
((gd ((decide (v1 < (v4.length : Int))))
(rec_ v0 ((w64 (v1 + 1))) v2 v3 ((wr v4 v1 (w8 (48 + (w8 (r5)))))))))))
(k0 v4))
theorem zt94 {β : Type} (N : Nat)  (v0 : Int) (v1 : Int) (v2 : Int) (v3 : Int) (v4 : List Int) (rec_ : Int → Int → Int → Int → List Int → Option β) (k0 : List Int → Option β) : zj94 N v0 v1 v2 v3 v4 rec_ k0 = zb94 N (zj67 N) v0 v1 v2 v3 v4 rec_ k0 := by
  unfold zj94 zb94
  rfl
theorem vst40_0_0 {β : Type} (N : Nat) (zq93 : (a0 : Int) → (a1 : Int) → (k : Bool → Option β) → Option β) (zq66 : (a0 : Int) → (a1 : Int) → (k : Int → Option β) → Option β) (zq67 : (a0 : Int) → (a1 : Int) → (a2 : Int) → (k : Int → Option β) → Option β) (zq95 : Nat → Int → Int → Int → Int → List Int → (List Int → Option β) → Option β)  (v0 : Int) (v1 : Int) (v2 : Int) (v3 : Int) (v4 : List Int) (rec_ : St → Option β) (K : Exit → St → Option β) :
    ev lay (VE40 N zq93 zq66 zq67 zq95) (retMask Tryz.f40) (lp Tryz.f40 0).body (lp Tryz.f40 0).ex ((lp Tryz.f40 0).lv (retMask Tryz.f40)) (h40_0_0  v0 v1 v2 v3 v4) (nextR (fun s' => rec_ (s'.tidy ((lp Tryz.f40 0).lv (retMask Tryz.f40)))) K) = zb94 N zq67  v0 v1 v2 v3 v4 (fun v0 v1 v2 v3 v4 => rec_ (h40_0_0  v0 v1 v2 v3 v4)) (fun y0 => K (.exit 0) (x40_0_0_k0  y0)) := by kernel_rfl
theorem st40_0_0 {β : Type} (N : Nat)  (v0 : Int) (v1 : Int) (v2 : Int) (v3 : Int) (v4 : List Int) (rec_ : St → Option β) (K : Exit → St → Option β) :
    ev lay (E40 N) (retMask Tryz.f40) (lp Tryz.f40 0).body (lp Tryz.f40 0).ex ((lp Tryz.f40 0).lv (retMask Tryz.f40)) (h40_0_0  v0 v1 v2 v3 v4) (nextR (fun s' => rec_ (s'.tidy ((lp Tryz.f40 0).lv (retMask Tryz.f40)))) K) = zj94 N  v0 v1 v2 v3 v4 (fun v0 v1 v2 v3 v4 => rec_ (h40_0_0  v0 v1 v2 v3 v4)) (fun y0 => K (.exit 0) (x40_0_0_k0  y0)) := (vst40_0_0 N (zj93 N) (zj66 N) (zj67 N) (zj95 N) v0 v1 v2 v3 v4 rec_ K).trans (zt94 N  v0 v1 v2 v3 v4 (fun v0 v1 v2 v3 v4 => rec_ (h40_0_0  v0 v1 v2 v3 v4)) (fun y0 => K (.exit 0) (x40_0_0_k0  y0))).symm
theorem ro40_0_0 {β : Type} (N : Nat)  (K : Exit → St → Option β) : ∀ (F : Nat) (v0 : Int) (v1 : Int) (v2 : Int) (v3 : Int) (v4 : List Int), (lp Tryz.f40 0).rounds lay (E40 N) (retMask Tryz.f40) F (h40_0_0  v0 v1 v2 v3 v4) K = zj95 N  F v0 v1 v2 v3 v4 (fun y0 => K (.exit 0) (x40_0_0_k0  y0)) := by
  intro F
  induction F with
  | zero => intros; rfl
  | succ F ih =>
    intros
    rw [rounds_next]
    refine (st40_0_0 N  _ _ _ _ _ (fun s => (lp Tryz.f40 0).rounds lay (E40 N) (retMask Tryz.f40) F s K) K).trans ?_
    simp only [ih]
    rfl
theorem lk40_0 {β : Type} (N : Nat) : lookL (E40 (β := β) N).loops (lp Tryz.f40 0).id = LS40_0 N := by kernel_rfl
theorem rk40_0 {β : Type} (N : Nat) : RoundsOK lay (E40 (β := β) N) (retMask Tryz.f40) (lp Tryz.f40 0) := by
  intro s K r h
  rw [lk40_0] at h
  unfold LS40_0 VLS40_0 at h
  cases hb : shpSt (h40_0_0 0 0 0 0 []) s with
  | true =>
    rw [hb, cond_true] at h
    exact ⟨N, by rw [← shpSt_ref hb, fl40_0_0 s]; exact (ro40_0_0 N  K N (intS (oneA (vT (nx tund s.tmps 12)))) (intS (oneA (vT (nx tund s.tmps 13)))) (intS (nx .und (cellsB (nx .dead s.blks 0)) 0)) (intS (nx .und (cellsB (nx .dead s.blks 0)) 1)) (rInts (rowB_ (nx .dead s.blks 1)))).trans h⟩
  | false =>
  rw [hb, cond_false] at h
  clear hb
  cases h
def zb96 {β : Type} (N : Nat) (zq93 : (a0 : Int) → (a1 : Int) → (k : Bool → Option β) → Option β) (zq66 : (a0 : Int) → (a1 : Int) → (k : Int → Option β) → Option β) (zq95 : Nat → Int → Int → Int → Int → List Int → (List Int → Option β) → Option β) (a0 : Int) (a1 : Int) (k : ByteArray → Option β) : Option β :=
zq93 a0 a1 fun r3 =>
(cond (!r3)
(k ByteArray.empty)
(zq66 a0 a1 fun r4 =>
(gd ((decide (0 ≤ r4)))
((gd ((decide (r4 ≤ r4)))
((gd ((decide (1 * r4 ≤ 281474976710656)))
(zq95  N ((((List.replicate (Int.toNat r4) (0 : Int))).length : Int)) 0 a0 a1 ((List.replicate (Int.toNat r4) (0 : Int))) (fun e6_0 =>
k ((strOf e6_0)))))))))))
theorem zt96 {β : Type} (N : Nat) (a0 : Int) (a1 : Int) (k : ByteArray → Option β) : zj96 N a0 a1 k = zb96 N (zj93 N) (zj66 N) (zj95 N) a0 a1 k := by
  unfold zj96 zb96
  rfl
theorem ve40_0 {β : Type} (N : Nat) (zq93 : (a0 : Int) → (a1 : Int) → (k : Bool → Option β) → Option β) (zq66 : (a0 : Int) → (a1 : Int) → (k : Int → Option β) → Option β) (zq67 : (a0 : Int) → (a1 : Int) → (a2 : Int) → (k : Int → Option β) → Option β) (zq95 : Nat → Int → Int → Int → Int → List Int → (List Int → Option β) → Option β)  (a0 : Int) (a1 : Int) (K : TV → Option β) : evFn lay (VE40 N zq93 zq66 zq67 zq95) Tryz.f40 [.v (.agg [.int .i64 a0, .int .i64 a1])] K = zb96 N zq93 zq66 zq95 a0 a1 (fun z2 => K (.v (.one (.str z2)))) := by kernel_rfl
theorem e40_0 {β : Type} (N : Nat)  (a0 : Int) (a1 : Int) (K : TV → Option β) : evFn lay (E40 N) Tryz.f40 [.v (.agg [.int .i64 a0, .int .i64 a1])] K = zj96 N a0 a1 (fun z2 => K (.v (.one (.str z2)))) := (ve40_0 N (zj93 N) (zj66 N) (zj67 N) (zj95 N) a0 a1 K).trans (zt96 N a0 a1 (fun z2 => K (.v (.one (.str z2))))).symm
theorem o40 {β : Type} (N : Nat) : SpecOK (β := β) inv Tryz.prog 40 (S40 N) := by
  refine spec_of lay_ok mixed (E := E40 N) (specs_loops (specs_cons (o37 N) (specs_cons (o100 N) (specs_cons (o103 N) specs_nil)))) muts_nil gs_nil Tryz.func40 (by kernel_rfl) 1 (by kernel_rfl) ⟨trivial, rk40_0 N⟩ fun args K r h => ?_
  unfold S40 VS40 at h
  split at h
  · exact (e40_0 N _ _ _).trans h
  · cases h
end Go.Proofs.YtemihnclhcobnaaGreatDoor
