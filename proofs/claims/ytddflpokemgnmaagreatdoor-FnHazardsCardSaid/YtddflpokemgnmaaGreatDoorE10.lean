/- The functions that the claims reach answer as their texts do. -/
import Derived.Test.YtddflpokemgnmaaGreatDoorE9
namespace Go.Proofs.YtddflpokemgnmaaGreatDoor
open Go.Rv
set_option maxRecDepth 100000
set_option maxHeartbeats 2000000
set_option linter.unusedVariables false
variable {β : Type}
def VS3 (N : Nat) (zq167 : (a0 : List Int) → (k : Bool → O β) → O β) : Rv.Spec β := fun args K => match args with
  | [.v (.one (.sl 5 (.ints .u8 a0)))] => zq167 a0 (fun z1 => K (.v (.one (.bool z1))))
  | _ => none
def S3 (N : Nat) : Rv.Spec β := VS3 N (zj167 N)
def h3_0_0  (v0 : List Int) (v1 : Int) (v2 : Int) (v3 : List (Int × Int)) (v4 : List (List Int)) : St := ⟨.v (.one (.sl 5 (.ints .u8 v0))) :: tund :: tund :: .v (.one (.int .i64 v1)) :: .v (.one (.row 0)) :: tund :: tund :: tund :: tund :: tund :: tund :: .v (.one (.row 1)) :: tund :: tund :: tund :: tund :: tund :: tund :: tund :: .v (.one (.int .i64 v2)) :: tund :: tund :: tund :: tund :: tund :: tund :: tund :: tund :: tund :: tund :: tund :: tund :: tund :: tund :: tund :: tund :: tund :: tund :: tund :: tund :: tund :: tund :: tund :: tund :: tund :: tund :: tund :: tund :: tund :: tund :: tund :: tund :: tund :: tund :: tund :: tund :: tund :: tund :: tund :: tund :: tund :: tund :: tund :: tund :: tund :: tund :: tund :: tund :: tund :: tund :: tund :: tund :: tund :: tund :: tund :: tund :: tund :: tund :: tund :: tund :: tund :: tund :: tund :: tund :: tund :: tund :: tund :: tund :: tund :: tund :: tund :: tund :: tund :: tund :: tund :: tund :: tund :: tund :: tund :: tund :: tund :: tund :: tund :: tund :: tund :: tund :: tund :: tund :: tund :: tund :: tund :: tund :: tund :: tund :: tund :: tund :: tund :: tund :: tund :: tund :: tund :: tund :: tund :: tund :: tund :: tund :: tund :: tund :: tund :: tund :: tund :: tund :: tund :: tund :: tund :: tund :: tund :: tund :: tund :: tund :: tund :: tund :: tund :: tund :: tund :: tund :: tund :: tund :: tund :: tund :: tund :: tund :: tund :: tund :: tund :: tund :: tund :: tund :: tund :: tund :: tund :: tund :: tund :: tund :: tund :: tund :: tund :: tund :: tund :: tund :: tund :: tund :: tund :: tund :: tund :: tund :: tund :: tund :: tund :: tund :: tund :: tund :: tund :: tund :: tund :: tund :: tund :: tund :: tund :: tund :: tund :: tund :: tund :: tund :: tund :: tund :: tund :: tund :: tund :: tund :: tund :: tund :: tund :: tund :: tund :: tund :: tund :: tund :: tund :: tund :: tund :: tund :: tund :: tund :: tund :: tund :: tund :: tund :: tund :: tund :: tund :: tund :: tund :: tund :: tund :: tund :: tund :: tund :: tund :: tund :: tund :: tund :: tund :: tund :: tund :: tund :: tund :: tund :: tund :: tund :: tund :: tund :: tund :: tund :: tund :: tund :: tund :: tund :: tund :: tund :: tund :: tund :: tund :: tund :: tund :: tund :: tund :: tund :: tund :: tund :: tund :: [], [.row 50 (.pairs v3), .row 40 (.lists 3 v4)]⟩
def x3_0_0_k0  (y0 : Bool) : St := ⟨tund :: tund :: .v (.one (.bool y0)) :: tund :: tund :: tund :: tund :: tund :: tund :: tund :: tund :: tund :: tund :: tund :: tund :: tund :: tund :: tund :: tund :: tund :: tund :: tund :: tund :: tund :: tund :: tund :: tund :: tund :: tund :: tund :: tund :: tund :: tund :: tund :: tund :: tund :: tund :: tund :: tund :: tund :: tund :: tund :: tund :: tund :: tund :: tund :: tund :: tund :: tund :: tund :: tund :: tund :: tund :: tund :: tund :: tund :: tund :: tund :: tund :: tund :: tund :: tund :: tund :: tund :: tund :: tund :: tund :: tund :: tund :: tund :: tund :: tund :: tund :: tund :: tund :: tund :: tund :: tund :: tund :: tund :: tund :: tund :: tund :: tund :: tund :: tund :: tund :: tund :: tund :: tund :: tund :: tund :: tund :: tund :: tund :: tund :: tund :: tund :: tund :: tund :: tund :: tund :: tund :: tund :: tund :: tund :: tund :: tund :: tund :: tund :: tund :: tund :: tund :: tund :: tund :: tund :: tund :: tund :: tund :: tund :: tund :: tund :: tund :: tund :: tund :: tund :: tund :: tund :: tund :: tund :: tund :: tund :: tund :: tund :: tund :: tund :: tund :: tund :: tund :: tund :: tund :: tund :: tund :: tund :: tund :: tund :: tund :: tund :: tund :: tund :: tund :: tund :: tund :: tund :: tund :: tund :: tund :: tund :: tund :: tund :: tund :: tund :: tund :: tund :: tund :: tund :: tund :: tund :: tund :: tund :: tund :: tund :: tund :: tund :: tund :: tund :: tund :: tund :: tund :: tund :: tund :: tund :: tund :: tund :: tund :: tund :: tund :: tund :: tund :: tund :: tund :: tund :: tund :: tund :: tund :: tund :: tund :: tund :: tund :: tund :: tund :: tund :: tund :: tund :: tund :: tund :: tund :: tund :: tund :: tund :: tund :: tund :: tund :: tund :: tund :: tund :: tund :: tund :: tund :: tund :: tund :: tund :: tund :: tund :: tund :: tund :: tund :: tund :: tund :: tund :: tund :: tund :: tund :: tund :: tund :: tund :: tund :: tund :: tund :: tund :: tund :: tund :: tund :: tund :: tund :: tund :: tund :: tund :: tund :: tund :: tund :: tund :: tund :: tund :: tund :: tund :: tund :: tund :: tund :: tund :: tund :: [], []⟩
def x3_0_0_k1  (y0 : List Int) (y1 : Int) (y2 : List (Int × Int)) : St := ⟨.v (.one (.sl 5 (.ints .u8 y0))) :: tund :: tund :: .v (.one (.int .i64 y1)) :: .v (.one (.row 0)) :: tund :: tund :: tund :: tund :: tund :: tund :: tund :: tund :: tund :: tund :: tund :: tund :: tund :: tund :: tund :: tund :: tund :: tund :: tund :: tund :: tund :: tund :: tund :: tund :: tund :: tund :: tund :: tund :: tund :: tund :: tund :: tund :: tund :: tund :: tund :: tund :: tund :: tund :: tund :: tund :: tund :: tund :: tund :: tund :: tund :: tund :: tund :: tund :: tund :: tund :: tund :: tund :: tund :: tund :: tund :: tund :: tund :: tund :: tund :: tund :: tund :: tund :: tund :: tund :: tund :: tund :: tund :: tund :: tund :: tund :: tund :: tund :: tund :: tund :: tund :: tund :: tund :: tund :: tund :: tund :: tund :: tund :: tund :: tund :: tund :: tund :: tund :: tund :: tund :: tund :: tund :: tund :: tund :: tund :: tund :: tund :: tund :: tund :: tund :: tund :: tund :: tund :: tund :: tund :: tund :: tund :: tund :: tund :: tund :: tund :: tund :: tund :: tund :: tund :: tund :: tund :: tund :: tund :: tund :: tund :: tund :: tund :: tund :: tund :: tund :: tund :: tund :: tund :: tund :: tund :: tund :: tund :: tund :: tund :: tund :: tund :: tund :: tund :: tund :: tund :: tund :: tund :: tund :: tund :: tund :: tund :: tund :: tund :: tund :: tund :: tund :: tund :: tund :: tund :: tund :: tund :: tund :: tund :: tund :: tund :: tund :: tund :: tund :: tund :: tund :: tund :: tund :: tund :: tund :: tund :: tund :: tund :: tund :: tund :: tund :: tund :: tund :: tund :: tund :: tund :: tund :: tund :: tund :: tund :: tund :: tund :: tund :: tund :: tund :: tund :: tund :: tund :: tund :: tund :: tund :: tund :: tund :: tund :: tund :: tund :: tund :: tund :: tund :: tund :: tund :: tund :: tund :: tund :: tund :: tund :: tund :: tund :: tund :: tund :: tund :: tund :: tund :: tund :: tund :: tund :: tund :: tund :: tund :: tund :: tund :: tund :: tund :: tund :: tund :: tund :: tund :: tund :: tund :: tund :: tund :: tund :: tund :: tund :: tund :: tund :: tund :: tund :: tund :: tund :: tund :: tund :: tund :: tund :: tund :: tund :: tund :: tund :: tund :: tund :: tund :: tund :: [], [.row 50 (.pairs y2)]⟩
def h3_1_0  (v0 : List Int) (v1 : Int) (v2 : Int) (v3 : Int) (v4 : List (Int × Int)) (v5 : List (List Int)) : St := ⟨.v (.one (.sl 5 (.ints .u8 v0))) :: tund :: tund :: .v (.one (.int .i64 v1)) :: .v (.one (.row 0)) :: tund :: tund :: tund :: tund :: tund :: tund :: .v (.one (.row 1)) :: tund :: tund :: tund :: tund :: tund :: tund :: tund :: .v (.one (.int .i64 v2)) :: .v (.one (.int .i64 v3)) :: tund :: tund :: tund :: tund :: tund :: tund :: tund :: tund :: tund :: tund :: tund :: tund :: tund :: tund :: tund :: tund :: tund :: tund :: tund :: tund :: tund :: tund :: tund :: tund :: tund :: tund :: tund :: tund :: tund :: tund :: tund :: tund :: tund :: tund :: tund :: tund :: tund :: tund :: tund :: tund :: tund :: tund :: tund :: tund :: tund :: tund :: tund :: tund :: tund :: tund :: tund :: tund :: tund :: tund :: tund :: tund :: tund :: tund :: tund :: tund :: tund :: tund :: tund :: tund :: tund :: tund :: tund :: tund :: tund :: tund :: tund :: tund :: tund :: tund :: tund :: tund :: tund :: tund :: tund :: tund :: tund :: tund :: tund :: tund :: tund :: tund :: tund :: tund :: tund :: tund :: tund :: tund :: tund :: tund :: tund :: tund :: tund :: tund :: tund :: tund :: tund :: tund :: tund :: tund :: tund :: tund :: tund :: tund :: tund :: tund :: tund :: tund :: tund :: tund :: tund :: tund :: tund :: tund :: tund :: tund :: tund :: tund :: tund :: tund :: tund :: tund :: tund :: tund :: tund :: tund :: tund :: tund :: tund :: tund :: tund :: tund :: tund :: tund :: tund :: tund :: tund :: tund :: tund :: tund :: tund :: tund :: tund :: tund :: tund :: tund :: tund :: tund :: tund :: tund :: tund :: tund :: tund :: tund :: tund :: tund :: tund :: tund :: tund :: tund :: tund :: tund :: tund :: tund :: tund :: tund :: tund :: tund :: tund :: tund :: tund :: tund :: tund :: tund :: tund :: tund :: tund :: tund :: tund :: tund :: tund :: tund :: tund :: tund :: tund :: tund :: tund :: tund :: tund :: tund :: tund :: tund :: tund :: tund :: tund :: tund :: tund :: tund :: tund :: tund :: tund :: tund :: tund :: tund :: tund :: tund :: tund :: tund :: tund :: tund :: tund :: tund :: tund :: tund :: tund :: tund :: tund :: tund :: tund :: tund :: tund :: tund :: tund :: tund :: tund :: tund :: tund :: tund :: tund :: tund :: tund :: tund :: tund :: tund :: tund :: tund :: [], [.row 50 (.pairs v4), .row 40 (.lists 3 v5)]⟩
def x3_1_0_k0  (y0 : List Int) (y1 : Int) (y2 : Int) (y3 : Int) (y4 : List (Int × Int)) (y5 : List (List Int)) : St := ⟨.v (.one (.sl 5 (.ints .u8 y0))) :: tund :: tund :: .v (.one (.int .i64 y1)) :: .v (.one (.row 0)) :: tund :: tund :: tund :: tund :: tund :: tund :: .v (.one (.row 1)) :: tund :: tund :: tund :: tund :: tund :: tund :: tund :: .v (.one (.int .i64 y2)) :: .v (.one (.int .i64 y3)) :: tund :: tund :: tund :: tund :: tund :: tund :: tund :: tund :: tund :: tund :: tund :: tund :: tund :: tund :: tund :: tund :: tund :: tund :: tund :: tund :: tund :: tund :: tund :: tund :: tund :: tund :: tund :: tund :: tund :: tund :: tund :: tund :: tund :: tund :: tund :: tund :: tund :: tund :: tund :: tund :: tund :: tund :: tund :: tund :: tund :: tund :: tund :: tund :: tund :: tund :: tund :: tund :: tund :: tund :: tund :: tund :: tund :: tund :: tund :: tund :: tund :: tund :: tund :: tund :: tund :: tund :: tund :: tund :: tund :: tund :: tund :: tund :: tund :: tund :: tund :: tund :: tund :: tund :: tund :: tund :: tund :: tund :: tund :: tund :: tund :: tund :: tund :: tund :: tund :: tund :: tund :: tund :: tund :: tund :: tund :: tund :: tund :: tund :: tund :: tund :: tund :: tund :: tund :: tund :: tund :: tund :: tund :: tund :: tund :: tund :: tund :: tund :: tund :: tund :: tund :: tund :: tund :: tund :: tund :: tund :: tund :: tund :: tund :: tund :: tund :: tund :: tund :: tund :: tund :: tund :: tund :: tund :: tund :: tund :: tund :: tund :: tund :: tund :: tund :: tund :: tund :: tund :: tund :: tund :: tund :: tund :: tund :: tund :: tund :: tund :: tund :: tund :: tund :: tund :: tund :: tund :: tund :: tund :: tund :: tund :: tund :: tund :: tund :: tund :: tund :: tund :: tund :: tund :: tund :: tund :: tund :: tund :: tund :: tund :: tund :: tund :: tund :: tund :: tund :: tund :: tund :: tund :: tund :: tund :: tund :: tund :: tund :: tund :: tund :: tund :: tund :: tund :: tund :: tund :: tund :: tund :: tund :: tund :: tund :: tund :: tund :: tund :: tund :: tund :: tund :: tund :: tund :: tund :: tund :: tund :: tund :: tund :: tund :: tund :: tund :: tund :: tund :: tund :: tund :: tund :: tund :: tund :: tund :: tund :: tund :: tund :: tund :: tund :: tund :: tund :: tund :: tund :: tund :: tund :: tund :: tund :: tund :: tund :: tund :: tund :: [], [.row 50 (.pairs y4), .row 40 (.lists 3 y5)]⟩
theorem fl3_0_0 (s : St) : refSt (h3_0_0 [] 0 0 [] []) s = h3_0_0 (rInts (rowV (oneA (vT (nx tund s.tmps 0))))) (intS (oneA (vT (nx tund s.tmps 3)))) (intS (oneA (vT (nx tund s.tmps 19)))) (rPairs (rowB_ (nx .dead s.blks 0))) (rLists (rowB_ (nx .dead s.blks 1))) := by kernel_rfl
def VLS3_0 (N : Nat) (zq166 : Nat → List Int → Int → Int → List (Int × Int) → List (List Int) → (Bool → O β) → (List Int → Int → List (Int × Int) → O β) → O β) : LSpec β := fun s K => cond (shpSt (h3_0_0 [] 0 0 [] []) s) ((fun (v0 : List Int) (v1 : Int) (v2 : Int) (v3 : List (Int × Int)) (v4 : List (List Int)) => zq166  N v0 v1 v2 v3 v4 (fun y0 => K .ret (x3_0_0_k0  y0)) (fun y0 y1 y2 => K (.exit 0) (x3_0_0_k1  y0 y1 y2))) (rInts (rowV (oneA (vT (nx tund s.tmps 0))))) (intS (oneA (vT (nx tund s.tmps 3)))) (intS (oneA (vT (nx tund s.tmps 19)))) (rPairs (rowB_ (nx .dead s.blks 0))) (rLists (rowB_ (nx .dead s.blks 1)))) (none)
def LS3_0 (N : Nat) : LSpec β := VLS3_0 N (zj166 N)
theorem fl3_1_0 (s : St) : refSt (h3_1_0 [] 0 0 0 [] []) s = h3_1_0 (rInts (rowV (oneA (vT (nx tund s.tmps 0))))) (intS (oneA (vT (nx tund s.tmps 3)))) (intS (oneA (vT (nx tund s.tmps 19)))) (intS (oneA (vT (nx tund s.tmps 20)))) (rPairs (rowB_ (nx .dead s.blks 0))) (rLists (rowB_ (nx .dead s.blks 1))) := by kernel_rfl
def VLS3_2 (N : Nat) (zq164 : Nat → List Int → Int → Int → Int → List (Int × Int) → List (List Int) → (List Int → Int → Int → Int → List (Int × Int) → List (List Int) → O β) → O β) : LSpec β := fun s K => cond (shpSt (h3_1_0 [] 0 0 0 [] []) s) ((fun (v0 : List Int) (v1 : Int) (v2 : Int) (v3 : Int) (v4 : List (Int × Int)) (v5 : List (List Int)) => zq164  N v0 v1 v2 v3 v4 v5 (fun y0 y1 y2 y3 y4 y5 => K (.exit 2) (x3_1_0_k0  y0 y1 y2 y3 y4 y5))) (rInts (rowV (oneA (vT (nx tund s.tmps 0))))) (intS (oneA (vT (nx tund s.tmps 3)))) (intS (oneA (vT (nx tund s.tmps 19)))) (intS (oneA (vT (nx tund s.tmps 20)))) (rPairs (rowB_ (nx .dead s.blks 0))) (rLists (rowB_ (nx .dead s.blks 1)))) (none)
def LS3_2 (N : Nat) : LSpec β := VLS3_2 N (zj164 N)
def VE3 (N : Nat) (zq0 : (a0 : List Int) → (k : Bool → O β) → O β) (zq52 : (a0 : List Int) → (k : Int → List (Int × Int) → O β) → O β) (zq75 : (a0 : Int) → (a1 : List (Int × Int)) → (k : List (Int × Int) → Bool → O β) → O β) (zq90 : (a0 : Int) → (a1 : List (Int × Int)) → (k : List (Int × Int) → Bool → O β) → O β) (zq91 : (a0 : Int) → (a1 : List (Int × Int)) → (k : List (List Int) → Bool → O β) → O β) (zq87 : (a0 : Int) → (a1 : List (Int × Int)) → (k : List (List Int) → Bool → O β) → O β) (zq94 : (a0 : List (Int × Int)) → (a1 : List (Int × Int)) → (k : Bool → O β) → O β) (zq100 : (a0 : List (List Int)) → (a1 : List (List Int)) → (k : Bool → O β) → O β) (zq101 : (a0 : Int) → (a1 : List (Int × Int)) → (k : Bool → O β) → O β) (zq107 : (a0 : Int) → (a1 : List (Int × Int)) → (k : Int → Int → Bool → O β) → O β) (zq123 : (a0 : Int) → (a1 : Int) → (k : List (Int × Int) → Bool → O β) → O β) (zq124 : (a0 : Int) → (a1 : List (Int × Int)) → (a2 : Int) → (a3 : Int) → (k : Bool → O β) → O β) (zq132 : (a0 : Int) → (a1 : List (Int × Int)) → (k : ByteArray → O β) → O β) (zq139 : (a0 : Int) → (a1 : ByteArray) → (k : List (Int × Int) → Bool → O β) → O β) (zq140 : (a0 : List Int) → (k : Int → List (Int × Int) → O β) → O β) (zq152 : (a0 : List Int) → (k : Int → ByteArray → O β) → O β) (zq158 : (a0 : Int) → (a1 : ByteArray) → (k : List (Int × Int) → Bool → O β) → O β) (zq161 : (a0 : List Int) → (k : Int → List (Int × Int) → Int → Int → O β) → O β) (zq146 : (a0 : Int) → (a1 : List (Int × Int)) → (k : ByteArray → O β) → O β) (zq162 : (a0 : Int) → (a1 : List (Int × Int)) → (a2 : Int) → (a3 : Int) → (k : Bool → O β) → O β) (zq166 : Nat → List Int → Int → Int → List (Int × Int) → List (List Int) → (Bool → O β) → (List Int → Int → List (Int × Int) → O β) → O β) (zq164 : Nat → List Int → Int → Int → Int → List (Int × Int) → List (List Int) → (List Int → Int → Int → Int → List (Int × Int) → List (List Int) → O β) → O β) : Env β := ⟨[(4, VS4 N zq0), (5, VS5 N zq52), (6, VS6 N zq75), (7, VS7 N zq90), (8, VS8 N zq91), (9, VS9 N zq87), (10, VS10 N zq94), (11, VS11 N zq100), (12, VS12 N zq101), (13, VS13 N zq107), (14, VS14 N zq123), (15, VS15 N zq124), (16, VS16 N zq132), (17, VS17 N zq139), (18, VS18 N zq140), (19, VS19 N zq152), (20, VS20 N zq158), (21, VS21 N zq161), (22, VS22 N zq146), (23, VS23 N zq162)], [], [(0, VLS3_0 N zq166), (2, VLS3_2 N zq164)], [], ⟨[], [], [], []⟩⟩
def E3 (N : Nat) : Env β := VE3 N (zj0 N) (zj52 N) (zj75 N) (zj90 N) (zj91 N) (zj87 N) (zj94 N) (zj100 N) (zj101 N) (zj107 N) (zj123 N) (zj124 N) (zj132 N) (zj139 N) (zj140 N) (zj152 N) (zj158 N) (zj161 N) (zj146 N) (zj162 N) (zj166 N) (zj164 N)
def zb165 (N : Nat) (zq164 : Nat → List Int → Int → Int → Int → List (Int × Int) → List (List Int) → (List Int → Int → Int → Int → List (Int × Int) → List (List Int) → O β) → O β) (zq124 : (a0 : Int) → (a1 : List (Int × Int)) → (a2 : Int) → (a3 : Int) → (k : Bool → O β) → O β)  (v0 : List Int) (v1 : Int) (v2 : Int) (v3 : List (Int × Int)) (v4 : List (List Int)) (rec_ : List Int → Int → Int → List (Int × Int) → List (List Int) → O β) (k0 : Bool → O β) (k1 : List Int → Int → List (Int × Int) → O β) : O β :=
(cond ((decide (v2 < (v4.length : Int))))
(zq164  N v0 v1 v2 0 v3 v4 (fun e26_0 e26_1 e26_2 e26_3 e26_4 e26_5 =>
(gd ((decide (0 ≤ e26_2)))
((gd ((decide (e26_2 < (e26_5.length : Int))))
((gd ((decide (0 < (((rd [] e26_5 e26_2)).length : Int))))
(zq124 e26_1 e26_4 ((rd 0 ((rd [] e26_5 e26_2)) 0)) e26_3 fun r27 =>
(cond (!r27)
(k0 false)
((gd ((decide (0 ≤ e26_2)))
((gd ((decide (e26_2 < (e26_5.length : Int))))
((gd ((decide (1 < (((rd [] e26_5 e26_2)).length : Int))))
(zq124 e26_1 e26_4 ((rd 0 ((rd [] e26_5 e26_2)) 1)) e26_3 fun r28 =>
(cond (!r28)
(k0 false)
(rec_ e26_0 e26_1 ((w64 (e26_2 + 1))) e26_4 e26_5))))))))))))))))))
(k1 v0 v1 v3))
theorem zt165 (N : Nat)  (v0 : List Int) (v1 : Int) (v2 : Int) (v3 : List (Int × Int)) (v4 : List (List Int)) (rec_ : List Int → Int → Int → List (Int × Int) → List (List Int) → O β) (k0 : Bool → O β) (k1 : List Int → Int → List (Int × Int) → O β) : zj165 N v0 v1 v2 v3 v4 rec_ k0 k1 = zb165 N (zj164 N) (zj124 N) v0 v1 v2 v3 v4 rec_ k0 k1 := by
  unfold zj165 zb165
  rfl
theorem vst3_0_0 (N : Nat) (zq0 : (a0 : List Int) → (k : Bool → O β) → O β) (zq52 : (a0 : List Int) → (k : Int → List (Int × Int) → O β) → O β) (zq75 : (a0 : Int) → (a1 : List (Int × Int)) → (k : List (Int × Int) → Bool → O β) → O β) (zq90 : (a0 : Int) → (a1 : List (Int × Int)) → (k : List (Int × Int) → Bool → O β) → O β) (zq91 : (a0 : Int) → (a1 : List (Int × Int)) → (k : List (List Int) → Bool → O β) → O β) (zq87 : (a0 : Int) → (a1 : List (Int × Int)) → (k : List (List Int) → Bool → O β) → O β) (zq94 : (a0 : List (Int × Int)) → (a1 : List (Int × Int)) → (k : Bool → O β) → O β) (zq100 : (a0 : List (List Int)) → (a1 : List (List Int)) → (k : Bool → O β) → O β) (zq101 : (a0 : Int) → (a1 : List (Int × Int)) → (k : Bool → O β) → O β) (zq107 : (a0 : Int) → (a1 : List (Int × Int)) → (k : Int → Int → Bool → O β) → O β) (zq123 : (a0 : Int) → (a1 : Int) → (k : List (Int × Int) → Bool → O β) → O β) (zq124 : (a0 : Int) → (a1 : List (Int × Int)) → (a2 : Int) → (a3 : Int) → (k : Bool → O β) → O β) (zq132 : (a0 : Int) → (a1 : List (Int × Int)) → (k : ByteArray → O β) → O β) (zq139 : (a0 : Int) → (a1 : ByteArray) → (k : List (Int × Int) → Bool → O β) → O β) (zq140 : (a0 : List Int) → (k : Int → List (Int × Int) → O β) → O β) (zq152 : (a0 : List Int) → (k : Int → ByteArray → O β) → O β) (zq158 : (a0 : Int) → (a1 : ByteArray) → (k : List (Int × Int) → Bool → O β) → O β) (zq161 : (a0 : List Int) → (k : Int → List (Int × Int) → Int → Int → O β) → O β) (zq146 : (a0 : Int) → (a1 : List (Int × Int)) → (k : ByteArray → O β) → O β) (zq162 : (a0 : Int) → (a1 : List (Int × Int)) → (a2 : Int) → (a3 : Int) → (k : Bool → O β) → O β) (zq166 : Nat → List Int → Int → Int → List (Int × Int) → List (List Int) → (Bool → O β) → (List Int → Int → List (Int × Int) → O β) → O β) (zq164 : Nat → List Int → Int → Int → Int → List (Int × Int) → List (List Int) → (List Int → Int → Int → Int → List (Int × Int) → List (List Int) → O β) → O β)  (v0 : List Int) (v1 : Int) (v2 : Int) (v3 : List (Int × Int)) (v4 : List (List Int)) (rec_ : St → O β) (K : Exit → St → O β) :
    ev lay (VE3 N zq0 zq52 zq75 zq90 zq91 zq87 zq94 zq100 zq101 zq107 zq123 zq124 zq132 zq139 zq140 zq152 zq158 zq161 zq146 zq162 zq166 zq164) (retMask Tryz.f3) (lp Tryz.f3 0).body (lp Tryz.f3 0).ex ((lp Tryz.f3 0).lv (retMask Tryz.f3)) (h3_0_0  v0 v1 v2 v3 v4) (nextR (fun s' => rec_ (s'.tidy ((lp Tryz.f3 0).lv (retMask Tryz.f3)))) K) = zb165 N zq164 zq124  v0 v1 v2 v3 v4 (fun v0 v1 v2 v3 v4 => rec_ (h3_0_0  v0 v1 v2 v3 v4)) (fun y0 => K .ret (x3_0_0_k0  y0)) (fun y0 y1 y2 => K (.exit 0) (x3_0_0_k1  y0 y1 y2)) := by kernel_rfl
theorem st3_0_0 (N : Nat)  (v0 : List Int) (v1 : Int) (v2 : Int) (v3 : List (Int × Int)) (v4 : List (List Int)) (rec_ : St → O β) (K : Exit → St → O β) :
    ev lay (E3 N) (retMask Tryz.f3) (lp Tryz.f3 0).body (lp Tryz.f3 0).ex ((lp Tryz.f3 0).lv (retMask Tryz.f3)) (h3_0_0  v0 v1 v2 v3 v4) (nextR (fun s' => rec_ (s'.tidy ((lp Tryz.f3 0).lv (retMask Tryz.f3)))) K) = zj165 N  v0 v1 v2 v3 v4 (fun v0 v1 v2 v3 v4 => rec_ (h3_0_0  v0 v1 v2 v3 v4)) (fun y0 => K .ret (x3_0_0_k0  y0)) (fun y0 y1 y2 => K (.exit 0) (x3_0_0_k1  y0 y1 y2)) := (vst3_0_0 N (zj0 N) (zj52 N) (zj75 N) (zj90 N) (zj91 N) (zj87 N) (zj94 N) (zj100 N) (zj101 N) (zj107 N) (zj123 N) (zj124 N) (zj132 N) (zj139 N) (zj140 N) (zj152 N) (zj158 N) (zj161 N) (zj146 N) (zj162 N) (zj166 N) (zj164 N) v0 v1 v2 v3 v4 rec_ K).trans (zt165 N  v0 v1 v2 v3 v4 (fun v0 v1 v2 v3 v4 => rec_ (h3_0_0  v0 v1 v2 v3 v4)) (fun y0 => K .ret (x3_0_0_k0  y0)) (fun y0 y1 y2 => K (.exit 0) (x3_0_0_k1  y0 y1 y2))).symm
theorem ro3_0_0 (N : Nat)  (K : Exit → St → O β) : ∀ (F : Nat) (v0 : List Int) (v1 : Int) (v2 : Int) (v3 : List (Int × Int)) (v4 : List (List Int)), (lp Tryz.f3 0).rounds lay (E3 N) (retMask Tryz.f3) F (h3_0_0  v0 v1 v2 v3 v4) K = zj166 N  F v0 v1 v2 v3 v4 (fun y0 => K .ret (x3_0_0_k0  y0)) (fun y0 y1 y2 => K (.exit 0) (x3_0_0_k1  y0 y1 y2)) := by
  intro F
  induction F with
  | zero => intros; rfl
  | succ F ih =>
    intros
    rw [rounds_next]
    refine (st3_0_0 N  _ _ _ _ _ (fun s => (lp Tryz.f3 0).rounds lay (E3 N) (retMask Tryz.f3) F s K) K).trans ?_
    simp only [ih]
    rfl
theorem lk3_0 (N : Nat) : lookL (E3 (β := β) N).loops (lp Tryz.f3 0).id = LS3_0 N := by kernel_rfl
theorem rk3_0 (N : Nat) : RoundsOK lay (E3 (β := β) N) (retMask Tryz.f3) (lp Tryz.f3 0) := by
  intro s K r h
  rw [lk3_0] at h
  unfold LS3_0 VLS3_0 at h
  cases hb : shpSt (h3_0_0 [] 0 0 [] []) s with
  | true =>
    rw [hb, cond_true] at h
    exact ⟨N, by rw [← shpSt_ref hb, fl3_0_0 s]; exact (ro3_0_0 N  K N (rInts (rowV (oneA (vT (nx tund s.tmps 0))))) (intS (oneA (vT (nx tund s.tmps 3)))) (intS (oneA (vT (nx tund s.tmps 19)))) (rPairs (rowB_ (nx .dead s.blks 0))) (rLists (rowB_ (nx .dead s.blks 1)))).trans h⟩
  | false =>
  rw [hb, cond_false] at h
  clear hb
  cases h
def zb163 (N : Nat)  (v0 : List Int) (v1 : Int) (v2 : Int) (v3 : Int) (v4 : List (Int × Int)) (v5 : List (List Int)) (rec_ : List Int → Int → Int → Int → List (Int × Int) → List (List Int) → O β) (k0 : List Int → Int → Int → Int → List (Int × Int) → List (List Int) → O β) : O β :=
(gd ((decide (0 ≤ v2)))
((gd ((decide (v2 < (v5.length : Int))))
((gd ((decide (0 < (((rd [] v5 v2)).length : Int))))
((gd ((decide (0 ≤ v2)))
((gd ((decide (v2 < (v5.length : Int))))
((gd ((decide (1 < (((rd [] v5 v2)).length : Int))))
((gd ((decide (0 ≤ v3)))
((cond (((bits .xor .i64 (rd 0 ((rd [] v5 v2)) 0) (rd 0 ((rd [] v5 v2)) 1)) != (shlI .i64 1 v3)))
(rec_ v0 v1 v2 ((w64 (v3 + 1))) v4 v5)
(k0 v0 v1 v2 v3 v4 v5))))))))))))))))
theorem zt163 (N : Nat)  (v0 : List Int) (v1 : Int) (v2 : Int) (v3 : Int) (v4 : List (Int × Int)) (v5 : List (List Int)) (rec_ : List Int → Int → Int → Int → List (Int × Int) → List (List Int) → O β) (k0 : List Int → Int → Int → Int → List (Int × Int) → List (List Int) → O β) : zj163 N v0 v1 v2 v3 v4 v5 rec_ k0 = zb163 N v0 v1 v2 v3 v4 v5 rec_ k0 := by
  unfold zj163 zb163
  rfl
theorem vst3_1_0 (N : Nat) (zq0 : (a0 : List Int) → (k : Bool → O β) → O β) (zq52 : (a0 : List Int) → (k : Int → List (Int × Int) → O β) → O β) (zq75 : (a0 : Int) → (a1 : List (Int × Int)) → (k : List (Int × Int) → Bool → O β) → O β) (zq90 : (a0 : Int) → (a1 : List (Int × Int)) → (k : List (Int × Int) → Bool → O β) → O β) (zq91 : (a0 : Int) → (a1 : List (Int × Int)) → (k : List (List Int) → Bool → O β) → O β) (zq87 : (a0 : Int) → (a1 : List (Int × Int)) → (k : List (List Int) → Bool → O β) → O β) (zq94 : (a0 : List (Int × Int)) → (a1 : List (Int × Int)) → (k : Bool → O β) → O β) (zq100 : (a0 : List (List Int)) → (a1 : List (List Int)) → (k : Bool → O β) → O β) (zq101 : (a0 : Int) → (a1 : List (Int × Int)) → (k : Bool → O β) → O β) (zq107 : (a0 : Int) → (a1 : List (Int × Int)) → (k : Int → Int → Bool → O β) → O β) (zq123 : (a0 : Int) → (a1 : Int) → (k : List (Int × Int) → Bool → O β) → O β) (zq124 : (a0 : Int) → (a1 : List (Int × Int)) → (a2 : Int) → (a3 : Int) → (k : Bool → O β) → O β) (zq132 : (a0 : Int) → (a1 : List (Int × Int)) → (k : ByteArray → O β) → O β) (zq139 : (a0 : Int) → (a1 : ByteArray) → (k : List (Int × Int) → Bool → O β) → O β) (zq140 : (a0 : List Int) → (k : Int → List (Int × Int) → O β) → O β) (zq152 : (a0 : List Int) → (k : Int → ByteArray → O β) → O β) (zq158 : (a0 : Int) → (a1 : ByteArray) → (k : List (Int × Int) → Bool → O β) → O β) (zq161 : (a0 : List Int) → (k : Int → List (Int × Int) → Int → Int → O β) → O β) (zq146 : (a0 : Int) → (a1 : List (Int × Int)) → (k : ByteArray → O β) → O β) (zq162 : (a0 : Int) → (a1 : List (Int × Int)) → (a2 : Int) → (a3 : Int) → (k : Bool → O β) → O β) (zq166 : Nat → List Int → Int → Int → List (Int × Int) → List (List Int) → (Bool → O β) → (List Int → Int → List (Int × Int) → O β) → O β) (zq164 : Nat → List Int → Int → Int → Int → List (Int × Int) → List (List Int) → (List Int → Int → Int → Int → List (Int × Int) → List (List Int) → O β) → O β)  (v0 : List Int) (v1 : Int) (v2 : Int) (v3 : Int) (v4 : List (Int × Int)) (v5 : List (List Int)) (rec_ : St → O β) (K : Exit → St → O β) :
    ev lay (VE3 N zq0 zq52 zq75 zq90 zq91 zq87 zq94 zq100 zq101 zq107 zq123 zq124 zq132 zq139 zq140 zq152 zq158 zq161 zq146 zq162 zq166 zq164) (retMask Tryz.f3) (lp Tryz.f3 1).body (lp Tryz.f3 1).ex ((lp Tryz.f3 1).lv (retMask Tryz.f3)) (h3_1_0  v0 v1 v2 v3 v4 v5) (nextR (fun s' => rec_ (s'.tidy ((lp Tryz.f3 1).lv (retMask Tryz.f3)))) K) = zb163 N  v0 v1 v2 v3 v4 v5 (fun v0 v1 v2 v3 v4 v5 => rec_ (h3_1_0  v0 v1 v2 v3 v4 v5)) (fun y0 y1 y2 y3 y4 y5 => K (.exit 2) (x3_1_0_k0  y0 y1 y2 y3 y4 y5)) := by kernel_rfl
theorem st3_1_0 (N : Nat)  (v0 : List Int) (v1 : Int) (v2 : Int) (v3 : Int) (v4 : List (Int × Int)) (v5 : List (List Int)) (rec_ : St → O β) (K : Exit → St → O β) :
    ev lay (E3 N) (retMask Tryz.f3) (lp Tryz.f3 1).body (lp Tryz.f3 1).ex ((lp Tryz.f3 1).lv (retMask Tryz.f3)) (h3_1_0  v0 v1 v2 v3 v4 v5) (nextR (fun s' => rec_ (s'.tidy ((lp Tryz.f3 1).lv (retMask Tryz.f3)))) K) = zj163 N  v0 v1 v2 v3 v4 v5 (fun v0 v1 v2 v3 v4 v5 => rec_ (h3_1_0  v0 v1 v2 v3 v4 v5)) (fun y0 y1 y2 y3 y4 y5 => K (.exit 2) (x3_1_0_k0  y0 y1 y2 y3 y4 y5)) := (vst3_1_0 N (zj0 N) (zj52 N) (zj75 N) (zj90 N) (zj91 N) (zj87 N) (zj94 N) (zj100 N) (zj101 N) (zj107 N) (zj123 N) (zj124 N) (zj132 N) (zj139 N) (zj140 N) (zj152 N) (zj158 N) (zj161 N) (zj146 N) (zj162 N) (zj166 N) (zj164 N) v0 v1 v2 v3 v4 v5 rec_ K).trans (zt163 N  v0 v1 v2 v3 v4 v5 (fun v0 v1 v2 v3 v4 v5 => rec_ (h3_1_0  v0 v1 v2 v3 v4 v5)) (fun y0 y1 y2 y3 y4 y5 => K (.exit 2) (x3_1_0_k0  y0 y1 y2 y3 y4 y5))).symm
theorem ro3_1_0 (N : Nat)  (K : Exit → St → O β) : ∀ (F : Nat) (v0 : List Int) (v1 : Int) (v2 : Int) (v3 : Int) (v4 : List (Int × Int)) (v5 : List (List Int)), (lp Tryz.f3 1).rounds lay (E3 N) (retMask Tryz.f3) F (h3_1_0  v0 v1 v2 v3 v4 v5) K = zj164 N  F v0 v1 v2 v3 v4 v5 (fun y0 y1 y2 y3 y4 y5 => K (.exit 2) (x3_1_0_k0  y0 y1 y2 y3 y4 y5)) := by
  intro F
  induction F with
  | zero => intros; rfl
  | succ F ih =>
    intros
    rw [rounds_next]
    refine (st3_1_0 N  _ _ _ _ _ _ (fun s => (lp Tryz.f3 1).rounds lay (E3 N) (retMask Tryz.f3) F s K) K).trans ?_
    simp only [ih]
    rfl
theorem lk3_2 (N : Nat) : lookL (E3 (β := β) N).loops (lp Tryz.f3 1).id = LS3_2 N := by kernel_rfl
theorem rk3_2 (N : Nat) : RoundsOK lay (E3 (β := β) N) (retMask Tryz.f3) (lp Tryz.f3 1) := by
  intro s K r h
  rw [lk3_2] at h
  unfold LS3_2 VLS3_2 at h
  cases hb : shpSt (h3_1_0 [] 0 0 0 [] []) s with
  | true =>
    rw [hb, cond_true] at h
    exact ⟨N, by rw [← shpSt_ref hb, fl3_1_0 s]; exact (ro3_1_0 N  K N (rInts (rowV (oneA (vT (nx tund s.tmps 0))))) (intS (oneA (vT (nx tund s.tmps 3)))) (intS (oneA (vT (nx tund s.tmps 19)))) (intS (oneA (vT (nx tund s.tmps 20)))) (rPairs (rowB_ (nx .dead s.blks 0))) (rLists (rowB_ (nx .dead s.blks 1)))).trans h⟩
  | false =>
  rw [hb, cond_false] at h
  clear hb
  cases h
def zb167 (N : Nat) (zq0 : (a0 : List Int) → (k : Bool → O β) → O β) (zq52 : (a0 : List Int) → (k : Int → List (Int × Int) → O β) → O β) (zq75 : (a0 : Int) → (a1 : List (Int × Int)) → (k : List (Int × Int) → Bool → O β) → O β) (zq90 : (a0 : Int) → (a1 : List (Int × Int)) → (k : List (Int × Int) → Bool → O β) → O β) (zq91 : (a0 : Int) → (a1 : List (Int × Int)) → (k : List (List Int) → Bool → O β) → O β) (zq87 : (a0 : Int) → (a1 : List (Int × Int)) → (k : List (List Int) → Bool → O β) → O β) (zq94 : (a0 : List (Int × Int)) → (a1 : List (Int × Int)) → (k : Bool → O β) → O β) (zq100 : (a0 : List (List Int)) → (a1 : List (List Int)) → (k : Bool → O β) → O β) (zq101 : (a0 : Int) → (a1 : List (Int × Int)) → (k : Bool → O β) → O β) (zq107 : (a0 : Int) → (a1 : List (Int × Int)) → (k : Int → Int → Bool → O β) → O β) (zq123 : (a0 : Int) → (a1 : Int) → (k : List (Int × Int) → Bool → O β) → O β) (zq166 : Nat → List Int → Int → Int → List (Int × Int) → List (List Int) → (Bool → O β) → (List Int → Int → List (Int × Int) → O β) → O β) (zq132 : (a0 : Int) → (a1 : List (Int × Int)) → (k : ByteArray → O β) → O β) (zq139 : (a0 : Int) → (a1 : ByteArray) → (k : List (Int × Int) → Bool → O β) → O β) (zq140 : (a0 : List Int) → (k : Int → List (Int × Int) → O β) → O β) (zq152 : (a0 : List Int) → (k : Int → ByteArray → O β) → O β) (zq158 : (a0 : Int) → (a1 : ByteArray) → (k : List (Int × Int) → Bool → O β) → O β) (zq161 : (a0 : List Int) → (k : Int → List (Int × Int) → Int → Int → O β) → O β) (zq146 : (a0 : Int) → (a1 : List (Int × Int)) → (k : ByteArray → O β) → O β) (zq124 : (a0 : Int) → (a1 : List (Int × Int)) → (a2 : Int) → (a3 : Int) → (k : Bool → O β) → O β) (zq162 : (a0 : Int) → (a1 : List (Int × Int)) → (a2 : Int) → (a3 : Int) → (k : Bool → O β) → O β) (a0 : List Int) (k : Bool → O β) : O β :=
zq0 a0 fun r2 =>
(cond r2
(k true)
(zq52 a0 fun r3 r4 =>
zq75 r3 r4 fun r5 r6 =>
zq90 r3 r4 fun r7 r8 =>
zq91 r3 r4 fun r9 r10 =>
zq87 r3 r4 fun r11 r12 =>
(cond ((!(r6 == r8)))
(k false)
(zq94 r5 r7 fun r13 =>
(cond (!r13)
(k false)
((cond ((!(r10 == r12)))
(k false)
(zq100 r9 r11 fun r14 =>
(cond (!r14)
(k false)
(zq101 r3 r4 fun r15 =>
(cond r12
((cond ((!(r15 == ((r11.length : Int) == 0))))
(k false)
((cond r6
(zq107 r3 r4 fun r16 r17 r18 =>
zq107 r3 r7 fun r19 r20 r21 =>
zq123 r16 r17 fun r22 r23 =>
(cond ((!((r16 == r19) && (r17 == r20))))
(k false)
(zq101 r3 r7 fun r24 =>
(cond (!r24)
(k false)
((cond ((decide ((r22.length : Int) ≤ 40)))
(zq101 r3 r22 fun r25 =>
(cond (!r25)
(k false)
(zq166  N a0 r3 0 r4 r11 (fun e29_0 =>
k e29_0) (fun e30_0 e30_1 e30_2 =>
zq132 e30_1 e30_2 fun r31 =>
zq139 e30_1 r31 fun r32 r33 =>
(cond (!r33)
(k false)
(zq94 r32 e30_2 fun r34 =>
(cond (!r34)
(k false)
(zq140 e30_0 fun r35 r36 =>
zq152 e30_0 fun r37 r38 =>
zq139 r37 r38 fun r39 r40 =>
zq158 r37 r38 fun r41 r42 =>
zq161 e30_0 fun r43 r44 r45 r46 =>
zq132 r35 r36 fun r47 =>
zq146 r35 r36 fun r48 =>
(cond ((r47.toList == r48.toList))
((cond ((r40 == r42))
(zq94 r39 r41 fun r49 =>
(cond r49
(zq124 r43 r44 r45 r46 fun r50 =>
zq162 r43 r44 r45 r46 fun r51 =>
k ((r50 == r51)))
(k false)))
(k false)))
(k false))))))))))
(zq166  N a0 r3 0 r4 r11 (fun e52_0 =>
k e52_0) (fun e53_0 e53_1 e53_2 =>
zq132 e53_1 e53_2 fun r54 =>
zq139 e53_1 r54 fun r55 r56 =>
(cond (!r56)
(k false)
(zq94 r55 e53_2 fun r57 =>
(cond (!r57)
(k false)
(zq140 e53_0 fun r58 r59 =>
zq152 e53_0 fun r60 r61 =>
zq139 r60 r61 fun r62 r63 =>
zq158 r60 r61 fun r64 r65 =>
zq161 e53_0 fun r66 r67 r68 r69 =>
zq132 r58 r59 fun r70 =>
zq146 r58 r59 fun r71 =>
(cond ((r70.toList == r71.toList))
((cond ((r63 == r65))
(zq94 r62 r64 fun r72 =>
(cond r72
(zq124 r66 r67 r68 r69 fun r73 =>
zq162 r66 r67 r68 r69 fun r74 =>
k ((r73 == r74)))
(k false)))
(k false)))
(k false))))))))))))))
(zq140 a0 fun r75 r76 =>
zq152 a0 fun r77 r78 =>
zq139 r77 r78 fun r79 r80 =>
zq158 r77 r78 fun r81 r82 =>
zq161 a0 fun r83 r84 r85 r86 =>
zq132 r75 r76 fun r87 =>
zq146 r75 r76 fun r88 =>
(cond ((r87.toList == r88.toList))
((cond ((r80 == r82))
(zq94 r79 r81 fun r89 =>
(cond r89
(zq124 r83 r84 r85 r86 fun r90 =>
zq162 r83 r84 r85 r86 fun r91 =>
k ((r90 == r91)))
(k false)))
(k false)))
(k false)))))))
((cond ((!(r15 == false)))
(k false)
((cond r6
(zq107 r3 r4 fun r92 r93 r94 =>
zq107 r3 r7 fun r95 r96 r97 =>
zq123 r92 r93 fun r98 r99 =>
(cond ((!((r92 == r95) && (r93 == r96))))
(k false)
(zq101 r3 r7 fun r100 =>
(cond (!r100)
(k false)
((cond ((decide ((r98.length : Int) ≤ 40)))
(zq101 r3 r98 fun r101 =>
(cond (!r101)
(k false)
(zq166  N a0 r3 0 r4 r11 (fun e102_0 =>
k e102_0) (fun e103_0 e103_1 e103_2 =>
zq132 e103_1 e103_2 fun r104 =>
zq139 e103_1 r104 fun r105 r106 =>
(cond (!r106)
(k false)
(zq94 r105 e103_2 fun r107 =>
(cond (!r107)
(k false)
(zq140 e103_0 fun r108 r109 =>
zq152 e103_0 fun r110 r111 =>
zq139 r110 r111 fun r112 r113 =>
zq158 r110 r111 fun r114 r115 =>
zq161 e103_0 fun r116 r117 r118 r119 =>
zq132 r108 r109 fun r120 =>
zq146 r108 r109 fun r121 =>
(cond ((r120.toList == r121.toList))
((cond ((r113 == r115))
(zq94 r112 r114 fun r122 =>
(cond r122
(zq124 r116 r117 r118 r119 fun r123 =>
zq162 r116 r117 r118 r119 fun r124 =>
k ((r123 == r124)))
(k false)))
(k false)))
(k false))))))))))
(zq166  N a0 r3 0 r4 r11 (fun e125_0 =>
k e125_0) (fun e126_0 e126_1 e126_2 =>
zq132 e126_1 e126_2 fun r127 =>
zq139 e126_1 r127 fun r128 r129 =>
(cond (!r129)
(k false)
(zq94 r128 e126_2 fun r130 =>
(cond (!r130)
(k false)
(zq140 e126_0 fun r131 r132 =>
zq152 e126_0 fun r133 r134 =>
zq139 r133 r134 fun r135 r136 =>
zq158 r133 r134 fun r137 r138 =>
zq161 e126_0 fun r139 r140 r141 r142 =>
zq132 r131 r132 fun r143 =>
zq146 r131 r132 fun r144 =>
(cond ((r143.toList == r144.toList))
((cond ((r136 == r138))
(zq94 r135 r137 fun r145 =>
(cond r145
(zq124 r139 r140 r141 r142 fun r146 =>
zq162 r139 r140 r141 r142 fun r147 =>
k ((r146 == r147)))
(k false)))
(k false)))
(k false))))))))))))))
(zq140 a0 fun r148 r149 =>
zq152 a0 fun r150 r151 =>
zq139 r150 r151 fun r152 r153 =>
zq158 r150 r151 fun r154 r155 =>
zq161 a0 fun r156 r157 r158 r159 =>
zq132 r148 r149 fun r160 =>
zq146 r148 r149 fun r161 =>
(cond ((r160.toList == r161.toList))
((cond ((r153 == r155))
(zq94 r152 r154 fun r162 =>
(cond r162
(zq124 r156 r157 r158 r159 fun r163 =>
zq162 r156 r157 r158 r159 fun r164 =>
k ((r163 == r164)))
(k false)))
(k false)))
(k false))))))))))))))))))
theorem zt167 (N : Nat) (a0 : List Int) (k : Bool → O β) : zj167 N a0 k = zb167 N (zj0 N) (zj52 N) (zj75 N) (zj90 N) (zj91 N) (zj87 N) (zj94 N) (zj100 N) (zj101 N) (zj107 N) (zj123 N) (zj166 N) (zj132 N) (zj139 N) (zj140 N) (zj152 N) (zj158 N) (zj161 N) (zj146 N) (zj124 N) (zj162 N) a0 k := by
  unfold zj167 zb167
  rfl
theorem ve3_0 (N : Nat) (zq0 : (a0 : List Int) → (k : Bool → O β) → O β) (zq52 : (a0 : List Int) → (k : Int → List (Int × Int) → O β) → O β) (zq75 : (a0 : Int) → (a1 : List (Int × Int)) → (k : List (Int × Int) → Bool → O β) → O β) (zq90 : (a0 : Int) → (a1 : List (Int × Int)) → (k : List (Int × Int) → Bool → O β) → O β) (zq91 : (a0 : Int) → (a1 : List (Int × Int)) → (k : List (List Int) → Bool → O β) → O β) (zq87 : (a0 : Int) → (a1 : List (Int × Int)) → (k : List (List Int) → Bool → O β) → O β) (zq94 : (a0 : List (Int × Int)) → (a1 : List (Int × Int)) → (k : Bool → O β) → O β) (zq100 : (a0 : List (List Int)) → (a1 : List (List Int)) → (k : Bool → O β) → O β) (zq101 : (a0 : Int) → (a1 : List (Int × Int)) → (k : Bool → O β) → O β) (zq107 : (a0 : Int) → (a1 : List (Int × Int)) → (k : Int → Int → Bool → O β) → O β) (zq123 : (a0 : Int) → (a1 : Int) → (k : List (Int × Int) → Bool → O β) → O β) (zq124 : (a0 : Int) → (a1 : List (Int × Int)) → (a2 : Int) → (a3 : Int) → (k : Bool → O β) → O β) (zq132 : (a0 : Int) → (a1 : List (Int × Int)) → (k : ByteArray → O β) → O β) (zq139 : (a0 : Int) → (a1 : ByteArray) → (k : List (Int × Int) → Bool → O β) → O β) (zq140 : (a0 : List Int) → (k : Int → List (Int × Int) → O β) → O β) (zq152 : (a0 : List Int) → (k : Int → ByteArray → O β) → O β) (zq158 : (a0 : Int) → (a1 : ByteArray) → (k : List (Int × Int) → Bool → O β) → O β) (zq161 : (a0 : List Int) → (k : Int → List (Int × Int) → Int → Int → O β) → O β) (zq146 : (a0 : Int) → (a1 : List (Int × Int)) → (k : ByteArray → O β) → O β) (zq162 : (a0 : Int) → (a1 : List (Int × Int)) → (a2 : Int) → (a3 : Int) → (k : Bool → O β) → O β) (zq166 : Nat → List Int → Int → Int → List (Int × Int) → List (List Int) → (Bool → O β) → (List Int → Int → List (Int × Int) → O β) → O β) (zq164 : Nat → List Int → Int → Int → Int → List (Int × Int) → List (List Int) → (List Int → Int → Int → Int → List (Int × Int) → List (List Int) → O β) → O β)  (a0 : List Int) (K : TV → O β) : evFn lay (VE3 N zq0 zq52 zq75 zq90 zq91 zq87 zq94 zq100 zq101 zq107 zq123 zq124 zq132 zq139 zq140 zq152 zq158 zq161 zq146 zq162 zq166 zq164) Tryz.f3 [.v (.one (.sl 5 (.ints .u8 a0)))] K = zb167 N zq0 zq52 zq75 zq90 zq91 zq87 zq94 zq100 zq101 zq107 zq123 zq166 zq132 zq139 zq140 zq152 zq158 zq161 zq146 zq124 zq162 a0 (fun z1 => K (.v (.one (.bool z1)))) := by kernel_rfl
theorem e3_0 (N : Nat)  (a0 : List Int) (K : TV → O β) : evFn lay (E3 N) Tryz.f3 [.v (.one (.sl 5 (.ints .u8 a0)))] K = zj167 N a0 (fun z1 => K (.v (.one (.bool z1)))) := (ve3_0 N (zj0 N) (zj52 N) (zj75 N) (zj90 N) (zj91 N) (zj87 N) (zj94 N) (zj100 N) (zj101 N) (zj107 N) (zj123 N) (zj124 N) (zj132 N) (zj139 N) (zj140 N) (zj152 N) (zj158 N) (zj161 N) (zj146 N) (zj162 N) (zj166 N) (zj164 N) a0 K).trans (zt167 N a0 (fun z1 => K (.v (.one (.bool z1))))).symm
theorem o3 (N : Nat) : SpecOK (β := β) inv Tryz.prog 3 (S3 N) := by
  refine spec_of lay_ok mixed (E := E3 N) (specs_loops (specs_cons (o4 N) (specs_cons (o5 N) (specs_cons (o6 N) (specs_cons (o7 N) (specs_cons (o8 N) (specs_cons (o9 N) (specs_cons (o10 N) (specs_cons (o11 N) (specs_cons (o12 N) (specs_cons (o13 N) (specs_cons (o14 N) (specs_cons (o15 N) (specs_cons (o16 N) (specs_cons (o17 N) (specs_cons (o18 N) (specs_cons (o19 N) (specs_cons (o20 N) (specs_cons (o21 N) (specs_cons (o22 N) (specs_cons (o23 N) specs_nil))))))))))))))))))))) muts_nil gs_nil Tryz.func3 (by kernel_rfl) 2 (by kernel_rfl) ⟨⟨trivial, rk3_0 N⟩, rk3_2 N⟩ fun args K r h => ?_
  unfold S3 VS3 at h
  split at h
  · exact (e3_0 N _ _).trans h
  · cases h
end Go.Proofs.YtddflpokemgnmaaGreatDoor
