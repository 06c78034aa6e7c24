/- The functions that the claims reach answer as their texts do. -/
import Derived.Test.YtfdggelojmofmaaDoorE6
namespace Go.Proofs.YtfdggelojmofmaaDoor
open Go.Rv
set_option maxRecDepth 100000
set_option maxHeartbeats 2000000
set_option linter.unusedVariables false
def VSF162 {β : Type} (N : Nat) (zq116 : Nat → Int → Int → Int → Int → Int → Mp → (ByteArray → Int → Int → Int → Mp → Option β) → Option β) (G : Nat) : GSpec β := fun args bl K => match args, bl with
  | [.v (.one (.ptr 0 0)), .v (.agg [.int .i64 a0, .int .i64 a1])], [.pcells 0 187 [.int .i64 a2, .int .i64 a3, .int .i64 a4, .mp 1], .pmp 1 ⟨true, false⟩ a5] => zq116 G a0 a1 a2 a3 a4 a5 (fun y0 y1 y2 y3 y4 => K (.v (.one (.str y0))) [.pcells 0 187 [.int .i64 y1, .int .i64 y2, .int .i64 y3, .mp 1], .pmp 1 ⟨true, false⟩ y4])
  | _, _ => none
def SF162 {β : Type} (N : Nat) (G : Nat) : GSpec β := VSF162 N (zj116 N) G
def VS162 {β : Type} (N : Nat) (zq116 : Nat → Int → Int → Int → Int → Int → Mp → (ByteArray → Int → Int → Int → Mp → Option β) → Option β) : GSpec β := VSF162 N zq116 N
def S162 {β : Type} (N : Nat) : GSpec β := SF162 N N
def h162_0_0  (v0 : Int) (v1 : Int) (v2 : Int) (v3 : Int) (v4 : Int) (v5 : Mp) (v6 : Int) (v7 : Int) (v8 : List Int) : St := ⟨.v (.one (.ptr 0 0)) :: tund :: tund :: .v (.one (.ptr 2 0)) :: tund :: tund :: tund :: tund :: tund :: tund :: tund :: tund :: tund :: tund :: tund :: tund :: tund :: tund :: tund :: tund :: .v (.one (.row 3)) :: .v (.one (.int .i64 v0)) :: .v (.one (.int .i64 v1)) :: tund :: tund :: tund :: tund :: tund :: tund :: tund :: tund :: tund :: tund :: tund :: tund :: tund :: tund :: tund :: tund :: tund :: tund :: tund :: tund :: tund :: tund :: tund :: tund :: tund :: tund :: tund :: tund :: tund :: tund :: tund :: tund :: tund :: tund :: tund :: tund :: tund :: tund :: tund :: tund :: tund :: tund :: tund :: tund :: tund :: tund :: tund :: tund :: [], [.pcells 0 187 [.int .i64 v2, .int .i64 v3, .int .i64 v4, .mp 1], .pmp 1 ⟨true, false⟩ v5, .cells 141 [.int .i64 v6, .int .i64 v7], .srow 5 (.ints .u8 v8)]⟩
def x162_0_0_k0  (y0 : ByteArray) (y1 : Int) (y2 : Int) (y3 : Int) (y4 : Mp) : St := ⟨tund :: tund :: tund :: tund :: .v (.one (.str y0)) :: tund :: tund :: tund :: tund :: tund :: tund :: tund :: tund :: tund :: tund :: tund :: tund :: tund :: tund :: tund :: tund :: tund :: tund :: tund :: tund :: tund :: tund :: tund :: tund :: tund :: tund :: tund :: tund :: tund :: tund :: tund :: tund :: tund :: tund :: tund :: tund :: tund :: tund :: tund :: tund :: tund :: tund :: tund :: tund :: tund :: tund :: tund :: tund :: tund :: tund :: tund :: tund :: tund :: tund :: tund :: tund :: tund :: tund :: tund :: tund :: tund :: tund :: tund :: tund :: tund :: tund :: [], [.pcells 0 187 [.int .i64 y1, .int .i64 y2, .int .i64 y3, .mp 1], .pmp 1 ⟨true, false⟩ y4]⟩
def x162_0_0_k1  (y0 : Int) (y1 : Int) (y2 : Int) (y3 : Mp) : St := ⟨tund :: tund :: tund :: tund :: tund :: tund :: tund :: tund :: tund :: tund :: tund :: tund :: tund :: tund :: tund :: tund :: tund :: tund :: tund :: tund :: tund :: tund :: tund :: tund :: tund :: tund :: tund :: tund :: tund :: tund :: tund :: tund :: tund :: tund :: tund :: tund :: tund :: tund :: tund :: tund :: tund :: tund :: tund :: tund :: tund :: tund :: tund :: tund :: tund :: tund :: tund :: tund :: tund :: tund :: tund :: tund :: tund :: tund :: tund :: tund :: tund :: tund :: tund :: tund :: tund :: tund :: tund :: tund :: tund :: tund :: tund :: [], [.pcells 0 187 [.int .i64 y0, .int .i64 y1, .int .i64 y2, .mp 1], .pmp 1 ⟨true, false⟩ y3]⟩
def h162_1_0  (v0 : Int) (v1 : Int) (v2 : Int) (v3 : Int) (v4 : Int) (v5 : Int) (v6 : Int) (v7 : Mp) (v8 : Int) (v9 : Int) (v10 : List Int) : St := ⟨.v (.one (.ptr 0 0)) :: tund :: tund :: .v (.one (.ptr 2 0)) :: tund :: tund :: tund :: .v (.one (.int .u8 v0)) :: tund :: tund :: tund :: tund :: tund :: tund :: tund :: tund :: tund :: tund :: tund :: tund :: .v (.one (.row 3)) :: .v (.one (.int .i64 v1)) :: .v (.one (.int .i64 v2)) :: tund :: tund :: tund :: .v (.one (.int .i64 v3)) :: tund :: tund :: tund :: tund :: tund :: tund :: tund :: tund :: tund :: tund :: tund :: tund :: tund :: tund :: tund :: tund :: tund :: tund :: tund :: tund :: tund :: tund :: tund :: tund :: tund :: tund :: tund :: tund :: tund :: tund :: tund :: tund :: tund :: tund :: tund :: tund :: tund :: tund :: tund :: tund :: tund :: tund :: tund :: tund :: [], [.pcells 0 187 [.int .i64 v4, .int .i64 v5, .int .i64 v6, .mp 1], .pmp 1 ⟨true, false⟩ v7, .cells 141 [.int .i64 v8, .int .i64 v9], .srow 5 (.ints .u8 v10)]⟩
def x162_1_0_k0  (y0 : ByteArray) (y1 : Int) (y2 : Int) (y3 : Int) (y4 : Mp) : St := ⟨tund :: tund :: tund :: tund :: .v (.one (.str y0)) :: tund :: tund :: tund :: tund :: tund :: tund :: tund :: tund :: tund :: tund :: tund :: tund :: tund :: tund :: tund :: tund :: tund :: tund :: tund :: tund :: tund :: tund :: tund :: tund :: tund :: tund :: tund :: tund :: tund :: tund :: tund :: tund :: tund :: tund :: tund :: tund :: tund :: tund :: tund :: tund :: tund :: tund :: tund :: tund :: tund :: tund :: tund :: tund :: tund :: tund :: tund :: tund :: tund :: tund :: tund :: tund :: tund :: tund :: tund :: tund :: tund :: tund :: tund :: tund :: tund :: tund :: [], [.pcells 0 187 [.int .i64 y1, .int .i64 y2, .int .i64 y3, .mp 1], .pmp 1 ⟨true, false⟩ y4]⟩
def x162_1_0_k1  (y0 : Int) (y1 : Int) (y2 : Int) (y3 : Int) (y4 : Int) (y5 : Mp) (y6 : Int) (y7 : Int) (y8 : List Int) : St := ⟨.v (.one (.ptr 0 0)) :: tund :: tund :: .v (.one (.ptr 2 0)) :: tund :: tund :: tund :: tund :: tund :: tund :: tund :: tund :: tund :: tund :: tund :: tund :: tund :: tund :: tund :: tund :: .v (.one (.row 3)) :: .v (.one (.int .i64 y0)) :: .v (.one (.int .i64 y1)) :: tund :: tund :: tund :: tund :: tund :: tund :: tund :: tund :: tund :: tund :: tund :: tund :: tund :: tund :: tund :: tund :: tund :: tund :: tund :: tund :: tund :: tund :: tund :: tund :: tund :: tund :: tund :: tund :: tund :: tund :: tund :: tund :: tund :: tund :: tund :: tund :: tund :: tund :: tund :: tund :: tund :: tund :: tund :: tund :: tund :: tund :: tund :: tund :: [], [.pcells 0 187 [.int .i64 y2, .int .i64 y3, .int .i64 y4, .mp 1], .pmp 1 ⟨true, false⟩ y5, .cells 141 [.int .i64 y6, .int .i64 y7], .srow 5 (.ints .u8 y8)]⟩
theorem fl162_0_0 (s : St) : refSt (h162_0_0 0 0 0 0 0 [] 0 0 []) s = h162_0_0 (intS (oneA (vT (nx tund s.tmps 21)))) (intS (oneA (vT (nx tund s.tmps 22)))) (intS (nx .und (cellsB (nx .dead s.blks 0)) 0)) (intS (nx .und (cellsB (nx .dead s.blks 0)) 1)) (intS (nx .und (cellsB (nx .dead s.blks 0)) 2)) (mpB (nx .dead s.blks 1)) (intS (nx .und (cellsB (nx .dead s.blks 2)) 0)) (intS (nx .und (cellsB (nx .dead s.blks 2)) 1)) (rInts (rowB_ (nx .dead s.blks 3))) := by kernel_rfl
def VLS162_0 {β : Type} (N : Nat) (zq114 : (self : Int → Int → Int → Int → Int → Mp → (ByteArray → Int → Int → Int → Mp → Option β) → Option β) → Nat → Int → Int → Int → Int → Int → Mp → Int → Int → List Int → (ByteArray → Int → Int → Int → Mp → Option β) → (Int → Int → Int → Mp → Option β) → Option β) (zq116 : Nat → Int → Int → Int → Int → Int → Mp → (ByteArray → Int → Int → Int → Mp → Option β) → Option β) (G : Nat) : LSpec β := fun s K => cond (shpSt (h162_0_0 0 0 0 0 0 [] 0 0 []) s) ((fun (v0 : Int) (v1 : Int) (v2 : Int) (v3 : Int) (v4 : Int) (v5 : Mp) (v6 : Int) (v7 : Int) (v8 : List Int) => zq114 (zq116 G)  N v0 v1 v2 v3 v4 v5 v6 v7 v8 (fun y0 y1 y2 y3 y4 => K .ret (x162_0_0_k0  y0 y1 y2 y3 y4)) (fun y0 y1 y2 y3 => K (.exit 0) (x162_0_0_k1  y0 y1 y2 y3))) (intS (oneA (vT (nx tund s.tmps 21)))) (intS (oneA (vT (nx tund s.tmps 22)))) (intS (nx .und (cellsB (nx .dead s.blks 0)) 0)) (intS (nx .und (cellsB (nx .dead s.blks 0)) 1)) (intS (nx .und (cellsB (nx .dead s.blks 0)) 2)) (mpB (nx .dead s.blks 1)) (intS (nx .und (cellsB (nx .dead s.blks 2)) 0)) (intS (nx .und (cellsB (nx .dead s.blks 2)) 1)) (rInts (rowB_ (nx .dead s.blks 3)))) (none)
def LS162_0 {β : Type} (N : Nat) (G : Nat) : LSpec β := VLS162_0 N (zj114 N) (zj116 N) G
theorem fl162_1_0 (s : St) : refSt (h162_1_0 0 0 0 0 0 0 0 [] 0 0 []) s = h162_1_0 (intS (oneA (vT (nx tund s.tmps 7)))) (intS (oneA (vT (nx tund s.tmps 21)))) (intS (oneA (vT (nx tund s.tmps 22)))) (intS (oneA (vT (nx tund s.tmps 26)))) (intS (nx .und (cellsB (nx .dead s.blks 0)) 0)) (intS (nx .und (cellsB (nx .dead s.blks 0)) 1)) (intS (nx .und (cellsB (nx .dead s.blks 0)) 2)) (mpB (nx .dead s.blks 1)) (intS (nx .und (cellsB (nx .dead s.blks 2)) 0)) (intS (nx .und (cellsB (nx .dead s.blks 2)) 1)) (rInts (rowB_ (nx .dead s.blks 3))) := by kernel_rfl
def VLS162_2 {β : Type} (N : Nat) (zq112 : (self : Int → Int → Int → Int → Int → Mp → (ByteArray → Int → Int → Int → Mp → Option β) → Option β) → Nat → Int → Int → Int → Int → Int → Int → Int → Mp → Int → Int → List Int → (ByteArray → Int → Int → Int → Mp → Option β) → (Int → Int → Int → Int → Int → Mp → Int → Int → List Int → Option β) → Option β) (zq116 : Nat → Int → Int → Int → Int → Int → Mp → (ByteArray → Int → Int → Int → Mp → Option β) → Option β) (G : Nat) : LSpec β := fun s K => cond (shpSt (h162_1_0 0 0 0 0 0 0 0 [] 0 0 []) s) ((fun (v0 : Int) (v1 : Int) (v2 : Int) (v3 : Int) (v4 : Int) (v5 : Int) (v6 : Int) (v7 : Mp) (v8 : Int) (v9 : Int) (v10 : List Int) => zq112 (zq116 G)  N v0 v1 v2 v3 v4 v5 v6 v7 v8 v9 v10 (fun y0 y1 y2 y3 y4 => K .ret (x162_1_0_k0  y0 y1 y2 y3 y4)) (fun y0 y1 y2 y3 y4 y5 y6 y7 y8 => K (.exit 2) (x162_1_0_k1  y0 y1 y2 y3 y4 y5 y6 y7 y8))) (intS (oneA (vT (nx tund s.tmps 7)))) (intS (oneA (vT (nx tund s.tmps 21)))) (intS (oneA (vT (nx tund s.tmps 22)))) (intS (oneA (vT (nx tund s.tmps 26)))) (intS (nx .und (cellsB (nx .dead s.blks 0)) 0)) (intS (nx .und (cellsB (nx .dead s.blks 0)) 1)) (intS (nx .und (cellsB (nx .dead s.blks 0)) 2)) (mpB (nx .dead s.blks 1)) (intS (nx .und (cellsB (nx .dead s.blks 2)) 0)) (intS (nx .und (cellsB (nx .dead s.blks 2)) 1)) (rInts (rowB_ (nx .dead s.blks 3)))) (none)
def LS162_2 {β : Type} (N : Nat) (G : Nat) : LSpec β := VLS162_2 N (zj112 N) (zj116 N) G
def VE162 {β : Type} (N : Nat) (zq82 : (a0 : Int) → (k : ByteArray → Option β) → Option β) (zq99 : (a0 : Int) → (a1 : Int) → (a2 : Int) → (a3 : Int) → (k : Int → Int → Int → Int → Bool → Option β) → Option β) (zq114 : (self : Int → Int → Int → Int → Int → Mp → (ByteArray → Int → Int → Int → Mp → Option β) → Option β) → Nat → Int → Int → Int → Int → Int → Mp → Int → Int → List Int → (ByteArray → Int → Int → Int → Mp → Option β) → (Int → Int → Int → Mp → Option β) → Option β) (zq116 : Nat → Int → Int → Int → Int → Int → Mp → (ByteArray → Int → Int → Int → Mp → Option β) → Option β) (zq112 : (self : Int → Int → Int → Int → Int → Mp → (ByteArray → Int → Int → Int → Mp → Option β) → Option β) → Nat → Int → Int → Int → Int → Int → Int → Int → Mp → Int → Int → List Int → (ByteArray → Int → Int → Int → Mp → Option β) → (Int → Int → Int → Int → Int → Mp → Int → Int → List Int → Option β) → Option β) (zq102 : (a0 : Int) → (a1 : Int) → (a2 : Int) → (a3 : Int) → (a4 : Int) → (a5 : Mp) → (k0 : Int → Int → Int → Int → Mp → Option β) → Option β) (zq108 : Nat → Int → Int → Int → Int → Int → Mp → (Int → Int → Int → Int → Mp → Option β) → Option β) (G : Nat) : Env β := ⟨[(64, VS64 N zq82), (209, VS209 N zq99)], [], [(0, VLS162_0 N zq114 zq116 G), (2, VLS162_2 N zq112 zq116 G)], [(208, VS208 N zq102), (163, VS163 N zq108), (162, VSF162 N zq116 G)], ⟨[], [], [153]⟩⟩
def E162 {β : Type} (N : Nat) (G : Nat) : Env β := VE162 N (zj82 N) (zj99 N) (zj114 N) (zj116 N) (zj112 N) (zj102 N) (zj108 N) G
def zb113 {β : Type} (N : Nat) (zq112 : (self : Int → Int → Int → Int → Int → Mp → (ByteArray → Int → Int → Int → Mp → Option β) → Option β) → Nat → Int → Int → Int → Int → Int → Int → Int → Mp → Int → Int → List Int → (ByteArray → Int → Int → Int → Mp → Option β) → (Int → Int → Int → Int → Int → Mp → Int → Int → List Int → Option β) → Option β) (self : Int → Int → Int → Int → Int → Mp → (ByteArray → Int → Int → Int → Mp → Option β) → Option β)  (v0 : Int) (v1 : Int) (v2 : Int) (v3 : Int) (v4 : Int) (v5 : Mp) (v6 : Int) (v7 : Int) (v8 : List Int) (rec_ : Int → Int → Int → Int → Int → Mp → Int → Int → List Int → Option β) (k0 : ByteArray → Int → Int → Int → Mp → Option β) (k1 : Int → Int → Int → Mp → Option β) : Option β :=
(cond ((decide (v1 < v0)))
((gd ((decide (0 ≤ v1)))
((gd ((decide (v1 < (v8.length : Int))))
(zq112 self  N ((rd 0 v8 v1)) v0 v1 0 v2 v3 v4 v5 v6 v7 v8 (fun e24_0 e24_1 e24_2 e24_3 e24_4 =>
k0 e24_0 e24_1 e24_2 e24_3 e24_4) (fun e25_0 e25_1 e25_2 e25_3 e25_4 e25_5 e25_6 e25_7 e25_8 =>
rec_ e25_0 ((w64 (e25_1 + 1))) e25_2 e25_3 e25_4 e25_5 e25_6 e25_7 e25_8))))))
(k1 v2 v3 v4 v5))
theorem zt113 {β : Type} (N : Nat) (self : Int → Int → Int → Int → Int → Mp → (ByteArray → Int → Int → Int → Mp → Option β) → Option β)  (v0 : Int) (v1 : Int) (v2 : Int) (v3 : Int) (v4 : Int) (v5 : Mp) (v6 : Int) (v7 : Int) (v8 : List Int) (rec_ : Int → Int → Int → Int → Int → Mp → Int → Int → List Int → Option β) (k0 : ByteArray → Int → Int → Int → Mp → Option β) (k1 : Int → Int → Int → Mp → Option β) : zj113 N self v0 v1 v2 v3 v4 v5 v6 v7 v8 rec_ k0 k1 = zb113 N (zj112 N) self v0 v1 v2 v3 v4 v5 v6 v7 v8 rec_ k0 k1 := by
  unfold zj113 zb113
  rfl
theorem vst162_0_0 {β : Type} (N : Nat) (zq82 : (a0 : Int) → (k : ByteArray → Option β) → Option β) (zq99 : (a0 : Int) → (a1 : Int) → (a2 : Int) → (a3 : Int) → (k : Int → Int → Int → Int → Bool → Option β) → Option β) (zq114 : (self : Int → Int → Int → Int → Int → Mp → (ByteArray → Int → Int → Int → Mp → Option β) → Option β) → Nat → Int → Int → Int → Int → Int → Mp → Int → Int → List Int → (ByteArray → Int → Int → Int → Mp → Option β) → (Int → Int → Int → Mp → Option β) → Option β) (zq116 : Nat → Int → Int → Int → Int → Int → Mp → (ByteArray → Int → Int → Int → Mp → Option β) → Option β) (zq112 : (self : Int → Int → Int → Int → Int → Mp → (ByteArray → Int → Int → Int → Mp → Option β) → Option β) → Nat → Int → Int → Int → Int → Int → Int → Int → Mp → Int → Int → List Int → (ByteArray → Int → Int → Int → Mp → Option β) → (Int → Int → Int → Int → Int → Mp → Int → Int → List Int → Option β) → Option β) (zq102 : (a0 : Int) → (a1 : Int) → (a2 : Int) → (a3 : Int) → (a4 : Int) → (a5 : Mp) → (k0 : Int → Int → Int → Int → Mp → Option β) → Option β) (zq108 : Nat → Int → Int → Int → Int → Int → Mp → (Int → Int → Int → Int → Mp → Option β) → Option β) (G : Nat)  (v0 : Int) (v1 : Int) (v2 : Int) (v3 : Int) (v4 : Int) (v5 : Mp) (v6 : Int) (v7 : Int) (v8 : List Int) (rec_ : St → Option β) (K : Exit → St → Option β) :
    ev lay (VE162 N zq82 zq99 zq114 zq116 zq112 zq102 zq108 G) (retMask Tryd.f162) (lp Tryd.f162 0).body (lp Tryd.f162 0).ex ((lp Tryd.f162 0).lv (retMask Tryd.f162)) (h162_0_0  v0 v1 v2 v3 v4 v5 v6 v7 v8) (nextR (fun s' => rec_ (s'.tidy ((lp Tryd.f162 0).lv (retMask Tryd.f162)))) K) = zb113 N zq112 (zq116 G)  v0 v1 v2 v3 v4 v5 v6 v7 v8 (fun v0 v1 v2 v3 v4 v5 v6 v7 v8 => rec_ (h162_0_0  v0 v1 v2 v3 v4 v5 v6 v7 v8)) (fun y0 y1 y2 y3 y4 => K .ret (x162_0_0_k0  y0 y1 y2 y3 y4)) (fun y0 y1 y2 y3 => K (.exit 0) (x162_0_0_k1  y0 y1 y2 y3)) := by kernel_rfl
theorem st162_0_0 {β : Type} (N : Nat) (G : Nat)  (v0 : Int) (v1 : Int) (v2 : Int) (v3 : Int) (v4 : Int) (v5 : Mp) (v6 : Int) (v7 : Int) (v8 : List Int) (rec_ : St → Option β) (K : Exit → St → Option β) :
    ev lay (E162 N G) (retMask Tryd.f162) (lp Tryd.f162 0).body (lp Tryd.f162 0).ex ((lp Tryd.f162 0).lv (retMask Tryd.f162)) (h162_0_0  v0 v1 v2 v3 v4 v5 v6 v7 v8) (nextR (fun s' => rec_ (s'.tidy ((lp Tryd.f162 0).lv (retMask Tryd.f162)))) K) = zj113 N (zj116 N G)  v0 v1 v2 v3 v4 v5 v6 v7 v8 (fun v0 v1 v2 v3 v4 v5 v6 v7 v8 => rec_ (h162_0_0  v0 v1 v2 v3 v4 v5 v6 v7 v8)) (fun y0 y1 y2 y3 y4 => K .ret (x162_0_0_k0  y0 y1 y2 y3 y4)) (fun y0 y1 y2 y3 => K (.exit 0) (x162_0_0_k1  y0 y1 y2 y3)) := (vst162_0_0 N (zj82 N) (zj99 N) (zj114 N) (zj116 N) (zj112 N) (zj102 N) (zj108 N) G v0 v1 v2 v3 v4 v5 v6 v7 v8 rec_ K).trans (zt113 N (zj116 N G)  v0 v1 v2 v3 v4 v5 v6 v7 v8 (fun v0 v1 v2 v3 v4 v5 v6 v7 v8 => rec_ (h162_0_0  v0 v1 v2 v3 v4 v5 v6 v7 v8)) (fun y0 y1 y2 y3 y4 => K .ret (x162_0_0_k0  y0 y1 y2 y3 y4)) (fun y0 y1 y2 y3 => K (.exit 0) (x162_0_0_k1  y0 y1 y2 y3))).symm
theorem ro162_0_0 {β : Type} (N : Nat) (G : Nat)  (K : Exit → St → Option β) : ∀ (F : Nat) (v0 : Int) (v1 : Int) (v2 : Int) (v3 : Int) (v4 : Int) (v5 : Mp) (v6 : Int) (v7 : Int) (v8 : List Int), (lp Tryd.f162 0).rounds lay (E162 N G) (retMask Tryd.f162) F (h162_0_0  v0 v1 v2 v3 v4 v5 v6 v7 v8) K = zj114 N (zj116 N G)  F v0 v1 v2 v3 v4 v5 v6 v7 v8 (fun y0 y1 y2 y3 y4 => K .ret (x162_0_0_k0  y0 y1 y2 y3 y4)) (fun y0 y1 y2 y3 => K (.exit 0) (x162_0_0_k1  y0 y1 y2 y3)) := by
  intro F
  induction F with
  | zero => intros; rfl
  | succ F ih =>
    intros
    rw [rounds_next]
    refine (st162_0_0 N G  _ _ _ _ _ _ _ _ _ (fun s => (lp Tryd.f162 0).rounds lay (E162 N G) (retMask Tryd.f162) F s K) K).trans ?_
    simp only [ih]
    rfl
theorem lk162_0 {β : Type} (N : Nat) (G : Nat) : lookL (E162 (β := β) N G).loops (lp Tryd.f162 0).id = LS162_0 N G := by kernel_rfl
theorem rk162_0 {β : Type} (N : Nat) (G : Nat) : RoundsOK lay (E162 (β := β) N G) (retMask Tryd.f162) (lp Tryd.f162 0) := by
  intro s K r h
  rw [lk162_0] at h
  unfold LS162_0 VLS162_0 at h
  cases hb : shpSt (h162_0_0 0 0 0 0 0 [] 0 0 []) s with
  | true =>
    rw [hb, cond_true] at h
    exact ⟨N, by rw [← shpSt_ref hb, fl162_0_0 s]; exact (ro162_0_0 N G  K N (intS (oneA (vT (nx tund s.tmps 21)))) (intS (oneA (vT (nx tund s.tmps 22)))) (intS (nx .und (cellsB (nx .dead s.blks 0)) 0)) (intS (nx .und (cellsB (nx .dead s.blks 0)) 1)) (intS (nx .und (cellsB (nx .dead s.blks 0)) 2)) (mpB (nx .dead s.blks 1)) (intS (nx .und (cellsB (nx .dead s.blks 2)) 0)) (intS (nx .und (cellsB (nx .dead s.blks 2)) 1)) (rInts (rowB_ (nx .dead s.blks 3)))).trans h⟩
  | false =>
  rw [hb, cond_false] at h
  clear hb
  cases h
def zb111 {β : Type} (N : Nat) (zq99 : (a0 : Int) → (a1 : Int) → (a2 : Int) → (a3 : Int) → (k : Int → Int → Int → Int → Bool → Option β) → Option β) (zq108 : Nat → Int → Int → Int → Int → Int → Mp → (Int → Int → Int → Int → Mp → Option β) → Option β) (self : Int → Int → Int → Int → Int → Mp → (ByteArray → Int → Int → Int → Mp → Option β) → Option β)  (v0 : Int) (v1 : Int) (v2 : Int) (v3 : Int) (v4 : Int) (v5 : Int) (v6 : Int) (v7 : Mp) (v8 : Int) (v9 : Int) (v10 : List Int) (rec_ : Int → Int → Int → Int → Int → Int → Int → Mp → Int → Int → List Int → Option β) (k0 : ByteArray → Int → Int → Int → Mp → Option β) (k1 : Int → Int → Int → Int → Int → Mp → Int → Int → List Int → Option β) : Option β :=
(cond ((decide (v3 < 16)))
(zq99 v8 v9 v0 v3 fun r10 r11 r12 r13 r14 =>
(cond r14
(zq108 N r10 r11 v4 v5 v6 v7 (fun r15_0 r15_1 r15_2 r15_3 r15_4 =>
zq108 N v8 v9 r15_1 r15_2 r15_3 r15_4 (fun r16_0 r16_1 r16_2 r16_3 r16_4 =>
(cond ((decide (r15_0 < r16_0)))
(zq108 N r12 r13 r16_1 r16_2 r16_3 r16_4 (fun r17_0 r17_1 r17_2 r17_3 r17_4 =>
zq108 N v8 v9 r17_1 r17_2 r17_3 r17_4 (fun r18_0 r18_1 r18_2 r18_3 r18_4 =>
(cond ((decide (r17_0 < r18_0)))
((gd ((decide (0 ≤ v3)))
((gd ((decide (v3 < (((strOf [48, 49, 50, 51, 52, 53, 54, 55, 56, 57, 97, 98, 99, 100, 101, 102])).size : Int))))
(self r10 r11 r18_1 r18_2 r18_3 r18_4 (fun r19_0 r19_1 r19_2 r19_3 r19_4 =>
(gd ((decide (((strOf (((([] : List Int) ++ [v0]) ++ [(bt ((strOf [48, 49, 50, 51, 52, 53, 54, 55, 56, 57, 97, 98, 99, 100, 101, 102])) v3)])))).size + r19_0.size ≤ 9223372036854775807)))
(self r12 r13 r19_1 r19_2 r19_3 r19_4 (fun r20_0 r20_1 r20_2 r20_3 r20_4 =>
(gd ((decide ((((strOf (((([] : List Int) ++ [v0]) ++ [(bt ((strOf [48, 49, 50, 51, 52, 53, 54, 55, 56, 57, 97, 98, 99, 100, 101, 102])) v3)]))) ++ r19_0)).size + r20_0.size ≤ 9223372036854775807)))
(self r10 r11 r18_1 r18_2 r18_3 r18_4 (fun r21_0 r21_1 r21_2 r21_3 r21_4 =>
(gd ((decide (((strOf (((([] : List Int) ++ [v0]) ++ [(bt ((strOf [48, 49, 50, 51, 52, 53, 54, 55, 56, 57, 97, 98, 99, 100, 101, 102])) v3)])))).size + r21_0.size ≤ 9223372036854775807)))
(self r12 r13 r21_1 r21_2 r21_3 r21_4 (fun r22_0 r22_1 r22_2 r22_3 r22_4 =>
(gd ((decide ((((strOf (((([] : List Int) ++ [v0]) ++ [(bt ((strOf [48, 49, 50, 51, 52, 53, 54, 55, 56, 57, 97, 98, 99, 100, 101, 102])) v3)]))) ++ r21_0)).size + r22_0.size ≤ 9223372036854775807)))
(self r12 r13 r21_1 r21_2 r21_3 r21_4 (fun r23_0 r23_1 r23_2 r23_3 r23_4 =>
(gd ((decide (((strOf (((([] : List Int) ++ [v0]) ++ [(bt ((strOf [48, 49, 50, 51, 52, 53, 54, 55, 56, 57, 97, 98, 99, 100, 101, 102])) v3)])))).size + r21_0.size ≤ 9223372036854775807)))
((gd ((decide ((((strOf (((([] : List Int) ++ [v0]) ++ [(bt ((strOf [48, 49, 50, 51, 52, 53, 54, 55, 56, 57, 97, 98, 99, 100, 101, 102])) v3)]))) ++ r21_0)).size + r23_0.size ≤ 9223372036854775807)))
((zj110 ((((strOf (((([] : List Int) ++ [v0]) ++ [(bt ((strOf [48, 49, 50, 51, 52, 53, 54, 55, 56, 57, 97, 98, 99, 100, 101, 102])) v3)]))) ++ r21_0) ++ r22_0)) r22_1 r22_2 r22_3 r22_4 ((((strOf (((([] : List Int) ++ [v0]) ++ [(bt ((strOf [48, 49, 50, 51, 52, 53, 54, 55, 56, 57, 97, 98, 99, 100, 101, 102])) v3)]))) ++ r21_0) ++ r23_0)) r23_1 r23_2 r23_3 r23_4
((zj110 ((((strOf (((([] : List Int) ++ [v0]) ++ [(bt ((strOf [48, 49, 50, 51, 52, 53, 54, 55, 56, 57, 97, 98, 99, 100, 101, 102])) v3)]))) ++ r19_0) ++ r20_0)) r20_1 r20_2 r20_3 r20_4 ((((strOf (((([] : List Int) ++ [v0]) ++ [(bt ((strOf [48, 49, 50, 51, 52, 53, 54, 55, 56, 57, 97, 98, 99, 100, 101, 102])) v3)]))) ++ r21_0) ++ r22_0)) r22_1 r22_2 r22_3 r22_4
(k0 ((((strOf (((([] : List Int) ++ [v0]) ++ [(bt ((strOf [48, 49, 50, 51, 52, 53, 54, 55, 56, 57, 97, 98, 99, 100, 101, 102])) v3)]))) ++ r19_0) ++ r20_0)) r20_1 r20_2 r20_3 r20_4))))))))))))))))))))))))))
(rec_ v0 v1 v2 ((w64 (v3 + 1))) r18_1 r18_2 r18_3 r18_4 v8 v9 v10)))))
(rec_ v0 v1 v2 ((w64 (v3 + 1))) r16_1 r16_2 r16_3 r16_4 v8 v9 v10)))))
(rec_ v0 v1 v2 ((w64 (v3 + 1))) v4 v5 v6 v7 v8 v9 v10)))
(k1 v1 v2 v4 v5 v6 v7 v8 v9 v10))
theorem zt111 {β : Type} (N : Nat) (self : Int → Int → Int → Int → Int → Mp → (ByteArray → Int → Int → Int → Mp → Option β) → Option β)  (v0 : Int) (v1 : Int) (v2 : Int) (v3 : Int) (v4 : Int) (v5 : Int) (v6 : Int) (v7 : Mp) (v8 : Int) (v9 : Int) (v10 : List Int) (rec_ : Int → Int → Int → Int → Int → Int → Int → Mp → Int → Int → List Int → Option β) (k0 : ByteArray → Int → Int → Int → Mp → Option β) (k1 : Int → Int → Int → Int → Int → Mp → Int → Int → List Int → Option β) : zj111 N self v0 v1 v2 v3 v4 v5 v6 v7 v8 v9 v10 rec_ k0 k1 = zb111 N (zj99 N) (zj108 N) self v0 v1 v2 v3 v4 v5 v6 v7 v8 v9 v10 rec_ k0 k1 := by
  unfold zj111 zb111
  rfl
theorem vst162_1_0 {β : Type} (N : Nat) (zq82 : (a0 : Int) → (k : ByteArray → Option β) → Option β) (zq99 : (a0 : Int) → (a1 : Int) → (a2 : Int) → (a3 : Int) → (k : Int → Int → Int → Int → Bool → Option β) → Option β) (zq114 : (self : Int → Int → Int → Int → Int → Mp → (ByteArray → Int → Int → Int → Mp → Option β) → Option β) → Nat → Int → Int → Int → Int → Int → Mp → Int → Int → List Int → (ByteArray → Int → Int → Int → Mp → Option β) → (Int → Int → Int → Mp → Option β) → Option β) (zq116 : Nat → Int → Int → Int → Int → Int → Mp → (ByteArray → Int → Int → Int → Mp → Option β) → Option β) (zq112 : (self : Int → Int → Int → Int → Int → Mp → (ByteArray → Int → Int → Int → Mp → Option β) → Option β) → Nat → Int → Int → Int → Int → Int → Int → Int → Mp → Int → Int → List Int → (ByteArray → Int → Int → Int → Mp → Option β) → (Int → Int → Int → Int → Int → Mp → Int → Int → List Int → Option β) → Option β) (zq102 : (a0 : Int) → (a1 : Int) → (a2 : Int) → (a3 : Int) → (a4 : Int) → (a5 : Mp) → (k0 : Int → Int → Int → Int → Mp → Option β) → Option β) (zq108 : Nat → Int → Int → Int → Int → Int → Mp → (Int → Int → Int → Int → Mp → Option β) → Option β) (G : Nat)  (v0 : Int) (v1 : Int) (v2 : Int) (v3 : Int) (v4 : Int) (v5 : Int) (v6 : Int) (v7 : Mp) (v8 : Int) (v9 : Int) (v10 : List Int) (rec_ : St → Option β) (K : Exit → St → Option β) :
    ev lay (VE162 N zq82 zq99 zq114 zq116 zq112 zq102 zq108 G) (retMask Tryd.f162) (lp Tryd.f162 1).body (lp Tryd.f162 1).ex ((lp Tryd.f162 1).lv (retMask Tryd.f162)) (h162_1_0  v0 v1 v2 v3 v4 v5 v6 v7 v8 v9 v10) (nextR (fun s' => rec_ (s'.tidy ((lp Tryd.f162 1).lv (retMask Tryd.f162)))) K) = zb111 N zq99 zq108 (zq116 G)  v0 v1 v2 v3 v4 v5 v6 v7 v8 v9 v10 (fun v0 v1 v2 v3 v4 v5 v6 v7 v8 v9 v10 => rec_ (h162_1_0  v0 v1 v2 v3 v4 v5 v6 v7 v8 v9 v10)) (fun y0 y1 y2 y3 y4 => K .ret (x162_1_0_k0  y0 y1 y2 y3 y4)) (fun y0 y1 y2 y3 y4 y5 y6 y7 y8 => K (.exit 2) (x162_1_0_k1  y0 y1 y2 y3 y4 y5 y6 y7 y8)) := by kernel_rfl
theorem st162_1_0 {β : Type} (N : Nat) (G : Nat)  (v0 : Int) (v1 : Int) (v2 : Int) (v3 : Int) (v4 : Int) (v5 : Int) (v6 : Int) (v7 : Mp) (v8 : Int) (v9 : Int) (v10 : List Int) (rec_ : St → Option β) (K : Exit → St → Option β) :
    ev lay (E162 N G) (retMask Tryd.f162) (lp Tryd.f162 1).body (lp Tryd.f162 1).ex ((lp Tryd.f162 1).lv (retMask Tryd.f162)) (h162_1_0  v0 v1 v2 v3 v4 v5 v6 v7 v8 v9 v10) (nextR (fun s' => rec_ (s'.tidy ((lp Tryd.f162 1).lv (retMask Tryd.f162)))) K) = zj111 N (zj116 N G)  v0 v1 v2 v3 v4 v5 v6 v7 v8 v9 v10 (fun v0 v1 v2 v3 v4 v5 v6 v7 v8 v9 v10 => rec_ (h162_1_0  v0 v1 v2 v3 v4 v5 v6 v7 v8 v9 v10)) (fun y0 y1 y2 y3 y4 => K .ret (x162_1_0_k0  y0 y1 y2 y3 y4)) (fun y0 y1 y2 y3 y4 y5 y6 y7 y8 => K (.exit 2) (x162_1_0_k1  y0 y1 y2 y3 y4 y5 y6 y7 y8)) := (vst162_1_0 N (zj82 N) (zj99 N) (zj114 N) (zj116 N) (zj112 N) (zj102 N) (zj108 N) G v0 v1 v2 v3 v4 v5 v6 v7 v8 v9 v10 rec_ K).trans (zt111 N (zj116 N G)  v0 v1 v2 v3 v4 v5 v6 v7 v8 v9 v10 (fun v0 v1 v2 v3 v4 v5 v6 v7 v8 v9 v10 => rec_ (h162_1_0  v0 v1 v2 v3 v4 v5 v6 v7 v8 v9 v10)) (fun y0 y1 y2 y3 y4 => K .ret (x162_1_0_k0  y0 y1 y2 y3 y4)) (fun y0 y1 y2 y3 y4 y5 y6 y7 y8 => K (.exit 2) (x162_1_0_k1  y0 y1 y2 y3 y4 y5 y6 y7 y8))).symm
theorem ro162_1_0 {β : Type} (N : Nat) (G : Nat)  (K : Exit → St → Option β) : ∀ (F : Nat) (v0 : Int) (v1 : Int) (v2 : Int) (v3 : Int) (v4 : Int) (v5 : Int) (v6 : Int) (v7 : Mp) (v8 : Int) (v9 : Int) (v10 : List Int), (lp Tryd.f162 1).rounds lay (E162 N G) (retMask Tryd.f162) F (h162_1_0  v0 v1 v2 v3 v4 v5 v6 v7 v8 v9 v10) K = zj112 N (zj116 N G)  F v0 v1 v2 v3 v4 v5 v6 v7 v8 v9 v10 (fun y0 y1 y2 y3 y4 => K .ret (x162_1_0_k0  y0 y1 y2 y3 y4)) (fun y0 y1 y2 y3 y4 y5 y6 y7 y8 => K (.exit 2) (x162_1_0_k1  y0 y1 y2 y3 y4 y5 y6 y7 y8)) := by
  intro F
  induction F with
  | zero => intros; rfl
  | succ F ih =>
    intros
    rw [rounds_next]
    refine (st162_1_0 N G  _ _ _ _ _ _ _ _ _ _ _ (fun s => (lp Tryd.f162 1).rounds lay (E162 N G) (retMask Tryd.f162) F s K) K).trans ?_
    simp only [ih]
    rfl
theorem lk162_2 {β : Type} (N : Nat) (G : Nat) : lookL (E162 (β := β) N G).loops (lp Tryd.f162 1).id = LS162_2 N G := by kernel_rfl
theorem rk162_2 {β : Type} (N : Nat) (G : Nat) : RoundsOK lay (E162 (β := β) N G) (retMask Tryd.f162) (lp Tryd.f162 1) := by
  intro s K r h
  rw [lk162_2] at h
  unfold LS162_2 VLS162_2 at h
  cases hb : shpSt (h162_1_0 0 0 0 0 0 0 0 [] 0 0 []) s with
  | true =>
    rw [hb, cond_true] at h
    exact ⟨N, by rw [← shpSt_ref hb, fl162_1_0 s]; exact (ro162_1_0 N G  K N (intS (oneA (vT (nx tund s.tmps 7)))) (intS (oneA (vT (nx tund s.tmps 21)))) (intS (oneA (vT (nx tund s.tmps 22)))) (intS (oneA (vT (nx tund s.tmps 26)))) (intS (nx .und (cellsB (nx .dead s.blks 0)) 0)) (intS (nx .und (cellsB (nx .dead s.blks 0)) 1)) (intS (nx .und (cellsB (nx .dead s.blks 0)) 2)) (mpB (nx .dead s.blks 1)) (intS (nx .und (cellsB (nx .dead s.blks 2)) 0)) (intS (nx .und (cellsB (nx .dead s.blks 2)) 1)) (rInts (rowB_ (nx .dead s.blks 3)))).trans h⟩
  | false =>
  rw [hb, cond_false] at h
  clear hb
  cases h
def zb115 {β : Type} (N : Nat) (zq102 : (a0 : Int) → (a1 : Int) → (a2 : Int) → (a3 : Int) → (a4 : Int) → (a5 : Mp) → (k0 : Int → Int → Int → Int → Mp → Option β) → Option β) (zq82 : (a0 : Int) → (k : ByteArray → Option β) → Option β) (zq114 : (self : Int → Int → Int → Int → Int → Mp → (ByteArray → Int → Int → Int → Mp → Option β) → Option β) → Nat → Int → Int → Int → Int → Int → Mp → Int → Int → List Int → (ByteArray → Int → Int → Int → Mp → Option β) → (Int → Int → Int → Mp → Option β) → Option β) (self : Int → Int → Int → Int → Int → Mp → (ByteArray → Int → Int → Int → Mp → Option β) → Option β) (a0 : Int) (a1 : Int) (a2 : Int) (a3 : Int) (a4 : Int) (a5 : Mp) (k0 : ByteArray → Int → Int → Int → Mp → Option β) : Option β :=
zq102 a0 a1 a2 a3 a4 a5 (fun r8_0 r8_1 r8_2 r8_3 r8_4 =>
(cond ((decide (r8_0 ≥ 0)))
(zq82 r8_0 fun r9 =>
k0 r9 r8_1 r8_2 r8_3 r8_4)
(zq114 self  N (((((([] : List Int) ++ [65]) ++ [66])).length : Int)) 0 r8_1 r8_2 r8_3 r8_4 a0 a1 (((([] : List Int) ++ [65]) ++ [66])) (fun e26_0 e26_1 e26_2 e26_3 e26_4 =>
k0 e26_0 e26_1 e26_2 e26_3 e26_4) (fun e27_0 e27_1 e27_2 e27_3 =>
k0 ByteArray.empty e27_0 e27_1 e27_2 e27_3))))
theorem zt115 {β : Type} (N : Nat) (self : Int → Int → Int → Int → Int → Mp → (ByteArray → Int → Int → Int → Mp → Option β) → Option β) (a0 : Int) (a1 : Int) (a2 : Int) (a3 : Int) (a4 : Int) (a5 : Mp) (k0 : ByteArray → Int → Int → Int → Mp → Option β) : zj115 N self a0 a1 a2 a3 a4 a5 k0 = zb115 N (zj102 N) (zj82 N) (zj114 N) self a0 a1 a2 a3 a4 a5 k0 := by
  unfold zj115 zb115
  rfl
theorem ve162_0 {β : Type} (N : Nat) (zq82 : (a0 : Int) → (k : ByteArray → Option β) → Option β) (zq99 : (a0 : Int) → (a1 : Int) → (a2 : Int) → (a3 : Int) → (k : Int → Int → Int → Int → Bool → Option β) → Option β) (zq114 : (self : Int → Int → Int → Int → Int → Mp → (ByteArray → Int → Int → Int → Mp → Option β) → Option β) → Nat → Int → Int → Int → Int → Int → Mp → Int → Int → List Int → (ByteArray → Int → Int → Int → Mp → Option β) → (Int → Int → Int → Mp → Option β) → Option β) (zq116 : Nat → Int → Int → Int → Int → Int → Mp → (ByteArray → Int → Int → Int → Mp → Option β) → Option β) (zq112 : (self : Int → Int → Int → Int → Int → Mp → (ByteArray → Int → Int → Int → Mp → Option β) → Option β) → Nat → Int → Int → Int → Int → Int → Int → Int → Mp → Int → Int → List Int → (ByteArray → Int → Int → Int → Mp → Option β) → (Int → Int → Int → Int → Int → Mp → Int → Int → List Int → Option β) → Option β) (zq102 : (a0 : Int) → (a1 : Int) → (a2 : Int) → (a3 : Int) → (a4 : Int) → (a5 : Mp) → (k0 : Int → Int → Int → Int → Mp → Option β) → Option β) (zq108 : Nat → Int → Int → Int → Int → Int → Mp → (Int → Int → Int → Int → Mp → Option β) → Option β) (G : Nat) (a0 : Int) (a1 : Int) (a2 : Int) (a3 : Int) (a4 : Int) (a5 : Mp) (K : TV → List Blk → Option β) : evFnG lay (VE162 N zq82 zq99 zq114 zq116 zq112 zq102 zq108 G) Tryd.f162 [.v (.one (.ptr 0 0)), .v (.agg [.int .i64 a0, .int .i64 a1])] [.pcells 0 187 [.int .i64 a2, .int .i64 a3, .int .i64 a4, .mp 1], .pmp 1 ⟨true, false⟩ a5] K = zb115 N zq102 zq82 zq114 (zq116 G) a0 a1 a2 a3 a4 a5 (fun y0 y1 y2 y3 y4 => K (.v (.one (.str y0))) [.pcells 0 187 [.int .i64 y1, .int .i64 y2, .int .i64 y3, .mp 1], .pmp 1 ⟨true, false⟩ y4]) := by kernel_rfl
theorem e162_0 {β : Type} (N : Nat) (G : Nat) (a0 : Int) (a1 : Int) (a2 : Int) (a3 : Int) (a4 : Int) (a5 : Mp) (K : TV → List Blk → Option β) : evFnG lay (E162 N G) Tryd.f162 [.v (.one (.ptr 0 0)), .v (.agg [.int .i64 a0, .int .i64 a1])] [.pcells 0 187 [.int .i64 a2, .int .i64 a3, .int .i64 a4, .mp 1], .pmp 1 ⟨true, false⟩ a5] K = zj116 N (G + 1) a0 a1 a2 a3 a4 a5 (fun y0 y1 y2 y3 y4 => K (.v (.one (.str y0))) [.pcells 0 187 [.int .i64 y1, .int .i64 y2, .int .i64 y3, .mp 1], .pmp 1 ⟨true, false⟩ y4]) := (ve162_0 N (zj82 N) (zj99 N) (zj114 N) (zj116 N) (zj112 N) (zj102 N) (zj108 N) G a0 a1 a2 a3 a4 a5 K).trans (zt115 N (zj116 N G) a0 a1 a2 a3 a4 a5 (fun y0 y1 y2 y3 y4 => K (.v (.one (.str y0))) [.pcells 0 187 [.int .i64 y1, .int .i64 y2, .int .i64 y3, .mp 1], .pmp 1 ⟨true, false⟩ y4])).symm
theorem z162 {β : Type} (N : Nat) : ∀ args bl K r, SF162 (β := β) N 0 args bl K = some r → (none : Option β) = some r := by
  intro args bl K r h
  unfold SF162 VSF162 at h
  split at h <;> exact h
theorem of162 {β : Type} (N : Nat) : ∀ G, GOK (β := β) inv Tryd.prog 162 (SF162 N G) := by
  intro G
  induction G with
  | zero => exact g_zero Tryd.func162 (by kernel_rfl) (z162 N)
  | succ G ih =>
    refine g_of lay_ok mixed (E := E162 N G) (specs_loops (specs_cons (o64 N) (specs_cons (o209 N) specs_nil))) muts_nil (gs_cons (o208 N) (gs_cons (o163 N) (gs_cons ih gs_nil))) Tryd.func162 (by kernel_rfl) 2 (by kernel_rfl) ⟨⟨trivial, rk162_0 N G⟩, rk162_2 N G⟩ fun args bl K r h => ?_
    unfold SF162 VSF162 at h
    split at h
    · exact (e162_0 N G _ _ _ _ _ _ _).trans h
    · cases h
theorem o162 {β : Type} (N : Nat) : GOK (β := β) inv Tryd.prog 162 (S162 N) := of162 N N
def VS103 {β : Type} (N : Nat) (zq118 : (a0 : Int) → (a1 : Int) → (a2 : Int) → (k : ByteArray → Bool → Option β) → Option β) : Rv.Spec β := fun args K => match args with
  | [.v (.agg [.int .i64 a0, .int .i64 a1]), .v (.one (.int .i64 a2))] => zq118 a0 a1 a2 (fun z3 z4 => K (.tup [.one (.str z3), .one (.bool z4)]))
  | _ => none
def S103 {β : Type} (N : Nat) : Rv.Spec β := VS103 N (zj118 N)
def VE103 {β : Type} (N : Nat) (zq95 : (a0 : Int) → (a1 : Int) → (a2 : Int) → (k0 : Int → Int → Option β) → (k1 : Int → Int → Int → Int → Int → Mp → Option β) → Option β) (zq116 : Nat → Int → Int → Int → Int → Int → Mp → (ByteArray → Int → Int → Int → Mp → Option β) → Option β) : Env β := ⟨[], [], [], [(161, VS161 N zq95), (162, VS162 N zq116)], ⟨[], [], [153]⟩⟩
def E103 {β : Type} (N : Nat) : Env β := VE103 N (zj95 N) (zj116 N)
def zb118 {β : Type} (N : Nat) (zq95 : (a0 : Int) → (a1 : Int) → (a2 : Int) → (k0 : Int → Int → Option β) → (k1 : Int → Int → Int → Int → Int → Mp → Option β) → Option β) (zq116 : Nat → Int → Int → Int → Int → Int → Mp → (ByteArray → Int → Int → Int → Mp → Option β) → Option β) (a0 : Int) (a1 : Int) (a2 : Int) (k : ByteArray → Bool → Option β) : Option β :=
zq95 a0 a1 a2 (fun r5_0 r5_1 =>
k ByteArray.empty false) (fun r6_0 r6_1 r6_3 r6_4 r6_5 r6_6 =>
zq116 N r6_0 r6_1 r6_3 r6_4 r6_5 r6_6 (fun r7_0 r7_1 r7_2 r7_3 r7_4 =>
k r7_0 true))
theorem zt118 {β : Type} (N : Nat) (a0 : Int) (a1 : Int) (a2 : Int) (k : ByteArray → Bool → Option β) : zj118 N a0 a1 a2 k = zb118 N (zj95 N) (zj116 N) a0 a1 a2 k := by
  unfold zj118 zb118
  rfl
theorem ve103_0 {β : Type} (N : Nat) (zq95 : (a0 : Int) → (a1 : Int) → (a2 : Int) → (k0 : Int → Int → Option β) → (k1 : Int → Int → Int → Int → Int → Mp → Option β) → Option β) (zq116 : Nat → Int → Int → Int → Int → Int → Mp → (ByteArray → Int → Int → Int → Mp → Option β) → Option β)  (a0 : Int) (a1 : Int) (a2 : Int) (K : TV → Option β) : evFn lay (VE103 N zq95 zq116) Tryd.f103 [.v (.agg [.int .i64 a0, .int .i64 a1]), .v (.one (.int .i64 a2))] K = zb118 N zq95 zq116 a0 a1 a2 (fun z3 z4 => K (.tup [.one (.str z3), .one (.bool z4)])) := by kernel_rfl
theorem e103_0 {β : Type} (N : Nat)  (a0 : Int) (a1 : Int) (a2 : Int) (K : TV → Option β) : evFn lay (E103 N) Tryd.f103 [.v (.agg [.int .i64 a0, .int .i64 a1]), .v (.one (.int .i64 a2))] K = zj118 N a0 a1 a2 (fun z3 z4 => K (.tup [.one (.str z3), .one (.bool z4)])) := (ve103_0 N (zj95 N) (zj116 N) a0 a1 a2 K).trans (zt118 N a0 a1 a2 (fun z3 z4 => K (.tup [.one (.str z3), .one (.bool z4)]))).symm
theorem o103 {β : Type} (N : Nat) : SpecOK (β := β) inv Tryd.prog 103 (S103 N) := by
  refine spec_of lay_ok mixed (E := E103 N) (specs_loops specs_nil) muts_nil (gs_cons (o161 N) (gs_cons (o162 N) gs_nil)) Tryd.func103 (by kernel_rfl) 0 (by kernel_rfl) trivial fun args K r h => ?_
  unfold S103 VS103 at h
  split at h
  · exact (e103_0 N _ _ _ _).trans h
  · cases h
def VS104 {β : Type} (N : Nat) (zq119 : (a0 : Int) → (a1 : Int) → (a2 : Int) → (k : Int → Option β) → Option β) : Rv.Spec β := fun args K => match args with
  | [.v (.agg [.int .i64 a0, .int .i64 a1]), .v (.one (.int .i64 a2))] => zq119 a0 a1 a2 (fun z3 => K (.v (.one (.int .i64 z3))))
  | _ => none
def S104 {β : Type} (N : Nat) : Rv.Spec β := VS104 N (zj119 N)
def VE104 {β : Type} (N : Nat) (zq95 : (a0 : Int) → (a1 : Int) → (a2 : Int) → (k0 : Int → Int → Option β) → (k1 : Int → Int → Int → Int → Int → Mp → Option β) → Option β) (zq108 : Nat → Int → Int → Int → Int → Int → Mp → (Int → Int → Int → Int → Mp → Option β) → Option β) : Env β := ⟨[], [], [], [(161, VS161 N zq95), (163, VS163 N zq108)], ⟨[], [], [153]⟩⟩
def E104 {β : Type} (N : Nat) : Env β := VE104 N (zj95 N) (zj108 N)
def zb119 {β : Type} (N : Nat) (zq95 : (a0 : Int) → (a1 : Int) → (a2 : Int) → (k0 : Int → Int → Option β) → (k1 : Int → Int → Int → Int → Int → Mp → Option β) → Option β) (zq108 : Nat → Int → Int → Int → Int → Int → Mp → (Int → Int → Int → Int → Mp → Option β) → Option β) (a0 : Int) (a1 : Int) (a2 : Int) (k : Int → Option β) : Option β :=
zq95 a0 a1 a2 (fun r4_0 r4_1 =>
k (-1)) (fun r5_0 r5_1 r5_3 r5_4 r5_5 r5_6 =>
zq108 N r5_0 r5_1 r5_3 r5_4 r5_5 r5_6 (fun r6_0 r6_1 r6_2 r6_3 r6_4 =>
k r6_0))
theorem zt119 {β : Type} (N : Nat) (a0 : Int) (a1 : Int) (a2 : Int) (k : Int → Option β) : zj119 N a0 a1 a2 k = zb119 N (zj95 N) (zj108 N) a0 a1 a2 k := by
  unfold zj119 zb119
  rfl
theorem ve104_0 {β : Type} (N : Nat) (zq95 : (a0 : Int) → (a1 : Int) → (a2 : Int) → (k0 : Int → Int → Option β) → (k1 : Int → Int → Int → Int → Int → Mp → Option β) → Option β) (zq108 : Nat → Int → Int → Int → Int → Int → Mp → (Int → Int → Int → Int → Mp → Option β) → Option β)  (a0 : Int) (a1 : Int) (a2 : Int) (K : TV → Option β) : evFn lay (VE104 N zq95 zq108) Tryd.f104 [.v (.agg [.int .i64 a0, .int .i64 a1]), .v (.one (.int .i64 a2))] K = zb119 N zq95 zq108 a0 a1 a2 (fun z3 => K (.v (.one (.int .i64 z3)))) := by kernel_rfl
theorem e104_0 {β : Type} (N : Nat)  (a0 : Int) (a1 : Int) (a2 : Int) (K : TV → Option β) : evFn lay (E104 N) Tryd.f104 [.v (.agg [.int .i64 a0, .int .i64 a1]), .v (.one (.int .i64 a2))] K = zj119 N a0 a1 a2 (fun z3 => K (.v (.one (.int .i64 z3)))) := (ve104_0 N (zj95 N) (zj108 N) a0 a1 a2 K).trans (zt119 N a0 a1 a2 (fun z3 => K (.v (.one (.int .i64 z3))))).symm
theorem o104 {β : Type} (N : Nat) : SpecOK (β := β) inv Tryd.prog 104 (S104 N) := by
  refine spec_of lay_ok mixed (E := E104 N) (specs_loops specs_nil) muts_nil (gs_cons (o161 N) (gs_cons (o163 N) gs_nil)) Tryd.func104 (by kernel_rfl) 0 (by kernel_rfl) trivial fun args K r h => ?_
  unfold S104 VS104 at h
  split at h
  · exact (e104_0 N _ _ _ _).trans h
  · cases h
def VS60 {β : Type} (N : Nat) (zq120 : (a0 : List ByteArray) → (a1 : List ByteArray) → (k0 : List ByteArray → List ByteArray → Option β) → Option β) : GSpec β := fun args bl K => match args, bl with
  | [.v (.one (.ptr 0 0)), .v (.one (.row 1))], [.pcells 0 65 [.row 2], .prow 1 9 (.strs a0), .prow 2 9 (.strs a1)] => zq120 a0 a1 (fun y0 y1 => K (.tup []) [.pcells 0 65 [.row 2], .prow 1 9 (.strs y0), .row 9 (.strs y1)])
  | _, _ => none
def S60 {β : Type} (N : Nat) : GSpec β := VS60 N (zj120 N)
def VE60 {β : Type} (N : Nat) : Env β := ⟨[], [], [], [], ⟨[], [], [153]⟩⟩
def E60 {β : Type} (N : Nat) : Env β := VE60 N
def zb120 {β : Type} (N : Nat) (a0 : List ByteArray) (a1 : List ByteArray) (k0 : List ByteArray → List ByteArray → Option β) : Option β :=
(gd ((decide ((a1.length + a0.length) * 16 ≤ 140737488355328)))
(k0 a0 ((a1 ++ a0))))
theorem zt120 {β : Type} (N : Nat) (a0 : List ByteArray) (a1 : List ByteArray) (k0 : List ByteArray → List ByteArray → Option β) : zj120 N a0 a1 k0 = zb120 N a0 a1 k0 := by
  unfold zj120 zb120
  rfl
theorem ve60_0 {β : Type} (N : Nat) (a0 : List ByteArray) (a1 : List ByteArray) (K : TV → List Blk → Option β) : evFnG lay (VE60 N) Tryd.f60 [.v (.one (.ptr 0 0)), .v (.one (.row 1))] [.pcells 0 65 [.row 2], .prow 1 9 (.strs a0), .prow 2 9 (.strs a1)] K = zb120 N a0 a1 (fun y0 y1 => K (.tup []) [.pcells 0 65 [.row 2], .prow 1 9 (.strs y0), .row 9 (.strs y1)]) := by kernel_rfl
theorem e60_0 {β : Type} (N : Nat) (a0 : List ByteArray) (a1 : List ByteArray) (K : TV → List Blk → Option β) : evFnG lay (E60 N) Tryd.f60 [.v (.one (.ptr 0 0)), .v (.one (.row 1))] [.pcells 0 65 [.row 2], .prow 1 9 (.strs a0), .prow 2 9 (.strs a1)] K = zj120 N a0 a1 (fun y0 y1 => K (.tup []) [.pcells 0 65 [.row 2], .prow 1 9 (.strs y0), .row 9 (.strs y1)]) := (ve60_0 N a0 a1 K).trans (zt120 N a0 a1 (fun y0 y1 => K (.tup []) [.pcells 0 65 [.row 2], .prow 1 9 (.strs y0), .row 9 (.strs y1)])).symm
theorem o60 {β : Type} (N : Nat) : GOK (β := β) inv Tryd.prog 60 (S60 N) := by
  refine g_of lay_ok mixed (E := E60 N) (specs_loops specs_nil) muts_nil gs_nil Tryd.func60 (by kernel_rfl) 0 (by kernel_rfl) trivial fun args bl K r h => ?_
  unfold S60 VS60 at h
  split at h
  · exact (e60_0 N _ _ _).trans h
  · cases h
def VS68 {β : Type} (N : Nat) (zq121 : (a0 : List ByteArray) → (k0 : ByteArray → List ByteArray → Option β) → Option β) : GSpec β := fun args bl K => match args, bl with
  | [.v (.one (.ptr 0 0))], [.pcells 0 65 [.row 1], .prow 1 9 (.strs a0)] => zq121 a0 (fun y0 y1 => K (.v (.one (.str y0))) [.pcells 0 65 [.row 1], .prow 1 9 (.strs y1)])
  | _, _ => none
def S68 {β : Type} (N : Nat) : GSpec β := VS68 N (zj121 N)
def VE68 {β : Type} (N : Nat) : Env β := ⟨[(126, S126 N)], [], [], [], ⟨[], [], [153]⟩⟩
def E68 {β : Type} (N : Nat) : Env β := VE68 N
def zb121 {β : Type} (N : Nat) (a0 : List ByteArray) (k0 : ByteArray → List ByteArray → Option β) : Option β :=
strings_Join N a0 ((strOf [32])) fun r23 =>
k0 r23 a0
theorem zt121 {β : Type} (N : Nat) (a0 : List ByteArray) (k0 : ByteArray → List ByteArray → Option β) : zj121 N a0 k0 = zb121 N a0 k0 := by
  unfold zj121 zb121
  rfl
theorem ve68_0 {β : Type} (N : Nat) (a0 : List ByteArray) (K : TV → List Blk → Option β) : evFnG lay (VE68 N) Tryd.f68 [.v (.one (.ptr 0 0))] [.pcells 0 65 [.row 1], .prow 1 9 (.strs a0)] K = zb121 N a0 (fun y0 y1 => K (.v (.one (.str y0))) [.pcells 0 65 [.row 1], .prow 1 9 (.strs y1)]) := by kernel_rfl
theorem e68_0 {β : Type} (N : Nat) (a0 : List ByteArray) (K : TV → List Blk → Option β) : evFnG lay (E68 N) Tryd.f68 [.v (.one (.ptr 0 0))] [.pcells 0 65 [.row 1], .prow 1 9 (.strs a0)] K = zj121 N a0 (fun y0 y1 => K (.v (.one (.str y0))) [.pcells 0 65 [.row 1], .prow 1 9 (.strs y1)]) := (ve68_0 N a0 K).trans (zt121 N a0 (fun y0 y1 => K (.v (.one (.str y0))) [.pcells 0 65 [.row 1], .prow 1 9 (.strs y1)])).symm
theorem o68 {β : Type} (N : Nat) : GOK (β := β) inv Tryd.prog 68 (S68 N) := by
  refine g_of lay_ok mixed (E := E68 N) (specs_loops (specs_cons (o126 N) specs_nil)) muts_nil gs_nil Tryd.func68 (by kernel_rfl) 0 (by kernel_rfl) trivial fun args bl K r h => ?_
  unfold S68 VS68 at h
  split at h
  · exact (e68_0 N _ _).trans h
  · cases h
def VS30 {β : Type} (N : Nat) (zq122 : (a0 : Int) → (a1 : Int) → (a2 : Int) → (k : ByteArray → Option β) → Option β) : Rv.Spec β := fun args K => match args with
  | [.v (.agg [.int .i64 a0, .int .i64 a1]), .v (.one (.int .i64 a2))] => zq122 a0 a1 a2 (fun z3 => K (.v (.one (.str z3))))
  | _ => none
def S30 {β : Type} (N : Nat) : Rv.Spec β := VS30 N (zj122 N)
def VE30 {β : Type} (N : Nat) (zq62 : (a0 : Int) → (a1 : Int) → (a2 : Int) → (k : Bool → Option β) → Option β) (zq66 : (a0 : Int) → (a1 : Int) → (a2 : Int) → (k : List Int → Option β) → Option β) (zq81 : (a0 : Int) → (a1 : Int) → (a2 : Int) → (a3 : Int) → (k : List Int → Bool → Option β) → Option β) (zq85 : (a0 : List Int) → (k : ByteArray → Option β) → Option β) (zq91 : (a0 : List Int) → (k : Int → Option β) → Option β) (zq82 : (a0 : Int) → (k : ByteArray → Option β) → Option β) (zq94 : (a0 : List Int) → (k : Int → Option β) → Option β) (zq118 : (a0 : Int) → (a1 : Int) → (a2 : Int) → (k : ByteArray → Bool → Option β) → Option β) (zq119 : (a0 : Int) → (a1 : Int) → (a2 : Int) → (k : Int → Option β) → Option β) (zq120 : (a0 : List ByteArray) → (a1 : List ByteArray) → (k0 : List ByteArray → List ByteArray → Option β) → Option β) (zq121 : (a0 : List ByteArray) → (k0 : ByteArray → List ByteArray → Option β) → Option β) : Env β := ⟨[(98, VS98 N zq62), (99, VS99 N zq66), (100, VS100 N zq81), (61, VS61 N zq85), (101, VS101 N zq91), (64, VS64 N zq82), (102, VS102 N zq94), (103, VS103 N zq118), (104, VS104 N zq119)], [], [], [(60, VS60 N zq120), (68, VS68 N zq121)], ⟨[100], [], [153]⟩⟩
def E30 {β : Type} (N : Nat) : Env β := VE30 N (zj62 N) (zj66 N) (zj81 N) (zj85 N) (zj91 N) (zj82 N) (zj94 N) (zj118 N) (zj119 N) (zj120 N) (zj121 N)
def zb122 {β : Type} (N : Nat) (zq62 : (a0 : Int) → (a1 : Int) → (a2 : Int) → (k : Bool → Option β) → Option β) (zq66 : (a0 : Int) → (a1 : Int) → (a2 : Int) → (k : List Int → Option β) → Option β) (zq81 : (a0 : Int) → (a1 : Int) → (a2 : Int) → (a3 : Int) → (k : List Int → Bool → Option β) → Option β) (zq85 : (a0 : List Int) → (k : ByteArray → Option β) → Option β) (zq91 : (a0 : List Int) → (k : Int → Option β) → Option β) (zq82 : (a0 : Int) → (k : ByteArray → Option β) → Option β) (zq94 : (a0 : List Int) → (k : Int → Option β) → Option β) (zq120 : (a0 : List ByteArray) → (a1 : List ByteArray) → (k0 : List ByteArray → List ByteArray → Option β) → Option β) (zq118 : (a0 : Int) → (a1 : Int) → (a2 : Int) → (k : ByteArray → Bool → Option β) → Option β) (zq119 : (a0 : Int) → (a1 : Int) → (a2 : Int) → (k : Int → Option β) → Option β) (zq121 : (a0 : List ByteArray) → (k0 : ByteArray → List ByteArray → Option β) → Option β) (a0 : Int) (a1 : Int) (a2 : Int) (k : ByteArray → Option β) : Option β :=
zq62 a0 a1 a2 fun r4 =>
(cond (!r4)
(k ByteArray.empty)
((cond ((decide (a0 > 4)))
(k ByteArray.empty)
(zq66 a0 a1 a2 fun r5 =>
zq81 a0 a1 a2 0 fun r6 r7 =>
zq81 a0 a1 a2 1 fun r8 r9 =>
zq85 r5 fun r10 =>
zq91 r5 fun r11 =>
zq82 r11 fun r12 =>
zq94 r5 fun r13 =>
zq82 r13 fun r14 =>
zq120 ((((((((([] : List ByteArray) ++ [(strOf [115, 112, 108, 105, 116])]) ++ [(strOf [114, 111, 119, 115])]) ++ [r10]) ++ [(strOf [114, 97, 110, 107])]) ++ [r12]) ++ [(strOf [100, 105, 102, 102, 101, 114, 101, 110, 116])]) ++ [r14])) (([] : List ByteArray)) (fun r15_0 r15_1 =>
zq85 (((([] : List Int) ++ [(r6.length : Int)]) ++ [(r8.length : Int)])) fun r16 =>
zq120 (((([] : List ByteArray) ++ [(strOf [102, 111, 111, 108, 105, 110, 103])]) ++ [r16])) r15_1 (fun r17_0 r17_1 =>
zq118 a0 a1 a2 fun r18 r19 =>
(cond r19
(zq119 a0 a1 a2 fun r20 =>
zq82 r20 fun r21 =>
zq120 (((((([] : List ByteArray) ++ [(strOf [98, 105, 116, 115])]) ++ [r21]) ++ [(strOf [112, 114, 111, 116, 111, 99, 111, 108])]) ++ [r18])) r17_1 (fun r22_0 r22_1 =>
zq121 r22_1 (fun r23_0 r23_1 =>
k r23_0)))
(zq121 r17_1 (fun r24_0 r24_1 =>
k r24_0)))))))))
theorem zt122 {β : Type} (N : Nat) (a0 : Int) (a1 : Int) (a2 : Int) (k : ByteArray → Option β) : zj122 N a0 a1 a2 k = zb122 N (zj62 N) (zj66 N) (zj81 N) (zj85 N) (zj91 N) (zj82 N) (zj94 N) (zj120 N) (zj118 N) (zj119 N) (zj121 N) a0 a1 a2 k := by
  unfold zj122 zb122
  rfl
theorem ve30_0 {β : Type} (N : Nat) (zq62 : (a0 : Int) → (a1 : Int) → (a2 : Int) → (k : Bool → Option β) → Option β) (zq66 : (a0 : Int) → (a1 : Int) → (a2 : Int) → (k : List Int → Option β) → Option β) (zq81 : (a0 : Int) → (a1 : Int) → (a2 : Int) → (a3 : Int) → (k : List Int → Bool → Option β) → Option β) (zq85 : (a0 : List Int) → (k : ByteArray → Option β) → Option β) (zq91 : (a0 : List Int) → (k : Int → Option β) → Option β) (zq82 : (a0 : Int) → (k : ByteArray → Option β) → Option β) (zq94 : (a0 : List Int) → (k : Int → Option β) → Option β) (zq118 : (a0 : Int) → (a1 : Int) → (a2 : Int) → (k : ByteArray → Bool → Option β) → Option β) (zq119 : (a0 : Int) → (a1 : Int) → (a2 : Int) → (k : Int → Option β) → Option β) (zq120 : (a0 : List ByteArray) → (a1 : List ByteArray) → (k0 : List ByteArray → List ByteArray → Option β) → Option β) (zq121 : (a0 : List ByteArray) → (k0 : ByteArray → List ByteArray → Option β) → Option β)  (a0 : Int) (a1 : Int) (a2 : Int) (K : TV → Option β) : evFn lay (VE30 N zq62 zq66 zq81 zq85 zq91 zq82 zq94 zq118 zq119 zq120 zq121) Tryd.f30 [.v (.agg [.int .i64 a0, .int .i64 a1]), .v (.one (.int .i64 a2))] K = zb122 N zq62 zq66 zq81 zq85 zq91 zq82 zq94 zq120 zq118 zq119 zq121 a0 a1 a2 (fun z3 => K (.v (.one (.str z3)))) := by kernel_rfl
theorem e30_0 {β : Type} (N : Nat)  (a0 : Int) (a1 : Int) (a2 : Int) (K : TV → Option β) : evFn lay (E30 N) Tryd.f30 [.v (.agg [.int .i64 a0, .int .i64 a1]), .v (.one (.int .i64 a2))] K = zj122 N a0 a1 a2 (fun z3 => K (.v (.one (.str z3)))) := (ve30_0 N (zj62 N) (zj66 N) (zj81 N) (zj85 N) (zj91 N) (zj82 N) (zj94 N) (zj118 N) (zj119 N) (zj120 N) (zj121 N) a0 a1 a2 K).trans (zt122 N a0 a1 a2 (fun z3 => K (.v (.one (.str z3))))).symm
theorem o30 {β : Type} (N : Nat) : SpecOK (β := β) inv Tryd.prog 30 (S30 N) := by
  refine spec_of lay_ok mixed (E := E30 N) (specs_loops (specs_cons (o98 N) (specs_cons (o99 N) (specs_cons (o100 N) (specs_cons (o61 N) (specs_cons (o101 N) (specs_cons (o64 N) (specs_cons (o102 N) (specs_cons (o103 N) (specs_cons (o104 N) specs_nil)))))))))) muts_nil (gs_cons (o60 N) (gs_cons (o68 N) gs_nil)) Tryd.func30 (by kernel_rfl) 0 (by kernel_rfl) trivial fun args K r h => ?_
  unfold S30 VS30 at h
  split at h
  · exact (e30_0 N _ _ _ _).trans h
  · cases h
def VS9 {β : Type} (N : Nat) (q_laws_FnExactSplitLine : (a0 : Int) → (a1 : Int) → (a2 : Int) → (k : Bool → Option β) → Option β) : Rv.Spec β := fun args K => match args with
  | [.v (.agg [.int .i64 a0, .int .i64 a1]), .v (.one (.int .i64 a2))] => q_laws_FnExactSplitLine a0 a1 a2 (fun z3 => K (.v (.one (.bool z3))))
  | _ => none
def S9 {β : Type} (N : Nat) : Rv.Spec β := VS9 N (laws_FnExactSplitLine N)
def VE9 {β : Type} (N : Nat) (zq0 : (a0 : Int) → (a1 : Int) → (k : Int → Int → Option β) → Option β) (zq58 : (a0 : Int) → (a1 : Int) → (a2 : Int) → (k : ByteArray → Option β) → Option β) (zq122 : (a0 : Int) → (a1 : Int) → (a2 : Int) → (k : ByteArray → Option β) → Option β) : Env β := ⟨[(11, VS11 N zq0), (29, VS29 N zq58), (30, VS30 N zq122)], [], [], [], ⟨[], [], [153]⟩⟩
def E9 {β : Type} (N : Nat) : Env β := VE9 N (zj0 N) (zj58 N) (zj122 N)
def BV_laws_FnExactSplitLine {β : Type} (N : Nat) (zq0 : (a0 : Int) → (a1 : Int) → (k : Int → Int → Option β) → Option β) (zq58 : (a0 : Int) → (a1 : Int) → (a2 : Int) → (k : ByteArray → Option β) → Option β) (zq122 : (a0 : Int) → (a1 : Int) → (a2 : Int) → (k : ByteArray → Option β) → Option β) (a0 : Int) (a1 : Int) (a2 : Int) (k : Bool → Option β) : Option β :=
zq0 a0 a1 fun r4 r5 =>
zq58 r4 r5 a2 fun r6 =>
zq0 a0 a1 fun r7 r8 =>
zq122 r7 r8 a2 fun r9 =>
(cond ((!(r9.toList == r6.toList)))
(k false)
(k true))
theorem t_laws_FnExactSplitLine {β : Type} (N : Nat) (a0 : Int) (a1 : Int) (a2 : Int) (k : Bool → Option β) : laws_FnExactSplitLine N a0 a1 a2 k = BV_laws_FnExactSplitLine N (zj0 N) (zj58 N) (zj122 N) a0 a1 a2 k := by
  unfold laws_FnExactSplitLine BV_laws_FnExactSplitLine
  rfl
theorem ve9_0 {β : Type} (N : Nat) (zq0 : (a0 : Int) → (a1 : Int) → (k : Int → Int → Option β) → Option β) (zq58 : (a0 : Int) → (a1 : Int) → (a2 : Int) → (k : ByteArray → Option β) → Option β) (zq122 : (a0 : Int) → (a1 : Int) → (a2 : Int) → (k : ByteArray → Option β) → Option β)  (a0 : Int) (a1 : Int) (a2 : Int) (K : TV → Option β) : evFn lay (VE9 N zq0 zq58 zq122) Tryd.f9 [.v (.agg [.int .i64 a0, .int .i64 a1]), .v (.one (.int .i64 a2))] K = BV_laws_FnExactSplitLine N zq0 zq58 zq122 a0 a1 a2 (fun z3 => K (.v (.one (.bool z3)))) := by kernel_rfl
theorem e9_0 {β : Type} (N : Nat)  (a0 : Int) (a1 : Int) (a2 : Int) (K : TV → Option β) : evFn lay (E9 N) Tryd.f9 [.v (.agg [.int .i64 a0, .int .i64 a1]), .v (.one (.int .i64 a2))] K = laws_FnExactSplitLine N a0 a1 a2 (fun z3 => K (.v (.one (.bool z3)))) := (ve9_0 N (zj0 N) (zj58 N) (zj122 N) a0 a1 a2 K).trans (t_laws_FnExactSplitLine N a0 a1 a2 (fun z3 => K (.v (.one (.bool z3))))).symm
theorem o9 {β : Type} (N : Nat) : SpecOK (β := β) inv Tryd.prog 9 (S9 N) := by
  refine spec_of lay_ok mixed (E := E9 N) (specs_loops (specs_cons (o11 N) (specs_cons (o29 N) (specs_cons (o30 N) specs_nil)))) muts_nil gs_nil Tryd.func9 (by kernel_rfl) 0 (by kernel_rfl) trivial fun args K r h => ?_
  unfold S9 VS9 at h
  split at h
  · exact (e9_0 N _ _ _ _).trans h
  · cases h
end Go.Proofs.YtfdggelojmofmaaDoor
