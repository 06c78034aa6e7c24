/- The functions that the claims reach answer as their texts do. -/
import Derived.Test.YtddflpokemgnmaaDoorE3
namespace Go.Proofs.YtddflpokemgnmaaDoor
open Go.Rv
set_option maxRecDepth 100000
set_option maxHeartbeats 2000000
set_option linter.unusedVariables false
variable {β : Type}
def VSF26 (N : Nat) (zq55 : Nat → Int → Int → Int → Int → Int → Mp → (ByteArray → Int → Int → Int → Mp → O β) → O β) (G : Nat) : GSpec β := fun args bl K => match args, bl with
  | [.v (.one (.ptr 0 0)), .v (.agg [.int .i64 a0, .int .i64 a1])], [.pcells 0 83 [.int .i64 a2, .int .i64 a3, .int .i64 a4, .mp 1], .pmp 1 ⟨true, false⟩ a5] => zq55 G a0 a1 a2 a3 a4 a5 (fun y0 y1 y2 y3 y4 => K (.v (.one (.str y0))) [.pcells 0 83 [.int .i64 y1, .int .i64 y2, .int .i64 y3, .mp 1], .pmp 1 ⟨true, false⟩ y4])
  | _, _ => none
def SF26 (N : Nat) (G : Nat) : GSpec β := VSF26 N (zj55 N) G
def VS26 (N : Nat) (zq55 : Nat → Int → Int → Int → Int → Int → Mp → (ByteArray → Int → Int → Int → Mp → O β) → O β) : GSpec β := VSF26 N zq55 N
def S26 (N : Nat) : GSpec β := SF26 N N
def h26_0_0  (v0 : Int) (v1 : Int) (v2 : Int) (v3 : Int) (v4 : Int) (v5 : Mp) (v6 : Int) (v7 : Int) (v8 : List Int) : St := ⟨.v (.one (.ptr 0 0)) :: tund :: tund :: .v (.one (.ptr 2 0)) :: tund :: tund :: tund :: tund :: tund :: tund :: tund :: tund :: tund :: tund :: tund :: tund :: tund :: tund :: tund :: tund :: .v (.one (.row 3)) :: .v (.one (.int .i64 v0)) :: .v (.one (.int .i64 v1)) :: tund :: tund :: tund :: tund :: tund :: tund :: tund :: tund :: tund :: tund :: tund :: tund :: tund :: tund :: tund :: tund :: tund :: tund :: tund :: tund :: tund :: tund :: tund :: tund :: tund :: tund :: tund :: tund :: tund :: tund :: tund :: tund :: tund :: tund :: tund :: tund :: tund :: tund :: tund :: tund :: tund :: tund :: tund :: tund :: tund :: tund :: tund :: tund :: [], [.pcells 0 83 [.int .i64 v2, .int .i64 v3, .int .i64 v4, .mp 1], .pmp 1 ⟨true, false⟩ v5, .cells 45 [.int .i64 v6, .int .i64 v7], .srow 5 (.ints .u8 v8)]⟩
def x26_0_0_k0  (y0 : ByteArray) (y1 : Int) (y2 : Int) (y3 : Int) (y4 : Mp) : St := ⟨tund :: tund :: tund :: tund :: .v (.one (.str y0)) :: tund :: tund :: tund :: tund :: tund :: tund :: tund :: tund :: tund :: tund :: tund :: tund :: tund :: tund :: tund :: tund :: tund :: tund :: tund :: tund :: tund :: tund :: tund :: tund :: tund :: tund :: tund :: tund :: tund :: tund :: tund :: tund :: tund :: tund :: tund :: tund :: tund :: tund :: tund :: tund :: tund :: tund :: tund :: tund :: tund :: tund :: tund :: tund :: tund :: tund :: tund :: tund :: tund :: tund :: tund :: tund :: tund :: tund :: tund :: tund :: tund :: tund :: tund :: tund :: tund :: tund :: [], [.pcells 0 83 [.int .i64 y1, .int .i64 y2, .int .i64 y3, .mp 1], .pmp 1 ⟨true, false⟩ y4]⟩
def x26_0_0_k1  (y0 : Int) (y1 : Int) (y2 : Int) (y3 : Mp) : St := ⟨tund :: tund :: tund :: tund :: tund :: tund :: tund :: tund :: tund :: tund :: tund :: tund :: tund :: tund :: tund :: tund :: tund :: tund :: tund :: tund :: tund :: tund :: tund :: tund :: tund :: tund :: tund :: tund :: tund :: tund :: tund :: tund :: tund :: tund :: tund :: tund :: tund :: tund :: tund :: tund :: tund :: tund :: tund :: tund :: tund :: tund :: tund :: tund :: tund :: tund :: tund :: tund :: tund :: tund :: tund :: tund :: tund :: tund :: tund :: tund :: tund :: tund :: tund :: tund :: tund :: tund :: tund :: tund :: tund :: tund :: tund :: [], [.pcells 0 83 [.int .i64 y0, .int .i64 y1, .int .i64 y2, .mp 1], .pmp 1 ⟨true, false⟩ y3]⟩
def h26_1_0  (v0 : Int) (v1 : Int) (v2 : Int) (v3 : Int) (v4 : Int) (v5 : Int) (v6 : Int) (v7 : Mp) (v8 : Int) (v9 : Int) (v10 : List Int) : St := ⟨.v (.one (.ptr 0 0)) :: tund :: tund :: .v (.one (.ptr 2 0)) :: tund :: tund :: tund :: .v (.one (.int .u8 v0)) :: tund :: tund :: tund :: tund :: tund :: tund :: tund :: tund :: tund :: tund :: tund :: tund :: .v (.one (.row 3)) :: .v (.one (.int .i64 v1)) :: .v (.one (.int .i64 v2)) :: tund :: tund :: tund :: .v (.one (.int .i64 v3)) :: tund :: tund :: tund :: tund :: tund :: tund :: tund :: tund :: tund :: tund :: tund :: tund :: tund :: tund :: tund :: tund :: tund :: tund :: tund :: tund :: tund :: tund :: tund :: tund :: tund :: tund :: tund :: tund :: tund :: tund :: tund :: tund :: tund :: tund :: tund :: tund :: tund :: tund :: tund :: tund :: tund :: tund :: tund :: tund :: [], [.pcells 0 83 [.int .i64 v4, .int .i64 v5, .int .i64 v6, .mp 1], .pmp 1 ⟨true, false⟩ v7, .cells 45 [.int .i64 v8, .int .i64 v9], .srow 5 (.ints .u8 v10)]⟩
def x26_1_0_k0  (y0 : ByteArray) (y1 : Int) (y2 : Int) (y3 : Int) (y4 : Mp) : St := ⟨tund :: tund :: tund :: tund :: .v (.one (.str y0)) :: tund :: tund :: tund :: tund :: tund :: tund :: tund :: tund :: tund :: tund :: tund :: tund :: tund :: tund :: tund :: tund :: tund :: tund :: tund :: tund :: tund :: tund :: tund :: tund :: tund :: tund :: tund :: tund :: tund :: tund :: tund :: tund :: tund :: tund :: tund :: tund :: tund :: tund :: tund :: tund :: tund :: tund :: tund :: tund :: tund :: tund :: tund :: tund :: tund :: tund :: tund :: tund :: tund :: tund :: tund :: tund :: tund :: tund :: tund :: tund :: tund :: tund :: tund :: tund :: tund :: tund :: [], [.pcells 0 83 [.int .i64 y1, .int .i64 y2, .int .i64 y3, .mp 1], .pmp 1 ⟨true, false⟩ y4]⟩
def x26_1_0_k1  (y0 : Int) (y1 : Int) (y2 : Int) (y3 : Int) (y4 : Int) (y5 : Mp) (y6 : Int) (y7 : Int) (y8 : List Int) : St := ⟨.v (.one (.ptr 0 0)) :: tund :: tund :: .v (.one (.ptr 2 0)) :: tund :: tund :: tund :: tund :: tund :: tund :: tund :: tund :: tund :: tund :: tund :: tund :: tund :: tund :: tund :: tund :: .v (.one (.row 3)) :: .v (.one (.int .i64 y0)) :: .v (.one (.int .i64 y1)) :: tund :: tund :: tund :: tund :: tund :: tund :: tund :: tund :: tund :: tund :: tund :: tund :: tund :: tund :: tund :: tund :: tund :: tund :: tund :: tund :: tund :: tund :: tund :: tund :: tund :: tund :: tund :: tund :: tund :: tund :: tund :: tund :: tund :: tund :: tund :: tund :: tund :: tund :: tund :: tund :: tund :: tund :: tund :: tund :: tund :: tund :: tund :: tund :: [], [.pcells 0 83 [.int .i64 y2, .int .i64 y3, .int .i64 y4, .mp 1], .pmp 1 ⟨true, false⟩ y5, .cells 45 [.int .i64 y6, .int .i64 y7], .srow 5 (.ints .u8 y8)]⟩
theorem fl26_0_0 (s : St) : refSt (h26_0_0 0 0 0 0 0 [] 0 0 []) s = h26_0_0 (intS (oneA (vT (nx tund s.tmps 21)))) (intS (oneA (vT (nx tund s.tmps 22)))) (intS (nx .und (cellsB (nx .dead s.blks 0)) 0)) (intS (nx .und (cellsB (nx .dead s.blks 0)) 1)) (intS (nx .und (cellsB (nx .dead s.blks 0)) 2)) (mpB (nx .dead s.blks 1)) (intS (nx .und (cellsB (nx .dead s.blks 2)) 0)) (intS (nx .und (cellsB (nx .dead s.blks 2)) 1)) (rInts (rowB_ (nx .dead s.blks 3))) := by kernel_rfl
def VLS26_0 (N : Nat) (zq53 : (self : Int → Int → Int → Int → Int → Mp → (ByteArray → Int → Int → Int → Mp → O β) → O β) → Nat → Int → Int → Int → Int → Int → Mp → Int → Int → List Int → (ByteArray → Int → Int → Int → Mp → O β) → (Int → Int → Int → Mp → O β) → O β) (zq55 : Nat → Int → Int → Int → Int → Int → Mp → (ByteArray → Int → Int → Int → Mp → O β) → O β) (G : Nat) : LSpec β := fun s K => cond (shpSt (h26_0_0 0 0 0 0 0 [] 0 0 []) s) ((fun (v0 : Int) (v1 : Int) (v2 : Int) (v3 : Int) (v4 : Int) (v5 : Mp) (v6 : Int) (v7 : Int) (v8 : List Int) => zq53 (zq55 G)  N v0 v1 v2 v3 v4 v5 v6 v7 v8 (fun y0 y1 y2 y3 y4 => K .ret (x26_0_0_k0  y0 y1 y2 y3 y4)) (fun y0 y1 y2 y3 => K (.exit 0) (x26_0_0_k1  y0 y1 y2 y3))) (intS (oneA (vT (nx tund s.tmps 21)))) (intS (oneA (vT (nx tund s.tmps 22)))) (intS (nx .und (cellsB (nx .dead s.blks 0)) 0)) (intS (nx .und (cellsB (nx .dead s.blks 0)) 1)) (intS (nx .und (cellsB (nx .dead s.blks 0)) 2)) (mpB (nx .dead s.blks 1)) (intS (nx .und (cellsB (nx .dead s.blks 2)) 0)) (intS (nx .und (cellsB (nx .dead s.blks 2)) 1)) (rInts (rowB_ (nx .dead s.blks 3)))) (none)
def LS26_0 (N : Nat) (G : Nat) : LSpec β := VLS26_0 N (zj53 N) (zj55 N) G
theorem fl26_1_0 (s : St) : refSt (h26_1_0 0 0 0 0 0 0 0 [] 0 0 []) s = h26_1_0 (intS (oneA (vT (nx tund s.tmps 7)))) (intS (oneA (vT (nx tund s.tmps 21)))) (intS (oneA (vT (nx tund s.tmps 22)))) (intS (oneA (vT (nx tund s.tmps 26)))) (intS (nx .und (cellsB (nx .dead s.blks 0)) 0)) (intS (nx .und (cellsB (nx .dead s.blks 0)) 1)) (intS (nx .und (cellsB (nx .dead s.blks 0)) 2)) (mpB (nx .dead s.blks 1)) (intS (nx .und (cellsB (nx .dead s.blks 2)) 0)) (intS (nx .und (cellsB (nx .dead s.blks 2)) 1)) (rInts (rowB_ (nx .dead s.blks 3))) := by kernel_rfl
def VLS26_2 (N : Nat) (zq51 : (self : Int → Int → Int → Int → Int → Mp → (ByteArray → Int → Int → Int → Mp → O β) → O β) → Nat → Int → Int → Int → Int → Int → Int → Int → Mp → Int → Int → List Int → (ByteArray → Int → Int → Int → Mp → O β) → (Int → Int → Int → Int → Int → Mp → Int → Int → List Int → O β) → O β) (zq55 : Nat → Int → Int → Int → Int → Int → Mp → (ByteArray → Int → Int → Int → Mp → O β) → O β) (G : Nat) : LSpec β := fun s K => cond (shpSt (h26_1_0 0 0 0 0 0 0 0 [] 0 0 []) s) ((fun (v0 : Int) (v1 : Int) (v2 : Int) (v3 : Int) (v4 : Int) (v5 : Int) (v6 : Int) (v7 : Mp) (v8 : Int) (v9 : Int) (v10 : List Int) => zq51 (zq55 G)  N v0 v1 v2 v3 v4 v5 v6 v7 v8 v9 v10 (fun y0 y1 y2 y3 y4 => K .ret (x26_1_0_k0  y0 y1 y2 y3 y4)) (fun y0 y1 y2 y3 y4 y5 y6 y7 y8 => K (.exit 2) (x26_1_0_k1  y0 y1 y2 y3 y4 y5 y6 y7 y8))) (intS (oneA (vT (nx tund s.tmps 7)))) (intS (oneA (vT (nx tund s.tmps 21)))) (intS (oneA (vT (nx tund s.tmps 22)))) (intS (oneA (vT (nx tund s.tmps 26)))) (intS (nx .und (cellsB (nx .dead s.blks 0)) 0)) (intS (nx .und (cellsB (nx .dead s.blks 0)) 1)) (intS (nx .und (cellsB (nx .dead s.blks 0)) 2)) (mpB (nx .dead s.blks 1)) (intS (nx .und (cellsB (nx .dead s.blks 2)) 0)) (intS (nx .und (cellsB (nx .dead s.blks 2)) 1)) (rInts (rowB_ (nx .dead s.blks 3)))) (none)
def LS26_2 (N : Nat) (G : Nat) : LSpec β := VLS26_2 N (zj51 N) (zj55 N) G
def VE26 (N : Nat) (zq33 : (a0 : Int) → (k : ByteArray → O β) → O β) (zq37 : (a0 : Int) → (a1 : Int) → (a2 : Int) → (a3 : Int) → (k : Int → Int → Int → Int → Bool → O β) → O β) (zq53 : (self : Int → Int → Int → Int → Int → Mp → (ByteArray → Int → Int → Int → Mp → O β) → O β) → Nat → Int → Int → Int → Int → Int → Mp → Int → Int → List Int → (ByteArray → Int → Int → Int → Mp → O β) → (Int → Int → Int → Mp → O β) → O β) (zq55 : Nat → Int → Int → Int → Int → Int → Mp → (ByteArray → Int → Int → Int → Mp → O β) → O β) (zq51 : (self : Int → Int → Int → Int → Int → Mp → (ByteArray → Int → Int → Int → Mp → O β) → O β) → Nat → Int → Int → Int → Int → Int → Int → Int → Mp → Int → Int → List Int → (ByteArray → Int → Int → Int → Mp → O β) → (Int → Int → Int → Int → Int → Mp → Int → Int → List Int → O β) → O β) (zq41 : (a0 : Int) → (a1 : Int) → (a2 : Int) → (a3 : Int) → (a4 : Int) → (a5 : Mp) → (k0 : Int → Int → Int → Int → Mp → O β) → O β) (zq47 : Nat → Int → Int → Int → Int → Int → Mp → (Int → Int → Int → Int → Mp → O β) → O β) (G : Nat) : Env β := ⟨[(57, VS57 N zq33), (58, VS58 N zq37)], [], [(0, VLS26_0 N zq53 zq55 G), (2, VLS26_2 N zq51 zq55 G)], [(56, VS56 N zq41), (30, VS30 N zq47), (26, VSF26 N zq55 G)], ⟨[], [], [], []⟩⟩
def E26 (N : Nat) (G : Nat) : Env β := VE26 N (zj33 N) (zj37 N) (zj53 N) (zj55 N) (zj51 N) (zj41 N) (zj47 N) G
def zb52 (N : Nat) (zq51 : (self : Int → Int → Int → Int → Int → Mp → (ByteArray → Int → Int → Int → Mp → O β) → O β) → Nat → Int → Int → Int → Int → Int → Int → Int → Mp → Int → Int → List Int → (ByteArray → Int → Int → Int → Mp → O β) → (Int → Int → Int → Int → Int → Mp → Int → Int → List Int → O β) → O β) (self : Int → Int → Int → Int → Int → Mp → (ByteArray → Int → Int → Int → Mp → O β) → O β)  (v0 : Int) (v1 : Int) (v2 : Int) (v3 : Int) (v4 : Int) (v5 : Mp) (v6 : Int) (v7 : Int) (v8 : List Int) (rec_ : Int → Int → Int → Int → Int → Mp → Int → Int → List Int → O β) (k0 : ByteArray → Int → Int → Int → Mp → O β) (k1 : Int → Int → Int → Mp → O β) : O β :=
(cond ((decide (v1 < v0)))
((gd ((decide (0 ≤ v1)))
((gd ((decide (v1 < (v8.length : Int))))
(zq51 self  N ((rd 0 v8 v1)) v0 v1 0 v2 v3 v4 v5 v6 v7 v8 (fun e24_0 e24_1 e24_2 e24_3 e24_4 =>
k0 e24_0 e24_1 e24_2 e24_3 e24_4) (fun e25_0 e25_1 e25_2 e25_3 e25_4 e25_5 e25_6 e25_7 e25_8 =>
rec_ e25_0 ((w64 (e25_1 + 1))) e25_2 e25_3 e25_4 e25_5 e25_6 e25_7 e25_8))))))
(k1 v2 v3 v4 v5))
theorem zt52 (N : Nat) (self : Int → Int → Int → Int → Int → Mp → (ByteArray → Int → Int → Int → Mp → O β) → O β)  (v0 : Int) (v1 : Int) (v2 : Int) (v3 : Int) (v4 : Int) (v5 : Mp) (v6 : Int) (v7 : Int) (v8 : List Int) (rec_ : Int → Int → Int → Int → Int → Mp → Int → Int → List Int → O β) (k0 : ByteArray → Int → Int → Int → Mp → O β) (k1 : Int → Int → Int → Mp → O β) : zj52 N self v0 v1 v2 v3 v4 v5 v6 v7 v8 rec_ k0 k1 = zb52 N (zj51 N) self v0 v1 v2 v3 v4 v5 v6 v7 v8 rec_ k0 k1 := by
  unfold zj52 zb52
  rfl
theorem vst26_0_0 (N : Nat) (zq33 : (a0 : Int) → (k : ByteArray → O β) → O β) (zq37 : (a0 : Int) → (a1 : Int) → (a2 : Int) → (a3 : Int) → (k : Int → Int → Int → Int → Bool → O β) → O β) (zq53 : (self : Int → Int → Int → Int → Int → Mp → (ByteArray → Int → Int → Int → Mp → O β) → O β) → Nat → Int → Int → Int → Int → Int → Mp → Int → Int → List Int → (ByteArray → Int → Int → Int → Mp → O β) → (Int → Int → Int → Mp → O β) → O β) (zq55 : Nat → Int → Int → Int → Int → Int → Mp → (ByteArray → Int → Int → Int → Mp → O β) → O β) (zq51 : (self : Int → Int → Int → Int → Int → Mp → (ByteArray → Int → Int → Int → Mp → O β) → O β) → Nat → Int → Int → Int → Int → Int → Int → Int → Mp → Int → Int → List Int → (ByteArray → Int → Int → Int → Mp → O β) → (Int → Int → Int → Int → Int → Mp → Int → Int → List Int → O β) → O β) (zq41 : (a0 : Int) → (a1 : Int) → (a2 : Int) → (a3 : Int) → (a4 : Int) → (a5 : Mp) → (k0 : Int → Int → Int → Int → Mp → O β) → O β) (zq47 : Nat → Int → Int → Int → Int → Int → Mp → (Int → Int → Int → Int → Mp → O β) → O β) (G : Nat)  (v0 : Int) (v1 : Int) (v2 : Int) (v3 : Int) (v4 : Int) (v5 : Mp) (v6 : Int) (v7 : Int) (v8 : List Int) (rec_ : St → O β) (K : Exit → St → O β) :
    ev lay (VE26 N zq33 zq37 zq53 zq55 zq51 zq41 zq47 G) (retMask Tryd.f26) (lp Tryd.f26 0).body (lp Tryd.f26 0).ex ((lp Tryd.f26 0).lv (retMask Tryd.f26)) (h26_0_0  v0 v1 v2 v3 v4 v5 v6 v7 v8) (nextR (fun s' => rec_ (s'.tidy ((lp Tryd.f26 0).lv (retMask Tryd.f26)))) K) = zb52 N zq51 (zq55 G)  v0 v1 v2 v3 v4 v5 v6 v7 v8 (fun v0 v1 v2 v3 v4 v5 v6 v7 v8 => rec_ (h26_0_0  v0 v1 v2 v3 v4 v5 v6 v7 v8)) (fun y0 y1 y2 y3 y4 => K .ret (x26_0_0_k0  y0 y1 y2 y3 y4)) (fun y0 y1 y2 y3 => K (.exit 0) (x26_0_0_k1  y0 y1 y2 y3)) := by kernel_rfl
theorem st26_0_0 (N : Nat) (G : Nat)  (v0 : Int) (v1 : Int) (v2 : Int) (v3 : Int) (v4 : Int) (v5 : Mp) (v6 : Int) (v7 : Int) (v8 : List Int) (rec_ : St → O β) (K : Exit → St → O β) :
    ev lay (E26 N G) (retMask Tryd.f26) (lp Tryd.f26 0).body (lp Tryd.f26 0).ex ((lp Tryd.f26 0).lv (retMask Tryd.f26)) (h26_0_0  v0 v1 v2 v3 v4 v5 v6 v7 v8) (nextR (fun s' => rec_ (s'.tidy ((lp Tryd.f26 0).lv (retMask Tryd.f26)))) K) = zj52 N (zj55 N G)  v0 v1 v2 v3 v4 v5 v6 v7 v8 (fun v0 v1 v2 v3 v4 v5 v6 v7 v8 => rec_ (h26_0_0  v0 v1 v2 v3 v4 v5 v6 v7 v8)) (fun y0 y1 y2 y3 y4 => K .ret (x26_0_0_k0  y0 y1 y2 y3 y4)) (fun y0 y1 y2 y3 => K (.exit 0) (x26_0_0_k1  y0 y1 y2 y3)) := (vst26_0_0 N (zj33 N) (zj37 N) (zj53 N) (zj55 N) (zj51 N) (zj41 N) (zj47 N) G v0 v1 v2 v3 v4 v5 v6 v7 v8 rec_ K).trans (zt52 N (zj55 N G)  v0 v1 v2 v3 v4 v5 v6 v7 v8 (fun v0 v1 v2 v3 v4 v5 v6 v7 v8 => rec_ (h26_0_0  v0 v1 v2 v3 v4 v5 v6 v7 v8)) (fun y0 y1 y2 y3 y4 => K .ret (x26_0_0_k0  y0 y1 y2 y3 y4)) (fun y0 y1 y2 y3 => K (.exit 0) (x26_0_0_k1  y0 y1 y2 y3))).symm
theorem ro26_0_0 (N : Nat) (G : Nat)  (K : Exit → St → O β) : ∀ (F : Nat) (v0 : Int) (v1 : Int) (v2 : Int) (v3 : Int) (v4 : Int) (v5 : Mp) (v6 : Int) (v7 : Int) (v8 : List Int), (lp Tryd.f26 0).rounds lay (E26 N G) (retMask Tryd.f26) F (h26_0_0  v0 v1 v2 v3 v4 v5 v6 v7 v8) K = zj53 N (zj55 N G)  F v0 v1 v2 v3 v4 v5 v6 v7 v8 (fun y0 y1 y2 y3 y4 => K .ret (x26_0_0_k0  y0 y1 y2 y3 y4)) (fun y0 y1 y2 y3 => K (.exit 0) (x26_0_0_k1  y0 y1 y2 y3)) := by
  intro F
  induction F with
  | zero => intros; rfl
  | succ F ih =>
    intros
    rw [rounds_next]
    refine (st26_0_0 N G  _ _ _ _ _ _ _ _ _ (fun s => (lp Tryd.f26 0).rounds lay (E26 N G) (retMask Tryd.f26) F s K) K).trans ?_
    simp only [ih]
    rfl
theorem lk26_0 (N : Nat) (G : Nat) : lookL (E26 (β := β) N G).loops (lp Tryd.f26 0).id = LS26_0 N G := by kernel_rfl
theorem rk26_0 (N : Nat) (G : Nat) : RoundsOK lay (E26 (β := β) N G) (retMask Tryd.f26) (lp Tryd.f26 0) := by
  intro s K r h
  rw [lk26_0] at h
  unfold LS26_0 VLS26_0 at h
  cases hb : shpSt (h26_0_0 0 0 0 0 0 [] 0 0 []) s with
  | true =>
    rw [hb, cond_true] at h
    exact ⟨N, by rw [← shpSt_ref hb, fl26_0_0 s]; exact (ro26_0_0 N G  K N (intS (oneA (vT (nx tund s.tmps 21)))) (intS (oneA (vT (nx tund s.tmps 22)))) (intS (nx .und (cellsB (nx .dead s.blks 0)) 0)) (intS (nx .und (cellsB (nx .dead s.blks 0)) 1)) (intS (nx .und (cellsB (nx .dead s.blks 0)) 2)) (mpB (nx .dead s.blks 1)) (intS (nx .und (cellsB (nx .dead s.blks 2)) 0)) (intS (nx .und (cellsB (nx .dead s.blks 2)) 1)) (rInts (rowB_ (nx .dead s.blks 3)))).trans h⟩
  | false =>
  rw [hb, cond_false] at h
  clear hb
  cases h
def zb50 (N : Nat) (zq37 : (a0 : Int) → (a1 : Int) → (a2 : Int) → (a3 : Int) → (k : Int → Int → Int → Int → Bool → O β) → O β) (zq47 : Nat → Int → Int → Int → Int → Int → Mp → (Int → Int → Int → Int → Mp → O β) → O β) (self : Int → Int → Int → Int → Int → Mp → (ByteArray → Int → Int → Int → Mp → O β) → O β)  (v0 : Int) (v1 : Int) (v2 : Int) (v3 : Int) (v4 : Int) (v5 : Int) (v6 : Int) (v7 : Mp) (v8 : Int) (v9 : Int) (v10 : List Int) (rec_ : Int → Int → Int → Int → Int → Int → Int → Mp → Int → Int → List Int → O β) (k0 : ByteArray → Int → Int → Int → Mp → O β) (k1 : Int → Int → Int → Int → Int → Mp → Int → Int → List Int → O β) : O β :=
(cond ((decide (v3 < 16)))
(zq37 v8 v9 v0 v3 fun r10 r11 r12 r13 r14 =>
(cond r14
(zq47 N r10 r11 v4 v5 v6 v7 (fun r15_0 r15_1 r15_2 r15_3 r15_4 =>
zq47 N v8 v9 r15_1 r15_2 r15_3 r15_4 (fun r16_0 r16_1 r16_2 r16_3 r16_4 =>
(cond ((decide (r15_0 < r16_0)))
(zq47 N r12 r13 r16_1 r16_2 r16_3 r16_4 (fun r17_0 r17_1 r17_2 r17_3 r17_4 =>
zq47 N v8 v9 r17_1 r17_2 r17_3 r17_4 (fun r18_0 r18_1 r18_2 r18_3 r18_4 =>
(cond ((decide (r17_0 < r18_0)))
((gd ((decide (0 ≤ v3)))
((gd ((decide (v3 < (((strOf [48, 49, 50, 51, 52, 53, 54, 55, 56, 57, 97, 98, 99, 100, 101, 102])).size : Int))))
(self r10 r11 r18_1 r18_2 r18_3 r18_4 (fun r19_0 r19_1 r19_2 r19_3 r19_4 =>
(gd ((decide (((strOf (((([] : List Int) ++ [v0]) ++ [(bt ((strOf [48, 49, 50, 51, 52, 53, 54, 55, 56, 57, 97, 98, 99, 100, 101, 102])) v3)])))).size + r19_0.size ≤ 9223372036854775807)))
(self r12 r13 r19_1 r19_2 r19_3 r19_4 (fun r20_0 r20_1 r20_2 r20_3 r20_4 =>
(gd ((decide ((((strOf (((([] : List Int) ++ [v0]) ++ [(bt ((strOf [48, 49, 50, 51, 52, 53, 54, 55, 56, 57, 97, 98, 99, 100, 101, 102])) v3)]))) ++ r19_0)).size + r20_0.size ≤ 9223372036854775807)))
(self r10 r11 r18_1 r18_2 r18_3 r18_4 (fun r21_0 r21_1 r21_2 r21_3 r21_4 =>
(gd ((decide (((strOf (((([] : List Int) ++ [v0]) ++ [(bt ((strOf [48, 49, 50, 51, 52, 53, 54, 55, 56, 57, 97, 98, 99, 100, 101, 102])) v3)])))).size + r21_0.size ≤ 9223372036854775807)))
(self r12 r13 r21_1 r21_2 r21_3 r21_4 (fun r22_0 r22_1 r22_2 r22_3 r22_4 =>
(gd ((decide ((((strOf (((([] : List Int) ++ [v0]) ++ [(bt ((strOf [48, 49, 50, 51, 52, 53, 54, 55, 56, 57, 97, 98, 99, 100, 101, 102])) v3)]))) ++ r21_0)).size + r22_0.size ≤ 9223372036854775807)))
(self r12 r13 r21_1 r21_2 r21_3 r21_4 (fun r23_0 r23_1 r23_2 r23_3 r23_4 =>
(gd ((decide (((strOf (((([] : List Int) ++ [v0]) ++ [(bt ((strOf [48, 49, 50, 51, 52, 53, 54, 55, 56, 57, 97, 98, 99, 100, 101, 102])) v3)])))).size + r21_0.size ≤ 9223372036854775807)))
((gd ((decide ((((strOf (((([] : List Int) ++ [v0]) ++ [(bt ((strOf [48, 49, 50, 51, 52, 53, 54, 55, 56, 57, 97, 98, 99, 100, 101, 102])) v3)]))) ++ r21_0)).size + r23_0.size ≤ 9223372036854775807)))
((zj49 ((((strOf (((([] : List Int) ++ [v0]) ++ [(bt ((strOf [48, 49, 50, 51, 52, 53, 54, 55, 56, 57, 97, 98, 99, 100, 101, 102])) v3)]))) ++ r21_0) ++ r22_0)) r22_1 r22_2 r22_3 r22_4 ((((strOf (((([] : List Int) ++ [v0]) ++ [(bt ((strOf [48, 49, 50, 51, 52, 53, 54, 55, 56, 57, 97, 98, 99, 100, 101, 102])) v3)]))) ++ r21_0) ++ r23_0)) r23_1 r23_2 r23_3 r23_4
((zj49 ((((strOf (((([] : List Int) ++ [v0]) ++ [(bt ((strOf [48, 49, 50, 51, 52, 53, 54, 55, 56, 57, 97, 98, 99, 100, 101, 102])) v3)]))) ++ r19_0) ++ r20_0)) r20_1 r20_2 r20_3 r20_4 ((((strOf (((([] : List Int) ++ [v0]) ++ [(bt ((strOf [48, 49, 50, 51, 52, 53, 54, 55, 56, 57, 97, 98, 99, 100, 101, 102])) v3)]))) ++ r21_0) ++ r22_0)) r22_1 r22_2 r22_3 r22_4
(k0 ((((strOf (((([] : List Int) ++ [v0]) ++ [(bt ((strOf [48, 49, 50, 51, 52, 53, 54, 55, 56, 57, 97, 98, 99, 100, 101, 102])) v3)]))) ++ r19_0) ++ r20_0)) r20_1 r20_2 r20_3 r20_4))))))))))))))))))))))))))
(rec_ v0 v1 v2 ((w64 (v3 + 1))) r18_1 r18_2 r18_3 r18_4 v8 v9 v10)))))
(rec_ v0 v1 v2 ((w64 (v3 + 1))) r16_1 r16_2 r16_3 r16_4 v8 v9 v10)))))
(rec_ v0 v1 v2 ((w64 (v3 + 1))) v4 v5 v6 v7 v8 v9 v10)))
(k1 v1 v2 v4 v5 v6 v7 v8 v9 v10))
theorem zt50 (N : Nat) (self : Int → Int → Int → Int → Int → Mp → (ByteArray → Int → Int → Int → Mp → O β) → O β)  (v0 : Int) (v1 : Int) (v2 : Int) (v3 : Int) (v4 : Int) (v5 : Int) (v6 : Int) (v7 : Mp) (v8 : Int) (v9 : Int) (v10 : List Int) (rec_ : Int → Int → Int → Int → Int → Int → Int → Mp → Int → Int → List Int → O β) (k0 : ByteArray → Int → Int → Int → Mp → O β) (k1 : Int → Int → Int → Int → Int → Mp → Int → Int → List Int → O β) : zj50 N self v0 v1 v2 v3 v4 v5 v6 v7 v8 v9 v10 rec_ k0 k1 = zb50 N (zj37 N) (zj47 N) self v0 v1 v2 v3 v4 v5 v6 v7 v8 v9 v10 rec_ k0 k1 := by
  unfold zj50 zb50
  rfl
theorem vst26_1_0 (N : Nat) (zq33 : (a0 : Int) → (k : ByteArray → O β) → O β) (zq37 : (a0 : Int) → (a1 : Int) → (a2 : Int) → (a3 : Int) → (k : Int → Int → Int → Int → Bool → O β) → O β) (zq53 : (self : Int → Int → Int → Int → Int → Mp → (ByteArray → Int → Int → Int → Mp → O β) → O β) → Nat → Int → Int → Int → Int → Int → Mp → Int → Int → List Int → (ByteArray → Int → Int → Int → Mp → O β) → (Int → Int → Int → Mp → O β) → O β) (zq55 : Nat → Int → Int → Int → Int → Int → Mp → (ByteArray → Int → Int → Int → Mp → O β) → O β) (zq51 : (self : Int → Int → Int → Int → Int → Mp → (ByteArray → Int → Int → Int → Mp → O β) → O β) → Nat → Int → Int → Int → Int → Int → Int → Int → Mp → Int → Int → List Int → (ByteArray → Int → Int → Int → Mp → O β) → (Int → Int → Int → Int → Int → Mp → Int → Int → List Int → O β) → O β) (zq41 : (a0 : Int) → (a1 : Int) → (a2 : Int) → (a3 : Int) → (a4 : Int) → (a5 : Mp) → (k0 : Int → Int → Int → Int → Mp → O β) → O β) (zq47 : Nat → Int → Int → Int → Int → Int → Mp → (Int → Int → Int → Int → Mp → O β) → O β) (G : Nat)  (v0 : Int) (v1 : Int) (v2 : Int) (v3 : Int) (v4 : Int) (v5 : Int) (v6 : Int) (v7 : Mp) (v8 : Int) (v9 : Int) (v10 : List Int) (rec_ : St → O β) (K : Exit → St → O β) :
    ev lay (VE26 N zq33 zq37 zq53 zq55 zq51 zq41 zq47 G) (retMask Tryd.f26) (lp Tryd.f26 1).body (lp Tryd.f26 1).ex ((lp Tryd.f26 1).lv (retMask Tryd.f26)) (h26_1_0  v0 v1 v2 v3 v4 v5 v6 v7 v8 v9 v10) (nextR (fun s' => rec_ (s'.tidy ((lp Tryd.f26 1).lv (retMask Tryd.f26)))) K) = zb50 N zq37 zq47 (zq55 G)  v0 v1 v2 v3 v4 v5 v6 v7 v8 v9 v10 (fun v0 v1 v2 v3 v4 v5 v6 v7 v8 v9 v10 => rec_ (h26_1_0  v0 v1 v2 v3 v4 v5 v6 v7 v8 v9 v10)) (fun y0 y1 y2 y3 y4 => K .ret (x26_1_0_k0  y0 y1 y2 y3 y4)) (fun y0 y1 y2 y3 y4 y5 y6 y7 y8 => K (.exit 2) (x26_1_0_k1  y0 y1 y2 y3 y4 y5 y6 y7 y8)) := by kernel_rfl
theorem st26_1_0 (N : Nat) (G : Nat)  (v0 : Int) (v1 : Int) (v2 : Int) (v3 : Int) (v4 : Int) (v5 : Int) (v6 : Int) (v7 : Mp) (v8 : Int) (v9 : Int) (v10 : List Int) (rec_ : St → O β) (K : Exit → St → O β) :
    ev lay (E26 N G) (retMask Tryd.f26) (lp Tryd.f26 1).body (lp Tryd.f26 1).ex ((lp Tryd.f26 1).lv (retMask Tryd.f26)) (h26_1_0  v0 v1 v2 v3 v4 v5 v6 v7 v8 v9 v10) (nextR (fun s' => rec_ (s'.tidy ((lp Tryd.f26 1).lv (retMask Tryd.f26)))) K) = zj50 N (zj55 N G)  v0 v1 v2 v3 v4 v5 v6 v7 v8 v9 v10 (fun v0 v1 v2 v3 v4 v5 v6 v7 v8 v9 v10 => rec_ (h26_1_0  v0 v1 v2 v3 v4 v5 v6 v7 v8 v9 v10)) (fun y0 y1 y2 y3 y4 => K .ret (x26_1_0_k0  y0 y1 y2 y3 y4)) (fun y0 y1 y2 y3 y4 y5 y6 y7 y8 => K (.exit 2) (x26_1_0_k1  y0 y1 y2 y3 y4 y5 y6 y7 y8)) := (vst26_1_0 N (zj33 N) (zj37 N) (zj53 N) (zj55 N) (zj51 N) (zj41 N) (zj47 N) G v0 v1 v2 v3 v4 v5 v6 v7 v8 v9 v10 rec_ K).trans (zt50 N (zj55 N G)  v0 v1 v2 v3 v4 v5 v6 v7 v8 v9 v10 (fun v0 v1 v2 v3 v4 v5 v6 v7 v8 v9 v10 => rec_ (h26_1_0  v0 v1 v2 v3 v4 v5 v6 v7 v8 v9 v10)) (fun y0 y1 y2 y3 y4 => K .ret (x26_1_0_k0  y0 y1 y2 y3 y4)) (fun y0 y1 y2 y3 y4 y5 y6 y7 y8 => K (.exit 2) (x26_1_0_k1  y0 y1 y2 y3 y4 y5 y6 y7 y8))).symm
theorem ro26_1_0 (N : Nat) (G : Nat)  (K : Exit → St → O β) : ∀ (F : Nat) (v0 : Int) (v1 : Int) (v2 : Int) (v3 : Int) (v4 : Int) (v5 : Int) (v6 : Int) (v7 : Mp) (v8 : Int) (v9 : Int) (v10 : List Int), (lp Tryd.f26 1).rounds lay (E26 N G) (retMask Tryd.f26) F (h26_1_0  v0 v1 v2 v3 v4 v5 v6 v7 v8 v9 v10) K = zj51 N (zj55 N G)  F v0 v1 v2 v3 v4 v5 v6 v7 v8 v9 v10 (fun y0 y1 y2 y3 y4 => K .ret (x26_1_0_k0  y0 y1 y2 y3 y4)) (fun y0 y1 y2 y3 y4 y5 y6 y7 y8 => K (.exit 2) (x26_1_0_k1  y0 y1 y2 y3 y4 y5 y6 y7 y8)) := by
  intro F
  induction F with
  | zero => intros; rfl
  | succ F ih =>
    intros
    rw [rounds_next]
    refine (st26_1_0 N G  _ _ _ _ _ _ _ _ _ _ _ (fun s => (lp Tryd.f26 1).rounds lay (E26 N G) (retMask Tryd.f26) F s K) K).trans ?_
    simp only [ih]
    rfl
theorem lk26_2 (N : Nat) (G : Nat) : lookL (E26 (β := β) N G).loops (lp Tryd.f26 1).id = LS26_2 N G := by kernel_rfl
theorem rk26_2 (N : Nat) (G : Nat) : RoundsOK lay (E26 (β := β) N G) (retMask Tryd.f26) (lp Tryd.f26 1) := by
  intro s K r h
  rw [lk26_2] at h
  unfold LS26_2 VLS26_2 at h
  cases hb : shpSt (h26_1_0 0 0 0 0 0 0 0 [] 0 0 []) s with
  | true =>
    rw [hb, cond_true] at h
    exact ⟨N, by rw [← shpSt_ref hb, fl26_1_0 s]; exact (ro26_1_0 N G  K N (intS (oneA (vT (nx tund s.tmps 7)))) (intS (oneA (vT (nx tund s.tmps 21)))) (intS (oneA (vT (nx tund s.tmps 22)))) (intS (oneA (vT (nx tund s.tmps 26)))) (intS (nx .und (cellsB (nx .dead s.blks 0)) 0)) (intS (nx .und (cellsB (nx .dead s.blks 0)) 1)) (intS (nx .und (cellsB (nx .dead s.blks 0)) 2)) (mpB (nx .dead s.blks 1)) (intS (nx .und (cellsB (nx .dead s.blks 2)) 0)) (intS (nx .und (cellsB (nx .dead s.blks 2)) 1)) (rInts (rowB_ (nx .dead s.blks 3)))).trans h⟩
  | false =>
  rw [hb, cond_false] at h
  clear hb
  cases h
def zb54 (N : Nat) (zq41 : (a0 : Int) → (a1 : Int) → (a2 : Int) → (a3 : Int) → (a4 : Int) → (a5 : Mp) → (k0 : Int → Int → Int → Int → Mp → O β) → O β) (zq33 : (a0 : Int) → (k : ByteArray → O β) → O β) (zq53 : (self : Int → Int → Int → Int → Int → Mp → (ByteArray → Int → Int → Int → Mp → O β) → O β) → Nat → Int → Int → Int → Int → Int → Mp → Int → Int → List Int → (ByteArray → Int → Int → Int → Mp → O β) → (Int → Int → Int → Mp → O β) → O β) (self : Int → Int → Int → Int → Int → Mp → (ByteArray → Int → Int → Int → Mp → O β) → O β) (a0 : Int) (a1 : Int) (a2 : Int) (a3 : Int) (a4 : Int) (a5 : Mp) (k0 : ByteArray → Int → Int → Int → Mp → O β) : O β :=
zq41 a0 a1 a2 a3 a4 a5 (fun r8_0 r8_1 r8_2 r8_3 r8_4 =>
(cond ((decide (r8_0 ≥ 0)))
(zq33 r8_0 fun r9 =>
k0 r9 r8_1 r8_2 r8_3 r8_4)
(zq53 self  N (((((([] : List Int) ++ [65]) ++ [66])).length : Int)) 0 r8_1 r8_2 r8_3 r8_4 a0 a1 (((([] : List Int) ++ [65]) ++ [66])) (fun e26_0 e26_1 e26_2 e26_3 e26_4 =>
k0 e26_0 e26_1 e26_2 e26_3 e26_4) (fun e27_0 e27_1 e27_2 e27_3 =>
k0 ByteArray.empty e27_0 e27_1 e27_2 e27_3))))
theorem zt54 (N : Nat) (self : Int → Int → Int → Int → Int → Mp → (ByteArray → Int → Int → Int → Mp → O β) → O β) (a0 : Int) (a1 : Int) (a2 : Int) (a3 : Int) (a4 : Int) (a5 : Mp) (k0 : ByteArray → Int → Int → Int → Mp → O β) : zj54 N self a0 a1 a2 a3 a4 a5 k0 = zb54 N (zj41 N) (zj33 N) (zj53 N) self a0 a1 a2 a3 a4 a5 k0 := by
  unfold zj54 zb54
  rfl
theorem ve26_0 (N : Nat) (zq33 : (a0 : Int) → (k : ByteArray → O β) → O β) (zq37 : (a0 : Int) → (a1 : Int) → (a2 : Int) → (a3 : Int) → (k : Int → Int → Int → Int → Bool → O β) → O β) (zq53 : (self : Int → Int → Int → Int → Int → Mp → (ByteArray → Int → Int → Int → Mp → O β) → O β) → Nat → Int → Int → Int → Int → Int → Mp → Int → Int → List Int → (ByteArray → Int → Int → Int → Mp → O β) → (Int → Int → Int → Mp → O β) → O β) (zq55 : Nat → Int → Int → Int → Int → Int → Mp → (ByteArray → Int → Int → Int → Mp → O β) → O β) (zq51 : (self : Int → Int → Int → Int → Int → Mp → (ByteArray → Int → Int → Int → Mp → O β) → O β) → Nat → Int → Int → Int → Int → Int → Int → Int → Mp → Int → Int → List Int → (ByteArray → Int → Int → Int → Mp → O β) → (Int → Int → Int → Int → Int → Mp → Int → Int → List Int → O β) → O β) (zq41 : (a0 : Int) → (a1 : Int) → (a2 : Int) → (a3 : Int) → (a4 : Int) → (a5 : Mp) → (k0 : Int → Int → Int → Int → Mp → O β) → O β) (zq47 : Nat → Int → Int → Int → Int → Int → Mp → (Int → Int → Int → Int → Mp → O β) → O β) (G : Nat) (a0 : Int) (a1 : Int) (a2 : Int) (a3 : Int) (a4 : Int) (a5 : Mp) (K : TV → List Blk → O β) : evFnG lay (VE26 N zq33 zq37 zq53 zq55 zq51 zq41 zq47 G) Tryd.f26 [.v (.one (.ptr 0 0)), .v (.agg [.int .i64 a0, .int .i64 a1])] [.pcells 0 83 [.int .i64 a2, .int .i64 a3, .int .i64 a4, .mp 1], .pmp 1 ⟨true, false⟩ a5] K = zb54 N zq41 zq33 zq53 (zq55 G) a0 a1 a2 a3 a4 a5 (fun y0 y1 y2 y3 y4 => K (.v (.one (.str y0))) [.pcells 0 83 [.int .i64 y1, .int .i64 y2, .int .i64 y3, .mp 1], .pmp 1 ⟨true, false⟩ y4]) := by kernel_rfl
theorem e26_0 (N : Nat) (G : Nat) (a0 : Int) (a1 : Int) (a2 : Int) (a3 : Int) (a4 : Int) (a5 : Mp) (K : TV → List Blk → O β) : evFnG lay (E26 N G) Tryd.f26 [.v (.one (.ptr 0 0)), .v (.agg [.int .i64 a0, .int .i64 a1])] [.pcells 0 83 [.int .i64 a2, .int .i64 a3, .int .i64 a4, .mp 1], .pmp 1 ⟨true, false⟩ a5] K = zj55 N (G + 1) a0 a1 a2 a3 a4 a5 (fun y0 y1 y2 y3 y4 => K (.v (.one (.str y0))) [.pcells 0 83 [.int .i64 y1, .int .i64 y2, .int .i64 y3, .mp 1], .pmp 1 ⟨true, false⟩ y4]) := (ve26_0 N (zj33 N) (zj37 N) (zj53 N) (zj55 N) (zj51 N) (zj41 N) (zj47 N) G a0 a1 a2 a3 a4 a5 K).trans (zt54 N (zj55 N G) a0 a1 a2 a3 a4 a5 (fun y0 y1 y2 y3 y4 => K (.v (.one (.str y0))) [.pcells 0 83 [.int .i64 y1, .int .i64 y2, .int .i64 y3, .mp 1], .pmp 1 ⟨true, false⟩ y4])).symm
theorem z26 (N : Nat) : ∀ args bl K r, SF26 (β := β) N 0 args bl K = some r → (none : O β) = some r := by
  intro args bl K r h
  unfold SF26 VSF26 at h
  split at h <;> exact h
theorem of26 (N : Nat) : ∀ G, GOK (β := β) inv Tryd.prog 26 (SF26 N G) := by
  intro G
  induction G with
  | zero => exact g_zero Tryd.func26 (by kernel_rfl) (z26 N)
  | succ G ih =>
    refine g_of lay_ok mixed (E := E26 N G) (specs_loops (specs_cons (o57 N) (specs_cons (o58 N) specs_nil))) muts_nil (gs_cons (o56 N) (gs_cons (o30 N) (gs_cons ih gs_nil))) Tryd.func26 (by kernel_rfl) 2 (by kernel_rfl) ⟨⟨trivial, rk26_0 N G⟩, rk26_2 N G⟩ fun args bl K r h => ?_
    unfold SF26 VSF26 at h
    split at h
    · exact (e26_0 N G _ _ _ _ _ _ _).trans h
    · cases h
theorem o26 (N : Nat) : GOK (β := β) inv Tryd.prog 26 (S26 N) := of26 N N
def VS6 (N : Nat) (zq57 : (a0 : Int) → (a1 : Int) → (a2 : Int) → (k : ByteArray → Bool → O β) → O β) : Rv.Spec β := fun args K => match args with
  | [.v (.agg [.int .i64 a0, .int .i64 a1]), .v (.one (.int .i64 a2))] => zq57 a0 a1 a2 (fun z3 z4 => K (.tup [.one (.str z3), .one (.bool z4)]))
  | _ => none
def S6 (N : Nat) : Rv.Spec β := VS6 N (zj57 N)
def VE6 (N : Nat) (zq32 : (a0 : Int) → (a1 : Int) → (a2 : Int) → (k0 : Int → Int → O β) → (k1 : Int → Int → Int → Int → Int → Mp → O β) → O β) (zq55 : Nat → Int → Int → Int → Int → Int → Mp → (ByteArray → Int → Int → Int → Mp → O β) → O β) : Env β := ⟨[], [], [], [(25, VS25 N zq32), (26, VS26 N zq55)], ⟨[], [], [], []⟩⟩
def E6 (N : Nat) : Env β := VE6 N (zj32 N) (zj55 N)
def zb57 (N : Nat) (zq32 : (a0 : Int) → (a1 : Int) → (a2 : Int) → (k0 : Int → Int → O β) → (k1 : Int → Int → Int → Int → Int → Mp → O β) → O β) (zq55 : Nat → Int → Int → Int → Int → Int → Mp → (ByteArray → Int → Int → Int → Mp → O β) → O β) (a0 : Int) (a1 : Int) (a2 : Int) (k : ByteArray → Bool → O β) : O β :=
zq32 a0 a1 a2 (fun r5_0 r5_1 =>
k ByteArray.empty false) (fun r6_0 r6_1 r6_3 r6_4 r6_5 r6_6 =>
zq55 N r6_0 r6_1 r6_3 r6_4 r6_5 r6_6 (fun r7_0 r7_1 r7_2 r7_3 r7_4 =>
k r7_0 true))
theorem zt57 (N : Nat) (a0 : Int) (a1 : Int) (a2 : Int) (k : ByteArray → Bool → O β) : zj57 N a0 a1 a2 k = zb57 N (zj32 N) (zj55 N) a0 a1 a2 k := by
  unfold zj57 zb57
  rfl
theorem ve6_0 (N : Nat) (zq32 : (a0 : Int) → (a1 : Int) → (a2 : Int) → (k0 : Int → Int → O β) → (k1 : Int → Int → Int → Int → Int → Mp → O β) → O β) (zq55 : Nat → Int → Int → Int → Int → Int → Mp → (ByteArray → Int → Int → Int → Mp → O β) → O β)  (a0 : Int) (a1 : Int) (a2 : Int) (K : TV → O β) : evFn lay (VE6 N zq32 zq55) Tryd.f6 [.v (.agg [.int .i64 a0, .int .i64 a1]), .v (.one (.int .i64 a2))] K = zb57 N zq32 zq55 a0 a1 a2 (fun z3 z4 => K (.tup [.one (.str z3), .one (.bool z4)])) := by kernel_rfl
theorem e6_0 (N : Nat)  (a0 : Int) (a1 : Int) (a2 : Int) (K : TV → O β) : evFn lay (E6 N) Tryd.f6 [.v (.agg [.int .i64 a0, .int .i64 a1]), .v (.one (.int .i64 a2))] K = zj57 N a0 a1 a2 (fun z3 z4 => K (.tup [.one (.str z3), .one (.bool z4)])) := (ve6_0 N (zj32 N) (zj55 N) a0 a1 a2 K).trans (zt57 N a0 a1 a2 (fun z3 z4 => K (.tup [.one (.str z3), .one (.bool z4)]))).symm
theorem o6 (N : Nat) : SpecOK (β := β) inv Tryd.prog 6 (S6 N) := by
  refine spec_of lay_ok mixed (E := E6 N) (specs_loops specs_nil) muts_nil (gs_cons (o25 N) (gs_cons (o26 N) gs_nil)) Tryd.func6 (by kernel_rfl) 0 (by kernel_rfl) trivial fun args K r h => ?_
  unfold S6 VS6 at h
  split at h
  · exact (e6_0 N _ _ _ _).trans h
  · cases h
def VS46 (N : Nat) (zq58 : (a0 : Int) → (a1 : Int) → (a2 : Int) → (k : Bool → O β) → O β) : Rv.Spec β := fun args K => match args with
  | [.v (.one (.int .i64 a0)), .v (.one (.int .i64 a1)), .v (.one (.int .i64 a2))] => zq58 a0 a1 a2 (fun z3 => K (.v (.one (.bool z3))))
  | _ => none
def S46 (N : Nat) : Rv.Spec β := VS46 N (zj58 N)
def VE46 (N : Nat) : Env β := ⟨[], [], [], [], ⟨[], [], [], []⟩⟩
def E46 (N : Nat) : Env β := VE46 N
def zb58 (N : Nat) (a0 : Int) (a1 : Int) (a2 : Int) (k : Bool → O β) : O β :=
(cond ((decide (a0 ≥ a1)))
(k ((decide (a0 ≤ a2))))
(k false))
theorem zt58 (N : Nat) (a0 : Int) (a1 : Int) (a2 : Int) (k : Bool → O β) : zj58 N a0 a1 a2 k = zb58 N a0 a1 a2 k := by
  unfold zj58 zb58
  rfl
theorem ve46_0 (N : Nat)  (a0 : Int) (a1 : Int) (a2 : Int) (K : TV → O β) : evFn lay (VE46 N) Tryd.f46 [.v (.one (.int .i64 a0)), .v (.one (.int .i64 a1)), .v (.one (.int .i64 a2))] K = zb58 N a0 a1 a2 (fun z3 => K (.v (.one (.bool z3)))) := by kernel_rfl
theorem e46_0 (N : Nat)  (a0 : Int) (a1 : Int) (a2 : Int) (K : TV → O β) : evFn lay (E46 N) Tryd.f46 [.v (.one (.int .i64 a0)), .v (.one (.int .i64 a1)), .v (.one (.int .i64 a2))] K = zj58 N a0 a1 a2 (fun z3 => K (.v (.one (.bool z3)))) := (ve46_0 N a0 a1 a2 K).trans (zt58 N a0 a1 a2 (fun z3 => K (.v (.one (.bool z3))))).symm
theorem o46 (N : Nat) : SpecOK (β := β) inv Tryd.prog 46 (S46 N) := by
  refine spec_of lay_ok mixed (E := E46 N) (specs_loops specs_nil) muts_nil gs_nil Tryd.func46 (by kernel_rfl) 0 (by kernel_rfl) trivial fun args K r h => ?_
  unfold S46 VS46 at h
  split at h
  · exact (e46_0 N _ _ _ _).trans h
  · cases h
def VS59 (N : Nat) (zq59 : (a0 : Int) → (a1 : Int) → (k : Bool → O β) → O β) : Rv.Spec β := fun args K => match args with
  | [.v (.agg [.int .i64 a0, .int .i64 a1])] => zq59 a0 a1 (fun z2 => K (.v (.one (.bool z2))))
  | _ => none
def S59 (N : Nat) : Rv.Spec β := VS59 N (zj59 N)
def VE59 (N : Nat) (zq58 : (a0 : Int) → (a1 : Int) → (a2 : Int) → (k : Bool → O β) → O β) : Env β := ⟨[(46, VS46 N zq58)], [], [], [], ⟨[], [], [], []⟩⟩
def E59 (N : Nat) : Env β := VE59 N (zj58 N)
def zb59 (N : Nat) (zq58 : (a0 : Int) → (a1 : Int) → (a2 : Int) → (k : Bool → O β) → O β) (a0 : Int) (a1 : Int) (k : Bool → O β) : O β :=
zq58 a0 0 5 fun r3 =>
(cond r3
((gd ((decide (0 ≤ a0)))
((gd ((decide (0 ≤ (shlI .u64 1 a0))))
(zq58 a1 0 ((w64 ((shlI .i64 1 (shlI .u64 1 a0)) - 1))) fun r4 =>
k r4)))))
(k false))
theorem zt59 (N : Nat) (a0 : Int) (a1 : Int) (k : Bool → O β) : zj59 N a0 a1 k = zb59 N (zj58 N) a0 a1 k := by
  unfold zj59 zb59
  rfl
theorem ve59_0 (N : Nat) (zq58 : (a0 : Int) → (a1 : Int) → (a2 : Int) → (k : Bool → O β) → O β)  (a0 : Int) (a1 : Int) (K : TV → O β) : evFn lay (VE59 N zq58) Tryd.f59 [.v (.agg [.int .i64 a0, .int .i64 a1])] K = zb59 N zq58 a0 a1 (fun z2 => K (.v (.one (.bool z2)))) := by kernel_rfl
theorem e59_0 (N : Nat)  (a0 : Int) (a1 : Int) (K : TV → O β) : evFn lay (E59 N) Tryd.f59 [.v (.agg [.int .i64 a0, .int .i64 a1])] K = zj59 N a0 a1 (fun z2 => K (.v (.one (.bool z2)))) := (ve59_0 N (zj58 N) a0 a1 K).trans (zt59 N a0 a1 (fun z2 => K (.v (.one (.bool z2))))).symm
theorem o59 (N : Nat) : SpecOK (β := β) inv Tryd.prog 59 (S59 N) := by
  refine spec_of lay_ok mixed (E := E59 N) (specs_loops (specs_cons (o46 N) specs_nil)) muts_nil gs_nil Tryd.func59 (by kernel_rfl) 0 (by kernel_rfl) trivial fun args K r h => ?_
  unfold S59 VS59 at h
  split at h
  · exact (e59_0 N _ _ _).trans h
  · cases h
def VS27 (N : Nat) (zq60 : (a0 : Int) → (a1 : Int) → (a2 : Int) → (k : Bool → O β) → O β) : Rv.Spec β := fun args K => match args with
  | [.v (.agg [.int .i64 a0, .int .i64 a1]), .v (.one (.int .i64 a2))] => zq60 a0 a1 a2 (fun z3 => K (.v (.one (.bool z3))))
  | _ => none
def S27 (N : Nat) : Rv.Spec β := VS27 N (zj60 N)
def VE27 (N : Nat) (zq59 : (a0 : Int) → (a1 : Int) → (k : Bool → O β) → O β) (zq58 : (a0 : Int) → (a1 : Int) → (a2 : Int) → (k : Bool → O β) → O β) : Env β := ⟨[(59, VS59 N zq59), (46, VS46 N zq58)], [], [], [], ⟨[], [], [], []⟩⟩
def E27 (N : Nat) : Env β := VE27 N (zj59 N) (zj58 N)
def zb60 (N : Nat) (zq59 : (a0 : Int) → (a1 : Int) → (k : Bool → O β) → O β) (zq58 : (a0 : Int) → (a1 : Int) → (a2 : Int) → (k : Bool → O β) → O β) (a0 : Int) (a1 : Int) (a2 : Int) (k : Bool → O β) : O β :=
zq59 a0 a1 fun r4 =>
(cond r4
(zq58 a2 0 2 fun r5 =>
(cond r5
(zq58 ((w64 (a0 - a2))) 0 2 fun r6 =>
k r6)
(k false)))
(k false))
theorem zt60 (N : Nat) (a0 : Int) (a1 : Int) (a2 : Int) (k : Bool → O β) : zj60 N a0 a1 a2 k = zb60 N (zj59 N) (zj58 N) a0 a1 a2 k := by
  unfold zj60 zb60
  rfl
theorem ve27_0 (N : Nat) (zq59 : (a0 : Int) → (a1 : Int) → (k : Bool → O β) → O β) (zq58 : (a0 : Int) → (a1 : Int) → (a2 : Int) → (k : Bool → O β) → O β)  (a0 : Int) (a1 : Int) (a2 : Int) (K : TV → O β) : evFn lay (VE27 N zq59 zq58) Tryd.f27 [.v (.agg [.int .i64 a0, .int .i64 a1]), .v (.one (.int .i64 a2))] K = zb60 N zq59 zq58 a0 a1 a2 (fun z3 => K (.v (.one (.bool z3)))) := by kernel_rfl
theorem e27_0 (N : Nat)  (a0 : Int) (a1 : Int) (a2 : Int) (K : TV → O β) : evFn lay (E27 N) Tryd.f27 [.v (.agg [.int .i64 a0, .int .i64 a1]), .v (.one (.int .i64 a2))] K = zj60 N a0 a1 a2 (fun z3 => K (.v (.one (.bool z3)))) := (ve27_0 N (zj59 N) (zj58 N) a0 a1 a2 K).trans (zt60 N a0 a1 a2 (fun z3 => K (.v (.one (.bool z3))))).symm
theorem o27 (N : Nat) : SpecOK (β := β) inv Tryd.prog 27 (S27 N) := by
  refine spec_of lay_ok mixed (E := E27 N) (specs_loops (specs_cons (o59 N) (specs_cons (o46 N) specs_nil))) muts_nil gs_nil Tryd.func27 (by kernel_rfl) 0 (by kernel_rfl) trivial fun args K r h => ?_
  unfold S27 VS27 at h
  split at h
  · exact (e27_0 N _ _ _ _).trans h
  · cases h
end Go.Proofs.YtddflpokemgnmaaDoor
