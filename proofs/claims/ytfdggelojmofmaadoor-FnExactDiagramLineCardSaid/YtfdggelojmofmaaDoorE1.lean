/- The functions that the claims reach answer as their texts do. -/
import Derived.Test.YtfdggelojmofmaaDoorE0
namespace Go.Proofs.YtfdggelojmofmaaDoor
open Go.Rv
set_option maxRecDepth 100000
set_option maxHeartbeats 2000000
set_option linter.unusedVariables false
def VSF149 {β : Type} (N : Nat) (q_spec_l19Build_g0_f : Nat → Int → Int → List Int → Int → Int → Int → List (Int × Int × Int) → List Int → (Int → List (Int × Int × Int) → List Int → Option β) → Option β) (G : Nat) : GSpec β := fun args bl K => match args, bl with
  | [.v (.agg [.int .i64 a0, .int .i64 a1]), .v (.one (.sl 3 (.ints .i64 a2))), .v (.one (.int .i64 a3)), .v (.one (.int .i64 a4)), .v (.one (.int .i64 a5)), .v (.one (.row 0)), .v (.one (.row 1))], [.row 120 (.trips a6), .row 3 (.ints .i64 a7)] => q_spec_l19Build_g0_f G a0 a1 a2 a3 a4 a5 a6 a7 (fun y0 y1 y2 => K (.tup [.one (.int .i64 y0), .one (.row 0), .one (.row 1)]) [.row 120 (.trips y1), .row 3 (.ints .i64 y2)])
  | _, _ => none
def SF149 {β : Type} (N : Nat) (G : Nat) : GSpec β := VSF149 N (spec_l19Build_g0_f N) G
def VS149 {β : Type} (N : Nat) (q_spec_l19Build_g0_f : Nat → Int → Int → List Int → Int → Int → Int → List (Int × Int × Int) → List Int → (Int → List (Int × Int × Int) → List Int → Option β) → Option β) : GSpec β := VSF149 N q_spec_l19Build_g0_f N
def S149 {β : Type} (N : Nat) : GSpec β := SF149 N N
def h149_0_0  (v0 : List Int) (v1 : Int) (v2 : Int) (v3 : Int) (v4 : Int) (v5 : Int) (v6 : Int) (v7 : List (Int × Int × Int)) (v8 : List Int) (v9 : Int) (v10 : Int) : St := ⟨.v (.one .und) :: .v (.one (.sl 3 (.ints .i64 v0))) :: .v (.one (.int .i64 v1)) :: .v (.one (.int .i64 v2)) :: .v (.one (.int .i64 v3)) :: .v (.one (.row 0)) :: .v (.one (.row 1)) :: .v (.one (.ptr 2 0)) :: .v (.one .und) :: .v (.one .und) :: .v (.one .und) :: .v (.one .und) :: .v (.one .und) :: .v (.one .und) :: .v (.one .und) :: .v (.one .und) :: .v (.one .und) :: .v (.one .und) :: .v (.one (.int .i64 v4)) :: .v (.one .und) :: .v (.one .und) :: .v (.one .und) :: .v (.one (.int .i64 v5)) :: .v (.one (.int .i64 v6)) :: .v (.one .und) :: .v (.one .und) :: .v (.one .und) :: .v (.one .und) :: .v (.one .und) :: .v (.one .und) :: .v (.one .und) :: .v (.one .und) :: .v (.one .und) :: .v (.one .und) :: .v (.one .und) :: .v (.one .und) :: .v (.one .und) :: .v (.one .und) :: .v (.one .und) :: .v (.one .und) :: .v (.one .und) :: .v (.one .und) :: .v (.one .und) :: .v (.one .und) :: .v (.one .und) :: .v (.one .und) :: .v (.one .und) :: .v (.one .und) :: .v (.one .und) :: .v (.one .und) :: .v (.one .und) :: .v (.one .und) :: .v (.one .und) :: .v (.one .und) :: .v (.one .und) :: .v (.one .und) :: .v (.one .und) :: .v (.one .und) :: .v (.one .und) :: .v (.one .und) :: .v (.one .und) :: .v (.one .und) :: .v (.one .und) :: .v (.one .und) :: .v (.one .und) :: .v (.one .und) :: .v (.one .und) :: .v (.one .und) :: .v (.one .und) :: .v (.one .und) :: .v (.one .und) :: .v (.one .und) :: .v (.one .und) :: .v (.one .und) :: .v (.one .und) :: .v (.one .und) :: .v (.one .und) :: .v (.one .und) :: .v (.one .und) :: .v (.one .und) :: .v (.one .und) :: .v (.one .und) :: .v (.one .und) :: .v (.one .und) :: .v (.one .und) :: .v (.one .und) :: .v (.one .und) :: .v (.one .und) :: .v (.one .und) :: .v (.one .und) :: .v (.one .und) :: .v (.one .und) :: .v (.one .und) :: .v (.one .und) :: .v (.one .und) :: .v (.one .und) :: .v (.one .und) :: .v (.one .und) :: .v (.one .und) :: .v (.one .und) :: .v (.one .und) :: .v (.one .und) :: .v (.one .und) :: .v (.one .und) :: .v (.one .und) :: .v (.one .und) :: .v (.one .und) :: .v (.one .und) :: .v (.one .und) :: .v (.one .und) :: .v (.one .und) :: .v (.one .und) :: .v (.one .und) :: .v (.one .und) :: .v (.one .und) :: .v (.one .und) :: .v (.one .und) :: .v (.one .und) :: .v (.one .und) :: .v (.one .und) :: .v (.one .und) :: .v (.one .und) :: .v (.one .und) :: .v (.one .und) :: .v (.one .und) :: .v (.one .und) :: .v (.one .und) :: .v (.one .und) :: .v (.one .und) :: .v (.one .und) :: .v (.one .und) :: .v (.one .und) :: .v (.one .und) :: .v (.one .und) :: .v (.one .und) :: .v (.one .und) :: .v (.one .und) :: .v (.one .und) :: .v (.one .und) :: .v (.one .und) :: .v (.one .und) :: .v (.one .und) :: .v (.one .und) :: .v (.one .und) :: .v (.one .und) :: [], [.row 120 (.trips v7), .row 3 (.ints .i64 v8), .cells 24 [.int .i64 v9, .int .i64 v10]]⟩
def x149_0_0_k0  (y0 : Int) (y1 : List (Int × Int × Int)) (y2 : List Int) : St := ⟨.v (.one .und) :: .v (.one .und) :: .v (.one .und) :: .v (.one .und) :: .v (.one .und) :: .v (.one .und) :: .v (.one .und) :: .v (.one .und) :: .v (.one .und) :: .v (.one .und) :: .v (.one .und) :: .v (.one .und) :: .v (.one .und) :: .v (.one .und) :: .v (.one (.int .i64 y0)) :: .v (.one (.row 0)) :: .v (.one (.row 1)) :: .v (.one .und) :: .v (.one .und) :: .v (.one .und) :: .v (.one .und) :: .v (.one .und) :: .v (.one .und) :: .v (.one .und) :: .v (.one .und) :: .v (.one .und) :: .v (.one .und) :: .v (.one .und) :: .v (.one .und) :: .v (.one .und) :: .v (.one .und) :: .v (.one .und) :: .v (.one .und) :: .v (.one .und) :: .v (.one .und) :: .v (.one .und) :: .v (.one .und) :: .v (.one .und) :: .v (.one .und) :: .v (.one .und) :: .v (.one .und) :: .v (.one .und) :: .v (.one .und) :: .v (.one .und) :: .v (.one .und) :: .v (.one .und) :: .v (.one .und) :: .v (.one .und) :: .v (.one .und) :: .v (.one .und) :: .v (.one .und) :: .v (.one .und) :: .v (.one .und) :: .v (.one .und) :: .v (.one .und) :: .v (.one .und) :: .v (.one .und) :: .v (.one .und) :: .v (.one .und) :: .v (.one .und) :: .v (.one .und) :: .v (.one .und) :: .v (.one .und) :: .v (.one .und) :: .v (.one .und) :: .v (.one .und) :: .v (.one .und) :: .v (.one .und) :: .v (.one .und) :: .v (.one .und) :: .v (.one .und) :: .v (.one .und) :: .v (.one .und) :: .v (.one .und) :: .v (.one .und) :: .v (.one .und) :: .v (.one .und) :: .v (.one .und) :: .v (.one .und) :: .v (.one .und) :: .v (.one .und) :: .v (.one .und) :: .v (.one .und) :: .v (.one .und) :: .v (.one .und) :: .v (.one .und) :: .v (.one .und) :: .v (.one .und) :: .v (.one .und) :: .v (.one .und) :: .v (.one .und) :: .v (.one .und) :: .v (.one .und) :: .v (.one .und) :: .v (.one .und) :: .v (.one .und) :: .v (.one .und) :: .v (.one .und) :: .v (.one .und) :: .v (.one .und) :: .v (.one .und) :: .v (.one .und) :: .v (.one .und) :: .v (.one .und) :: .v (.one .und) :: .v (.one .und) :: .v (.one .und) :: .v (.one .und) :: .v (.one .und) :: .v (.one .und) :: .v (.one .und) :: .v (.one .und) :: .v (.one .und) :: .v (.one .und) :: .v (.one .und) :: .v (.one .und) :: .v (.one .und) :: .v (.one .und) :: .v (.one .und) :: .v (.one .und) :: .v (.one .und) :: .v (.one .und) :: .v (.one .und) :: .v (.one .und) :: .v (.one .und) :: .v (.one .und) :: .v (.one .und) :: .v (.one .und) :: .v (.one .und) :: .v (.one .und) :: .v (.one .und) :: .v (.one .und) :: .v (.one .und) :: .v (.one .und) :: .v (.one .und) :: .v (.one .und) :: .v (.one .und) :: .v (.one .und) :: .v (.one .und) :: .v (.one .und) :: .v (.one .und) :: .v (.one .und) :: .v (.one .und) :: .v (.one .und) :: .v (.one .und) :: [], [.row 120 (.trips y1), .row 3 (.ints .i64 y2)]⟩
def x149_0_0_k1  (y0 : List Int) (y1 : Int) (y2 : Int) (y3 : Int) (y4 : Int) (y5 : Int) (y6 : List (Int × Int × Int)) (y7 : List Int) (y8 : Int) (y9 : Int) : St := ⟨.v (.one .und) :: .v (.one (.sl 3 (.ints .i64 y0))) :: .v (.one (.int .i64 y1)) :: .v (.one (.int .i64 y2)) :: .v (.one (.int .i64 y3)) :: .v (.one (.row 0)) :: .v (.one (.row 1)) :: .v (.one (.ptr 2 0)) :: .v (.one .und) :: .v (.one .und) :: .v (.one .und) :: .v (.one .und) :: .v (.one .und) :: .v (.one .und) :: .v (.one .und) :: .v (.one .und) :: .v (.one .und) :: .v (.one .und) :: .v (.one (.int .i64 y4)) :: .v (.one .und) :: .v (.one .und) :: .v (.one .und) :: .v (.one (.int .i64 y5)) :: .v (.one .und) :: .v (.one .und) :: .v (.one .und) :: .v (.one .und) :: .v (.one .und) :: .v (.one .und) :: .v (.one .und) :: .v (.one .und) :: .v (.one .und) :: .v (.one .und) :: .v (.one .und) :: .v (.one .und) :: .v (.one .und) :: .v (.one .und) :: .v (.one .und) :: .v (.one .und) :: .v (.one .und) :: .v (.one .und) :: .v (.one .und) :: .v (.one .und) :: .v (.one .und) :: .v (.one .und) :: .v (.one .und) :: .v (.one .und) :: .v (.one .und) :: .v (.one .und) :: .v (.one .und) :: .v (.one .und) :: .v (.one .und) :: .v (.one .und) :: .v (.one .und) :: .v (.one .und) :: .v (.one .und) :: .v (.one .und) :: .v (.one .und) :: .v (.one .und) :: .v (.one .und) :: .v (.one .und) :: .v (.one .und) :: .v (.one .und) :: .v (.one .und) :: .v (.one .und) :: .v (.one .und) :: .v (.one .und) :: .v (.one .und) :: .v (.one .und) :: .v (.one .und) :: .v (.one .und) :: .v (.one .und) :: .v (.one .und) :: .v (.one .und) :: .v (.one .und) :: .v (.one .und) :: .v (.one .und) :: .v (.one .und) :: .v (.one .und) :: .v (.one .und) :: .v (.one .und) :: .v (.one .und) :: .v (.one .und) :: .v (.one .und) :: .v (.one .und) :: .v (.one .und) :: .v (.one .und) :: .v (.one .und) :: .v (.one .und) :: .v (.one .und) :: .v (.one .und) :: .v (.one .und) :: .v (.one .und) :: .v (.one .und) :: .v (.one .und) :: .v (.one .und) :: .v (.one .und) :: .v (.one .und) :: .v (.one .und) :: .v (.one .und) :: .v (.one .und) :: .v (.one .und) :: .v (.one .und) :: .v (.one .und) :: .v (.one .und) :: .v (.one .und) :: .v (.one .und) :: .v (.one .und) :: .v (.one .und) :: .v (.one .und) :: .v (.one .und) :: .v (.one .und) :: .v (.one .und) :: .v (.one .und) :: .v (.one .und) :: .v (.one .und) :: .v (.one .und) :: .v (.one .und) :: .v (.one .und) :: .v (.one .und) :: .v (.one .und) :: .v (.one .und) :: .v (.one .und) :: .v (.one .und) :: .v (.one .und) :: .v (.one .und) :: .v (.one .und) :: .v (.one .und) :: .v (.one .und) :: .v (.one .und) :: .v (.one .und) :: .v (.one .und) :: .v (.one .und) :: .v (.one .und) :: .v (.one .und) :: .v (.one .und) :: .v (.one .und) :: .v (.one .und) :: .v (.one .und) :: .v (.one .und) :: .v (.one .und) :: .v (.one .und) :: .v (.one .und) :: .v (.one .und) :: .v (.one .und) :: [], [.row 120 (.trips y6), .row 3 (.ints .i64 y7), .cells 24 [.int .i64 y8, .int .i64 y9]]⟩
theorem fl149_0_0 (s : St) : refSt (h149_0_0 [] 0 0 0 0 0 0 [] [] 0 0) s = h149_0_0 (rInts (rowV (oneA (vT (nx tund s.tmps 1))))) (intS (oneA (vT (nx tund s.tmps 2)))) (intS (oneA (vT (nx tund s.tmps 3)))) (intS (oneA (vT (nx tund s.tmps 4)))) (intS (oneA (vT (nx tund s.tmps 18)))) (intS (oneA (vT (nx tund s.tmps 22)))) (intS (oneA (vT (nx tund s.tmps 23)))) (rTrips (rowB_ (nx .dead s.blks 0))) (rInts (rowB_ (nx .dead s.blks 1))) (intS (nx .und (cellsB (nx .dead s.blks 2)) 0)) (intS (nx .und (cellsB (nx .dead s.blks 2)) 1)) := by kernel_rfl
def VLS149_0 {β : Type} (N : Nat) (q_spec_l19Build_l0 : Nat → List Int → Int → Int → Int → Int → Int → Int → List (Int × Int × Int) → List Int → Int → Int → (Int → List (Int × Int × Int) → List Int → Option β) → (List Int → Int → Int → Int → Int → Int → List (Int × Int × Int) → List Int → Int → Int → Option β) → Option β) (G : Nat) : LSpec β := fun s K => cond (shpSt (h149_0_0 [] 0 0 0 0 0 0 [] [] 0 0) s) ((fun (v0 : List Int) (v1 : Int) (v2 : Int) (v3 : Int) (v4 : Int) (v5 : Int) (v6 : Int) (v7 : List (Int × Int × Int)) (v8 : List Int) (v9 : Int) (v10 : Int) => q_spec_l19Build_l0  N v0 v1 v2 v3 v4 v5 v6 v7 v8 v9 v10 (fun y0 y1 y2 => K .ret (x149_0_0_k0  y0 y1 y2)) (fun y0 y1 y2 y3 y4 y5 y6 y7 y8 y9 => K (.exit 0) (x149_0_0_k1  y0 y1 y2 y3 y4 y5 y6 y7 y8 y9))) (rInts (rowV (oneA (vT (nx tund s.tmps 1))))) (intS (oneA (vT (nx tund s.tmps 2)))) (intS (oneA (vT (nx tund s.tmps 3)))) (intS (oneA (vT (nx tund s.tmps 4)))) (intS (oneA (vT (nx tund s.tmps 18)))) (intS (oneA (vT (nx tund s.tmps 22)))) (intS (oneA (vT (nx tund s.tmps 23)))) (rTrips (rowB_ (nx .dead s.blks 0))) (rInts (rowB_ (nx .dead s.blks 1))) (intS (nx .und (cellsB (nx .dead s.blks 2)) 0)) (intS (nx .und (cellsB (nx .dead s.blks 2)) 1))) (none)
def LS149_0 {β : Type} (N : Nat) (G : Nat) : LSpec β := VLS149_0 N (spec_l19Build_l0 N) G
def VE149 {β : Type} (N : Nat) (q_spec_l3Cube : (a0 : Int) → (a1 : Int) → (a2 : Int) → (a3 : Int) → (k : Int → Option β) → Option β) (q_spec_l19Word : (a0 : Int) → (a1 : Int) → (a2 : Int) → (a3 : Int) → (k : Int → Option β) → Option β) (q_spec_l19Build_l0 : Nat → List Int → Int → Int → Int → Int → Int → Int → List (Int × Int × Int) → List Int → Int → Int → (Int → List (Int × Int × Int) → List Int → Option β) → (List Int → Int → Int → Int → Int → Int → List (Int × Int × Int) → List Int → Int → Int → Option β) → Option β) (q_spec_l19Build_g0_f : Nat → Int → Int → List Int → Int → Int → Int → List (Int × Int × Int) → List Int → (Int → List (Int × Int × Int) → List Int → Option β) → Option β) (G : Nat) : Env β := ⟨[(171, VS171 N q_spec_l3Cube), (198, VS198 N q_spec_l19Word)], [], [(0, VLS149_0 N q_spec_l19Build_l0 G)], [(149, VSF149 N q_spec_l19Build_g0_f G)], ⟨[], [], [145], [149, 152, 199]⟩⟩
def E149 {β : Type} (N : Nat) (G : Nat) : Env β := VE149 N (spec_l3Cube N) (spec_l19Word N) (spec_l19Build_l0 N) (spec_l19Build_g0_f N) G
def BV_spec_l19Build_l0b {β : Type} (N : Nat)  (v0 : List Int) (v1 : Int) (v2 : Int) (v3 : Int) (v4 : Int) (v5 : Int) (v6 : Int) (v7 : List (Int × Int × Int)) (v8 : List Int) (v9 : Int) (v10 : Int) (rec_ : List Int → Int → Int → Int → Int → Int → Int → List (Int × Int × Int) → List Int → Int → Int → Option β) (k0 : Int → List (Int × Int × Int) → List Int → Option β) (k1 : List Int → Int → Int → Int → Int → Int → List (Int × Int × Int) → List Int → Int → Int → Option β) : Option β :=
(cond ((decide (v6 < (v8.length : Int))))
((gd ((decide (0 ≤ v6)))
((gd ((decide (v6 < (v8.length : Int))))
((cond (((rd 0 v8 v6) == v5))
(k0 v6 v7 v8)
(rec_ v0 v1 v2 v3 v4 v5 ((w64 (v6 + 1))) v7 v8 v9 v10)))))))
(k1 v0 v1 v2 v3 v4 v5 v7 v8 v9 v10))
theorem t_spec_l19Build_l0b {β : Type} (N : Nat)  (v0 : List Int) (v1 : Int) (v2 : Int) (v3 : Int) (v4 : Int) (v5 : Int) (v6 : Int) (v7 : List (Int × Int × Int)) (v8 : List Int) (v9 : Int) (v10 : Int) (rec_ : List Int → Int → Int → Int → Int → Int → Int → List (Int × Int × Int) → List Int → Int → Int → Option β) (k0 : Int → List (Int × Int × Int) → List Int → Option β) (k1 : List Int → Int → Int → Int → Int → Int → List (Int × Int × Int) → List Int → Int → Int → Option β) : spec_l19Build_l0b N v0 v1 v2 v3 v4 v5 v6 v7 v8 v9 v10 rec_ k0 k1 = BV_spec_l19Build_l0b N v0 v1 v2 v3 v4 v5 v6 v7 v8 v9 v10 rec_ k0 k1 := by
  unfold spec_l19Build_l0b BV_spec_l19Build_l0b
  rfl
theorem vst149_0_0 {β : Type} (N : Nat) (q_spec_l3Cube : (a0 : Int) → (a1 : Int) → (a2 : Int) → (a3 : Int) → (k : Int → Option β) → Option β) (q_spec_l19Word : (a0 : Int) → (a1 : Int) → (a2 : Int) → (a3 : Int) → (k : Int → Option β) → Option β) (q_spec_l19Build_l0 : Nat → List Int → Int → Int → Int → Int → Int → Int → List (Int × Int × Int) → List Int → Int → Int → (Int → List (Int × Int × Int) → List Int → Option β) → (List Int → Int → Int → Int → Int → Int → List (Int × Int × Int) → List Int → Int → Int → Option β) → Option β) (q_spec_l19Build_g0_f : Nat → Int → Int → List Int → Int → Int → Int → List (Int × Int × Int) → List Int → (Int → List (Int × Int × Int) → List Int → Option β) → Option β) (G : Nat)  (v0 : List Int) (v1 : Int) (v2 : Int) (v3 : Int) (v4 : Int) (v5 : Int) (v6 : Int) (v7 : List (Int × Int × Int)) (v8 : List Int) (v9 : Int) (v10 : Int) (rec_ : St → Option β) (K : Exit → St → Option β) :
    ev lay (VE149 N q_spec_l3Cube q_spec_l19Word q_spec_l19Build_l0 q_spec_l19Build_g0_f G) (retMask Tryd.f149) (lp Tryd.f149 0).body (lp Tryd.f149 0).ex ((lp Tryd.f149 0).lv (retMask Tryd.f149)) (h149_0_0  v0 v1 v2 v3 v4 v5 v6 v7 v8 v9 v10) (nextR (fun s' => rec_ (s'.tidy ((lp Tryd.f149 0).lv (retMask Tryd.f149)))) K) = BV_spec_l19Build_l0b N  v0 v1 v2 v3 v4 v5 v6 v7 v8 v9 v10 (fun v0 v1 v2 v3 v4 v5 v6 v7 v8 v9 v10 => rec_ (h149_0_0  v0 v1 v2 v3 v4 v5 v6 v7 v8 v9 v10)) (fun y0 y1 y2 => K .ret (x149_0_0_k0  y0 y1 y2)) (fun y0 y1 y2 y3 y4 y5 y6 y7 y8 y9 => K (.exit 0) (x149_0_0_k1  y0 y1 y2 y3 y4 y5 y6 y7 y8 y9)) := by kernel_rfl
theorem st149_0_0 {β : Type} (N : Nat) (G : Nat)  (v0 : List Int) (v1 : Int) (v2 : Int) (v3 : Int) (v4 : Int) (v5 : Int) (v6 : Int) (v7 : List (Int × Int × Int)) (v8 : List Int) (v9 : Int) (v10 : Int) (rec_ : St → Option β) (K : Exit → St → Option β) :
    ev lay (E149 N G) (retMask Tryd.f149) (lp Tryd.f149 0).body (lp Tryd.f149 0).ex ((lp Tryd.f149 0).lv (retMask Tryd.f149)) (h149_0_0  v0 v1 v2 v3 v4 v5 v6 v7 v8 v9 v10) (nextR (fun s' => rec_ (s'.tidy ((lp Tryd.f149 0).lv (retMask Tryd.f149)))) K) = spec_l19Build_l0b N  v0 v1 v2 v3 v4 v5 v6 v7 v8 v9 v10 (fun v0 v1 v2 v3 v4 v5 v6 v7 v8 v9 v10 => rec_ (h149_0_0  v0 v1 v2 v3 v4 v5 v6 v7 v8 v9 v10)) (fun y0 y1 y2 => K .ret (x149_0_0_k0  y0 y1 y2)) (fun y0 y1 y2 y3 y4 y5 y6 y7 y8 y9 => K (.exit 0) (x149_0_0_k1  y0 y1 y2 y3 y4 y5 y6 y7 y8 y9)) := (vst149_0_0 N (spec_l3Cube N) (spec_l19Word N) (spec_l19Build_l0 N) (spec_l19Build_g0_f N) G v0 v1 v2 v3 v4 v5 v6 v7 v8 v9 v10 rec_ K).trans (t_spec_l19Build_l0b N  v0 v1 v2 v3 v4 v5 v6 v7 v8 v9 v10 (fun v0 v1 v2 v3 v4 v5 v6 v7 v8 v9 v10 => rec_ (h149_0_0  v0 v1 v2 v3 v4 v5 v6 v7 v8 v9 v10)) (fun y0 y1 y2 => K .ret (x149_0_0_k0  y0 y1 y2)) (fun y0 y1 y2 y3 y4 y5 y6 y7 y8 y9 => K (.exit 0) (x149_0_0_k1  y0 y1 y2 y3 y4 y5 y6 y7 y8 y9))).symm
theorem ro149_0_0 {β : Type} (N : Nat) (G : Nat)  (K : Exit → St → Option β) : ∀ (F : Nat) (v0 : List Int) (v1 : Int) (v2 : Int) (v3 : Int) (v4 : Int) (v5 : Int) (v6 : Int) (v7 : List (Int × Int × Int)) (v8 : List Int) (v9 : Int) (v10 : Int), (lp Tryd.f149 0).rounds lay (E149 N G) (retMask Tryd.f149) F (h149_0_0  v0 v1 v2 v3 v4 v5 v6 v7 v8 v9 v10) K = spec_l19Build_l0 N  F v0 v1 v2 v3 v4 v5 v6 v7 v8 v9 v10 (fun y0 y1 y2 => K .ret (x149_0_0_k0  y0 y1 y2)) (fun y0 y1 y2 y3 y4 y5 y6 y7 y8 y9 => K (.exit 0) (x149_0_0_k1  y0 y1 y2 y3 y4 y5 y6 y7 y8 y9)) := by
  intro F
  induction F with
  | zero => intros; rfl
  | succ F ih =>
    intros
    rw [rounds_next]
    refine (st149_0_0 N G  _ _ _ _ _ _ _ _ _ _ _ (fun s => (lp Tryd.f149 0).rounds lay (E149 N G) (retMask Tryd.f149) F s K) K).trans ?_
    simp only [ih]
    rfl
theorem lk149_0 {β : Type} (N : Nat) (G : Nat) : lookL (E149 (β := β) N G).loops (lp Tryd.f149 0).id = LS149_0 N G := by kernel_rfl
theorem rk149_0 {β : Type} (N : Nat) (G : Nat) : RoundsOK lay (E149 (β := β) N G) (retMask Tryd.f149) (lp Tryd.f149 0) := by
  intro s K r h
  rw [lk149_0] at h
  unfold LS149_0 VLS149_0 at h
  cases hb : shpSt (h149_0_0 [] 0 0 0 0 0 0 [] [] 0 0) s with
  | true =>
    rw [hb, cond_true] at h
    exact ⟨N, by rw [← shpSt_ref hb, fl149_0_0 s]; exact (ro149_0_0 N G  K N (rInts (rowV (oneA (vT (nx tund s.tmps 1))))) (intS (oneA (vT (nx tund s.tmps 2)))) (intS (oneA (vT (nx tund s.tmps 3)))) (intS (oneA (vT (nx tund s.tmps 4)))) (intS (oneA (vT (nx tund s.tmps 18)))) (intS (oneA (vT (nx tund s.tmps 22)))) (intS (oneA (vT (nx tund s.tmps 23)))) (rTrips (rowB_ (nx .dead s.blks 0))) (rInts (rowB_ (nx .dead s.blks 1))) (intS (nx .und (cellsB (nx .dead s.blks 2)) 0)) (intS (nx .und (cellsB (nx .dead s.blks 2)) 1))).trans h⟩
  | false =>
  rw [hb, cond_false] at h
  clear hb
  cases h
def BV_spec_l19Build_g0_b {β : Type} (N : Nat) (q_spec_l3Cube : (a0 : Int) → (a1 : Int) → (a2 : Int) → (a3 : Int) → (k : Int → Option β) → Option β) (q_spec_l19Word : (a0 : Int) → (a1 : Int) → (a2 : Int) → (a3 : Int) → (k : Int → Option β) → Option β) (q_spec_l19Build_l0 : Nat → List Int → Int → Int → Int → Int → Int → Int → List (Int × Int × Int) → List Int → Int → Int → (Int → List (Int × Int × Int) → List Int → Option β) → (List Int → Int → Int → Int → Int → Int → List (Int × Int × Int) → List Int → Int → Int → Option β) → Option β) (self : Int → Int → List Int → Int → Int → Int → List (Int × Int × Int) → List Int → (Int → List (Int × Int × Int) → List Int → Option β) → Option β) (a0 : Int) (a1 : Int) (a2 : List Int) (a3 : Int) (a4 : Int) (a5 : Int) (a6 : List (Int × Int × Int)) (a7 : List Int) (k0 : Int → List (Int × Int × Int) → List Int → Option β) : Option β :=
q_spec_l3Cube a0 a1 a4 a5 fun r8 =>
(cond ((decide (r8 < 2)))
(k0 ((w64 (r8 - 2))) a6 a7)
((gd ((decide (0 ≤ a3)))
((gd ((decide (a3 < (a2.length : Int))))
((gd ((decide (0 ≤ (rd 0 a2 a3))))
(q_spec_l19Word a0 a1 ((bits .or .i64 a4 (shlI .i64 1 (rd 0 a2 a3)))) a5 fun r9 =>
q_spec_l19Word a0 a1 ((bits .or .i64 a4 (shlI .i64 1 (rd 0 a2 a3)))) ((bits .or .i64 a5 (shlI .i64 1 (rd 0 a2 a3)))) fun r10 =>
(cond ((r9 == r10))
(self a0 a1 a2 ((w64 (a3 + 1))) ((bits .or .i64 a4 (shlI .i64 1 (rd 0 a2 a3)))) a5 a6 a7 (fun r11_0 r11_1 r11_2 =>
k0 r11_0 r11_1 r11_2))
(q_spec_l19Word a0 a1 a4 a5 fun r12 =>
q_spec_l19Build_l0  N a2 a3 a4 a5 ((shlI .i64 1 (rd 0 a2 a3))) r12 0 a6 a7 a0 a1 (fun e13_0 e13_1 e13_2 =>
k0 e13_0 e13_1 e13_2) (fun e14_0 e14_1 e14_2 e14_3 e14_4 e14_5 e14_6 e14_7 e14_8 e14_9 =>
self e14_8 e14_9 e14_0 ((w64 (e14_1 + 1))) ((bits .or .i64 e14_2 e14_4)) e14_3 e14_6 e14_7 (fun r15_0 r15_1 r15_2 =>
self e14_8 e14_9 e14_0 ((w64 (e14_1 + 1))) ((bits .or .i64 e14_2 e14_4)) ((bits .or .i64 e14_3 e14_4)) r15_1 r15_2 (fun r16_0 r16_1 r16_2 =>
(gd ((decide (0 ≤ e14_1)))
((gd ((decide (e14_1 < (e14_0.length : Int))))
((gd ((decide ((r16_1.length + ((([] : List (Int × Int × Int)) ++ [((rd 0 e14_0 e14_1), r15_0, r16_0)])).length) * 24 ≤ 140737488355328)))
((gd ((decide ((r16_2.length + ((([] : List Int) ++ [e14_5])).length) * 8 ≤ 140737488355328)))
(k0 ((r16_1.length : Int)) ((r16_1 ++ (([] : List (Int × Int × Int)) ++ [((rd 0 e14_0 e14_1), r15_0, r16_0)]))) ((r16_2 ++ (([] : List Int) ++ [e14_5]))))))))))))))))))))))))
theorem t_spec_l19Build_g0_b {β : Type} (N : Nat) (self : Int → Int → List Int → Int → Int → Int → List (Int × Int × Int) → List Int → (Int → List (Int × Int × Int) → List Int → Option β) → Option β) (a0 : Int) (a1 : Int) (a2 : List Int) (a3 : Int) (a4 : Int) (a5 : Int) (a6 : List (Int × Int × Int)) (a7 : List Int) (k0 : Int → List (Int × Int × Int) → List Int → Option β) : spec_l19Build_g0_b N self a0 a1 a2 a3 a4 a5 a6 a7 k0 = BV_spec_l19Build_g0_b N (spec_l3Cube N) (spec_l19Word N) (spec_l19Build_l0 N) self a0 a1 a2 a3 a4 a5 a6 a7 k0 := by
  unfold spec_l19Build_g0_b BV_spec_l19Build_g0_b
  rfl
theorem ve149_0 {β : Type} (N : Nat) (q_spec_l3Cube : (a0 : Int) → (a1 : Int) → (a2 : Int) → (a3 : Int) → (k : Int → Option β) → Option β) (q_spec_l19Word : (a0 : Int) → (a1 : Int) → (a2 : Int) → (a3 : Int) → (k : Int → Option β) → Option β) (q_spec_l19Build_l0 : Nat → List Int → Int → Int → Int → Int → Int → Int → List (Int × Int × Int) → List Int → Int → Int → (Int → List (Int × Int × Int) → List Int → Option β) → (List Int → Int → Int → Int → Int → Int → List (Int × Int × Int) → List Int → Int → Int → Option β) → Option β) (q_spec_l19Build_g0_f : Nat → Int → Int → List Int → Int → Int → Int → List (Int × Int × Int) → List Int → (Int → List (Int × Int × Int) → List Int → Option β) → Option β) (G : Nat) (a0 : Int) (a1 : Int) (a2 : List Int) (a3 : Int) (a4 : Int) (a5 : Int) (a6 : List (Int × Int × Int)) (a7 : List Int) (K : TV → List Blk → Option β) : evFnG lay (VE149 N q_spec_l3Cube q_spec_l19Word q_spec_l19Build_l0 q_spec_l19Build_g0_f G) Tryd.f149 [.v (.agg [.int .i64 a0, .int .i64 a1]), .v (.one (.sl 3 (.ints .i64 a2))), .v (.one (.int .i64 a3)), .v (.one (.int .i64 a4)), .v (.one (.int .i64 a5)), .v (.one (.row 0)), .v (.one (.row 1))] [.row 120 (.trips a6), .row 3 (.ints .i64 a7)] K = BV_spec_l19Build_g0_b N q_spec_l3Cube q_spec_l19Word q_spec_l19Build_l0 (q_spec_l19Build_g0_f G) a0 a1 a2 a3 a4 a5 a6 a7 (fun y0 y1 y2 => K (.tup [.one (.int .i64 y0), .one (.row 0), .one (.row 1)]) [.row 120 (.trips y1), .row 3 (.ints .i64 y2)]) := by kernel_rfl
theorem e149_0 {β : Type} (N : Nat) (G : Nat) (a0 : Int) (a1 : Int) (a2 : List Int) (a3 : Int) (a4 : Int) (a5 : Int) (a6 : List (Int × Int × Int)) (a7 : List Int) (K : TV → List Blk → Option β) : evFnG lay (E149 N G) Tryd.f149 [.v (.agg [.int .i64 a0, .int .i64 a1]), .v (.one (.sl 3 (.ints .i64 a2))), .v (.one (.int .i64 a3)), .v (.one (.int .i64 a4)), .v (.one (.int .i64 a5)), .v (.one (.row 0)), .v (.one (.row 1))] [.row 120 (.trips a6), .row 3 (.ints .i64 a7)] K = spec_l19Build_g0_f N (G + 1) a0 a1 a2 a3 a4 a5 a6 a7 (fun y0 y1 y2 => K (.tup [.one (.int .i64 y0), .one (.row 0), .one (.row 1)]) [.row 120 (.trips y1), .row 3 (.ints .i64 y2)]) := (ve149_0 N (spec_l3Cube N) (spec_l19Word N) (spec_l19Build_l0 N) (spec_l19Build_g0_f N) G a0 a1 a2 a3 a4 a5 a6 a7 K).trans (t_spec_l19Build_g0_b N (spec_l19Build_g0_f N G) a0 a1 a2 a3 a4 a5 a6 a7 (fun y0 y1 y2 => K (.tup [.one (.int .i64 y0), .one (.row 0), .one (.row 1)]) [.row 120 (.trips y1), .row 3 (.ints .i64 y2)])).symm
theorem z149 {β : Type} (N : Nat) : ∀ args bl K r, SF149 (β := β) N 0 args bl K = some r → (none : Option β) = some r := by
  intro args bl K r h
  unfold SF149 VSF149 at h
  split at h <;> exact h
theorem of149 {β : Type} (N : Nat) : ∀ G, GOK (β := β) inv Tryd.prog 149 (SF149 N G) := by
  intro G
  induction G with
  | zero => exact g_zero Tryd.func149 (by kernel_rfl) (z149 N)
  | succ G ih =>
    refine g_of lay_ok mixed (E := E149 N G) (specs_loops (specs_cons (o171 N) (specs_cons (o198 N) specs_nil))) muts_nil (gs_cons ih gs_nil) Tryd.func149 (by kernel_rfl) 1 (by kernel_rfl) ⟨trivial, rk149_0 N G⟩ fun args bl K r h => ?_
    unfold SF149 VSF149 at h
    split at h
    · exact (e149_0 N G _ _ _ _ _ _ _ _ _).trans h
    · cases h
theorem o149 {β : Type} (N : Nat) : GOK (β := β) inv Tryd.prog 149 (S149 N) := of149 N N
def VS86 {β : Type} (N : Nat) (q_spec_DiagramOf : (a0 : Int) → (a1 : Int) → (a2 : List Int) → (k : List (Int × Int × Int) → Bool → Option β) → Option β) : Rv.Spec β := fun args K => match args with
  | [.v (.agg [.int .i64 a0, .int .i64 a1]), .v (.one (.sl 3 (.ints .i64 a2)))] => q_spec_DiagramOf a0 a1 a2 (fun z3 z4 => K (.tup [.one (.sl 120 (.trips z3)), .one (.bool z4)]))
  | _ => none
def S86 {β : Type} (N : Nat) : Rv.Spec β := VS86 N (spec_DiagramOf N)
def VE86 {β : Type} (N : Nat) (q_spec_IsTable : (a0 : Int) → (a1 : Int) → (k : Bool → Option β) → Option β) (q_spec_l3Perm : (a0 : List Int) → (a1 : Int) → (k : Bool → Option β) → Option β) (q_spec_IsConstant : (a0 : Int) → (a1 : Int) → (k : Bool → Option β) → Option β) (q_spec_l19Build_g0_f : Nat → Int → Int → List Int → Int → Int → Int → List (Int × Int × Int) → List Int → (Int → List (Int × Int × Int) → List Int → Option β) → Option β) : Env β := ⟨[(51, VS51 N q_spec_IsTable), (147, VS147 N q_spec_l3Perm), (148, VS148 N q_spec_IsConstant)], [], [], [(149, VS149 N q_spec_l19Build_g0_f)], ⟨[], [], [145], [149, 152, 199]⟩⟩
def E86 {β : Type} (N : Nat) : Env β := VE86 N (spec_IsTable N) (spec_l3Perm N) (spec_IsConstant N) (spec_l19Build_g0_f N)
def BV_spec_DiagramOf {β : Type} (N : Nat) (q_spec_IsTable : (a0 : Int) → (a1 : Int) → (k : Bool → Option β) → Option β) (q_spec_l3Perm : (a0 : List Int) → (a1 : Int) → (k : Bool → Option β) → Option β) (q_spec_IsConstant : (a0 : Int) → (a1 : Int) → (k : Bool → Option β) → Option β) (q_spec_l19Build_g0_f : Nat → Int → Int → List Int → Int → Int → Int → List (Int × Int × Int) → List Int → (Int → List (Int × Int × Int) → List Int → Option β) → Option β) (a0 : Int) (a1 : Int) (a2 : List Int) (k : List (Int × Int × Int) → Bool → Option β) : Option β :=
q_spec_IsTable a0 a1 fun r5 =>
(cond (!r5)
(k (([] : List (Int × Int × Int))) false)
(q_spec_l3Perm a2 a0 fun r6 =>
(cond (!r6)
(k (([] : List (Int × Int × Int))) false)
(q_spec_IsConstant a0 a1 fun r7 =>
(cond r7
(k (([] : List (Int × Int × Int))) true)
(q_spec_l19Build_g0_f N a0 a1 a2 0 0 0 (([] : List (Int × Int × Int))) (([] : List Int)) (fun r8_0 r8_1 r8_2 =>
k r8_1 true)))))))
theorem t_spec_DiagramOf {β : Type} (N : Nat) (a0 : Int) (a1 : Int) (a2 : List Int) (k : List (Int × Int × Int) → Bool → Option β) : spec_DiagramOf N a0 a1 a2 k = BV_spec_DiagramOf N (spec_IsTable N) (spec_l3Perm N) (spec_IsConstant N) (spec_l19Build_g0_f N) a0 a1 a2 k := by
  unfold spec_DiagramOf BV_spec_DiagramOf
  rfl
theorem ve86_0 {β : Type} (N : Nat) (q_spec_IsTable : (a0 : Int) → (a1 : Int) → (k : Bool → Option β) → Option β) (q_spec_l3Perm : (a0 : List Int) → (a1 : Int) → (k : Bool → Option β) → Option β) (q_spec_IsConstant : (a0 : Int) → (a1 : Int) → (k : Bool → Option β) → Option β) (q_spec_l19Build_g0_f : Nat → Int → Int → List Int → Int → Int → Int → List (Int × Int × Int) → List Int → (Int → List (Int × Int × Int) → List Int → Option β) → Option β)  (a0 : Int) (a1 : Int) (a2 : List Int) (K : TV → Option β) : evFn lay (VE86 N q_spec_IsTable q_spec_l3Perm q_spec_IsConstant q_spec_l19Build_g0_f) Tryd.f86 [.v (.agg [.int .i64 a0, .int .i64 a1]), .v (.one (.sl 3 (.ints .i64 a2)))] K = BV_spec_DiagramOf N q_spec_IsTable q_spec_l3Perm q_spec_IsConstant q_spec_l19Build_g0_f a0 a1 a2 (fun z3 z4 => K (.tup [.one (.sl 120 (.trips z3)), .one (.bool z4)])) := by kernel_rfl
theorem e86_0 {β : Type} (N : Nat)  (a0 : Int) (a1 : Int) (a2 : List Int) (K : TV → Option β) : evFn lay (E86 N) Tryd.f86 [.v (.agg [.int .i64 a0, .int .i64 a1]), .v (.one (.sl 3 (.ints .i64 a2)))] K = spec_DiagramOf N a0 a1 a2 (fun z3 z4 => K (.tup [.one (.sl 120 (.trips z3)), .one (.bool z4)])) := (ve86_0 N (spec_IsTable N) (spec_l3Perm N) (spec_IsConstant N) (spec_l19Build_g0_f N) a0 a1 a2 K).trans (t_spec_DiagramOf N a0 a1 a2 (fun z3 z4 => K (.tup [.one (.sl 120 (.trips z3)), .one (.bool z4)]))).symm
theorem o86 {β : Type} (N : Nat) : SpecOK (β := β) inv Tryd.prog 86 (S86 N) := by
  refine spec_of lay_ok mixed (E := E86 N) (specs_loops (specs_cons (o51 N) (specs_cons (o147 N) (specs_cons (o148 N) specs_nil)))) muts_nil (gs_cons (o149 N) gs_nil) Tryd.func86 (by kernel_rfl) 0 (by kernel_rfl) trivial fun args K r h => ?_
  unfold S86 VS86 at h
  split at h
  · exact (e86_0 N _ _ _ _).trans h
  · cases h
def VS146 {β : Type} (N : Nat) (q_spec_SizeOfDiagram : (a0 : Int) → (a1 : Int) → (a2 : List Int) → (k : Int → Option β) → Option β) : Rv.Spec β := fun args K => match args with
  | [.v (.agg [.int .i64 a0, .int .i64 a1]), .v (.one (.sl 3 (.ints .i64 a2)))] => q_spec_SizeOfDiagram a0 a1 a2 (fun z3 => K (.v (.one (.int .i64 z3))))
  | _ => none
def S146 {β : Type} (N : Nat) : Rv.Spec β := VS146 N (spec_SizeOfDiagram N)
def VE146 {β : Type} (N : Nat) (q_spec_DiagramOf : (a0 : Int) → (a1 : Int) → (a2 : List Int) → (k : List (Int × Int × Int) → Bool → Option β) → Option β) : Env β := ⟨[(86, VS86 N q_spec_DiagramOf)], [], [], [], ⟨[], [], [145], [149, 152, 199]⟩⟩
def E146 {β : Type} (N : Nat) : Env β := VE146 N (spec_DiagramOf N)
def BV_spec_SizeOfDiagram {β : Type} (N : Nat) (q_spec_DiagramOf : (a0 : Int) → (a1 : Int) → (a2 : List Int) → (k : List (Int × Int × Int) → Bool → Option β) → Option β) (a0 : Int) (a1 : Int) (a2 : List Int) (k : Int → Option β) : Option β :=
q_spec_DiagramOf a0 a1 a2 fun r4 r5 =>
(cond (!r5)
(k (-1))
(k ((r4.length : Int))))
theorem t_spec_SizeOfDiagram {β : Type} (N : Nat) (a0 : Int) (a1 : Int) (a2 : List Int) (k : Int → Option β) : spec_SizeOfDiagram N a0 a1 a2 k = BV_spec_SizeOfDiagram N (spec_DiagramOf N) a0 a1 a2 k := by
  unfold spec_SizeOfDiagram BV_spec_SizeOfDiagram
  rfl
theorem ve146_0 {β : Type} (N : Nat) (q_spec_DiagramOf : (a0 : Int) → (a1 : Int) → (a2 : List Int) → (k : List (Int × Int × Int) → Bool → Option β) → Option β)  (a0 : Int) (a1 : Int) (a2 : List Int) (K : TV → Option β) : evFn lay (VE146 N q_spec_DiagramOf) Tryd.f146 [.v (.agg [.int .i64 a0, .int .i64 a1]), .v (.one (.sl 3 (.ints .i64 a2)))] K = BV_spec_SizeOfDiagram N q_spec_DiagramOf a0 a1 a2 (fun z3 => K (.v (.one (.int .i64 z3)))) := by kernel_rfl
theorem e146_0 {β : Type} (N : Nat)  (a0 : Int) (a1 : Int) (a2 : List Int) (K : TV → Option β) : evFn lay (E146 N) Tryd.f146 [.v (.agg [.int .i64 a0, .int .i64 a1]), .v (.one (.sl 3 (.ints .i64 a2)))] K = spec_SizeOfDiagram N a0 a1 a2 (fun z3 => K (.v (.one (.int .i64 z3)))) := (ve146_0 N (spec_DiagramOf N) a0 a1 a2 K).trans (t_spec_SizeOfDiagram N a0 a1 a2 (fun z3 => K (.v (.one (.int .i64 z3))))).symm
theorem o146 {β : Type} (N : Nat) : SpecOK (β := β) inv Tryd.prog 146 (S146 N) := by
  refine spec_of lay_ok mixed (E := E146 N) (specs_loops (specs_cons (o86 N) specs_nil)) muts_nil gs_nil Tryd.func146 (by kernel_rfl) 0 (by kernel_rfl) trivial fun args K r h => ?_
  unfold S146 VS146 at h
  split at h
  · exact (e146_0 N _ _ _ _).trans h
  · cases h
def VS85 {β : Type} (N : Nat) (q_spec_LeastOrder : (a0 : Int) → (a1 : Int) → (k : List Int → Int → Bool → Option β) → Option β) : Rv.Spec β := fun args K => match args with
  | [.v (.agg [.int .i64 a0, .int .i64 a1])] => q_spec_LeastOrder a0 a1 (fun z2 z3 z4 => K (.tup [.one (.fsl 3 (.ints .i64 z2)), .one (.int .i64 z3), .one (.bool z4)]))
  | _ => none
def S85 {β : Type} (N : Nat) : Rv.Spec β := VS85 N (spec_LeastOrder N)
def h85_0_0  (v0 : Int) (v1 : Int) (v2 : Int) (v3 : Int) (v4 : Int) (v5 : List (List Int)) : St := ⟨.v (.one .und) :: .v (.one (.ptr 0 0)) :: .v (.one .und) :: .v (.one .und) :: .v (.one .und) :: .v (.one (.row 1)) :: .v (.one (.int .i64 v0)) :: .v (.one (.int .i64 v1)) :: .v (.one (.int .i64 v2)) :: .v (.one .und) :: .v (.one .und) :: .v (.one .und) :: .v (.one .und) :: .v (.one .und) :: .v (.one .und) :: .v (.one .und) :: .v (.one .und) :: .v (.one .und) :: .v (.one .und) :: .v (.one .und) :: .v (.one .und) :: .v (.one .und) :: .v (.one .und) :: .v (.one .und) :: .v (.one .und) :: .v (.one .und) :: .v (.one .und) :: .v (.one .und) :: .v (.one .und) :: .v (.one .und) :: .v (.one .und) :: .v (.one .und) :: .v (.one .und) :: .v (.one .und) :: .v (.one .und) :: .v (.one .und) :: .v (.one .und) :: .v (.one .und) :: .v (.one .und) :: .v (.one .und) :: .v (.one .und) :: .v (.one .und) :: .v (.one .und) :: .v (.one .und) :: .v (.one .und) :: .v (.one .und) :: .v (.one .und) :: .v (.one .und) :: .v (.one .und) :: .v (.one .und) :: [], [.cells 24 [.int .i64 v3, .int .i64 v4], .row 25 (.lists 3 v5)]⟩
def x85_0_0_k0  (y0 : Int) (y1 : Int) (y2 : List (List Int)) : St := ⟨.v (.one .und) :: .v (.one .und) :: .v (.one .und) :: .v (.one .und) :: .v (.one .und) :: .v (.one (.row 0)) :: .v (.one (.int .i64 y0)) :: .v (.one (.int .i64 y1)) :: .v (.one .und) :: .v (.one .und) :: .v (.one .und) :: .v (.one .und) :: .v (.one .und) :: .v (.one .und) :: .v (.one .und) :: .v (.one .und) :: .v (.one .und) :: .v (.one .und) :: .v (.one .und) :: .v (.one .und) :: .v (.one .und) :: .v (.one .und) :: .v (.one .und) :: .v (.one .und) :: .v (.one .und) :: .v (.one .und) :: .v (.one .und) :: .v (.one .und) :: .v (.one .und) :: .v (.one .und) :: .v (.one .und) :: .v (.one .und) :: .v (.one .und) :: .v (.one .und) :: .v (.one .und) :: .v (.one .und) :: .v (.one .und) :: .v (.one .und) :: .v (.one .und) :: .v (.one .und) :: .v (.one .und) :: .v (.one .und) :: .v (.one .und) :: .v (.one .und) :: .v (.one .und) :: .v (.one .und) :: .v (.one .und) :: .v (.one .und) :: .v (.one .und) :: .v (.one .und) :: [], [.row 25 (.lists 3 y2)]⟩
theorem fl85_0_0 (s : St) : refSt (h85_0_0 0 0 0 0 0 []) s = h85_0_0 (intS (oneA (vT (nx tund s.tmps 6)))) (intS (oneA (vT (nx tund s.tmps 7)))) (intS (oneA (vT (nx tund s.tmps 8)))) (intS (nx .und (cellsB (nx .dead s.blks 0)) 0)) (intS (nx .und (cellsB (nx .dead s.blks 0)) 1)) (rLists (rowB_ (nx .dead s.blks 1))) := by kernel_rfl
def VLS85_0 {β : Type} (N : Nat) (q_spec_LeastOrder_l0 : Nat → Int → Int → Int → Int → Int → List (List Int) → (Int → Int → List (List Int) → Option β) → Option β) : LSpec β := fun s K => cond (shpSt (h85_0_0 0 0 0 0 0 []) s) ((fun (v0 : Int) (v1 : Int) (v2 : Int) (v3 : Int) (v4 : Int) (v5 : List (List Int)) => q_spec_LeastOrder_l0  N v0 v1 v2 v3 v4 v5 (fun y0 y1 y2 => K (.exit 0) (x85_0_0_k0  y0 y1 y2))) (intS (oneA (vT (nx tund s.tmps 6)))) (intS (oneA (vT (nx tund s.tmps 7)))) (intS (oneA (vT (nx tund s.tmps 8)))) (intS (nx .und (cellsB (nx .dead s.blks 0)) 0)) (intS (nx .und (cellsB (nx .dead s.blks 0)) 1)) (rLists (rowB_ (nx .dead s.blks 1)))) (none)
def LS85_0 {β : Type} (N : Nat) : LSpec β := VLS85_0 N (spec_LeastOrder_l0 N)
def VE85 {β : Type} (N : Nat) (q_spec_IsTable : (a0 : Int) → (a1 : Int) → (k : Bool → Option β) → Option β) (q_spec_l4Perms_f : Nat → Int → List Int → (List (List Int) → Option β) → Option β) (q_spec_SizeOfDiagram : (a0 : Int) → (a1 : Int) → (a2 : List Int) → (k : Int → Option β) → Option β) (q_spec_LeastOrder_l0 : Nat → Int → Int → Int → Int → Int → List (List Int) → (Int → Int → List (List Int) → Option β) → Option β) : Env β := ⟨[(51, VS51 N q_spec_IsTable), (145, VS145 N q_spec_l4Perms_f), (146, VS146 N q_spec_SizeOfDiagram)], [], [(0, VLS85_0 N q_spec_LeastOrder_l0)], [], ⟨[], [], [145], [149, 152, 199]⟩⟩
def E85 {β : Type} (N : Nat) : Env β := VE85 N (spec_IsTable N) (spec_l4Perms_f N) (spec_SizeOfDiagram N) (spec_LeastOrder_l0 N)
def BV_spec_LeastOrder_l0b {β : Type} (N : Nat) (q_spec_SizeOfDiagram : (a0 : Int) → (a1 : Int) → (a2 : List Int) → (k : Int → Option β) → Option β)  (v0 : Int) (v1 : Int) (v2 : Int) (v3 : Int) (v4 : Int) (v5 : List (List Int)) (rec_ : Int → Int → Int → Int → Int → List (List Int) → Option β) (k0 : Int → Int → List (List Int) → Option β) : Option β :=
(cond ((decide (v2 < (v5.length : Int))))
((gd ((decide (0 ≤ v2)))
((gd ((decide (v2 < (v5.length : Int))))
(q_spec_SizeOfDiagram v3 v4 ((rd [] v5 v2)) fun r8 =>
(cond ((decide (r8 < v1)))
(rec_ v2 r8 ((w64 (v2 + 1))) v3 v4 v5)
(rec_ v0 v1 ((w64 (v2 + 1))) v3 v4 v5)))))))
(k0 v0 v1 v5))
theorem t_spec_LeastOrder_l0b {β : Type} (N : Nat)  (v0 : Int) (v1 : Int) (v2 : Int) (v3 : Int) (v4 : Int) (v5 : List (List Int)) (rec_ : Int → Int → Int → Int → Int → List (List Int) → Option β) (k0 : Int → Int → List (List Int) → Option β) : spec_LeastOrder_l0b N v0 v1 v2 v3 v4 v5 rec_ k0 = BV_spec_LeastOrder_l0b N (spec_SizeOfDiagram N) v0 v1 v2 v3 v4 v5 rec_ k0 := by
  unfold spec_LeastOrder_l0b BV_spec_LeastOrder_l0b
  rfl
theorem vst85_0_0 {β : Type} (N : Nat) (q_spec_IsTable : (a0 : Int) → (a1 : Int) → (k : Bool → Option β) → Option β) (q_spec_l4Perms_f : Nat → Int → List Int → (List (List Int) → Option β) → Option β) (q_spec_SizeOfDiagram : (a0 : Int) → (a1 : Int) → (a2 : List Int) → (k : Int → Option β) → Option β) (q_spec_LeastOrder_l0 : Nat → Int → Int → Int → Int → Int → List (List Int) → (Int → Int → List (List Int) → Option β) → Option β)  (v0 : Int) (v1 : Int) (v2 : Int) (v3 : Int) (v4 : Int) (v5 : List (List Int)) (rec_ : St → Option β) (K : Exit → St → Option β) :
    ev lay (VE85 N q_spec_IsTable q_spec_l4Perms_f q_spec_SizeOfDiagram q_spec_LeastOrder_l0) (retMask Tryd.f85) (lp Tryd.f85 0).body (lp Tryd.f85 0).ex ((lp Tryd.f85 0).lv (retMask Tryd.f85)) (h85_0_0  v0 v1 v2 v3 v4 v5) (nextR (fun s' => rec_ (s'.tidy ((lp Tryd.f85 0).lv (retMask Tryd.f85)))) K) = BV_spec_LeastOrder_l0b N q_spec_SizeOfDiagram  v0 v1 v2 v3 v4 v5 (fun v0 v1 v2 v3 v4 v5 => rec_ (h85_0_0  v0 v1 v2 v3 v4 v5)) (fun y0 y1 y2 => K (.exit 0) (x85_0_0_k0  y0 y1 y2)) := by kernel_rfl
theorem st85_0_0 {β : Type} (N : Nat)  (v0 : Int) (v1 : Int) (v2 : Int) (v3 : Int) (v4 : Int) (v5 : List (List Int)) (rec_ : St → Option β) (K : Exit → St → Option β) :
    ev lay (E85 N) (retMask Tryd.f85) (lp Tryd.f85 0).body (lp Tryd.f85 0).ex ((lp Tryd.f85 0).lv (retMask Tryd.f85)) (h85_0_0  v0 v1 v2 v3 v4 v5) (nextR (fun s' => rec_ (s'.tidy ((lp Tryd.f85 0).lv (retMask Tryd.f85)))) K) = spec_LeastOrder_l0b N  v0 v1 v2 v3 v4 v5 (fun v0 v1 v2 v3 v4 v5 => rec_ (h85_0_0  v0 v1 v2 v3 v4 v5)) (fun y0 y1 y2 => K (.exit 0) (x85_0_0_k0  y0 y1 y2)) := (vst85_0_0 N (spec_IsTable N) (spec_l4Perms_f N) (spec_SizeOfDiagram N) (spec_LeastOrder_l0 N) v0 v1 v2 v3 v4 v5 rec_ K).trans (t_spec_LeastOrder_l0b N  v0 v1 v2 v3 v4 v5 (fun v0 v1 v2 v3 v4 v5 => rec_ (h85_0_0  v0 v1 v2 v3 v4 v5)) (fun y0 y1 y2 => K (.exit 0) (x85_0_0_k0  y0 y1 y2))).symm
theorem ro85_0_0 {β : Type} (N : Nat)  (K : Exit → St → Option β) : ∀ (F : Nat) (v0 : Int) (v1 : Int) (v2 : Int) (v3 : Int) (v4 : Int) (v5 : List (List Int)), (lp Tryd.f85 0).rounds lay (E85 N) (retMask Tryd.f85) F (h85_0_0  v0 v1 v2 v3 v4 v5) K = spec_LeastOrder_l0 N  F v0 v1 v2 v3 v4 v5 (fun y0 y1 y2 => K (.exit 0) (x85_0_0_k0  y0 y1 y2)) := by
  intro F
  induction F with
  | zero => intros; rfl
  | succ F ih =>
    intros
    rw [rounds_next]
    refine (st85_0_0 N  _ _ _ _ _ _ (fun s => (lp Tryd.f85 0).rounds lay (E85 N) (retMask Tryd.f85) F s K) K).trans ?_
    simp only [ih]
    rfl
theorem lk85_0 {β : Type} (N : Nat) : lookL (E85 (β := β) N).loops (lp Tryd.f85 0).id = LS85_0 N := by kernel_rfl
theorem rk85_0 {β : Type} (N : Nat) : RoundsOK lay (E85 (β := β) N) (retMask Tryd.f85) (lp Tryd.f85 0) := by
  intro s K r h
  rw [lk85_0] at h
  unfold LS85_0 VLS85_0 at h
  cases hb : shpSt (h85_0_0 0 0 0 0 0 []) s with
  | true =>
    rw [hb, cond_true] at h
    exact ⟨N, by rw [← shpSt_ref hb, fl85_0_0 s]; exact (ro85_0_0 N  K N (intS (oneA (vT (nx tund s.tmps 6)))) (intS (oneA (vT (nx tund s.tmps 7)))) (intS (oneA (vT (nx tund s.tmps 8)))) (intS (nx .und (cellsB (nx .dead s.blks 0)) 0)) (intS (nx .und (cellsB (nx .dead s.blks 0)) 1)) (rLists (rowB_ (nx .dead s.blks 1)))).trans h⟩
  | false =>
  rw [hb, cond_false] at h
  clear hb
  cases h
def BV_spec_LeastOrder {β : Type} (N : Nat) (q_spec_IsTable : (a0 : Int) → (a1 : Int) → (k : Bool → Option β) → Option β) (q_spec_l4Perms_f : Nat → Int → List Int → (List (List Int) → Option β) → Option β) (q_spec_SizeOfDiagram : (a0 : Int) → (a1 : Int) → (a2 : List Int) → (k : Int → Option β) → Option β) (q_spec_LeastOrder_l0 : Nat → Int → Int → Int → Int → Int → List (List Int) → (Int → Int → List (List Int) → Option β) → Option β) (a0 : Int) (a1 : Int) (k : List Int → Int → Bool → Option β) : Option β :=
q_spec_IsTable a0 a1 fun r5 =>
(cond (!r5)
(k (([] : List Int)) 0 false)
((cond ((decide (a0 > 4)))
(k (([] : List Int)) 0 false)
(q_spec_l4Perms_f N a0 (([] : List Int)) fun r6 =>
(gd ((decide (0 < (r6.length : Int))))
(q_spec_SizeOfDiagram a0 a1 ((rd [] r6 0)) fun r7 =>
q_spec_LeastOrder_l0  N 0 r7 1 a0 a1 r6 (fun e9_0 e9_1 e9_2 =>
(gd ((decide (0 ≤ e9_0)))
((gd ((decide (e9_0 < (e9_2.length : Int))))
(k ((rd [] e9_2 e9_0)) e9_1 true)))))))))))
theorem t_spec_LeastOrder {β : Type} (N : Nat) (a0 : Int) (a1 : Int) (k : List Int → Int → Bool → Option β) : spec_LeastOrder N a0 a1 k = BV_spec_LeastOrder N (spec_IsTable N) (spec_l4Perms_f N) (spec_SizeOfDiagram N) (spec_LeastOrder_l0 N) a0 a1 k := by
  unfold spec_LeastOrder BV_spec_LeastOrder
  rfl
theorem ve85_0 {β : Type} (N : Nat) (q_spec_IsTable : (a0 : Int) → (a1 : Int) → (k : Bool → Option β) → Option β) (q_spec_l4Perms_f : Nat → Int → List Int → (List (List Int) → Option β) → Option β) (q_spec_SizeOfDiagram : (a0 : Int) → (a1 : Int) → (a2 : List Int) → (k : Int → Option β) → Option β) (q_spec_LeastOrder_l0 : Nat → Int → Int → Int → Int → Int → List (List Int) → (Int → Int → List (List Int) → Option β) → Option β)  (a0 : Int) (a1 : Int) (K : TV → Option β) : evFn lay (VE85 N q_spec_IsTable q_spec_l4Perms_f q_spec_SizeOfDiagram q_spec_LeastOrder_l0) Tryd.f85 [.v (.agg [.int .i64 a0, .int .i64 a1])] (frzK K) = BV_spec_LeastOrder N q_spec_IsTable q_spec_l4Perms_f q_spec_SizeOfDiagram q_spec_LeastOrder_l0 a0 a1 (fun z2 z3 z4 => K (.tup [.one (.fsl 3 (.ints .i64 z2)), .one (.int .i64 z3), .one (.bool z4)])) := by kernel_rfl
theorem e85_0 {β : Type} (N : Nat)  (a0 : Int) (a1 : Int) (K : TV → Option β) : evFn lay (E85 N) Tryd.f85 [.v (.agg [.int .i64 a0, .int .i64 a1])] (frzK K) = spec_LeastOrder N a0 a1 (fun z2 z3 z4 => K (.tup [.one (.fsl 3 (.ints .i64 z2)), .one (.int .i64 z3), .one (.bool z4)])) := (ve85_0 N (spec_IsTable N) (spec_l4Perms_f N) (spec_SizeOfDiagram N) (spec_LeastOrder_l0 N) a0 a1 K).trans (t_spec_LeastOrder N a0 a1 (fun z2 z3 z4 => K (.tup [.one (.fsl 3 (.ints .i64 z2)), .one (.int .i64 z3), .one (.bool z4)]))).symm
theorem o85 {β : Type} (N : Nat) : SpecOK (β := β) inv Tryd.prog 85 (S85 N) := by
  refine spec_of_frz lay_ok mixed (E := E85 N) (specs_loops (specs_cons (o51 N) (specs_cons (o145 N) (specs_cons (o146 N) specs_nil)))) muts_nil gs_nil Tryd.func85 (by kernel_rfl) 1 (by kernel_rfl) ⟨trivial, rk85_0 N⟩ fun args K r h => ?_
  unfold S85 VS85 at h
  split at h
  · exact (e85_0 N _ _ _).trans h
  · cases h
def VS55 {β : Type} (N : Nat) (q_spec_FormatInt : (a0 : Int) → (k : ByteArray → Option β) → Option β) : Rv.Spec β := fun args K => match args with
  | [.v (.one (.int .i64 a0))] => q_spec_FormatInt a0 (fun z1 => K (.v (.one (.str z1))))
  | _ => none
def S55 {β : Type} (N : Nat) : Rv.Spec β := VS55 N (spec_FormatInt N)
def h55_0_0  (v0 : Int) (v1 : ByteArray) (v2 : Bool) : St := ⟨.v (.one (.int .i64 v0)) :: .v (.one .und) :: .v (.one .und) :: .v (.one (.str v1)) :: .v (.one (.bool v2)) :: .v (.one .und) :: .v (.one .und) :: .v (.one .und) :: .v (.one .und) :: .v (.one .und) :: .v (.one .und) :: .v (.one .und) :: .v (.one .und) :: .v (.one .und) :: .v (.one .und) :: .v (.one .und) :: .v (.one .und) :: .v (.one .und) :: .v (.one .und) :: .v (.one .und) :: .v (.one .und) :: .v (.one .und) :: .v (.one .und) :: .v (.one .und) :: .v (.one .und) :: .v (.one .und) :: .v (.one .und) :: .v (.one .und) :: .v (.one .und) :: .v (.one .und) :: .v (.one .und) :: [], []⟩
def x55_0_0_k0  (y0 : ByteArray) (y1 : Bool) : St := ⟨.v (.one .und) :: .v (.one .und) :: .v (.one .und) :: .v (.one (.str y0)) :: .v (.one (.bool y1)) :: .v (.one .und) :: .v (.one .und) :: .v (.one .und) :: .v (.one .und) :: .v (.one .und) :: .v (.one .und) :: .v (.one .und) :: .v (.one .und) :: .v (.one .und) :: .v (.one .und) :: .v (.one .und) :: .v (.one .und) :: .v (.one .und) :: .v (.one .und) :: .v (.one .und) :: .v (.one .und) :: .v (.one .und) :: .v (.one .und) :: .v (.one .und) :: .v (.one .und) :: .v (.one .und) :: .v (.one .und) :: .v (.one .und) :: .v (.one .und) :: .v (.one .und) :: .v (.one .und) :: [], []⟩
theorem fl55_0_0 (s : St) : refSt (h55_0_0 0 ByteArray.empty false) s = h55_0_0 (intS (oneA (vT (nx tund s.tmps 0)))) (strS (oneA (vT (nx tund s.tmps 3)))) (boolS (oneA (vT (nx tund s.tmps 4)))) := by kernel_rfl
def VLS55_0 {β : Type} (N : Nat) (q_spec_FormatInt_l0 : Nat → Int → ByteArray → Bool → (ByteArray → Bool → Option β) → Option β) : LSpec β := fun s K => cond (shpSt (h55_0_0 0 ByteArray.empty false) s) ((fun (v0 : Int) (v1 : ByteArray) (v2 : Bool) => q_spec_FormatInt_l0  N v0 v1 v2 (fun y0 y1 => K (.exit 0) (x55_0_0_k0  y0 y1))) (intS (oneA (vT (nx tund s.tmps 0)))) (strS (oneA (vT (nx tund s.tmps 3)))) (boolS (oneA (vT (nx tund s.tmps 4))))) (none)
def LS55_0 {β : Type} (N : Nat) : LSpec β := VLS55_0 N (spec_FormatInt_l0 N)
def VE55 {β : Type} (N : Nat) (q_spec_FormatInt_l0 : Nat → Int → ByteArray → Bool → (ByteArray → Bool → Option β) → Option β) : Env β := ⟨[], [], [(0, VLS55_0 N q_spec_FormatInt_l0)], [], ⟨[], [], [145], [149, 152, 199]⟩⟩
def E55 {β : Type} (N : Nat) : Env β := VE55 N (spec_FormatInt_l0 N)
def BV_spec_FormatInt_l0b {β : Type} (N : Nat)  (v0 : Int) (v1 : ByteArray) (v2 : Bool) (rec_ : Int → ByteArray → Bool → Option β) (k0 : ByteArray → Bool → Option β) : Option β :=
(cond ((v0 != 0))
((cond ((decide ((remI v0 10) < 0)))
((gd ((decide (((strOf ((([] : List Int) ++ [(w8 ((w64 (48 + (w64 (0 - (remI v0 10)))))))])))).size + v1.size ≤ 9223372036854775807)))
(rec_ ((quoI .i64 v0 10)) (((strOf ((([] : List Int) ++ [(w8 ((w64 (48 + (w64 (0 - (remI v0 10)))))))]))) ++ v1)) v2)))
((gd ((decide (((strOf ((([] : List Int) ++ [(w8 ((w64 (48 + (remI v0 10)))))])))).size + v1.size ≤ 9223372036854775807)))
(rec_ ((quoI .i64 v0 10)) (((strOf ((([] : List Int) ++ [(w8 ((w64 (48 + (remI v0 10)))))]))) ++ v1)) v2)))))
(k0 v1 v2))
theorem t_spec_FormatInt_l0b {β : Type} (N : Nat)  (v0 : Int) (v1 : ByteArray) (v2 : Bool) (rec_ : Int → ByteArray → Bool → Option β) (k0 : ByteArray → Bool → Option β) : spec_FormatInt_l0b N v0 v1 v2 rec_ k0 = BV_spec_FormatInt_l0b N v0 v1 v2 rec_ k0 := by
  unfold spec_FormatInt_l0b BV_spec_FormatInt_l0b
  rfl
theorem vst55_0_0 {β : Type} (N : Nat) (q_spec_FormatInt_l0 : Nat → Int → ByteArray → Bool → (ByteArray → Bool → Option β) → Option β)  (v0 : Int) (v1 : ByteArray) (v2 : Bool) (rec_ : St → Option β) (K : Exit → St → Option β) :
    ev lay (VE55 N q_spec_FormatInt_l0) (retMask Tryd.f55) (lp Tryd.f55 0).body (lp Tryd.f55 0).ex ((lp Tryd.f55 0).lv (retMask Tryd.f55)) (h55_0_0  v0 v1 v2) (nextR (fun s' => rec_ (s'.tidy ((lp Tryd.f55 0).lv (retMask Tryd.f55)))) K) = BV_spec_FormatInt_l0b N  v0 v1 v2 (fun v0 v1 v2 => rec_ (h55_0_0  v0 v1 v2)) (fun y0 y1 => K (.exit 0) (x55_0_0_k0  y0 y1)) := by kernel_rfl
theorem st55_0_0 {β : Type} (N : Nat)  (v0 : Int) (v1 : ByteArray) (v2 : Bool) (rec_ : St → Option β) (K : Exit → St → Option β) :
    ev lay (E55 N) (retMask Tryd.f55) (lp Tryd.f55 0).body (lp Tryd.f55 0).ex ((lp Tryd.f55 0).lv (retMask Tryd.f55)) (h55_0_0  v0 v1 v2) (nextR (fun s' => rec_ (s'.tidy ((lp Tryd.f55 0).lv (retMask Tryd.f55)))) K) = spec_FormatInt_l0b N  v0 v1 v2 (fun v0 v1 v2 => rec_ (h55_0_0  v0 v1 v2)) (fun y0 y1 => K (.exit 0) (x55_0_0_k0  y0 y1)) := (vst55_0_0 N (spec_FormatInt_l0 N) v0 v1 v2 rec_ K).trans (t_spec_FormatInt_l0b N  v0 v1 v2 (fun v0 v1 v2 => rec_ (h55_0_0  v0 v1 v2)) (fun y0 y1 => K (.exit 0) (x55_0_0_k0  y0 y1))).symm
theorem ro55_0_0 {β : Type} (N : Nat)  (K : Exit → St → Option β) : ∀ (F : Nat) (v0 : Int) (v1 : ByteArray) (v2 : Bool), (lp Tryd.f55 0).rounds lay (E55 N) (retMask Tryd.f55) F (h55_0_0  v0 v1 v2) K = spec_FormatInt_l0 N  F v0 v1 v2 (fun y0 y1 => K (.exit 0) (x55_0_0_k0  y0 y1)) := by
  intro F
  induction F with
  | zero => intros; rfl
  | succ F ih =>
    intros
    rw [rounds_next]
    refine (st55_0_0 N  _ _ _ (fun s => (lp Tryd.f55 0).rounds lay (E55 N) (retMask Tryd.f55) F s K) K).trans ?_
    simp only [ih]
    rfl
theorem lk55_0 {β : Type} (N : Nat) : lookL (E55 (β := β) N).loops (lp Tryd.f55 0).id = LS55_0 N := by kernel_rfl
theorem rk55_0 {β : Type} (N : Nat) : RoundsOK lay (E55 (β := β) N) (retMask Tryd.f55) (lp Tryd.f55 0) := by
  intro s K r h
  rw [lk55_0] at h
  unfold LS55_0 VLS55_0 at h
  cases hb : shpSt (h55_0_0 0 ByteArray.empty false) s with
  | true =>
    rw [hb, cond_true] at h
    exact ⟨N, by rw [← shpSt_ref hb, fl55_0_0 s]; exact (ro55_0_0 N  K N (intS (oneA (vT (nx tund s.tmps 0)))) (strS (oneA (vT (nx tund s.tmps 3)))) (boolS (oneA (vT (nx tund s.tmps 4))))).trans h⟩
  | false =>
  rw [hb, cond_false] at h
  clear hb
  cases h
def BV_spec_FormatInt {β : Type} (N : Nat) (q_spec_FormatInt_l0 : Nat → Int → ByteArray → Bool → (ByteArray → Bool → Option β) → Option β) (a0 : Int) (k : ByteArray → Option β) : Option β :=
(cond ((a0 == 0))
(k ((strOf [48])))
(q_spec_FormatInt_l0  N a0 ByteArray.empty ((decide (a0 < 0))) (fun e2_0 e2_1 =>
(cond e2_1
((gd ((decide (((strOf [45])).size + e2_0.size ≤ 9223372036854775807)))
(k (((strOf [45]) ++ e2_0)))))
(k e2_0)))))
theorem t_spec_FormatInt {β : Type} (N : Nat) (a0 : Int) (k : ByteArray → Option β) : spec_FormatInt N a0 k = BV_spec_FormatInt N (spec_FormatInt_l0 N) a0 k := by
  unfold spec_FormatInt BV_spec_FormatInt
  rfl
theorem ve55_0 {β : Type} (N : Nat) (q_spec_FormatInt_l0 : Nat → Int → ByteArray → Bool → (ByteArray → Bool → Option β) → Option β)  (a0 : Int) (K : TV → Option β) : evFn lay (VE55 N q_spec_FormatInt_l0) Tryd.f55 [.v (.one (.int .i64 a0))] K = BV_spec_FormatInt N q_spec_FormatInt_l0 a0 (fun z1 => K (.v (.one (.str z1)))) := by kernel_rfl
theorem e55_0 {β : Type} (N : Nat)  (a0 : Int) (K : TV → Option β) : evFn lay (E55 N) Tryd.f55 [.v (.one (.int .i64 a0))] K = spec_FormatInt N a0 (fun z1 => K (.v (.one (.str z1)))) := (ve55_0 N (spec_FormatInt_l0 N) a0 K).trans (t_spec_FormatInt N a0 (fun z1 => K (.v (.one (.str z1))))).symm
theorem o55 {β : Type} (N : Nat) : SpecOK (β := β) inv Tryd.prog 55 (S55 N) := by
  refine spec_of lay_ok mixed (E := E55 N) (specs_loops specs_nil) muts_nil gs_nil Tryd.func55 (by kernel_rfl) 1 (by kernel_rfl) ⟨trivial, rk55_0 N⟩ fun args K r h => ?_
  unfold S55 VS55 at h
  split at h
  · exact (e55_0 N _ _).trans h
  · cases h
def VS52 {β : Type} (N : Nat) (q_spec_l34Numbers : (a0 : List Int) → (k : ByteArray → Option β) → Option β) : Rv.Spec β := fun args K => match args with
  | [.v (.one (.sl 3 (.ints .i64 a0)))] => q_spec_l34Numbers a0 (fun z1 => K (.v (.one (.str z1))))
  | _ => none
def S52 {β : Type} (N : Nat) : Rv.Spec β := VS52 N (spec_l34Numbers N)
def h52_0_0  (v0 : List Int) (v1 : ByteArray) (v2 : Int) : St := ⟨.v (.one (.sl 3 (.ints .i64 v0))) :: .v (.one .und) :: .v (.one .und) :: .v (.one (.str v1)) :: .v (.one (.int .i64 v2)) :: .v (.one .und) :: .v (.one .und) :: .v (.one .und) :: .v (.one .und) :: .v (.one .und) :: .v (.one .und) :: .v (.one .und) :: .v (.one .und) :: .v (.one .und) :: .v (.one .und) :: .v (.one .und) :: .v (.one .und) :: .v (.one .und) :: .v (.one .und) :: .v (.one .und) :: .v (.one .und) :: .v (.one .und) :: .v (.one .und) :: .v (.one .und) :: .v (.one .und) :: [], []⟩
def x52_0_0_k0  (y0 : ByteArray) : St := ⟨.v (.one .und) :: .v (.one .und) :: .v (.one .und) :: .v (.one (.str y0)) :: .v (.one .und) :: .v (.one .und) :: .v (.one .und) :: .v (.one .und) :: .v (.one .und) :: .v (.one .und) :: .v (.one .und) :: .v (.one .und) :: .v (.one .und) :: .v (.one .und) :: .v (.one .und) :: .v (.one .und) :: .v (.one .und) :: .v (.one .und) :: .v (.one .und) :: .v (.one .und) :: .v (.one .und) :: .v (.one .und) :: .v (.one .und) :: .v (.one .und) :: .v (.one .und) :: [], []⟩
theorem fl52_0_0 (s : St) : refSt (h52_0_0 [] ByteArray.empty 0) s = h52_0_0 (rInts (rowV (oneA (vT (nx tund s.tmps 0))))) (strS (oneA (vT (nx tund s.tmps 3)))) (intS (oneA (vT (nx tund s.tmps 4)))) := by kernel_rfl
def VLS52_0 {β : Type} (N : Nat) (q_spec_l34Numbers_l0 : Nat → List Int → ByteArray → Int → (ByteArray → Option β) → Option β) : LSpec β := fun s K => cond (shpSt (h52_0_0 [] ByteArray.empty 0) s) ((fun (v0 : List Int) (v1 : ByteArray) (v2 : Int) => q_spec_l34Numbers_l0  N v0 v1 v2 (fun y0 => K (.exit 0) (x52_0_0_k0  y0))) (rInts (rowV (oneA (vT (nx tund s.tmps 0))))) (strS (oneA (vT (nx tund s.tmps 3)))) (intS (oneA (vT (nx tund s.tmps 4))))) (none)
def LS52_0 {β : Type} (N : Nat) : LSpec β := VLS52_0 N (spec_l34Numbers_l0 N)
def VE52 {β : Type} (N : Nat) (q_spec_FormatInt : (a0 : Int) → (k : ByteArray → Option β) → Option β) (q_spec_l34Numbers_l0 : Nat → List Int → ByteArray → Int → (ByteArray → Option β) → Option β) : Env β := ⟨[(55, VS55 N q_spec_FormatInt)], [], [(0, VLS52_0 N q_spec_l34Numbers_l0)], [], ⟨[], [], [145], [149, 152, 199]⟩⟩
def E52 {β : Type} (N : Nat) : Env β := VE52 N (spec_FormatInt N) (spec_l34Numbers_l0 N)
def BV_spec_l34Numbers_l0b {β : Type} (N : Nat) (q_spec_FormatInt : (a0 : Int) → (k : ByteArray → Option β) → Option β)  (v0 : List Int) (v1 : ByteArray) (v2 : Int) (rec_ : List Int → ByteArray → Int → Option β) (k0 : ByteArray → Option β) : Option β :=
(cond ((decide (v2 < (v0.length : Int))))
((cond ((decide (v2 > 0)))
((gd ((decide (v1.size + ((strOf [44])).size ≤ 9223372036854775807)))
((gd ((decide (0 ≤ v2)))
((gd ((decide (v2 < (v0.length : Int))))
(q_spec_FormatInt ((rd 0 v0 v2)) fun r2 =>
(gd ((decide (((v1 ++ (strOf [44]))).size + r2.size ≤ 9223372036854775807)))
(rec_ v0 (((v1 ++ (strOf [44])) ++ r2)) ((w64 (v2 + 1))))))))))))
((gd ((decide (0 ≤ v2)))
((gd ((decide (v2 < (v0.length : Int))))
(q_spec_FormatInt ((rd 0 v0 v2)) fun r3 =>
(gd ((decide (v1.size + r3.size ≤ 9223372036854775807)))
(rec_ v0 ((v1 ++ r3)) ((w64 (v2 + 1))))))))))))
(k0 v1))
theorem t_spec_l34Numbers_l0b {β : Type} (N : Nat)  (v0 : List Int) (v1 : ByteArray) (v2 : Int) (rec_ : List Int → ByteArray → Int → Option β) (k0 : ByteArray → Option β) : spec_l34Numbers_l0b N v0 v1 v2 rec_ k0 = BV_spec_l34Numbers_l0b N (spec_FormatInt N) v0 v1 v2 rec_ k0 := by
  unfold spec_l34Numbers_l0b BV_spec_l34Numbers_l0b
  rfl
theorem vst52_0_0 {β : Type} (N : Nat) (q_spec_FormatInt : (a0 : Int) → (k : ByteArray → Option β) → Option β) (q_spec_l34Numbers_l0 : Nat → List Int → ByteArray → Int → (ByteArray → Option β) → Option β)  (v0 : List Int) (v1 : ByteArray) (v2 : Int) (rec_ : St → Option β) (K : Exit → St → Option β) :
    ev lay (VE52 N q_spec_FormatInt q_spec_l34Numbers_l0) (retMask Tryd.f52) (lp Tryd.f52 0).body (lp Tryd.f52 0).ex ((lp Tryd.f52 0).lv (retMask Tryd.f52)) (h52_0_0  v0 v1 v2) (nextR (fun s' => rec_ (s'.tidy ((lp Tryd.f52 0).lv (retMask Tryd.f52)))) K) = BV_spec_l34Numbers_l0b N q_spec_FormatInt  v0 v1 v2 (fun v0 v1 v2 => rec_ (h52_0_0  v0 v1 v2)) (fun y0 => K (.exit 0) (x52_0_0_k0  y0)) := by kernel_rfl
theorem st52_0_0 {β : Type} (N : Nat)  (v0 : List Int) (v1 : ByteArray) (v2 : Int) (rec_ : St → Option β) (K : Exit → St → Option β) :
    ev lay (E52 N) (retMask Tryd.f52) (lp Tryd.f52 0).body (lp Tryd.f52 0).ex ((lp Tryd.f52 0).lv (retMask Tryd.f52)) (h52_0_0  v0 v1 v2) (nextR (fun s' => rec_ (s'.tidy ((lp Tryd.f52 0).lv (retMask Tryd.f52)))) K) = spec_l34Numbers_l0b N  v0 v1 v2 (fun v0 v1 v2 => rec_ (h52_0_0  v0 v1 v2)) (fun y0 => K (.exit 0) (x52_0_0_k0  y0)) := (vst52_0_0 N (spec_FormatInt N) (spec_l34Numbers_l0 N) v0 v1 v2 rec_ K).trans (t_spec_l34Numbers_l0b N  v0 v1 v2 (fun v0 v1 v2 => rec_ (h52_0_0  v0 v1 v2)) (fun y0 => K (.exit 0) (x52_0_0_k0  y0))).symm
theorem ro52_0_0 {β : Type} (N : Nat)  (K : Exit → St → Option β) : ∀ (F : Nat) (v0 : List Int) (v1 : ByteArray) (v2 : Int), (lp Tryd.f52 0).rounds lay (E52 N) (retMask Tryd.f52) F (h52_0_0  v0 v1 v2) K = spec_l34Numbers_l0 N  F v0 v1 v2 (fun y0 => K (.exit 0) (x52_0_0_k0  y0)) := by
  intro F
  induction F with
  | zero => intros; rfl
  | succ F ih =>
    intros
    rw [rounds_next]
    refine (st52_0_0 N  _ _ _ (fun s => (lp Tryd.f52 0).rounds lay (E52 N) (retMask Tryd.f52) F s K) K).trans ?_
    simp only [ih]
    rfl
theorem lk52_0 {β : Type} (N : Nat) : lookL (E52 (β := β) N).loops (lp Tryd.f52 0).id = LS52_0 N := by kernel_rfl
theorem rk52_0 {β : Type} (N : Nat) : RoundsOK lay (E52 (β := β) N) (retMask Tryd.f52) (lp Tryd.f52 0) := by
  intro s K r h
  rw [lk52_0] at h
  unfold LS52_0 VLS52_0 at h
  cases hb : shpSt (h52_0_0 [] ByteArray.empty 0) s with
  | true =>
    rw [hb, cond_true] at h
    exact ⟨N, by rw [← shpSt_ref hb, fl52_0_0 s]; exact (ro52_0_0 N  K N (rInts (rowV (oneA (vT (nx tund s.tmps 0))))) (strS (oneA (vT (nx tund s.tmps 3)))) (intS (oneA (vT (nx tund s.tmps 4))))).trans h⟩
  | false =>
  rw [hb, cond_false] at h
  clear hb
  cases h
def BV_spec_l34Numbers {β : Type} (N : Nat) (q_spec_l34Numbers_l0 : Nat → List Int → ByteArray → Int → (ByteArray → Option β) → Option β) (a0 : List Int) (k : ByteArray → Option β) : Option β :=
q_spec_l34Numbers_l0  N a0 ByteArray.empty 0 (fun e4_0 =>
(cond ((e4_0.toList == ByteArray.empty.toList))
(k ((strOf [110, 111, 110, 101])))
(k e4_0)))
theorem t_spec_l34Numbers {β : Type} (N : Nat) (a0 : List Int) (k : ByteArray → Option β) : spec_l34Numbers N a0 k = BV_spec_l34Numbers N (spec_l34Numbers_l0 N) a0 k := by
  unfold spec_l34Numbers BV_spec_l34Numbers
  rfl
theorem ve52_0 {β : Type} (N : Nat) (q_spec_FormatInt : (a0 : Int) → (k : ByteArray → Option β) → Option β) (q_spec_l34Numbers_l0 : Nat → List Int → ByteArray → Int → (ByteArray → Option β) → Option β)  (a0 : List Int) (K : TV → Option β) : evFn lay (VE52 N q_spec_FormatInt q_spec_l34Numbers_l0) Tryd.f52 [.v (.one (.sl 3 (.ints .i64 a0)))] K = BV_spec_l34Numbers N q_spec_l34Numbers_l0 a0 (fun z1 => K (.v (.one (.str z1)))) := by kernel_rfl
theorem e52_0 {β : Type} (N : Nat)  (a0 : List Int) (K : TV → Option β) : evFn lay (E52 N) Tryd.f52 [.v (.one (.sl 3 (.ints .i64 a0)))] K = spec_l34Numbers N a0 (fun z1 => K (.v (.one (.str z1)))) := (ve52_0 N (spec_FormatInt N) (spec_l34Numbers_l0 N) a0 K).trans (t_spec_l34Numbers N a0 (fun z1 => K (.v (.one (.str z1))))).symm
theorem o52 {β : Type} (N : Nat) : SpecOK (β := β) inv Tryd.prog 52 (S52 N) := by
  refine spec_of lay_ok mixed (E := E52 N) (specs_loops (specs_cons (o55 N) specs_nil)) muts_nil gs_nil Tryd.func52 (by kernel_rfl) 1 (by kernel_rfl) ⟨trivial, rk52_0 N⟩ fun args K r h => ?_
  unfold S52 VS52 at h
  split at h
  · exact (e52_0 N _ _).trans h
  · cases h
end Go.Proofs.YtfdggelojmofmaaDoor
