/- The functions that the claims reach answer as their texts do. -/
import Derived.Test.YtfdggelojmofmaaE0
namespace Go.Proofs.Ytfdggelojmofmaa
open Go.Rv
set_option maxRecDepth 100000
set_option maxHeartbeats 2000000
set_option linter.unusedVariables false
def VSF186 {β : Type} (N : Nat) (q_spec_l19Build_g0_f : Nat → Int → Int → List Int → Int → Int → Int → List (Int × Int × Int) → List Int → (Int → List (Int × Int × Int) → List Int → Option β) → Option β) (G : Nat) : GSpec β := fun args bl K => match args, bl with
  | [.v (.agg [.int .i64 a0, .int .i64 a1]), .v (.one (.sl 3 (.ints .i64 a2))), .v (.one (.int .i64 a3)), .v (.one (.int .i64 a4)), .v (.one (.int .i64 a5)), .v (.one (.row 0)), .v (.one (.row 1))], [.row 160 (.trips a6), .row 3 (.ints .i64 a7)] => q_spec_l19Build_g0_f G a0 a1 a2 a3 a4 a5 a6 a7 (fun y0 y1 y2 => K (.tup [.one (.int .i64 y0), .one (.row 0), .one (.row 1)]) [.row 160 (.trips y1), .row 3 (.ints .i64 y2)])
  | _, _ => none
def SF186 {β : Type} (N : Nat) (G : Nat) : GSpec β := VSF186 N (spec_l19Build_g0_f N) G
def VS186 {β : Type} (N : Nat) (q_spec_l19Build_g0_f : Nat → Int → Int → List Int → Int → Int → Int → List (Int × Int × Int) → List Int → (Int → List (Int × Int × Int) → List Int → Option β) → Option β) : GSpec β := VSF186 N q_spec_l19Build_g0_f N
def S186 {β : Type} (N : Nat) : GSpec β := SF186 N N
def h186_0_0  (v0 : List Int) (v1 : Int) (v2 : Int) (v3 : Int) (v4 : Int) (v5 : Int) (v6 : Int) (v7 : List (Int × Int × Int)) (v8 : List Int) (v9 : Int) (v10 : Int) : St := ⟨.v (.one .und) :: .v (.one (.sl 3 (.ints .i64 v0))) :: .v (.one (.int .i64 v1)) :: .v (.one (.int .i64 v2)) :: .v (.one (.int .i64 v3)) :: .v (.one (.row 0)) :: .v (.one (.row 1)) :: .v (.one (.ptr 2 0)) :: .v (.one .und) :: .v (.one .und) :: .v (.one .und) :: .v (.one .und) :: .v (.one .und) :: .v (.one .und) :: .v (.one .und) :: .v (.one .und) :: .v (.one .und) :: .v (.one .und) :: .v (.one (.int .i64 v4)) :: .v (.one .und) :: .v (.one .und) :: .v (.one .und) :: .v (.one (.int .i64 v5)) :: .v (.one (.int .i64 v6)) :: .v (.one .und) :: .v (.one .und) :: .v (.one .und) :: .v (.one .und) :: .v (.one .und) :: .v (.one .und) :: .v (.one .und) :: .v (.one .und) :: .v (.one .und) :: .v (.one .und) :: .v (.one .und) :: .v (.one .und) :: .v (.one .und) :: .v (.one .und) :: .v (.one .und) :: .v (.one .und) :: .v (.one .und) :: .v (.one .und) :: .v (.one .und) :: .v (.one .und) :: .v (.one .und) :: .v (.one .und) :: .v (.one .und) :: .v (.one .und) :: .v (.one .und) :: .v (.one .und) :: .v (.one .und) :: .v (.one .und) :: .v (.one .und) :: .v (.one .und) :: .v (.one .und) :: .v (.one .und) :: .v (.one .und) :: .v (.one .und) :: .v (.one .und) :: .v (.one .und) :: .v (.one .und) :: .v (.one .und) :: .v (.one .und) :: .v (.one .und) :: .v (.one .und) :: .v (.one .und) :: .v (.one .und) :: .v (.one .und) :: .v (.one .und) :: .v (.one .und) :: .v (.one .und) :: .v (.one .und) :: .v (.one .und) :: .v (.one .und) :: .v (.one .und) :: .v (.one .und) :: .v (.one .und) :: .v (.one .und) :: .v (.one .und) :: .v (.one .und) :: .v (.one .und) :: .v (.one .und) :: .v (.one .und) :: .v (.one .und) :: .v (.one .und) :: .v (.one .und) :: .v (.one .und) :: .v (.one .und) :: .v (.one .und) :: .v (.one .und) :: .v (.one .und) :: .v (.one .und) :: .v (.one .und) :: .v (.one .und) :: .v (.one .und) :: .v (.one .und) :: .v (.one .und) :: .v (.one .und) :: .v (.one .und) :: .v (.one .und) :: .v (.one .und) :: .v (.one .und) :: .v (.one .und) :: .v (.one .und) :: .v (.one .und) :: .v (.one .und) :: .v (.one .und) :: .v (.one .und) :: .v (.one .und) :: .v (.one .und) :: .v (.one .und) :: .v (.one .und) :: .v (.one .und) :: .v (.one .und) :: .v (.one .und) :: .v (.one .und) :: .v (.one .und) :: .v (.one .und) :: .v (.one .und) :: .v (.one .und) :: .v (.one .und) :: .v (.one .und) :: .v (.one .und) :: .v (.one .und) :: .v (.one .und) :: .v (.one .und) :: .v (.one .und) :: .v (.one .und) :: .v (.one .und) :: .v (.one .und) :: .v (.one .und) :: .v (.one .und) :: .v (.one .und) :: .v (.one .und) :: .v (.one .und) :: .v (.one .und) :: .v (.one .und) :: .v (.one .und) :: .v (.one .und) :: .v (.one .und) :: .v (.one .und) :: .v (.one .und) :: .v (.one .und) :: .v (.one .und) :: .v (.one .und) :: [], [.row 160 (.trips v7), .row 3 (.ints .i64 v8), .cells 27 [.int .i64 v9, .int .i64 v10]]⟩
def x186_0_0_k0  (y0 : Int) (y1 : List (Int × Int × Int)) (y2 : List Int) : St := ⟨.v (.one .und) :: .v (.one .und) :: .v (.one .und) :: .v (.one .und) :: .v (.one .und) :: .v (.one .und) :: .v (.one .und) :: .v (.one .und) :: .v (.one .und) :: .v (.one .und) :: .v (.one .und) :: .v (.one .und) :: .v (.one .und) :: .v (.one .und) :: .v (.one (.int .i64 y0)) :: .v (.one (.row 0)) :: .v (.one (.row 1)) :: .v (.one .und) :: .v (.one .und) :: .v (.one .und) :: .v (.one .und) :: .v (.one .und) :: .v (.one .und) :: .v (.one .und) :: .v (.one .und) :: .v (.one .und) :: .v (.one .und) :: .v (.one .und) :: .v (.one .und) :: .v (.one .und) :: .v (.one .und) :: .v (.one .und) :: .v (.one .und) :: .v (.one .und) :: .v (.one .und) :: .v (.one .und) :: .v (.one .und) :: .v (.one .und) :: .v (.one .und) :: .v (.one .und) :: .v (.one .und) :: .v (.one .und) :: .v (.one .und) :: .v (.one .und) :: .v (.one .und) :: .v (.one .und) :: .v (.one .und) :: .v (.one .und) :: .v (.one .und) :: .v (.one .und) :: .v (.one .und) :: .v (.one .und) :: .v (.one .und) :: .v (.one .und) :: .v (.one .und) :: .v (.one .und) :: .v (.one .und) :: .v (.one .und) :: .v (.one .und) :: .v (.one .und) :: .v (.one .und) :: .v (.one .und) :: .v (.one .und) :: .v (.one .und) :: .v (.one .und) :: .v (.one .und) :: .v (.one .und) :: .v (.one .und) :: .v (.one .und) :: .v (.one .und) :: .v (.one .und) :: .v (.one .und) :: .v (.one .und) :: .v (.one .und) :: .v (.one .und) :: .v (.one .und) :: .v (.one .und) :: .v (.one .und) :: .v (.one .und) :: .v (.one .und) :: .v (.one .und) :: .v (.one .und) :: .v (.one .und) :: .v (.one .und) :: .v (.one .und) :: .v (.one .und) :: .v (.one .und) :: .v (.one .und) :: .v (.one .und) :: .v (.one .und) :: .v (.one .und) :: .v (.one .und) :: .v (.one .und) :: .v (.one .und) :: .v (.one .und) :: .v (.one .und) :: .v (.one .und) :: .v (.one .und) :: .v (.one .und) :: .v (.one .und) :: .v (.one .und) :: .v (.one .und) :: .v (.one .und) :: .v (.one .und) :: .v (.one .und) :: .v (.one .und) :: .v (.one .und) :: .v (.one .und) :: .v (.one .und) :: .v (.one .und) :: .v (.one .und) :: .v (.one .und) :: .v (.one .und) :: .v (.one .und) :: .v (.one .und) :: .v (.one .und) :: .v (.one .und) :: .v (.one .und) :: .v (.one .und) :: .v (.one .und) :: .v (.one .und) :: .v (.one .und) :: .v (.one .und) :: .v (.one .und) :: .v (.one .und) :: .v (.one .und) :: .v (.one .und) :: .v (.one .und) :: .v (.one .und) :: .v (.one .und) :: .v (.one .und) :: .v (.one .und) :: .v (.one .und) :: .v (.one .und) :: .v (.one .und) :: .v (.one .und) :: .v (.one .und) :: .v (.one .und) :: .v (.one .und) :: .v (.one .und) :: .v (.one .und) :: .v (.one .und) :: .v (.one .und) :: .v (.one .und) :: .v (.one .und) :: [], [.row 160 (.trips y1), .row 3 (.ints .i64 y2)]⟩
def x186_0_0_k1  (y0 : List Int) (y1 : Int) (y2 : Int) (y3 : Int) (y4 : Int) (y5 : Int) (y6 : List (Int × Int × Int)) (y7 : List Int) (y8 : Int) (y9 : Int) : St := ⟨.v (.one .und) :: .v (.one (.sl 3 (.ints .i64 y0))) :: .v (.one (.int .i64 y1)) :: .v (.one (.int .i64 y2)) :: .v (.one (.int .i64 y3)) :: .v (.one (.row 0)) :: .v (.one (.row 1)) :: .v (.one (.ptr 2 0)) :: .v (.one .und) :: .v (.one .und) :: .v (.one .und) :: .v (.one .und) :: .v (.one .und) :: .v (.one .und) :: .v (.one .und) :: .v (.one .und) :: .v (.one .und) :: .v (.one .und) :: .v (.one (.int .i64 y4)) :: .v (.one .und) :: .v (.one .und) :: .v (.one .und) :: .v (.one (.int .i64 y5)) :: .v (.one .und) :: .v (.one .und) :: .v (.one .und) :: .v (.one .und) :: .v (.one .und) :: .v (.one .und) :: .v (.one .und) :: .v (.one .und) :: .v (.one .und) :: .v (.one .und) :: .v (.one .und) :: .v (.one .und) :: .v (.one .und) :: .v (.one .und) :: .v (.one .und) :: .v (.one .und) :: .v (.one .und) :: .v (.one .und) :: .v (.one .und) :: .v (.one .und) :: .v (.one .und) :: .v (.one .und) :: .v (.one .und) :: .v (.one .und) :: .v (.one .und) :: .v (.one .und) :: .v (.one .und) :: .v (.one .und) :: .v (.one .und) :: .v (.one .und) :: .v (.one .und) :: .v (.one .und) :: .v (.one .und) :: .v (.one .und) :: .v (.one .und) :: .v (.one .und) :: .v (.one .und) :: .v (.one .und) :: .v (.one .und) :: .v (.one .und) :: .v (.one .und) :: .v (.one .und) :: .v (.one .und) :: .v (.one .und) :: .v (.one .und) :: .v (.one .und) :: .v (.one .und) :: .v (.one .und) :: .v (.one .und) :: .v (.one .und) :: .v (.one .und) :: .v (.one .und) :: .v (.one .und) :: .v (.one .und) :: .v (.one .und) :: .v (.one .und) :: .v (.one .und) :: .v (.one .und) :: .v (.one .und) :: .v (.one .und) :: .v (.one .und) :: .v (.one .und) :: .v (.one .und) :: .v (.one .und) :: .v (.one .und) :: .v (.one .und) :: .v (.one .und) :: .v (.one .und) :: .v (.one .und) :: .v (.one .und) :: .v (.one .und) :: .v (.one .und) :: .v (.one .und) :: .v (.one .und) :: .v (.one .und) :: .v (.one .und) :: .v (.one .und) :: .v (.one .und) :: .v (.one .und) :: .v (.one .und) :: .v (.one .und) :: .v (.one .und) :: .v (.one .und) :: .v (.one .und) :: .v (.one .und) :: .v (.one .und) :: .v (.one .und) :: .v (.one .und) :: .v (.one .und) :: .v (.one .und) :: .v (.one .und) :: .v (.one .und) :: .v (.one .und) :: .v (.one .und) :: .v (.one .und) :: .v (.one .und) :: .v (.one .und) :: .v (.one .und) :: .v (.one .und) :: .v (.one .und) :: .v (.one .und) :: .v (.one .und) :: .v (.one .und) :: .v (.one .und) :: .v (.one .und) :: .v (.one .und) :: .v (.one .und) :: .v (.one .und) :: .v (.one .und) :: .v (.one .und) :: .v (.one .und) :: .v (.one .und) :: .v (.one .und) :: .v (.one .und) :: .v (.one .und) :: .v (.one .und) :: .v (.one .und) :: .v (.one .und) :: .v (.one .und) :: .v (.one .und) :: .v (.one .und) :: .v (.one .und) :: [], [.row 160 (.trips y6), .row 3 (.ints .i64 y7), .cells 27 [.int .i64 y8, .int .i64 y9]]⟩
theorem fl186_0_0 (s : St) : refSt (h186_0_0 [] 0 0 0 0 0 0 [] [] 0 0) s = h186_0_0 (rInts (rowV (oneA (vT (nx tund s.tmps 1))))) (intS (oneA (vT (nx tund s.tmps 2)))) (intS (oneA (vT (nx tund s.tmps 3)))) (intS (oneA (vT (nx tund s.tmps 4)))) (intS (oneA (vT (nx tund s.tmps 18)))) (intS (oneA (vT (nx tund s.tmps 22)))) (intS (oneA (vT (nx tund s.tmps 23)))) (rTrips (rowB_ (nx .dead s.blks 0))) (rInts (rowB_ (nx .dead s.blks 1))) (intS (nx .und (cellsB (nx .dead s.blks 2)) 0)) (intS (nx .und (cellsB (nx .dead s.blks 2)) 1)) := by kernel_rfl
def VLS186_0 {β : Type} (N : Nat) (q_spec_l19Build_l0 : Nat → List Int → Int → Int → Int → Int → Int → Int → List (Int × Int × Int) → List Int → Int → Int → (Int → List (Int × Int × Int) → List Int → Option β) → (List Int → Int → Int → Int → Int → Int → List (Int × Int × Int) → List Int → Int → Int → Option β) → Option β) (G : Nat) : LSpec β := fun s K => cond (shpSt (h186_0_0 [] 0 0 0 0 0 0 [] [] 0 0) s) ((fun (v0 : List Int) (v1 : Int) (v2 : Int) (v3 : Int) (v4 : Int) (v5 : Int) (v6 : Int) (v7 : List (Int × Int × Int)) (v8 : List Int) (v9 : Int) (v10 : Int) => q_spec_l19Build_l0  N v0 v1 v2 v3 v4 v5 v6 v7 v8 v9 v10 (fun y0 y1 y2 => K .ret (x186_0_0_k0  y0 y1 y2)) (fun y0 y1 y2 y3 y4 y5 y6 y7 y8 y9 => K (.exit 0) (x186_0_0_k1  y0 y1 y2 y3 y4 y5 y6 y7 y8 y9))) (rInts (rowV (oneA (vT (nx tund s.tmps 1))))) (intS (oneA (vT (nx tund s.tmps 2)))) (intS (oneA (vT (nx tund s.tmps 3)))) (intS (oneA (vT (nx tund s.tmps 4)))) (intS (oneA (vT (nx tund s.tmps 18)))) (intS (oneA (vT (nx tund s.tmps 22)))) (intS (oneA (vT (nx tund s.tmps 23)))) (rTrips (rowB_ (nx .dead s.blks 0))) (rInts (rowB_ (nx .dead s.blks 1))) (intS (nx .und (cellsB (nx .dead s.blks 2)) 0)) (intS (nx .und (cellsB (nx .dead s.blks 2)) 1))) (none)
def LS186_0 {β : Type} (N : Nat) (G : Nat) : LSpec β := VLS186_0 N (spec_l19Build_l0 N) G
def VE186 {β : Type} (N : Nat) (q_spec_l3Cube : (a0 : Int) → (a1 : Int) → (a2 : Int) → (a3 : Int) → (k : Int → Option β) → Option β) (q_spec_l19Word : (a0 : Int) → (a1 : Int) → (a2 : Int) → (a3 : Int) → (k : Int → Option β) → Option β) (q_spec_l19Build_l0 : Nat → List Int → Int → Int → Int → Int → Int → Int → List (Int × Int × Int) → List Int → Int → Int → (Int → List (Int × Int × Int) → List Int → Option β) → (List Int → Int → Int → Int → Int → Int → List (Int × Int × Int) → List Int → Int → Int → Option β) → Option β) (q_spec_l19Build_g0_f : Nat → Int → Int → List Int → Int → Int → Int → List (Int × Int × Int) → List Int → (Int → List (Int × Int × Int) → List Int → Option β) → Option β) (G : Nat) : Env β := ⟨[(199, VS199 N q_spec_l3Cube), (207, VS207 N q_spec_l19Word)], [], [(0, VLS186_0 N q_spec_l19Build_l0 G)], [(186, VSF186 N q_spec_l19Build_g0_f G)], ⟨[], [], [106], [147, 148, 186]⟩⟩
def E186 {β : Type} (N : Nat) (G : Nat) : Env β := VE186 N (spec_l3Cube N) (spec_l19Word N) (spec_l19Build_l0 N) (spec_l19Build_g0_f N) G
def BV_spec_l19Build_l0b {β : Type} (N : Nat)  (v0 : List Int) (v1 : Int) (v2 : Int) (v3 : Int) (v4 : Int) (v5 : Int) (v6 : Int) (v7 : List (Int × Int × Int)) (v8 : List Int) (v9 : Int) (v10 : Int) (rec_ : List Int → Int → Int → Int → Int → Int → Int → List (Int × Int × Int) → List Int → Int → Int → Option β) (k0 : Int → List (Int × Int × Int) → List Int → Option β) (k1 : List Int → Int → Int → Int → Int → Int → List (Int × Int × Int) → List Int → Int → Int → Option β) : Option β :=
(cond ((decide (v6 < (v8.length : Int))))
((gd ((decide (0 ≤ v6)))
((gd ((decide (v6 < (v8.length : Int))))
((cond (((rd 0 v8 v6) == v5))
(k0 v6 v7 v8)
(rec_ v0 v1 v2 v3 v4 v5 ((w64 (v6 + 1))) v7 v8 v9 v10)))))))
(k1 v0 v1 v2 v3 v4 v5 v7 v8 v9 v10))
theorem t_spec_l19Build_l0b {β : Type} (N : Nat)  (v0 : List Int) (v1 : Int) (v2 : Int) (v3 : Int) (v4 : Int) (v5 : Int) (v6 : Int) (v7 : List (Int × Int × Int)) (v8 : List Int) (v9 : Int) (v10 : Int) (rec_ : List Int → Int → Int → Int → Int → Int → Int → List (Int × Int × Int) → List Int → Int → Int → Option β) (k0 : Int → List (Int × Int × Int) → List Int → Option β) (k1 : List Int → Int → Int → Int → Int → Int → List (Int × Int × Int) → List Int → Int → Int → Option β) : spec_l19Build_l0b N v0 v1 v2 v3 v4 v5 v6 v7 v8 v9 v10 rec_ k0 k1 = BV_spec_l19Build_l0b N v0 v1 v2 v3 v4 v5 v6 v7 v8 v9 v10 rec_ k0 k1 := by
  unfold spec_l19Build_l0b BV_spec_l19Build_l0b
  rfl
theorem vst186_0_0 {β : Type} (N : Nat) (q_spec_l3Cube : (a0 : Int) → (a1 : Int) → (a2 : Int) → (a3 : Int) → (k : Int → Option β) → Option β) (q_spec_l19Word : (a0 : Int) → (a1 : Int) → (a2 : Int) → (a3 : Int) → (k : Int → Option β) → Option β) (q_spec_l19Build_l0 : Nat → List Int → Int → Int → Int → Int → Int → Int → List (Int × Int × Int) → List Int → Int → Int → (Int → List (Int × Int × Int) → List Int → Option β) → (List Int → Int → Int → Int → Int → Int → List (Int × Int × Int) → List Int → Int → Int → Option β) → Option β) (q_spec_l19Build_g0_f : Nat → Int → Int → List Int → Int → Int → Int → List (Int × Int × Int) → List Int → (Int → List (Int × Int × Int) → List Int → Option β) → Option β) (G : Nat)  (v0 : List Int) (v1 : Int) (v2 : Int) (v3 : Int) (v4 : Int) (v5 : Int) (v6 : Int) (v7 : List (Int × Int × Int)) (v8 : List Int) (v9 : Int) (v10 : Int) (rec_ : St → Option β) (K : Exit → St → Option β) :
    ev lay (VE186 N q_spec_l3Cube q_spec_l19Word q_spec_l19Build_l0 q_spec_l19Build_g0_f G) (retMask Try.f186) (lp Try.f186 0).body (lp Try.f186 0).ex ((lp Try.f186 0).lv (retMask Try.f186)) (h186_0_0  v0 v1 v2 v3 v4 v5 v6 v7 v8 v9 v10) (nextR (fun s' => rec_ (s'.tidy ((lp Try.f186 0).lv (retMask Try.f186)))) K) = BV_spec_l19Build_l0b N  v0 v1 v2 v3 v4 v5 v6 v7 v8 v9 v10 (fun v0 v1 v2 v3 v4 v5 v6 v7 v8 v9 v10 => rec_ (h186_0_0  v0 v1 v2 v3 v4 v5 v6 v7 v8 v9 v10)) (fun y0 y1 y2 => K .ret (x186_0_0_k0  y0 y1 y2)) (fun y0 y1 y2 y3 y4 y5 y6 y7 y8 y9 => K (.exit 0) (x186_0_0_k1  y0 y1 y2 y3 y4 y5 y6 y7 y8 y9)) := by kernel_rfl
theorem st186_0_0 {β : Type} (N : Nat) (G : Nat)  (v0 : List Int) (v1 : Int) (v2 : Int) (v3 : Int) (v4 : Int) (v5 : Int) (v6 : Int) (v7 : List (Int × Int × Int)) (v8 : List Int) (v9 : Int) (v10 : Int) (rec_ : St → Option β) (K : Exit → St → Option β) :
    ev lay (E186 N G) (retMask Try.f186) (lp Try.f186 0).body (lp Try.f186 0).ex ((lp Try.f186 0).lv (retMask Try.f186)) (h186_0_0  v0 v1 v2 v3 v4 v5 v6 v7 v8 v9 v10) (nextR (fun s' => rec_ (s'.tidy ((lp Try.f186 0).lv (retMask Try.f186)))) K) = spec_l19Build_l0b N  v0 v1 v2 v3 v4 v5 v6 v7 v8 v9 v10 (fun v0 v1 v2 v3 v4 v5 v6 v7 v8 v9 v10 => rec_ (h186_0_0  v0 v1 v2 v3 v4 v5 v6 v7 v8 v9 v10)) (fun y0 y1 y2 => K .ret (x186_0_0_k0  y0 y1 y2)) (fun y0 y1 y2 y3 y4 y5 y6 y7 y8 y9 => K (.exit 0) (x186_0_0_k1  y0 y1 y2 y3 y4 y5 y6 y7 y8 y9)) := (vst186_0_0 N (spec_l3Cube N) (spec_l19Word N) (spec_l19Build_l0 N) (spec_l19Build_g0_f N) G v0 v1 v2 v3 v4 v5 v6 v7 v8 v9 v10 rec_ K).trans (t_spec_l19Build_l0b N  v0 v1 v2 v3 v4 v5 v6 v7 v8 v9 v10 (fun v0 v1 v2 v3 v4 v5 v6 v7 v8 v9 v10 => rec_ (h186_0_0  v0 v1 v2 v3 v4 v5 v6 v7 v8 v9 v10)) (fun y0 y1 y2 => K .ret (x186_0_0_k0  y0 y1 y2)) (fun y0 y1 y2 y3 y4 y5 y6 y7 y8 y9 => K (.exit 0) (x186_0_0_k1  y0 y1 y2 y3 y4 y5 y6 y7 y8 y9))).symm
theorem ro186_0_0 {β : Type} (N : Nat) (G : Nat)  (K : Exit → St → Option β) : ∀ (F : Nat) (v0 : List Int) (v1 : Int) (v2 : Int) (v3 : Int) (v4 : Int) (v5 : Int) (v6 : Int) (v7 : List (Int × Int × Int)) (v8 : List Int) (v9 : Int) (v10 : Int), (lp Try.f186 0).rounds lay (E186 N G) (retMask Try.f186) F (h186_0_0  v0 v1 v2 v3 v4 v5 v6 v7 v8 v9 v10) K = spec_l19Build_l0 N  F v0 v1 v2 v3 v4 v5 v6 v7 v8 v9 v10 (fun y0 y1 y2 => K .ret (x186_0_0_k0  y0 y1 y2)) (fun y0 y1 y2 y3 y4 y5 y6 y7 y8 y9 => K (.exit 0) (x186_0_0_k1  y0 y1 y2 y3 y4 y5 y6 y7 y8 y9)) := by
  intro F
  induction F with
  | zero => intros; rfl
  | succ F ih =>
    intros
    rw [rounds_next]
    refine (st186_0_0 N G  _ _ _ _ _ _ _ _ _ _ _ (fun s => (lp Try.f186 0).rounds lay (E186 N G) (retMask Try.f186) F s K) K).trans ?_
    simp only [ih]
    rfl
theorem lk186_0 {β : Type} (N : Nat) (G : Nat) : lookL (E186 (β := β) N G).loops (lp Try.f186 0).id = LS186_0 N G := by kernel_rfl
theorem rk186_0 {β : Type} (N : Nat) (G : Nat) : RoundsOK lay (E186 (β := β) N G) (retMask Try.f186) (lp Try.f186 0) := by
  intro s K r h
  rw [lk186_0] at h
  unfold LS186_0 VLS186_0 at h
  cases hb : shpSt (h186_0_0 [] 0 0 0 0 0 0 [] [] 0 0) s with
  | true =>
    rw [hb, cond_true] at h
    exact ⟨N, by rw [← shpSt_ref hb, fl186_0_0 s]; exact (ro186_0_0 N G  K N (rInts (rowV (oneA (vT (nx tund s.tmps 1))))) (intS (oneA (vT (nx tund s.tmps 2)))) (intS (oneA (vT (nx tund s.tmps 3)))) (intS (oneA (vT (nx tund s.tmps 4)))) (intS (oneA (vT (nx tund s.tmps 18)))) (intS (oneA (vT (nx tund s.tmps 22)))) (intS (oneA (vT (nx tund s.tmps 23)))) (rTrips (rowB_ (nx .dead s.blks 0))) (rInts (rowB_ (nx .dead s.blks 1))) (intS (nx .und (cellsB (nx .dead s.blks 2)) 0)) (intS (nx .und (cellsB (nx .dead s.blks 2)) 1))).trans h⟩
  | false =>
  rw [hb, cond_false] at h
  clear hb
  cases h
def BV_spec_l19Build_g0_b {β : Type} (N : Nat) (q_spec_l3Cube : (a0 : Int) → (a1 : Int) → (a2 : Int) → (a3 : Int) → (k : Int → Option β) → Option β) (q_spec_l19Word : (a0 : Int) → (a1 : Int) → (a2 : Int) → (a3 : Int) → (k : Int → Option β) → Option β) (q_spec_l19Build_l0 : Nat → List Int → Int → Int → Int → Int → Int → Int → List (Int × Int × Int) → List Int → Int → Int → (Int → List (Int × Int × Int) → List Int → Option β) → (List Int → Int → Int → Int → Int → Int → List (Int × Int × Int) → List Int → Int → Int → Option β) → Option β) (self : Int → Int → List Int → Int → Int → Int → List (Int × Int × Int) → List Int → (Int → List (Int × Int × Int) → List Int → Option β) → Option β) (a0 : Int) (a1 : Int) (a2 : List Int) (a3 : Int) (a4 : Int) (a5 : Int) (a6 : List (Int × Int × Int)) (a7 : List Int) (k0 : Int → List (Int × Int × Int) → List Int → Option β) : Option β :=
q_spec_l3Cube a0 a1 a4 a5 fun r8 =>
(cond ((decide (r8 < 2)))
(k0 ((w64 (r8 - 2))) a6 a7)
((gd ((decide (0 ≤ a3)))
((gd ((decide (a3 < (a2.length : Int))))
((gd ((decide (0 ≤ (rd 0 a2 a3))))
(q_spec_l19Word a0 a1 ((bits .or .i64 a4 (shlI .i64 1 (rd 0 a2 a3)))) a5 fun r9 =>
q_spec_l19Word a0 a1 ((bits .or .i64 a4 (shlI .i64 1 (rd 0 a2 a3)))) ((bits .or .i64 a5 (shlI .i64 1 (rd 0 a2 a3)))) fun r10 =>
(cond ((r9 == r10))
(self a0 a1 a2 ((w64 (a3 + 1))) ((bits .or .i64 a4 (shlI .i64 1 (rd 0 a2 a3)))) a5 a6 a7 (fun r11_0 r11_1 r11_2 =>
k0 r11_0 r11_1 r11_2))
(q_spec_l19Word a0 a1 a4 a5 fun r12 =>
q_spec_l19Build_l0  N a2 a3 a4 a5 ((shlI .i64 1 (rd 0 a2 a3))) r12 0 a6 a7 a0 a1 (fun e13_0 e13_1 e13_2 =>
k0 e13_0 e13_1 e13_2) (fun e14_0 e14_1 e14_2 e14_3 e14_4 e14_5 e14_6 e14_7 e14_8 e14_9 =>
self e14_8 e14_9 e14_0 ((w64 (e14_1 + 1))) ((bits .or .i64 e14_2 e14_4)) e14_3 e14_6 e14_7 (fun r15_0 r15_1 r15_2 =>
self e14_8 e14_9 e14_0 ((w64 (e14_1 + 1))) ((bits .or .i64 e14_2 e14_4)) ((bits .or .i64 e14_3 e14_4)) r15_1 r15_2 (fun r16_0 r16_1 r16_2 =>
(gd ((decide (0 ≤ e14_1)))
((gd ((decide (e14_1 < (e14_0.length : Int))))
((gd ((decide ((r16_1.length + ((([] : List (Int × Int × Int)) ++ [((rd 0 e14_0 e14_1), r15_0, r16_0)])).length) * 24 ≤ 140737488355328)))
((gd ((decide ((r16_2.length + ((([] : List Int) ++ [e14_5])).length) * 8 ≤ 140737488355328)))
(k0 ((r16_1.length : Int)) ((r16_1 ++ (([] : List (Int × Int × Int)) ++ [((rd 0 e14_0 e14_1), r15_0, r16_0)]))) ((r16_2 ++ (([] : List Int) ++ [e14_5]))))))))))))))))))))))))
theorem t_spec_l19Build_g0_b {β : Type} (N : Nat) (self : Int → Int → List Int → Int → Int → Int → List (Int × Int × Int) → List Int → (Int → List (Int × Int × Int) → List Int → Option β) → Option β) (a0 : Int) (a1 : Int) (a2 : List Int) (a3 : Int) (a4 : Int) (a5 : Int) (a6 : List (Int × Int × Int)) (a7 : List Int) (k0 : Int → List (Int × Int × Int) → List Int → Option β) : spec_l19Build_g0_b N self a0 a1 a2 a3 a4 a5 a6 a7 k0 = BV_spec_l19Build_g0_b N (spec_l3Cube N) (spec_l19Word N) (spec_l19Build_l0 N) self a0 a1 a2 a3 a4 a5 a6 a7 k0 := by
  unfold spec_l19Build_g0_b BV_spec_l19Build_g0_b
  rfl
theorem ve186_0 {β : Type} (N : Nat) (q_spec_l3Cube : (a0 : Int) → (a1 : Int) → (a2 : Int) → (a3 : Int) → (k : Int → Option β) → Option β) (q_spec_l19Word : (a0 : Int) → (a1 : Int) → (a2 : Int) → (a3 : Int) → (k : Int → Option β) → Option β) (q_spec_l19Build_l0 : Nat → List Int → Int → Int → Int → Int → Int → Int → List (Int × Int × Int) → List Int → Int → Int → (Int → List (Int × Int × Int) → List Int → Option β) → (List Int → Int → Int → Int → Int → Int → List (Int × Int × Int) → List Int → Int → Int → Option β) → Option β) (q_spec_l19Build_g0_f : Nat → Int → Int → List Int → Int → Int → Int → List (Int × Int × Int) → List Int → (Int → List (Int × Int × Int) → List Int → Option β) → Option β) (G : Nat) (a0 : Int) (a1 : Int) (a2 : List Int) (a3 : Int) (a4 : Int) (a5 : Int) (a6 : List (Int × Int × Int)) (a7 : List Int) (K : TV → List Blk → Option β) : evFnG lay (VE186 N q_spec_l3Cube q_spec_l19Word q_spec_l19Build_l0 q_spec_l19Build_g0_f G) Try.f186 [.v (.agg [.int .i64 a0, .int .i64 a1]), .v (.one (.sl 3 (.ints .i64 a2))), .v (.one (.int .i64 a3)), .v (.one (.int .i64 a4)), .v (.one (.int .i64 a5)), .v (.one (.row 0)), .v (.one (.row 1))] [.row 160 (.trips a6), .row 3 (.ints .i64 a7)] K = BV_spec_l19Build_g0_b N q_spec_l3Cube q_spec_l19Word q_spec_l19Build_l0 (q_spec_l19Build_g0_f G) a0 a1 a2 a3 a4 a5 a6 a7 (fun y0 y1 y2 => K (.tup [.one (.int .i64 y0), .one (.row 0), .one (.row 1)]) [.row 160 (.trips y1), .row 3 (.ints .i64 y2)]) := by kernel_rfl
theorem e186_0 {β : Type} (N : Nat) (G : Nat) (a0 : Int) (a1 : Int) (a2 : List Int) (a3 : Int) (a4 : Int) (a5 : Int) (a6 : List (Int × Int × Int)) (a7 : List Int) (K : TV → List Blk → Option β) : evFnG lay (E186 N G) Try.f186 [.v (.agg [.int .i64 a0, .int .i64 a1]), .v (.one (.sl 3 (.ints .i64 a2))), .v (.one (.int .i64 a3)), .v (.one (.int .i64 a4)), .v (.one (.int .i64 a5)), .v (.one (.row 0)), .v (.one (.row 1))] [.row 160 (.trips a6), .row 3 (.ints .i64 a7)] K = spec_l19Build_g0_f N (G + 1) a0 a1 a2 a3 a4 a5 a6 a7 (fun y0 y1 y2 => K (.tup [.one (.int .i64 y0), .one (.row 0), .one (.row 1)]) [.row 160 (.trips y1), .row 3 (.ints .i64 y2)]) := (ve186_0 N (spec_l3Cube N) (spec_l19Word N) (spec_l19Build_l0 N) (spec_l19Build_g0_f N) G a0 a1 a2 a3 a4 a5 a6 a7 K).trans (t_spec_l19Build_g0_b N (spec_l19Build_g0_f N G) a0 a1 a2 a3 a4 a5 a6 a7 (fun y0 y1 y2 => K (.tup [.one (.int .i64 y0), .one (.row 0), .one (.row 1)]) [.row 160 (.trips y1), .row 3 (.ints .i64 y2)])).symm
theorem z186 {β : Type} (N : Nat) : ∀ args bl K r, SF186 (β := β) N 0 args bl K = some r → (none : Option β) = some r := by
  intro args bl K r h
  unfold SF186 VSF186 at h
  split at h <;> exact h
theorem of186 {β : Type} (N : Nat) : ∀ G, GOK (β := β) inv Try.prog 186 (SF186 N G) := by
  intro G
  induction G with
  | zero => exact g_zero Try.func186 (by kernel_rfl) (z186 N)
  | succ G ih =>
    refine g_of lay_ok mixed (E := E186 N G) (specs_loops (specs_cons (o199 N) (specs_cons (o207 N) specs_nil))) muts_nil (gs_cons ih gs_nil) Try.func186 (by kernel_rfl) 1 (by kernel_rfl) ⟨trivial, rk186_0 N G⟩ fun args bl K r h => ?_
    unfold SF186 VSF186 at h
    split at h
    · exact (e186_0 N G _ _ _ _ _ _ _ _ _).trans h
    · cases h
theorem o186 {β : Type} (N : Nat) : GOK (β := β) inv Try.prog 186 (S186 N) := of186 N N
def VS146 {β : Type} (N : Nat) (q_spec_DiagramOf : (a0 : Int) → (a1 : Int) → (a2 : List Int) → (k : List (Int × Int × Int) → Bool → Option β) → Option β) : Rv.Spec β := fun args K => match args with
  | [.v (.agg [.int .i64 a0, .int .i64 a1]), .v (.one (.sl 3 (.ints .i64 a2)))] => q_spec_DiagramOf a0 a1 a2 (fun z3 z4 => K (.tup [.one (.sl 160 (.trips z3)), .one (.bool z4)]))
  | _ => none
def S146 {β : Type} (N : Nat) : Rv.Spec β := VS146 N (spec_DiagramOf N)
def VE146 {β : Type} (N : Nat) (q_spec_IsTable : (a0 : Int) → (a1 : Int) → (k : Bool → Option β) → Option β) (q_spec_l3Perm : (a0 : List Int) → (a1 : Int) → (k : Bool → Option β) → Option β) (q_spec_IsConstant : (a0 : Int) → (a1 : Int) → (k : Bool → Option β) → Option β) (q_spec_l19Build_g0_f : Nat → Int → Int → List Int → Int → Int → Int → List (Int × Int × Int) → List Int → (Int → List (Int × Int × Int) → List Int → Option β) → Option β) : Env β := ⟨[(58, VS58 N q_spec_IsTable), (184, VS184 N q_spec_l3Perm), (185, VS185 N q_spec_IsConstant)], [], [], [(186, VS186 N q_spec_l19Build_g0_f)], ⟨[], [], [106], [147, 148, 186]⟩⟩
def E146 {β : Type} (N : Nat) : Env β := VE146 N (spec_IsTable N) (spec_l3Perm N) (spec_IsConstant N) (spec_l19Build_g0_f N)
def BV_spec_DiagramOf {β : Type} (N : Nat) (q_spec_IsTable : (a0 : Int) → (a1 : Int) → (k : Bool → Option β) → Option β) (q_spec_l3Perm : (a0 : List Int) → (a1 : Int) → (k : Bool → Option β) → Option β) (q_spec_IsConstant : (a0 : Int) → (a1 : Int) → (k : Bool → Option β) → Option β) (q_spec_l19Build_g0_f : Nat → Int → Int → List Int → Int → Int → Int → List (Int × Int × Int) → List Int → (Int → List (Int × Int × Int) → List Int → Option β) → Option β) (a0 : Int) (a1 : Int) (a2 : List Int) (k : List (Int × Int × Int) → Bool → Option β) : Option β :=
q_spec_IsTable a0 a1 fun r5 =>
(cond (!r5)
(k (([] : List (Int × Int × Int))) false)
(q_spec_l3Perm a2 a0 fun r6 =>
(cond (!r6)
(k (([] : List (Int × Int × Int))) false)
(q_spec_IsConstant a0 a1 fun r7 =>
(cond r7
(k (([] : List (Int × Int × Int))) true)
(q_spec_l19Build_g0_f N a0 a1 a2 0 0 0 (([] : List (Int × Int × Int))) (([] : List Int)) (fun r8_0 r8_1 r8_2 =>
k r8_1 true)))))))
theorem t_spec_DiagramOf {β : Type} (N : Nat) (a0 : Int) (a1 : Int) (a2 : List Int) (k : List (Int × Int × Int) → Bool → Option β) : spec_DiagramOf N a0 a1 a2 k = BV_spec_DiagramOf N (spec_IsTable N) (spec_l3Perm N) (spec_IsConstant N) (spec_l19Build_g0_f N) a0 a1 a2 k := by
  unfold spec_DiagramOf BV_spec_DiagramOf
  rfl
theorem ve146_0 {β : Type} (N : Nat) (q_spec_IsTable : (a0 : Int) → (a1 : Int) → (k : Bool → Option β) → Option β) (q_spec_l3Perm : (a0 : List Int) → (a1 : Int) → (k : Bool → Option β) → Option β) (q_spec_IsConstant : (a0 : Int) → (a1 : Int) → (k : Bool → Option β) → Option β) (q_spec_l19Build_g0_f : Nat → Int → Int → List Int → Int → Int → Int → List (Int × Int × Int) → List Int → (Int → List (Int × Int × Int) → List Int → Option β) → Option β)  (a0 : Int) (a1 : Int) (a2 : List Int) (K : TV → Option β) : evFn lay (VE146 N q_spec_IsTable q_spec_l3Perm q_spec_IsConstant q_spec_l19Build_g0_f) Try.f146 [.v (.agg [.int .i64 a0, .int .i64 a1]), .v (.one (.sl 3 (.ints .i64 a2)))] K = BV_spec_DiagramOf N q_spec_IsTable q_spec_l3Perm q_spec_IsConstant q_spec_l19Build_g0_f a0 a1 a2 (fun z3 z4 => K (.tup [.one (.sl 160 (.trips z3)), .one (.bool z4)])) := by kernel_rfl
theorem e146_0 {β : Type} (N : Nat)  (a0 : Int) (a1 : Int) (a2 : List Int) (K : TV → Option β) : evFn lay (E146 N) Try.f146 [.v (.agg [.int .i64 a0, .int .i64 a1]), .v (.one (.sl 3 (.ints .i64 a2)))] K = spec_DiagramOf N a0 a1 a2 (fun z3 z4 => K (.tup [.one (.sl 160 (.trips z3)), .one (.bool z4)])) := (ve146_0 N (spec_IsTable N) (spec_l3Perm N) (spec_IsConstant N) (spec_l19Build_g0_f N) a0 a1 a2 K).trans (t_spec_DiagramOf N a0 a1 a2 (fun z3 z4 => K (.tup [.one (.sl 160 (.trips z3)), .one (.bool z4)]))).symm
theorem o146 {β : Type} (N : Nat) : SpecOK (β := β) inv Try.prog 146 (S146 N) := by
  refine spec_of lay_ok mixed (E := E146 N) (specs_loops (specs_cons (o58 N) (specs_cons (o184 N) (specs_cons (o185 N) specs_nil)))) muts_nil (gs_cons (o186 N) gs_nil) Try.func146 (by kernel_rfl) 0 (by kernel_rfl) trivial fun args K r h => ?_
  unfold S146 VS146 at h
  split at h
  · exact (e146_0 N _ _ _ _).trans h
  · cases h
def VS107 {β : Type} (N : Nat) (q_spec_SizeOfDiagram : (a0 : Int) → (a1 : Int) → (a2 : List Int) → (k : Int → Option β) → Option β) : Rv.Spec β := fun args K => match args with
  | [.v (.agg [.int .i64 a0, .int .i64 a1]), .v (.one (.sl 3 (.ints .i64 a2)))] => q_spec_SizeOfDiagram a0 a1 a2 (fun z3 => K (.v (.one (.int .i64 z3))))
  | _ => none
def S107 {β : Type} (N : Nat) : Rv.Spec β := VS107 N (spec_SizeOfDiagram N)
def VE107 {β : Type} (N : Nat) (q_spec_DiagramOf : (a0 : Int) → (a1 : Int) → (a2 : List Int) → (k : List (Int × Int × Int) → Bool → Option β) → Option β) : Env β := ⟨[(146, VS146 N q_spec_DiagramOf)], [], [], [], ⟨[], [], [106], [147, 148, 186]⟩⟩
def E107 {β : Type} (N : Nat) : Env β := VE107 N (spec_DiagramOf N)
def BV_spec_SizeOfDiagram {β : Type} (N : Nat) (q_spec_DiagramOf : (a0 : Int) → (a1 : Int) → (a2 : List Int) → (k : List (Int × Int × Int) → Bool → Option β) → Option β) (a0 : Int) (a1 : Int) (a2 : List Int) (k : Int → Option β) : Option β :=
q_spec_DiagramOf a0 a1 a2 fun r4 r5 =>
(cond (!r5)
(k (-1))
(k ((r4.length : Int))))
theorem t_spec_SizeOfDiagram {β : Type} (N : Nat) (a0 : Int) (a1 : Int) (a2 : List Int) (k : Int → Option β) : spec_SizeOfDiagram N a0 a1 a2 k = BV_spec_SizeOfDiagram N (spec_DiagramOf N) a0 a1 a2 k := by
  unfold spec_SizeOfDiagram BV_spec_SizeOfDiagram
  rfl
theorem ve107_0 {β : Type} (N : Nat) (q_spec_DiagramOf : (a0 : Int) → (a1 : Int) → (a2 : List Int) → (k : List (Int × Int × Int) → Bool → Option β) → Option β)  (a0 : Int) (a1 : Int) (a2 : List Int) (K : TV → Option β) : evFn lay (VE107 N q_spec_DiagramOf) Try.f107 [.v (.agg [.int .i64 a0, .int .i64 a1]), .v (.one (.sl 3 (.ints .i64 a2)))] K = BV_spec_SizeOfDiagram N q_spec_DiagramOf a0 a1 a2 (fun z3 => K (.v (.one (.int .i64 z3)))) := by kernel_rfl
theorem e107_0 {β : Type} (N : Nat)  (a0 : Int) (a1 : Int) (a2 : List Int) (K : TV → Option β) : evFn lay (E107 N) Try.f107 [.v (.agg [.int .i64 a0, .int .i64 a1]), .v (.one (.sl 3 (.ints .i64 a2)))] K = spec_SizeOfDiagram N a0 a1 a2 (fun z3 => K (.v (.one (.int .i64 z3)))) := (ve107_0 N (spec_DiagramOf N) a0 a1 a2 K).trans (t_spec_SizeOfDiagram N a0 a1 a2 (fun z3 => K (.v (.one (.int .i64 z3))))).symm
theorem o107 {β : Type} (N : Nat) : SpecOK (β := β) inv Try.prog 107 (S107 N) := by
  refine spec_of lay_ok mixed (E := E107 N) (specs_loops (specs_cons (o146 N) specs_nil)) muts_nil gs_nil Try.func107 (by kernel_rfl) 0 (by kernel_rfl) trivial fun args K r h => ?_
  unfold S107 VS107 at h
  split at h
  · exact (e107_0 N _ _ _ _).trans h
  · cases h
def VS66 {β : Type} (N : Nat) (q_spec_LeastOrder : (a0 : Int) → (a1 : Int) → (k : List Int → Int → Bool → Option β) → Option β) : Rv.Spec β := fun args K => match args with
  | [.v (.agg [.int .i64 a0, .int .i64 a1])] => q_spec_LeastOrder a0 a1 (fun z2 z3 z4 => K (.tup [.one (.fsl 3 (.ints .i64 z2)), .one (.int .i64 z3), .one (.bool z4)]))
  | _ => none
def S66 {β : Type} (N : Nat) : Rv.Spec β := VS66 N (spec_LeastOrder N)
def h66_0_0  (v0 : Int) (v1 : Int) (v2 : Int) (v3 : Int) (v4 : Int) (v5 : List (List Int)) : St := ⟨.v (.one .und) :: .v (.one (.ptr 0 0)) :: .v (.one .und) :: .v (.one .und) :: .v (.one .und) :: .v (.one (.row 1)) :: .v (.one (.int .i64 v0)) :: .v (.one (.int .i64 v1)) :: .v (.one (.int .i64 v2)) :: .v (.one .und) :: .v (.one .und) :: .v (.one .und) :: .v (.one .und) :: .v (.one .und) :: .v (.one .und) :: .v (.one .und) :: .v (.one .und) :: .v (.one .und) :: .v (.one .und) :: .v (.one .und) :: .v (.one .und) :: .v (.one .und) :: .v (.one .und) :: .v (.one .und) :: .v (.one .und) :: .v (.one .und) :: .v (.one .und) :: .v (.one .und) :: .v (.one .und) :: .v (.one .und) :: .v (.one .und) :: .v (.one .und) :: .v (.one .und) :: .v (.one .und) :: .v (.one .und) :: .v (.one .und) :: .v (.one .und) :: .v (.one .und) :: .v (.one .und) :: .v (.one .und) :: .v (.one .und) :: .v (.one .und) :: .v (.one .und) :: .v (.one .und) :: .v (.one .und) :: .v (.one .und) :: .v (.one .und) :: .v (.one .und) :: .v (.one .und) :: .v (.one .und) :: [], [.cells 27 [.int .i64 v3, .int .i64 v4], .row 28 (.lists 3 v5)]⟩
def x66_0_0_k0  (y0 : Int) (y1 : Int) (y2 : List (List Int)) : St := ⟨.v (.one .und) :: .v (.one .und) :: .v (.one .und) :: .v (.one .und) :: .v (.one .und) :: .v (.one (.row 0)) :: .v (.one (.int .i64 y0)) :: .v (.one (.int .i64 y1)) :: .v (.one .und) :: .v (.one .und) :: .v (.one .und) :: .v (.one .und) :: .v (.one .und) :: .v (.one .und) :: .v (.one .und) :: .v (.one .und) :: .v (.one .und) :: .v (.one .und) :: .v (.one .und) :: .v (.one .und) :: .v (.one .und) :: .v (.one .und) :: .v (.one .und) :: .v (.one .und) :: .v (.one .und) :: .v (.one .und) :: .v (.one .und) :: .v (.one .und) :: .v (.one .und) :: .v (.one .und) :: .v (.one .und) :: .v (.one .und) :: .v (.one .und) :: .v (.one .und) :: .v (.one .und) :: .v (.one .und) :: .v (.one .und) :: .v (.one .und) :: .v (.one .und) :: .v (.one .und) :: .v (.one .und) :: .v (.one .und) :: .v (.one .und) :: .v (.one .und) :: .v (.one .und) :: .v (.one .und) :: .v (.one .und) :: .v (.one .und) :: .v (.one .und) :: .v (.one .und) :: [], [.row 28 (.lists 3 y2)]⟩
theorem fl66_0_0 (s : St) : refSt (h66_0_0 0 0 0 0 0 []) s = h66_0_0 (intS (oneA (vT (nx tund s.tmps 6)))) (intS (oneA (vT (nx tund s.tmps 7)))) (intS (oneA (vT (nx tund s.tmps 8)))) (intS (nx .und (cellsB (nx .dead s.blks 0)) 0)) (intS (nx .und (cellsB (nx .dead s.blks 0)) 1)) (rLists (rowB_ (nx .dead s.blks 1))) := by kernel_rfl
def VLS66_0 {β : Type} (N : Nat) (q_spec_LeastOrder_l0 : Nat → Int → Int → Int → Int → Int → List (List Int) → (Int → Int → List (List Int) → Option β) → Option β) : LSpec β := fun s K => cond (shpSt (h66_0_0 0 0 0 0 0 []) s) ((fun (v0 : Int) (v1 : Int) (v2 : Int) (v3 : Int) (v4 : Int) (v5 : List (List Int)) => q_spec_LeastOrder_l0  N v0 v1 v2 v3 v4 v5 (fun y0 y1 y2 => K (.exit 0) (x66_0_0_k0  y0 y1 y2))) (intS (oneA (vT (nx tund s.tmps 6)))) (intS (oneA (vT (nx tund s.tmps 7)))) (intS (oneA (vT (nx tund s.tmps 8)))) (intS (nx .und (cellsB (nx .dead s.blks 0)) 0)) (intS (nx .und (cellsB (nx .dead s.blks 0)) 1)) (rLists (rowB_ (nx .dead s.blks 1)))) (none)
def LS66_0 {β : Type} (N : Nat) : LSpec β := VLS66_0 N (spec_LeastOrder_l0 N)
def VE66 {β : Type} (N : Nat) (q_spec_IsTable : (a0 : Int) → (a1 : Int) → (k : Bool → Option β) → Option β) (q_spec_l4Perms_f : Nat → Int → List Int → (List (List Int) → Option β) → Option β) (q_spec_SizeOfDiagram : (a0 : Int) → (a1 : Int) → (a2 : List Int) → (k : Int → Option β) → Option β) (q_spec_LeastOrder_l0 : Nat → Int → Int → Int → Int → Int → List (List Int) → (Int → Int → List (List Int) → Option β) → Option β) : Env β := ⟨[(58, VS58 N q_spec_IsTable), (106, VS106 N q_spec_l4Perms_f), (107, VS107 N q_spec_SizeOfDiagram)], [], [(0, VLS66_0 N q_spec_LeastOrder_l0)], [], ⟨[], [], [106], [147, 148, 186]⟩⟩
def E66 {β : Type} (N : Nat) : Env β := VE66 N (spec_IsTable N) (spec_l4Perms_f N) (spec_SizeOfDiagram N) (spec_LeastOrder_l0 N)
def BV_spec_LeastOrder_l0b {β : Type} (N : Nat) (q_spec_SizeOfDiagram : (a0 : Int) → (a1 : Int) → (a2 : List Int) → (k : Int → Option β) → Option β)  (v0 : Int) (v1 : Int) (v2 : Int) (v3 : Int) (v4 : Int) (v5 : List (List Int)) (rec_ : Int → Int → Int → Int → Int → List (List Int) → Option β) (k0 : Int → Int → List (List Int) → Option β) : Option β :=
(cond ((decide (v2 < (v5.length : Int))))
((gd ((decide (0 ≤ v2)))
((gd ((decide (v2 < (v5.length : Int))))
(q_spec_SizeOfDiagram v3 v4 ((rd [] v5 v2)) fun r8 =>
(cond ((decide (r8 < v1)))
(rec_ v2 r8 ((w64 (v2 + 1))) v3 v4 v5)
(rec_ v0 v1 ((w64 (v2 + 1))) v3 v4 v5)))))))
(k0 v0 v1 v5))
theorem t_spec_LeastOrder_l0b {β : Type} (N : Nat)  (v0 : Int) (v1 : Int) (v2 : Int) (v3 : Int) (v4 : Int) (v5 : List (List Int)) (rec_ : Int → Int → Int → Int → Int → List (List Int) → Option β) (k0 : Int → Int → List (List Int) → Option β) : spec_LeastOrder_l0b N v0 v1 v2 v3 v4 v5 rec_ k0 = BV_spec_LeastOrder_l0b N (spec_SizeOfDiagram N) v0 v1 v2 v3 v4 v5 rec_ k0 := by
  unfold spec_LeastOrder_l0b BV_spec_LeastOrder_l0b
  rfl
theorem vst66_0_0 {β : Type} (N : Nat) (q_spec_IsTable : (a0 : Int) → (a1 : Int) → (k : Bool → Option β) → Option β) (q_spec_l4Perms_f : Nat → Int → List Int → (List (List Int) → Option β) → Option β) (q_spec_SizeOfDiagram : (a0 : Int) → (a1 : Int) → (a2 : List Int) → (k : Int → Option β) → Option β) (q_spec_LeastOrder_l0 : Nat → Int → Int → Int → Int → Int → List (List Int) → (Int → Int → List (List Int) → Option β) → Option β)  (v0 : Int) (v1 : Int) (v2 : Int) (v3 : Int) (v4 : Int) (v5 : List (List Int)) (rec_ : St → Option β) (K : Exit → St → Option β) :
    ev lay (VE66 N q_spec_IsTable q_spec_l4Perms_f q_spec_SizeOfDiagram q_spec_LeastOrder_l0) (retMask Try.f66) (lp Try.f66 0).body (lp Try.f66 0).ex ((lp Try.f66 0).lv (retMask Try.f66)) (h66_0_0  v0 v1 v2 v3 v4 v5) (nextR (fun s' => rec_ (s'.tidy ((lp Try.f66 0).lv (retMask Try.f66)))) K) = BV_spec_LeastOrder_l0b N q_spec_SizeOfDiagram  v0 v1 v2 v3 v4 v5 (fun v0 v1 v2 v3 v4 v5 => rec_ (h66_0_0  v0 v1 v2 v3 v4 v5)) (fun y0 y1 y2 => K (.exit 0) (x66_0_0_k0  y0 y1 y2)) := by kernel_rfl
theorem st66_0_0 {β : Type} (N : Nat)  (v0 : Int) (v1 : Int) (v2 : Int) (v3 : Int) (v4 : Int) (v5 : List (List Int)) (rec_ : St → Option β) (K : Exit → St → Option β) :
    ev lay (E66 N) (retMask Try.f66) (lp Try.f66 0).body (lp Try.f66 0).ex ((lp Try.f66 0).lv (retMask Try.f66)) (h66_0_0  v0 v1 v2 v3 v4 v5) (nextR (fun s' => rec_ (s'.tidy ((lp Try.f66 0).lv (retMask Try.f66)))) K) = spec_LeastOrder_l0b N  v0 v1 v2 v3 v4 v5 (fun v0 v1 v2 v3 v4 v5 => rec_ (h66_0_0  v0 v1 v2 v3 v4 v5)) (fun y0 y1 y2 => K (.exit 0) (x66_0_0_k0  y0 y1 y2)) := (vst66_0_0 N (spec_IsTable N) (spec_l4Perms_f N) (spec_SizeOfDiagram N) (spec_LeastOrder_l0 N) v0 v1 v2 v3 v4 v5 rec_ K).trans (t_spec_LeastOrder_l0b N  v0 v1 v2 v3 v4 v5 (fun v0 v1 v2 v3 v4 v5 => rec_ (h66_0_0  v0 v1 v2 v3 v4 v5)) (fun y0 y1 y2 => K (.exit 0) (x66_0_0_k0  y0 y1 y2))).symm
theorem ro66_0_0 {β : Type} (N : Nat)  (K : Exit → St → Option β) : ∀ (F : Nat) (v0 : Int) (v1 : Int) (v2 : Int) (v3 : Int) (v4 : Int) (v5 : List (List Int)), (lp Try.f66 0).rounds lay (E66 N) (retMask Try.f66) F (h66_0_0  v0 v1 v2 v3 v4 v5) K = spec_LeastOrder_l0 N  F v0 v1 v2 v3 v4 v5 (fun y0 y1 y2 => K (.exit 0) (x66_0_0_k0  y0 y1 y2)) := by
  intro F
  induction F with
  | zero => intros; rfl
  | succ F ih =>
    intros
    rw [rounds_next]
    refine (st66_0_0 N  _ _ _ _ _ _ (fun s => (lp Try.f66 0).rounds lay (E66 N) (retMask Try.f66) F s K) K).trans ?_
    simp only [ih]
    rfl
theorem lk66_0 {β : Type} (N : Nat) : lookL (E66 (β := β) N).loops (lp Try.f66 0).id = LS66_0 N := by kernel_rfl
theorem rk66_0 {β : Type} (N : Nat) : RoundsOK lay (E66 (β := β) N) (retMask Try.f66) (lp Try.f66 0) := by
  intro s K r h
  rw [lk66_0] at h
  unfold LS66_0 VLS66_0 at h
  cases hb : shpSt (h66_0_0 0 0 0 0 0 []) s with
  | true =>
    rw [hb, cond_true] at h
    exact ⟨N, by rw [← shpSt_ref hb, fl66_0_0 s]; exact (ro66_0_0 N  K N (intS (oneA (vT (nx tund s.tmps 6)))) (intS (oneA (vT (nx tund s.tmps 7)))) (intS (oneA (vT (nx tund s.tmps 8)))) (intS (nx .und (cellsB (nx .dead s.blks 0)) 0)) (intS (nx .und (cellsB (nx .dead s.blks 0)) 1)) (rLists (rowB_ (nx .dead s.blks 1)))).trans h⟩
  | false =>
  rw [hb, cond_false] at h
  clear hb
  cases h
def BV_spec_LeastOrder {β : Type} (N : Nat) (q_spec_IsTable : (a0 : Int) → (a1 : Int) → (k : Bool → Option β) → Option β) (q_spec_l4Perms_f : Nat → Int → List Int → (List (List Int) → Option β) → Option β) (q_spec_SizeOfDiagram : (a0 : Int) → (a1 : Int) → (a2 : List Int) → (k : Int → Option β) → Option β) (q_spec_LeastOrder_l0 : Nat → Int → Int → Int → Int → Int → List (List Int) → (Int → Int → List (List Int) → Option β) → Option β) (a0 : Int) (a1 : Int) (k : List Int → Int → Bool → Option β) : Option β :=
q_spec_IsTable a0 a1 fun r5 =>
(cond (!r5)
(k (([] : List Int)) 0 false)
((cond ((decide (a0 > 4)))
(k (([] : List Int)) 0 false)
(q_spec_l4Perms_f N a0 (([] : List Int)) fun r6 =>
(gd ((decide (0 < (r6.length : Int))))
(q_spec_SizeOfDiagram a0 a1 ((rd [] r6 0)) fun r7 =>
q_spec_LeastOrder_l0  N 0 r7 1 a0 a1 r6 (fun e9_0 e9_1 e9_2 =>
(gd ((decide (0 ≤ e9_0)))
((gd ((decide (e9_0 < (e9_2.length : Int))))
(k ((rd [] e9_2 e9_0)) e9_1 true)))))))))))
theorem t_spec_LeastOrder {β : Type} (N : Nat) (a0 : Int) (a1 : Int) (k : List Int → Int → Bool → Option β) : spec_LeastOrder N a0 a1 k = BV_spec_LeastOrder N (spec_IsTable N) (spec_l4Perms_f N) (spec_SizeOfDiagram N) (spec_LeastOrder_l0 N) a0 a1 k := by
  unfold spec_LeastOrder BV_spec_LeastOrder
  rfl
theorem ve66_0 {β : Type} (N : Nat) (q_spec_IsTable : (a0 : Int) → (a1 : Int) → (k : Bool → Option β) → Option β) (q_spec_l4Perms_f : Nat → Int → List Int → (List (List Int) → Option β) → Option β) (q_spec_SizeOfDiagram : (a0 : Int) → (a1 : Int) → (a2 : List Int) → (k : Int → Option β) → Option β) (q_spec_LeastOrder_l0 : Nat → Int → Int → Int → Int → Int → List (List Int) → (Int → Int → List (List Int) → Option β) → Option β)  (a0 : Int) (a1 : Int) (K : TV → Option β) : evFn lay (VE66 N q_spec_IsTable q_spec_l4Perms_f q_spec_SizeOfDiagram q_spec_LeastOrder_l0) Try.f66 [.v (.agg [.int .i64 a0, .int .i64 a1])] (frzK K) = BV_spec_LeastOrder N q_spec_IsTable q_spec_l4Perms_f q_spec_SizeOfDiagram q_spec_LeastOrder_l0 a0 a1 (fun z2 z3 z4 => K (.tup [.one (.fsl 3 (.ints .i64 z2)), .one (.int .i64 z3), .one (.bool z4)])) := by kernel_rfl
theorem e66_0 {β : Type} (N : Nat)  (a0 : Int) (a1 : Int) (K : TV → Option β) : evFn lay (E66 N) Try.f66 [.v (.agg [.int .i64 a0, .int .i64 a1])] (frzK K) = spec_LeastOrder N a0 a1 (fun z2 z3 z4 => K (.tup [.one (.fsl 3 (.ints .i64 z2)), .one (.int .i64 z3), .one (.bool z4)])) := (ve66_0 N (spec_IsTable N) (spec_l4Perms_f N) (spec_SizeOfDiagram N) (spec_LeastOrder_l0 N) a0 a1 K).trans (t_spec_LeastOrder N a0 a1 (fun z2 z3 z4 => K (.tup [.one (.fsl 3 (.ints .i64 z2)), .one (.int .i64 z3), .one (.bool z4)]))).symm
theorem o66 {β : Type} (N : Nat) : SpecOK (β := β) inv Try.prog 66 (S66 N) := by
  refine spec_of_frz lay_ok mixed (E := E66 N) (specs_loops (specs_cons (o58 N) (specs_cons (o106 N) (specs_cons (o107 N) specs_nil)))) muts_nil gs_nil Try.func66 (by kernel_rfl) 1 (by kernel_rfl) ⟨trivial, rk66_0 N⟩ fun args K r h => ?_
  unfold S66 VS66 at h
  split at h
  · exact (e66_0 N _ _ _).trans h
  · cases h
def VS21 {β : Type} (N : Nat) (q_spec_ClaimOfOrder : (a0 : Int) → (a1 : Int) → (k : Int → Int → Int → Int → Int → ByteArray → List Int → Bool → Option β) → Option β) : Rv.Spec β := fun args K => match args with
  | [.v (.agg [.int .i64 a0, .int .i64 a1])] => q_spec_ClaimOfOrder a0 a1 (fun z2 z3 z4 z5 z6 z7 z8 z9 => K (.tup [.agg [.int .i64 z2, .int .i64 z3, .int .i64 z4, .int .i64 z5, .int .i64 z6, .str z7, .fsl 3 (.ints .i64 z8)], .one (.bool z9)]))
  | _ => none
def S21 {β : Type} (N : Nat) : Rv.Spec β := VS21 N (spec_ClaimOfOrder N)
def VE21 {β : Type} (N : Nat) (q_spec_LeastOrder : (a0 : Int) → (a1 : Int) → (k : List Int → Int → Bool → Option β) → Option β) : Env β := ⟨[(66, VS66 N q_spec_LeastOrder)], [], [], [], ⟨[66], [], [106], [147, 148, 186]⟩⟩
def E21 {β : Type} (N : Nat) : Env β := VE21 N (spec_LeastOrder N)
def BV_spec_ClaimOfOrder {β : Type} (N : Nat) (q_spec_LeastOrder : (a0 : Int) → (a1 : Int) → (k : List Int → Int → Bool → Option β) → Option β) (a0 : Int) (a1 : Int) (k : Int → Int → Int → Int → Int → ByteArray → List Int → Bool → Option β) : Option β :=
q_spec_LeastOrder a0 a1 fun r10 r11 r12 =>
(cond (!r12)
(k 0 0 0 0 0 ByteArray.empty (([] : List Int)) false)
(k 6 a0 a1 r11 0 ByteArray.empty r10 true))
theorem t_spec_ClaimOfOrder {β : Type} (N : Nat) (a0 : Int) (a1 : Int) (k : Int → Int → Int → Int → Int → ByteArray → List Int → Bool → Option β) : spec_ClaimOfOrder N a0 a1 k = BV_spec_ClaimOfOrder N (spec_LeastOrder N) a0 a1 k := by
  unfold spec_ClaimOfOrder BV_spec_ClaimOfOrder
  rfl
theorem ve21_0 {β : Type} (N : Nat) (q_spec_LeastOrder : (a0 : Int) → (a1 : Int) → (k : List Int → Int → Bool → Option β) → Option β)  (a0 : Int) (a1 : Int) (K : TV → Option β) : evFn lay (VE21 N q_spec_LeastOrder) Try.f21 [.v (.agg [.int .i64 a0, .int .i64 a1])] (frzK K) = BV_spec_ClaimOfOrder N q_spec_LeastOrder a0 a1 (fun z2 z3 z4 z5 z6 z7 z8 z9 => K (.tup [.agg [.int .i64 z2, .int .i64 z3, .int .i64 z4, .int .i64 z5, .int .i64 z6, .str z7, .fsl 3 (.ints .i64 z8)], .one (.bool z9)])) := by kernel_rfl
theorem e21_0 {β : Type} (N : Nat)  (a0 : Int) (a1 : Int) (K : TV → Option β) : evFn lay (E21 N) Try.f21 [.v (.agg [.int .i64 a0, .int .i64 a1])] (frzK K) = spec_ClaimOfOrder N a0 a1 (fun z2 z3 z4 z5 z6 z7 z8 z9 => K (.tup [.agg [.int .i64 z2, .int .i64 z3, .int .i64 z4, .int .i64 z5, .int .i64 z6, .str z7, .fsl 3 (.ints .i64 z8)], .one (.bool z9)])) := (ve21_0 N (spec_LeastOrder N) a0 a1 K).trans (t_spec_ClaimOfOrder N a0 a1 (fun z2 z3 z4 z5 z6 z7 z8 z9 => K (.tup [.agg [.int .i64 z2, .int .i64 z3, .int .i64 z4, .int .i64 z5, .int .i64 z6, .str z7, .fsl 3 (.ints .i64 z8)], .one (.bool z9)]))).symm
theorem o21 {β : Type} (N : Nat) : SpecOK (β := β) inv Try.prog 21 (S21 N) := by
  refine spec_of_frz lay_ok mixed (E := E21 N) (specs_loops (specs_cons (o66 N) specs_nil)) muts_nil gs_nil Try.func21 (by kernel_rfl) 0 (by kernel_rfl) trivial fun args K r h => ?_
  unfold S21 VS21 at h
  split at h
  · exact (e21_0 N _ _ _).trans h
  · cases h
def VS71 {β : Type} (N : Nat) (q_impl_isBits : (a0 : Int) → (k : Bool → Option β) → Option β) : Rv.Spec β := fun args K => match args with
  | [.v (.one (.int .i64 a0))] => q_impl_isBits a0 (fun z1 => K (.v (.one (.bool z1))))
  | _ => none
def S71 {β : Type} (N : Nat) : Rv.Spec β := VS71 N (impl_isBits N)
def VE71 {β : Type} (N : Nat) : Env β := ⟨[], [], [], [], ⟨[], [], [106], [147, 148, 186]⟩⟩
def E71 {β : Type} (N : Nat) : Env β := VE71 N
def BV_impl_isBits {β : Type} (N : Nat) (a0 : Int) (k : Bool → Option β) : Option β :=
(cond ((decide (a0 ≥ 0)))
(k ((decide (a0 ≤ 5))))
(k false))
theorem t_impl_isBits {β : Type} (N : Nat) (a0 : Int) (k : Bool → Option β) : impl_isBits N a0 k = BV_impl_isBits N a0 k := by
  unfold impl_isBits BV_impl_isBits
  rfl
theorem ve71_0 {β : Type} (N : Nat)  (a0 : Int) (K : TV → Option β) : evFn lay (VE71 N) Try.f71 [.v (.one (.int .i64 a0))] K = BV_impl_isBits N a0 (fun z1 => K (.v (.one (.bool z1)))) := by kernel_rfl
theorem e71_0 {β : Type} (N : Nat)  (a0 : Int) (K : TV → Option β) : evFn lay (E71 N) Try.f71 [.v (.one (.int .i64 a0))] K = impl_isBits N a0 (fun z1 => K (.v (.one (.bool z1)))) := (ve71_0 N a0 K).trans (t_impl_isBits N a0 (fun z1 => K (.v (.one (.bool z1))))).symm
theorem o71 {β : Type} (N : Nat) : SpecOK (β := β) inv Try.prog 71 (S71 N) := by
  refine spec_of lay_ok mixed (E := E71 N) (specs_loops specs_nil) muts_nil gs_nil Try.func71 (by kernel_rfl) 0 (by kernel_rfl) trivial fun args K r h => ?_
  unfold S71 VS71 at h
  split at h
  · exact (e71_0 N _ _).trans h
  · cases h
def VS96 {β : Type} (N : Nat) (q_impl_Table_size : (a0 : Int) → (a1 : Int) → (k : Int → Option β) → Option β) : Rv.Spec β := fun args K => match args with
  | [.v (.agg [.int .i64 a0, .int .i64 a1])] => q_impl_Table_size a0 a1 (fun z2 => K (.v (.one (.int .i64 z2))))
  | _ => none
def S96 {β : Type} (N : Nat) : Rv.Spec β := VS96 N (impl_Table_size N)
def VE96 {β : Type} (N : Nat) : Env β := ⟨[], [], [], [], ⟨[], [], [106], [147, 148, 186]⟩⟩
def E96 {β : Type} (N : Nat) : Env β := VE96 N
def BV_impl_Table_size {β : Type} (N : Nat) (a0 : Int) (a1 : Int) (k : Int → Option β) : Option β :=
(gd ((decide (0 ≤ a0)))
(k ((shlI .i64 1 a0))))
theorem t_impl_Table_size {β : Type} (N : Nat) (a0 : Int) (a1 : Int) (k : Int → Option β) : impl_Table_size N a0 a1 k = BV_impl_Table_size N a0 a1 k := by
  unfold impl_Table_size BV_impl_Table_size
  rfl
theorem ve96_0 {β : Type} (N : Nat)  (a0 : Int) (a1 : Int) (K : TV → Option β) : evFn lay (VE96 N) Try.f96 [.v (.agg [.int .i64 a0, .int .i64 a1])] K = BV_impl_Table_size N a0 a1 (fun z2 => K (.v (.one (.int .i64 z2)))) := by kernel_rfl
theorem e96_0 {β : Type} (N : Nat)  (a0 : Int) (a1 : Int) (K : TV → Option β) : evFn lay (E96 N) Try.f96 [.v (.agg [.int .i64 a0, .int .i64 a1])] K = impl_Table_size N a0 a1 (fun z2 => K (.v (.one (.int .i64 z2)))) := (ve96_0 N a0 a1 K).trans (t_impl_Table_size N a0 a1 (fun z2 => K (.v (.one (.int .i64 z2))))).symm
theorem o96 {β : Type} (N : Nat) : SpecOK (β := β) inv Try.prog 96 (S96 N) := by
  refine spec_of lay_ok mixed (E := E96 N) (specs_loops specs_nil) muts_nil gs_nil Try.func96 (by kernel_rfl) 0 (by kernel_rfl) trivial fun args K r h => ?_
  unfold S96 VS96 at h
  split at h
  · exact (e96_0 N _ _ _).trans h
  · cases h
def VS82 {β : Type} (N : Nat) (q_impl_IsTable : (a0 : Int) → (a1 : Int) → (k : Bool → Option β) → Option β) : Rv.Spec β := fun args K => match args with
  | [.v (.agg [.int .i64 a0, .int .i64 a1])] => q_impl_IsTable a0 a1 (fun z2 => K (.v (.one (.bool z2))))
  | _ => none
def S82 {β : Type} (N : Nat) : Rv.Spec β := VS82 N (impl_IsTable N)
def VE82 {β : Type} (N : Nat) (q_impl_isBits : (a0 : Int) → (k : Bool → Option β) → Option β) (q_impl_Table_size : (a0 : Int) → (a1 : Int) → (k : Int → Option β) → Option β) : Env β := ⟨[(71, VS71 N q_impl_isBits), (96, VS96 N q_impl_Table_size)], [], [], [], ⟨[], [], [106], [147, 148, 186]⟩⟩
def E82 {β : Type} (N : Nat) : Env β := VE82 N (impl_isBits N) (impl_Table_size N)
def BV_impl_IsTable {β : Type} (N : Nat) (q_impl_isBits : (a0 : Int) → (k : Bool → Option β) → Option β) (q_impl_Table_size : (a0 : Int) → (a1 : Int) → (k : Int → Option β) → Option β) (a0 : Int) (a1 : Int) (k : Bool → Option β) : Option β :=
q_impl_isBits a0 fun r3 =>
(cond r3
((cond ((decide (a1 ≥ 0)))
(q_impl_Table_size a0 a1 fun r4 =>
(gd ((decide (0 ≤ r4)))
(k (((shrI .i64 a1 r4) == 0)))))
(k false)))
(k false))
theorem t_impl_IsTable {β : Type} (N : Nat) (a0 : Int) (a1 : Int) (k : Bool → Option β) : impl_IsTable N a0 a1 k = BV_impl_IsTable N (impl_isBits N) (impl_Table_size N) a0 a1 k := by
  unfold impl_IsTable BV_impl_IsTable
  rfl
theorem ve82_0 {β : Type} (N : Nat) (q_impl_isBits : (a0 : Int) → (k : Bool → Option β) → Option β) (q_impl_Table_size : (a0 : Int) → (a1 : Int) → (k : Int → Option β) → Option β)  (a0 : Int) (a1 : Int) (K : TV → Option β) : evFn lay (VE82 N q_impl_isBits q_impl_Table_size) Try.f82 [.v (.agg [.int .i64 a0, .int .i64 a1])] K = BV_impl_IsTable N q_impl_isBits q_impl_Table_size a0 a1 (fun z2 => K (.v (.one (.bool z2)))) := by kernel_rfl
theorem e82_0 {β : Type} (N : Nat)  (a0 : Int) (a1 : Int) (K : TV → Option β) : evFn lay (E82 N) Try.f82 [.v (.agg [.int .i64 a0, .int .i64 a1])] K = impl_IsTable N a0 a1 (fun z2 => K (.v (.one (.bool z2)))) := (ve82_0 N (impl_isBits N) (impl_Table_size N) a0 a1 K).trans (t_impl_IsTable N a0 a1 (fun z2 => K (.v (.one (.bool z2))))).symm
theorem o82 {β : Type} (N : Nat) : SpecOK (β := β) inv Try.prog 82 (S82 N) := by
  refine spec_of lay_ok mixed (E := E82 N) (specs_loops (specs_cons (o71 N) (specs_cons (o96 N) specs_nil))) muts_nil gs_nil Try.func82 (by kernel_rfl) 0 (by kernel_rfl) trivial fun args K r h => ?_
  unfold S82 VS82 at h
  split at h
  · exact (e82_0 N _ _ _).trans h
  · cases h
def VS51 {β : Type} (N : Nat) (q_impl_isSmall : (a0 : Int) → (a1 : Int) → (a2 : Int) → (k : Bool → Option β) → Option β) : Rv.Spec β := fun args K => match args with
  | [.v (.agg [.int .i64 a0, .int .i64 a1]), .v (.one (.int .i64 a2))] => q_impl_isSmall a0 a1 a2 (fun z3 => K (.v (.one (.bool z3))))
  | _ => none
def S51 {β : Type} (N : Nat) : Rv.Spec β := VS51 N (impl_isSmall N)
def VE51 {β : Type} (N : Nat) (q_impl_IsTable : (a0 : Int) → (a1 : Int) → (k : Bool → Option β) → Option β) : Env β := ⟨[(82, VS82 N q_impl_IsTable)], [], [], [], ⟨[], [], [106], [147, 148, 186]⟩⟩
def E51 {β : Type} (N : Nat) : Env β := VE51 N (impl_IsTable N)
def BV_impl_isSmall {β : Type} (N : Nat) (q_impl_IsTable : (a0 : Int) → (a1 : Int) → (k : Bool → Option β) → Option β) (a0 : Int) (a1 : Int) (a2 : Int) (k : Bool → Option β) : Option β :=
q_impl_IsTable a0 a1 fun r4 =>
(cond r4
(k ((decide (a0 ≤ a2))))
(k false))
theorem t_impl_isSmall {β : Type} (N : Nat) (a0 : Int) (a1 : Int) (a2 : Int) (k : Bool → Option β) : impl_isSmall N a0 a1 a2 k = BV_impl_isSmall N (impl_IsTable N) a0 a1 a2 k := by
  unfold impl_isSmall BV_impl_isSmall
  rfl
theorem ve51_0 {β : Type} (N : Nat) (q_impl_IsTable : (a0 : Int) → (a1 : Int) → (k : Bool → Option β) → Option β)  (a0 : Int) (a1 : Int) (a2 : Int) (K : TV → Option β) : evFn lay (VE51 N q_impl_IsTable) Try.f51 [.v (.agg [.int .i64 a0, .int .i64 a1]), .v (.one (.int .i64 a2))] K = BV_impl_isSmall N q_impl_IsTable a0 a1 a2 (fun z3 => K (.v (.one (.bool z3)))) := by kernel_rfl
theorem e51_0 {β : Type} (N : Nat)  (a0 : Int) (a1 : Int) (a2 : Int) (K : TV → Option β) : evFn lay (E51 N) Try.f51 [.v (.agg [.int .i64 a0, .int .i64 a1]), .v (.one (.int .i64 a2))] K = impl_isSmall N a0 a1 a2 (fun z3 => K (.v (.one (.bool z3)))) := (ve51_0 N (impl_IsTable N) a0 a1 a2 K).trans (t_impl_isSmall N a0 a1 a2 (fun z3 => K (.v (.one (.bool z3))))).symm
theorem o51 {β : Type} (N : Nat) : SpecOK (β := β) inv Try.prog 51 (S51 N) := by
  refine spec_of lay_ok mixed (E := E51 N) (specs_loops (specs_cons (o82 N) specs_nil)) muts_nil gs_nil Try.func51 (by kernel_rfl) 0 (by kernel_rfl) trivial fun args K r h => ?_
  unfold S51 VS51 at h
  split at h
  · exact (e51_0 N _ _ _ _).trans h
  · cases h
end Go.Proofs.Ytfdggelojmofmaa
