/- The functions that the claims reach answer as their texts do. -/
import Derived.Test.YtdkjnadhgdneaaaDoorE0
namespace Go.Proofs.YtdkjnadhgdneaaaDoor
open Go.Rv
set_option maxRecDepth 100000
set_option maxHeartbeats 2000000
set_option linter.unusedVariables false
def VSF34 {β : Type} (N : Nat) (q_spec_l21Least_f : Nat → List Int → Int → Int → Int → (Int → Option β) → Option β) (G : Nat) : Rv.Spec β := fun args K => match args with
  | [.v (.one (.sl 3 (.ints .i64 a0))), .v (.one (.int .i64 a1)), .v (.one (.int .i64 a2)), .v (.one (.int .i64 a3))] => q_spec_l21Least_f G a0 a1 a2 a3 (fun z4 => K (.v (.one (.int .i64 z4))))
  | _ => none
def SF34 {β : Type} (N : Nat) (G : Nat) : Rv.Spec β := VSF34 N (spec_l21Least_f N) G
def VS34 {β : Type} (N : Nat) (q_spec_l21Least_f : Nat → List Int → Int → Int → Int → (Int → Option β) → Option β) : Rv.Spec β := VSF34 N q_spec_l21Least_f N
def S34 {β : Type} (N : Nat) : Rv.Spec β := SF34 N N
def h34_0_0  (v0 : List Int) (v1 : Int) (v2 : Int) (v3 : Int) (v4 : Int) : St := ⟨.v (.one (.sl 3 (.ints .i64 v0))) :: .v (.one (.int .i64 v1)) :: .v (.one (.int .i64 v2)) :: .v (.one .und) :: .v (.one .und) :: .v (.one .und) :: .v (.one .und) :: .v (.one .und) :: .v (.one .und) :: .v (.one (.int .i64 v3)) :: .v (.one (.int .i64 v4)) :: .v (.one .und) :: .v (.one .und) :: .v (.one .und) :: .v (.one .und) :: .v (.one .und) :: .v (.one .und) :: .v (.one .und) :: .v (.one .und) :: .v (.one .und) :: .v (.one .und) :: .v (.one .und) :: .v (.one .und) :: .v (.one .und) :: .v (.one .und) :: .v (.one .und) :: .v (.one .und) :: .v (.one .und) :: .v (.one .und) :: .v (.one .und) :: .v (.one .und) :: .v (.one .und) :: .v (.one .und) :: .v (.one .und) :: .v (.one .und) :: .v (.one .und) :: .v (.one .und) :: .v (.one .und) :: .v (.one .und) :: .v (.one .und) :: .v (.one .und) :: .v (.one .und) :: .v (.one .und) :: .v (.one .und) :: .v (.one .und) :: .v (.one .und) :: .v (.one .und) :: .v (.one .und) :: .v (.one .und) :: .v (.one .und) :: .v (.one .und) :: .v (.one .und) :: .v (.one .und) :: .v (.one .und) :: .v (.one .und) :: .v (.one .und) :: .v (.one .und) :: .v (.one .und) :: .v (.one .und) :: .v (.one .und) :: .v (.one .und) :: .v (.one .und) :: .v (.one .und) :: .v (.one .und) :: .v (.one .und) :: .v (.one .und) :: .v (.one .und) :: .v (.one .und) :: .v (.one .und) :: .v (.one .und) :: .v (.one .und) :: .v (.one .und) :: .v (.one .und) :: .v (.one .und) :: .v (.one .und) :: .v (.one .und) :: .v (.one .und) :: .v (.one .und) :: .v (.one .und) :: .v (.one .und) :: .v (.one .und) :: .v (.one .und) :: .v (.one .und) :: .v (.one .und) :: .v (.one .und) :: .v (.one .und) :: .v (.one .und) :: .v (.one .und) :: .v (.one .und) :: .v (.one .und) :: .v (.one .und) :: .v (.one .und) :: .v (.one .und) :: .v (.one .und) :: .v (.one .und) :: .v (.one .und) :: .v (.one .und) :: .v (.one .und) :: .v (.one .und) :: .v (.one .und) :: .v (.one .und) :: .v (.one .und) :: .v (.one .und) :: .v (.one .und) :: .v (.one .und) :: .v (.one .und) :: .v (.one .und) :: .v (.one .und) :: .v (.one .und) :: [], []⟩
def x34_0_0_k0  (y0 : Int) : St := ⟨.v (.one .und) :: .v (.one .und) :: .v (.one .und) :: .v (.one .und) :: .v (.one .und) :: .v (.one .und) :: .v (.one .und) :: .v (.one .und) :: .v (.one (.int .i64 y0)) :: .v (.one .und) :: .v (.one .und) :: .v (.one .und) :: .v (.one .und) :: .v (.one .und) :: .v (.one .und) :: .v (.one .und) :: .v (.one .und) :: .v (.one .und) :: .v (.one .und) :: .v (.one .und) :: .v (.one .und) :: .v (.one .und) :: .v (.one .und) :: .v (.one .und) :: .v (.one .und) :: .v (.one .und) :: .v (.one .und) :: .v (.one .und) :: .v (.one .und) :: .v (.one .und) :: .v (.one .und) :: .v (.one .und) :: .v (.one .und) :: .v (.one .und) :: .v (.one .und) :: .v (.one .und) :: .v (.one .und) :: .v (.one .und) :: .v (.one .und) :: .v (.one .und) :: .v (.one .und) :: .v (.one .und) :: .v (.one .und) :: .v (.one .und) :: .v (.one .und) :: .v (.one .und) :: .v (.one .und) :: .v (.one .und) :: .v (.one .und) :: .v (.one .und) :: .v (.one .und) :: .v (.one .und) :: .v (.one .und) :: .v (.one .und) :: .v (.one .und) :: .v (.one .und) :: .v (.one .und) :: .v (.one .und) :: .v (.one .und) :: .v (.one .und) :: .v (.one .und) :: .v (.one .und) :: .v (.one .und) :: .v (.one .und) :: .v (.one .und) :: .v (.one .und) :: .v (.one .und) :: .v (.one .und) :: .v (.one .und) :: .v (.one .und) :: .v (.one .und) :: .v (.one .und) :: .v (.one .und) :: .v (.one .und) :: .v (.one .und) :: .v (.one .und) :: .v (.one .und) :: .v (.one .und) :: .v (.one .und) :: .v (.one .und) :: .v (.one .und) :: .v (.one .und) :: .v (.one .und) :: .v (.one .und) :: .v (.one .und) :: .v (.one .und) :: .v (.one .und) :: .v (.one .und) :: .v (.one .und) :: .v (.one .und) :: .v (.one .und) :: .v (.one .und) :: .v (.one .und) :: .v (.one .und) :: .v (.one .und) :: .v (.one .und) :: .v (.one .und) :: .v (.one .und) :: .v (.one .und) :: .v (.one .und) :: .v (.one .und) :: .v (.one .und) :: .v (.one .und) :: .v (.one .und) :: .v (.one .und) :: .v (.one .und) :: .v (.one .und) :: .v (.one .und) :: .v (.one .und) :: [], []⟩
def x34_0_0_k1  (y0 : List Int) (y1 : Int) (y2 : Int) (y3 : Int) : St := ⟨.v (.one (.sl 3 (.ints .i64 y0))) :: .v (.one (.int .i64 y1)) :: .v (.one (.int .i64 y2)) :: .v (.one .und) :: .v (.one .und) :: .v (.one .und) :: .v (.one .und) :: .v (.one .und) :: .v (.one .und) :: .v (.one (.int .i64 y3)) :: .v (.one .und) :: .v (.one .und) :: .v (.one .und) :: .v (.one .und) :: .v (.one .und) :: .v (.one .und) :: .v (.one .und) :: .v (.one .und) :: .v (.one .und) :: .v (.one .und) :: .v (.one .und) :: .v (.one .und) :: .v (.one .und) :: .v (.one .und) :: .v (.one .und) :: .v (.one .und) :: .v (.one .und) :: .v (.one .und) :: .v (.one .und) :: .v (.one .und) :: .v (.one .und) :: .v (.one .und) :: .v (.one .und) :: .v (.one .und) :: .v (.one .und) :: .v (.one .und) :: .v (.one .und) :: .v (.one .und) :: .v (.one .und) :: .v (.one .und) :: .v (.one .und) :: .v (.one .und) :: .v (.one .und) :: .v (.one .und) :: .v (.one .und) :: .v (.one .und) :: .v (.one .und) :: .v (.one .und) :: .v (.one .und) :: .v (.one .und) :: .v (.one .und) :: .v (.one .und) :: .v (.one .und) :: .v (.one .und) :: .v (.one .und) :: .v (.one .und) :: .v (.one .und) :: .v (.one .und) :: .v (.one .und) :: .v (.one .und) :: .v (.one .und) :: .v (.one .und) :: .v (.one .und) :: .v (.one .und) :: .v (.one .und) :: .v (.one .und) :: .v (.one .und) :: .v (.one .und) :: .v (.one .und) :: .v (.one .und) :: .v (.one .und) :: .v (.one .und) :: .v (.one .und) :: .v (.one .und) :: .v (.one .und) :: .v (.one .und) :: .v (.one .und) :: .v (.one .und) :: .v (.one .und) :: .v (.one .und) :: .v (.one .und) :: .v (.one .und) :: .v (.one .und) :: .v (.one .und) :: .v (.one .und) :: .v (.one .und) :: .v (.one .und) :: .v (.one .und) :: .v (.one .und) :: .v (.one .und) :: .v (.one .und) :: .v (.one .und) :: .v (.one .und) :: .v (.one .und) :: .v (.one .und) :: .v (.one .und) :: .v (.one .und) :: .v (.one .und) :: .v (.one .und) :: .v (.one .und) :: .v (.one .und) :: .v (.one .und) :: .v (.one .und) :: .v (.one .und) :: .v (.one .und) :: .v (.one .und) :: .v (.one .und) :: .v (.one .und) :: .v (.one .und) :: [], []⟩
def h34_1_0  (v0 : List Int) (v1 : Int) (v2 : Int) (v3 : Int) (v4 : Int) : St := ⟨.v (.one (.sl 3 (.ints .i64 v0))) :: .v (.one (.int .i64 v1)) :: .v (.one (.int .i64 v2)) :: .v (.one .und) :: .v (.one .und) :: .v (.one .und) :: .v (.one .und) :: .v (.one .und) :: .v (.one .und) :: .v (.one (.int .i64 v3)) :: .v (.one .und) :: .v (.one .und) :: .v (.one (.int .i64 v4)) :: .v (.one .und) :: .v (.one .und) :: .v (.one .und) :: .v (.one .und) :: .v (.one .und) :: .v (.one .und) :: .v (.one .und) :: .v (.one .und) :: .v (.one .und) :: .v (.one .und) :: .v (.one .und) :: .v (.one .und) :: .v (.one .und) :: .v (.one .und) :: .v (.one .und) :: .v (.one .und) :: .v (.one .und) :: .v (.one .und) :: .v (.one .und) :: .v (.one .und) :: .v (.one .und) :: .v (.one .und) :: .v (.one .und) :: .v (.one .und) :: .v (.one .und) :: .v (.one .und) :: .v (.one .und) :: .v (.one .und) :: .v (.one .und) :: .v (.one .und) :: .v (.one .und) :: .v (.one .und) :: .v (.one .und) :: .v (.one .und) :: .v (.one .und) :: .v (.one .und) :: .v (.one .und) :: .v (.one .und) :: .v (.one .und) :: .v (.one .und) :: .v (.one .und) :: .v (.one .und) :: .v (.one .und) :: .v (.one .und) :: .v (.one .und) :: .v (.one .und) :: .v (.one .und) :: .v (.one .und) :: .v (.one .und) :: .v (.one .und) :: .v (.one .und) :: .v (.one .und) :: .v (.one .und) :: .v (.one .und) :: .v (.one .und) :: .v (.one .und) :: .v (.one .und) :: .v (.one .und) :: .v (.one .und) :: .v (.one .und) :: .v (.one .und) :: .v (.one .und) :: .v (.one .und) :: .v (.one .und) :: .v (.one .und) :: .v (.one .und) :: .v (.one .und) :: .v (.one .und) :: .v (.one .und) :: .v (.one .und) :: .v (.one .und) :: .v (.one .und) :: .v (.one .und) :: .v (.one .und) :: .v (.one .und) :: .v (.one .und) :: .v (.one .und) :: .v (.one .und) :: .v (.one .und) :: .v (.one .und) :: .v (.one .und) :: .v (.one .und) :: .v (.one .und) :: .v (.one .und) :: .v (.one .und) :: .v (.one .und) :: .v (.one .und) :: .v (.one .und) :: .v (.one .und) :: .v (.one .und) :: .v (.one .und) :: .v (.one .und) :: .v (.one .und) :: .v (.one .und) :: .v (.one .und) :: .v (.one .und) :: [], []⟩
def x34_1_0_k0  (y0 : Int) : St := ⟨.v (.one .und) :: .v (.one .und) :: .v (.one .und) :: .v (.one .und) :: .v (.one .und) :: .v (.one .und) :: .v (.one .und) :: .v (.one .und) :: .v (.one .und) :: .v (.one (.int .i64 y0)) :: .v (.one .und) :: .v (.one .und) :: .v (.one .und) :: .v (.one .und) :: .v (.one .und) :: .v (.one .und) :: .v (.one .und) :: .v (.one .und) :: .v (.one .und) :: .v (.one .und) :: .v (.one .und) :: .v (.one .und) :: .v (.one .und) :: .v (.one .und) :: .v (.one .und) :: .v (.one .und) :: .v (.one .und) :: .v (.one .und) :: .v (.one .und) :: .v (.one .und) :: .v (.one .und) :: .v (.one .und) :: .v (.one .und) :: .v (.one .und) :: .v (.one .und) :: .v (.one .und) :: .v (.one .und) :: .v (.one .und) :: .v (.one .und) :: .v (.one .und) :: .v (.one .und) :: .v (.one .und) :: .v (.one .und) :: .v (.one .und) :: .v (.one .und) :: .v (.one .und) :: .v (.one .und) :: .v (.one .und) :: .v (.one .und) :: .v (.one .und) :: .v (.one .und) :: .v (.one .und) :: .v (.one .und) :: .v (.one .und) :: .v (.one .und) :: .v (.one .und) :: .v (.one .und) :: .v (.one .und) :: .v (.one .und) :: .v (.one .und) :: .v (.one .und) :: .v (.one .und) :: .v (.one .und) :: .v (.one .und) :: .v (.one .und) :: .v (.one .und) :: .v (.one .und) :: .v (.one .und) :: .v (.one .und) :: .v (.one .und) :: .v (.one .und) :: .v (.one .und) :: .v (.one .und) :: .v (.one .und) :: .v (.one .und) :: .v (.one .und) :: .v (.one .und) :: .v (.one .und) :: .v (.one .und) :: .v (.one .und) :: .v (.one .und) :: .v (.one .und) :: .v (.one .und) :: .v (.one .und) :: .v (.one .und) :: .v (.one .und) :: .v (.one .und) :: .v (.one .und) :: .v (.one .und) :: .v (.one .und) :: .v (.one .und) :: .v (.one .und) :: .v (.one .und) :: .v (.one .und) :: .v (.one .und) :: .v (.one .und) :: .v (.one .und) :: .v (.one .und) :: .v (.one .und) :: .v (.one .und) :: .v (.one .und) :: .v (.one .und) :: .v (.one .und) :: .v (.one .und) :: .v (.one .und) :: .v (.one .und) :: .v (.one .und) :: .v (.one .und) :: .v (.one .und) :: [], []⟩
theorem fl34_0_0 (s : St) : refSt (h34_0_0 [] 0 0 0 0) s = h34_0_0 (rInts (rowV (oneA (vT (nx tund s.tmps 0))))) (intS (oneA (vT (nx tund s.tmps 1)))) (intS (oneA (vT (nx tund s.tmps 2)))) (intS (oneA (vT (nx tund s.tmps 9)))) (intS (oneA (vT (nx tund s.tmps 10)))) := by kernel_rfl
def VLS34_0 {β : Type} (N : Nat) (q_spec_l21Least_l0 : (self : List Int → Int → Int → Int → (Int → Option β) → Option β) → Nat → List Int → Int → Int → Int → Int → (Int → Option β) → (List Int → Int → Int → Int → Option β) → Option β) (q_spec_l21Least_f : Nat → List Int → Int → Int → Int → (Int → Option β) → Option β) (G : Nat) : LSpec β := fun s K => cond (shpSt (h34_0_0 [] 0 0 0 0) s) ((fun (v0 : List Int) (v1 : Int) (v2 : Int) (v3 : Int) (v4 : Int) => q_spec_l21Least_l0 (q_spec_l21Least_f G)  N v0 v1 v2 v3 v4 (fun y0 => K .ret (x34_0_0_k0  y0)) (fun y0 y1 y2 y3 => K (.exit 0) (x34_0_0_k1  y0 y1 y2 y3))) (rInts (rowV (oneA (vT (nx tund s.tmps 0))))) (intS (oneA (vT (nx tund s.tmps 1)))) (intS (oneA (vT (nx tund s.tmps 2)))) (intS (oneA (vT (nx tund s.tmps 9)))) (intS (oneA (vT (nx tund s.tmps 10))))) (none)
def LS34_0 {β : Type} (N : Nat) (G : Nat) : LSpec β := VLS34_0 N (spec_l21Least_l0 N) (spec_l21Least_f N) G
theorem fl34_1_0 (s : St) : refSt (h34_1_0 [] 0 0 0 0) s = h34_1_0 (rInts (rowV (oneA (vT (nx tund s.tmps 0))))) (intS (oneA (vT (nx tund s.tmps 1)))) (intS (oneA (vT (nx tund s.tmps 2)))) (intS (oneA (vT (nx tund s.tmps 9)))) (intS (oneA (vT (nx tund s.tmps 12)))) := by kernel_rfl
def VLS34_2 {β : Type} (N : Nat) (q_spec_l21Least_l2 : (self : List Int → Int → Int → Int → (Int → Option β) → Option β) → Nat → List Int → Int → Int → Int → Int → (Int → Option β) → Option β) (q_spec_l21Least_f : Nat → List Int → Int → Int → Int → (Int → Option β) → Option β) (G : Nat) : LSpec β := fun s K => cond (shpSt (h34_1_0 [] 0 0 0 0) s) ((fun (v0 : List Int) (v1 : Int) (v2 : Int) (v3 : Int) (v4 : Int) => q_spec_l21Least_l2 (q_spec_l21Least_f G)  N v0 v1 v2 v3 v4 (fun y0 => K (.exit 2) (x34_1_0_k0  y0))) (rInts (rowV (oneA (vT (nx tund s.tmps 0))))) (intS (oneA (vT (nx tund s.tmps 1)))) (intS (oneA (vT (nx tund s.tmps 2)))) (intS (oneA (vT (nx tund s.tmps 9)))) (intS (oneA (vT (nx tund s.tmps 12))))) (none)
def LS34_2 {β : Type} (N : Nat) (G : Nat) : LSpec β := VLS34_2 N (spec_l21Least_l2 N) (spec_l21Least_f N) G
def VE34 {β : Type} (N : Nat) (q_spec_l21One : (a0 : List Int) → (a1 : Int) → (a2 : Int) → (k : Int → Option β) → Option β) (q_spec_l21Least_f : Nat → List Int → Int → Int → Int → (Int → Option β) → Option β) (q_spec_l21Least_l0 : (self : List Int → Int → Int → Int → (Int → Option β) → Option β) → Nat → List Int → Int → Int → Int → Int → (Int → Option β) → (List Int → Int → Int → Int → Option β) → Option β) (q_spec_l21Least_l2 : (self : List Int → Int → Int → Int → (Int → Option β) → Option β) → Nat → List Int → Int → Int → Int → Int → (Int → Option β) → Option β) (G : Nat) : Env β := ⟨[(33, VS33 N q_spec_l21One), (34, VSF34 N q_spec_l21Least_f G)], [], [(0, VLS34_0 N q_spec_l21Least_l0 q_spec_l21Least_f G), (2, VLS34_2 N q_spec_l21Least_l2 q_spec_l21Least_f G)], []⟩
def E34 {β : Type} (N : Nat) (G : Nat) : Env β := VE34 N (spec_l21One N) (spec_l21Least_f N) (spec_l21Least_l0 N) (spec_l21Least_l2 N) G
def BV_spec_l21Least_l0b {β : Type} (N : Nat) (self : List Int → Int → Int → Int → (Int → Option β) → Option β)  (v0 : List Int) (v1 : Int) (v2 : Int) (v3 : Int) (v4 : Int) (rec_ : List Int → Int → Int → Int → Int → Option β) (k0 : Int → Option β) (k1 : List Int → Int → Int → Int → Option β) : Option β :=
(cond ((decide (v4 > 0)))
((cond ((decide (v4 < (w64 (v1 - v4)))))
(rec_ v0 v1 v2 v3 ((bits .and .i64 (w64 (v4 - 1)) v1)))
(self v0 v4 v2 ((w64 (v3 - 2))) fun r6 =>
(cond ((decide ((w64 (1 + r6)) < v3)))
(self v0 ((w64 (v1 - v4))) v2 ((w64 (v3 - 2))) fun r7 =>
(cond (((mnI v3 (mxI (w64 (1 + r6)) (w64 (1 + r7)))) == 1))
(k0 ((mnI v3 (mxI (w64 (1 + r6)) (w64 (1 + r7))))))
(rec_ v0 v1 v2 ((mnI v3 (mxI (w64 (1 + r6)) (w64 (1 + r7))))) ((bits .and .i64 (w64 (v4 - 1)) v1)))))
((cond ((v3 == 1))
(k0 v3)
(rec_ v0 v1 v2 v3 ((bits .and .i64 (w64 (v4 - 1)) v1)))))))))
(k1 v0 v1 v2 v3))
theorem t_spec_l21Least_l0b {β : Type} (N : Nat) (self : List Int → Int → Int → Int → (Int → Option β) → Option β)  (v0 : List Int) (v1 : Int) (v2 : Int) (v3 : Int) (v4 : Int) (rec_ : List Int → Int → Int → Int → Int → Option β) (k0 : Int → Option β) (k1 : List Int → Int → Int → Int → Option β) : spec_l21Least_l0b N self v0 v1 v2 v3 v4 rec_ k0 k1 = BV_spec_l21Least_l0b N self v0 v1 v2 v3 v4 rec_ k0 k1 := by
  unfold spec_l21Least_l0b BV_spec_l21Least_l0b
  rfl
theorem vst34_0_0 {β : Type} (N : Nat) (q_spec_l21One : (a0 : List Int) → (a1 : Int) → (a2 : Int) → (k : Int → Option β) → Option β) (q_spec_l21Least_f : Nat → List Int → Int → Int → Int → (Int → Option β) → Option β) (q_spec_l21Least_l0 : (self : List Int → Int → Int → Int → (Int → Option β) → Option β) → Nat → List Int → Int → Int → Int → Int → (Int → Option β) → (List Int → Int → Int → Int → Option β) → Option β) (q_spec_l21Least_l2 : (self : List Int → Int → Int → Int → (Int → Option β) → Option β) → Nat → List Int → Int → Int → Int → Int → (Int → Option β) → Option β) (G : Nat)  (v0 : List Int) (v1 : Int) (v2 : Int) (v3 : Int) (v4 : Int) (rec_ : St → Option β) (K : Exit → St → Option β) :
    ev lay (VE34 N q_spec_l21One q_spec_l21Least_f q_spec_l21Least_l0 q_spec_l21Least_l2 G) (retMask Tryd.f34) (lp Tryd.f34 0).body (lp Tryd.f34 0).ex ((lp Tryd.f34 0).lv (retMask Tryd.f34)) (h34_0_0  v0 v1 v2 v3 v4) (nextR (fun s' => rec_ (s'.tidy ((lp Tryd.f34 0).lv (retMask Tryd.f34)))) K) = BV_spec_l21Least_l0b N (q_spec_l21Least_f G)  v0 v1 v2 v3 v4 (fun v0 v1 v2 v3 v4 => rec_ (h34_0_0  v0 v1 v2 v3 v4)) (fun y0 => K .ret (x34_0_0_k0  y0)) (fun y0 y1 y2 y3 => K (.exit 0) (x34_0_0_k1  y0 y1 y2 y3)) := by kernel_rfl
theorem st34_0_0 {β : Type} (N : Nat) (G : Nat)  (v0 : List Int) (v1 : Int) (v2 : Int) (v3 : Int) (v4 : Int) (rec_ : St → Option β) (K : Exit → St → Option β) :
    ev lay (E34 N G) (retMask Tryd.f34) (lp Tryd.f34 0).body (lp Tryd.f34 0).ex ((lp Tryd.f34 0).lv (retMask Tryd.f34)) (h34_0_0  v0 v1 v2 v3 v4) (nextR (fun s' => rec_ (s'.tidy ((lp Tryd.f34 0).lv (retMask Tryd.f34)))) K) = spec_l21Least_l0b N (spec_l21Least_f N G)  v0 v1 v2 v3 v4 (fun v0 v1 v2 v3 v4 => rec_ (h34_0_0  v0 v1 v2 v3 v4)) (fun y0 => K .ret (x34_0_0_k0  y0)) (fun y0 y1 y2 y3 => K (.exit 0) (x34_0_0_k1  y0 y1 y2 y3)) := (vst34_0_0 N (spec_l21One N) (spec_l21Least_f N) (spec_l21Least_l0 N) (spec_l21Least_l2 N) G v0 v1 v2 v3 v4 rec_ K).trans (t_spec_l21Least_l0b N (spec_l21Least_f N G)  v0 v1 v2 v3 v4 (fun v0 v1 v2 v3 v4 => rec_ (h34_0_0  v0 v1 v2 v3 v4)) (fun y0 => K .ret (x34_0_0_k0  y0)) (fun y0 y1 y2 y3 => K (.exit 0) (x34_0_0_k1  y0 y1 y2 y3))).symm
theorem ro34_0_0 {β : Type} (N : Nat) (G : Nat)  (K : Exit → St → Option β) : ∀ (F : Nat) (v0 : List Int) (v1 : Int) (v2 : Int) (v3 : Int) (v4 : Int), (lp Tryd.f34 0).rounds lay (E34 N G) (retMask Tryd.f34) F (h34_0_0  v0 v1 v2 v3 v4) K = spec_l21Least_l0 N (spec_l21Least_f N G)  F v0 v1 v2 v3 v4 (fun y0 => K .ret (x34_0_0_k0  y0)) (fun y0 y1 y2 y3 => K (.exit 0) (x34_0_0_k1  y0 y1 y2 y3)) := by
  intro F
  induction F with
  | zero => intros; rfl
  | succ F ih =>
    intros
    rw [rounds_next]
    refine (st34_0_0 N G  _ _ _ _ _ (fun s => (lp Tryd.f34 0).rounds lay (E34 N G) (retMask Tryd.f34) F s K) K).trans ?_
    simp only [ih]
    rfl
theorem lk34_0 {β : Type} (N : Nat) (G : Nat) : lookL (E34 (β := β) N G).loops (lp Tryd.f34 0).id = LS34_0 N G := by kernel_rfl
theorem rk34_0 {β : Type} (N : Nat) (G : Nat) : RoundsOK lay (E34 (β := β) N G) (retMask Tryd.f34) (lp Tryd.f34 0) := by
  intro s K r h
  rw [lk34_0] at h
  unfold LS34_0 VLS34_0 at h
  cases hb : shpSt (h34_0_0 [] 0 0 0 0) s with
  | true =>
    rw [hb, cond_true] at h
    exact ⟨N, by rw [← shpSt_ref hb, fl34_0_0 s]; exact (ro34_0_0 N G  K N (rInts (rowV (oneA (vT (nx tund s.tmps 0))))) (intS (oneA (vT (nx tund s.tmps 1)))) (intS (oneA (vT (nx tund s.tmps 2)))) (intS (oneA (vT (nx tund s.tmps 9)))) (intS (oneA (vT (nx tund s.tmps 10))))).trans h⟩
  | false =>
  rw [hb, cond_false] at h
  clear hb
  cases h
def BV_spec_l21Least_l2b {β : Type} (N : Nat) (self : List Int → Int → Int → Int → (Int → Option β) → Option β)  (v0 : List Int) (v1 : Int) (v2 : Int) (v3 : Int) (v4 : Int) (rec_ : List Int → Int → Int → Int → Int → Option β) (k0 : Int → Option β) : Option β :=
(cond ((decide (v4 > 0)))
((cond ((decide (v4 < (w64 (v2 - v4)))))
(rec_ v0 v1 v2 v3 ((bits .and .i64 (w64 (v4 - 1)) v2)))
((cond ((v3 == 1))
(rec_ v0 v1 v2 v3 ((bits .and .i64 (w64 (v4 - 1)) v2)))
(self v0 v1 v4 ((w64 (v3 - 2))) fun r10 =>
(cond ((decide ((w64 (1 + r10)) < v3)))
(self v0 v1 ((w64 (v2 - v4))) ((w64 (v3 - 2))) fun r11 =>
rec_ v0 v1 v2 ((mnI v3 (mxI (w64 (1 + r10)) (w64 (1 + r11))))) ((bits .and .i64 (w64 (v4 - 1)) v2)))
(rec_ v0 v1 v2 v3 ((bits .and .i64 (w64 (v4 - 1)) v2)))))))))
(k0 v3))
theorem t_spec_l21Least_l2b {β : Type} (N : Nat) (self : List Int → Int → Int → Int → (Int → Option β) → Option β)  (v0 : List Int) (v1 : Int) (v2 : Int) (v3 : Int) (v4 : Int) (rec_ : List Int → Int → Int → Int → Int → Option β) (k0 : Int → Option β) : spec_l21Least_l2b N self v0 v1 v2 v3 v4 rec_ k0 = BV_spec_l21Least_l2b N self v0 v1 v2 v3 v4 rec_ k0 := by
  unfold spec_l21Least_l2b BV_spec_l21Least_l2b
  rfl
theorem vst34_1_0 {β : Type} (N : Nat) (q_spec_l21One : (a0 : List Int) → (a1 : Int) → (a2 : Int) → (k : Int → Option β) → Option β) (q_spec_l21Least_f : Nat → List Int → Int → Int → Int → (Int → Option β) → Option β) (q_spec_l21Least_l0 : (self : List Int → Int → Int → Int → (Int → Option β) → Option β) → Nat → List Int → Int → Int → Int → Int → (Int → Option β) → (List Int → Int → Int → Int → Option β) → Option β) (q_spec_l21Least_l2 : (self : List Int → Int → Int → Int → (Int → Option β) → Option β) → Nat → List Int → Int → Int → Int → Int → (Int → Option β) → Option β) (G : Nat)  (v0 : List Int) (v1 : Int) (v2 : Int) (v3 : Int) (v4 : Int) (rec_ : St → Option β) (K : Exit → St → Option β) :
    ev lay (VE34 N q_spec_l21One q_spec_l21Least_f q_spec_l21Least_l0 q_spec_l21Least_l2 G) (retMask Tryd.f34) (lp Tryd.f34 1).body (lp Tryd.f34 1).ex ((lp Tryd.f34 1).lv (retMask Tryd.f34)) (h34_1_0  v0 v1 v2 v3 v4) (nextR (fun s' => rec_ (s'.tidy ((lp Tryd.f34 1).lv (retMask Tryd.f34)))) K) = BV_spec_l21Least_l2b N (q_spec_l21Least_f G)  v0 v1 v2 v3 v4 (fun v0 v1 v2 v3 v4 => rec_ (h34_1_0  v0 v1 v2 v3 v4)) (fun y0 => K (.exit 2) (x34_1_0_k0  y0)) := by kernel_rfl
theorem st34_1_0 {β : Type} (N : Nat) (G : Nat)  (v0 : List Int) (v1 : Int) (v2 : Int) (v3 : Int) (v4 : Int) (rec_ : St → Option β) (K : Exit → St → Option β) :
    ev lay (E34 N G) (retMask Tryd.f34) (lp Tryd.f34 1).body (lp Tryd.f34 1).ex ((lp Tryd.f34 1).lv (retMask Tryd.f34)) (h34_1_0  v0 v1 v2 v3 v4) (nextR (fun s' => rec_ (s'.tidy ((lp Tryd.f34 1).lv (retMask Tryd.f34)))) K) = spec_l21Least_l2b N (spec_l21Least_f N G)  v0 v1 v2 v3 v4 (fun v0 v1 v2 v3 v4 => rec_ (h34_1_0  v0 v1 v2 v3 v4)) (fun y0 => K (.exit 2) (x34_1_0_k0  y0)) := (vst34_1_0 N (spec_l21One N) (spec_l21Least_f N) (spec_l21Least_l0 N) (spec_l21Least_l2 N) G v0 v1 v2 v3 v4 rec_ K).trans (t_spec_l21Least_l2b N (spec_l21Least_f N G)  v0 v1 v2 v3 v4 (fun v0 v1 v2 v3 v4 => rec_ (h34_1_0  v0 v1 v2 v3 v4)) (fun y0 => K (.exit 2) (x34_1_0_k0  y0))).symm
theorem ro34_1_0 {β : Type} (N : Nat) (G : Nat)  (K : Exit → St → Option β) : ∀ (F : Nat) (v0 : List Int) (v1 : Int) (v2 : Int) (v3 : Int) (v4 : Int), (lp Tryd.f34 1).rounds lay (E34 N G) (retMask Tryd.f34) F (h34_1_0  v0 v1 v2 v3 v4) K = spec_l21Least_l2 N (spec_l21Least_f N G)  F v0 v1 v2 v3 v4 (fun y0 => K (.exit 2) (x34_1_0_k0  y0)) := by
  intro F
  induction F with
  | zero => intros; rfl
  | succ F ih =>
    intros
    rw [rounds_next]
    refine (st34_1_0 N G  _ _ _ _ _ (fun s => (lp Tryd.f34 1).rounds lay (E34 N G) (retMask Tryd.f34) F s K) K).trans ?_
    simp only [ih]
    rfl
theorem lk34_2 {β : Type} (N : Nat) (G : Nat) : lookL (E34 (β := β) N G).loops (lp Tryd.f34 1).id = LS34_2 N G := by kernel_rfl
theorem rk34_2 {β : Type} (N : Nat) (G : Nat) : RoundsOK lay (E34 (β := β) N G) (retMask Tryd.f34) (lp Tryd.f34 1) := by
  intro s K r h
  rw [lk34_2] at h
  unfold LS34_2 VLS34_2 at h
  cases hb : shpSt (h34_1_0 [] 0 0 0 0) s with
  | true =>
    rw [hb, cond_true] at h
    exact ⟨N, by rw [← shpSt_ref hb, fl34_1_0 s]; exact (ro34_1_0 N G  K N (rInts (rowV (oneA (vT (nx tund s.tmps 0))))) (intS (oneA (vT (nx tund s.tmps 1)))) (intS (oneA (vT (nx tund s.tmps 2)))) (intS (oneA (vT (nx tund s.tmps 9)))) (intS (oneA (vT (nx tund s.tmps 12))))).trans h⟩
  | false =>
  rw [hb, cond_false] at h
  clear hb
  cases h
def BV_spec_l21Least_b {β : Type} (N : Nat) (q_spec_l21One : (a0 : List Int) → (a1 : Int) → (a2 : Int) → (k : Int → Option β) → Option β) (q_spec_l21Least_l0 : (self : List Int → Int → Int → Int → (Int → Option β) → Option β) → Nat → List Int → Int → Int → Int → Int → (Int → Option β) → (List Int → Int → Int → Int → Option β) → Option β) (q_spec_l21Least_l2 : (self : List Int → Int → Int → Int → (Int → Option β) → Option β) → Nat → List Int → Int → Int → Int → Int → (Int → Option β) → Option β) (self : List Int → Int → Int → Int → (Int → Option β) → Option β) (a0 : List Int) (a1 : Int) (a2 : Int) (a3 : Int) (k : Int → Option β) : Option β :=
q_spec_l21One a0 a1 a2 fun r5 =>
(cond ((decide (r5 < 2)))
(k 0)
((cond ((a3 == 0))
(k 1)
(q_spec_l21Least_l0 self  N a0 a1 a2 ((w64 (a3 + 1))) ((bits .and .i64 (w64 (a1 - 1)) a1)) (fun e8_0 =>
k e8_0) (fun e9_0 e9_1 e9_2 e9_3 =>
q_spec_l21Least_l2 self  N e9_0 e9_1 e9_2 e9_3 ((bits .and .i64 (w64 (e9_2 - 1)) e9_2)) (fun e12_0 =>
k e12_0))))))
theorem t_spec_l21Least_b {β : Type} (N : Nat) (self : List Int → Int → Int → Int → (Int → Option β) → Option β) (a0 : List Int) (a1 : Int) (a2 : Int) (a3 : Int) (k : Int → Option β) : spec_l21Least_b N self a0 a1 a2 a3 k = BV_spec_l21Least_b N (spec_l21One N) (spec_l21Least_l0 N) (spec_l21Least_l2 N) self a0 a1 a2 a3 k := by
  unfold spec_l21Least_b BV_spec_l21Least_b
  rfl
theorem ve34_0 {β : Type} (N : Nat) (q_spec_l21One : (a0 : List Int) → (a1 : Int) → (a2 : Int) → (k : Int → Option β) → Option β) (q_spec_l21Least_f : Nat → List Int → Int → Int → Int → (Int → Option β) → Option β) (q_spec_l21Least_l0 : (self : List Int → Int → Int → Int → (Int → Option β) → Option β) → Nat → List Int → Int → Int → Int → Int → (Int → Option β) → (List Int → Int → Int → Int → Option β) → Option β) (q_spec_l21Least_l2 : (self : List Int → Int → Int → Int → (Int → Option β) → Option β) → Nat → List Int → Int → Int → Int → Int → (Int → Option β) → Option β) (G : Nat)  (a0 : List Int) (a1 : Int) (a2 : Int) (a3 : Int) (K : TV → Option β) : evFn lay (VE34 N q_spec_l21One q_spec_l21Least_f q_spec_l21Least_l0 q_spec_l21Least_l2 G) Tryd.f34 [.v (.one (.sl 3 (.ints .i64 a0))), .v (.one (.int .i64 a1)), .v (.one (.int .i64 a2)), .v (.one (.int .i64 a3))] K = BV_spec_l21Least_b N q_spec_l21One q_spec_l21Least_l0 q_spec_l21Least_l2 (q_spec_l21Least_f G) a0 a1 a2 a3 (fun z4 => K (.v (.one (.int .i64 z4)))) := by kernel_rfl
theorem e34_0 {β : Type} (N : Nat) (G : Nat)  (a0 : List Int) (a1 : Int) (a2 : Int) (a3 : Int) (K : TV → Option β) : evFn lay (E34 N G) Tryd.f34 [.v (.one (.sl 3 (.ints .i64 a0))), .v (.one (.int .i64 a1)), .v (.one (.int .i64 a2)), .v (.one (.int .i64 a3))] K = spec_l21Least_f N (G + 1) a0 a1 a2 a3 (fun z4 => K (.v (.one (.int .i64 z4)))) := (ve34_0 N (spec_l21One N) (spec_l21Least_f N) (spec_l21Least_l0 N) (spec_l21Least_l2 N) G a0 a1 a2 a3 K).trans (t_spec_l21Least_b N (spec_l21Least_f N G) a0 a1 a2 a3 (fun z4 => K (.v (.one (.int .i64 z4))))).symm
theorem z34 {β : Type} (N : Nat) : ∀ args K r, SF34 (β := β) N 0 args K = some r → (none : Option β) = some r := by
  intro args K r h
  unfold SF34 VSF34 at h
  split at h <;> exact h
theorem of34 {β : Type} (N : Nat) : ∀ G, SpecOK (β := β) Tryd.prog 34 (SF34 N G) := by
  intro G
  induction G with
  | zero => exact s_zero Tryd.func34 (by kernel_rfl) (z34 N)
  | succ G ih =>
    refine spec_of lay_ok mixed (E := E34 N G) (specs_loops (specs_cons (o33 N) (specs_cons ih specs_nil))) muts_nil gs_nil Tryd.func34 (by kernel_rfl) 2 (by kernel_rfl) ⟨⟨trivial, rk34_0 N G⟩, rk34_2 N G⟩ fun args K r h => ?_
    unfold SF34 VSF34 at h
    split at h
    · exact (e34_0 N G _ _ _ _ _).trans h
    · cases h
theorem o34 {β : Type} (N : Nat) : SpecOK (β := β) Tryd.prog 34 (S34 N) := of34 N N
def VS19 {β : Type} (N : Nat) (q_spec_LeastBits : (a0 : Int) → (a1 : Int) → (a2 : Int) → (k : Int → Option β) → Option β) : Rv.Spec β := fun args K => match args with
  | [.v (.agg [.int .i64 a0, .int .i64 a1]), .v (.one (.int .i64 a2))] => q_spec_LeastBits a0 a1 a2 (fun z3 => K (.v (.one (.int .i64 z3))))
  | _ => none
def S19 {β : Type} (N : Nat) : Rv.Spec β := VS19 N (spec_LeastBits N)
def VE19 {β : Type} (N : Nat) (q_spec_l21Fine : (a0 : Int) → (a1 : Int) → (a2 : Int) → (k : Bool → Option β) → Option β) (q_spec_MatrixOf : (a0 : Int) → (a1 : Int) → (a2 : Int) → (k : List Int → Bool → Option β) → Option β) (q_spec_l21Least_f : Nat → List Int → Int → Int → Int → (Int → Option β) → Option β) : Env β := ⟨[(16, VS16 N q_spec_l21Fine), (17, VS17 N q_spec_MatrixOf), (34, VS34 N q_spec_l21Least_f)], [], [], []⟩
def E19 {β : Type} (N : Nat) : Env β := VE19 N (spec_l21Fine N) (spec_MatrixOf N) (spec_l21Least_f N)
def BV_spec_LeastBits {β : Type} (N : Nat) (q_spec_l21Fine : (a0 : Int) → (a1 : Int) → (a2 : Int) → (k : Bool → Option β) → Option β) (q_spec_MatrixOf : (a0 : Int) → (a1 : Int) → (a2 : Int) → (k : List Int → Bool → Option β) → Option β) (q_spec_l21Least_f : Nat → List Int → Int → Int → Int → (Int → Option β) → Option β) (a0 : Int) (a1 : Int) (a2 : Int) (k : Int → Option β) : Option β :=
q_spec_l21Fine a0 a1 a2 fun r4 =>
(cond (!r4)
(k (-1))
(q_spec_MatrixOf a0 a1 a2 fun r5 r6 =>
(gd ((decide (0 ≤ (r5.length : Int))))
((gd ((decide (0 ≤ (w64 (a0 - a2)))))
((gd ((decide (0 ≤ (shlI .u64 1 (w64 (a0 - a2))))))
(q_spec_l21Least_f N r5 ((w64 ((shlI .i64 1 (r5.length : Int)) - 1))) ((w64 ((shlI .i64 1 (shlI .u64 1 (w64 (a0 - a2)))) - 1))) 4 fun r7 =>
k r7))))))))
theorem t_spec_LeastBits {β : Type} (N : Nat) (a0 : Int) (a1 : Int) (a2 : Int) (k : Int → Option β) : spec_LeastBits N a0 a1 a2 k = BV_spec_LeastBits N (spec_l21Fine N) (spec_MatrixOf N) (spec_l21Least_f N) a0 a1 a2 k := by
  unfold spec_LeastBits BV_spec_LeastBits
  rfl
theorem ve19_0 {β : Type} (N : Nat) (q_spec_l21Fine : (a0 : Int) → (a1 : Int) → (a2 : Int) → (k : Bool → Option β) → Option β) (q_spec_MatrixOf : (a0 : Int) → (a1 : Int) → (a2 : Int) → (k : List Int → Bool → Option β) → Option β) (q_spec_l21Least_f : Nat → List Int → Int → Int → Int → (Int → Option β) → Option β)  (a0 : Int) (a1 : Int) (a2 : Int) (K : TV → Option β) : evFn lay (VE19 N q_spec_l21Fine q_spec_MatrixOf q_spec_l21Least_f) Tryd.f19 [.v (.agg [.int .i64 a0, .int .i64 a1]), .v (.one (.int .i64 a2))] K = BV_spec_LeastBits N q_spec_l21Fine q_spec_MatrixOf q_spec_l21Least_f a0 a1 a2 (fun z3 => K (.v (.one (.int .i64 z3)))) := by kernel_rfl
theorem e19_0 {β : Type} (N : Nat)  (a0 : Int) (a1 : Int) (a2 : Int) (K : TV → Option β) : evFn lay (E19 N) Tryd.f19 [.v (.agg [.int .i64 a0, .int .i64 a1]), .v (.one (.int .i64 a2))] K = spec_LeastBits N a0 a1 a2 (fun z3 => K (.v (.one (.int .i64 z3)))) := (ve19_0 N (spec_l21Fine N) (spec_MatrixOf N) (spec_l21Least_f N) a0 a1 a2 K).trans (t_spec_LeastBits N a0 a1 a2 (fun z3 => K (.v (.one (.int .i64 z3))))).symm
theorem o19 {β : Type} (N : Nat) : SpecOK (β := β) Tryd.prog 19 (S19 N) := by
  refine spec_of lay_ok mixed (E := E19 N) (specs_loops (specs_cons (o16 N) (specs_cons (o17 N) (specs_cons (o34 N) specs_nil)))) muts_nil gs_nil Tryd.func19 (by kernel_rfl) 0 (by kernel_rfl) trivial fun args K r h => ?_
  unfold S19 VS19 at h
  split at h
  · exact (e19_0 N _ _ _ _).trans h
  · cases h
def VS35 {β : Type} (N : Nat) (q_spec_l21Hex : (a0 : Int) → (k : ByteArray → Option β) → Option β) : Rv.Spec β := fun args K => match args with
  | [.v (.one (.int .i64 a0))] => q_spec_l21Hex a0 (fun z1 => K (.v (.one (.str z1))))
  | _ => none
def S35 {β : Type} (N : Nat) : Rv.Spec β := VS35 N (spec_l21Hex N)
def VE35 {β : Type} (N : Nat) : Env β := ⟨[], [], [], []⟩
def E35 {β : Type} (N : Nat) : Env β := VE35 N
def BV_spec_l21Hex {β : Type} (N : Nat) (a0 : Int) (k : ByteArray → Option β) : Option β :=
(gd ((decide (0 ≤ (w64 (a0 + 1)))))
((gd ((decide ((w64 (a0 + 1)) ≤ (((strOf [48, 49, 50, 51, 52, 53, 54, 55, 56, 57, 97, 98, 99, 100, 101, 102])).size : Int))))
((gd ((decide (0 ≤ a0)))
((gd ((decide (a0 ≤ (w64 (a0 + 1)))))
(k ((((strOf [48, 49, 50, 51, 52, 53, 54, 55, 56, 57, 97, 98, 99, 100, 101, 102])).extract (Int.toNat a0) (Int.toNat (w64 (a0 + 1)))))))))))))
theorem t_spec_l21Hex {β : Type} (N : Nat) (a0 : Int) (k : ByteArray → Option β) : spec_l21Hex N a0 k = BV_spec_l21Hex N a0 k := by
  unfold spec_l21Hex BV_spec_l21Hex
  rfl
theorem ve35_0 {β : Type} (N : Nat)  (a0 : Int) (K : TV → Option β) : evFn lay (VE35 N) Tryd.f35 [.v (.one (.int .i64 a0))] K = BV_spec_l21Hex N a0 (fun z1 => K (.v (.one (.str z1)))) := by kernel_rfl
theorem e35_0 {β : Type} (N : Nat)  (a0 : Int) (K : TV → Option β) : evFn lay (E35 N) Tryd.f35 [.v (.one (.int .i64 a0))] K = spec_l21Hex N a0 (fun z1 => K (.v (.one (.str z1)))) := (ve35_0 N a0 K).trans (t_spec_l21Hex N a0 (fun z1 => K (.v (.one (.str z1))))).symm
theorem o35 {β : Type} (N : Nat) : SpecOK (β := β) Tryd.prog 35 (S35 N) := by
  refine spec_of lay_ok mixed (E := E35 N) (specs_loops specs_nil) muts_nil gs_nil Tryd.func35 (by kernel_rfl) 0 (by kernel_rfl) trivial fun args K r h => ?_
  unfold S35 VS35 at h
  split at h
  · exact (e35_0 N _ _).trans h
  · cases h
end Go.Proofs.YtdkjnadhgdneaaaDoor
