/- The functions that the claims reach answer as their texts do. -/
import Derived.Test.YtddflpokemgnmaaGreatDoorE4
namespace Go.Proofs.YtddflpokemgnmaaGreatDoor
open Go.Rv
set_option maxRecDepth 100000
set_option maxHeartbeats 2000000
set_option linter.unusedVariables false
variable {β : Type}
def VS9 (N : Nat) (zq87 : (a0 : Int) → (a1 : List (Int × Int)) → (k : List (List Int) → Bool → O β) → O β) : Rv.Spec β := fun args K => match args with
  | [.v (.one (.int .i64 a0)), .v (.one (.sl 50 (.pairs a1)))] => zq87 a0 a1 (fun z2 z3 => K (.tup [.one (.sl 40 (.lists 3 z2)), .one (.bool z3)]))
  | _ => none
def S9 (N : Nat) : Rv.Spec β := VS9 N (zj87 N)
def h9_0_0  (v0 : Int) (v1 : List (Int × Int)) (v2 : Int) (v3 : List (List Int)) : St := ⟨.v (.one (.int .i64 v0)) :: .v (.one (.sl 50 (.pairs v1))) :: tund :: tund :: tund :: tund :: .v (.one (.row 0)) :: .v (.one (.int .i64 v2)) :: tund :: tund :: tund :: tund :: tund :: tund :: tund :: tund :: tund :: tund :: tund :: tund :: tund :: tund :: tund :: tund :: tund :: tund :: tund :: tund :: tund :: tund :: tund :: tund :: tund :: tund :: tund :: tund :: tund :: tund :: tund :: tund :: tund :: tund :: tund :: tund :: tund :: tund :: tund :: tund :: tund :: tund :: [], [.row 40 (.lists 3 v3)]⟩
def x9_0_0_k0  (y0 : List (List Int)) : St := ⟨tund :: tund :: tund :: tund :: tund :: tund :: .v (.one (.row 0)) :: tund :: tund :: tund :: tund :: tund :: tund :: tund :: tund :: tund :: tund :: tund :: tund :: tund :: tund :: tund :: tund :: tund :: tund :: tund :: tund :: tund :: tund :: tund :: tund :: tund :: tund :: tund :: tund :: tund :: tund :: tund :: tund :: tund :: tund :: tund :: tund :: tund :: tund :: tund :: tund :: tund :: tund :: tund :: [], [.row 40 (.lists 3 y0)]⟩
def h9_1_0  (v0 : Int) (v1 : List (Int × Int)) (v2 : Int) (v3 : Int) (v4 : List (List Int)) : St := ⟨.v (.one (.int .i64 v0)) :: .v (.one (.sl 50 (.pairs v1))) :: tund :: tund :: tund :: tund :: .v (.one (.row 0)) :: .v (.one (.int .i64 v2)) :: .v (.one (.int .i64 v3)) :: tund :: tund :: tund :: tund :: tund :: tund :: tund :: tund :: tund :: tund :: tund :: tund :: tund :: tund :: tund :: tund :: tund :: tund :: tund :: tund :: tund :: tund :: tund :: tund :: tund :: tund :: tund :: tund :: tund :: tund :: tund :: tund :: tund :: tund :: tund :: tund :: tund :: tund :: tund :: tund :: tund :: [], [.row 40 (.lists 3 v4)]⟩
def x9_1_0_k0  (y0 : Int) (y1 : List (Int × Int)) (y2 : Int) (y3 : List (List Int)) : St := ⟨.v (.one (.int .i64 y0)) :: .v (.one (.sl 50 (.pairs y1))) :: tund :: tund :: tund :: tund :: .v (.one (.row 0)) :: .v (.one (.int .i64 y2)) :: tund :: tund :: tund :: tund :: tund :: tund :: tund :: tund :: tund :: tund :: tund :: tund :: tund :: tund :: tund :: tund :: tund :: tund :: tund :: tund :: tund :: tund :: tund :: tund :: tund :: tund :: tund :: tund :: tund :: tund :: tund :: tund :: tund :: tund :: tund :: tund :: tund :: tund :: tund :: tund :: tund :: tund :: [], [.row 40 (.lists 3 y3)]⟩
theorem fl9_0_0 (s : St) : refSt (h9_0_0 0 [] 0 []) s = h9_0_0 (intS (oneA (vT (nx tund s.tmps 0)))) (rPairs (rowV (oneA (vT (nx tund s.tmps 1))))) (intS (oneA (vT (nx tund s.tmps 7)))) (rLists (rowB_ (nx .dead s.blks 0))) := by kernel_rfl
def VLS9_0 (N : Nat) (zq86 : Nat → Int → List (Int × Int) → Int → List (List Int) → (List (List Int) → O β) → O β) : LSpec β := fun s K => cond (shpSt (h9_0_0 0 [] 0 []) s) ((fun (v0 : Int) (v1 : List (Int × Int)) (v2 : Int) (v3 : List (List Int)) => zq86  N v0 v1 v2 v3 (fun y0 => K (.exit 0) (x9_0_0_k0  y0))) (intS (oneA (vT (nx tund s.tmps 0)))) (rPairs (rowV (oneA (vT (nx tund s.tmps 1))))) (intS (oneA (vT (nx tund s.tmps 7)))) (rLists (rowB_ (nx .dead s.blks 0)))) (none)
def LS9_0 (N : Nat) : LSpec β := VLS9_0 N (zj86 N)
theorem fl9_1_0 (s : St) : refSt (h9_1_0 0 [] 0 0 []) s = h9_1_0 (intS (oneA (vT (nx tund s.tmps 0)))) (rPairs (rowV (oneA (vT (nx tund s.tmps 1))))) (intS (oneA (vT (nx tund s.tmps 7)))) (intS (oneA (vT (nx tund s.tmps 8)))) (rLists (rowB_ (nx .dead s.blks 0))) := by kernel_rfl
def VLS9_2 (N : Nat) (zq84 : Nat → Int → List (Int × Int) → Int → Int → List (List Int) → (Int → List (Int × Int) → Int → List (List Int) → O β) → O β) : LSpec β := fun s K => cond (shpSt (h9_1_0 0 [] 0 0 []) s) ((fun (v0 : Int) (v1 : List (Int × Int)) (v2 : Int) (v3 : Int) (v4 : List (List Int)) => zq84  N v0 v1 v2 v3 v4 (fun y0 y1 y2 y3 => K (.exit 2) (x9_1_0_k0  y0 y1 y2 y3))) (intS (oneA (vT (nx tund s.tmps 0)))) (rPairs (rowV (oneA (vT (nx tund s.tmps 1))))) (intS (oneA (vT (nx tund s.tmps 7)))) (intS (oneA (vT (nx tund s.tmps 8)))) (rLists (rowB_ (nx .dead s.blks 0)))) (none)
def LS9_2 (N : Nat) : LSpec β := VLS9_2 N (zj84 N)
def VE9 (N : Nat) (zq79 : (a0 : Int) → (a1 : List (Int × Int)) → (k : Bool → O β) → O β) (zq82 : (a0 : List (Int × Int)) → (a1 : Int) → (a2 : Int) → (k : Bool → O β) → O β) (zq86 : Nat → Int → List (Int × Int) → Int → List (List Int) → (List (List Int) → O β) → O β) (zq84 : Nat → Int → List (Int × Int) → Int → Int → List (List Int) → (Int → List (Int × Int) → Int → List (List Int) → O β) → O β) : Env β := ⟨[(30, VS30 N zq79), (29, VS29 N zq82)], [], [(0, VLS9_0 N zq86), (2, VLS9_2 N zq84)], [], ⟨[], [], [], []⟩⟩
def E9 (N : Nat) : Env β := VE9 N (zj79 N) (zj82 N) (zj86 N) (zj84 N)
def zb85 (N : Nat) (zq84 : Nat → Int → List (Int × Int) → Int → Int → List (List Int) → (Int → List (Int × Int) → Int → List (List Int) → O β) → O β)  (v0 : Int) (v1 : List (Int × Int)) (v2 : Int) (v3 : List (List Int)) (rec_ : Int → List (Int × Int) → Int → List (List Int) → O β) (k0 : List (List Int) → O β) : O β :=
(gd ((decide (0 ≤ v0)))
((cond ((decide (v2 < (shlI .i64 1 v0))))
(zq84  N v0 v1 v2 0 v3 (fun e6_0 e6_1 e6_2 e6_3 =>
rec_ e6_0 e6_1 ((w64 (e6_2 + 1))) e6_3))
(k0 v3))))
theorem zt85 (N : Nat)  (v0 : Int) (v1 : List (Int × Int)) (v2 : Int) (v3 : List (List Int)) (rec_ : Int → List (Int × Int) → Int → List (List Int) → O β) (k0 : List (List Int) → O β) : zj85 N v0 v1 v2 v3 rec_ k0 = zb85 N (zj84 N) v0 v1 v2 v3 rec_ k0 := by
  unfold zj85 zb85
  rfl
theorem vst9_0_0 (N : Nat) (zq79 : (a0 : Int) → (a1 : List (Int × Int)) → (k : Bool → O β) → O β) (zq82 : (a0 : List (Int × Int)) → (a1 : Int) → (a2 : Int) → (k : Bool → O β) → O β) (zq86 : Nat → Int → List (Int × Int) → Int → List (List Int) → (List (List Int) → O β) → O β) (zq84 : Nat → Int → List (Int × Int) → Int → Int → List (List Int) → (Int → List (Int × Int) → Int → List (List Int) → O β) → O β)  (v0 : Int) (v1 : List (Int × Int)) (v2 : Int) (v3 : List (List Int)) (rec_ : St → O β) (K : Exit → St → O β) :
    ev lay (VE9 N zq79 zq82 zq86 zq84) (retMask Tryz.f9) (lp Tryz.f9 0).body (lp Tryz.f9 0).ex ((lp Tryz.f9 0).lv (retMask Tryz.f9)) (h9_0_0  v0 v1 v2 v3) (nextR (fun s' => rec_ (s'.tidy ((lp Tryz.f9 0).lv (retMask Tryz.f9)))) K) = zb85 N zq84  v0 v1 v2 v3 (fun v0 v1 v2 v3 => rec_ (h9_0_0  v0 v1 v2 v3)) (fun y0 => K (.exit 0) (x9_0_0_k0  y0)) := by kernel_rfl
theorem st9_0_0 (N : Nat)  (v0 : Int) (v1 : List (Int × Int)) (v2 : Int) (v3 : List (List Int)) (rec_ : St → O β) (K : Exit → St → O β) :
    ev lay (E9 N) (retMask Tryz.f9) (lp Tryz.f9 0).body (lp Tryz.f9 0).ex ((lp Tryz.f9 0).lv (retMask Tryz.f9)) (h9_0_0  v0 v1 v2 v3) (nextR (fun s' => rec_ (s'.tidy ((lp Tryz.f9 0).lv (retMask Tryz.f9)))) K) = zj85 N  v0 v1 v2 v3 (fun v0 v1 v2 v3 => rec_ (h9_0_0  v0 v1 v2 v3)) (fun y0 => K (.exit 0) (x9_0_0_k0  y0)) := (vst9_0_0 N (zj79 N) (zj82 N) (zj86 N) (zj84 N) v0 v1 v2 v3 rec_ K).trans (zt85 N  v0 v1 v2 v3 (fun v0 v1 v2 v3 => rec_ (h9_0_0  v0 v1 v2 v3)) (fun y0 => K (.exit 0) (x9_0_0_k0  y0))).symm
theorem ro9_0_0 (N : Nat)  (K : Exit → St → O β) : ∀ (F : Nat) (v0 : Int) (v1 : List (Int × Int)) (v2 : Int) (v3 : List (List Int)), (lp Tryz.f9 0).rounds lay (E9 N) (retMask Tryz.f9) F (h9_0_0  v0 v1 v2 v3) K = zj86 N  F v0 v1 v2 v3 (fun y0 => K (.exit 0) (x9_0_0_k0  y0)) := by
  intro F
  induction F with
  | zero => intros; rfl
  | succ F ih =>
    intros
    rw [rounds_next]
    refine (st9_0_0 N  _ _ _ _ (fun s => (lp Tryz.f9 0).rounds lay (E9 N) (retMask Tryz.f9) F s K) K).trans ?_
    simp only [ih]
    rfl
theorem lk9_0 (N : Nat) : lookL (E9 (β := β) N).loops (lp Tryz.f9 0).id = LS9_0 N := by kernel_rfl
theorem rk9_0 (N : Nat) : RoundsOK lay (E9 (β := β) N) (retMask Tryz.f9) (lp Tryz.f9 0) := by
  intro s K r h
  rw [lk9_0] at h
  unfold LS9_0 VLS9_0 at h
  cases hb : shpSt (h9_0_0 0 [] 0 []) s with
  | true =>
    rw [hb, cond_true] at h
    exact ⟨N, by rw [← shpSt_ref hb, fl9_0_0 s]; exact (ro9_0_0 N  K N (intS (oneA (vT (nx tund s.tmps 0)))) (rPairs (rowV (oneA (vT (nx tund s.tmps 1))))) (intS (oneA (vT (nx tund s.tmps 7)))) (rLists (rowB_ (nx .dead s.blks 0)))).trans h⟩
  | false =>
  rw [hb, cond_false] at h
  clear hb
  cases h
def zb83 (N : Nat) (zq82 : (a0 : List (Int × Int)) → (a1 : Int) → (a2 : Int) → (k : Bool → O β) → O β)  (v0 : Int) (v1 : List (Int × Int)) (v2 : Int) (v3 : Int) (v4 : List (List Int)) (rec_ : Int → List (Int × Int) → Int → Int → List (List Int) → O β) (k0 : Int → List (Int × Int) → Int → List (List Int) → O β) : O β :=
(cond ((decide (v3 < v0)))
((gd ((decide (0 ≤ v3)))
((cond (((bits .and .i64 (shrI .i64 v2 v3) 1) == 0))
((gd ((decide (0 ≤ v3)))
(zq82 v1 v2 ((bits .or .i64 v2 (shlI .i64 1 v3))) fun r5 =>
(cond r5
((gd ((decide (0 ≤ v3)))
((gd ((decide ((v4.length + ((([] : List (List Int)) ++ [((([] : List Int) ++ [v2]) ++ [(bits .or .i64 v2 (shlI .i64 1 v3))])])).length) * 24 ≤ 140737488355328)))
(rec_ v0 v1 v2 ((w64 (v3 + 1))) ((v4 ++ (([] : List (List Int)) ++ [((([] : List Int) ++ [v2]) ++ [(bits .or .i64 v2 (shlI .i64 1 v3))])]))))))))
(rec_ v0 v1 v2 ((w64 (v3 + 1))) v4)))))
(rec_ v0 v1 v2 ((w64 (v3 + 1))) v4)))))
(k0 v0 v1 v2 v4))
theorem zt83 (N : Nat)  (v0 : Int) (v1 : List (Int × Int)) (v2 : Int) (v3 : Int) (v4 : List (List Int)) (rec_ : Int → List (Int × Int) → Int → Int → List (List Int) → O β) (k0 : Int → List (Int × Int) → Int → List (List Int) → O β) : zj83 N v0 v1 v2 v3 v4 rec_ k0 = zb83 N (zj82 N) v0 v1 v2 v3 v4 rec_ k0 := by
  unfold zj83 zb83
  rfl
theorem vst9_1_0 (N : Nat) (zq79 : (a0 : Int) → (a1 : List (Int × Int)) → (k : Bool → O β) → O β) (zq82 : (a0 : List (Int × Int)) → (a1 : Int) → (a2 : Int) → (k : Bool → O β) → O β) (zq86 : Nat → Int → List (Int × Int) → Int → List (List Int) → (List (List Int) → O β) → O β) (zq84 : Nat → Int → List (Int × Int) → Int → Int → List (List Int) → (Int → List (Int × Int) → Int → List (List Int) → O β) → O β)  (v0 : Int) (v1 : List (Int × Int)) (v2 : Int) (v3 : Int) (v4 : List (List Int)) (rec_ : St → O β) (K : Exit → St → O β) :
    ev lay (VE9 N zq79 zq82 zq86 zq84) (retMask Tryz.f9) (lp Tryz.f9 1).body (lp Tryz.f9 1).ex ((lp Tryz.f9 1).lv (retMask Tryz.f9)) (h9_1_0  v0 v1 v2 v3 v4) (nextR (fun s' => rec_ (s'.tidy ((lp Tryz.f9 1).lv (retMask Tryz.f9)))) K) = zb83 N zq82  v0 v1 v2 v3 v4 (fun v0 v1 v2 v3 v4 => rec_ (h9_1_0  v0 v1 v2 v3 v4)) (fun y0 y1 y2 y3 => K (.exit 2) (x9_1_0_k0  y0 y1 y2 y3)) := by kernel_rfl
theorem st9_1_0 (N : Nat)  (v0 : Int) (v1 : List (Int × Int)) (v2 : Int) (v3 : Int) (v4 : List (List Int)) (rec_ : St → O β) (K : Exit → St → O β) :
    ev lay (E9 N) (retMask Tryz.f9) (lp Tryz.f9 1).body (lp Tryz.f9 1).ex ((lp Tryz.f9 1).lv (retMask Tryz.f9)) (h9_1_0  v0 v1 v2 v3 v4) (nextR (fun s' => rec_ (s'.tidy ((lp Tryz.f9 1).lv (retMask Tryz.f9)))) K) = zj83 N  v0 v1 v2 v3 v4 (fun v0 v1 v2 v3 v4 => rec_ (h9_1_0  v0 v1 v2 v3 v4)) (fun y0 y1 y2 y3 => K (.exit 2) (x9_1_0_k0  y0 y1 y2 y3)) := (vst9_1_0 N (zj79 N) (zj82 N) (zj86 N) (zj84 N) v0 v1 v2 v3 v4 rec_ K).trans (zt83 N  v0 v1 v2 v3 v4 (fun v0 v1 v2 v3 v4 => rec_ (h9_1_0  v0 v1 v2 v3 v4)) (fun y0 y1 y2 y3 => K (.exit 2) (x9_1_0_k0  y0 y1 y2 y3))).symm
theorem ro9_1_0 (N : Nat)  (K : Exit → St → O β) : ∀ (F : Nat) (v0 : Int) (v1 : List (Int × Int)) (v2 : Int) (v3 : Int) (v4 : List (List Int)), (lp Tryz.f9 1).rounds lay (E9 N) (retMask Tryz.f9) F (h9_1_0  v0 v1 v2 v3 v4) K = zj84 N  F v0 v1 v2 v3 v4 (fun y0 y1 y2 y3 => K (.exit 2) (x9_1_0_k0  y0 y1 y2 y3)) := by
  intro F
  induction F with
  | zero => intros; rfl
  | succ F ih =>
    intros
    rw [rounds_next]
    refine (st9_1_0 N  _ _ _ _ _ (fun s => (lp Tryz.f9 1).rounds lay (E9 N) (retMask Tryz.f9) F s K) K).trans ?_
    simp only [ih]
    rfl
theorem lk9_2 (N : Nat) : lookL (E9 (β := β) N).loops (lp Tryz.f9 1).id = LS9_2 N := by kernel_rfl
theorem rk9_2 (N : Nat) : RoundsOK lay (E9 (β := β) N) (retMask Tryz.f9) (lp Tryz.f9 1) := by
  intro s K r h
  rw [lk9_2] at h
  unfold LS9_2 VLS9_2 at h
  cases hb : shpSt (h9_1_0 0 [] 0 0 []) s with
  | true =>
    rw [hb, cond_true] at h
    exact ⟨N, by rw [← shpSt_ref hb, fl9_1_0 s]; exact (ro9_1_0 N  K N (intS (oneA (vT (nx tund s.tmps 0)))) (rPairs (rowV (oneA (vT (nx tund s.tmps 1))))) (intS (oneA (vT (nx tund s.tmps 7)))) (intS (oneA (vT (nx tund s.tmps 8)))) (rLists (rowB_ (nx .dead s.blks 0)))).trans h⟩
  | false =>
  rw [hb, cond_false] at h
  clear hb
  cases h
def zb87 (N : Nat) (zq79 : (a0 : Int) → (a1 : List (Int × Int)) → (k : Bool → O β) → O β) (zq86 : Nat → Int → List (Int × Int) → Int → List (List Int) → (List (List Int) → O β) → O β) (a0 : Int) (a1 : List (Int × Int)) (k : List (List Int) → Bool → O β) : O β :=
zq79 a0 a1 fun r4 =>
(cond (!r4)
(k (([] : List (List Int))) false)
(zq86  N a0 a1 0 (([] : List (List Int))) (fun e7_0 =>
k e7_0 true)))
theorem zt87 (N : Nat) (a0 : Int) (a1 : List (Int × Int)) (k : List (List Int) → Bool → O β) : zj87 N a0 a1 k = zb87 N (zj79 N) (zj86 N) a0 a1 k := by
  unfold zj87 zb87
  rfl
theorem ve9_0 (N : Nat) (zq79 : (a0 : Int) → (a1 : List (Int × Int)) → (k : Bool → O β) → O β) (zq82 : (a0 : List (Int × Int)) → (a1 : Int) → (a2 : Int) → (k : Bool → O β) → O β) (zq86 : Nat → Int → List (Int × Int) → Int → List (List Int) → (List (List Int) → O β) → O β) (zq84 : Nat → Int → List (Int × Int) → Int → Int → List (List Int) → (Int → List (Int × Int) → Int → List (List Int) → O β) → O β)  (a0 : Int) (a1 : List (Int × Int)) (K : TV → O β) : evFn lay (VE9 N zq79 zq82 zq86 zq84) Tryz.f9 [.v (.one (.int .i64 a0)), .v (.one (.sl 50 (.pairs a1)))] K = zb87 N zq79 zq86 a0 a1 (fun z2 z3 => K (.tup [.one (.sl 40 (.lists 3 z2)), .one (.bool z3)])) := by kernel_rfl
theorem e9_0 (N : Nat)  (a0 : Int) (a1 : List (Int × Int)) (K : TV → O β) : evFn lay (E9 N) Tryz.f9 [.v (.one (.int .i64 a0)), .v (.one (.sl 50 (.pairs a1)))] K = zj87 N a0 a1 (fun z2 z3 => K (.tup [.one (.sl 40 (.lists 3 z2)), .one (.bool z3)])) := (ve9_0 N (zj79 N) (zj82 N) (zj86 N) (zj84 N) a0 a1 K).trans (zt87 N a0 a1 (fun z2 z3 => K (.tup [.one (.sl 40 (.lists 3 z2)), .one (.bool z3)]))).symm
theorem o9 (N : Nat) : SpecOK (β := β) inv Tryz.prog 9 (S9 N) := by
  refine spec_of lay_ok mixed (E := E9 N) (specs_loops (specs_cons (o30 N) (specs_cons (o29 N) specs_nil))) muts_nil gs_nil Tryz.func9 (by kernel_rfl) 2 (by kernel_rfl) ⟨⟨trivial, rk9_0 N⟩, rk9_2 N⟩ fun args K r h => ?_
  unfold S9 VS9 at h
  split at h
  · exact (e9_0 N _ _ _).trans h
  · cases h
def VS7 (N : Nat) (zq90 : (a0 : Int) → (a1 : List (Int × Int)) → (k : List (Int × Int) → Bool → O β) → O β) : Rv.Spec β := fun args K => match args with
  | [.v (.one (.int .i64 a0)), .v (.one (.sl 50 (.pairs a1)))] => zq90 a0 a1 (fun z2 z3 => K (.tup [.one (.sl 50 (.pairs z2)), .one (.bool z3)]))
  | _ => none
def S7 (N : Nat) : Rv.Spec β := VS7 N (zj90 N)
def h7_0_0  (v0 : Int) (v1 : Int) (v2 : List (List Int)) (v3 : List (Int × Int)) : St := ⟨.v (.one (.int .i64 v0)) :: tund :: tund :: tund :: tund :: tund :: .v (.one (.row 0)) :: tund :: .v (.one (.row 1)) :: .v (.one (.int .i64 v1)) :: tund :: tund :: tund :: tund :: tund :: tund :: tund :: tund :: tund :: tund :: tund :: tund :: tund :: tund :: tund :: tund :: tund :: tund :: tund :: tund :: tund :: tund :: tund :: tund :: tund :: tund :: tund :: tund :: tund :: tund :: tund :: tund :: tund :: tund :: tund :: tund :: tund :: tund :: tund :: tund :: tund :: tund :: tund :: tund :: tund :: tund :: tund :: tund :: tund :: tund :: tund :: tund :: tund :: tund :: tund :: tund :: tund :: tund :: tund :: tund :: tund :: tund :: tund :: tund :: [], [.row 40 (.lists 3 v2), .row 50 (.pairs v3)]⟩
def x7_0_0_k0  (y0 : List (Int × Int)) : St := ⟨tund :: tund :: tund :: tund :: tund :: tund :: tund :: tund :: .v (.one (.row 0)) :: tund :: tund :: tund :: tund :: tund :: tund :: tund :: tund :: tund :: tund :: tund :: tund :: tund :: tund :: tund :: tund :: tund :: tund :: tund :: tund :: tund :: tund :: tund :: tund :: tund :: tund :: tund :: tund :: tund :: tund :: tund :: tund :: tund :: tund :: tund :: tund :: tund :: tund :: tund :: tund :: tund :: tund :: tund :: tund :: tund :: tund :: tund :: tund :: tund :: tund :: tund :: tund :: tund :: tund :: tund :: tund :: tund :: tund :: tund :: tund :: tund :: tund :: tund :: tund :: tund :: [], [.row 50 (.pairs y0)]⟩
theorem fl7_0_0 (s : St) : refSt (h7_0_0 0 0 [] []) s = h7_0_0 (intS (oneA (vT (nx tund s.tmps 0)))) (intS (oneA (vT (nx tund s.tmps 9)))) (rLists (rowB_ (nx .dead s.blks 0))) (rPairs (rowB_ (nx .dead s.blks 1))) := by kernel_rfl
def VLS7_0 (N : Nat) (zq89 : Nat → Int → Int → List (List Int) → List (Int × Int) → (List (Int × Int) → O β) → O β) : LSpec β := fun s K => cond (shpSt (h7_0_0 0 0 [] []) s) ((fun (v0 : Int) (v1 : Int) (v2 : List (List Int)) (v3 : List (Int × Int)) => zq89  N v0 v1 v2 v3 (fun y0 => K (.exit 0) (x7_0_0_k0  y0))) (intS (oneA (vT (nx tund s.tmps 0)))) (intS (oneA (vT (nx tund s.tmps 9)))) (rLists (rowB_ (nx .dead s.blks 0))) (rPairs (rowB_ (nx .dead s.blks 1)))) (none)
def LS7_0 (N : Nat) : LSpec β := VLS7_0 N (zj89 N)
def VE7 (N : Nat) (zq87 : (a0 : Int) → (a1 : List (Int × Int)) → (k : List (List Int) → Bool → O β) → O β) (zq82 : (a0 : List (Int × Int)) → (a1 : Int) → (a2 : Int) → (k : Bool → O β) → O β) (zq89 : Nat → Int → Int → List (List Int) → List (Int × Int) → (List (Int × Int) → O β) → O β) : Env β := ⟨[(9, VS9 N zq87), (29, VS29 N zq82)], [], [(0, VLS7_0 N zq89)], [], ⟨[], [], [], []⟩⟩
def E7 (N : Nat) : Env β := VE7 N (zj87 N) (zj82 N) (zj89 N)
def zb88 (N : Nat) (zq82 : (a0 : List (Int × Int)) → (a1 : Int) → (a2 : Int) → (k : Bool → O β) → O β)  (v0 : Int) (v1 : Int) (v2 : List (List Int)) (v3 : List (Int × Int)) (rec_ : Int → Int → List (List Int) → List (Int × Int) → O β) (k0 : List (Int × Int) → O β) : O β :=
(cond ((decide (v1 < (v2.length : Int))))
((gd ((decide (0 ≤ v1)))
((gd ((decide (v1 < (v2.length : Int))))
((gd ((decide (0 < (((rd [] v2 v1)).length : Int))))
((gd ((decide (0 ≤ v1)))
((gd ((decide (v1 < (v2.length : Int))))
((gd ((decide (1 < (((rd [] v2 v1)).length : Int))))
(zq82 v3 ((rd 0 ((rd [] v2 v1)) 0)) ((rd 0 ((rd [] v2 v1)) 1)) fun r6 =>
(cond r6
((gd ((decide (0 ≤ v0)))
((gd ((decide (0 ≤ v1)))
((gd ((decide (v1 < (v2.length : Int))))
((gd ((decide (1 < (((rd [] v2 v1)).length : Int))))
((gd ((decide (0 ≤ v1)))
((gd ((decide (v1 < (v2.length : Int))))
((gd ((decide (0 < (((rd [] v2 v1)).length : Int))))
((gd ((decide (0 ≤ v1)))
((gd ((decide (v1 < (v2.length : Int))))
((gd ((decide (0 < (((rd [] v2 v1)).length : Int))))
((gd ((decide ((v3.length + ((([] : List (Int × Int)) ++ [((w64 ((w64 ((shlI .i64 1 v0) - 1)) - (w64 ((rd 0 ((rd [] v2 v1)) 1) - (rd 0 ((rd [] v2 v1)) 0))))), (bits .and .i64 (rd 0 ((rd [] v2 v1)) 0) (w64 ((w64 ((shlI .i64 1 v0) - 1)) - (w64 ((rd 0 ((rd [] v2 v1)) 1) - (rd 0 ((rd [] v2 v1)) 0)))))))])).length) * 16 ≤ 140737488355328)))
(rec_ v0 ((w64 (v1 + 1))) v2 ((v3 ++ (([] : List (Int × Int)) ++ [((w64 ((w64 ((shlI .i64 1 v0) - 1)) - (w64 ((rd 0 ((rd [] v2 v1)) 1) - (rd 0 ((rd [] v2 v1)) 0))))), (bits .and .i64 (rd 0 ((rd [] v2 v1)) 0) (w64 ((w64 ((shlI .i64 1 v0) - 1)) - (w64 ((rd 0 ((rd [] v2 v1)) 1) - (rd 0 ((rd [] v2 v1)) 0)))))))]))))))))))))))))))))))))))
(rec_ v0 ((w64 (v1 + 1))) v2 v3)))))))))))))))
(k0 v3))
theorem zt88 (N : Nat)  (v0 : Int) (v1 : Int) (v2 : List (List Int)) (v3 : List (Int × Int)) (rec_ : Int → Int → List (List Int) → List (Int × Int) → O β) (k0 : List (Int × Int) → O β) : zj88 N v0 v1 v2 v3 rec_ k0 = zb88 N (zj82 N) v0 v1 v2 v3 rec_ k0 := by
  unfold zj88 zb88
  rfl
theorem vst7_0_0 (N : Nat) (zq87 : (a0 : Int) → (a1 : List (Int × Int)) → (k : List (List Int) → Bool → O β) → O β) (zq82 : (a0 : List (Int × Int)) → (a1 : Int) → (a2 : Int) → (k : Bool → O β) → O β) (zq89 : Nat → Int → Int → List (List Int) → List (Int × Int) → (List (Int × Int) → O β) → O β)  (v0 : Int) (v1 : Int) (v2 : List (List Int)) (v3 : List (Int × Int)) (rec_ : St → O β) (K : Exit → St → O β) :
    ev lay (VE7 N zq87 zq82 zq89) (retMask Tryz.f7) (lp Tryz.f7 0).body (lp Tryz.f7 0).ex ((lp Tryz.f7 0).lv (retMask Tryz.f7)) (h7_0_0  v0 v1 v2 v3) (nextR (fun s' => rec_ (s'.tidy ((lp Tryz.f7 0).lv (retMask Tryz.f7)))) K) = zb88 N zq82  v0 v1 v2 v3 (fun v0 v1 v2 v3 => rec_ (h7_0_0  v0 v1 v2 v3)) (fun y0 => K (.exit 0) (x7_0_0_k0  y0)) := by kernel_rfl
theorem st7_0_0 (N : Nat)  (v0 : Int) (v1 : Int) (v2 : List (List Int)) (v3 : List (Int × Int)) (rec_ : St → O β) (K : Exit → St → O β) :
    ev lay (E7 N) (retMask Tryz.f7) (lp Tryz.f7 0).body (lp Tryz.f7 0).ex ((lp Tryz.f7 0).lv (retMask Tryz.f7)) (h7_0_0  v0 v1 v2 v3) (nextR (fun s' => rec_ (s'.tidy ((lp Tryz.f7 0).lv (retMask Tryz.f7)))) K) = zj88 N  v0 v1 v2 v3 (fun v0 v1 v2 v3 => rec_ (h7_0_0  v0 v1 v2 v3)) (fun y0 => K (.exit 0) (x7_0_0_k0  y0)) := (vst7_0_0 N (zj87 N) (zj82 N) (zj89 N) v0 v1 v2 v3 rec_ K).trans (zt88 N  v0 v1 v2 v3 (fun v0 v1 v2 v3 => rec_ (h7_0_0  v0 v1 v2 v3)) (fun y0 => K (.exit 0) (x7_0_0_k0  y0))).symm
theorem ro7_0_0 (N : Nat)  (K : Exit → St → O β) : ∀ (F : Nat) (v0 : Int) (v1 : Int) (v2 : List (List Int)) (v3 : List (Int × Int)), (lp Tryz.f7 0).rounds lay (E7 N) (retMask Tryz.f7) F (h7_0_0  v0 v1 v2 v3) K = zj89 N  F v0 v1 v2 v3 (fun y0 => K (.exit 0) (x7_0_0_k0  y0)) := by
  intro F
  induction F with
  | zero => intros; rfl
  | succ F ih =>
    intros
    rw [rounds_next]
    refine (st7_0_0 N  _ _ _ _ (fun s => (lp Tryz.f7 0).rounds lay (E7 N) (retMask Tryz.f7) F s K) K).trans ?_
    simp only [ih]
    rfl
theorem lk7_0 (N : Nat) : lookL (E7 (β := β) N).loops (lp Tryz.f7 0).id = LS7_0 N := by kernel_rfl
theorem rk7_0 (N : Nat) : RoundsOK lay (E7 (β := β) N) (retMask Tryz.f7) (lp Tryz.f7 0) := by
  intro s K r h
  rw [lk7_0] at h
  unfold LS7_0 VLS7_0 at h
  cases hb : shpSt (h7_0_0 0 0 [] []) s with
  | true =>
    rw [hb, cond_true] at h
    exact ⟨N, by rw [← shpSt_ref hb, fl7_0_0 s]; exact (ro7_0_0 N  K N (intS (oneA (vT (nx tund s.tmps 0)))) (intS (oneA (vT (nx tund s.tmps 9)))) (rLists (rowB_ (nx .dead s.blks 0))) (rPairs (rowB_ (nx .dead s.blks 1)))).trans h⟩
  | false =>
  rw [hb, cond_false] at h
  clear hb
  cases h
def zb90 (N : Nat) (zq87 : (a0 : Int) → (a1 : List (Int × Int)) → (k : List (List Int) → Bool → O β) → O β) (zq89 : Nat → Int → Int → List (List Int) → List (Int × Int) → (List (Int × Int) → O β) → O β) (a0 : Int) (a1 : List (Int × Int)) (k : List (Int × Int) → Bool → O β) : O β :=
zq87 a0 a1 fun r4 r5 =>
(cond (!r5)
(k (([] : List (Int × Int))) false)
((gd ((decide (((([] : List (Int × Int))).length + a1.length) * 16 ≤ 140737488355328)))
(zq89  N a0 0 r4 ((([] : List (Int × Int)) ++ a1)) (fun e7_0 =>
k e7_0 true)))))
theorem zt90 (N : Nat) (a0 : Int) (a1 : List (Int × Int)) (k : List (Int × Int) → Bool → O β) : zj90 N a0 a1 k = zb90 N (zj87 N) (zj89 N) a0 a1 k := by
  unfold zj90 zb90
  rfl
theorem ve7_0 (N : Nat) (zq87 : (a0 : Int) → (a1 : List (Int × Int)) → (k : List (List Int) → Bool → O β) → O β) (zq82 : (a0 : List (Int × Int)) → (a1 : Int) → (a2 : Int) → (k : Bool → O β) → O β) (zq89 : Nat → Int → Int → List (List Int) → List (Int × Int) → (List (Int × Int) → O β) → O β)  (a0 : Int) (a1 : List (Int × Int)) (K : TV → O β) : evFn lay (VE7 N zq87 zq82 zq89) Tryz.f7 [.v (.one (.int .i64 a0)), .v (.one (.sl 50 (.pairs a1)))] K = zb90 N zq87 zq89 a0 a1 (fun z2 z3 => K (.tup [.one (.sl 50 (.pairs z2)), .one (.bool z3)])) := by kernel_rfl
theorem e7_0 (N : Nat)  (a0 : Int) (a1 : List (Int × Int)) (K : TV → O β) : evFn lay (E7 N) Tryz.f7 [.v (.one (.int .i64 a0)), .v (.one (.sl 50 (.pairs a1)))] K = zj90 N a0 a1 (fun z2 z3 => K (.tup [.one (.sl 50 (.pairs z2)), .one (.bool z3)])) := (ve7_0 N (zj87 N) (zj82 N) (zj89 N) a0 a1 K).trans (zt90 N a0 a1 (fun z2 z3 => K (.tup [.one (.sl 50 (.pairs z2)), .one (.bool z3)]))).symm
theorem o7 (N : Nat) : SpecOK (β := β) inv Tryz.prog 7 (S7 N) := by
  refine spec_of lay_ok mixed (E := E7 N) (specs_loops (specs_cons (o9 N) (specs_cons (o29 N) specs_nil))) muts_nil gs_nil Tryz.func7 (by kernel_rfl) 1 (by kernel_rfl) ⟨trivial, rk7_0 N⟩ fun args K r h => ?_
  unfold S7 VS7 at h
  split at h
  · exact (e7_0 N _ _ _).trans h
  · cases h
def VS8 (N : Nat) (zq91 : (a0 : Int) → (a1 : List (Int × Int)) → (k : List (List Int) → Bool → O β) → O β) : Rv.Spec β := fun args K => match args with
  | [.v (.one (.int .i64 a0)), .v (.one (.sl 50 (.pairs a1)))] => zq91 a0 a1 (fun z2 z3 => K (.tup [.one (.sl 40 (.lists 3 z2)), .one (.bool z3)]))
  | _ => none
def S8 (N : Nat) : Rv.Spec β := VS8 N (zj91 N)
def VE8 (N : Nat) (zq64 : (a0 : Int) → (a1 : List (Int × Int)) → (k : Bool → O β) → O β) (zq72 : (a0 : Int) → (a1 : List (Int × Int)) → (k : List (List Int) → O β) → O β) : Env β := ⟨[(25, VS25 N zq64), (27, VS27 N zq72)], [], [], [], ⟨[], [], [], []⟩⟩
def E8 (N : Nat) : Env β := VE8 N (zj64 N) (zj72 N)
def zb91 (N : Nat) (zq64 : (a0 : Int) → (a1 : List (Int × Int)) → (k : Bool → O β) → O β) (zq72 : (a0 : Int) → (a1 : List (Int × Int)) → (k : List (List Int) → O β) → O β) (a0 : Int) (a1 : List (Int × Int)) (k : List (List Int) → Bool → O β) : O β :=
zq64 a0 a1 fun r4 =>
(cond (!r4)
(k (([] : List (List Int))) false)
(zq72 a0 a1 fun r5 =>
k r5 true))
theorem zt91 (N : Nat) (a0 : Int) (a1 : List (Int × Int)) (k : List (List Int) → Bool → O β) : zj91 N a0 a1 k = zb91 N (zj64 N) (zj72 N) a0 a1 k := by
  unfold zj91 zb91
  rfl
theorem ve8_0 (N : Nat) (zq64 : (a0 : Int) → (a1 : List (Int × Int)) → (k : Bool → O β) → O β) (zq72 : (a0 : Int) → (a1 : List (Int × Int)) → (k : List (List Int) → O β) → O β)  (a0 : Int) (a1 : List (Int × Int)) (K : TV → O β) : evFn lay (VE8 N zq64 zq72) Tryz.f8 [.v (.one (.int .i64 a0)), .v (.one (.sl 50 (.pairs a1)))] K = zb91 N zq64 zq72 a0 a1 (fun z2 z3 => K (.tup [.one (.sl 40 (.lists 3 z2)), .one (.bool z3)])) := by kernel_rfl
theorem e8_0 (N : Nat)  (a0 : Int) (a1 : List (Int × Int)) (K : TV → O β) : evFn lay (E8 N) Tryz.f8 [.v (.one (.int .i64 a0)), .v (.one (.sl 50 (.pairs a1)))] K = zj91 N a0 a1 (fun z2 z3 => K (.tup [.one (.sl 40 (.lists 3 z2)), .one (.bool z3)])) := (ve8_0 N (zj64 N) (zj72 N) a0 a1 K).trans (zt91 N a0 a1 (fun z2 z3 => K (.tup [.one (.sl 40 (.lists 3 z2)), .one (.bool z3)]))).symm
theorem o8 (N : Nat) : SpecOK (β := β) inv Tryz.prog 8 (S8 N) := by
  refine spec_of lay_ok mixed (E := E8 N) (specs_loops (specs_cons (o25 N) (specs_cons (o27 N) specs_nil))) muts_nil gs_nil Tryz.func8 (by kernel_rfl) 0 (by kernel_rfl) trivial fun args K r h => ?_
  unfold S8 VS8 at h
  split at h
  · exact (e8_0 N _ _ _).trans h
  · cases h
def VS10 (N : Nat) (zq94 : (a0 : List (Int × Int)) → (a1 : List (Int × Int)) → (k : Bool → O β) → O β) : Rv.Spec β := fun args K => match args with
  | [.v (.one (.sl 50 (.pairs a0))), .v (.one (.sl 50 (.pairs a1)))] => zq94 a0 a1 (fun z2 => K (.v (.one (.bool z2))))
  | _ => none
def S10 (N : Nat) : Rv.Spec β := VS10 N (zj94 N)
def h10_0_0  (v0 : List (Int × Int)) (v1 : List (Int × Int)) (v2 : Int) : St := ⟨.v (.one (.sl 50 (.pairs v0))) :: .v (.one (.sl 50 (.pairs v1))) :: tund :: tund :: tund :: .v (.one (.int .i64 v2)) :: tund :: tund :: tund :: tund :: tund :: tund :: tund :: tund :: tund :: tund :: tund :: tund :: tund :: tund :: tund :: tund :: tund :: tund :: tund :: tund :: [], []⟩
def x10_0_0_k0  (y0 : Bool) : St := ⟨tund :: tund :: tund :: tund :: .v (.one (.bool y0)) :: tund :: tund :: tund :: tund :: tund :: tund :: tund :: tund :: tund :: tund :: tund :: tund :: tund :: tund :: tund :: tund :: tund :: tund :: tund :: tund :: tund :: [], []⟩
def x10_0_0_k1   : St := ⟨tund :: tund :: tund :: tund :: tund :: tund :: tund :: tund :: tund :: tund :: tund :: tund :: tund :: tund :: tund :: tund :: tund :: tund :: tund :: tund :: tund :: tund :: tund :: tund :: tund :: tund :: [], []⟩
theorem fl10_0_0 (s : St) : refSt (h10_0_0 [] [] 0) s = h10_0_0 (rPairs (rowV (oneA (vT (nx tund s.tmps 0))))) (rPairs (rowV (oneA (vT (nx tund s.tmps 1))))) (intS (oneA (vT (nx tund s.tmps 5)))) := by kernel_rfl
def VLS10_0 (N : Nat) (zq93 : Nat → List (Int × Int) → List (Int × Int) → Int → (Bool → O β) → (O β) → O β) : LSpec β := fun s K => cond (shpSt (h10_0_0 [] [] 0) s) ((fun (v0 : List (Int × Int)) (v1 : List (Int × Int)) (v2 : Int) => zq93  N v0 v1 v2 (fun y0 => K .ret (x10_0_0_k0  y0)) (K (.exit 0) (x10_0_0_k1  ))) (rPairs (rowV (oneA (vT (nx tund s.tmps 0))))) (rPairs (rowV (oneA (vT (nx tund s.tmps 1))))) (intS (oneA (vT (nx tund s.tmps 5))))) (none)
def LS10_0 (N : Nat) : LSpec β := VLS10_0 N (zj93 N)
def VE10 (N : Nat) (zq93 : Nat → List (Int × Int) → List (Int × Int) → Int → (Bool → O β) → (O β) → O β) : Env β := ⟨[], [], [(0, VLS10_0 N zq93)], [], ⟨[], [], [], []⟩⟩
def E10 (N : Nat) : Env β := VE10 N (zj93 N)
def zb92 (N : Nat)  (v0 : List (Int × Int)) (v1 : List (Int × Int)) (v2 : Int) (rec_ : List (Int × Int) → List (Int × Int) → Int → O β) (k0 : Bool → O β) (k1 : O β) : O β :=
(cond ((decide (v2 < (v0.length : Int))))
((gd ((decide (0 ≤ v2)))
((gd ((decide (v2 < (v0.length : Int))))
((gd ((decide (0 ≤ v2)))
((gd ((decide (v2 < (v1.length : Int))))
((cond ((!(((rd (0, 0) v0 v2).1 == (rd (0, 0) v1 v2).1) && ((rd (0, 0) v0 v2).2 == (rd (0, 0) v1 v2).2))))
(k0 false)
(rec_ v0 v1 ((w64 (v2 + 1))))))))))))))
(k1 ))
theorem zt92 (N : Nat)  (v0 : List (Int × Int)) (v1 : List (Int × Int)) (v2 : Int) (rec_ : List (Int × Int) → List (Int × Int) → Int → O β) (k0 : Bool → O β) (k1 : O β) : zj92 N v0 v1 v2 rec_ k0 k1 = zb92 N v0 v1 v2 rec_ k0 k1 := by
  unfold zj92 zb92
  rfl
theorem vst10_0_0 (N : Nat) (zq93 : Nat → List (Int × Int) → List (Int × Int) → Int → (Bool → O β) → (O β) → O β)  (v0 : List (Int × Int)) (v1 : List (Int × Int)) (v2 : Int) (rec_ : St → O β) (K : Exit → St → O β) :
    ev lay (VE10 N zq93) (retMask Tryz.f10) (lp Tryz.f10 0).body (lp Tryz.f10 0).ex ((lp Tryz.f10 0).lv (retMask Tryz.f10)) (h10_0_0  v0 v1 v2) (nextR (fun s' => rec_ (s'.tidy ((lp Tryz.f10 0).lv (retMask Tryz.f10)))) K) = zb92 N  v0 v1 v2 (fun v0 v1 v2 => rec_ (h10_0_0  v0 v1 v2)) (fun y0 => K .ret (x10_0_0_k0  y0)) (K (.exit 0) (x10_0_0_k1  )) := by kernel_rfl
theorem st10_0_0 (N : Nat)  (v0 : List (Int × Int)) (v1 : List (Int × Int)) (v2 : Int) (rec_ : St → O β) (K : Exit → St → O β) :
    ev lay (E10 N) (retMask Tryz.f10) (lp Tryz.f10 0).body (lp Tryz.f10 0).ex ((lp Tryz.f10 0).lv (retMask Tryz.f10)) (h10_0_0  v0 v1 v2) (nextR (fun s' => rec_ (s'.tidy ((lp Tryz.f10 0).lv (retMask Tryz.f10)))) K) = zj92 N  v0 v1 v2 (fun v0 v1 v2 => rec_ (h10_0_0  v0 v1 v2)) (fun y0 => K .ret (x10_0_0_k0  y0)) (K (.exit 0) (x10_0_0_k1  )) := (vst10_0_0 N (zj93 N) v0 v1 v2 rec_ K).trans (zt92 N  v0 v1 v2 (fun v0 v1 v2 => rec_ (h10_0_0  v0 v1 v2)) (fun y0 => K .ret (x10_0_0_k0  y0)) (K (.exit 0) (x10_0_0_k1  ))).symm
theorem ro10_0_0 (N : Nat)  (K : Exit → St → O β) : ∀ (F : Nat) (v0 : List (Int × Int)) (v1 : List (Int × Int)) (v2 : Int), (lp Tryz.f10 0).rounds lay (E10 N) (retMask Tryz.f10) F (h10_0_0  v0 v1 v2) K = zj93 N  F v0 v1 v2 (fun y0 => K .ret (x10_0_0_k0  y0)) (K (.exit 0) (x10_0_0_k1  )) := by
  intro F
  induction F with
  | zero => intros; rfl
  | succ F ih =>
    intros
    rw [rounds_next]
    refine (st10_0_0 N  _ _ _ (fun s => (lp Tryz.f10 0).rounds lay (E10 N) (retMask Tryz.f10) F s K) K).trans ?_
    simp only [ih]
    rfl
theorem lk10_0 (N : Nat) : lookL (E10 (β := β) N).loops (lp Tryz.f10 0).id = LS10_0 N := by kernel_rfl
theorem rk10_0 (N : Nat) : RoundsOK lay (E10 (β := β) N) (retMask Tryz.f10) (lp Tryz.f10 0) := by
  intro s K r h
  rw [lk10_0] at h
  unfold LS10_0 VLS10_0 at h
  cases hb : shpSt (h10_0_0 [] [] 0) s with
  | true =>
    rw [hb, cond_true] at h
    exact ⟨N, by rw [← shpSt_ref hb, fl10_0_0 s]; exact (ro10_0_0 N  K N (rPairs (rowV (oneA (vT (nx tund s.tmps 0))))) (rPairs (rowV (oneA (vT (nx tund s.tmps 1))))) (intS (oneA (vT (nx tund s.tmps 5))))).trans h⟩
  | false =>
  rw [hb, cond_false] at h
  clear hb
  cases h
def zb94 (N : Nat) (zq93 : Nat → List (Int × Int) → List (Int × Int) → Int → (Bool → O β) → (O β) → O β) (a0 : List (Int × Int)) (a1 : List (Int × Int)) (k : Bool → O β) : O β :=
(cond (((a0.length : Int) != (a1.length : Int)))
(k false)
(zq93  N a0 a1 0 (fun e3_0 =>
k e3_0) (k true)))
theorem zt94 (N : Nat) (a0 : List (Int × Int)) (a1 : List (Int × Int)) (k : Bool → O β) : zj94 N a0 a1 k = zb94 N (zj93 N) a0 a1 k := by
  unfold zj94 zb94
  rfl
theorem ve10_0 (N : Nat) (zq93 : Nat → List (Int × Int) → List (Int × Int) → Int → (Bool → O β) → (O β) → O β)  (a0 : List (Int × Int)) (a1 : List (Int × Int)) (K : TV → O β) : evFn lay (VE10 N zq93) Tryz.f10 [.v (.one (.sl 50 (.pairs a0))), .v (.one (.sl 50 (.pairs a1)))] K = zb94 N zq93 a0 a1 (fun z2 => K (.v (.one (.bool z2)))) := by kernel_rfl
theorem e10_0 (N : Nat)  (a0 : List (Int × Int)) (a1 : List (Int × Int)) (K : TV → O β) : evFn lay (E10 N) Tryz.f10 [.v (.one (.sl 50 (.pairs a0))), .v (.one (.sl 50 (.pairs a1)))] K = zj94 N a0 a1 (fun z2 => K (.v (.one (.bool z2)))) := (ve10_0 N (zj93 N) a0 a1 K).trans (zt94 N a0 a1 (fun z2 => K (.v (.one (.bool z2))))).symm
theorem o10 (N : Nat) : SpecOK (β := β) inv Tryz.prog 10 (S10 N) := by
  refine spec_of lay_ok mixed (E := E10 N) (specs_loops specs_nil) muts_nil gs_nil Tryz.func10 (by kernel_rfl) 1 (by kernel_rfl) ⟨trivial, rk10_0 N⟩ fun args K r h => ?_
  unfold S10 VS10 at h
  split at h
  · exact (e10_0 N _ _ _).trans h
  · cases h
def VS31 (N : Nat) (zq97 : (a0 : List Int) → (a1 : List Int) → (k : Bool → O β) → O β) : Rv.Spec β := fun args K => match args with
  | [.v (.one (.sl 3 (.ints .i64 a0))), .v (.one (.sl 3 (.ints .i64 a1)))] => zq97 a0 a1 (fun z2 => K (.v (.one (.bool z2))))
  | _ => none
def S31 (N : Nat) : Rv.Spec β := VS31 N (zj97 N)
def h31_0_0  (v0 : List Int) (v1 : List Int) (v2 : Int) : St := ⟨.v (.one (.sl 3 (.ints .i64 v0))) :: .v (.one (.sl 3 (.ints .i64 v1))) :: tund :: tund :: tund :: .v (.one (.int .i64 v2)) :: tund :: tund :: tund :: tund :: tund :: tund :: tund :: tund :: tund :: tund :: tund :: tund :: tund :: tund :: tund :: tund :: tund :: tund :: tund :: tund :: [], []⟩
def x31_0_0_k0  (y0 : Bool) : St := ⟨tund :: tund :: tund :: tund :: .v (.one (.bool y0)) :: tund :: tund :: tund :: tund :: tund :: tund :: tund :: tund :: tund :: tund :: tund :: tund :: tund :: tund :: tund :: tund :: tund :: tund :: tund :: tund :: tund :: [], []⟩
def x31_0_0_k1   : St := ⟨tund :: tund :: tund :: tund :: tund :: tund :: tund :: tund :: tund :: tund :: tund :: tund :: tund :: tund :: tund :: tund :: tund :: tund :: tund :: tund :: tund :: tund :: tund :: tund :: tund :: tund :: [], []⟩
theorem fl31_0_0 (s : St) : refSt (h31_0_0 [] [] 0) s = h31_0_0 (rInts (rowV (oneA (vT (nx tund s.tmps 0))))) (rInts (rowV (oneA (vT (nx tund s.tmps 1))))) (intS (oneA (vT (nx tund s.tmps 5)))) := by kernel_rfl
def VLS31_0 (N : Nat) (zq96 : Nat → List Int → List Int → Int → (Bool → O β) → (O β) → O β) : LSpec β := fun s K => cond (shpSt (h31_0_0 [] [] 0) s) ((fun (v0 : List Int) (v1 : List Int) (v2 : Int) => zq96  N v0 v1 v2 (fun y0 => K .ret (x31_0_0_k0  y0)) (K (.exit 0) (x31_0_0_k1  ))) (rInts (rowV (oneA (vT (nx tund s.tmps 0))))) (rInts (rowV (oneA (vT (nx tund s.tmps 1))))) (intS (oneA (vT (nx tund s.tmps 5))))) (none)
def LS31_0 (N : Nat) : LSpec β := VLS31_0 N (zj96 N)
def VE31 (N : Nat) (zq96 : Nat → List Int → List Int → Int → (Bool → O β) → (O β) → O β) : Env β := ⟨[], [], [(0, VLS31_0 N zq96)], [], ⟨[], [], [], []⟩⟩
def E31 (N : Nat) : Env β := VE31 N (zj96 N)
def zb95 (N : Nat)  (v0 : List Int) (v1 : List Int) (v2 : Int) (rec_ : List Int → List Int → Int → O β) (k0 : Bool → O β) (k1 : O β) : O β :=
(cond ((decide (v2 < (v0.length : Int))))
((gd ((decide (0 ≤ v2)))
((gd ((decide (v2 < (v0.length : Int))))
((gd ((decide (0 ≤ v2)))
((gd ((decide (v2 < (v1.length : Int))))
((cond (((rd 0 v0 v2) != (rd 0 v1 v2)))
(k0 false)
(rec_ v0 v1 ((w64 (v2 + 1))))))))))))))
(k1 ))
theorem zt95 (N : Nat)  (v0 : List Int) (v1 : List Int) (v2 : Int) (rec_ : List Int → List Int → Int → O β) (k0 : Bool → O β) (k1 : O β) : zj95 N v0 v1 v2 rec_ k0 k1 = zb95 N v0 v1 v2 rec_ k0 k1 := by
  unfold zj95 zb95
  rfl
theorem vst31_0_0 (N : Nat) (zq96 : Nat → List Int → List Int → Int → (Bool → O β) → (O β) → O β)  (v0 : List Int) (v1 : List Int) (v2 : Int) (rec_ : St → O β) (K : Exit → St → O β) :
    ev lay (VE31 N zq96) (retMask Tryz.f31) (lp Tryz.f31 0).body (lp Tryz.f31 0).ex ((lp Tryz.f31 0).lv (retMask Tryz.f31)) (h31_0_0  v0 v1 v2) (nextR (fun s' => rec_ (s'.tidy ((lp Tryz.f31 0).lv (retMask Tryz.f31)))) K) = zb95 N  v0 v1 v2 (fun v0 v1 v2 => rec_ (h31_0_0  v0 v1 v2)) (fun y0 => K .ret (x31_0_0_k0  y0)) (K (.exit 0) (x31_0_0_k1  )) := by kernel_rfl
theorem st31_0_0 (N : Nat)  (v0 : List Int) (v1 : List Int) (v2 : Int) (rec_ : St → O β) (K : Exit → St → O β) :
    ev lay (E31 N) (retMask Tryz.f31) (lp Tryz.f31 0).body (lp Tryz.f31 0).ex ((lp Tryz.f31 0).lv (retMask Tryz.f31)) (h31_0_0  v0 v1 v2) (nextR (fun s' => rec_ (s'.tidy ((lp Tryz.f31 0).lv (retMask Tryz.f31)))) K) = zj95 N  v0 v1 v2 (fun v0 v1 v2 => rec_ (h31_0_0  v0 v1 v2)) (fun y0 => K .ret (x31_0_0_k0  y0)) (K (.exit 0) (x31_0_0_k1  )) := (vst31_0_0 N (zj96 N) v0 v1 v2 rec_ K).trans (zt95 N  v0 v1 v2 (fun v0 v1 v2 => rec_ (h31_0_0  v0 v1 v2)) (fun y0 => K .ret (x31_0_0_k0  y0)) (K (.exit 0) (x31_0_0_k1  ))).symm
theorem ro31_0_0 (N : Nat)  (K : Exit → St → O β) : ∀ (F : Nat) (v0 : List Int) (v1 : List Int) (v2 : Int), (lp Tryz.f31 0).rounds lay (E31 N) (retMask Tryz.f31) F (h31_0_0  v0 v1 v2) K = zj96 N  F v0 v1 v2 (fun y0 => K .ret (x31_0_0_k0  y0)) (K (.exit 0) (x31_0_0_k1  )) := by
  intro F
  induction F with
  | zero => intros; rfl
  | succ F ih =>
    intros
    rw [rounds_next]
    refine (st31_0_0 N  _ _ _ (fun s => (lp Tryz.f31 0).rounds lay (E31 N) (retMask Tryz.f31) F s K) K).trans ?_
    simp only [ih]
    rfl
theorem lk31_0 (N : Nat) : lookL (E31 (β := β) N).loops (lp Tryz.f31 0).id = LS31_0 N := by kernel_rfl
theorem rk31_0 (N : Nat) : RoundsOK lay (E31 (β := β) N) (retMask Tryz.f31) (lp Tryz.f31 0) := by
  intro s K r h
  rw [lk31_0] at h
  unfold LS31_0 VLS31_0 at h
  cases hb : shpSt (h31_0_0 [] [] 0) s with
  | true =>
    rw [hb, cond_true] at h
    exact ⟨N, by rw [← shpSt_ref hb, fl31_0_0 s]; exact (ro31_0_0 N  K N (rInts (rowV (oneA (vT (nx tund s.tmps 0))))) (rInts (rowV (oneA (vT (nx tund s.tmps 1))))) (intS (oneA (vT (nx tund s.tmps 5))))).trans h⟩
  | false =>
  rw [hb, cond_false] at h
  clear hb
  cases h
def zb97 (N : Nat) (zq96 : Nat → List Int → List Int → Int → (Bool → O β) → (O β) → O β) (a0 : List Int) (a1 : List Int) (k : Bool → O β) : O β :=
(cond (((a0.length : Int) != (a1.length : Int)))
(k false)
(zq96  N a0 a1 0 (fun e3_0 =>
k e3_0) (k true)))
theorem zt97 (N : Nat) (a0 : List Int) (a1 : List Int) (k : Bool → O β) : zj97 N a0 a1 k = zb97 N (zj96 N) a0 a1 k := by
  unfold zj97 zb97
  rfl
theorem ve31_0 (N : Nat) (zq96 : Nat → List Int → List Int → Int → (Bool → O β) → (O β) → O β)  (a0 : List Int) (a1 : List Int) (K : TV → O β) : evFn lay (VE31 N zq96) Tryz.f31 [.v (.one (.sl 3 (.ints .i64 a0))), .v (.one (.sl 3 (.ints .i64 a1)))] K = zb97 N zq96 a0 a1 (fun z2 => K (.v (.one (.bool z2)))) := by kernel_rfl
theorem e31_0 (N : Nat)  (a0 : List Int) (a1 : List Int) (K : TV → O β) : evFn lay (E31 N) Tryz.f31 [.v (.one (.sl 3 (.ints .i64 a0))), .v (.one (.sl 3 (.ints .i64 a1)))] K = zj97 N a0 a1 (fun z2 => K (.v (.one (.bool z2)))) := (ve31_0 N (zj96 N) a0 a1 K).trans (zt97 N a0 a1 (fun z2 => K (.v (.one (.bool z2))))).symm
theorem o31 (N : Nat) : SpecOK (β := β) inv Tryz.prog 31 (S31 N) := by
  refine spec_of lay_ok mixed (E := E31 N) (specs_loops specs_nil) muts_nil gs_nil Tryz.func31 (by kernel_rfl) 1 (by kernel_rfl) ⟨trivial, rk31_0 N⟩ fun args K r h => ?_
  unfold S31 VS31 at h
  split at h
  · exact (e31_0 N _ _ _).trans h
  · cases h
def VS11 (N : Nat) (zq100 : (a0 : List (List Int)) → (a1 : List (List Int)) → (k : Bool → O β) → O β) : Rv.Spec β := fun args K => match args with
  | [.v (.one (.sl 40 (.lists 3 a0))), .v (.one (.sl 40 (.lists 3 a1)))] => zq100 a0 a1 (fun z2 => K (.v (.one (.bool z2))))
  | _ => none
def S11 (N : Nat) : Rv.Spec β := VS11 N (zj100 N)
def h11_0_0  (v0 : List (List Int)) (v1 : List (List Int)) (v2 : Int) : St := ⟨.v (.one (.sl 40 (.lists 3 v0))) :: .v (.one (.sl 40 (.lists 3 v1))) :: tund :: tund :: tund :: .v (.one (.int .i64 v2)) :: tund :: tund :: tund :: tund :: tund :: tund :: tund :: tund :: tund :: tund :: tund :: tund :: tund :: tund :: tund :: tund :: tund :: tund :: tund :: tund :: tund :: [], []⟩
def x11_0_0_k0  (y0 : Bool) : St := ⟨tund :: tund :: tund :: tund :: .v (.one (.bool y0)) :: tund :: tund :: tund :: tund :: tund :: tund :: tund :: tund :: tund :: tund :: tund :: tund :: tund :: tund :: tund :: tund :: tund :: tund :: tund :: tund :: tund :: tund :: [], []⟩
def x11_0_0_k1   : St := ⟨tund :: tund :: tund :: tund :: tund :: tund :: tund :: tund :: tund :: tund :: tund :: tund :: tund :: tund :: tund :: tund :: tund :: tund :: tund :: tund :: tund :: tund :: tund :: tund :: tund :: tund :: tund :: [], []⟩
theorem fl11_0_0 (s : St) : refSt (h11_0_0 [] [] 0) s = h11_0_0 (rLists (rowV (oneA (vT (nx tund s.tmps 0))))) (rLists (rowV (oneA (vT (nx tund s.tmps 1))))) (intS (oneA (vT (nx tund s.tmps 5)))) := by kernel_rfl
def VLS11_0 (N : Nat) (zq99 : Nat → List (List Int) → List (List Int) → Int → (Bool → O β) → (O β) → O β) : LSpec β := fun s K => cond (shpSt (h11_0_0 [] [] 0) s) ((fun (v0 : List (List Int)) (v1 : List (List Int)) (v2 : Int) => zq99  N v0 v1 v2 (fun y0 => K .ret (x11_0_0_k0  y0)) (K (.exit 0) (x11_0_0_k1  ))) (rLists (rowV (oneA (vT (nx tund s.tmps 0))))) (rLists (rowV (oneA (vT (nx tund s.tmps 1))))) (intS (oneA (vT (nx tund s.tmps 5))))) (none)
def LS11_0 (N : Nat) : LSpec β := VLS11_0 N (zj99 N)
def VE11 (N : Nat) (zq97 : (a0 : List Int) → (a1 : List Int) → (k : Bool → O β) → O β) (zq99 : Nat → List (List Int) → List (List Int) → Int → (Bool → O β) → (O β) → O β) : Env β := ⟨[(31, VS31 N zq97)], [], [(0, VLS11_0 N zq99)], [], ⟨[], [], [], []⟩⟩
def E11 (N : Nat) : Env β := VE11 N (zj97 N) (zj99 N)
def zb98 (N : Nat) (zq97 : (a0 : List Int) → (a1 : List Int) → (k : Bool → O β) → O β)  (v0 : List (List Int)) (v1 : List (List Int)) (v2 : Int) (rec_ : List (List Int) → List (List Int) → Int → O β) (k0 : Bool → O β) (k1 : O β) : O β :=
(cond ((decide (v2 < (v0.length : Int))))
((gd ((decide (0 ≤ v2)))
((gd ((decide (v2 < (v0.length : Int))))
((gd ((decide (0 ≤ v2)))
((gd ((decide (v2 < (v1.length : Int))))
(zq97 ((rd [] v0 v2)) ((rd [] v1 v2)) fun r3 =>
(cond (!r3)
(k0 false)
(rec_ v0 v1 ((w64 (v2 + 1))))))))))))))
(k1 ))
theorem zt98 (N : Nat)  (v0 : List (List Int)) (v1 : List (List Int)) (v2 : Int) (rec_ : List (List Int) → List (List Int) → Int → O β) (k0 : Bool → O β) (k1 : O β) : zj98 N v0 v1 v2 rec_ k0 k1 = zb98 N (zj97 N) v0 v1 v2 rec_ k0 k1 := by
  unfold zj98 zb98
  rfl
theorem vst11_0_0 (N : Nat) (zq97 : (a0 : List Int) → (a1 : List Int) → (k : Bool → O β) → O β) (zq99 : Nat → List (List Int) → List (List Int) → Int → (Bool → O β) → (O β) → O β)  (v0 : List (List Int)) (v1 : List (List Int)) (v2 : Int) (rec_ : St → O β) (K : Exit → St → O β) :
    ev lay (VE11 N zq97 zq99) (retMask Tryz.f11) (lp Tryz.f11 0).body (lp Tryz.f11 0).ex ((lp Tryz.f11 0).lv (retMask Tryz.f11)) (h11_0_0  v0 v1 v2) (nextR (fun s' => rec_ (s'.tidy ((lp Tryz.f11 0).lv (retMask Tryz.f11)))) K) = zb98 N zq97  v0 v1 v2 (fun v0 v1 v2 => rec_ (h11_0_0  v0 v1 v2)) (fun y0 => K .ret (x11_0_0_k0  y0)) (K (.exit 0) (x11_0_0_k1  )) := by kernel_rfl
theorem st11_0_0 (N : Nat)  (v0 : List (List Int)) (v1 : List (List Int)) (v2 : Int) (rec_ : St → O β) (K : Exit → St → O β) :
    ev lay (E11 N) (retMask Tryz.f11) (lp Tryz.f11 0).body (lp Tryz.f11 0).ex ((lp Tryz.f11 0).lv (retMask Tryz.f11)) (h11_0_0  v0 v1 v2) (nextR (fun s' => rec_ (s'.tidy ((lp Tryz.f11 0).lv (retMask Tryz.f11)))) K) = zj98 N  v0 v1 v2 (fun v0 v1 v2 => rec_ (h11_0_0  v0 v1 v2)) (fun y0 => K .ret (x11_0_0_k0  y0)) (K (.exit 0) (x11_0_0_k1  )) := (vst11_0_0 N (zj97 N) (zj99 N) v0 v1 v2 rec_ K).trans (zt98 N  v0 v1 v2 (fun v0 v1 v2 => rec_ (h11_0_0  v0 v1 v2)) (fun y0 => K .ret (x11_0_0_k0  y0)) (K (.exit 0) (x11_0_0_k1  ))).symm
theorem ro11_0_0 (N : Nat)  (K : Exit → St → O β) : ∀ (F : Nat) (v0 : List (List Int)) (v1 : List (List Int)) (v2 : Int), (lp Tryz.f11 0).rounds lay (E11 N) (retMask Tryz.f11) F (h11_0_0  v0 v1 v2) K = zj99 N  F v0 v1 v2 (fun y0 => K .ret (x11_0_0_k0  y0)) (K (.exit 0) (x11_0_0_k1  )) := by
  intro F
  induction F with
  | zero => intros; rfl
  | succ F ih =>
    intros
    rw [rounds_next]
    refine (st11_0_0 N  _ _ _ (fun s => (lp Tryz.f11 0).rounds lay (E11 N) (retMask Tryz.f11) F s K) K).trans ?_
    simp only [ih]
    rfl
theorem lk11_0 (N : Nat) : lookL (E11 (β := β) N).loops (lp Tryz.f11 0).id = LS11_0 N := by kernel_rfl
theorem rk11_0 (N : Nat) : RoundsOK lay (E11 (β := β) N) (retMask Tryz.f11) (lp Tryz.f11 0) := by
  intro s K r h
  rw [lk11_0] at h
  unfold LS11_0 VLS11_0 at h
  cases hb : shpSt (h11_0_0 [] [] 0) s with
  | true =>
    rw [hb, cond_true] at h
    exact ⟨N, by rw [← shpSt_ref hb, fl11_0_0 s]; exact (ro11_0_0 N  K N (rLists (rowV (oneA (vT (nx tund s.tmps 0))))) (rLists (rowV (oneA (vT (nx tund s.tmps 1))))) (intS (oneA (vT (nx tund s.tmps 5))))).trans h⟩
  | false =>
  rw [hb, cond_false] at h
  clear hb
  cases h
def zb100 (N : Nat) (zq99 : Nat → List (List Int) → List (List Int) → Int → (Bool → O β) → (O β) → O β) (a0 : List (List Int)) (a1 : List (List Int)) (k : Bool → O β) : O β :=
(cond (((a0.length : Int) != (a1.length : Int)))
(k false)
(zq99  N a0 a1 0 (fun e4_0 =>
k e4_0) (k true)))
theorem zt100 (N : Nat) (a0 : List (List Int)) (a1 : List (List Int)) (k : Bool → O β) : zj100 N a0 a1 k = zb100 N (zj99 N) a0 a1 k := by
  unfold zj100 zb100
  rfl
theorem ve11_0 (N : Nat) (zq97 : (a0 : List Int) → (a1 : List Int) → (k : Bool → O β) → O β) (zq99 : Nat → List (List Int) → List (List Int) → Int → (Bool → O β) → (O β) → O β)  (a0 : List (List Int)) (a1 : List (List Int)) (K : TV → O β) : evFn lay (VE11 N zq97 zq99) Tryz.f11 [.v (.one (.sl 40 (.lists 3 a0))), .v (.one (.sl 40 (.lists 3 a1)))] K = zb100 N zq99 a0 a1 (fun z2 => K (.v (.one (.bool z2)))) := by kernel_rfl
theorem e11_0 (N : Nat)  (a0 : List (List Int)) (a1 : List (List Int)) (K : TV → O β) : evFn lay (E11 N) Tryz.f11 [.v (.one (.sl 40 (.lists 3 a0))), .v (.one (.sl 40 (.lists 3 a1)))] K = zj100 N a0 a1 (fun z2 => K (.v (.one (.bool z2)))) := (ve11_0 N (zj97 N) (zj99 N) a0 a1 K).trans (zt100 N a0 a1 (fun z2 => K (.v (.one (.bool z2))))).symm
theorem o11 (N : Nat) : SpecOK (β := β) inv Tryz.prog 11 (S11 N) := by
  refine spec_of lay_ok mixed (E := E11 N) (specs_loops (specs_cons (o31 N) specs_nil)) muts_nil gs_nil Tryz.func11 (by kernel_rfl) 1 (by kernel_rfl) ⟨trivial, rk11_0 N⟩ fun args K r h => ?_
  unfold S11 VS11 at h
  split at h
  · exact (e11_0 N _ _ _).trans h
  · cases h
def VS12 (N : Nat) (zq101 : (a0 : Int) → (a1 : List (Int × Int)) → (k : Bool → O β) → O β) : Rv.Spec β := fun args K => match args with
  | [.v (.one (.int .i64 a0)), .v (.one (.sl 50 (.pairs a1)))] => zq101 a0 a1 (fun z2 => K (.v (.one (.bool z2))))
  | _ => none
def S12 (N : Nat) : Rv.Spec β := VS12 N (zj101 N)
def VE12 (N : Nat) (zq64 : (a0 : Int) → (a1 : List (Int × Int)) → (k : Bool → O β) → O β) (zq72 : (a0 : Int) → (a1 : List (Int × Int)) → (k : List (List Int) → O β) → O β) : Env β := ⟨[(25, VS25 N zq64), (27, VS27 N zq72)], [], [], [], ⟨[], [], [], []⟩⟩
def E12 (N : Nat) : Env β := VE12 N (zj64 N) (zj72 N)
def zb101 (N : Nat) (zq64 : (a0 : Int) → (a1 : List (Int × Int)) → (k : Bool → O β) → O β) (zq72 : (a0 : Int) → (a1 : List (Int × Int)) → (k : List (List Int) → O β) → O β) (a0 : Int) (a1 : List (Int × Int)) (k : Bool → O β) : O β :=
zq64 a0 a1 fun r3 =>
(cond r3
(zq72 a0 a1 fun r4 =>
k (((r4.length : Int) == 0)))
(k false))
theorem zt101 (N : Nat) (a0 : Int) (a1 : List (Int × Int)) (k : Bool → O β) : zj101 N a0 a1 k = zb101 N (zj64 N) (zj72 N) a0 a1 k := by
  unfold zj101 zb101
  rfl
theorem ve12_0 (N : Nat) (zq64 : (a0 : Int) → (a1 : List (Int × Int)) → (k : Bool → O β) → O β) (zq72 : (a0 : Int) → (a1 : List (Int × Int)) → (k : List (List Int) → O β) → O β)  (a0 : Int) (a1 : List (Int × Int)) (K : TV → O β) : evFn lay (VE12 N zq64 zq72) Tryz.f12 [.v (.one (.int .i64 a0)), .v (.one (.sl 50 (.pairs a1)))] K = zb101 N zq64 zq72 a0 a1 (fun z2 => K (.v (.one (.bool z2)))) := by kernel_rfl
theorem e12_0 (N : Nat)  (a0 : Int) (a1 : List (Int × Int)) (K : TV → O β) : evFn lay (E12 N) Tryz.f12 [.v (.one (.int .i64 a0)), .v (.one (.sl 50 (.pairs a1)))] K = zj101 N a0 a1 (fun z2 => K (.v (.one (.bool z2)))) := (ve12_0 N (zj64 N) (zj72 N) a0 a1 K).trans (zt101 N a0 a1 (fun z2 => K (.v (.one (.bool z2))))).symm
theorem o12 (N : Nat) : SpecOK (β := β) inv Tryz.prog 12 (S12 N) := by
  refine spec_of lay_ok mixed (E := E12 N) (specs_loops (specs_cons (o25 N) (specs_cons (o27 N) specs_nil))) muts_nil gs_nil Tryz.func12 (by kernel_rfl) 0 (by kernel_rfl) trivial fun args K r h => ?_
  unfold S12 VS12 at h
  split at h
  · exact (e12_0 N _ _ _).trans h
  · cases h
def VS55 (N : Nat) (zq102 : (a0 : Int) → (c0 : List (Int × Int)) → (k : Bool → O β) → O β) : Rv.Spec β := fun args K => match args with
  | [.v (.one (.int .i64 a0)), .v (.one (.cref [.sl 50 (.pairs c0)] 0))] => zq102 a0 c0 (fun z1 => K (.v (.one (.bool z1))))
  | _ => none
def S55 (N : Nat) : Rv.Spec β := VS55 N (zj102 N)
def VE55 (N : Nat) (zq62 : (a0 : List (Int × Int)) → (a1 : (Int → Int → (Bool → O β) → O β)) → (k : Bool → O β) → O β) (zq56 : (a0 : Int) → (a1 : Int) → (c0 : Int) → (k : Bool → O β) → O β) (zq58 : (a0 : Int) → (a1 : Int) → (c0 : Int) → (k : Bool → O β) → O β) : Env β := ⟨[(51, VS51 N zq62 zq56 zq58), (56, VS56 N zq58)], [], [], [], ⟨[], [], [], []⟩⟩
def E55 (N : Nat) : Env β := VE55 N (zj62 N) (zj56 N) (zj58 N)
def zb102 (N : Nat) (zq62 : (a0 : List (Int × Int)) → (a1 : (Int → Int → (Bool → O β) → O β)) → (k : Bool → O β) → O β) (zq58 : (a0 : Int) → (a1 : Int) → (c0 : Int) → (k : Bool → O β) → O β) (a0 : Int) (c0 : List (Int × Int)) (k : Bool → O β) : O β :=
zq62 c0 (fun x0 x1 k => zq58 x0 x1 a0 k) fun r2 =>
k r2
theorem zt102 (N : Nat) (a0 : Int) (c0 : List (Int × Int)) (k : Bool → O β) : zj102 N a0 c0 k = zb102 N (zj62 N) (zj58 N) a0 c0 k := by
  unfold zj102 zb102
  rfl
theorem ve55_0 (N : Nat) (zq62 : (a0 : List (Int × Int)) → (a1 : (Int → Int → (Bool → O β) → O β)) → (k : Bool → O β) → O β) (zq56 : (a0 : Int) → (a1 : Int) → (c0 : Int) → (k : Bool → O β) → O β) (zq58 : (a0 : Int) → (a1 : Int) → (c0 : Int) → (k : Bool → O β) → O β)  (a0 : Int) (c0 : List (Int × Int)) (K : TV → O β) : evFn lay (VE55 N zq62 zq56 zq58) Tryz.f55 [.v (.one (.int .i64 a0)), .v (.one (.cref [.sl 50 (.pairs c0)] 0))] K = zb102 N zq62 zq58 a0 c0 (fun z1 => K (.v (.one (.bool z1)))) := by kernel_rfl
theorem e55_0 (N : Nat)  (a0 : Int) (c0 : List (Int × Int)) (K : TV → O β) : evFn lay (E55 N) Tryz.f55 [.v (.one (.int .i64 a0)), .v (.one (.cref [.sl 50 (.pairs c0)] 0))] K = zj102 N a0 c0 (fun z1 => K (.v (.one (.bool z1)))) := (ve55_0 N (zj62 N) (zj56 N) (zj58 N) a0 c0 K).trans (zt102 N a0 c0 (fun z1 => K (.v (.one (.bool z1))))).symm
theorem o55 (N : Nat) : SpecOK (β := β) inv Tryz.prog 55 (S55 N) := by
  refine spec_of lay_ok mixed (E := E55 N) (specs_loops (specs_cons (o51 N) (specs_cons (o56 N) specs_nil))) muts_nil gs_nil Tryz.func55 (by kernel_rfl) 0 (by kernel_rfl) trivial fun args K r h => ?_
  unfold S55 VS55 at h
  split at h
  · exact (e55_0 N _ _ _).trans h
  · cases h
end Go.Proofs.YtddflpokemgnmaaGreatDoor
