/- The functions that the claims reach answer as their texts do. -/
import Derived.Test.YtddflpokemgnmaaGreatDoorE3
namespace Go.Proofs.YtddflpokemgnmaaGreatDoor
open Go.Rv
set_option maxRecDepth 100000
set_option maxHeartbeats 2000000
set_option linter.unusedVariables false
variable {β : Type}
def VS28 (N : Nat) (zq67 : (a0 : List (Int × Int)) → (a1 : Int) → (a2 : Int) → (k : Bool → O β) → O β) : Rv.Spec β := fun args K => match args with
  | [.v (.one (.sl 50 (.pairs a0))), .v (.one (.int .i64 a1)), .v (.one (.int .i64 a2))] => zq67 a0 a1 a2 (fun z3 => K (.v (.one (.bool z3))))
  | _ => none
def S28 (N : Nat) : Rv.Spec β := VS28 N (zj67 N)
def h28_0_0  (v0 : Int) (v1 : Int) (v2 : Bool) (v3 : Bool) (v4 : List (Int × Int)) (v5 : Int) (v6 : Int) : St := ⟨tund :: .v (.one (.int .i64 v0)) :: .v (.one (.int .i64 v1)) :: tund :: tund :: tund :: tund :: .v (.one (.bool v2)) :: .v (.one (.bool v3)) :: tund :: tund :: tund :: tund :: .v (.one (.sl 50 (.pairs v4))) :: .v (.one (.int .i64 v5)) :: .v (.one (.int .i64 v6)) :: tund :: tund :: tund :: tund :: tund :: tund :: tund :: tund :: tund :: tund :: tund :: tund :: tund :: tund :: tund :: tund :: tund :: tund :: tund :: tund :: tund :: tund :: tund :: tund :: tund :: tund :: [], []⟩
def x28_0_0_k0  (y0 : Bool) : St := ⟨tund :: tund :: tund :: tund :: tund :: tund :: .v (.one (.bool y0)) :: tund :: tund :: tund :: tund :: tund :: tund :: tund :: tund :: tund :: tund :: tund :: tund :: tund :: tund :: tund :: tund :: tund :: tund :: tund :: tund :: tund :: tund :: tund :: tund :: tund :: tund :: tund :: tund :: tund :: tund :: tund :: tund :: tund :: tund :: tund :: [], []⟩
def x28_0_0_k1  (y0 : Bool) (y1 : Bool) : St := ⟨tund :: tund :: tund :: tund :: tund :: tund :: tund :: .v (.one (.bool y0)) :: .v (.one (.bool y1)) :: tund :: tund :: tund :: tund :: tund :: tund :: tund :: tund :: tund :: tund :: tund :: tund :: tund :: tund :: tund :: tund :: tund :: tund :: tund :: tund :: tund :: tund :: tund :: tund :: tund :: tund :: tund :: tund :: tund :: tund :: tund :: tund :: tund :: [], []⟩
theorem fl28_0_0 (s : St) : refSt (h28_0_0 0 0 false false [] 0 0) s = h28_0_0 (intS (oneA (vT (nx tund s.tmps 1)))) (intS (oneA (vT (nx tund s.tmps 2)))) (boolS (oneA (vT (nx tund s.tmps 7)))) (boolS (oneA (vT (nx tund s.tmps 8)))) (rPairs (rowV (oneA (vT (nx tund s.tmps 13))))) (intS (oneA (vT (nx tund s.tmps 14)))) (intS (oneA (vT (nx tund s.tmps 15)))) := by kernel_rfl
def VLS28_0 (N : Nat) (zq66 : Nat → Int → Int → Bool → Bool → List (Int × Int) → Int → Int → (Bool → O β) → (Bool → Bool → O β) → O β) : LSpec β := fun s K => cond (shpSt (h28_0_0 0 0 false false [] 0 0) s) ((fun (v0 : Int) (v1 : Int) (v2 : Bool) (v3 : Bool) (v4 : List (Int × Int)) (v5 : Int) (v6 : Int) => zq66  N v0 v1 v2 v3 v4 v5 v6 (fun y0 => K .ret (x28_0_0_k0  y0)) (fun y0 y1 => K (.exit 0) (x28_0_0_k1  y0 y1))) (intS (oneA (vT (nx tund s.tmps 1)))) (intS (oneA (vT (nx tund s.tmps 2)))) (boolS (oneA (vT (nx tund s.tmps 7)))) (boolS (oneA (vT (nx tund s.tmps 8)))) (rPairs (rowV (oneA (vT (nx tund s.tmps 13))))) (intS (oneA (vT (nx tund s.tmps 14)))) (intS (oneA (vT (nx tund s.tmps 15))))) (none)
def LS28_0 (N : Nat) : LSpec β := VLS28_0 N (zj66 N)
def VE28 (N : Nat) (zq57 : (a0 : Int) → (a1 : Int) → (a2 : Int) → (k : Bool → O β) → O β) (zq66 : Nat → Int → Int → Bool → Bool → List (Int × Int) → Int → Int → (Bool → O β) → (Bool → Bool → O β) → O β) : Env β := ⟨[(49, VS49 N zq57)], [], [(0, VLS28_0 N zq66)], [], ⟨[], [], [], []⟩⟩
def E28 (N : Nat) : Env β := VE28 N (zj57 N) (zj66 N)
def zb65 (N : Nat) (zq57 : (a0 : Int) → (a1 : Int) → (a2 : Int) → (k : Bool → O β) → O β)  (v0 : Int) (v1 : Int) (v2 : Bool) (v3 : Bool) (v4 : List (Int × Int)) (v5 : Int) (v6 : Int) (rec_ : Int → Int → Bool → Bool → List (Int × Int) → Int → Int → O β) (k0 : Bool → O β) (k1 : Bool → Bool → O β) : O β :=
(cond ((decide (v6 < v5)))
((gd ((decide (0 ≤ v6)))
((gd ((decide (v6 < (v4.length : Int))))
(zq57 ((rd (0, 0) v4 v6).1) ((rd (0, 0) v4 v6).2) v0 fun r4 =>
zq57 ((rd (0, 0) v4 v6).1) ((rd (0, 0) v4 v6).2) v1 fun r5 =>
(cond r4
((cond r5
(k0 false)
((cond v2
((cond v3
(rec_ v0 v1 true true v4 v5 ((w64 (v6 + 1))))
(rec_ v0 v1 true r5 v4 v5 ((w64 (v6 + 1))))))
((cond v3
(rec_ v0 v1 r4 true v4 v5 ((w64 (v6 + 1))))
(rec_ v0 v1 r4 r5 v4 v5 ((w64 (v6 + 1))))))))))
((cond v2
((cond v3
(rec_ v0 v1 true true v4 v5 ((w64 (v6 + 1))))
(rec_ v0 v1 true r5 v4 v5 ((w64 (v6 + 1))))))
((cond v3
(rec_ v0 v1 r4 true v4 v5 ((w64 (v6 + 1))))
(rec_ v0 v1 r4 r5 v4 v5 ((w64 (v6 + 1))))))))))))))
(k1 v2 v3))
theorem zt65 (N : Nat)  (v0 : Int) (v1 : Int) (v2 : Bool) (v3 : Bool) (v4 : List (Int × Int)) (v5 : Int) (v6 : Int) (rec_ : Int → Int → Bool → Bool → List (Int × Int) → Int → Int → O β) (k0 : Bool → O β) (k1 : Bool → Bool → O β) : zj65 N v0 v1 v2 v3 v4 v5 v6 rec_ k0 k1 = zb65 N (zj57 N) v0 v1 v2 v3 v4 v5 v6 rec_ k0 k1 := by
  unfold zj65 zb65
  rfl
theorem vst28_0_0 (N : Nat) (zq57 : (a0 : Int) → (a1 : Int) → (a2 : Int) → (k : Bool → O β) → O β) (zq66 : Nat → Int → Int → Bool → Bool → List (Int × Int) → Int → Int → (Bool → O β) → (Bool → Bool → O β) → O β)  (v0 : Int) (v1 : Int) (v2 : Bool) (v3 : Bool) (v4 : List (Int × Int)) (v5 : Int) (v6 : Int) (rec_ : St → O β) (K : Exit → St → O β) :
    ev lay (VE28 N zq57 zq66) (retMask Tryz.f28) (lp Tryz.f28 0).body (lp Tryz.f28 0).ex ((lp Tryz.f28 0).lv (retMask Tryz.f28)) (h28_0_0  v0 v1 v2 v3 v4 v5 v6) (nextR (fun s' => rec_ (s'.tidy ((lp Tryz.f28 0).lv (retMask Tryz.f28)))) K) = zb65 N zq57  v0 v1 v2 v3 v4 v5 v6 (fun v0 v1 v2 v3 v4 v5 v6 => rec_ (h28_0_0  v0 v1 v2 v3 v4 v5 v6)) (fun y0 => K .ret (x28_0_0_k0  y0)) (fun y0 y1 => K (.exit 0) (x28_0_0_k1  y0 y1)) := by kernel_rfl
theorem st28_0_0 (N : Nat)  (v0 : Int) (v1 : Int) (v2 : Bool) (v3 : Bool) (v4 : List (Int × Int)) (v5 : Int) (v6 : Int) (rec_ : St → O β) (K : Exit → St → O β) :
    ev lay (E28 N) (retMask Tryz.f28) (lp Tryz.f28 0).body (lp Tryz.f28 0).ex ((lp Tryz.f28 0).lv (retMask Tryz.f28)) (h28_0_0  v0 v1 v2 v3 v4 v5 v6) (nextR (fun s' => rec_ (s'.tidy ((lp Tryz.f28 0).lv (retMask Tryz.f28)))) K) = zj65 N  v0 v1 v2 v3 v4 v5 v6 (fun v0 v1 v2 v3 v4 v5 v6 => rec_ (h28_0_0  v0 v1 v2 v3 v4 v5 v6)) (fun y0 => K .ret (x28_0_0_k0  y0)) (fun y0 y1 => K (.exit 0) (x28_0_0_k1  y0 y1)) := (vst28_0_0 N (zj57 N) (zj66 N) v0 v1 v2 v3 v4 v5 v6 rec_ K).trans (zt65 N  v0 v1 v2 v3 v4 v5 v6 (fun v0 v1 v2 v3 v4 v5 v6 => rec_ (h28_0_0  v0 v1 v2 v3 v4 v5 v6)) (fun y0 => K .ret (x28_0_0_k0  y0)) (fun y0 y1 => K (.exit 0) (x28_0_0_k1  y0 y1))).symm
theorem ro28_0_0 (N : Nat)  (K : Exit → St → O β) : ∀ (F : Nat) (v0 : Int) (v1 : Int) (v2 : Bool) (v3 : Bool) (v4 : List (Int × Int)) (v5 : Int) (v6 : Int), (lp Tryz.f28 0).rounds lay (E28 N) (retMask Tryz.f28) F (h28_0_0  v0 v1 v2 v3 v4 v5 v6) K = zj66 N  F v0 v1 v2 v3 v4 v5 v6 (fun y0 => K .ret (x28_0_0_k0  y0)) (fun y0 y1 => K (.exit 0) (x28_0_0_k1  y0 y1)) := by
  intro F
  induction F with
  | zero => intros; rfl
  | succ F ih =>
    intros
    rw [rounds_next]
    refine (st28_0_0 N  _ _ _ _ _ _ _ (fun s => (lp Tryz.f28 0).rounds lay (E28 N) (retMask Tryz.f28) F s K) K).trans ?_
    simp only [ih]
    rfl
theorem lk28_0 (N : Nat) : lookL (E28 (β := β) N).loops (lp Tryz.f28 0).id = LS28_0 N := by kernel_rfl
theorem rk28_0 (N : Nat) : RoundsOK lay (E28 (β := β) N) (retMask Tryz.f28) (lp Tryz.f28 0) := by
  intro s K r h
  rw [lk28_0] at h
  unfold LS28_0 VLS28_0 at h
  cases hb : shpSt (h28_0_0 0 0 false false [] 0 0) s with
  | true =>
    rw [hb, cond_true] at h
    exact ⟨N, by rw [← shpSt_ref hb, fl28_0_0 s]; exact (ro28_0_0 N  K N (intS (oneA (vT (nx tund s.tmps 1)))) (intS (oneA (vT (nx tund s.tmps 2)))) (boolS (oneA (vT (nx tund s.tmps 7)))) (boolS (oneA (vT (nx tund s.tmps 8)))) (rPairs (rowV (oneA (vT (nx tund s.tmps 13))))) (intS (oneA (vT (nx tund s.tmps 14)))) (intS (oneA (vT (nx tund s.tmps 15))))).trans h⟩
  | false =>
  rw [hb, cond_false] at h
  clear hb
  cases h
def zb67 (N : Nat) (zq66 : Nat → Int → Int → Bool → Bool → List (Int × Int) → Int → Int → (Bool → O β) → (Bool → Bool → O β) → O β) (a0 : List (Int × Int)) (a1 : Int) (a2 : Int) (k : Bool → O β) : O β :=
zq66  N a1 a2 false false a0 ((a0.length : Int)) 0 (fun e6_0 =>
k e6_0) (fun e7_0 e7_1 =>
(cond e7_0
(k e7_1)
(k false)))
theorem zt67 (N : Nat) (a0 : List (Int × Int)) (a1 : Int) (a2 : Int) (k : Bool → O β) : zj67 N a0 a1 a2 k = zb67 N (zj66 N) a0 a1 a2 k := by
  unfold zj67 zb67
  rfl
theorem ve28_0 (N : Nat) (zq57 : (a0 : Int) → (a1 : Int) → (a2 : Int) → (k : Bool → O β) → O β) (zq66 : Nat → Int → Int → Bool → Bool → List (Int × Int) → Int → Int → (Bool → O β) → (Bool → Bool → O β) → O β)  (a0 : List (Int × Int)) (a1 : Int) (a2 : Int) (K : TV → O β) : evFn lay (VE28 N zq57 zq66) Tryz.f28 [.v (.one (.sl 50 (.pairs a0))), .v (.one (.int .i64 a1)), .v (.one (.int .i64 a2))] K = zb67 N zq66 a0 a1 a2 (fun z3 => K (.v (.one (.bool z3)))) := by kernel_rfl
theorem e28_0 (N : Nat)  (a0 : List (Int × Int)) (a1 : Int) (a2 : Int) (K : TV → O β) : evFn lay (E28 N) Tryz.f28 [.v (.one (.sl 50 (.pairs a0))), .v (.one (.int .i64 a1)), .v (.one (.int .i64 a2))] K = zj67 N a0 a1 a2 (fun z3 => K (.v (.one (.bool z3)))) := (ve28_0 N (zj57 N) (zj66 N) a0 a1 a2 K).trans (zt67 N a0 a1 a2 (fun z3 => K (.v (.one (.bool z3))))).symm
theorem o28 (N : Nat) : SpecOK (β := β) inv Tryz.prog 28 (S28 N) := by
  refine spec_of lay_ok mixed (E := E28 N) (specs_loops (specs_cons (o49 N) specs_nil)) muts_nil gs_nil Tryz.func28 (by kernel_rfl) 1 (by kernel_rfl) ⟨trivial, rk28_0 N⟩ fun args K r h => ?_
  unfold S28 VS28 at h
  split at h
  · exact (e28_0 N _ _ _ _).trans h
  · cases h
def VS27 (N : Nat) (zq72 : (a0 : Int) → (a1 : List (Int × Int)) → (k : List (List Int) → O β) → O β) : Rv.Spec β := fun args K => match args with
  | [.v (.one (.int .i64 a0)), .v (.one (.sl 50 (.pairs a1)))] => zq72 a0 a1 (fun z2 => K (.v (.one (.sl 40 (.lists 3 z2)))))
  | _ => none
def S27 (N : Nat) : Rv.Spec β := VS27 N (zj72 N)
def h27_0_0  (v0 : Int) (v1 : List (Int × Int)) (v2 : Int) (v3 : Int) (v4 : List (List Int)) : St := ⟨.v (.one (.int .i64 v0)) :: .v (.one (.sl 50 (.pairs v1))) :: tund :: tund :: tund :: .v (.one (.row 0)) :: tund :: tund :: tund :: tund :: .v (.one (.int .i64 v2)) :: .v (.one (.int .i64 v3)) :: tund :: tund :: tund :: tund :: tund :: tund :: tund :: tund :: tund :: tund :: tund :: tund :: tund :: tund :: tund :: tund :: tund :: tund :: tund :: tund :: tund :: tund :: tund :: tund :: tund :: tund :: tund :: tund :: [], [.row 40 (.lists 3 v4)]⟩
def x27_0_0_k0  (y0 : List (List Int)) : St := ⟨tund :: tund :: tund :: tund :: tund :: .v (.one (.row 0)) :: tund :: tund :: tund :: tund :: tund :: tund :: tund :: tund :: tund :: tund :: tund :: tund :: tund :: tund :: tund :: tund :: tund :: tund :: tund :: tund :: tund :: tund :: tund :: tund :: tund :: tund :: tund :: tund :: tund :: tund :: tund :: tund :: tund :: tund :: [], [.row 40 (.lists 3 y0)]⟩
def h27_1_0  (v0 : Int) (v1 : List (Int × Int)) (v2 : Int) (v3 : Int) (v4 : Int) (v5 : Int) (v6 : Int) (v7 : List (List Int)) : St := ⟨.v (.one (.int .i64 v0)) :: .v (.one (.sl 50 (.pairs v1))) :: tund :: tund :: tund :: .v (.one (.row 0)) :: .v (.one (.int .i64 v2)) :: tund :: tund :: tund :: .v (.one (.int .i64 v3)) :: .v (.one (.int .i64 v4)) :: tund :: tund :: .v (.one (.int .i64 v5)) :: .v (.one (.int .i64 v6)) :: tund :: tund :: tund :: tund :: tund :: tund :: tund :: tund :: tund :: tund :: tund :: tund :: tund :: tund :: tund :: tund :: tund :: tund :: tund :: tund :: tund :: tund :: tund :: tund :: [], [.row 40 (.lists 3 v7)]⟩
def x27_1_0_k0  (y0 : Int) (y1 : List (Int × Int)) (y2 : Int) (y3 : Int) (y4 : List (List Int)) : St := ⟨.v (.one (.int .i64 y0)) :: .v (.one (.sl 50 (.pairs y1))) :: tund :: tund :: tund :: .v (.one (.row 0)) :: tund :: tund :: tund :: tund :: .v (.one (.int .i64 y2)) :: .v (.one (.int .i64 y3)) :: tund :: tund :: tund :: tund :: tund :: tund :: tund :: tund :: tund :: tund :: tund :: tund :: tund :: tund :: tund :: tund :: tund :: tund :: tund :: tund :: tund :: tund :: tund :: tund :: tund :: tund :: tund :: tund :: [], [.row 40 (.lists 3 y4)]⟩
theorem fl27_0_0 (s : St) : refSt (h27_0_0 0 [] 0 0 []) s = h27_0_0 (intS (oneA (vT (nx tund s.tmps 0)))) (rPairs (rowV (oneA (vT (nx tund s.tmps 1))))) (intS (oneA (vT (nx tund s.tmps 10)))) (intS (oneA (vT (nx tund s.tmps 11)))) (rLists (rowB_ (nx .dead s.blks 0))) := by kernel_rfl
def VLS27_0 (N : Nat) (zq71 : Nat → Int → List (Int × Int) → Int → Int → List (List Int) → (List (List Int) → O β) → O β) : LSpec β := fun s K => cond (shpSt (h27_0_0 0 [] 0 0 []) s) ((fun (v0 : Int) (v1 : List (Int × Int)) (v2 : Int) (v3 : Int) (v4 : List (List Int)) => zq71  N v0 v1 v2 v3 v4 (fun y0 => K (.exit 0) (x27_0_0_k0  y0))) (intS (oneA (vT (nx tund s.tmps 0)))) (rPairs (rowV (oneA (vT (nx tund s.tmps 1))))) (intS (oneA (vT (nx tund s.tmps 10)))) (intS (oneA (vT (nx tund s.tmps 11)))) (rLists (rowB_ (nx .dead s.blks 0)))) (none)
def LS27_0 (N : Nat) : LSpec β := VLS27_0 N (zj71 N)
theorem fl27_1_0 (s : St) : refSt (h27_1_0 0 [] 0 0 0 0 0 []) s = h27_1_0 (intS (oneA (vT (nx tund s.tmps 0)))) (rPairs (rowV (oneA (vT (nx tund s.tmps 1))))) (intS (oneA (vT (nx tund s.tmps 6)))) (intS (oneA (vT (nx tund s.tmps 10)))) (intS (oneA (vT (nx tund s.tmps 11)))) (intS (oneA (vT (nx tund s.tmps 14)))) (intS (oneA (vT (nx tund s.tmps 15)))) (rLists (rowB_ (nx .dead s.blks 0))) := by kernel_rfl
def VLS27_2 (N : Nat) (zq69 : Nat → Int → List (Int × Int) → Int → Int → Int → Int → Int → List (List Int) → (Int → List (Int × Int) → Int → Int → List (List Int) → O β) → O β) : LSpec β := fun s K => cond (shpSt (h27_1_0 0 [] 0 0 0 0 0 []) s) ((fun (v0 : Int) (v1 : List (Int × Int)) (v2 : Int) (v3 : Int) (v4 : Int) (v5 : Int) (v6 : Int) (v7 : List (List Int)) => zq69  N v0 v1 v2 v3 v4 v5 v6 v7 (fun y0 y1 y2 y3 y4 => K (.exit 2) (x27_1_0_k0  y0 y1 y2 y3 y4))) (intS (oneA (vT (nx tund s.tmps 0)))) (rPairs (rowV (oneA (vT (nx tund s.tmps 1))))) (intS (oneA (vT (nx tund s.tmps 6)))) (intS (oneA (vT (nx tund s.tmps 10)))) (intS (oneA (vT (nx tund s.tmps 11)))) (intS (oneA (vT (nx tund s.tmps 14)))) (intS (oneA (vT (nx tund s.tmps 15)))) (rLists (rowB_ (nx .dead s.blks 0)))) (none)
def LS27_2 (N : Nat) : LSpec β := VLS27_2 N (zj69 N)
def VE27 (N : Nat) (zq67 : (a0 : List (Int × Int)) → (a1 : Int) → (a2 : Int) → (k : Bool → O β) → O β) (zq71 : Nat → Int → List (Int × Int) → Int → Int → List (List Int) → (List (List Int) → O β) → O β) (zq69 : Nat → Int → List (Int × Int) → Int → Int → Int → Int → Int → List (List Int) → (Int → List (Int × Int) → Int → Int → List (List Int) → O β) → O β) : Env β := ⟨[(28, VS28 N zq67)], [], [(0, VLS27_0 N zq71), (2, VLS27_2 N zq69)], [], ⟨[], [], [], []⟩⟩
def E27 (N : Nat) : Env β := VE27 N (zj67 N) (zj71 N) (zj69 N)
def zb70 (N : Nat) (zq69 : Nat → Int → List (Int × Int) → Int → Int → Int → Int → Int → List (List Int) → (Int → List (Int × Int) → Int → Int → List (List Int) → O β) → O β)  (v0 : Int) (v1 : List (Int × Int)) (v2 : Int) (v3 : Int) (v4 : List (List Int)) (rec_ : Int → List (Int × Int) → Int → Int → List (List Int) → O β) (k0 : List (List Int) → O β) : O β :=
(cond ((decide (v3 < v2)))
(zq69  N v0 v1 v3 v2 v3 v0 0 v4 (fun e4_0 e4_1 e4_2 e4_3 e4_4 =>
rec_ e4_0 e4_1 e4_2 ((w64 (e4_3 + 1))) e4_4))
(k0 v4))
theorem zt70 (N : Nat)  (v0 : Int) (v1 : List (Int × Int)) (v2 : Int) (v3 : Int) (v4 : List (List Int)) (rec_ : Int → List (Int × Int) → Int → Int → List (List Int) → O β) (k0 : List (List Int) → O β) : zj70 N v0 v1 v2 v3 v4 rec_ k0 = zb70 N (zj69 N) v0 v1 v2 v3 v4 rec_ k0 := by
  unfold zj70 zb70
  rfl
theorem vst27_0_0 (N : Nat) (zq67 : (a0 : List (Int × Int)) → (a1 : Int) → (a2 : Int) → (k : Bool → O β) → O β) (zq71 : Nat → Int → List (Int × Int) → Int → Int → List (List Int) → (List (List Int) → O β) → O β) (zq69 : Nat → Int → List (Int × Int) → Int → Int → Int → Int → Int → List (List Int) → (Int → List (Int × Int) → Int → Int → List (List Int) → O β) → O β)  (v0 : Int) (v1 : List (Int × Int)) (v2 : Int) (v3 : Int) (v4 : List (List Int)) (rec_ : St → O β) (K : Exit → St → O β) :
    ev lay (VE27 N zq67 zq71 zq69) (retMask Tryz.f27) (lp Tryz.f27 0).body (lp Tryz.f27 0).ex ((lp Tryz.f27 0).lv (retMask Tryz.f27)) (h27_0_0  v0 v1 v2 v3 v4) (nextR (fun s' => rec_ (s'.tidy ((lp Tryz.f27 0).lv (retMask Tryz.f27)))) K) = zb70 N zq69  v0 v1 v2 v3 v4 (fun v0 v1 v2 v3 v4 => rec_ (h27_0_0  v0 v1 v2 v3 v4)) (fun y0 => K (.exit 0) (x27_0_0_k0  y0)) := by kernel_rfl
theorem st27_0_0 (N : Nat)  (v0 : Int) (v1 : List (Int × Int)) (v2 : Int) (v3 : Int) (v4 : List (List Int)) (rec_ : St → O β) (K : Exit → St → O β) :
    ev lay (E27 N) (retMask Tryz.f27) (lp Tryz.f27 0).body (lp Tryz.f27 0).ex ((lp Tryz.f27 0).lv (retMask Tryz.f27)) (h27_0_0  v0 v1 v2 v3 v4) (nextR (fun s' => rec_ (s'.tidy ((lp Tryz.f27 0).lv (retMask Tryz.f27)))) K) = zj70 N  v0 v1 v2 v3 v4 (fun v0 v1 v2 v3 v4 => rec_ (h27_0_0  v0 v1 v2 v3 v4)) (fun y0 => K (.exit 0) (x27_0_0_k0  y0)) := (vst27_0_0 N (zj67 N) (zj71 N) (zj69 N) v0 v1 v2 v3 v4 rec_ K).trans (zt70 N  v0 v1 v2 v3 v4 (fun v0 v1 v2 v3 v4 => rec_ (h27_0_0  v0 v1 v2 v3 v4)) (fun y0 => K (.exit 0) (x27_0_0_k0  y0))).symm
theorem ro27_0_0 (N : Nat)  (K : Exit → St → O β) : ∀ (F : Nat) (v0 : Int) (v1 : List (Int × Int)) (v2 : Int) (v3 : Int) (v4 : List (List Int)), (lp Tryz.f27 0).rounds lay (E27 N) (retMask Tryz.f27) F (h27_0_0  v0 v1 v2 v3 v4) K = zj71 N  F v0 v1 v2 v3 v4 (fun y0 => K (.exit 0) (x27_0_0_k0  y0)) := by
  intro F
  induction F with
  | zero => intros; rfl
  | succ F ih =>
    intros
    rw [rounds_next]
    refine (st27_0_0 N  _ _ _ _ _ (fun s => (lp Tryz.f27 0).rounds lay (E27 N) (retMask Tryz.f27) F s K) K).trans ?_
    simp only [ih]
    rfl
theorem lk27_0 (N : Nat) : lookL (E27 (β := β) N).loops (lp Tryz.f27 0).id = LS27_0 N := by kernel_rfl
theorem rk27_0 (N : Nat) : RoundsOK lay (E27 (β := β) N) (retMask Tryz.f27) (lp Tryz.f27 0) := by
  intro s K r h
  rw [lk27_0] at h
  unfold LS27_0 VLS27_0 at h
  cases hb : shpSt (h27_0_0 0 [] 0 0 []) s with
  | true =>
    rw [hb, cond_true] at h
    exact ⟨N, by rw [← shpSt_ref hb, fl27_0_0 s]; exact (ro27_0_0 N  K N (intS (oneA (vT (nx tund s.tmps 0)))) (rPairs (rowV (oneA (vT (nx tund s.tmps 1))))) (intS (oneA (vT (nx tund s.tmps 10)))) (intS (oneA (vT (nx tund s.tmps 11)))) (rLists (rowB_ (nx .dead s.blks 0)))).trans h⟩
  | false =>
  rw [hb, cond_false] at h
  clear hb
  cases h
def zb68 (N : Nat) (zq67 : (a0 : List (Int × Int)) → (a1 : Int) → (a2 : Int) → (k : Bool → O β) → O β)  (v0 : Int) (v1 : List (Int × Int)) (v2 : Int) (v3 : Int) (v4 : Int) (v5 : Int) (v6 : Int) (v7 : List (List Int)) (rec_ : Int → List (Int × Int) → Int → Int → Int → Int → Int → List (List Int) → O β) (k0 : Int → List (Int × Int) → Int → Int → List (List Int) → O β) : O β :=
(cond ((decide (v6 < v5)))
((gd ((decide (0 ≤ v6)))
((cond ((decide (v2 < (bits .xor .i64 v2 (shlI .i64 1 v6)))))
(zq67 v1 v2 ((bits .xor .i64 v2 (shlI .i64 1 v6))) fun r3 =>
(cond r3
((gd ((decide ((v7.length + ((([] : List (List Int)) ++ [((([] : List Int) ++ [v2]) ++ [(bits .xor .i64 v2 (shlI .i64 1 v6))])])).length) * 24 ≤ 140737488355328)))
(rec_ v0 v1 v2 v3 v4 v5 ((w64 (v6 + 1))) ((v7 ++ (([] : List (List Int)) ++ [((([] : List Int) ++ [v2]) ++ [(bits .xor .i64 v2 (shlI .i64 1 v6))])]))))))
(rec_ v0 v1 v2 v3 v4 v5 ((w64 (v6 + 1))) v7)))
(rec_ v0 v1 v2 v3 v4 v5 ((w64 (v6 + 1))) v7)))))
(k0 v0 v1 v3 v4 v7))
theorem zt68 (N : Nat)  (v0 : Int) (v1 : List (Int × Int)) (v2 : Int) (v3 : Int) (v4 : Int) (v5 : Int) (v6 : Int) (v7 : List (List Int)) (rec_ : Int → List (Int × Int) → Int → Int → Int → Int → Int → List (List Int) → O β) (k0 : Int → List (Int × Int) → Int → Int → List (List Int) → O β) : zj68 N v0 v1 v2 v3 v4 v5 v6 v7 rec_ k0 = zb68 N (zj67 N) v0 v1 v2 v3 v4 v5 v6 v7 rec_ k0 := by
  unfold zj68 zb68
  rfl
theorem vst27_1_0 (N : Nat) (zq67 : (a0 : List (Int × Int)) → (a1 : Int) → (a2 : Int) → (k : Bool → O β) → O β) (zq71 : Nat → Int → List (Int × Int) → Int → Int → List (List Int) → (List (List Int) → O β) → O β) (zq69 : Nat → Int → List (Int × Int) → Int → Int → Int → Int → Int → List (List Int) → (Int → List (Int × Int) → Int → Int → List (List Int) → O β) → O β)  (v0 : Int) (v1 : List (Int × Int)) (v2 : Int) (v3 : Int) (v4 : Int) (v5 : Int) (v6 : Int) (v7 : List (List Int)) (rec_ : St → O β) (K : Exit → St → O β) :
    ev lay (VE27 N zq67 zq71 zq69) (retMask Tryz.f27) (lp Tryz.f27 1).body (lp Tryz.f27 1).ex ((lp Tryz.f27 1).lv (retMask Tryz.f27)) (h27_1_0  v0 v1 v2 v3 v4 v5 v6 v7) (nextR (fun s' => rec_ (s'.tidy ((lp Tryz.f27 1).lv (retMask Tryz.f27)))) K) = zb68 N zq67  v0 v1 v2 v3 v4 v5 v6 v7 (fun v0 v1 v2 v3 v4 v5 v6 v7 => rec_ (h27_1_0  v0 v1 v2 v3 v4 v5 v6 v7)) (fun y0 y1 y2 y3 y4 => K (.exit 2) (x27_1_0_k0  y0 y1 y2 y3 y4)) := by kernel_rfl
theorem st27_1_0 (N : Nat)  (v0 : Int) (v1 : List (Int × Int)) (v2 : Int) (v3 : Int) (v4 : Int) (v5 : Int) (v6 : Int) (v7 : List (List Int)) (rec_ : St → O β) (K : Exit → St → O β) :
    ev lay (E27 N) (retMask Tryz.f27) (lp Tryz.f27 1).body (lp Tryz.f27 1).ex ((lp Tryz.f27 1).lv (retMask Tryz.f27)) (h27_1_0  v0 v1 v2 v3 v4 v5 v6 v7) (nextR (fun s' => rec_ (s'.tidy ((lp Tryz.f27 1).lv (retMask Tryz.f27)))) K) = zj68 N  v0 v1 v2 v3 v4 v5 v6 v7 (fun v0 v1 v2 v3 v4 v5 v6 v7 => rec_ (h27_1_0  v0 v1 v2 v3 v4 v5 v6 v7)) (fun y0 y1 y2 y3 y4 => K (.exit 2) (x27_1_0_k0  y0 y1 y2 y3 y4)) := (vst27_1_0 N (zj67 N) (zj71 N) (zj69 N) v0 v1 v2 v3 v4 v5 v6 v7 rec_ K).trans (zt68 N  v0 v1 v2 v3 v4 v5 v6 v7 (fun v0 v1 v2 v3 v4 v5 v6 v7 => rec_ (h27_1_0  v0 v1 v2 v3 v4 v5 v6 v7)) (fun y0 y1 y2 y3 y4 => K (.exit 2) (x27_1_0_k0  y0 y1 y2 y3 y4))).symm
theorem ro27_1_0 (N : Nat)  (K : Exit → St → O β) : ∀ (F : Nat) (v0 : Int) (v1 : List (Int × Int)) (v2 : Int) (v3 : Int) (v4 : Int) (v5 : Int) (v6 : Int) (v7 : List (List Int)), (lp Tryz.f27 1).rounds lay (E27 N) (retMask Tryz.f27) F (h27_1_0  v0 v1 v2 v3 v4 v5 v6 v7) K = zj69 N  F v0 v1 v2 v3 v4 v5 v6 v7 (fun y0 y1 y2 y3 y4 => K (.exit 2) (x27_1_0_k0  y0 y1 y2 y3 y4)) := by
  intro F
  induction F with
  | zero => intros; rfl
  | succ F ih =>
    intros
    rw [rounds_next]
    refine (st27_1_0 N  _ _ _ _ _ _ _ _ (fun s => (lp Tryz.f27 1).rounds lay (E27 N) (retMask Tryz.f27) F s K) K).trans ?_
    simp only [ih]
    rfl
theorem lk27_2 (N : Nat) : lookL (E27 (β := β) N).loops (lp Tryz.f27 1).id = LS27_2 N := by kernel_rfl
theorem rk27_2 (N : Nat) : RoundsOK lay (E27 (β := β) N) (retMask Tryz.f27) (lp Tryz.f27 1) := by
  intro s K r h
  rw [lk27_2] at h
  unfold LS27_2 VLS27_2 at h
  cases hb : shpSt (h27_1_0 0 [] 0 0 0 0 0 []) s with
  | true =>
    rw [hb, cond_true] at h
    exact ⟨N, by rw [← shpSt_ref hb, fl27_1_0 s]; exact (ro27_1_0 N  K N (intS (oneA (vT (nx tund s.tmps 0)))) (rPairs (rowV (oneA (vT (nx tund s.tmps 1))))) (intS (oneA (vT (nx tund s.tmps 6)))) (intS (oneA (vT (nx tund s.tmps 10)))) (intS (oneA (vT (nx tund s.tmps 11)))) (intS (oneA (vT (nx tund s.tmps 14)))) (intS (oneA (vT (nx tund s.tmps 15)))) (rLists (rowB_ (nx .dead s.blks 0)))).trans h⟩
  | false =>
  rw [hb, cond_false] at h
  clear hb
  cases h
def zb72 (N : Nat) (zq71 : Nat → Int → List (Int × Int) → Int → Int → List (List Int) → (List (List Int) → O β) → O β) (a0 : Int) (a1 : List (Int × Int)) (k : List (List Int) → O β) : O β :=
(gd ((decide (0 ≤ a0)))
(zq71  N a0 a1 ((shlI .i64 1 a0)) 0 (([] : List (List Int))) (fun e5_0 =>
k e5_0)))
theorem zt72 (N : Nat) (a0 : Int) (a1 : List (Int × Int)) (k : List (List Int) → O β) : zj72 N a0 a1 k = zb72 N (zj71 N) a0 a1 k := by
  unfold zj72 zb72
  rfl
theorem ve27_0 (N : Nat) (zq67 : (a0 : List (Int × Int)) → (a1 : Int) → (a2 : Int) → (k : Bool → O β) → O β) (zq71 : Nat → Int → List (Int × Int) → Int → Int → List (List Int) → (List (List Int) → O β) → O β) (zq69 : Nat → Int → List (Int × Int) → Int → Int → Int → Int → Int → List (List Int) → (Int → List (Int × Int) → Int → Int → List (List Int) → O β) → O β)  (a0 : Int) (a1 : List (Int × Int)) (K : TV → O β) : evFn lay (VE27 N zq67 zq71 zq69) Tryz.f27 [.v (.one (.int .i64 a0)), .v (.one (.sl 50 (.pairs a1)))] K = zb72 N zq71 a0 a1 (fun z2 => K (.v (.one (.sl 40 (.lists 3 z2))))) := by kernel_rfl
theorem e27_0 (N : Nat)  (a0 : Int) (a1 : List (Int × Int)) (K : TV → O β) : evFn lay (E27 N) Tryz.f27 [.v (.one (.int .i64 a0)), .v (.one (.sl 50 (.pairs a1)))] K = zj72 N a0 a1 (fun z2 => K (.v (.one (.sl 40 (.lists 3 z2))))) := (ve27_0 N (zj67 N) (zj71 N) (zj69 N) a0 a1 K).trans (zt72 N a0 a1 (fun z2 => K (.v (.one (.sl 40 (.lists 3 z2)))))).symm
theorem o27 (N : Nat) : SpecOK (β := β) inv Tryz.prog 27 (S27 N) := by
  refine spec_of lay_ok mixed (E := E27 N) (specs_loops (specs_cons (o28 N) specs_nil)) muts_nil gs_nil Tryz.func27 (by kernel_rfl) 2 (by kernel_rfl) ⟨⟨trivial, rk27_0 N⟩, rk27_2 N⟩ fun args K r h => ?_
  unfold S27 VS27 at h
  split at h
  · exact (e27_0 N _ _ _).trans h
  · cases h
def VS6 (N : Nat) (zq75 : (a0 : Int) → (a1 : List (Int × Int)) → (k : List (Int × Int) → Bool → O β) → O β) : Rv.Spec β := fun args K => match args with
  | [.v (.one (.int .i64 a0)), .v (.one (.sl 50 (.pairs a1)))] => zq75 a0 a1 (fun z2 z3 => K (.tup [.one (.sl 50 (.pairs z2)), .one (.bool z3)]))
  | _ => none
def S6 (N : Nat) : Rv.Spec β := VS6 N (zj75 N)
def h6_0_0  (v0 : Int) (v1 : Int) (v2 : Int) (v3 : List (Int × Int)) (v4 : List (List Int)) : St := ⟨.v (.one (.int .i64 v0)) :: tund :: tund :: tund :: tund :: tund :: .v (.one (.row 0)) :: tund :: tund :: tund :: tund :: tund :: tund :: tund :: tund :: tund :: tund :: .v (.one (.row 1)) :: .v (.one (.int .i64 v1)) :: .v (.one (.int .i64 v2)) :: tund :: tund :: tund :: tund :: tund :: tund :: tund :: tund :: tund :: tund :: tund :: tund :: tund :: tund :: tund :: tund :: tund :: tund :: tund :: tund :: tund :: tund :: tund :: tund :: tund :: tund :: tund :: tund :: tund :: tund :: tund :: [], [.row 50 (.pairs v3), .row 40 (.lists 3 v4)]⟩
def x6_0_0_k0  (y0 : List (Int × Int)) : St := ⟨tund :: tund :: tund :: tund :: tund :: tund :: .v (.one (.row 0)) :: tund :: tund :: tund :: tund :: tund :: tund :: tund :: tund :: tund :: tund :: tund :: tund :: tund :: tund :: tund :: tund :: tund :: tund :: tund :: tund :: tund :: tund :: tund :: tund :: tund :: tund :: tund :: tund :: tund :: tund :: tund :: tund :: tund :: tund :: tund :: tund :: tund :: tund :: tund :: tund :: tund :: tund :: tund :: tund :: [], [.row 50 (.pairs y0)]⟩
theorem fl6_0_0 (s : St) : refSt (h6_0_0 0 0 0 [] []) s = h6_0_0 (intS (oneA (vT (nx tund s.tmps 0)))) (intS (oneA (vT (nx tund s.tmps 18)))) (intS (oneA (vT (nx tund s.tmps 19)))) (rPairs (rowB_ (nx .dead s.blks 0))) (rLists (rowB_ (nx .dead s.blks 1))) := by kernel_rfl
def VLS6_0 (N : Nat) (zq74 : Nat → Int → Int → Int → List (Int × Int) → List (List Int) → (List (Int × Int) → O β) → O β) : LSpec β := fun s K => cond (shpSt (h6_0_0 0 0 0 [] []) s) ((fun (v0 : Int) (v1 : Int) (v2 : Int) (v3 : List (Int × Int)) (v4 : List (List Int)) => zq74  N v0 v1 v2 v3 v4 (fun y0 => K (.exit 0) (x6_0_0_k0  y0))) (intS (oneA (vT (nx tund s.tmps 0)))) (intS (oneA (vT (nx tund s.tmps 18)))) (intS (oneA (vT (nx tund s.tmps 19)))) (rPairs (rowB_ (nx .dead s.blks 0))) (rLists (rowB_ (nx .dead s.blks 1)))) (none)
def LS6_0 (N : Nat) : LSpec β := VLS6_0 N (zj74 N)
def VE6 (N : Nat) (zq64 : (a0 : Int) → (a1 : List (Int × Int)) → (k : Bool → O β) → O β) (zq72 : (a0 : Int) → (a1 : List (Int × Int)) → (k : List (List Int) → O β) → O β) (zq67 : (a0 : List (Int × Int)) → (a1 : Int) → (a2 : Int) → (k : Bool → O β) → O β) (zq74 : Nat → Int → Int → Int → List (Int × Int) → List (List Int) → (List (Int × Int) → O β) → O β) : Env β := ⟨[(25, VS25 N zq64), (26, S26 N), (27, VS27 N zq72), (28, VS28 N zq67)], [], [(0, VLS6_0 N zq74)], [], ⟨[], [], [], []⟩⟩
def E6 (N : Nat) : Env β := VE6 N (zj64 N) (zj72 N) (zj67 N) (zj74 N)
def zb73 (N : Nat) (zq67 : (a0 : List (Int × Int)) → (a1 : Int) → (a2 : Int) → (k : Bool → O β) → O β)  (v0 : Int) (v1 : Int) (v2 : Int) (v3 : List (Int × Int)) (v4 : List (List Int)) (rec_ : Int → Int → Int → List (Int × Int) → List (List Int) → O β) (k0 : List (Int × Int) → O β) : O β :=
(cond ((decide (v2 < v1)))
((gd ((decide (0 ≤ v2)))
((gd ((decide (v2 < (v4.length : Int))))
((gd ((decide (0 < (((rd [] v4 v2)).length : Int))))
((gd ((decide (1 < (((rd [] v4 v2)).length : Int))))
(zq67 v3 ((rd 0 ((rd [] v4 v2)) 0)) ((rd 0 ((rd [] v4 v2)) 1)) fun r7 =>
(cond r7
((gd ((decide (0 ≤ v0)))
((gd ((decide (0 < (((rd [] v4 v2)).length : Int))))
((gd ((decide (1 < (((rd [] v4 v2)).length : Int))))
((gd ((decide (0 < (((rd [] v4 v2)).length : Int))))
((gd ((decide ((v3.length + ((([] : List (Int × Int)) ++ [((bits .andNot .i64 (w64 ((shlI .i64 1 v0) - 1)) (bits .xor .i64 (rd 0 ((rd [] v4 v2)) 0) (rd 0 ((rd [] v4 v2)) 1))), (rd 0 ((rd [] v4 v2)) 0))])).length) * 16 ≤ 140737488355328)))
(rec_ v0 v1 ((w64 (v2 + 1))) ((v3 ++ (([] : List (Int × Int)) ++ [((bits .andNot .i64 (w64 ((shlI .i64 1 v0) - 1)) (bits .xor .i64 (rd 0 ((rd [] v4 v2)) 0) (rd 0 ((rd [] v4 v2)) 1))), (rd 0 ((rd [] v4 v2)) 0))]))) v4)))))))))))
(rec_ v0 v1 ((w64 (v2 + 1))) v3 v4)))))))))))
(k0 v3))
theorem zt73 (N : Nat)  (v0 : Int) (v1 : Int) (v2 : Int) (v3 : List (Int × Int)) (v4 : List (List Int)) (rec_ : Int → Int → Int → List (Int × Int) → List (List Int) → O β) (k0 : List (Int × Int) → O β) : zj73 N v0 v1 v2 v3 v4 rec_ k0 = zb73 N (zj67 N) v0 v1 v2 v3 v4 rec_ k0 := by
  unfold zj73 zb73
  rfl
theorem vst6_0_0 (N : Nat) (zq64 : (a0 : Int) → (a1 : List (Int × Int)) → (k : Bool → O β) → O β) (zq72 : (a0 : Int) → (a1 : List (Int × Int)) → (k : List (List Int) → O β) → O β) (zq67 : (a0 : List (Int × Int)) → (a1 : Int) → (a2 : Int) → (k : Bool → O β) → O β) (zq74 : Nat → Int → Int → Int → List (Int × Int) → List (List Int) → (List (Int × Int) → O β) → O β)  (v0 : Int) (v1 : Int) (v2 : Int) (v3 : List (Int × Int)) (v4 : List (List Int)) (rec_ : St → O β) (K : Exit → St → O β) :
    ev lay (VE6 N zq64 zq72 zq67 zq74) (retMask Tryz.f6) (lp Tryz.f6 0).body (lp Tryz.f6 0).ex ((lp Tryz.f6 0).lv (retMask Tryz.f6)) (h6_0_0  v0 v1 v2 v3 v4) (nextR (fun s' => rec_ (s'.tidy ((lp Tryz.f6 0).lv (retMask Tryz.f6)))) K) = zb73 N zq67  v0 v1 v2 v3 v4 (fun v0 v1 v2 v3 v4 => rec_ (h6_0_0  v0 v1 v2 v3 v4)) (fun y0 => K (.exit 0) (x6_0_0_k0  y0)) := by kernel_rfl
theorem st6_0_0 (N : Nat)  (v0 : Int) (v1 : Int) (v2 : Int) (v3 : List (Int × Int)) (v4 : List (List Int)) (rec_ : St → O β) (K : Exit → St → O β) :
    ev lay (E6 N) (retMask Tryz.f6) (lp Tryz.f6 0).body (lp Tryz.f6 0).ex ((lp Tryz.f6 0).lv (retMask Tryz.f6)) (h6_0_0  v0 v1 v2 v3 v4) (nextR (fun s' => rec_ (s'.tidy ((lp Tryz.f6 0).lv (retMask Tryz.f6)))) K) = zj73 N  v0 v1 v2 v3 v4 (fun v0 v1 v2 v3 v4 => rec_ (h6_0_0  v0 v1 v2 v3 v4)) (fun y0 => K (.exit 0) (x6_0_0_k0  y0)) := (vst6_0_0 N (zj64 N) (zj72 N) (zj67 N) (zj74 N) v0 v1 v2 v3 v4 rec_ K).trans (zt73 N  v0 v1 v2 v3 v4 (fun v0 v1 v2 v3 v4 => rec_ (h6_0_0  v0 v1 v2 v3 v4)) (fun y0 => K (.exit 0) (x6_0_0_k0  y0))).symm
theorem ro6_0_0 (N : Nat)  (K : Exit → St → O β) : ∀ (F : Nat) (v0 : Int) (v1 : Int) (v2 : Int) (v3 : List (Int × Int)) (v4 : List (List Int)), (lp Tryz.f6 0).rounds lay (E6 N) (retMask Tryz.f6) F (h6_0_0  v0 v1 v2 v3 v4) K = zj74 N  F v0 v1 v2 v3 v4 (fun y0 => K (.exit 0) (x6_0_0_k0  y0)) := by
  intro F
  induction F with
  | zero => intros; rfl
  | succ F ih =>
    intros
    rw [rounds_next]
    refine (st6_0_0 N  _ _ _ _ _ (fun s => (lp Tryz.f6 0).rounds lay (E6 N) (retMask Tryz.f6) F s K) K).trans ?_
    simp only [ih]
    rfl
theorem lk6_0 (N : Nat) : lookL (E6 (β := β) N).loops (lp Tryz.f6 0).id = LS6_0 N := by kernel_rfl
theorem rk6_0 (N : Nat) : RoundsOK lay (E6 (β := β) N) (retMask Tryz.f6) (lp Tryz.f6 0) := by
  intro s K r h
  rw [lk6_0] at h
  unfold LS6_0 VLS6_0 at h
  cases hb : shpSt (h6_0_0 0 0 0 [] []) s with
  | true =>
    rw [hb, cond_true] at h
    exact ⟨N, by rw [← shpSt_ref hb, fl6_0_0 s]; exact (ro6_0_0 N  K N (intS (oneA (vT (nx tund s.tmps 0)))) (intS (oneA (vT (nx tund s.tmps 18)))) (intS (oneA (vT (nx tund s.tmps 19)))) (rPairs (rowB_ (nx .dead s.blks 0))) (rLists (rowB_ (nx .dead s.blks 1)))).trans h⟩
  | false =>
  rw [hb, cond_false] at h
  clear hb
  cases h
def zb75 (N : Nat) (zq64 : (a0 : Int) → (a1 : List (Int × Int)) → (k : Bool → O β) → O β) (zq72 : (a0 : Int) → (a1 : List (Int × Int)) → (k : List (List Int) → O β) → O β) (zq74 : Nat → Int → Int → Int → List (Int × Int) → List (List Int) → (List (Int × Int) → O β) → O β) (a0 : Int) (a1 : List (Int × Int)) (k : List (Int × Int) → Bool → O β) : O β :=
zq64 a0 a1 fun r4 =>
(cond (!r4)
(k (([] : List (Int × Int))) false)
(slices_Clone_Simpl_Term_impl_Term N a1 fun r5 =>
zq72 a0 a1 fun r6 =>
zq74  N a0 ((r6.length : Int)) 0 r5 r6 (fun e8_0 =>
k e8_0 true)))
theorem zt75 (N : Nat) (a0 : Int) (a1 : List (Int × Int)) (k : List (Int × Int) → Bool → O β) : zj75 N a0 a1 k = zb75 N (zj64 N) (zj72 N) (zj74 N) a0 a1 k := by
  unfold zj75 zb75
  rfl
theorem ve6_0 (N : Nat) (zq64 : (a0 : Int) → (a1 : List (Int × Int)) → (k : Bool → O β) → O β) (zq72 : (a0 : Int) → (a1 : List (Int × Int)) → (k : List (List Int) → O β) → O β) (zq67 : (a0 : List (Int × Int)) → (a1 : Int) → (a2 : Int) → (k : Bool → O β) → O β) (zq74 : Nat → Int → Int → Int → List (Int × Int) → List (List Int) → (List (Int × Int) → O β) → O β)  (a0 : Int) (a1 : List (Int × Int)) (K : TV → O β) : evFn lay (VE6 N zq64 zq72 zq67 zq74) Tryz.f6 [.v (.one (.int .i64 a0)), .v (.one (.sl 50 (.pairs a1)))] K = zb75 N zq64 zq72 zq74 a0 a1 (fun z2 z3 => K (.tup [.one (.sl 50 (.pairs z2)), .one (.bool z3)])) := by kernel_rfl
theorem e6_0 (N : Nat)  (a0 : Int) (a1 : List (Int × Int)) (K : TV → O β) : evFn lay (E6 N) Tryz.f6 [.v (.one (.int .i64 a0)), .v (.one (.sl 50 (.pairs a1)))] K = zj75 N a0 a1 (fun z2 z3 => K (.tup [.one (.sl 50 (.pairs z2)), .one (.bool z3)])) := (ve6_0 N (zj64 N) (zj72 N) (zj67 N) (zj74 N) a0 a1 K).trans (zt75 N a0 a1 (fun z2 z3 => K (.tup [.one (.sl 50 (.pairs z2)), .one (.bool z3)]))).symm
theorem o6 (N : Nat) : SpecOK (β := β) inv Tryz.prog 6 (S6 N) := by
  refine spec_of lay_ok mixed (E := E6 N) (specs_loops (specs_cons (o25 N) (specs_cons (o26 N) (specs_cons (o27 N) (specs_cons (o28 N) specs_nil))))) muts_nil gs_nil Tryz.func6 (by kernel_rfl) 1 (by kernel_rfl) ⟨trivial, rk6_0 N⟩ fun args K r h => ?_
  unfold S6 VS6 at h
  split at h
  · exact (e6_0 N _ _ _).trans h
  · cases h
def VS50 (N : Nat) (zq76 : (a0 : Int) → (a1 : Int) → (a2 : Int) → (k : Bool → O β) → O β) : Rv.Spec β := fun args K => match args with
  | [.v (.one (.int .i64 a0)), .v (.agg [.int .i64 a1, .int .i64 a2])] => zq76 a0 a1 a2 (fun z3 => K (.v (.one (.bool z3))))
  | _ => none
def S50 (N : Nat) : Rv.Spec β := VS50 N (zj76 N)
def VE50 (N : Nat) (zq4 : (a0 : Int) → (a1 : Int) → (a2 : Int) → (k : Bool → O β) → O β) : Env β := ⟨[(46, VS46 N zq4)], [], [], [], ⟨[], [], [], []⟩⟩
def E50 (N : Nat) : Env β := VE50 N (zj4 N)
def zb76 (N : Nat) (zq4 : (a0 : Int) → (a1 : Int) → (a2 : Int) → (k : Bool → O β) → O β) (a0 : Int) (a1 : Int) (a2 : Int) (k : Bool → O β) : O β :=
zq4 a0 0 5 fun r4 =>
(cond r4
((gd ((decide (0 ≤ a0)))
(zq4 a1 0 ((w64 ((shlI .i64 1 a0) - 1))) fun r5 =>
(cond r5
(zq4 a2 0 a1 fun r6 =>
(cond r6
(k (((bits .and .i64 a2 a1) == a2)))
(k false)))
(k false)))))
(k false))
theorem zt76 (N : Nat) (a0 : Int) (a1 : Int) (a2 : Int) (k : Bool → O β) : zj76 N a0 a1 a2 k = zb76 N (zj4 N) a0 a1 a2 k := by
  unfold zj76 zb76
  rfl
theorem ve50_0 (N : Nat) (zq4 : (a0 : Int) → (a1 : Int) → (a2 : Int) → (k : Bool → O β) → O β)  (a0 : Int) (a1 : Int) (a2 : Int) (K : TV → O β) : evFn lay (VE50 N zq4) Tryz.f50 [.v (.one (.int .i64 a0)), .v (.agg [.int .i64 a1, .int .i64 a2])] K = zb76 N zq4 a0 a1 a2 (fun z3 => K (.v (.one (.bool z3)))) := by kernel_rfl
theorem e50_0 (N : Nat)  (a0 : Int) (a1 : Int) (a2 : Int) (K : TV → O β) : evFn lay (E50 N) Tryz.f50 [.v (.one (.int .i64 a0)), .v (.agg [.int .i64 a1, .int .i64 a2])] K = zj76 N a0 a1 a2 (fun z3 => K (.v (.one (.bool z3)))) := (ve50_0 N (zj4 N) a0 a1 a2 K).trans (zt76 N a0 a1 a2 (fun z3 => K (.v (.one (.bool z3))))).symm
theorem o50 (N : Nat) : SpecOK (β := β) inv Tryz.prog 50 (S50 N) := by
  refine spec_of lay_ok mixed (E := E50 N) (specs_loops (specs_cons (o46 N) specs_nil)) muts_nil gs_nil Tryz.func50 (by kernel_rfl) 0 (by kernel_rfl) trivial fun args K r h => ?_
  unfold S50 VS50 at h
  split at h
  · exact (e50_0 N _ _ _ _).trans h
  · cases h
def VS30 (N : Nat) (zq79 : (a0 : Int) → (a1 : List (Int × Int)) → (k : Bool → O β) → O β) : Rv.Spec β := fun args K => match args with
  | [.v (.one (.int .i64 a0)), .v (.one (.sl 50 (.pairs a1)))] => zq79 a0 a1 (fun z2 => K (.v (.one (.bool z2))))
  | _ => none
def S30 (N : Nat) : Rv.Spec β := VS30 N (zj79 N)
def h30_0_0  (v0 : Int) (v1 : List (Int × Int)) (v2 : Int) : St := ⟨.v (.one (.int .i64 v0)) :: .v (.one (.sl 50 (.pairs v1))) :: tund :: tund :: tund :: .v (.one (.int .i64 v2)) :: tund :: tund :: tund :: tund :: tund :: tund :: tund :: tund :: tund :: tund :: tund :: tund :: tund :: tund :: tund :: tund :: tund :: tund :: tund :: tund :: [], []⟩
def x30_0_0_k0  (y0 : Bool) : St := ⟨tund :: tund :: tund :: tund :: .v (.one (.bool y0)) :: tund :: tund :: tund :: tund :: tund :: tund :: tund :: tund :: tund :: tund :: tund :: tund :: tund :: tund :: tund :: tund :: tund :: tund :: tund :: tund :: tund :: [], []⟩
def x30_0_0_k1  (y0 : Int) (y1 : List (Int × Int)) : St := ⟨.v (.one (.int .i64 y0)) :: .v (.one (.sl 50 (.pairs y1))) :: tund :: tund :: tund :: tund :: tund :: tund :: tund :: tund :: tund :: tund :: tund :: tund :: tund :: tund :: tund :: tund :: tund :: tund :: tund :: tund :: tund :: tund :: tund :: tund :: [], []⟩
theorem fl30_0_0 (s : St) : refSt (h30_0_0 0 [] 0) s = h30_0_0 (intS (oneA (vT (nx tund s.tmps 0)))) (rPairs (rowV (oneA (vT (nx tund s.tmps 1))))) (intS (oneA (vT (nx tund s.tmps 5)))) := by kernel_rfl
def VLS30_0 (N : Nat) (zq78 : Nat → Int → List (Int × Int) → Int → (Bool → O β) → (Int → List (Int × Int) → O β) → O β) : LSpec β := fun s K => cond (shpSt (h30_0_0 0 [] 0) s) ((fun (v0 : Int) (v1 : List (Int × Int)) (v2 : Int) => zq78  N v0 v1 v2 (fun y0 => K .ret (x30_0_0_k0  y0)) (fun y0 y1 => K (.exit 0) (x30_0_0_k1  y0 y1))) (intS (oneA (vT (nx tund s.tmps 0)))) (rPairs (rowV (oneA (vT (nx tund s.tmps 1))))) (intS (oneA (vT (nx tund s.tmps 5))))) (none)
def LS30_0 (N : Nat) : LSpec β := VLS30_0 N (zj78 N)
def VE30 (N : Nat) (zq76 : (a0 : Int) → (a1 : Int) → (a2 : Int) → (k : Bool → O β) → O β) (zq4 : (a0 : Int) → (a1 : Int) → (a2 : Int) → (k : Bool → O β) → O β) (zq78 : Nat → Int → List (Int × Int) → Int → (Bool → O β) → (Int → List (Int × Int) → O β) → O β) : Env β := ⟨[(50, VS50 N zq76), (46, VS46 N zq4)], [], [(0, VLS30_0 N zq78)], [], ⟨[], [], [], []⟩⟩
def E30 (N : Nat) : Env β := VE30 N (zj76 N) (zj4 N) (zj78 N)
def zb77 (N : Nat) (zq76 : (a0 : Int) → (a1 : Int) → (a2 : Int) → (k : Bool → O β) → O β)  (v0 : Int) (v1 : List (Int × Int)) (v2 : Int) (rec_ : Int → List (Int × Int) → Int → O β) (k0 : Bool → O β) (k1 : Int → List (Int × Int) → O β) : O β :=
(cond ((decide (v2 < (v1.length : Int))))
((gd ((decide (0 ≤ v2)))
((gd ((decide (v2 < (v1.length : Int))))
(zq76 v0 ((rd (0, 0) v1 v2).1) ((rd (0, 0) v1 v2).2) fun r3 =>
(cond (!r3)
(k0 false)
(rec_ v0 v1 ((w64 (v2 + 1))))))))))
(k1 v0 v1))
theorem zt77 (N : Nat)  (v0 : Int) (v1 : List (Int × Int)) (v2 : Int) (rec_ : Int → List (Int × Int) → Int → O β) (k0 : Bool → O β) (k1 : Int → List (Int × Int) → O β) : zj77 N v0 v1 v2 rec_ k0 k1 = zb77 N (zj76 N) v0 v1 v2 rec_ k0 k1 := by
  unfold zj77 zb77
  rfl
theorem vst30_0_0 (N : Nat) (zq76 : (a0 : Int) → (a1 : Int) → (a2 : Int) → (k : Bool → O β) → O β) (zq4 : (a0 : Int) → (a1 : Int) → (a2 : Int) → (k : Bool → O β) → O β) (zq78 : Nat → Int → List (Int × Int) → Int → (Bool → O β) → (Int → List (Int × Int) → O β) → O β)  (v0 : Int) (v1 : List (Int × Int)) (v2 : Int) (rec_ : St → O β) (K : Exit → St → O β) :
    ev lay (VE30 N zq76 zq4 zq78) (retMask Tryz.f30) (lp Tryz.f30 0).body (lp Tryz.f30 0).ex ((lp Tryz.f30 0).lv (retMask Tryz.f30)) (h30_0_0  v0 v1 v2) (nextR (fun s' => rec_ (s'.tidy ((lp Tryz.f30 0).lv (retMask Tryz.f30)))) K) = zb77 N zq76  v0 v1 v2 (fun v0 v1 v2 => rec_ (h30_0_0  v0 v1 v2)) (fun y0 => K .ret (x30_0_0_k0  y0)) (fun y0 y1 => K (.exit 0) (x30_0_0_k1  y0 y1)) := by kernel_rfl
theorem st30_0_0 (N : Nat)  (v0 : Int) (v1 : List (Int × Int)) (v2 : Int) (rec_ : St → O β) (K : Exit → St → O β) :
    ev lay (E30 N) (retMask Tryz.f30) (lp Tryz.f30 0).body (lp Tryz.f30 0).ex ((lp Tryz.f30 0).lv (retMask Tryz.f30)) (h30_0_0  v0 v1 v2) (nextR (fun s' => rec_ (s'.tidy ((lp Tryz.f30 0).lv (retMask Tryz.f30)))) K) = zj77 N  v0 v1 v2 (fun v0 v1 v2 => rec_ (h30_0_0  v0 v1 v2)) (fun y0 => K .ret (x30_0_0_k0  y0)) (fun y0 y1 => K (.exit 0) (x30_0_0_k1  y0 y1)) := (vst30_0_0 N (zj76 N) (zj4 N) (zj78 N) v0 v1 v2 rec_ K).trans (zt77 N  v0 v1 v2 (fun v0 v1 v2 => rec_ (h30_0_0  v0 v1 v2)) (fun y0 => K .ret (x30_0_0_k0  y0)) (fun y0 y1 => K (.exit 0) (x30_0_0_k1  y0 y1))).symm
theorem ro30_0_0 (N : Nat)  (K : Exit → St → O β) : ∀ (F : Nat) (v0 : Int) (v1 : List (Int × Int)) (v2 : Int), (lp Tryz.f30 0).rounds lay (E30 N) (retMask Tryz.f30) F (h30_0_0  v0 v1 v2) K = zj78 N  F v0 v1 v2 (fun y0 => K .ret (x30_0_0_k0  y0)) (fun y0 y1 => K (.exit 0) (x30_0_0_k1  y0 y1)) := by
  intro F
  induction F with
  | zero => intros; rfl
  | succ F ih =>
    intros
    rw [rounds_next]
    refine (st30_0_0 N  _ _ _ (fun s => (lp Tryz.f30 0).rounds lay (E30 N) (retMask Tryz.f30) F s K) K).trans ?_
    simp only [ih]
    rfl
theorem lk30_0 (N : Nat) : lookL (E30 (β := β) N).loops (lp Tryz.f30 0).id = LS30_0 N := by kernel_rfl
theorem rk30_0 (N : Nat) : RoundsOK lay (E30 (β := β) N) (retMask Tryz.f30) (lp Tryz.f30 0) := by
  intro s K r h
  rw [lk30_0] at h
  unfold LS30_0 VLS30_0 at h
  cases hb : shpSt (h30_0_0 0 [] 0) s with
  | true =>
    rw [hb, cond_true] at h
    exact ⟨N, by rw [← shpSt_ref hb, fl30_0_0 s]; exact (ro30_0_0 N  K N (intS (oneA (vT (nx tund s.tmps 0)))) (rPairs (rowV (oneA (vT (nx tund s.tmps 1))))) (intS (oneA (vT (nx tund s.tmps 5))))).trans h⟩
  | false =>
  rw [hb, cond_false] at h
  clear hb
  cases h
def zb79 (N : Nat) (zq78 : Nat → Int → List (Int × Int) → Int → (Bool → O β) → (Int → List (Int × Int) → O β) → O β) (zq4 : (a0 : Int) → (a1 : Int) → (a2 : Int) → (k : Bool → O β) → O β) (a0 : Int) (a1 : List (Int × Int)) (k : Bool → O β) : O β :=
zq78  N a0 a1 0 (fun e4_0 =>
k e4_0) (fun e5_0 e5_1 =>
zq4 e5_0 0 5 fun r6 =>
(cond r6
(k ((decide ((e5_1.length : Int) ≤ 40))))
(k false)))
theorem zt79 (N : Nat) (a0 : Int) (a1 : List (Int × Int)) (k : Bool → O β) : zj79 N a0 a1 k = zb79 N (zj78 N) (zj4 N) a0 a1 k := by
  unfold zj79 zb79
  rfl
theorem ve30_0 (N : Nat) (zq76 : (a0 : Int) → (a1 : Int) → (a2 : Int) → (k : Bool → O β) → O β) (zq4 : (a0 : Int) → (a1 : Int) → (a2 : Int) → (k : Bool → O β) → O β) (zq78 : Nat → Int → List (Int × Int) → Int → (Bool → O β) → (Int → List (Int × Int) → O β) → O β)  (a0 : Int) (a1 : List (Int × Int)) (K : TV → O β) : evFn lay (VE30 N zq76 zq4 zq78) Tryz.f30 [.v (.one (.int .i64 a0)), .v (.one (.sl 50 (.pairs a1)))] K = zb79 N zq78 zq4 a0 a1 (fun z2 => K (.v (.one (.bool z2)))) := by kernel_rfl
theorem e30_0 (N : Nat)  (a0 : Int) (a1 : List (Int × Int)) (K : TV → O β) : evFn lay (E30 N) Tryz.f30 [.v (.one (.int .i64 a0)), .v (.one (.sl 50 (.pairs a1)))] K = zj79 N a0 a1 (fun z2 => K (.v (.one (.bool z2)))) := (ve30_0 N (zj76 N) (zj4 N) (zj78 N) a0 a1 K).trans (zt79 N a0 a1 (fun z2 => K (.v (.one (.bool z2))))).symm
theorem o30 (N : Nat) : SpecOK (β := β) inv Tryz.prog 30 (S30 N) := by
  refine spec_of lay_ok mixed (E := E30 N) (specs_loops (specs_cons (o50 N) (specs_cons (o46 N) specs_nil))) muts_nil gs_nil Tryz.func30 (by kernel_rfl) 1 (by kernel_rfl) ⟨trivial, rk30_0 N⟩ fun args K r h => ?_
  unfold S30 VS30 at h
  split at h
  · exact (e30_0 N _ _ _).trans h
  · cases h
def VS29 (N : Nat) (zq82 : (a0 : List (Int × Int)) → (a1 : Int) → (a2 : Int) → (k : Bool → O β) → O β) : Rv.Spec β := fun args K => match args with
  | [.v (.one (.sl 50 (.pairs a0))), .v (.one (.int .i64 a1)), .v (.one (.int .i64 a2))] => zq82 a0 a1 a2 (fun z3 => K (.v (.one (.bool z3))))
  | _ => none
def S29 (N : Nat) : Rv.Spec β := VS29 N (zj82 N)
def h29_0_0  (v0 : List (Int × Int)) (v1 : Int) (v2 : Int) (v3 : Bool) (v4 : Bool) (v5 : Int) : St := ⟨.v (.one (.sl 50 (.pairs v0))) :: .v (.one (.int .i64 v1)) :: .v (.one (.int .i64 v2)) :: tund :: tund :: tund :: tund :: .v (.one (.bool v3)) :: .v (.one (.bool v4)) :: .v (.one (.int .i64 v5)) :: tund :: tund :: tund :: tund :: tund :: tund :: tund :: tund :: tund :: tund :: tund :: tund :: tund :: tund :: tund :: tund :: tund :: tund :: tund :: tund :: tund :: tund :: tund :: tund :: tund :: tund :: tund :: tund :: tund :: tund :: tund :: tund :: tund :: tund :: tund :: tund :: tund :: tund :: tund :: tund :: tund :: tund :: tund :: tund :: tund :: tund :: tund :: tund :: tund :: tund :: [], []⟩
def x29_0_0_k0  (y0 : Bool) : St := ⟨tund :: tund :: tund :: tund :: tund :: tund :: .v (.one (.bool y0)) :: tund :: tund :: tund :: tund :: tund :: tund :: tund :: tund :: tund :: tund :: tund :: tund :: tund :: tund :: tund :: tund :: tund :: tund :: tund :: tund :: tund :: tund :: tund :: tund :: tund :: tund :: tund :: tund :: tund :: tund :: tund :: tund :: tund :: tund :: tund :: tund :: tund :: tund :: tund :: tund :: tund :: tund :: tund :: tund :: tund :: tund :: tund :: tund :: tund :: tund :: tund :: tund :: tund :: [], []⟩
def x29_0_0_k1  (y0 : Bool) (y1 : Bool) : St := ⟨tund :: tund :: tund :: tund :: tund :: tund :: tund :: .v (.one (.bool y0)) :: .v (.one (.bool y1)) :: tund :: tund :: tund :: tund :: tund :: tund :: tund :: tund :: tund :: tund :: tund :: tund :: tund :: tund :: tund :: tund :: tund :: tund :: tund :: tund :: tund :: tund :: tund :: tund :: tund :: tund :: tund :: tund :: tund :: tund :: tund :: tund :: tund :: tund :: tund :: tund :: tund :: tund :: tund :: tund :: tund :: tund :: tund :: tund :: tund :: tund :: tund :: tund :: tund :: tund :: tund :: [], []⟩
theorem fl29_0_0 (s : St) : refSt (h29_0_0 [] 0 0 false false 0) s = h29_0_0 (rPairs (rowV (oneA (vT (nx tund s.tmps 0))))) (intS (oneA (vT (nx tund s.tmps 1)))) (intS (oneA (vT (nx tund s.tmps 2)))) (boolS (oneA (vT (nx tund s.tmps 7)))) (boolS (oneA (vT (nx tund s.tmps 8)))) (intS (oneA (vT (nx tund s.tmps 9)))) := by kernel_rfl
def VLS29_0 (N : Nat) (zq81 : Nat → List (Int × Int) → Int → Int → Bool → Bool → Int → (Bool → O β) → (Bool → Bool → O β) → O β) : LSpec β := fun s K => cond (shpSt (h29_0_0 [] 0 0 false false 0) s) ((fun (v0 : List (Int × Int)) (v1 : Int) (v2 : Int) (v3 : Bool) (v4 : Bool) (v5 : Int) => zq81  N v0 v1 v2 v3 v4 v5 (fun y0 => K .ret (x29_0_0_k0  y0)) (fun y0 y1 => K (.exit 0) (x29_0_0_k1  y0 y1))) (rPairs (rowV (oneA (vT (nx tund s.tmps 0))))) (intS (oneA (vT (nx tund s.tmps 1)))) (intS (oneA (vT (nx tund s.tmps 2)))) (boolS (oneA (vT (nx tund s.tmps 7)))) (boolS (oneA (vT (nx tund s.tmps 8)))) (intS (oneA (vT (nx tund s.tmps 9))))) (none)
def LS29_0 (N : Nat) : LSpec β := VLS29_0 N (zj81 N)
def VE29 (N : Nat) (zq81 : Nat → List (Int × Int) → Int → Int → Bool → Bool → Int → (Bool → O β) → (Bool → Bool → O β) → O β) : Env β := ⟨[], [], [(0, VLS29_0 N zq81)], [], ⟨[], [], [], []⟩⟩
def E29 (N : Nat) : Env β := VE29 N (zj81 N)
def zb80 (N : Nat)  (v0 : List (Int × Int)) (v1 : Int) (v2 : Int) (v3 : Bool) (v4 : Bool) (v5 : Int) (rec_ : List (Int × Int) → Int → Int → Bool → Bool → Int → O β) (k0 : Bool → O β) (k1 : Bool → Bool → O β) : O β :=
(cond ((decide (v5 < (v0.length : Int))))
((gd ((decide (0 ≤ v5)))
((gd ((decide (v5 < (v0.length : Int))))
((gd ((decide (0 ≤ v5)))
((gd ((decide (v5 < (v0.length : Int))))
((gd ((decide (0 ≤ v5)))
((gd ((decide (v5 < (v0.length : Int))))
((gd ((decide (0 ≤ v5)))
((gd ((decide (v5 < (v0.length : Int))))
((cond (((bits .and .i64 v1 (rd (0, 0) v0 v5).1) == (rd (0, 0) v0 v5).2))
((cond (((bits .and .i64 v2 (rd (0, 0) v0 v5).1) == (rd (0, 0) v0 v5).2))
(k0 false)
((cond v3
((cond v4
(rec_ v0 v1 v2 true true ((w64 (v5 + 1))))
(rec_ v0 v1 v2 true (((bits .and .i64 v2 (rd (0, 0) v0 v5).1) == (rd (0, 0) v0 v5).2)) ((w64 (v5 + 1))))))
((cond v4
(rec_ v0 v1 v2 (((bits .and .i64 v1 (rd (0, 0) v0 v5).1) == (rd (0, 0) v0 v5).2)) true ((w64 (v5 + 1))))
(rec_ v0 v1 v2 (((bits .and .i64 v1 (rd (0, 0) v0 v5).1) == (rd (0, 0) v0 v5).2)) (((bits .and .i64 v2 (rd (0, 0) v0 v5).1) == (rd (0, 0) v0 v5).2)) ((w64 (v5 + 1))))))))))
((cond v3
((cond v4
(rec_ v0 v1 v2 true true ((w64 (v5 + 1))))
(rec_ v0 v1 v2 true (((bits .and .i64 v2 (rd (0, 0) v0 v5).1) == (rd (0, 0) v0 v5).2)) ((w64 (v5 + 1))))))
((cond v4
(rec_ v0 v1 v2 (((bits .and .i64 v1 (rd (0, 0) v0 v5).1) == (rd (0, 0) v0 v5).2)) true ((w64 (v5 + 1))))
(rec_ v0 v1 v2 (((bits .and .i64 v1 (rd (0, 0) v0 v5).1) == (rd (0, 0) v0 v5).2)) (((bits .and .i64 v2 (rd (0, 0) v0 v5).1) == (rd (0, 0) v0 v5).2)) ((w64 (v5 + 1))))))))))))))))))))))))))
(k1 v3 v4))
theorem zt80 (N : Nat)  (v0 : List (Int × Int)) (v1 : Int) (v2 : Int) (v3 : Bool) (v4 : Bool) (v5 : Int) (rec_ : List (Int × Int) → Int → Int → Bool → Bool → Int → O β) (k0 : Bool → O β) (k1 : Bool → Bool → O β) : zj80 N v0 v1 v2 v3 v4 v5 rec_ k0 k1 = zb80 N v0 v1 v2 v3 v4 v5 rec_ k0 k1 := by
  unfold zj80 zb80
  rfl
theorem vst29_0_0 (N : Nat) (zq81 : Nat → List (Int × Int) → Int → Int → Bool → Bool → Int → (Bool → O β) → (Bool → Bool → O β) → O β)  (v0 : List (Int × Int)) (v1 : Int) (v2 : Int) (v3 : Bool) (v4 : Bool) (v5 : Int) (rec_ : St → O β) (K : Exit → St → O β) :
    ev lay (VE29 N zq81) (retMask Tryz.f29) (lp Tryz.f29 0).body (lp Tryz.f29 0).ex ((lp Tryz.f29 0).lv (retMask Tryz.f29)) (h29_0_0  v0 v1 v2 v3 v4 v5) (nextR (fun s' => rec_ (s'.tidy ((lp Tryz.f29 0).lv (retMask Tryz.f29)))) K) = zb80 N  v0 v1 v2 v3 v4 v5 (fun v0 v1 v2 v3 v4 v5 => rec_ (h29_0_0  v0 v1 v2 v3 v4 v5)) (fun y0 => K .ret (x29_0_0_k0  y0)) (fun y0 y1 => K (.exit 0) (x29_0_0_k1  y0 y1)) := by kernel_rfl
theorem st29_0_0 (N : Nat)  (v0 : List (Int × Int)) (v1 : Int) (v2 : Int) (v3 : Bool) (v4 : Bool) (v5 : Int) (rec_ : St → O β) (K : Exit → St → O β) :
    ev lay (E29 N) (retMask Tryz.f29) (lp Tryz.f29 0).body (lp Tryz.f29 0).ex ((lp Tryz.f29 0).lv (retMask Tryz.f29)) (h29_0_0  v0 v1 v2 v3 v4 v5) (nextR (fun s' => rec_ (s'.tidy ((lp Tryz.f29 0).lv (retMask Tryz.f29)))) K) = zj80 N  v0 v1 v2 v3 v4 v5 (fun v0 v1 v2 v3 v4 v5 => rec_ (h29_0_0  v0 v1 v2 v3 v4 v5)) (fun y0 => K .ret (x29_0_0_k0  y0)) (fun y0 y1 => K (.exit 0) (x29_0_0_k1  y0 y1)) := (vst29_0_0 N (zj81 N) v0 v1 v2 v3 v4 v5 rec_ K).trans (zt80 N  v0 v1 v2 v3 v4 v5 (fun v0 v1 v2 v3 v4 v5 => rec_ (h29_0_0  v0 v1 v2 v3 v4 v5)) (fun y0 => K .ret (x29_0_0_k0  y0)) (fun y0 y1 => K (.exit 0) (x29_0_0_k1  y0 y1))).symm
theorem ro29_0_0 (N : Nat)  (K : Exit → St → O β) : ∀ (F : Nat) (v0 : List (Int × Int)) (v1 : Int) (v2 : Int) (v3 : Bool) (v4 : Bool) (v5 : Int), (lp Tryz.f29 0).rounds lay (E29 N) (retMask Tryz.f29) F (h29_0_0  v0 v1 v2 v3 v4 v5) K = zj81 N  F v0 v1 v2 v3 v4 v5 (fun y0 => K .ret (x29_0_0_k0  y0)) (fun y0 y1 => K (.exit 0) (x29_0_0_k1  y0 y1)) := by
  intro F
  induction F with
  | zero => intros; rfl
  | succ F ih =>
    intros
    rw [rounds_next]
    refine (st29_0_0 N  _ _ _ _ _ _ (fun s => (lp Tryz.f29 0).rounds lay (E29 N) (retMask Tryz.f29) F s K) K).trans ?_
    simp only [ih]
    rfl
theorem lk29_0 (N : Nat) : lookL (E29 (β := β) N).loops (lp Tryz.f29 0).id = LS29_0 N := by kernel_rfl
theorem rk29_0 (N : Nat) : RoundsOK lay (E29 (β := β) N) (retMask Tryz.f29) (lp Tryz.f29 0) := by
  intro s K r h
  rw [lk29_0] at h
  unfold LS29_0 VLS29_0 at h
  cases hb : shpSt (h29_0_0 [] 0 0 false false 0) s with
  | true =>
    rw [hb, cond_true] at h
    exact ⟨N, by rw [← shpSt_ref hb, fl29_0_0 s]; exact (ro29_0_0 N  K N (rPairs (rowV (oneA (vT (nx tund s.tmps 0))))) (intS (oneA (vT (nx tund s.tmps 1)))) (intS (oneA (vT (nx tund s.tmps 2)))) (boolS (oneA (vT (nx tund s.tmps 7)))) (boolS (oneA (vT (nx tund s.tmps 8)))) (intS (oneA (vT (nx tund s.tmps 9))))).trans h⟩
  | false =>
  rw [hb, cond_false] at h
  clear hb
  cases h
def zb82 (N : Nat) (zq81 : Nat → List (Int × Int) → Int → Int → Bool → Bool → Int → (Bool → O β) → (Bool → Bool → O β) → O β) (a0 : List (Int × Int)) (a1 : Int) (a2 : Int) (k : Bool → O β) : O β :=
zq81  N a0 a1 a2 false false 0 (fun e4_0 =>
k e4_0) (fun e5_0 e5_1 =>
(cond e5_0
(k e5_1)
(k false)))
theorem zt82 (N : Nat) (a0 : List (Int × Int)) (a1 : Int) (a2 : Int) (k : Bool → O β) : zj82 N a0 a1 a2 k = zb82 N (zj81 N) a0 a1 a2 k := by
  unfold zj82 zb82
  rfl
theorem ve29_0 (N : Nat) (zq81 : Nat → List (Int × Int) → Int → Int → Bool → Bool → Int → (Bool → O β) → (Bool → Bool → O β) → O β)  (a0 : List (Int × Int)) (a1 : Int) (a2 : Int) (K : TV → O β) : evFn lay (VE29 N zq81) Tryz.f29 [.v (.one (.sl 50 (.pairs a0))), .v (.one (.int .i64 a1)), .v (.one (.int .i64 a2))] K = zb82 N zq81 a0 a1 a2 (fun z3 => K (.v (.one (.bool z3)))) := by kernel_rfl
theorem e29_0 (N : Nat)  (a0 : List (Int × Int)) (a1 : Int) (a2 : Int) (K : TV → O β) : evFn lay (E29 N) Tryz.f29 [.v (.one (.sl 50 (.pairs a0))), .v (.one (.int .i64 a1)), .v (.one (.int .i64 a2))] K = zj82 N a0 a1 a2 (fun z3 => K (.v (.one (.bool z3)))) := (ve29_0 N (zj81 N) a0 a1 a2 K).trans (zt82 N a0 a1 a2 (fun z3 => K (.v (.one (.bool z3))))).symm
theorem o29 (N : Nat) : SpecOK (β := β) inv Tryz.prog 29 (S29 N) := by
  refine spec_of lay_ok mixed (E := E29 N) (specs_loops specs_nil) muts_nil gs_nil Tryz.func29 (by kernel_rfl) 1 (by kernel_rfl) ⟨trivial, rk29_0 N⟩ fun args K r h => ?_
  unfold S29 VS29 at h
  split at h
  · exact (e29_0 N _ _ _ _).trans h
  · cases h
end Go.Proofs.YtddflpokemgnmaaGreatDoor
