/- The functions that the claims reach answer as their texts do. -/
import Derived.Test.YtignjkbhdaiegaaGreatDoorE0
namespace Go.Proofs.YtignjkbhdaiegaaGreatDoor
open Go.Rv
set_option maxRecDepth 100000
set_option maxHeartbeats 2000000
set_option linter.unusedVariables false
def VS33 {β : Type} (N : Nat) (jq27 : (a0 : Int) → (k : Int → Option β) → Option β) : Rv.Spec β := fun args K => match args with
  | [.v (.one (.int .i64 a0))] => jq27 a0 (fun z1 => K (.v (.one (.int .i64 z1))))
  | _ => none
def S33 {β : Type} (N : Nat) : Rv.Spec β := VS33 N (j27 N)
def h33_0_0  (v0 : Int) (v1 : Int) : St := ⟨tund :: tund :: tund :: .v (.one (.int .i64 v0)) :: .v (.one (.int .i64 v1)) :: tund :: tund :: tund :: tund :: tund :: tund :: tund :: tund :: tund :: tund :: [], []⟩
def x33_0_0_k0  (y0 : Int) : St := ⟨tund :: tund :: tund :: .v (.one (.int .i64 y0)) :: tund :: tund :: tund :: tund :: tund :: tund :: tund :: tund :: tund :: tund :: tund :: [], []⟩
theorem fl33_0_0 (s : St) : refSt (h33_0_0 0 0) s = h33_0_0 (intS (oneA (vT (nx tund s.tmps 3)))) (intS (oneA (vT (nx tund s.tmps 4)))) := by kernel_rfl
def VLS33_0 {β : Type} (N : Nat) (jq26 : Nat → Int → Int → (Int → Option β) → Option β) : LSpec β := fun s K => cond (shpSt (h33_0_0 0 0) s) ((fun (v0 : Int) (v1 : Int) => jq26  N v0 v1 (fun y0 => K (.exit 0) (x33_0_0_k0  y0))) (intS (oneA (vT (nx tund s.tmps 3)))) (intS (oneA (vT (nx tund s.tmps 4))))) (none)
def LS33_0 {β : Type} (N : Nat) : LSpec β := VLS33_0 N (j26 N)
def VE33 {β : Type} (N : Nat) (jq26 : Nat → Int → Int → (Int → Option β) → Option β) : Env β := ⟨[], [], [(0, VLS33_0 N jq26)], [], ⟨[], [], []⟩⟩
def E33 {β : Type} (N : Nat) : Env β := VE33 N (j26 N)
def jb25 {β : Type} (N : Nat)  (v0 : Int) (v1 : Int) (rec_ : Int → Int → Option β) (k0 : Int → Option β) : Option β :=
(cond ((decide (v1 > 0)))
(rec_ ((w64 (v0 + (bits .and .i64 v1 1)))) ((shrI .i64 v1 1)))
(k0 v0))
theorem jt25 {β : Type} (N : Nat)  (v0 : Int) (v1 : Int) (rec_ : Int → Int → Option β) (k0 : Int → Option β) : j25 N v0 v1 rec_ k0 = jb25 N v0 v1 rec_ k0 := by
  unfold j25 jb25
  rfl
theorem vst33_0_0 {β : Type} (N : Nat) (jq26 : Nat → Int → Int → (Int → Option β) → Option β)  (v0 : Int) (v1 : Int) (rec_ : St → Option β) (K : Exit → St → Option β) :
    ev lay (VE33 N jq26) (retMask Tryz.f33) (lp Tryz.f33 0).body (lp Tryz.f33 0).ex ((lp Tryz.f33 0).lv (retMask Tryz.f33)) (h33_0_0  v0 v1) (nextR (fun s' => rec_ (s'.tidy ((lp Tryz.f33 0).lv (retMask Tryz.f33)))) K) = jb25 N  v0 v1 (fun v0 v1 => rec_ (h33_0_0  v0 v1)) (fun y0 => K (.exit 0) (x33_0_0_k0  y0)) := by kernel_rfl
theorem st33_0_0 {β : Type} (N : Nat)  (v0 : Int) (v1 : Int) (rec_ : St → Option β) (K : Exit → St → Option β) :
    ev lay (E33 N) (retMask Tryz.f33) (lp Tryz.f33 0).body (lp Tryz.f33 0).ex ((lp Tryz.f33 0).lv (retMask Tryz.f33)) (h33_0_0  v0 v1) (nextR (fun s' => rec_ (s'.tidy ((lp Tryz.f33 0).lv (retMask Tryz.f33)))) K) = j25 N  v0 v1 (fun v0 v1 => rec_ (h33_0_0  v0 v1)) (fun y0 => K (.exit 0) (x33_0_0_k0  y0)) := (vst33_0_0 N (j26 N) v0 v1 rec_ K).trans (jt25 N  v0 v1 (fun v0 v1 => rec_ (h33_0_0  v0 v1)) (fun y0 => K (.exit 0) (x33_0_0_k0  y0))).symm
theorem ro33_0_0 {β : Type} (N : Nat)  (K : Exit → St → Option β) : ∀ (F : Nat) (v0 : Int) (v1 : Int), (lp Tryz.f33 0).rounds lay (E33 N) (retMask Tryz.f33) F (h33_0_0  v0 v1) K = j26 N  F v0 v1 (fun y0 => K (.exit 0) (x33_0_0_k0  y0)) := by
  intro F
  induction F with
  | zero => intros; rfl
  | succ F ih =>
    intros
    rw [rounds_next]
    refine (st33_0_0 N  _ _ (fun s => (lp Tryz.f33 0).rounds lay (E33 N) (retMask Tryz.f33) F s K) K).trans ?_
    simp only [ih]
    rfl
theorem lk33_0 {β : Type} (N : Nat) : lookL (E33 (β := β) N).loops (lp Tryz.f33 0).id = LS33_0 N := by kernel_rfl
theorem rk33_0 {β : Type} (N : Nat) : RoundsOK lay (E33 (β := β) N) (retMask Tryz.f33) (lp Tryz.f33 0) := by
  intro s K r h
  rw [lk33_0] at h
  unfold LS33_0 VLS33_0 at h
  cases hb : shpSt (h33_0_0 0 0) s with
  | true =>
    rw [hb, cond_true] at h
    exact ⟨N, by rw [← shpSt_ref hb, fl33_0_0 s]; exact (ro33_0_0 N  K N (intS (oneA (vT (nx tund s.tmps 3)))) (intS (oneA (vT (nx tund s.tmps 4))))).trans h⟩
  | false =>
  rw [hb, cond_false] at h
  clear hb
  cases h
def jb27 {β : Type} (N : Nat) (jq26 : Nat → Int → Int → (Int → Option β) → Option β) (a0 : Int) (k : Int → Option β) : Option β :=
jq26  N 0 a0 (fun e2_0 =>
k e2_0)
theorem jt27 {β : Type} (N : Nat) (a0 : Int) (k : Int → Option β) : j27 N a0 k = jb27 N (j26 N) a0 k := by
  unfold j27 jb27
  rfl
theorem ve33_0 {β : Type} (N : Nat) (jq26 : Nat → Int → Int → (Int → Option β) → Option β)  (a0 : Int) (K : TV → Option β) : evFn lay (VE33 N jq26) Tryz.f33 [.v (.one (.int .i64 a0))] K = jb27 N jq26 a0 (fun z1 => K (.v (.one (.int .i64 z1)))) := by kernel_rfl
theorem e33_0 {β : Type} (N : Nat)  (a0 : Int) (K : TV → Option β) : evFn lay (E33 N) Tryz.f33 [.v (.one (.int .i64 a0))] K = j27 N a0 (fun z1 => K (.v (.one (.int .i64 z1)))) := (ve33_0 N (j26 N) a0 K).trans (jt27 N a0 (fun z1 => K (.v (.one (.int .i64 z1))))).symm
theorem o33 {β : Type} (N : Nat) : SpecOK (β := β) inv Tryz.prog 33 (S33 N) := by
  refine spec_of lay_ok mixed (E := E33 N) (specs_loops specs_nil) muts_nil gs_nil Tryz.func33 (by kernel_rfl) 1 (by kernel_rfl) ⟨trivial, rk33_0 N⟩ fun args K r h => ?_
  unfold S33 VS33 at h
  split at h
  · exact (e33_0 N _ _).trans h
  · cases h
def VS128 {β : Type} (N : Nat) (jq30 : (a0 : Int) → (a1 : Int) → (a2 : Int) → (a3 : Int) → (k : Int → Option β) → Option β) : Rv.Spec β := fun args K => match args with
  | [.v (.agg [.int .i64 a0, .int .i64 a1]), .v (.one (.int .i64 a2)), .v (.one (.int .i64 a3))] => jq30 a0 a1 a2 a3 (fun z4 => K (.v (.one (.int .i64 z4))))
  | _ => none
def S128 {β : Type} (N : Nat) : Rv.Spec β := VS128 N (j30 N)
def h128_0_0  (v0 : Int) (v1 : Int) (v2 : Int) (v3 : Int) (v4 : Int) (v5 : Int) : St := ⟨tund :: .v (.one (.int .i64 v0)) :: .v (.one (.int .i64 v1)) :: .v (.one (.ptr 0 0)) :: tund :: tund :: tund :: .v (.one (.int .i64 v2)) :: .v (.one (.int .i64 v3)) :: tund :: tund :: tund :: tund :: tund :: tund :: tund :: tund :: tund :: tund :: tund :: tund :: tund :: tund :: tund :: tund :: tund :: tund :: tund :: tund :: tund :: tund :: tund :: tund :: tund :: tund :: tund :: [], [.cells 25 [.int .i64 v4, .int .i64 v5]]⟩
def x128_0_0_k0  (y0 : Int) : St := ⟨tund :: tund :: tund :: tund :: tund :: tund :: .v (.one (.int .i64 y0)) :: tund :: tund :: tund :: tund :: tund :: tund :: tund :: tund :: tund :: tund :: tund :: tund :: tund :: tund :: tund :: tund :: tund :: tund :: tund :: tund :: tund :: tund :: tund :: tund :: tund :: tund :: tund :: tund :: tund :: [], []⟩
def x128_0_0_k1  (y0 : Int) : St := ⟨tund :: tund :: tund :: tund :: tund :: tund :: tund :: .v (.one (.int .i64 y0)) :: tund :: tund :: tund :: tund :: tund :: tund :: tund :: tund :: tund :: tund :: tund :: tund :: tund :: tund :: tund :: tund :: tund :: tund :: tund :: tund :: tund :: tund :: tund :: tund :: tund :: tund :: tund :: tund :: [], []⟩
theorem fl128_0_0 (s : St) : refSt (h128_0_0 0 0 0 0 0 0) s = h128_0_0 (intS (oneA (vT (nx tund s.tmps 1)))) (intS (oneA (vT (nx tund s.tmps 2)))) (intS (oneA (vT (nx tund s.tmps 7)))) (intS (oneA (vT (nx tund s.tmps 8)))) (intS (nx .und (cellsB (nx .dead s.blks 0)) 0)) (intS (nx .und (cellsB (nx .dead s.blks 0)) 1)) := by kernel_rfl
def VLS128_0 {β : Type} (N : Nat) (jq29 : Nat → Int → Int → Int → Int → Int → Int → (Int → Option β) → (Int → Option β) → Option β) : LSpec β := fun s K => cond (shpSt (h128_0_0 0 0 0 0 0 0) s) ((fun (v0 : Int) (v1 : Int) (v2 : Int) (v3 : Int) (v4 : Int) (v5 : Int) => jq29  N v0 v1 v2 v3 v4 v5 (fun y0 => K .ret (x128_0_0_k0  y0)) (fun y0 => K (.exit 0) (x128_0_0_k1  y0))) (intS (oneA (vT (nx tund s.tmps 1)))) (intS (oneA (vT (nx tund s.tmps 2)))) (intS (oneA (vT (nx tund s.tmps 7)))) (intS (oneA (vT (nx tund s.tmps 8)))) (intS (nx .und (cellsB (nx .dead s.blks 0)) 0)) (intS (nx .und (cellsB (nx .dead s.blks 0)) 1))) (none)
def LS128_0 {β : Type} (N : Nat) : LSpec β := VLS128_0 N (j29 N)
def VE128 {β : Type} (N : Nat) (jq29 : Nat → Int → Int → Int → Int → Int → Int → (Int → Option β) → (Int → Option β) → Option β) : Env β := ⟨[], [], [(0, VLS128_0 N jq29)], [], ⟨[], [], []⟩⟩
def E128 {β : Type} (N : Nat) : Env β := VE128 N (j29 N)
def jb28 {β : Type} (N : Nat)  (v0 : Int) (v1 : Int) (v2 : Int) (v3 : Int) (v4 : Int) (v5 : Int) (rec_ : Int → Int → Int → Int → Int → Int → Option β) (k0 : Int → Option β) (k1 : Int → Option β) : Option β :=
(gd ((decide (0 ≤ v4)))
((cond ((decide (v3 < (shlI .i64 1 v4))))
((cond (((bits .and .i64 v3 v0) != v1))
(rec_ v0 v1 v2 ((w64 (v3 + 1))) v4 v5)
((gd ((decide (0 ≤ v3)))
((cond ((decide (v2 ≥ 0)))
((cond ((v2 != (bits .and .i64 (shrI .i64 v5 v3) 1)))
(k0 2)
(rec_ v0 v1 ((bits .and .i64 (shrI .i64 v5 v3) 1)) ((w64 (v3 + 1))) v4 v5)))
(rec_ v0 v1 ((bits .and .i64 (shrI .i64 v5 v3) 1)) ((w64 (v3 + 1))) v4 v5)))))))
(k1 v2))))
theorem jt28 {β : Type} (N : Nat)  (v0 : Int) (v1 : Int) (v2 : Int) (v3 : Int) (v4 : Int) (v5 : Int) (rec_ : Int → Int → Int → Int → Int → Int → Option β) (k0 : Int → Option β) (k1 : Int → Option β) : j28 N v0 v1 v2 v3 v4 v5 rec_ k0 k1 = jb28 N v0 v1 v2 v3 v4 v5 rec_ k0 k1 := by
  unfold j28 jb28
  rfl
theorem vst128_0_0 {β : Type} (N : Nat) (jq29 : Nat → Int → Int → Int → Int → Int → Int → (Int → Option β) → (Int → Option β) → Option β)  (v0 : Int) (v1 : Int) (v2 : Int) (v3 : Int) (v4 : Int) (v5 : Int) (rec_ : St → Option β) (K : Exit → St → Option β) :
    ev lay (VE128 N jq29) (retMask Tryz.f128) (lp Tryz.f128 0).body (lp Tryz.f128 0).ex ((lp Tryz.f128 0).lv (retMask Tryz.f128)) (h128_0_0  v0 v1 v2 v3 v4 v5) (nextR (fun s' => rec_ (s'.tidy ((lp Tryz.f128 0).lv (retMask Tryz.f128)))) K) = jb28 N  v0 v1 v2 v3 v4 v5 (fun v0 v1 v2 v3 v4 v5 => rec_ (h128_0_0  v0 v1 v2 v3 v4 v5)) (fun y0 => K .ret (x128_0_0_k0  y0)) (fun y0 => K (.exit 0) (x128_0_0_k1  y0)) := by kernel_rfl
theorem st128_0_0 {β : Type} (N : Nat)  (v0 : Int) (v1 : Int) (v2 : Int) (v3 : Int) (v4 : Int) (v5 : Int) (rec_ : St → Option β) (K : Exit → St → Option β) :
    ev lay (E128 N) (retMask Tryz.f128) (lp Tryz.f128 0).body (lp Tryz.f128 0).ex ((lp Tryz.f128 0).lv (retMask Tryz.f128)) (h128_0_0  v0 v1 v2 v3 v4 v5) (nextR (fun s' => rec_ (s'.tidy ((lp Tryz.f128 0).lv (retMask Tryz.f128)))) K) = j28 N  v0 v1 v2 v3 v4 v5 (fun v0 v1 v2 v3 v4 v5 => rec_ (h128_0_0  v0 v1 v2 v3 v4 v5)) (fun y0 => K .ret (x128_0_0_k0  y0)) (fun y0 => K (.exit 0) (x128_0_0_k1  y0)) := (vst128_0_0 N (j29 N) v0 v1 v2 v3 v4 v5 rec_ K).trans (jt28 N  v0 v1 v2 v3 v4 v5 (fun v0 v1 v2 v3 v4 v5 => rec_ (h128_0_0  v0 v1 v2 v3 v4 v5)) (fun y0 => K .ret (x128_0_0_k0  y0)) (fun y0 => K (.exit 0) (x128_0_0_k1  y0))).symm
theorem ro128_0_0 {β : Type} (N : Nat)  (K : Exit → St → Option β) : ∀ (F : Nat) (v0 : Int) (v1 : Int) (v2 : Int) (v3 : Int) (v4 : Int) (v5 : Int), (lp Tryz.f128 0).rounds lay (E128 N) (retMask Tryz.f128) F (h128_0_0  v0 v1 v2 v3 v4 v5) K = j29 N  F v0 v1 v2 v3 v4 v5 (fun y0 => K .ret (x128_0_0_k0  y0)) (fun y0 => K (.exit 0) (x128_0_0_k1  y0)) := by
  intro F
  induction F with
  | zero => intros; rfl
  | succ F ih =>
    intros
    rw [rounds_next]
    refine (st128_0_0 N  _ _ _ _ _ _ (fun s => (lp Tryz.f128 0).rounds lay (E128 N) (retMask Tryz.f128) F s K) K).trans ?_
    simp only [ih]
    rfl
theorem lk128_0 {β : Type} (N : Nat) : lookL (E128 (β := β) N).loops (lp Tryz.f128 0).id = LS128_0 N := by kernel_rfl
theorem rk128_0 {β : Type} (N : Nat) : RoundsOK lay (E128 (β := β) N) (retMask Tryz.f128) (lp Tryz.f128 0) := by
  intro s K r h
  rw [lk128_0] at h
  unfold LS128_0 VLS128_0 at h
  cases hb : shpSt (h128_0_0 0 0 0 0 0 0) s with
  | true =>
    rw [hb, cond_true] at h
    exact ⟨N, by rw [← shpSt_ref hb, fl128_0_0 s]; exact (ro128_0_0 N  K N (intS (oneA (vT (nx tund s.tmps 1)))) (intS (oneA (vT (nx tund s.tmps 2)))) (intS (oneA (vT (nx tund s.tmps 7)))) (intS (oneA (vT (nx tund s.tmps 8)))) (intS (nx .und (cellsB (nx .dead s.blks 0)) 0)) (intS (nx .und (cellsB (nx .dead s.blks 0)) 1))).trans h⟩
  | false =>
  rw [hb, cond_false] at h
  clear hb
  cases h
def jb30 {β : Type} (N : Nat) (jq29 : Nat → Int → Int → Int → Int → Int → Int → (Int → Option β) → (Int → Option β) → Option β) (a0 : Int) (a1 : Int) (a2 : Int) (a3 : Int) (k : Int → Option β) : Option β :=
jq29  N a2 a3 (-1) 0 a0 a1 (fun e5_0 =>
k e5_0) (fun e6_0 =>
k e6_0)
theorem jt30 {β : Type} (N : Nat) (a0 : Int) (a1 : Int) (a2 : Int) (a3 : Int) (k : Int → Option β) : j30 N a0 a1 a2 a3 k = jb30 N (j29 N) a0 a1 a2 a3 k := by
  unfold j30 jb30
  rfl
theorem ve128_0 {β : Type} (N : Nat) (jq29 : Nat → Int → Int → Int → Int → Int → Int → (Int → Option β) → (Int → Option β) → Option β)  (a0 : Int) (a1 : Int) (a2 : Int) (a3 : Int) (K : TV → Option β) : evFn lay (VE128 N jq29) Tryz.f128 [.v (.agg [.int .i64 a0, .int .i64 a1]), .v (.one (.int .i64 a2)), .v (.one (.int .i64 a3))] K = jb30 N jq29 a0 a1 a2 a3 (fun z4 => K (.v (.one (.int .i64 z4)))) := by kernel_rfl
theorem e128_0 {β : Type} (N : Nat)  (a0 : Int) (a1 : Int) (a2 : Int) (a3 : Int) (K : TV → Option β) : evFn lay (E128 N) Tryz.f128 [.v (.agg [.int .i64 a0, .int .i64 a1]), .v (.one (.int .i64 a2)), .v (.one (.int .i64 a3))] K = j30 N a0 a1 a2 a3 (fun z4 => K (.v (.one (.int .i64 z4)))) := (ve128_0 N (j29 N) a0 a1 a2 a3 K).trans (jt30 N a0 a1 a2 a3 (fun z4 => K (.v (.one (.int .i64 z4))))).symm
theorem o128 {β : Type} (N : Nat) : SpecOK (β := β) inv Tryz.prog 128 (S128 N) := by
  refine spec_of lay_ok mixed (E := E128 N) (specs_loops specs_nil) muts_nil gs_nil Tryz.func128 (by kernel_rfl) 1 (by kernel_rfl) ⟨trivial, rk128_0 N⟩ fun args K r h => ?_
  unfold S128 VS128 at h
  split at h
  · exact (e128_0 N _ _ _ _ _).trans h
  · cases h
def VS196 {β : Type} (N : Nat) (jq33 : (a0 : Int) → (a1 : Int) → (a2 : Int) → (k : Int → Option β) → Option β) : Rv.Spec β := fun args K => match args with
  | [.v (.agg [.int .i64 a0, .int .i64 a1]), .v (.one (.int .i64 a2))] => jq33 a0 a1 a2 (fun z3 => K (.v (.one (.int .i64 z3))))
  | _ => none
def S196 {β : Type} (N : Nat) : Rv.Spec β := VS196 N (j33 N)
def h196_0_0  (v0 : Int) (v1 : Int) (v2 : Int) (v3 : Int) (v4 : Int) : St := ⟨tund :: .v (.one (.int .i64 v0)) :: .v (.one (.ptr 0 0)) :: tund :: tund :: .v (.one (.int .i64 v1)) :: .v (.one (.int .i64 v2)) :: tund :: tund :: tund :: tund :: tund :: tund :: tund :: tund :: tund :: tund :: tund :: tund :: tund :: tund :: tund :: tund :: tund :: tund :: tund :: tund :: tund :: tund :: tund :: tund :: tund :: tund :: tund :: [], [.cells 25 [.int .i64 v3, .int .i64 v4]]⟩
def x196_0_0_k0  (y0 : Int) : St := ⟨tund :: tund :: tund :: tund :: tund :: .v (.one (.int .i64 y0)) :: tund :: tund :: tund :: tund :: tund :: tund :: tund :: tund :: tund :: tund :: tund :: tund :: tund :: tund :: tund :: tund :: tund :: tund :: tund :: tund :: tund :: tund :: tund :: tund :: tund :: tund :: tund :: tund :: [], []⟩
theorem fl196_0_0 (s : St) : refSt (h196_0_0 0 0 0 0 0) s = h196_0_0 (intS (oneA (vT (nx tund s.tmps 1)))) (intS (oneA (vT (nx tund s.tmps 5)))) (intS (oneA (vT (nx tund s.tmps 6)))) (intS (nx .und (cellsB (nx .dead s.blks 0)) 0)) (intS (nx .und (cellsB (nx .dead s.blks 0)) 1)) := by kernel_rfl
def VLS196_0 {β : Type} (N : Nat) (jq32 : Nat → Int → Int → Int → Int → Int → (Int → Option β) → Option β) : LSpec β := fun s K => cond (shpSt (h196_0_0 0 0 0 0 0) s) ((fun (v0 : Int) (v1 : Int) (v2 : Int) (v3 : Int) (v4 : Int) => jq32  N v0 v1 v2 v3 v4 (fun y0 => K (.exit 0) (x196_0_0_k0  y0))) (intS (oneA (vT (nx tund s.tmps 1)))) (intS (oneA (vT (nx tund s.tmps 5)))) (intS (oneA (vT (nx tund s.tmps 6)))) (intS (nx .und (cellsB (nx .dead s.blks 0)) 0)) (intS (nx .und (cellsB (nx .dead s.blks 0)) 1))) (none)
def LS196_0 {β : Type} (N : Nat) : LSpec β := VLS196_0 N (j32 N)
def VE196 {β : Type} (N : Nat) (jq27 : (a0 : Int) → (k : Int → Option β) → Option β) (jq30 : (a0 : Int) → (a1 : Int) → (a2 : Int) → (a3 : Int) → (k : Int → Option β) → Option β) (jq32 : Nat → Int → Int → Int → Int → Int → (Int → Option β) → Option β) : Env β := ⟨[(33, VS33 N jq27), (128, VS128 N jq30)], [], [(0, VLS196_0 N jq32)], [], ⟨[], [], []⟩⟩
def E196 {β : Type} (N : Nat) : Env β := VE196 N (j27 N) (j30 N) (j32 N)
def jb31 {β : Type} (N : Nat) (jq27 : (a0 : Int) → (k : Int → Option β) → Option β) (jq30 : (a0 : Int) → (a1 : Int) → (a2 : Int) → (a3 : Int) → (k : Int → Option β) → Option β)  (v0 : Int) (v1 : Int) (v2 : Int) (v3 : Int) (v4 : Int) (rec_ : Int → Int → Int → Int → Int → Option β) (k0 : Int → Option β) : Option β :=
(gd ((decide (0 ≤ v3)))
((cond ((decide (v2 < (shlI .i64 1 v3))))
(jq27 v2 fun r4 =>
jq27 v1 fun r5 =>
(cond ((decide (r4 < r5)))
(jq30 v3 v4 v2 ((bits .and .i64 v0 v2)) fun r6 =>
(cond ((decide (r6 < 2)))
(rec_ v0 v2 ((w64 (v2 + 1))) v3 v4)
(rec_ v0 v1 ((w64 (v2 + 1))) v3 v4)))
(rec_ v0 v1 ((w64 (v2 + 1))) v3 v4)))
(k0 v1))))
theorem jt31 {β : Type} (N : Nat)  (v0 : Int) (v1 : Int) (v2 : Int) (v3 : Int) (v4 : Int) (rec_ : Int → Int → Int → Int → Int → Option β) (k0 : Int → Option β) : j31 N v0 v1 v2 v3 v4 rec_ k0 = jb31 N (j27 N) (j30 N) v0 v1 v2 v3 v4 rec_ k0 := by
  unfold j31 jb31
  rfl
theorem vst196_0_0 {β : Type} (N : Nat) (jq27 : (a0 : Int) → (k : Int → Option β) → Option β) (jq30 : (a0 : Int) → (a1 : Int) → (a2 : Int) → (a3 : Int) → (k : Int → Option β) → Option β) (jq32 : Nat → Int → Int → Int → Int → Int → (Int → Option β) → Option β)  (v0 : Int) (v1 : Int) (v2 : Int) (v3 : Int) (v4 : Int) (rec_ : St → Option β) (K : Exit → St → Option β) :
    ev lay (VE196 N jq27 jq30 jq32) (retMask Tryz.f196) (lp Tryz.f196 0).body (lp Tryz.f196 0).ex ((lp Tryz.f196 0).lv (retMask Tryz.f196)) (h196_0_0  v0 v1 v2 v3 v4) (nextR (fun s' => rec_ (s'.tidy ((lp Tryz.f196 0).lv (retMask Tryz.f196)))) K) = jb31 N jq27 jq30  v0 v1 v2 v3 v4 (fun v0 v1 v2 v3 v4 => rec_ (h196_0_0  v0 v1 v2 v3 v4)) (fun y0 => K (.exit 0) (x196_0_0_k0  y0)) := by kernel_rfl
theorem st196_0_0 {β : Type} (N : Nat)  (v0 : Int) (v1 : Int) (v2 : Int) (v3 : Int) (v4 : Int) (rec_ : St → Option β) (K : Exit → St → Option β) :
    ev lay (E196 N) (retMask Tryz.f196) (lp Tryz.f196 0).body (lp Tryz.f196 0).ex ((lp Tryz.f196 0).lv (retMask Tryz.f196)) (h196_0_0  v0 v1 v2 v3 v4) (nextR (fun s' => rec_ (s'.tidy ((lp Tryz.f196 0).lv (retMask Tryz.f196)))) K) = j31 N  v0 v1 v2 v3 v4 (fun v0 v1 v2 v3 v4 => rec_ (h196_0_0  v0 v1 v2 v3 v4)) (fun y0 => K (.exit 0) (x196_0_0_k0  y0)) := (vst196_0_0 N (j27 N) (j30 N) (j32 N) v0 v1 v2 v3 v4 rec_ K).trans (jt31 N  v0 v1 v2 v3 v4 (fun v0 v1 v2 v3 v4 => rec_ (h196_0_0  v0 v1 v2 v3 v4)) (fun y0 => K (.exit 0) (x196_0_0_k0  y0))).symm
theorem ro196_0_0 {β : Type} (N : Nat)  (K : Exit → St → Option β) : ∀ (F : Nat) (v0 : Int) (v1 : Int) (v2 : Int) (v3 : Int) (v4 : Int), (lp Tryz.f196 0).rounds lay (E196 N) (retMask Tryz.f196) F (h196_0_0  v0 v1 v2 v3 v4) K = j32 N  F v0 v1 v2 v3 v4 (fun y0 => K (.exit 0) (x196_0_0_k0  y0)) := by
  intro F
  induction F with
  | zero => intros; rfl
  | succ F ih =>
    intros
    rw [rounds_next]
    refine (st196_0_0 N  _ _ _ _ _ (fun s => (lp Tryz.f196 0).rounds lay (E196 N) (retMask Tryz.f196) F s K) K).trans ?_
    simp only [ih]
    rfl
theorem lk196_0 {β : Type} (N : Nat) : lookL (E196 (β := β) N).loops (lp Tryz.f196 0).id = LS196_0 N := by kernel_rfl
theorem rk196_0 {β : Type} (N : Nat) : RoundsOK lay (E196 (β := β) N) (retMask Tryz.f196) (lp Tryz.f196 0) := by
  intro s K r h
  rw [lk196_0] at h
  unfold LS196_0 VLS196_0 at h
  cases hb : shpSt (h196_0_0 0 0 0 0 0) s with
  | true =>
    rw [hb, cond_true] at h
    exact ⟨N, by rw [← shpSt_ref hb, fl196_0_0 s]; exact (ro196_0_0 N  K N (intS (oneA (vT (nx tund s.tmps 1)))) (intS (oneA (vT (nx tund s.tmps 5)))) (intS (oneA (vT (nx tund s.tmps 6)))) (intS (nx .und (cellsB (nx .dead s.blks 0)) 0)) (intS (nx .und (cellsB (nx .dead s.blks 0)) 1))).trans h⟩
  | false =>
  rw [hb, cond_false] at h
  clear hb
  cases h
def jb33 {β : Type} (N : Nat) (jq32 : Nat → Int → Int → Int → Int → Int → (Int → Option β) → Option β) (a0 : Int) (a1 : Int) (a2 : Int) (k : Int → Option β) : Option β :=
(gd ((decide (0 ≤ a0)))
(jq32  N a2 ((w64 ((shlI .i64 1 a0) - 1))) 0 a0 a1 (fun e7_0 =>
k e7_0)))
theorem jt33 {β : Type} (N : Nat) (a0 : Int) (a1 : Int) (a2 : Int) (k : Int → Option β) : j33 N a0 a1 a2 k = jb33 N (j32 N) a0 a1 a2 k := by
  unfold j33 jb33
  rfl
theorem ve196_0 {β : Type} (N : Nat) (jq27 : (a0 : Int) → (k : Int → Option β) → Option β) (jq30 : (a0 : Int) → (a1 : Int) → (a2 : Int) → (a3 : Int) → (k : Int → Option β) → Option β) (jq32 : Nat → Int → Int → Int → Int → Int → (Int → Option β) → Option β)  (a0 : Int) (a1 : Int) (a2 : Int) (K : TV → Option β) : evFn lay (VE196 N jq27 jq30 jq32) Tryz.f196 [.v (.agg [.int .i64 a0, .int .i64 a1]), .v (.one (.int .i64 a2))] K = jb33 N jq32 a0 a1 a2 (fun z3 => K (.v (.one (.int .i64 z3)))) := by kernel_rfl
theorem e196_0 {β : Type} (N : Nat)  (a0 : Int) (a1 : Int) (a2 : Int) (K : TV → Option β) : evFn lay (E196 N) Tryz.f196 [.v (.agg [.int .i64 a0, .int .i64 a1]), .v (.one (.int .i64 a2))] K = j33 N a0 a1 a2 (fun z3 => K (.v (.one (.int .i64 z3)))) := (ve196_0 N (j27 N) (j30 N) (j32 N) a0 a1 a2 K).trans (jt33 N a0 a1 a2 (fun z3 => K (.v (.one (.int .i64 z3))))).symm
theorem o196 {β : Type} (N : Nat) : SpecOK (β := β) inv Tryz.prog 196 (S196 N) := by
  refine spec_of lay_ok mixed (E := E196 N) (specs_loops (specs_cons (o33 N) (specs_cons (o128 N) specs_nil))) muts_nil gs_nil Tryz.func196 (by kernel_rfl) 1 (by kernel_rfl) ⟨trivial, rk196_0 N⟩ fun args K r h => ?_
  unfold S196 VS196 at h
  split at h
  · exact (e196_0 N _ _ _ _).trans h
  · cases h
def VS124 {β : Type} (N : Nat) (jq34 : (a0 : Int) → (a1 : Int) → (a2 : Int) → (k : Int → Option β) → Option β) : Rv.Spec β := fun args K => match args with
  | [.v (.agg [.int .i64 a0, .int .i64 a1]), .v (.one (.int .i64 a2))] => jq34 a0 a1 a2 (fun z3 => K (.v (.one (.int .i64 z3))))
  | _ => none
def S124 {β : Type} (N : Nat) : Rv.Spec β := VS124 N (j34 N)
def VE124 {β : Type} (N : Nat) (jq10 : (a0 : Int) → (a1 : Int) → (a2 : Int) → (k : Bool → Option β) → Option β) (jq33 : (a0 : Int) → (a1 : Int) → (a2 : Int) → (k : Int → Option β) → Option β) (jq27 : (a0 : Int) → (k : Int → Option β) → Option β) : Env β := ⟨[(193, VS193 N jq10), (196, VS196 N jq33), (33, VS33 N jq27)], [], [], [], ⟨[], [], []⟩⟩
def E124 {β : Type} (N : Nat) : Env β := VE124 N (j10 N) (j33 N) (j27 N)
def jb34 {β : Type} (N : Nat) (jq10 : (a0 : Int) → (a1 : Int) → (a2 : Int) → (k : Bool → Option β) → Option β) (jq33 : (a0 : Int) → (a1 : Int) → (a2 : Int) → (k : Int → Option β) → Option β) (jq27 : (a0 : Int) → (k : Int → Option β) → Option β) (a0 : Int) (a1 : Int) (a2 : Int) (k : Int → Option β) : Option β :=
jq10 a0 a1 a2 fun r4 =>
(cond (!r4)
(k (-1))
(jq33 a0 a1 a2 fun r5 =>
jq27 r5 fun r6 =>
k r6))
theorem jt34 {β : Type} (N : Nat) (a0 : Int) (a1 : Int) (a2 : Int) (k : Int → Option β) : j34 N a0 a1 a2 k = jb34 N (j10 N) (j33 N) (j27 N) a0 a1 a2 k := by
  unfold j34 jb34
  rfl
theorem ve124_0 {β : Type} (N : Nat) (jq10 : (a0 : Int) → (a1 : Int) → (a2 : Int) → (k : Bool → Option β) → Option β) (jq33 : (a0 : Int) → (a1 : Int) → (a2 : Int) → (k : Int → Option β) → Option β) (jq27 : (a0 : Int) → (k : Int → Option β) → Option β)  (a0 : Int) (a1 : Int) (a2 : Int) (K : TV → Option β) : evFn lay (VE124 N jq10 jq33 jq27) Tryz.f124 [.v (.agg [.int .i64 a0, .int .i64 a1]), .v (.one (.int .i64 a2))] K = jb34 N jq10 jq33 jq27 a0 a1 a2 (fun z3 => K (.v (.one (.int .i64 z3)))) := by kernel_rfl
theorem e124_0 {β : Type} (N : Nat)  (a0 : Int) (a1 : Int) (a2 : Int) (K : TV → Option β) : evFn lay (E124 N) Tryz.f124 [.v (.agg [.int .i64 a0, .int .i64 a1]), .v (.one (.int .i64 a2))] K = j34 N a0 a1 a2 (fun z3 => K (.v (.one (.int .i64 z3)))) := (ve124_0 N (j10 N) (j33 N) (j27 N) a0 a1 a2 K).trans (jt34 N a0 a1 a2 (fun z3 => K (.v (.one (.int .i64 z3))))).symm
theorem o124 {β : Type} (N : Nat) : SpecOK (β := β) inv Tryz.prog 124 (S124 N) := by
  refine spec_of lay_ok mixed (E := E124 N) (specs_loops (specs_cons (o193 N) (specs_cons (o196 N) (specs_cons (o33 N) specs_nil)))) muts_nil gs_nil Tryz.func124 (by kernel_rfl) 0 (by kernel_rfl) trivial fun args K r h => ?_
  unfold S124 VS124 at h
  split at h
  · exact (e124_0 N _ _ _ _).trans h
  · cases h
def VS65 {β : Type} (N : Nat) (jq37 : (a0 : Int) → (a1 : Int) → (a2 : Int) → (k : Int → Option β) → Option β) : Rv.Spec β := fun args K => match args with
  | [.v (.agg [.int .i64 a0, .int .i64 a1]), .v (.one (.int .i64 a2))] => jq37 a0 a1 a2 (fun z3 => K (.v (.one (.int .i64 z3))))
  | _ => none
def S65 {β : Type} (N : Nat) : Rv.Spec β := VS65 N (j37 N)
def h65_0_0  (v0 : Int) (v1 : Int) (v2 : Int) (v3 : Int) (v4 : Int) : St := ⟨tund :: .v (.one (.int .i64 v0)) :: .v (.one (.ptr 0 0)) :: tund :: tund :: .v (.one (.int .i64 v1)) :: .v (.one (.int .i64 v2)) :: tund :: tund :: tund :: tund :: tund :: tund :: tund :: tund :: tund :: tund :: tund :: tund :: tund :: tund :: tund :: tund :: tund :: tund :: tund :: tund :: tund :: tund :: tund :: tund :: tund :: tund :: tund :: tund :: [], [.cells 25 [.int .i64 v3, .int .i64 v4]]⟩
def x65_0_0_k0  (y0 : Int) : St := ⟨tund :: tund :: tund :: tund :: tund :: .v (.one (.int .i64 y0)) :: tund :: tund :: tund :: tund :: tund :: tund :: tund :: tund :: tund :: tund :: tund :: tund :: tund :: tund :: tund :: tund :: tund :: tund :: tund :: tund :: tund :: tund :: tund :: tund :: tund :: tund :: tund :: tund :: tund :: [], []⟩
theorem fl65_0_0 (s : St) : refSt (h65_0_0 0 0 0 0 0) s = h65_0_0 (intS (oneA (vT (nx tund s.tmps 1)))) (intS (oneA (vT (nx tund s.tmps 5)))) (intS (oneA (vT (nx tund s.tmps 6)))) (intS (nx .und (cellsB (nx .dead s.blks 0)) 0)) (intS (nx .und (cellsB (nx .dead s.blks 0)) 1)) := by kernel_rfl
def VLS65_0 {β : Type} (N : Nat) (jq36 : Nat → Int → Int → Int → Int → Int → (Int → Option β) → Option β) : LSpec β := fun s K => cond (shpSt (h65_0_0 0 0 0 0 0) s) ((fun (v0 : Int) (v1 : Int) (v2 : Int) (v3 : Int) (v4 : Int) => jq36  N v0 v1 v2 v3 v4 (fun y0 => K (.exit 0) (x65_0_0_k0  y0))) (intS (oneA (vT (nx tund s.tmps 1)))) (intS (oneA (vT (nx tund s.tmps 5)))) (intS (oneA (vT (nx tund s.tmps 6)))) (intS (nx .und (cellsB (nx .dead s.blks 0)) 0)) (intS (nx .und (cellsB (nx .dead s.blks 0)) 1))) (none)
def LS65_0 {β : Type} (N : Nat) : LSpec β := VLS65_0 N (j36 N)
def VE65 {β : Type} (N : Nat) (jq2 : (a0 : Int) → (a1 : Int) → (k : Bool → Option β) → Option β) (jq1 : (a0 : Int) → (a1 : Int) → (a2 : Int) → (k : Bool → Option β) → Option β) (jq34 : (a0 : Int) → (a1 : Int) → (a2 : Int) → (k : Int → Option β) → Option β) (jq36 : Nat → Int → Int → Int → Int → Int → (Int → Option β) → Option β) : Env β := ⟨[(13, VS13 N jq2), (62, VS62 N jq1), (124, VS124 N jq34)], [], [(0, VLS65_0 N jq36)], [], ⟨[], [], []⟩⟩
def E65 {β : Type} (N : Nat) : Env β := VE65 N (j2 N) (j1 N) (j34 N) (j36 N)
def jb35 {β : Type} (N : Nat) (jq34 : (a0 : Int) → (a1 : Int) → (a2 : Int) → (k : Int → Option β) → Option β)  (v0 : Int) (v1 : Int) (v2 : Int) (v3 : Int) (v4 : Int) (rec_ : Int → Int → Int → Int → Int → Option β) (k0 : Int → Option β) : Option β :=
(gd ((decide (0 ≤ v3)))
((cond ((decide (v2 < (shlI .i64 1 v3))))
((gd ((decide (0 ≤ v2)))
((cond (((bits .and .i64 (shrI .i64 v4 v2) 1) == v0))
(jq34 v3 v4 v2 fun r6 =>
rec_ v0 ((mxI v1 r6)) ((w64 (v2 + 1))) v3 v4)
(rec_ v0 v1 ((w64 (v2 + 1))) v3 v4)))))
(k0 v1))))
theorem jt35 {β : Type} (N : Nat)  (v0 : Int) (v1 : Int) (v2 : Int) (v3 : Int) (v4 : Int) (rec_ : Int → Int → Int → Int → Int → Option β) (k0 : Int → Option β) : j35 N v0 v1 v2 v3 v4 rec_ k0 = jb35 N (j34 N) v0 v1 v2 v3 v4 rec_ k0 := by
  unfold j35 jb35
  rfl
theorem vst65_0_0 {β : Type} (N : Nat) (jq2 : (a0 : Int) → (a1 : Int) → (k : Bool → Option β) → Option β) (jq1 : (a0 : Int) → (a1 : Int) → (a2 : Int) → (k : Bool → Option β) → Option β) (jq34 : (a0 : Int) → (a1 : Int) → (a2 : Int) → (k : Int → Option β) → Option β) (jq36 : Nat → Int → Int → Int → Int → Int → (Int → Option β) → Option β)  (v0 : Int) (v1 : Int) (v2 : Int) (v3 : Int) (v4 : Int) (rec_ : St → Option β) (K : Exit → St → Option β) :
    ev lay (VE65 N jq2 jq1 jq34 jq36) (retMask Tryz.f65) (lp Tryz.f65 0).body (lp Tryz.f65 0).ex ((lp Tryz.f65 0).lv (retMask Tryz.f65)) (h65_0_0  v0 v1 v2 v3 v4) (nextR (fun s' => rec_ (s'.tidy ((lp Tryz.f65 0).lv (retMask Tryz.f65)))) K) = jb35 N jq34  v0 v1 v2 v3 v4 (fun v0 v1 v2 v3 v4 => rec_ (h65_0_0  v0 v1 v2 v3 v4)) (fun y0 => K (.exit 0) (x65_0_0_k0  y0)) := by kernel_rfl
theorem st65_0_0 {β : Type} (N : Nat)  (v0 : Int) (v1 : Int) (v2 : Int) (v3 : Int) (v4 : Int) (rec_ : St → Option β) (K : Exit → St → Option β) :
    ev lay (E65 N) (retMask Tryz.f65) (lp Tryz.f65 0).body (lp Tryz.f65 0).ex ((lp Tryz.f65 0).lv (retMask Tryz.f65)) (h65_0_0  v0 v1 v2 v3 v4) (nextR (fun s' => rec_ (s'.tidy ((lp Tryz.f65 0).lv (retMask Tryz.f65)))) K) = j35 N  v0 v1 v2 v3 v4 (fun v0 v1 v2 v3 v4 => rec_ (h65_0_0  v0 v1 v2 v3 v4)) (fun y0 => K (.exit 0) (x65_0_0_k0  y0)) := (vst65_0_0 N (j2 N) (j1 N) (j34 N) (j36 N) v0 v1 v2 v3 v4 rec_ K).trans (jt35 N  v0 v1 v2 v3 v4 (fun v0 v1 v2 v3 v4 => rec_ (h65_0_0  v0 v1 v2 v3 v4)) (fun y0 => K (.exit 0) (x65_0_0_k0  y0))).symm
theorem ro65_0_0 {β : Type} (N : Nat)  (K : Exit → St → Option β) : ∀ (F : Nat) (v0 : Int) (v1 : Int) (v2 : Int) (v3 : Int) (v4 : Int), (lp Tryz.f65 0).rounds lay (E65 N) (retMask Tryz.f65) F (h65_0_0  v0 v1 v2 v3 v4) K = j36 N  F v0 v1 v2 v3 v4 (fun y0 => K (.exit 0) (x65_0_0_k0  y0)) := by
  intro F
  induction F with
  | zero => intros; rfl
  | succ F ih =>
    intros
    rw [rounds_next]
    refine (st65_0_0 N  _ _ _ _ _ (fun s => (lp Tryz.f65 0).rounds lay (E65 N) (retMask Tryz.f65) F s K) K).trans ?_
    simp only [ih]
    rfl
theorem lk65_0 {β : Type} (N : Nat) : lookL (E65 (β := β) N).loops (lp Tryz.f65 0).id = LS65_0 N := by kernel_rfl
theorem rk65_0 {β : Type} (N : Nat) : RoundsOK lay (E65 (β := β) N) (retMask Tryz.f65) (lp Tryz.f65 0) := by
  intro s K r h
  rw [lk65_0] at h
  unfold LS65_0 VLS65_0 at h
  cases hb : shpSt (h65_0_0 0 0 0 0 0) s with
  | true =>
    rw [hb, cond_true] at h
    exact ⟨N, by rw [← shpSt_ref hb, fl65_0_0 s]; exact (ro65_0_0 N  K N (intS (oneA (vT (nx tund s.tmps 1)))) (intS (oneA (vT (nx tund s.tmps 5)))) (intS (oneA (vT (nx tund s.tmps 6)))) (intS (nx .und (cellsB (nx .dead s.blks 0)) 0)) (intS (nx .und (cellsB (nx .dead s.blks 0)) 1))).trans h⟩
  | false =>
  rw [hb, cond_false] at h
  clear hb
  cases h
def jb37 {β : Type} (N : Nat) (jq2 : (a0 : Int) → (a1 : Int) → (k : Bool → Option β) → Option β) (jq1 : (a0 : Int) → (a1 : Int) → (a2 : Int) → (k : Bool → Option β) → Option β) (jq36 : Nat → Int → Int → Int → Int → Int → (Int → Option β) → Option β) (a0 : Int) (a1 : Int) (a2 : Int) (k : Int → Option β) : Option β :=
jq2 a0 a1 fun r4 =>
(cond (!r4)
(k (-1))
(jq1 a2 0 1 fun r5 =>
(cond (!r5)
(k (-1))
(jq36  N a2 0 0 a0 a1 (fun e7_0 =>
k e7_0)))))
theorem jt37 {β : Type} (N : Nat) (a0 : Int) (a1 : Int) (a2 : Int) (k : Int → Option β) : j37 N a0 a1 a2 k = jb37 N (j2 N) (j1 N) (j36 N) a0 a1 a2 k := by
  unfold j37 jb37
  rfl
theorem ve65_0 {β : Type} (N : Nat) (jq2 : (a0 : Int) → (a1 : Int) → (k : Bool → Option β) → Option β) (jq1 : (a0 : Int) → (a1 : Int) → (a2 : Int) → (k : Bool → Option β) → Option β) (jq34 : (a0 : Int) → (a1 : Int) → (a2 : Int) → (k : Int → Option β) → Option β) (jq36 : Nat → Int → Int → Int → Int → Int → (Int → Option β) → Option β)  (a0 : Int) (a1 : Int) (a2 : Int) (K : TV → Option β) : evFn lay (VE65 N jq2 jq1 jq34 jq36) Tryz.f65 [.v (.agg [.int .i64 a0, .int .i64 a1]), .v (.one (.int .i64 a2))] K = jb37 N jq2 jq1 jq36 a0 a1 a2 (fun z3 => K (.v (.one (.int .i64 z3)))) := by kernel_rfl
theorem e65_0 {β : Type} (N : Nat)  (a0 : Int) (a1 : Int) (a2 : Int) (K : TV → Option β) : evFn lay (E65 N) Tryz.f65 [.v (.agg [.int .i64 a0, .int .i64 a1]), .v (.one (.int .i64 a2))] K = j37 N a0 a1 a2 (fun z3 => K (.v (.one (.int .i64 z3)))) := (ve65_0 N (j2 N) (j1 N) (j34 N) (j36 N) a0 a1 a2 K).trans (jt37 N a0 a1 a2 (fun z3 => K (.v (.one (.int .i64 z3))))).symm
theorem o65 {β : Type} (N : Nat) : SpecOK (β := β) inv Tryz.prog 65 (S65 N) := by
  refine spec_of lay_ok mixed (E := E65 N) (specs_loops (specs_cons (o13 N) (specs_cons (o62 N) (specs_cons (o124 N) specs_nil)))) muts_nil gs_nil Tryz.func65 (by kernel_rfl) 1 (by kernel_rfl) ⟨trivial, rk65_0 N⟩ fun args K r h => ?_
  unfold S65 VS65 at h
  split at h
  · exact (e65_0 N _ _ _ _).trans h
  · cases h
def VSF74 {β : Type} (N : Nat) (jq41 : Nat → Int → Int → Int → Int → (Int → Option β) → Option β) (G : Nat) : Rv.Spec β := fun args K => match args with
  | [.v (.agg [.int .i64 a0, .int .i64 a1]), .v (.one (.int .i64 a2)), .v (.one (.int .i64 a3))] => jq41 G a0 a1 a2 a3 (fun z4 => K (.v (.one (.int .i64 z4))))
  | _ => none
def SF74 {β : Type} (N : Nat) (G : Nat) : Rv.Spec β := VSF74 N (j41 N) G
def VS74 {β : Type} (N : Nat) (jq41 : Nat → Int → Int → Int → Int → (Int → Option β) → Option β) : Rv.Spec β := VSF74 N jq41 N
def S74 {β : Type} (N : Nat) : Rv.Spec β := SF74 N N
def h74_0_0  (v0 : Int) (v1 : Int) (v2 : Int) (v3 : Int) (v4 : Int) (v5 : Int) : St := ⟨tund :: .v (.one (.int .i64 v0)) :: .v (.one (.int .i64 v1)) :: .v (.one (.ptr 0 0)) :: tund :: tund :: tund :: .v (.one (.int .i64 v2)) :: .v (.one (.int .i64 v3)) :: tund :: tund :: tund :: tund :: tund :: tund :: tund :: tund :: tund :: tund :: tund :: tund :: tund :: tund :: tund :: tund :: tund :: tund :: tund :: tund :: tund :: tund :: tund :: tund :: tund :: tund :: tund :: tund :: tund :: tund :: tund :: tund :: tund :: tund :: tund :: tund :: tund :: [], [.cells 25 [.int .i64 v4, .int .i64 v5]]⟩
def x74_0_0_k0  (y0 : Int) : St := ⟨tund :: tund :: tund :: tund :: tund :: tund :: tund :: .v (.one (.int .i64 y0)) :: tund :: tund :: tund :: tund :: tund :: tund :: tund :: tund :: tund :: tund :: tund :: tund :: tund :: tund :: tund :: tund :: tund :: tund :: tund :: tund :: tund :: tund :: tund :: tund :: tund :: tund :: tund :: tund :: tund :: tund :: tund :: tund :: tund :: tund :: tund :: tund :: tund :: tund :: [], []⟩
theorem fl74_0_0 (s : St) : refSt (h74_0_0 0 0 0 0 0 0) s = h74_0_0 (intS (oneA (vT (nx tund s.tmps 1)))) (intS (oneA (vT (nx tund s.tmps 2)))) (intS (oneA (vT (nx tund s.tmps 7)))) (intS (oneA (vT (nx tund s.tmps 8)))) (intS (nx .und (cellsB (nx .dead s.blks 0)) 0)) (intS (nx .und (cellsB (nx .dead s.blks 0)) 1)) := by kernel_rfl
def VLS74_0 {β : Type} (N : Nat) (jq39 : (self : Int → Int → Int → Int → (Int → Option β) → Option β) → Nat → Int → Int → Int → Int → Int → Int → (Int → Option β) → Option β) (jq41 : Nat → Int → Int → Int → Int → (Int → Option β) → Option β) (G : Nat) : LSpec β := fun s K => cond (shpSt (h74_0_0 0 0 0 0 0 0) s) ((fun (v0 : Int) (v1 : Int) (v2 : Int) (v3 : Int) (v4 : Int) (v5 : Int) => jq39 (jq41 G)  N v0 v1 v2 v3 v4 v5 (fun y0 => K (.exit 0) (x74_0_0_k0  y0))) (intS (oneA (vT (nx tund s.tmps 1)))) (intS (oneA (vT (nx tund s.tmps 2)))) (intS (oneA (vT (nx tund s.tmps 7)))) (intS (oneA (vT (nx tund s.tmps 8)))) (intS (nx .und (cellsB (nx .dead s.blks 0)) 0)) (intS (nx .und (cellsB (nx .dead s.blks 0)) 1))) (none)
def LS74_0 {β : Type} (N : Nat) (G : Nat) : LSpec β := VLS74_0 N (j39 N) (j41 N) G
def VE74 {β : Type} (N : Nat) (jq30 : (a0 : Int) → (a1 : Int) → (a2 : Int) → (a3 : Int) → (k : Int → Option β) → Option β) (jq41 : Nat → Int → Int → Int → Int → (Int → Option β) → Option β) (jq39 : (self : Int → Int → Int → Int → (Int → Option β) → Option β) → Nat → Int → Int → Int → Int → Int → Int → (Int → Option β) → Option β) (G : Nat) : Env β := ⟨[(128, VS128 N jq30), (74, VSF74 N jq41 G)], [], [(0, VLS74_0 N jq39 jq41 G)], [], ⟨[], [], []⟩⟩
def E74 {β : Type} (N : Nat) (G : Nat) : Env β := VE74 N (j30 N) (j41 N) (j39 N) G
def jb38 {β : Type} (N : Nat) (self : Int → Int → Int → Int → (Int → Option β) → Option β)  (v0 : Int) (v1 : Int) (v2 : Int) (v3 : Int) (v4 : Int) (v5 : Int) (rec_ : Int → Int → Int → Int → Int → Int → Option β) (k0 : Int → Option β) : Option β :=
(cond ((decide (v3 < v4)))
((gd ((decide (0 ≤ v3)))
((cond (((bits .and .i64 v0 (shlI .i64 1 v3)) == 0))
(self v4 v5 ((bits .or .i64 v0 (shlI .i64 1 v3))) v1 fun r6 =>
self v4 v5 ((bits .or .i64 v0 (shlI .i64 1 v3))) ((bits .or .i64 v1 (shlI .i64 1 v3))) fun r7 =>
rec_ v0 v1 ((mnI v2 (w64 (1 + (mxI r6 r7))))) ((w64 (v3 + 1))) v4 v5)
(rec_ v0 v1 v2 ((w64 (v3 + 1))) v4 v5)))))
(k0 v2))
theorem jt38 {β : Type} (N : Nat) (self : Int → Int → Int → Int → (Int → Option β) → Option β)  (v0 : Int) (v1 : Int) (v2 : Int) (v3 : Int) (v4 : Int) (v5 : Int) (rec_ : Int → Int → Int → Int → Int → Int → Option β) (k0 : Int → Option β) : j38 N self v0 v1 v2 v3 v4 v5 rec_ k0 = jb38 N self v0 v1 v2 v3 v4 v5 rec_ k0 := by
  unfold j38 jb38
  rfl
theorem vst74_0_0 {β : Type} (N : Nat) (jq30 : (a0 : Int) → (a1 : Int) → (a2 : Int) → (a3 : Int) → (k : Int → Option β) → Option β) (jq41 : Nat → Int → Int → Int → Int → (Int → Option β) → Option β) (jq39 : (self : Int → Int → Int → Int → (Int → Option β) → Option β) → Nat → Int → Int → Int → Int → Int → Int → (Int → Option β) → Option β) (G : Nat)  (v0 : Int) (v1 : Int) (v2 : Int) (v3 : Int) (v4 : Int) (v5 : Int) (rec_ : St → Option β) (K : Exit → St → Option β) :
    ev lay (VE74 N jq30 jq41 jq39 G) (retMask Tryz.f74) (lp Tryz.f74 0).body (lp Tryz.f74 0).ex ((lp Tryz.f74 0).lv (retMask Tryz.f74)) (h74_0_0  v0 v1 v2 v3 v4 v5) (nextR (fun s' => rec_ (s'.tidy ((lp Tryz.f74 0).lv (retMask Tryz.f74)))) K) = jb38 N (jq41 G)  v0 v1 v2 v3 v4 v5 (fun v0 v1 v2 v3 v4 v5 => rec_ (h74_0_0  v0 v1 v2 v3 v4 v5)) (fun y0 => K (.exit 0) (x74_0_0_k0  y0)) := by kernel_rfl
theorem st74_0_0 {β : Type} (N : Nat) (G : Nat)  (v0 : Int) (v1 : Int) (v2 : Int) (v3 : Int) (v4 : Int) (v5 : Int) (rec_ : St → Option β) (K : Exit → St → Option β) :
    ev lay (E74 N G) (retMask Tryz.f74) (lp Tryz.f74 0).body (lp Tryz.f74 0).ex ((lp Tryz.f74 0).lv (retMask Tryz.f74)) (h74_0_0  v0 v1 v2 v3 v4 v5) (nextR (fun s' => rec_ (s'.tidy ((lp Tryz.f74 0).lv (retMask Tryz.f74)))) K) = j38 N (j41 N G)  v0 v1 v2 v3 v4 v5 (fun v0 v1 v2 v3 v4 v5 => rec_ (h74_0_0  v0 v1 v2 v3 v4 v5)) (fun y0 => K (.exit 0) (x74_0_0_k0  y0)) := (vst74_0_0 N (j30 N) (j41 N) (j39 N) G v0 v1 v2 v3 v4 v5 rec_ K).trans (jt38 N (j41 N G)  v0 v1 v2 v3 v4 v5 (fun v0 v1 v2 v3 v4 v5 => rec_ (h74_0_0  v0 v1 v2 v3 v4 v5)) (fun y0 => K (.exit 0) (x74_0_0_k0  y0))).symm
theorem ro74_0_0 {β : Type} (N : Nat) (G : Nat)  (K : Exit → St → Option β) : ∀ (F : Nat) (v0 : Int) (v1 : Int) (v2 : Int) (v3 : Int) (v4 : Int) (v5 : Int), (lp Tryz.f74 0).rounds lay (E74 N G) (retMask Tryz.f74) F (h74_0_0  v0 v1 v2 v3 v4 v5) K = j39 N (j41 N G)  F v0 v1 v2 v3 v4 v5 (fun y0 => K (.exit 0) (x74_0_0_k0  y0)) := by
  intro F
  induction F with
  | zero => intros; rfl
  | succ F ih =>
    intros
    rw [rounds_next]
    refine (st74_0_0 N G  _ _ _ _ _ _ (fun s => (lp Tryz.f74 0).rounds lay (E74 N G) (retMask Tryz.f74) F s K) K).trans ?_
    simp only [ih]
    rfl
theorem lk74_0 {β : Type} (N : Nat) (G : Nat) : lookL (E74 (β := β) N G).loops (lp Tryz.f74 0).id = LS74_0 N G := by kernel_rfl
theorem rk74_0 {β : Type} (N : Nat) (G : Nat) : RoundsOK lay (E74 (β := β) N G) (retMask Tryz.f74) (lp Tryz.f74 0) := by
  intro s K r h
  rw [lk74_0] at h
  unfold LS74_0 VLS74_0 at h
  cases hb : shpSt (h74_0_0 0 0 0 0 0 0) s with
  | true =>
    rw [hb, cond_true] at h
    exact ⟨N, by rw [← shpSt_ref hb, fl74_0_0 s]; exact (ro74_0_0 N G  K N (intS (oneA (vT (nx tund s.tmps 1)))) (intS (oneA (vT (nx tund s.tmps 2)))) (intS (oneA (vT (nx tund s.tmps 7)))) (intS (oneA (vT (nx tund s.tmps 8)))) (intS (nx .und (cellsB (nx .dead s.blks 0)) 0)) (intS (nx .und (cellsB (nx .dead s.blks 0)) 1))).trans h⟩
  | false =>
  rw [hb, cond_false] at h
  clear hb
  cases h
def jb40 {β : Type} (N : Nat) (jq30 : (a0 : Int) → (a1 : Int) → (a2 : Int) → (a3 : Int) → (k : Int → Option β) → Option β) (jq39 : (self : Int → Int → Int → Int → (Int → Option β) → Option β) → Nat → Int → Int → Int → Int → Int → Int → (Int → Option β) → Option β) (self : Int → Int → Int → Int → (Int → Option β) → Option β) (a0 : Int) (a1 : Int) (a2 : Int) (a3 : Int) (k : Int → Option β) : Option β :=
jq30 a0 a1 a2 a3 fun r5 =>
(cond ((decide (r5 < 2)))
(k 0)
(jq39 self  N a2 a3 10 0 a0 a1 (fun e8_0 =>
k e8_0)))
theorem jt40 {β : Type} (N : Nat) (self : Int → Int → Int → Int → (Int → Option β) → Option β) (a0 : Int) (a1 : Int) (a2 : Int) (a3 : Int) (k : Int → Option β) : j40 N self a0 a1 a2 a3 k = jb40 N (j30 N) (j39 N) self a0 a1 a2 a3 k := by
  unfold j40 jb40
  rfl
theorem ve74_0 {β : Type} (N : Nat) (jq30 : (a0 : Int) → (a1 : Int) → (a2 : Int) → (a3 : Int) → (k : Int → Option β) → Option β) (jq41 : Nat → Int → Int → Int → Int → (Int → Option β) → Option β) (jq39 : (self : Int → Int → Int → Int → (Int → Option β) → Option β) → Nat → Int → Int → Int → Int → Int → Int → (Int → Option β) → Option β) (G : Nat)  (a0 : Int) (a1 : Int) (a2 : Int) (a3 : Int) (K : TV → Option β) : evFn lay (VE74 N jq30 jq41 jq39 G) Tryz.f74 [.v (.agg [.int .i64 a0, .int .i64 a1]), .v (.one (.int .i64 a2)), .v (.one (.int .i64 a3))] K = jb40 N jq30 jq39 (jq41 G) a0 a1 a2 a3 (fun z4 => K (.v (.one (.int .i64 z4)))) := by kernel_rfl
theorem e74_0 {β : Type} (N : Nat) (G : Nat)  (a0 : Int) (a1 : Int) (a2 : Int) (a3 : Int) (K : TV → Option β) : evFn lay (E74 N G) Tryz.f74 [.v (.agg [.int .i64 a0, .int .i64 a1]), .v (.one (.int .i64 a2)), .v (.one (.int .i64 a3))] K = j41 N (G + 1) a0 a1 a2 a3 (fun z4 => K (.v (.one (.int .i64 z4)))) := (ve74_0 N (j30 N) (j41 N) (j39 N) G a0 a1 a2 a3 K).trans (jt40 N (j41 N G) a0 a1 a2 a3 (fun z4 => K (.v (.one (.int .i64 z4))))).symm
theorem z74 {β : Type} (N : Nat) : ∀ args K r, SF74 (β := β) N 0 args K = some r → (none : Option β) = some r := by
  intro args K r h
  unfold SF74 VSF74 at h
  split at h <;> exact h
theorem of74 {β : Type} (N : Nat) : ∀ G, SpecOK (β := β) inv Tryz.prog 74 (SF74 N G) := by
  intro G
  induction G with
  | zero => exact s_zero Tryz.func74 (by kernel_rfl) (z74 N)
  | succ G ih =>
    refine spec_of lay_ok mixed (E := E74 N G) (specs_loops (specs_cons (o128 N) (specs_cons ih specs_nil))) muts_nil gs_nil Tryz.func74 (by kernel_rfl) 1 (by kernel_rfl) ⟨trivial, rk74_0 N G⟩ fun args K r h => ?_
    unfold SF74 VSF74 at h
    split at h
    · exact (e74_0 N G _ _ _ _ _).trans h
    · cases h
theorem o74 {β : Type} (N : Nat) : SpecOK (β := β) inv Tryz.prog 74 (S74 N) := of74 N N
def VS66 {β : Type} (N : Nat) (jq43 : (a0 : Int) → (a1 : Int) → (k : Int → Option β) → Option β) : Rv.Spec β := fun args K => match args with
  | [.v (.agg [.int .i64 a0, .int .i64 a1])] => jq43 a0 a1 (fun z2 => K (.v (.one (.int .i64 z2))))
  | _ => none
def S66 {β : Type} (N : Nat) : Rv.Spec β := VS66 N (j43 N)
def VE66 {β : Type} (N : Nat) (jq2 : (a0 : Int) → (a1 : Int) → (k : Bool → Option β) → Option β) (jq41 : Nat → Int → Int → Int → Int → (Int → Option β) → Option β) : Env β := ⟨[(13, VS13 N jq2), (74, VS74 N jq41)], [], [], [], ⟨[], [], []⟩⟩
def E66 {β : Type} (N : Nat) : Env β := VE66 N (j2 N) (j41 N)
def jb43 {β : Type} (N : Nat) (jq2 : (a0 : Int) → (a1 : Int) → (k : Bool → Option β) → Option β) (jq41 : Nat → Int → Int → Int → Int → (Int → Option β) → Option β) (a0 : Int) (a1 : Int) (k : Int → Option β) : Option β :=
jq2 a0 a1 fun r3 =>
(cond (!r3)
(k (-1))
((cond ((decide (a0 > 4)))
(k (-1))
(jq41 N a0 a1 0 0 fun r4 =>
k r4))))
theorem jt43 {β : Type} (N : Nat) (a0 : Int) (a1 : Int) (k : Int → Option β) : j43 N a0 a1 k = jb43 N (j2 N) (j41 N) a0 a1 k := by
  unfold j43 jb43
  rfl
theorem ve66_0 {β : Type} (N : Nat) (jq2 : (a0 : Int) → (a1 : Int) → (k : Bool → Option β) → Option β) (jq41 : Nat → Int → Int → Int → Int → (Int → Option β) → Option β)  (a0 : Int) (a1 : Int) (K : TV → Option β) : evFn lay (VE66 N jq2 jq41) Tryz.f66 [.v (.agg [.int .i64 a0, .int .i64 a1])] K = jb43 N jq2 jq41 a0 a1 (fun z2 => K (.v (.one (.int .i64 z2)))) := by kernel_rfl
theorem e66_0 {β : Type} (N : Nat)  (a0 : Int) (a1 : Int) (K : TV → Option β) : evFn lay (E66 N) Tryz.f66 [.v (.agg [.int .i64 a0, .int .i64 a1])] K = j43 N a0 a1 (fun z2 => K (.v (.one (.int .i64 z2)))) := (ve66_0 N (j2 N) (j41 N) a0 a1 K).trans (jt43 N a0 a1 (fun z2 => K (.v (.one (.int .i64 z2))))).symm
theorem o66 {β : Type} (N : Nat) : SpecOK (β := β) inv Tryz.prog 66 (S66 N) := by
  refine spec_of lay_ok mixed (E := E66 N) (specs_loops (specs_cons (o13 N) (specs_cons (o74 N) specs_nil))) muts_nil gs_nil Tryz.func66 (by kernel_rfl) 0 (by kernel_rfl) trivial fun args K r h => ?_
  unfold S66 VS66 at h
  split at h
  · exact (e66_0 N _ _ _).trans h
  · cases h
end Go.Proofs.YtignjkbhdaiegaaGreatDoor
