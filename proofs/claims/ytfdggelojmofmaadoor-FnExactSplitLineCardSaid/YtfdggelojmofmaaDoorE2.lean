/- The functions that the claims reach answer as their texts do. -/
import Derived.Test.YtfdggelojmofmaaDoorE1
namespace Go.Proofs.YtfdggelojmofmaaDoor
open Go.Rv
set_option maxRecDepth 100000
set_option maxHeartbeats 2000000
set_option linter.unusedVariables false
def VS95 {β : Type} (N : Nat) (zq35 : (a0 : Int) → (a1 : Int) → (a2 : Int) → (k : Bool → Option β) → Option β) : Rv.Spec β := fun args K => match args with
  | [.v (.agg [.int .i64 a0, .int .i64 a1]), .v (.one (.int .i64 a2))] => zq35 a0 a1 a2 (fun z3 => K (.v (.one (.bool z3))))
  | _ => none
def S95 {β : Type} (N : Nat) : Rv.Spec β := VS95 N (zj35 N)
def VE95 {β : Type} (N : Nat) (zq2 : (a0 : Int) → (a1 : Int) → (k : Bool → Option β) → Option β) (zq1 : (a0 : Int) → (a1 : Int) → (a2 : Int) → (k : Bool → Option β) → Option β) : Env β := ⟨[(51, VS51 N zq2), (43, VS43 N zq1)], [], [], [], ⟨[], [], [153]⟩⟩
def E95 {β : Type} (N : Nat) : Env β := VE95 N (zj2 N) (zj1 N)
def zb35 {β : Type} (N : Nat) (zq2 : (a0 : Int) → (a1 : Int) → (k : Bool → Option β) → Option β) (zq1 : (a0 : Int) → (a1 : Int) → (a2 : Int) → (k : Bool → Option β) → Option β) (a0 : Int) (a1 : Int) (a2 : Int) (k : Bool → Option β) : Option β :=
zq2 a0 a1 fun r4 =>
(cond r4
(zq1 a2 0 2 fun r5 =>
(cond r5
(zq1 ((w64 (a0 - a2))) 0 2 fun r6 =>
k r6)
(k false)))
(k false))
theorem zt35 {β : Type} (N : Nat) (a0 : Int) (a1 : Int) (a2 : Int) (k : Bool → Option β) : zj35 N a0 a1 a2 k = zb35 N (zj2 N) (zj1 N) a0 a1 a2 k := by
  unfold zj35 zb35
  rfl
theorem ve95_0 {β : Type} (N : Nat) (zq2 : (a0 : Int) → (a1 : Int) → (k : Bool → Option β) → Option β) (zq1 : (a0 : Int) → (a1 : Int) → (a2 : Int) → (k : Bool → Option β) → Option β)  (a0 : Int) (a1 : Int) (a2 : Int) (K : TV → Option β) : evFn lay (VE95 N zq2 zq1) Tryd.f95 [.v (.agg [.int .i64 a0, .int .i64 a1]), .v (.one (.int .i64 a2))] K = zb35 N zq2 zq1 a0 a1 a2 (fun z3 => K (.v (.one (.bool z3)))) := by kernel_rfl
theorem e95_0 {β : Type} (N : Nat)  (a0 : Int) (a1 : Int) (a2 : Int) (K : TV → Option β) : evFn lay (E95 N) Tryd.f95 [.v (.agg [.int .i64 a0, .int .i64 a1]), .v (.one (.int .i64 a2))] K = zj35 N a0 a1 a2 (fun z3 => K (.v (.one (.bool z3)))) := (ve95_0 N (zj2 N) (zj1 N) a0 a1 a2 K).trans (zt35 N a0 a1 a2 (fun z3 => K (.v (.one (.bool z3))))).symm
theorem o95 {β : Type} (N : Nat) : SpecOK (β := β) inv Tryd.prog 95 (S95 N) := by
  refine spec_of lay_ok mixed (E := E95 N) (specs_loops (specs_cons (o51 N) (specs_cons (o43 N) specs_nil))) muts_nil gs_nil Tryd.func95 (by kernel_rfl) 0 (by kernel_rfl) trivial fun args K r h => ?_
  unfold S95 VS95 at h
  split at h
  · exact (e95_0 N _ _ _ _).trans h
  · cases h
def VS203 {β : Type} (N : Nat) (zq40 : (a0 : List Int) → (a1 : Int) → (a2 : Int) → (k : Int → Option β) → Option β) : Rv.Spec β := fun args K => match args with
  | [.v (.one (.sl 3 (.ints .i64 a0))), .v (.one (.int .i64 a1)), .v (.one (.int .i64 a2))] => zq40 a0 a1 a2 (fun z3 => K (.v (.one (.int .i64 z3))))
  | _ => none
def S203 {β : Type} (N : Nat) : Rv.Spec β := VS203 N (zj40 N)
def h203_0_0  (v0 : List Int) (v1 : Int) (v2 : Int) (v3 : Int) (v4 : Int) : St := ⟨.v (.one (.sl 3 (.ints .i64 v0))) :: .v (.one (.int .i64 v1)) :: .v (.one (.int .i64 v2)) :: tund :: tund :: tund :: tund :: .v (.one (.int .i64 v3)) :: .v (.one (.int .i64 v4)) :: tund :: tund :: tund :: tund :: tund :: tund :: tund :: tund :: tund :: tund :: tund :: tund :: tund :: tund :: tund :: tund :: tund :: tund :: tund :: tund :: tund :: tund :: tund :: tund :: tund :: tund :: tund :: tund :: tund :: tund :: tund :: tund :: tund :: tund :: tund :: tund :: tund :: tund :: tund :: tund :: [], []⟩
def x203_0_0_k0  (y0 : Int) : St := ⟨tund :: tund :: tund :: tund :: tund :: tund :: .v (.one (.int .i64 y0)) :: tund :: tund :: tund :: tund :: tund :: tund :: tund :: tund :: tund :: tund :: tund :: tund :: tund :: tund :: tund :: tund :: tund :: tund :: tund :: tund :: tund :: tund :: tund :: tund :: tund :: tund :: tund :: tund :: tund :: tund :: tund :: tund :: tund :: tund :: tund :: tund :: tund :: tund :: tund :: tund :: tund :: tund :: [], []⟩
def x203_0_0_k1  (y0 : Int) : St := ⟨tund :: tund :: tund :: tund :: tund :: tund :: tund :: .v (.one (.int .i64 y0)) :: tund :: tund :: tund :: tund :: tund :: tund :: tund :: tund :: tund :: tund :: tund :: tund :: tund :: tund :: tund :: tund :: tund :: tund :: tund :: tund :: tund :: tund :: tund :: tund :: tund :: tund :: tund :: tund :: tund :: tund :: tund :: tund :: tund :: tund :: tund :: tund :: tund :: tund :: tund :: tund :: tund :: [], []⟩
def h203_1_0  (v0 : List Int) (v1 : Int) (v2 : Int) (v3 : Int) (v4 : Int) (v5 : Int) : St := ⟨.v (.one (.sl 3 (.ints .i64 v0))) :: .v (.one (.int .i64 v1)) :: .v (.one (.int .i64 v2)) :: tund :: tund :: tund :: tund :: .v (.one (.int .i64 v3)) :: .v (.one (.int .i64 v4)) :: .v (.one (.int .i64 v5)) :: tund :: tund :: tund :: tund :: tund :: tund :: tund :: tund :: tund :: tund :: tund :: tund :: tund :: tund :: tund :: tund :: tund :: tund :: tund :: tund :: tund :: tund :: tund :: tund :: tund :: tund :: tund :: tund :: tund :: tund :: tund :: tund :: tund :: tund :: tund :: tund :: tund :: tund :: tund :: [], []⟩
def x203_1_0_k0  (y0 : Int) : St := ⟨tund :: tund :: tund :: tund :: tund :: tund :: .v (.one (.int .i64 y0)) :: tund :: tund :: tund :: tund :: tund :: tund :: tund :: tund :: tund :: tund :: tund :: tund :: tund :: tund :: tund :: tund :: tund :: tund :: tund :: tund :: tund :: tund :: tund :: tund :: tund :: tund :: tund :: tund :: tund :: tund :: tund :: tund :: tund :: tund :: tund :: tund :: tund :: tund :: tund :: tund :: tund :: tund :: [], []⟩
def x203_1_0_k1  (y0 : List Int) (y1 : Int) (y2 : Int) (y3 : Int) (y4 : Int) : St := ⟨.v (.one (.sl 3 (.ints .i64 y0))) :: .v (.one (.int .i64 y1)) :: .v (.one (.int .i64 y2)) :: tund :: tund :: tund :: tund :: .v (.one (.int .i64 y3)) :: .v (.one (.int .i64 y4)) :: tund :: tund :: tund :: tund :: tund :: tund :: tund :: tund :: tund :: tund :: tund :: tund :: tund :: tund :: tund :: tund :: tund :: tund :: tund :: tund :: tund :: tund :: tund :: tund :: tund :: tund :: tund :: tund :: tund :: tund :: tund :: tund :: tund :: tund :: tund :: tund :: tund :: tund :: tund :: tund :: [], []⟩
theorem fl203_0_0 (s : St) : refSt (h203_0_0 [] 0 0 0 0) s = h203_0_0 (rInts (rowV (oneA (vT (nx tund s.tmps 0))))) (intS (oneA (vT (nx tund s.tmps 1)))) (intS (oneA (vT (nx tund s.tmps 2)))) (intS (oneA (vT (nx tund s.tmps 7)))) (intS (oneA (vT (nx tund s.tmps 8)))) := by kernel_rfl
def VLS203_0 {β : Type} (N : Nat) (zq39 : Nat → List Int → Int → Int → Int → Int → (Int → Option β) → (Int → Option β) → Option β) : LSpec β := fun s K => cond (shpSt (h203_0_0 [] 0 0 0 0) s) ((fun (v0 : List Int) (v1 : Int) (v2 : Int) (v3 : Int) (v4 : Int) => zq39  N v0 v1 v2 v3 v4 (fun y0 => K .ret (x203_0_0_k0  y0)) (fun y0 => K (.exit 0) (x203_0_0_k1  y0))) (rInts (rowV (oneA (vT (nx tund s.tmps 0))))) (intS (oneA (vT (nx tund s.tmps 1)))) (intS (oneA (vT (nx tund s.tmps 2)))) (intS (oneA (vT (nx tund s.tmps 7)))) (intS (oneA (vT (nx tund s.tmps 8))))) (none)
def LS203_0 {β : Type} (N : Nat) : LSpec β := VLS203_0 N (zj39 N)
theorem fl203_1_0 (s : St) : refSt (h203_1_0 [] 0 0 0 0 0) s = h203_1_0 (rInts (rowV (oneA (vT (nx tund s.tmps 0))))) (intS (oneA (vT (nx tund s.tmps 1)))) (intS (oneA (vT (nx tund s.tmps 2)))) (intS (oneA (vT (nx tund s.tmps 7)))) (intS (oneA (vT (nx tund s.tmps 8)))) (intS (oneA (vT (nx tund s.tmps 9)))) := by kernel_rfl
def VLS203_2 {β : Type} (N : Nat) (zq37 : Nat → List Int → Int → Int → Int → Int → Int → (Int → Option β) → (List Int → Int → Int → Int → Int → Option β) → Option β) : LSpec β := fun s K => cond (shpSt (h203_1_0 [] 0 0 0 0 0) s) ((fun (v0 : List Int) (v1 : Int) (v2 : Int) (v3 : Int) (v4 : Int) (v5 : Int) => zq37  N v0 v1 v2 v3 v4 v5 (fun y0 => K .ret (x203_1_0_k0  y0)) (fun y0 y1 y2 y3 y4 => K (.exit 2) (x203_1_0_k1  y0 y1 y2 y3 y4))) (rInts (rowV (oneA (vT (nx tund s.tmps 0))))) (intS (oneA (vT (nx tund s.tmps 1)))) (intS (oneA (vT (nx tund s.tmps 2)))) (intS (oneA (vT (nx tund s.tmps 7)))) (intS (oneA (vT (nx tund s.tmps 8)))) (intS (oneA (vT (nx tund s.tmps 9))))) (none)
def LS203_2 {β : Type} (N : Nat) : LSpec β := VLS203_2 N (zj37 N)
def VE203 {β : Type} (N : Nat) (zq39 : Nat → List Int → Int → Int → Int → Int → (Int → Option β) → (Int → Option β) → Option β) (zq37 : Nat → List Int → Int → Int → Int → Int → Int → (Int → Option β) → (List Int → Int → Int → Int → Int → Option β) → Option β) : Env β := ⟨[], [], [(0, VLS203_0 N zq39), (2, VLS203_2 N zq37)], [], ⟨[], [], [153]⟩⟩
def E203 {β : Type} (N : Nat) : Env β := VE203 N (zj39 N) (zj37 N)
def zb38 {β : Type} (N : Nat) (zq37 : Nat → List Int → Int → Int → Int → Int → Int → (Int → Option β) → (List Int → Int → Int → Int → Int → Option β) → Option β)  (v0 : List Int) (v1 : Int) (v2 : Int) (v3 : Int) (v4 : Int) (rec_ : List Int → Int → Int → Int → Int → Option β) (k0 : Int → Option β) (k1 : Int → Option β) : Option β :=
(cond ((decide (v4 < (v0.length : Int))))
((gd ((decide (0 ≤ v4)))
((cond (((bits .and .i64 (shrI .i64 v1 v4) 1) == 0))
(rec_ v0 v1 v2 v3 ((w64 (v4 + 1))))
(zq37  N v0 v1 v2 v3 v4 0 (fun e4_0 =>
k0 e4_0) (fun e5_0 e5_1 e5_2 e5_3 e5_4 =>
rec_ e5_0 e5_1 e5_2 e5_3 ((w64 (e5_4 + 1)))))))))
(k1 v3))
theorem zt38 {β : Type} (N : Nat)  (v0 : List Int) (v1 : Int) (v2 : Int) (v3 : Int) (v4 : Int) (rec_ : List Int → Int → Int → Int → Int → Option β) (k0 : Int → Option β) (k1 : Int → Option β) : zj38 N v0 v1 v2 v3 v4 rec_ k0 k1 = zb38 N (zj37 N) v0 v1 v2 v3 v4 rec_ k0 k1 := by
  unfold zj38 zb38
  rfl
theorem vst203_0_0 {β : Type} (N : Nat) (zq39 : Nat → List Int → Int → Int → Int → Int → (Int → Option β) → (Int → Option β) → Option β) (zq37 : Nat → List Int → Int → Int → Int → Int → Int → (Int → Option β) → (List Int → Int → Int → Int → Int → Option β) → Option β)  (v0 : List Int) (v1 : Int) (v2 : Int) (v3 : Int) (v4 : Int) (rec_ : St → Option β) (K : Exit → St → Option β) :
    ev lay (VE203 N zq39 zq37) (retMask Tryd.f203) (lp Tryd.f203 0).body (lp Tryd.f203 0).ex ((lp Tryd.f203 0).lv (retMask Tryd.f203)) (h203_0_0  v0 v1 v2 v3 v4) (nextR (fun s' => rec_ (s'.tidy ((lp Tryd.f203 0).lv (retMask Tryd.f203)))) K) = zb38 N zq37  v0 v1 v2 v3 v4 (fun v0 v1 v2 v3 v4 => rec_ (h203_0_0  v0 v1 v2 v3 v4)) (fun y0 => K .ret (x203_0_0_k0  y0)) (fun y0 => K (.exit 0) (x203_0_0_k1  y0)) := by kernel_rfl
theorem st203_0_0 {β : Type} (N : Nat)  (v0 : List Int) (v1 : Int) (v2 : Int) (v3 : Int) (v4 : Int) (rec_ : St → Option β) (K : Exit → St → Option β) :
    ev lay (E203 N) (retMask Tryd.f203) (lp Tryd.f203 0).body (lp Tryd.f203 0).ex ((lp Tryd.f203 0).lv (retMask Tryd.f203)) (h203_0_0  v0 v1 v2 v3 v4) (nextR (fun s' => rec_ (s'.tidy ((lp Tryd.f203 0).lv (retMask Tryd.f203)))) K) = zj38 N  v0 v1 v2 v3 v4 (fun v0 v1 v2 v3 v4 => rec_ (h203_0_0  v0 v1 v2 v3 v4)) (fun y0 => K .ret (x203_0_0_k0  y0)) (fun y0 => K (.exit 0) (x203_0_0_k1  y0)) := (vst203_0_0 N (zj39 N) (zj37 N) v0 v1 v2 v3 v4 rec_ K).trans (zt38 N  v0 v1 v2 v3 v4 (fun v0 v1 v2 v3 v4 => rec_ (h203_0_0  v0 v1 v2 v3 v4)) (fun y0 => K .ret (x203_0_0_k0  y0)) (fun y0 => K (.exit 0) (x203_0_0_k1  y0))).symm
theorem ro203_0_0 {β : Type} (N : Nat)  (K : Exit → St → Option β) : ∀ (F : Nat) (v0 : List Int) (v1 : Int) (v2 : Int) (v3 : Int) (v4 : Int), (lp Tryd.f203 0).rounds lay (E203 N) (retMask Tryd.f203) F (h203_0_0  v0 v1 v2 v3 v4) K = zj39 N  F v0 v1 v2 v3 v4 (fun y0 => K .ret (x203_0_0_k0  y0)) (fun y0 => K (.exit 0) (x203_0_0_k1  y0)) := by
  intro F
  induction F with
  | zero => intros; rfl
  | succ F ih =>
    intros
    rw [rounds_next]
    refine (st203_0_0 N  _ _ _ _ _ (fun s => (lp Tryd.f203 0).rounds lay (E203 N) (retMask Tryd.f203) F s K) K).trans ?_
    simp only [ih]
    rfl
theorem lk203_0 {β : Type} (N : Nat) : lookL (E203 (β := β) N).loops (lp Tryd.f203 0).id = LS203_0 N := by kernel_rfl
theorem rk203_0 {β : Type} (N : Nat) : RoundsOK lay (E203 (β := β) N) (retMask Tryd.f203) (lp Tryd.f203 0) := by
  intro s K r h
  rw [lk203_0] at h
  unfold LS203_0 VLS203_0 at h
  cases hb : shpSt (h203_0_0 [] 0 0 0 0) s with
  | true =>
    rw [hb, cond_true] at h
    exact ⟨N, by rw [← shpSt_ref hb, fl203_0_0 s]; exact (ro203_0_0 N  K N (rInts (rowV (oneA (vT (nx tund s.tmps 0))))) (intS (oneA (vT (nx tund s.tmps 1)))) (intS (oneA (vT (nx tund s.tmps 2)))) (intS (oneA (vT (nx tund s.tmps 7)))) (intS (oneA (vT (nx tund s.tmps 8))))).trans h⟩
  | false =>
  rw [hb, cond_false] at h
  clear hb
  cases h
def zb36 {β : Type} (N : Nat)  (v0 : List Int) (v1 : Int) (v2 : Int) (v3 : Int) (v4 : Int) (v5 : Int) (rec_ : List Int → Int → Int → Int → Int → Int → Option β) (k0 : Int → Option β) (k1 : List Int → Int → Int → Int → Int → Option β) : Option β :=
(gd ((decide (0 ≤ v5)))
((cond ((decide ((shrI .i64 v2 v5) > 0)))
((gd ((decide (0 ≤ v5)))
((cond (((bits .and .i64 (shrI .i64 v2 v5) 1) == 0))
(rec_ v0 v1 v2 v3 v4 ((w64 (v5 + 1))))
((gd ((decide (0 ≤ v4)))
((gd ((decide (v4 < (v0.length : Int))))
((gd ((decide (0 ≤ v5)))
((cond ((decide (v3 ≥ 0)))
((cond (((bits .and .i64 (shrI .i64 (rd 0 v0 v4) v5) 1) != v3))
(k0 2)
(rec_ v0 v1 v2 ((bits .and .i64 (shrI .i64 (rd 0 v0 v4) v5) 1)) v4 ((w64 (v5 + 1))))))
(rec_ v0 v1 v2 ((bits .and .i64 (shrI .i64 (rd 0 v0 v4) v5) 1)) v4 ((w64 (v5 + 1))))))))))))))))
(k1 v0 v1 v2 v3 v4))))
theorem zt36 {β : Type} (N : Nat)  (v0 : List Int) (v1 : Int) (v2 : Int) (v3 : Int) (v4 : Int) (v5 : Int) (rec_ : List Int → Int → Int → Int → Int → Int → Option β) (k0 : Int → Option β) (k1 : List Int → Int → Int → Int → Int → Option β) : zj36 N v0 v1 v2 v3 v4 v5 rec_ k0 k1 = zb36 N v0 v1 v2 v3 v4 v5 rec_ k0 k1 := by
  unfold zj36 zb36
  rfl
theorem vst203_1_0 {β : Type} (N : Nat) (zq39 : Nat → List Int → Int → Int → Int → Int → (Int → Option β) → (Int → Option β) → Option β) (zq37 : Nat → List Int → Int → Int → Int → Int → Int → (Int → Option β) → (List Int → Int → Int → Int → Int → Option β) → Option β)  (v0 : List Int) (v1 : Int) (v2 : Int) (v3 : Int) (v4 : Int) (v5 : Int) (rec_ : St → Option β) (K : Exit → St → Option β) :
    ev lay (VE203 N zq39 zq37) (retMask Tryd.f203) (lp Tryd.f203 1).body (lp Tryd.f203 1).ex ((lp Tryd.f203 1).lv (retMask Tryd.f203)) (h203_1_0  v0 v1 v2 v3 v4 v5) (nextR (fun s' => rec_ (s'.tidy ((lp Tryd.f203 1).lv (retMask Tryd.f203)))) K) = zb36 N  v0 v1 v2 v3 v4 v5 (fun v0 v1 v2 v3 v4 v5 => rec_ (h203_1_0  v0 v1 v2 v3 v4 v5)) (fun y0 => K .ret (x203_1_0_k0  y0)) (fun y0 y1 y2 y3 y4 => K (.exit 2) (x203_1_0_k1  y0 y1 y2 y3 y4)) := by kernel_rfl
theorem st203_1_0 {β : Type} (N : Nat)  (v0 : List Int) (v1 : Int) (v2 : Int) (v3 : Int) (v4 : Int) (v5 : Int) (rec_ : St → Option β) (K : Exit → St → Option β) :
    ev lay (E203 N) (retMask Tryd.f203) (lp Tryd.f203 1).body (lp Tryd.f203 1).ex ((lp Tryd.f203 1).lv (retMask Tryd.f203)) (h203_1_0  v0 v1 v2 v3 v4 v5) (nextR (fun s' => rec_ (s'.tidy ((lp Tryd.f203 1).lv (retMask Tryd.f203)))) K) = zj36 N  v0 v1 v2 v3 v4 v5 (fun v0 v1 v2 v3 v4 v5 => rec_ (h203_1_0  v0 v1 v2 v3 v4 v5)) (fun y0 => K .ret (x203_1_0_k0  y0)) (fun y0 y1 y2 y3 y4 => K (.exit 2) (x203_1_0_k1  y0 y1 y2 y3 y4)) := (vst203_1_0 N (zj39 N) (zj37 N) v0 v1 v2 v3 v4 v5 rec_ K).trans (zt36 N  v0 v1 v2 v3 v4 v5 (fun v0 v1 v2 v3 v4 v5 => rec_ (h203_1_0  v0 v1 v2 v3 v4 v5)) (fun y0 => K .ret (x203_1_0_k0  y0)) (fun y0 y1 y2 y3 y4 => K (.exit 2) (x203_1_0_k1  y0 y1 y2 y3 y4))).symm
theorem ro203_1_0 {β : Type} (N : Nat)  (K : Exit → St → Option β) : ∀ (F : Nat) (v0 : List Int) (v1 : Int) (v2 : Int) (v3 : Int) (v4 : Int) (v5 : Int), (lp Tryd.f203 1).rounds lay (E203 N) (retMask Tryd.f203) F (h203_1_0  v0 v1 v2 v3 v4 v5) K = zj37 N  F v0 v1 v2 v3 v4 v5 (fun y0 => K .ret (x203_1_0_k0  y0)) (fun y0 y1 y2 y3 y4 => K (.exit 2) (x203_1_0_k1  y0 y1 y2 y3 y4)) := by
  intro F
  induction F with
  | zero => intros; rfl
  | succ F ih =>
    intros
    rw [rounds_next]
    refine (st203_1_0 N  _ _ _ _ _ _ (fun s => (lp Tryd.f203 1).rounds lay (E203 N) (retMask Tryd.f203) F s K) K).trans ?_
    simp only [ih]
    rfl
theorem lk203_2 {β : Type} (N : Nat) : lookL (E203 (β := β) N).loops (lp Tryd.f203 1).id = LS203_2 N := by kernel_rfl
theorem rk203_2 {β : Type} (N : Nat) : RoundsOK lay (E203 (β := β) N) (retMask Tryd.f203) (lp Tryd.f203 1) := by
  intro s K r h
  rw [lk203_2] at h
  unfold LS203_2 VLS203_2 at h
  cases hb : shpSt (h203_1_0 [] 0 0 0 0 0) s with
  | true =>
    rw [hb, cond_true] at h
    exact ⟨N, by rw [← shpSt_ref hb, fl203_1_0 s]; exact (ro203_1_0 N  K N (rInts (rowV (oneA (vT (nx tund s.tmps 0))))) (intS (oneA (vT (nx tund s.tmps 1)))) (intS (oneA (vT (nx tund s.tmps 2)))) (intS (oneA (vT (nx tund s.tmps 7)))) (intS (oneA (vT (nx tund s.tmps 8)))) (intS (oneA (vT (nx tund s.tmps 9))))).trans h⟩
  | false =>
  rw [hb, cond_false] at h
  clear hb
  cases h
def zb40 {β : Type} (N : Nat) (zq39 : Nat → List Int → Int → Int → Int → Int → (Int → Option β) → (Int → Option β) → Option β) (a0 : List Int) (a1 : Int) (a2 : Int) (k : Int → Option β) : Option β :=
zq39  N a0 a1 a2 (-1) 0 (fun e6_0 =>
k e6_0) (fun e7_0 =>
k e7_0)
theorem zt40 {β : Type} (N : Nat) (a0 : List Int) (a1 : Int) (a2 : Int) (k : Int → Option β) : zj40 N a0 a1 a2 k = zb40 N (zj39 N) a0 a1 a2 k := by
  unfold zj40 zb40
  rfl
theorem ve203_0 {β : Type} (N : Nat) (zq39 : Nat → List Int → Int → Int → Int → Int → (Int → Option β) → (Int → Option β) → Option β) (zq37 : Nat → List Int → Int → Int → Int → Int → Int → (Int → Option β) → (List Int → Int → Int → Int → Int → Option β) → Option β)  (a0 : List Int) (a1 : Int) (a2 : Int) (K : TV → Option β) : evFn lay (VE203 N zq39 zq37) Tryd.f203 [.v (.one (.sl 3 (.ints .i64 a0))), .v (.one (.int .i64 a1)), .v (.one (.int .i64 a2))] K = zb40 N zq39 a0 a1 a2 (fun z3 => K (.v (.one (.int .i64 z3)))) := by kernel_rfl
theorem e203_0 {β : Type} (N : Nat)  (a0 : List Int) (a1 : Int) (a2 : Int) (K : TV → Option β) : evFn lay (E203 N) Tryd.f203 [.v (.one (.sl 3 (.ints .i64 a0))), .v (.one (.int .i64 a1)), .v (.one (.int .i64 a2))] K = zj40 N a0 a1 a2 (fun z3 => K (.v (.one (.int .i64 z3)))) := (ve203_0 N (zj39 N) (zj37 N) a0 a1 a2 K).trans (zt40 N a0 a1 a2 (fun z3 => K (.v (.one (.int .i64 z3))))).symm
theorem o203 {β : Type} (N : Nat) : SpecOK (β := β) inv Tryd.prog 203 (S203 N) := by
  refine spec_of lay_ok mixed (E := E203 N) (specs_loops specs_nil) muts_nil gs_nil Tryd.func203 (by kernel_rfl) 2 (by kernel_rfl) ⟨⟨trivial, rk203_0 N⟩, rk203_2 N⟩ fun args K r h => ?_
  unfold S203 VS203 at h
  split at h
  · exact (e203_0 N _ _ _ _).trans h
  · cases h
def VSF155 {β : Type} (N : Nat) (zq46 : Nat → List Int → Int → Int → Int → (Int → Option β) → Option β) (G : Nat) : Rv.Spec β := fun args K => match args with
  | [.v (.one (.sl 3 (.ints .i64 a0))), .v (.one (.int .i64 a1)), .v (.one (.int .i64 a2)), .v (.one (.int .i64 a3))] => zq46 G a0 a1 a2 a3 (fun z4 => K (.v (.one (.int .i64 z4))))
  | _ => none
def SF155 {β : Type} (N : Nat) (G : Nat) : Rv.Spec β := VSF155 N (zj46 N) G
def VS155 {β : Type} (N : Nat) (zq46 : Nat → List Int → Int → Int → Int → (Int → Option β) → Option β) : Rv.Spec β := VSF155 N zq46 N
def S155 {β : Type} (N : Nat) : Rv.Spec β := SF155 N N
def h155_0_0  (v0 : List Int) (v1 : Int) (v2 : Int) (v3 : Int) (v4 : Int) : St := ⟨.v (.one (.sl 3 (.ints .i64 v0))) :: .v (.one (.int .i64 v1)) :: .v (.one (.int .i64 v2)) :: tund :: tund :: tund :: tund :: tund :: tund :: .v (.one (.int .i64 v3)) :: .v (.one (.int .i64 v4)) :: tund :: tund :: tund :: tund :: tund :: tund :: tund :: tund :: tund :: tund :: tund :: tund :: tund :: tund :: tund :: tund :: tund :: tund :: tund :: tund :: tund :: tund :: tund :: tund :: tund :: tund :: tund :: tund :: tund :: tund :: tund :: tund :: tund :: tund :: tund :: tund :: tund :: tund :: tund :: tund :: tund :: tund :: tund :: tund :: tund :: tund :: tund :: tund :: tund :: tund :: tund :: tund :: tund :: tund :: tund :: tund :: tund :: tund :: tund :: tund :: tund :: tund :: tund :: tund :: tund :: tund :: tund :: tund :: tund :: tund :: tund :: tund :: tund :: tund :: tund :: tund :: tund :: tund :: tund :: tund :: tund :: tund :: tund :: tund :: tund :: tund :: tund :: tund :: tund :: tund :: tund :: tund :: tund :: tund :: tund :: tund :: tund :: tund :: [], []⟩
def x155_0_0_k0  (y0 : Int) : St := ⟨tund :: tund :: tund :: tund :: tund :: tund :: tund :: tund :: .v (.one (.int .i64 y0)) :: tund :: tund :: tund :: tund :: tund :: tund :: tund :: tund :: tund :: tund :: tund :: tund :: tund :: tund :: tund :: tund :: tund :: tund :: tund :: tund :: tund :: tund :: tund :: tund :: tund :: tund :: tund :: tund :: tund :: tund :: tund :: tund :: tund :: tund :: tund :: tund :: tund :: tund :: tund :: tund :: tund :: tund :: tund :: tund :: tund :: tund :: tund :: tund :: tund :: tund :: tund :: tund :: tund :: tund :: tund :: tund :: tund :: tund :: tund :: tund :: tund :: tund :: tund :: tund :: tund :: tund :: tund :: tund :: tund :: tund :: tund :: tund :: tund :: tund :: tund :: tund :: tund :: tund :: tund :: tund :: tund :: tund :: tund :: tund :: tund :: tund :: tund :: tund :: tund :: tund :: tund :: tund :: tund :: tund :: tund :: tund :: tund :: tund :: tund :: tund :: [], []⟩
def x155_0_0_k1  (y0 : List Int) (y1 : Int) (y2 : Int) (y3 : Int) : St := ⟨.v (.one (.sl 3 (.ints .i64 y0))) :: .v (.one (.int .i64 y1)) :: .v (.one (.int .i64 y2)) :: tund :: tund :: tund :: tund :: tund :: tund :: .v (.one (.int .i64 y3)) :: tund :: tund :: tund :: tund :: tund :: tund :: tund :: tund :: tund :: tund :: tund :: tund :: tund :: tund :: tund :: tund :: tund :: tund :: tund :: tund :: tund :: tund :: tund :: tund :: tund :: tund :: tund :: tund :: tund :: tund :: tund :: tund :: tund :: tund :: tund :: tund :: tund :: tund :: tund :: tund :: tund :: tund :: tund :: tund :: tund :: tund :: tund :: tund :: tund :: tund :: tund :: tund :: tund :: tund :: tund :: tund :: tund :: tund :: tund :: tund :: tund :: tund :: tund :: tund :: tund :: tund :: tund :: tund :: tund :: tund :: tund :: tund :: tund :: tund :: tund :: tund :: tund :: tund :: tund :: tund :: tund :: tund :: tund :: tund :: tund :: tund :: tund :: tund :: tund :: tund :: tund :: tund :: tund :: tund :: tund :: tund :: tund :: tund :: tund :: [], []⟩
def h155_1_0  (v0 : List Int) (v1 : Int) (v2 : Int) (v3 : Int) (v4 : Int) : St := ⟨.v (.one (.sl 3 (.ints .i64 v0))) :: .v (.one (.int .i64 v1)) :: .v (.one (.int .i64 v2)) :: tund :: tund :: tund :: tund :: tund :: tund :: .v (.one (.int .i64 v3)) :: tund :: tund :: .v (.one (.int .i64 v4)) :: tund :: tund :: tund :: tund :: tund :: tund :: tund :: tund :: tund :: tund :: tund :: tund :: tund :: tund :: tund :: tund :: tund :: tund :: tund :: tund :: tund :: tund :: tund :: tund :: tund :: tund :: tund :: tund :: tund :: tund :: tund :: tund :: tund :: tund :: tund :: tund :: tund :: tund :: tund :: tund :: tund :: tund :: tund :: tund :: tund :: tund :: tund :: tund :: tund :: tund :: tund :: tund :: tund :: tund :: tund :: tund :: tund :: tund :: tund :: tund :: tund :: tund :: tund :: tund :: tund :: tund :: tund :: tund :: tund :: tund :: tund :: tund :: tund :: tund :: tund :: tund :: tund :: tund :: tund :: tund :: tund :: tund :: tund :: tund :: tund :: tund :: tund :: tund :: tund :: tund :: tund :: tund :: tund :: tund :: tund :: tund :: [], []⟩
def x155_1_0_k0  (y0 : Int) : St := ⟨tund :: tund :: tund :: tund :: tund :: tund :: tund :: tund :: tund :: .v (.one (.int .i64 y0)) :: tund :: tund :: tund :: tund :: tund :: tund :: tund :: tund :: tund :: tund :: tund :: tund :: tund :: tund :: tund :: tund :: tund :: tund :: tund :: tund :: tund :: tund :: tund :: tund :: tund :: tund :: tund :: tund :: tund :: tund :: tund :: tund :: tund :: tund :: tund :: tund :: tund :: tund :: tund :: tund :: tund :: tund :: tund :: tund :: tund :: tund :: tund :: tund :: tund :: tund :: tund :: tund :: tund :: tund :: tund :: tund :: tund :: tund :: tund :: tund :: tund :: tund :: tund :: tund :: tund :: tund :: tund :: tund :: tund :: tund :: tund :: tund :: tund :: tund :: tund :: tund :: tund :: tund :: tund :: tund :: tund :: tund :: tund :: tund :: tund :: tund :: tund :: tund :: tund :: tund :: tund :: tund :: tund :: tund :: tund :: tund :: tund :: tund :: tund :: [], []⟩
theorem fl155_0_0 (s : St) : refSt (h155_0_0 [] 0 0 0 0) s = h155_0_0 (rInts (rowV (oneA (vT (nx tund s.tmps 0))))) (intS (oneA (vT (nx tund s.tmps 1)))) (intS (oneA (vT (nx tund s.tmps 2)))) (intS (oneA (vT (nx tund s.tmps 9)))) (intS (oneA (vT (nx tund s.tmps 10)))) := by kernel_rfl
def VLS155_0 {β : Type} (N : Nat) (zq42 : (self : List Int → Int → Int → Int → (Int → Option β) → Option β) → Nat → List Int → Int → Int → Int → Int → (Int → Option β) → (List Int → Int → Int → Int → Option β) → Option β) (zq46 : Nat → List Int → Int → Int → Int → (Int → Option β) → Option β) (G : Nat) : LSpec β := fun s K => cond (shpSt (h155_0_0 [] 0 0 0 0) s) ((fun (v0 : List Int) (v1 : Int) (v2 : Int) (v3 : Int) (v4 : Int) => zq42 (zq46 G)  N v0 v1 v2 v3 v4 (fun y0 => K .ret (x155_0_0_k0  y0)) (fun y0 y1 y2 y3 => K (.exit 0) (x155_0_0_k1  y0 y1 y2 y3))) (rInts (rowV (oneA (vT (nx tund s.tmps 0))))) (intS (oneA (vT (nx tund s.tmps 1)))) (intS (oneA (vT (nx tund s.tmps 2)))) (intS (oneA (vT (nx tund s.tmps 9)))) (intS (oneA (vT (nx tund s.tmps 10))))) (none)
def LS155_0 {β : Type} (N : Nat) (G : Nat) : LSpec β := VLS155_0 N (zj42 N) (zj46 N) G
theorem fl155_1_0 (s : St) : refSt (h155_1_0 [] 0 0 0 0) s = h155_1_0 (rInts (rowV (oneA (vT (nx tund s.tmps 0))))) (intS (oneA (vT (nx tund s.tmps 1)))) (intS (oneA (vT (nx tund s.tmps 2)))) (intS (oneA (vT (nx tund s.tmps 9)))) (intS (oneA (vT (nx tund s.tmps 12)))) := by kernel_rfl
def VLS155_2 {β : Type} (N : Nat) (zq44 : (self : List Int → Int → Int → Int → (Int → Option β) → Option β) → Nat → List Int → Int → Int → Int → Int → (Int → Option β) → Option β) (zq46 : Nat → List Int → Int → Int → Int → (Int → Option β) → Option β) (G : Nat) : LSpec β := fun s K => cond (shpSt (h155_1_0 [] 0 0 0 0) s) ((fun (v0 : List Int) (v1 : Int) (v2 : Int) (v3 : Int) (v4 : Int) => zq44 (zq46 G)  N v0 v1 v2 v3 v4 (fun y0 => K (.exit 2) (x155_1_0_k0  y0))) (rInts (rowV (oneA (vT (nx tund s.tmps 0))))) (intS (oneA (vT (nx tund s.tmps 1)))) (intS (oneA (vT (nx tund s.tmps 2)))) (intS (oneA (vT (nx tund s.tmps 9)))) (intS (oneA (vT (nx tund s.tmps 12))))) (none)
def LS155_2 {β : Type} (N : Nat) (G : Nat) : LSpec β := VLS155_2 N (zj44 N) (zj46 N) G
def VE155 {β : Type} (N : Nat) (zq40 : (a0 : List Int) → (a1 : Int) → (a2 : Int) → (k : Int → Option β) → Option β) (zq46 : Nat → List Int → Int → Int → Int → (Int → Option β) → Option β) (zq42 : (self : List Int → Int → Int → Int → (Int → Option β) → Option β) → Nat → List Int → Int → Int → Int → Int → (Int → Option β) → (List Int → Int → Int → Int → Option β) → Option β) (zq44 : (self : List Int → Int → Int → Int → (Int → Option β) → Option β) → Nat → List Int → Int → Int → Int → Int → (Int → Option β) → Option β) (G : Nat) : Env β := ⟨[(203, VS203 N zq40), (155, VSF155 N zq46 G)], [], [(0, VLS155_0 N zq42 zq46 G), (2, VLS155_2 N zq44 zq46 G)], [], ⟨[], [], [153]⟩⟩
def E155 {β : Type} (N : Nat) (G : Nat) : Env β := VE155 N (zj40 N) (zj46 N) (zj42 N) (zj44 N) G
def zb41 {β : Type} (N : Nat) (self : List Int → Int → Int → Int → (Int → Option β) → Option β)  (v0 : List Int) (v1 : Int) (v2 : Int) (v3 : Int) (v4 : Int) (rec_ : List Int → Int → Int → Int → Int → Option β) (k0 : Int → Option β) (k1 : List Int → Int → Int → Int → Option β) : Option β :=
(cond ((decide (v4 > 0)))
((cond ((decide (v4 < (w64 (v1 - v4)))))
(rec_ v0 v1 v2 v3 ((bits .and .i64 (w64 (v4 - 1)) v1)))
(self v0 v4 v2 ((w64 (v3 - 2))) fun r6 =>
(cond ((decide ((w64 (1 + r6)) < v3)))
(self v0 ((w64 (v1 - v4))) v2 ((w64 (v3 - 2))) fun r7 =>
(cond (((mnI v3 (mxI (w64 (1 + r6)) (w64 (1 + r7)))) == 1))
(k0 ((mnI v3 (mxI (w64 (1 + r6)) (w64 (1 + r7))))))
(rec_ v0 v1 v2 ((mnI v3 (mxI (w64 (1 + r6)) (w64 (1 + r7))))) ((bits .and .i64 (w64 (v4 - 1)) v1)))))
((cond ((v3 == 1))
(k0 v3)
(rec_ v0 v1 v2 v3 ((bits .and .i64 (w64 (v4 - 1)) v1)))))))))
(k1 v0 v1 v2 v3))
theorem zt41 {β : Type} (N : Nat) (self : List Int → Int → Int → Int → (Int → Option β) → Option β)  (v0 : List Int) (v1 : Int) (v2 : Int) (v3 : Int) (v4 : Int) (rec_ : List Int → Int → Int → Int → Int → Option β) (k0 : Int → Option β) (k1 : List Int → Int → Int → Int → Option β) : zj41 N self v0 v1 v2 v3 v4 rec_ k0 k1 = zb41 N self v0 v1 v2 v3 v4 rec_ k0 k1 := by
  unfold zj41 zb41
  rfl
theorem vst155_0_0 {β : Type} (N : Nat) (zq40 : (a0 : List Int) → (a1 : Int) → (a2 : Int) → (k : Int → Option β) → Option β) (zq46 : Nat → List Int → Int → Int → Int → (Int → Option β) → Option β) (zq42 : (self : List Int → Int → Int → Int → (Int → Option β) → Option β) → Nat → List Int → Int → Int → Int → Int → (Int → Option β) → (List Int → Int → Int → Int → Option β) → Option β) (zq44 : (self : List Int → Int → Int → Int → (Int → Option β) → Option β) → Nat → List Int → Int → Int → Int → Int → (Int → Option β) → Option β) (G : Nat)  (v0 : List Int) (v1 : Int) (v2 : Int) (v3 : Int) (v4 : Int) (rec_ : St → Option β) (K : Exit → St → Option β) :
    ev lay (VE155 N zq40 zq46 zq42 zq44 G) (retMask Tryd.f155) (lp Tryd.f155 0).body (lp Tryd.f155 0).ex ((lp Tryd.f155 0).lv (retMask Tryd.f155)) (h155_0_0  v0 v1 v2 v3 v4) (nextR (fun s' => rec_ (s'.tidy ((lp Tryd.f155 0).lv (retMask Tryd.f155)))) K) = zb41 N (zq46 G)  v0 v1 v2 v3 v4 (fun v0 v1 v2 v3 v4 => rec_ (h155_0_0  v0 v1 v2 v3 v4)) (fun y0 => K .ret (x155_0_0_k0  y0)) (fun y0 y1 y2 y3 => K (.exit 0) (x155_0_0_k1  y0 y1 y2 y3)) := by kernel_rfl
theorem st155_0_0 {β : Type} (N : Nat) (G : Nat)  (v0 : List Int) (v1 : Int) (v2 : Int) (v3 : Int) (v4 : Int) (rec_ : St → Option β) (K : Exit → St → Option β) :
    ev lay (E155 N G) (retMask Tryd.f155) (lp Tryd.f155 0).body (lp Tryd.f155 0).ex ((lp Tryd.f155 0).lv (retMask Tryd.f155)) (h155_0_0  v0 v1 v2 v3 v4) (nextR (fun s' => rec_ (s'.tidy ((lp Tryd.f155 0).lv (retMask Tryd.f155)))) K) = zj41 N (zj46 N G)  v0 v1 v2 v3 v4 (fun v0 v1 v2 v3 v4 => rec_ (h155_0_0  v0 v1 v2 v3 v4)) (fun y0 => K .ret (x155_0_0_k0  y0)) (fun y0 y1 y2 y3 => K (.exit 0) (x155_0_0_k1  y0 y1 y2 y3)) := (vst155_0_0 N (zj40 N) (zj46 N) (zj42 N) (zj44 N) G v0 v1 v2 v3 v4 rec_ K).trans (zt41 N (zj46 N G)  v0 v1 v2 v3 v4 (fun v0 v1 v2 v3 v4 => rec_ (h155_0_0  v0 v1 v2 v3 v4)) (fun y0 => K .ret (x155_0_0_k0  y0)) (fun y0 y1 y2 y3 => K (.exit 0) (x155_0_0_k1  y0 y1 y2 y3))).symm
theorem ro155_0_0 {β : Type} (N : Nat) (G : Nat)  (K : Exit → St → Option β) : ∀ (F : Nat) (v0 : List Int) (v1 : Int) (v2 : Int) (v3 : Int) (v4 : Int), (lp Tryd.f155 0).rounds lay (E155 N G) (retMask Tryd.f155) F (h155_0_0  v0 v1 v2 v3 v4) K = zj42 N (zj46 N G)  F v0 v1 v2 v3 v4 (fun y0 => K .ret (x155_0_0_k0  y0)) (fun y0 y1 y2 y3 => K (.exit 0) (x155_0_0_k1  y0 y1 y2 y3)) := by
  intro F
  induction F with
  | zero => intros; rfl
  | succ F ih =>
    intros
    rw [rounds_next]
    refine (st155_0_0 N G  _ _ _ _ _ (fun s => (lp Tryd.f155 0).rounds lay (E155 N G) (retMask Tryd.f155) F s K) K).trans ?_
    simp only [ih]
    rfl
theorem lk155_0 {β : Type} (N : Nat) (G : Nat) : lookL (E155 (β := β) N G).loops (lp Tryd.f155 0).id = LS155_0 N G := by kernel_rfl
theorem rk155_0 {β : Type} (N : Nat) (G : Nat) : RoundsOK lay (E155 (β := β) N G) (retMask Tryd.f155) (lp Tryd.f155 0) := by
  intro s K r h
  rw [lk155_0] at h
  unfold LS155_0 VLS155_0 at h
  cases hb : shpSt (h155_0_0 [] 0 0 0 0) s with
  | true =>
    rw [hb, cond_true] at h
    exact ⟨N, by rw [← shpSt_ref hb, fl155_0_0 s]; exact (ro155_0_0 N G  K N (rInts (rowV (oneA (vT (nx tund s.tmps 0))))) (intS (oneA (vT (nx tund s.tmps 1)))) (intS (oneA (vT (nx tund s.tmps 2)))) (intS (oneA (vT (nx tund s.tmps 9)))) (intS (oneA (vT (nx tund s.tmps 10))))).trans h⟩
  | false =>
  rw [hb, cond_false] at h
  clear hb
  cases h
def zb43 {β : Type} (N : Nat) (self : List Int → Int → Int → Int → (Int → Option β) → Option β)  (v0 : List Int) (v1 : Int) (v2 : Int) (v3 : Int) (v4 : Int) (rec_ : List Int → Int → Int → Int → Int → Option β) (k0 : Int → Option β) : Option β :=
(cond ((decide (v4 > 0)))
((cond ((decide (v4 < (w64 (v2 - v4)))))
(rec_ v0 v1 v2 v3 ((bits .and .i64 (w64 (v4 - 1)) v2)))
((cond ((v3 == 1))
(rec_ v0 v1 v2 v3 ((bits .and .i64 (w64 (v4 - 1)) v2)))
(self v0 v1 v4 ((w64 (v3 - 2))) fun r10 =>
(cond ((decide ((w64 (1 + r10)) < v3)))
(self v0 v1 ((w64 (v2 - v4))) ((w64 (v3 - 2))) fun r11 =>
rec_ v0 v1 v2 ((mnI v3 (mxI (w64 (1 + r10)) (w64 (1 + r11))))) ((bits .and .i64 (w64 (v4 - 1)) v2)))
(rec_ v0 v1 v2 v3 ((bits .and .i64 (w64 (v4 - 1)) v2)))))))))
(k0 v3))
theorem zt43 {β : Type} (N : Nat) (self : List Int → Int → Int → Int → (Int → Option β) → Option β)  (v0 : List Int) (v1 : Int) (v2 : Int) (v3 : Int) (v4 : Int) (rec_ : List Int → Int → Int → Int → Int → Option β) (k0 : Int → Option β) : zj43 N self v0 v1 v2 v3 v4 rec_ k0 = zb43 N self v0 v1 v2 v3 v4 rec_ k0 := by
  unfold zj43 zb43
  rfl
theorem vst155_1_0 {β : Type} (N : Nat) (zq40 : (a0 : List Int) → (a1 : Int) → (a2 : Int) → (k : Int → Option β) → Option β) (zq46 : Nat → List Int → Int → Int → Int → (Int → Option β) → Option β) (zq42 : (self : List Int → Int → Int → Int → (Int → Option β) → Option β) → Nat → List Int → Int → Int → Int → Int → (Int → Option β) → (List Int → Int → Int → Int → Option β) → Option β) (zq44 : (self : List Int → Int → Int → Int → (Int → Option β) → Option β) → Nat → List Int → Int → Int → Int → Int → (Int → Option β) → Option β) (G : Nat)  (v0 : List Int) (v1 : Int) (v2 : Int) (v3 : Int) (v4 : Int) (rec_ : St → Option β) (K : Exit → St → Option β) :
    ev lay (VE155 N zq40 zq46 zq42 zq44 G) (retMask Tryd.f155) (lp Tryd.f155 1).body (lp Tryd.f155 1).ex ((lp Tryd.f155 1).lv (retMask Tryd.f155)) (h155_1_0  v0 v1 v2 v3 v4) (nextR (fun s' => rec_ (s'.tidy ((lp Tryd.f155 1).lv (retMask Tryd.f155)))) K) = zb43 N (zq46 G)  v0 v1 v2 v3 v4 (fun v0 v1 v2 v3 v4 => rec_ (h155_1_0  v0 v1 v2 v3 v4)) (fun y0 => K (.exit 2) (x155_1_0_k0  y0)) := by kernel_rfl
theorem st155_1_0 {β : Type} (N : Nat) (G : Nat)  (v0 : List Int) (v1 : Int) (v2 : Int) (v3 : Int) (v4 : Int) (rec_ : St → Option β) (K : Exit → St → Option β) :
    ev lay (E155 N G) (retMask Tryd.f155) (lp Tryd.f155 1).body (lp Tryd.f155 1).ex ((lp Tryd.f155 1).lv (retMask Tryd.f155)) (h155_1_0  v0 v1 v2 v3 v4) (nextR (fun s' => rec_ (s'.tidy ((lp Tryd.f155 1).lv (retMask Tryd.f155)))) K) = zj43 N (zj46 N G)  v0 v1 v2 v3 v4 (fun v0 v1 v2 v3 v4 => rec_ (h155_1_0  v0 v1 v2 v3 v4)) (fun y0 => K (.exit 2) (x155_1_0_k0  y0)) := (vst155_1_0 N (zj40 N) (zj46 N) (zj42 N) (zj44 N) G v0 v1 v2 v3 v4 rec_ K).trans (zt43 N (zj46 N G)  v0 v1 v2 v3 v4 (fun v0 v1 v2 v3 v4 => rec_ (h155_1_0  v0 v1 v2 v3 v4)) (fun y0 => K (.exit 2) (x155_1_0_k0  y0))).symm
theorem ro155_1_0 {β : Type} (N : Nat) (G : Nat)  (K : Exit → St → Option β) : ∀ (F : Nat) (v0 : List Int) (v1 : Int) (v2 : Int) (v3 : Int) (v4 : Int), (lp Tryd.f155 1).rounds lay (E155 N G) (retMask Tryd.f155) F (h155_1_0  v0 v1 v2 v3 v4) K = zj44 N (zj46 N G)  F v0 v1 v2 v3 v4 (fun y0 => K (.exit 2) (x155_1_0_k0  y0)) := by
  intro F
  induction F with
  | zero => intros; rfl
  | succ F ih =>
    intros
    rw [rounds_next]
    refine (st155_1_0 N G  _ _ _ _ _ (fun s => (lp Tryd.f155 1).rounds lay (E155 N G) (retMask Tryd.f155) F s K) K).trans ?_
    simp only [ih]
    rfl
theorem lk155_2 {β : Type} (N : Nat) (G : Nat) : lookL (E155 (β := β) N G).loops (lp Tryd.f155 1).id = LS155_2 N G := by kernel_rfl
theorem rk155_2 {β : Type} (N : Nat) (G : Nat) : RoundsOK lay (E155 (β := β) N G) (retMask Tryd.f155) (lp Tryd.f155 1) := by
  intro s K r h
  rw [lk155_2] at h
  unfold LS155_2 VLS155_2 at h
  cases hb : shpSt (h155_1_0 [] 0 0 0 0) s with
  | true =>
    rw [hb, cond_true] at h
    exact ⟨N, by rw [← shpSt_ref hb, fl155_1_0 s]; exact (ro155_1_0 N G  K N (rInts (rowV (oneA (vT (nx tund s.tmps 0))))) (intS (oneA (vT (nx tund s.tmps 1)))) (intS (oneA (vT (nx tund s.tmps 2)))) (intS (oneA (vT (nx tund s.tmps 9)))) (intS (oneA (vT (nx tund s.tmps 12))))).trans h⟩
  | false =>
  rw [hb, cond_false] at h
  clear hb
  cases h
def zb45 {β : Type} (N : Nat) (zq40 : (a0 : List Int) → (a1 : Int) → (a2 : Int) → (k : Int → Option β) → Option β) (zq42 : (self : List Int → Int → Int → Int → (Int → Option β) → Option β) → Nat → List Int → Int → Int → Int → Int → (Int → Option β) → (List Int → Int → Int → Int → Option β) → Option β) (zq44 : (self : List Int → Int → Int → Int → (Int → Option β) → Option β) → Nat → List Int → Int → Int → Int → Int → (Int → Option β) → Option β) (self : List Int → Int → Int → Int → (Int → Option β) → Option β) (a0 : List Int) (a1 : Int) (a2 : Int) (a3 : Int) (k : Int → Option β) : Option β :=
zq40 a0 a1 a2 fun r5 =>
(cond ((decide (r5 < 2)))
(k 0)
((cond ((a3 == 0))
(k 1)
(zq42 self  N a0 a1 a2 ((w64 (a3 + 1))) ((bits .and .i64 (w64 (a1 - 1)) a1)) (fun e8_0 =>
k e8_0) (fun e9_0 e9_1 e9_2 e9_3 =>
zq44 self  N e9_0 e9_1 e9_2 e9_3 ((bits .and .i64 (w64 (e9_2 - 1)) e9_2)) (fun e12_0 =>
k e12_0))))))
theorem zt45 {β : Type} (N : Nat) (self : List Int → Int → Int → Int → (Int → Option β) → Option β) (a0 : List Int) (a1 : Int) (a2 : Int) (a3 : Int) (k : Int → Option β) : zj45 N self a0 a1 a2 a3 k = zb45 N (zj40 N) (zj42 N) (zj44 N) self a0 a1 a2 a3 k := by
  unfold zj45 zb45
  rfl
theorem ve155_0 {β : Type} (N : Nat) (zq40 : (a0 : List Int) → (a1 : Int) → (a2 : Int) → (k : Int → Option β) → Option β) (zq46 : Nat → List Int → Int → Int → Int → (Int → Option β) → Option β) (zq42 : (self : List Int → Int → Int → Int → (Int → Option β) → Option β) → Nat → List Int → Int → Int → Int → Int → (Int → Option β) → (List Int → Int → Int → Int → Option β) → Option β) (zq44 : (self : List Int → Int → Int → Int → (Int → Option β) → Option β) → Nat → List Int → Int → Int → Int → Int → (Int → Option β) → Option β) (G : Nat)  (a0 : List Int) (a1 : Int) (a2 : Int) (a3 : Int) (K : TV → Option β) : evFn lay (VE155 N zq40 zq46 zq42 zq44 G) Tryd.f155 [.v (.one (.sl 3 (.ints .i64 a0))), .v (.one (.int .i64 a1)), .v (.one (.int .i64 a2)), .v (.one (.int .i64 a3))] K = zb45 N zq40 zq42 zq44 (zq46 G) a0 a1 a2 a3 (fun z4 => K (.v (.one (.int .i64 z4)))) := by kernel_rfl
theorem e155_0 {β : Type} (N : Nat) (G : Nat)  (a0 : List Int) (a1 : Int) (a2 : Int) (a3 : Int) (K : TV → Option β) : evFn lay (E155 N G) Tryd.f155 [.v (.one (.sl 3 (.ints .i64 a0))), .v (.one (.int .i64 a1)), .v (.one (.int .i64 a2)), .v (.one (.int .i64 a3))] K = zj46 N (G + 1) a0 a1 a2 a3 (fun z4 => K (.v (.one (.int .i64 z4)))) := (ve155_0 N (zj40 N) (zj46 N) (zj42 N) (zj44 N) G a0 a1 a2 a3 K).trans (zt45 N (zj46 N G) a0 a1 a2 a3 (fun z4 => K (.v (.one (.int .i64 z4))))).symm
theorem z155 {β : Type} (N : Nat) : ∀ args K r, SF155 (β := β) N 0 args K = some r → (none : Option β) = some r := by
  intro args K r h
  unfold SF155 VSF155 at h
  split at h <;> exact h
theorem of155 {β : Type} (N : Nat) : ∀ G, SpecOK (β := β) inv Tryd.prog 155 (SF155 N G) := by
  intro G
  induction G with
  | zero => exact s_zero Tryd.func155 (by kernel_rfl) (z155 N)
  | succ G ih =>
    refine spec_of lay_ok mixed (E := E155 N G) (specs_loops (specs_cons (o203 N) (specs_cons ih specs_nil))) muts_nil gs_nil Tryd.func155 (by kernel_rfl) 2 (by kernel_rfl) ⟨⟨trivial, rk155_0 N G⟩, rk155_2 N G⟩ fun args K r h => ?_
    unfold SF155 VSF155 at h
    split at h
    · exact (e155_0 N G _ _ _ _ _).trans h
    · cases h
theorem o155 {β : Type} (N : Nat) : SpecOK (β := β) inv Tryd.prog 155 (S155 N) := of155 N N
def VS97 {β : Type} (N : Nat) (zq48 : (a0 : Int) → (a1 : Int) → (a2 : Int) → (k : Int → Option β) → Option β) : Rv.Spec β := fun args K => match args with
  | [.v (.agg [.int .i64 a0, .int .i64 a1]), .v (.one (.int .i64 a2))] => zq48 a0 a1 a2 (fun z3 => K (.v (.one (.int .i64 z3))))
  | _ => none
def S97 {β : Type} (N : Nat) : Rv.Spec β := VS97 N (zj48 N)
def VE97 {β : Type} (N : Nat) (zq35 : (a0 : Int) → (a1 : Int) → (a2 : Int) → (k : Bool → Option β) → Option β) (zq7 : (a0 : Int) → (a1 : Int) → (a2 : Int) → (k : List Int → Bool → Option β) → Option β) (zq46 : Nat → List Int → Int → Int → Int → (Int → Option β) → Option β) : Env β := ⟨[(95, VS95 N zq35), (91, VS91 N zq7), (155, VS155 N zq46)], [], [], [], ⟨[], [], [153]⟩⟩
def E97 {β : Type} (N : Nat) : Env β := VE97 N (zj35 N) (zj7 N) (zj46 N)
def zb48 {β : Type} (N : Nat) (zq35 : (a0 : Int) → (a1 : Int) → (a2 : Int) → (k : Bool → Option β) → Option β) (zq7 : (a0 : Int) → (a1 : Int) → (a2 : Int) → (k : List Int → Bool → Option β) → Option β) (zq46 : Nat → List Int → Int → Int → Int → (Int → Option β) → Option β) (a0 : Int) (a1 : Int) (a2 : Int) (k : Int → Option β) : Option β :=
zq35 a0 a1 a2 fun r4 =>
(cond (!r4)
(k (-1))
(zq7 a0 a1 a2 fun r5 r6 =>
(gd ((decide (0 ≤ (r5.length : Int))))
((gd ((decide (0 ≤ (w64 (a0 - a2)))))
((gd ((decide (0 ≤ (shlI .u64 1 (w64 (a0 - a2))))))
(zq46 N r5 ((w64 ((shlI .i64 1 (r5.length : Int)) - 1))) ((w64 ((shlI .i64 1 (shlI .u64 1 (w64 (a0 - a2)))) - 1))) 4 fun r7 =>
k r7))))))))
theorem zt48 {β : Type} (N : Nat) (a0 : Int) (a1 : Int) (a2 : Int) (k : Int → Option β) : zj48 N a0 a1 a2 k = zb48 N (zj35 N) (zj7 N) (zj46 N) a0 a1 a2 k := by
  unfold zj48 zb48
  rfl
theorem ve97_0 {β : Type} (N : Nat) (zq35 : (a0 : Int) → (a1 : Int) → (a2 : Int) → (k : Bool → Option β) → Option β) (zq7 : (a0 : Int) → (a1 : Int) → (a2 : Int) → (k : List Int → Bool → Option β) → Option β) (zq46 : Nat → List Int → Int → Int → Int → (Int → Option β) → Option β)  (a0 : Int) (a1 : Int) (a2 : Int) (K : TV → Option β) : evFn lay (VE97 N zq35 zq7 zq46) Tryd.f97 [.v (.agg [.int .i64 a0, .int .i64 a1]), .v (.one (.int .i64 a2))] K = zb48 N zq35 zq7 zq46 a0 a1 a2 (fun z3 => K (.v (.one (.int .i64 z3)))) := by kernel_rfl
theorem e97_0 {β : Type} (N : Nat)  (a0 : Int) (a1 : Int) (a2 : Int) (K : TV → Option β) : evFn lay (E97 N) Tryd.f97 [.v (.agg [.int .i64 a0, .int .i64 a1]), .v (.one (.int .i64 a2))] K = zj48 N a0 a1 a2 (fun z3 => K (.v (.one (.int .i64 z3)))) := (ve97_0 N (zj35 N) (zj7 N) (zj46 N) a0 a1 a2 K).trans (zt48 N a0 a1 a2 (fun z3 => K (.v (.one (.int .i64 z3))))).symm
theorem o97 {β : Type} (N : Nat) : SpecOK (β := β) inv Tryd.prog 97 (S97 N) := by
  refine spec_of lay_ok mixed (E := E97 N) (specs_loops (specs_cons (o95 N) (specs_cons (o91 N) (specs_cons (o155 N) specs_nil)))) muts_nil gs_nil Tryd.func97 (by kernel_rfl) 0 (by kernel_rfl) trivial fun args K r h => ?_
  unfold S97 VS97 at h
  split at h
  · exact (e97_0 N _ _ _ _).trans h
  · cases h
def VS204 {β : Type} (N : Nat) (zq49 : (a0 : Int) → (k : ByteArray → Option β) → Option β) : Rv.Spec β := fun args K => match args with
  | [.v (.one (.int .i64 a0))] => zq49 a0 (fun z1 => K (.v (.one (.str z1))))
  | _ => none
def S204 {β : Type} (N : Nat) : Rv.Spec β := VS204 N (zj49 N)
def VE204 {β : Type} (N : Nat) : Env β := ⟨[], [], [], [], ⟨[], [], [153]⟩⟩
def E204 {β : Type} (N : Nat) : Env β := VE204 N
def zb49 {β : Type} (N : Nat) (a0 : Int) (k : ByteArray → Option β) : Option β :=
(gd ((decide (0 ≤ (w64 (a0 + 1)))))
((gd ((decide ((w64 (a0 + 1)) ≤ (((strOf [48, 49, 50, 51, 52, 53, 54, 55, 56, 57, 97, 98, 99, 100, 101, 102])).size : Int))))
((gd ((decide (0 ≤ a0)))
((gd ((decide (a0 ≤ (w64 (a0 + 1)))))
(k ((((strOf [48, 49, 50, 51, 52, 53, 54, 55, 56, 57, 97, 98, 99, 100, 101, 102])).extract (Int.toNat a0) (Int.toNat (w64 (a0 + 1)))))))))))))
theorem zt49 {β : Type} (N : Nat) (a0 : Int) (k : ByteArray → Option β) : zj49 N a0 k = zb49 N a0 k := by
  unfold zj49 zb49
  rfl
theorem ve204_0 {β : Type} (N : Nat)  (a0 : Int) (K : TV → Option β) : evFn lay (VE204 N) Tryd.f204 [.v (.one (.int .i64 a0))] K = zb49 N a0 (fun z1 => K (.v (.one (.str z1)))) := by kernel_rfl
theorem e204_0 {β : Type} (N : Nat)  (a0 : Int) (K : TV → Option β) : evFn lay (E204 N) Tryd.f204 [.v (.one (.int .i64 a0))] K = zj49 N a0 (fun z1 => K (.v (.one (.str z1)))) := (ve204_0 N a0 K).trans (zt49 N a0 (fun z1 => K (.v (.one (.str z1))))).symm
theorem o204 {β : Type} (N : Nat) : SpecOK (β := β) inv Tryd.prog 204 (S204 N) := by
  refine spec_of lay_ok mixed (E := E204 N) (specs_loops specs_nil) muts_nil gs_nil Tryd.func204 (by kernel_rfl) 0 (by kernel_rfl) trivial fun args K r h => ?_
  unfold S204 VS204 at h
  split at h
  · exact (e204_0 N _ _).trans h
  · cases h
end Go.Proofs.YtfdggelojmofmaaDoor
