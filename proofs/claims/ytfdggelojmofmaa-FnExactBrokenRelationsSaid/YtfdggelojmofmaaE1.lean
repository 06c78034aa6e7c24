/- The functions that the claims reach answer as their texts do. -/
import Derived.Test.YtfdggelojmofmaaE0
namespace Go.Proofs.Ytfdggelojmofmaa
open Go.Rv
set_option maxRecDepth 100000
set_option maxHeartbeats 2000000
set_option linter.unusedVariables false
def VS166 {β : Type} (N : Nat) (zq27 : (a0 : Int) → (k : Int → Option β) → Option β) : Rv.Spec β := fun args K => match args with
  | [.v (.one (.int .i64 a0))] => zq27 a0 (fun z1 => K (.v (.one (.int .i64 z1))))
  | _ => none
def S166 {β : Type} (N : Nat) : Rv.Spec β := VS166 N (zj27 N)
def h166_0_0  (v0 : Int) (v1 : Int) : St := ⟨tund :: tund :: tund :: .v (.one (.int .i64 v0)) :: .v (.one (.int .i64 v1)) :: tund :: tund :: tund :: tund :: tund :: tund :: tund :: tund :: tund :: tund :: [], []⟩
def x166_0_0_k0  (y0 : Int) : St := ⟨tund :: tund :: tund :: .v (.one (.int .i64 y0)) :: tund :: tund :: tund :: tund :: tund :: tund :: tund :: tund :: tund :: tund :: tund :: [], []⟩
theorem fl166_0_0 (s : St) : refSt (h166_0_0 0 0) s = h166_0_0 (intS (oneA (vT (nx tund s.tmps 3)))) (intS (oneA (vT (nx tund s.tmps 4)))) := by kernel_rfl
def VLS166_0 {β : Type} (N : Nat) (zq26 : Nat → Int → Int → (Int → Option β) → Option β) : LSpec β := fun s K => cond (shpSt (h166_0_0 0 0) s) ((fun (v0 : Int) (v1 : Int) => zq26  N v0 v1 (fun y0 => K (.exit 0) (x166_0_0_k0  y0))) (intS (oneA (vT (nx tund s.tmps 3)))) (intS (oneA (vT (nx tund s.tmps 4))))) (none)
def LS166_0 {β : Type} (N : Nat) : LSpec β := VLS166_0 N (zj26 N)
def VE166 {β : Type} (N : Nat) (zq26 : Nat → Int → Int → (Int → Option β) → Option β) : Env β := ⟨[], [], [(0, VLS166_0 N zq26)], [], ⟨[], [], [], [61]⟩⟩
def E166 {β : Type} (N : Nat) : Env β := VE166 N (zj26 N)
def zb25 {β : Type} (N : Nat)  (v0 : Int) (v1 : Int) (rec_ : Int → Int → Option β) (k0 : Int → Option β) : Option β :=
(cond ((decide (v1 > 0)))
(rec_ ((w64 (v0 + (bits .and .i64 v1 1)))) ((shrI .i64 v1 1)))
(k0 v0))
theorem zt25 {β : Type} (N : Nat)  (v0 : Int) (v1 : Int) (rec_ : Int → Int → Option β) (k0 : Int → Option β) : zj25 N v0 v1 rec_ k0 = zb25 N v0 v1 rec_ k0 := by
  unfold zj25 zb25
  rfl
theorem vst166_0_0 {β : Type} (N : Nat) (zq26 : Nat → Int → Int → (Int → Option β) → Option β)  (v0 : Int) (v1 : Int) (rec_ : St → Option β) (K : Exit → St → Option β) :
    ev lay (VE166 N zq26) (retMask Try.f166) (lp Try.f166 0).body (lp Try.f166 0).ex ((lp Try.f166 0).lv (retMask Try.f166)) (h166_0_0  v0 v1) (nextR (fun s' => rec_ (s'.tidy ((lp Try.f166 0).lv (retMask Try.f166)))) K) = zb25 N  v0 v1 (fun v0 v1 => rec_ (h166_0_0  v0 v1)) (fun y0 => K (.exit 0) (x166_0_0_k0  y0)) := by kernel_rfl
theorem st166_0_0 {β : Type} (N : Nat)  (v0 : Int) (v1 : Int) (rec_ : St → Option β) (K : Exit → St → Option β) :
    ev lay (E166 N) (retMask Try.f166) (lp Try.f166 0).body (lp Try.f166 0).ex ((lp Try.f166 0).lv (retMask Try.f166)) (h166_0_0  v0 v1) (nextR (fun s' => rec_ (s'.tidy ((lp Try.f166 0).lv (retMask Try.f166)))) K) = zj25 N  v0 v1 (fun v0 v1 => rec_ (h166_0_0  v0 v1)) (fun y0 => K (.exit 0) (x166_0_0_k0  y0)) := (vst166_0_0 N (zj26 N) v0 v1 rec_ K).trans (zt25 N  v0 v1 (fun v0 v1 => rec_ (h166_0_0  v0 v1)) (fun y0 => K (.exit 0) (x166_0_0_k0  y0))).symm
theorem ro166_0_0 {β : Type} (N : Nat)  (K : Exit → St → Option β) : ∀ (F : Nat) (v0 : Int) (v1 : Int), (lp Try.f166 0).rounds lay (E166 N) (retMask Try.f166) F (h166_0_0  v0 v1) K = zj26 N  F v0 v1 (fun y0 => K (.exit 0) (x166_0_0_k0  y0)) := by
  intro F
  induction F with
  | zero => intros; rfl
  | succ F ih =>
    intros
    rw [rounds_next]
    refine (st166_0_0 N  _ _ (fun s => (lp Try.f166 0).rounds lay (E166 N) (retMask Try.f166) F s K) K).trans ?_
    simp only [ih]
    rfl
theorem lk166_0 {β : Type} (N : Nat) : lookL (E166 (β := β) N).loops (lp Try.f166 0).id = LS166_0 N := by kernel_rfl
theorem rk166_0 {β : Type} (N : Nat) : RoundsOK lay (E166 (β := β) N) (retMask Try.f166) (lp Try.f166 0) := by
  intro s K r h
  rw [lk166_0] at h
  unfold LS166_0 VLS166_0 at h
  cases hb : shpSt (h166_0_0 0 0) s with
  | true =>
    rw [hb, cond_true] at h
    exact ⟨N, by rw [← shpSt_ref hb, fl166_0_0 s]; exact (ro166_0_0 N  K N (intS (oneA (vT (nx tund s.tmps 3)))) (intS (oneA (vT (nx tund s.tmps 4))))).trans h⟩
  | false =>
  rw [hb, cond_false] at h
  clear hb
  cases h
def zb27 {β : Type} (N : Nat) (zq26 : Nat → Int → Int → (Int → Option β) → Option β) (a0 : Int) (k : Int → Option β) : Option β :=
zq26  N 0 a0 (fun e2_0 =>
k e2_0)
theorem zt27 {β : Type} (N : Nat) (a0 : Int) (k : Int → Option β) : zj27 N a0 k = zb27 N (zj26 N) a0 k := by
  unfold zj27 zb27
  rfl
theorem ve166_0 {β : Type} (N : Nat) (zq26 : Nat → Int → Int → (Int → Option β) → Option β)  (a0 : Int) (K : TV → Option β) : evFn lay (VE166 N zq26) Try.f166 [.v (.one (.int .i64 a0))] K = zb27 N zq26 a0 (fun z1 => K (.v (.one (.int .i64 z1)))) := by kernel_rfl
theorem e166_0 {β : Type} (N : Nat)  (a0 : Int) (K : TV → Option β) : evFn lay (E166 N) Try.f166 [.v (.one (.int .i64 a0))] K = zj27 N a0 (fun z1 => K (.v (.one (.int .i64 z1)))) := (ve166_0 N (zj26 N) a0 K).trans (zt27 N a0 (fun z1 => K (.v (.one (.int .i64 z1))))).symm
theorem o166 {β : Type} (N : Nat) : SpecOK (β := β) inv Try.prog 166 (S166 N) := by
  refine spec_of lay_ok mixed (E := E166 N) (specs_loops specs_nil) muts_nil gs_nil Try.func166 (by kernel_rfl) 1 (by kernel_rfl) ⟨trivial, rk166_0 N⟩ fun args K r h => ?_
  unfold S166 VS166 at h
  split at h
  · exact (e166_0 N _ _).trans h
  · cases h
def VS199 {β : Type} (N : Nat) (zq30 : (a0 : Int) → (a1 : Int) → (a2 : Int) → (a3 : Int) → (k : Int → Option β) → Option β) : Rv.Spec β := fun args K => match args with
  | [.v (.agg [.int .i64 a0, .int .i64 a1]), .v (.one (.int .i64 a2)), .v (.one (.int .i64 a3))] => zq30 a0 a1 a2 a3 (fun z4 => K (.v (.one (.int .i64 z4))))
  | _ => none
def S199 {β : Type} (N : Nat) : Rv.Spec β := VS199 N (zj30 N)
def h199_0_0  (v0 : Int) (v1 : Int) (v2 : Int) (v3 : Int) (v4 : Int) (v5 : Int) : St := ⟨tund :: .v (.one (.int .i64 v0)) :: .v (.one (.int .i64 v1)) :: .v (.one (.ptr 0 0)) :: tund :: tund :: tund :: .v (.one (.int .i64 v2)) :: .v (.one (.int .i64 v3)) :: tund :: tund :: tund :: tund :: tund :: tund :: tund :: tund :: tund :: tund :: tund :: tund :: tund :: tund :: tund :: tund :: tund :: tund :: tund :: tund :: tund :: tund :: tund :: tund :: tund :: tund :: tund :: [], [.cells 27 [.int .i64 v4, .int .i64 v5]]⟩
def x199_0_0_k0  (y0 : Int) : St := ⟨tund :: tund :: tund :: tund :: tund :: tund :: .v (.one (.int .i64 y0)) :: tund :: tund :: tund :: tund :: tund :: tund :: tund :: tund :: tund :: tund :: tund :: tund :: tund :: tund :: tund :: tund :: tund :: tund :: tund :: tund :: tund :: tund :: tund :: tund :: tund :: tund :: tund :: tund :: tund :: [], []⟩
def x199_0_0_k1  (y0 : Int) : St := ⟨tund :: tund :: tund :: tund :: tund :: tund :: tund :: .v (.one (.int .i64 y0)) :: tund :: tund :: tund :: tund :: tund :: tund :: tund :: tund :: tund :: tund :: tund :: tund :: tund :: tund :: tund :: tund :: tund :: tund :: tund :: tund :: tund :: tund :: tund :: tund :: tund :: tund :: tund :: tund :: [], []⟩
theorem fl199_0_0 (s : St) : refSt (h199_0_0 0 0 0 0 0 0) s = h199_0_0 (intS (oneA (vT (nx tund s.tmps 1)))) (intS (oneA (vT (nx tund s.tmps 2)))) (intS (oneA (vT (nx tund s.tmps 7)))) (intS (oneA (vT (nx tund s.tmps 8)))) (intS (nx .und (cellsB (nx .dead s.blks 0)) 0)) (intS (nx .und (cellsB (nx .dead s.blks 0)) 1)) := by kernel_rfl
def VLS199_0 {β : Type} (N : Nat) (zq29 : Nat → Int → Int → Int → Int → Int → Int → (Int → Option β) → (Int → Option β) → Option β) : LSpec β := fun s K => cond (shpSt (h199_0_0 0 0 0 0 0 0) s) ((fun (v0 : Int) (v1 : Int) (v2 : Int) (v3 : Int) (v4 : Int) (v5 : Int) => zq29  N v0 v1 v2 v3 v4 v5 (fun y0 => K .ret (x199_0_0_k0  y0)) (fun y0 => K (.exit 0) (x199_0_0_k1  y0))) (intS (oneA (vT (nx tund s.tmps 1)))) (intS (oneA (vT (nx tund s.tmps 2)))) (intS (oneA (vT (nx tund s.tmps 7)))) (intS (oneA (vT (nx tund s.tmps 8)))) (intS (nx .und (cellsB (nx .dead s.blks 0)) 0)) (intS (nx .und (cellsB (nx .dead s.blks 0)) 1))) (none)
def LS199_0 {β : Type} (N : Nat) : LSpec β := VLS199_0 N (zj29 N)
def VE199 {β : Type} (N : Nat) (zq29 : Nat → Int → Int → Int → Int → Int → Int → (Int → Option β) → (Int → Option β) → Option β) : Env β := ⟨[], [], [(0, VLS199_0 N zq29)], [], ⟨[], [], [], [61]⟩⟩
def E199 {β : Type} (N : Nat) : Env β := VE199 N (zj29 N)
def zb28 {β : Type} (N : Nat)  (v0 : Int) (v1 : Int) (v2 : Int) (v3 : Int) (v4 : Int) (v5 : Int) (rec_ : Int → Int → Int → Int → Int → Int → Option β) (k0 : Int → Option β) (k1 : Int → Option β) : Option β :=
(gd ((decide (0 ≤ v4)))
((cond ((decide (v3 < (shlI .i64 1 v4))))
((cond (((bits .and .i64 v3 v0) != v1))
(rec_ v0 v1 v2 ((w64 (v3 + 1))) v4 v5)
((gd ((decide (0 ≤ v3)))
((cond ((decide (v2 ≥ 0)))
((cond ((v2 != (bits .and .i64 (shrI .i64 v5 v3) 1)))
(k0 2)
(rec_ v0 v1 ((bits .and .i64 (shrI .i64 v5 v3) 1)) ((w64 (v3 + 1))) v4 v5)))
(rec_ v0 v1 ((bits .and .i64 (shrI .i64 v5 v3) 1)) ((w64 (v3 + 1))) v4 v5)))))))
(k1 v2))))
theorem zt28 {β : Type} (N : Nat)  (v0 : Int) (v1 : Int) (v2 : Int) (v3 : Int) (v4 : Int) (v5 : Int) (rec_ : Int → Int → Int → Int → Int → Int → Option β) (k0 : Int → Option β) (k1 : Int → Option β) : zj28 N v0 v1 v2 v3 v4 v5 rec_ k0 k1 = zb28 N v0 v1 v2 v3 v4 v5 rec_ k0 k1 := by
  unfold zj28 zb28
  rfl
theorem vst199_0_0 {β : Type} (N : Nat) (zq29 : Nat → Int → Int → Int → Int → Int → Int → (Int → Option β) → (Int → Option β) → Option β)  (v0 : Int) (v1 : Int) (v2 : Int) (v3 : Int) (v4 : Int) (v5 : Int) (rec_ : St → Option β) (K : Exit → St → Option β) :
    ev lay (VE199 N zq29) (retMask Try.f199) (lp Try.f199 0).body (lp Try.f199 0).ex ((lp Try.f199 0).lv (retMask Try.f199)) (h199_0_0  v0 v1 v2 v3 v4 v5) (nextR (fun s' => rec_ (s'.tidy ((lp Try.f199 0).lv (retMask Try.f199)))) K) = zb28 N  v0 v1 v2 v3 v4 v5 (fun v0 v1 v2 v3 v4 v5 => rec_ (h199_0_0  v0 v1 v2 v3 v4 v5)) (fun y0 => K .ret (x199_0_0_k0  y0)) (fun y0 => K (.exit 0) (x199_0_0_k1  y0)) := by kernel_rfl
theorem st199_0_0 {β : Type} (N : Nat)  (v0 : Int) (v1 : Int) (v2 : Int) (v3 : Int) (v4 : Int) (v5 : Int) (rec_ : St → Option β) (K : Exit → St → Option β) :
    ev lay (E199 N) (retMask Try.f199) (lp Try.f199 0).body (lp Try.f199 0).ex ((lp Try.f199 0).lv (retMask Try.f199)) (h199_0_0  v0 v1 v2 v3 v4 v5) (nextR (fun s' => rec_ (s'.tidy ((lp Try.f199 0).lv (retMask Try.f199)))) K) = zj28 N  v0 v1 v2 v3 v4 v5 (fun v0 v1 v2 v3 v4 v5 => rec_ (h199_0_0  v0 v1 v2 v3 v4 v5)) (fun y0 => K .ret (x199_0_0_k0  y0)) (fun y0 => K (.exit 0) (x199_0_0_k1  y0)) := (vst199_0_0 N (zj29 N) v0 v1 v2 v3 v4 v5 rec_ K).trans (zt28 N  v0 v1 v2 v3 v4 v5 (fun v0 v1 v2 v3 v4 v5 => rec_ (h199_0_0  v0 v1 v2 v3 v4 v5)) (fun y0 => K .ret (x199_0_0_k0  y0)) (fun y0 => K (.exit 0) (x199_0_0_k1  y0))).symm
theorem ro199_0_0 {β : Type} (N : Nat)  (K : Exit → St → Option β) : ∀ (F : Nat) (v0 : Int) (v1 : Int) (v2 : Int) (v3 : Int) (v4 : Int) (v5 : Int), (lp Try.f199 0).rounds lay (E199 N) (retMask Try.f199) F (h199_0_0  v0 v1 v2 v3 v4 v5) K = zj29 N  F v0 v1 v2 v3 v4 v5 (fun y0 => K .ret (x199_0_0_k0  y0)) (fun y0 => K (.exit 0) (x199_0_0_k1  y0)) := by
  intro F
  induction F with
  | zero => intros; rfl
  | succ F ih =>
    intros
    rw [rounds_next]
    refine (st199_0_0 N  _ _ _ _ _ _ (fun s => (lp Try.f199 0).rounds lay (E199 N) (retMask Try.f199) F s K) K).trans ?_
    simp only [ih]
    rfl
theorem lk199_0 {β : Type} (N : Nat) : lookL (E199 (β := β) N).loops (lp Try.f199 0).id = LS199_0 N := by kernel_rfl
theorem rk199_0 {β : Type} (N : Nat) : RoundsOK lay (E199 (β := β) N) (retMask Try.f199) (lp Try.f199 0) := by
  intro s K r h
  rw [lk199_0] at h
  unfold LS199_0 VLS199_0 at h
  cases hb : shpSt (h199_0_0 0 0 0 0 0 0) s with
  | true =>
    rw [hb, cond_true] at h
    exact ⟨N, by rw [← shpSt_ref hb, fl199_0_0 s]; exact (ro199_0_0 N  K N (intS (oneA (vT (nx tund s.tmps 1)))) (intS (oneA (vT (nx tund s.tmps 2)))) (intS (oneA (vT (nx tund s.tmps 7)))) (intS (oneA (vT (nx tund s.tmps 8)))) (intS (nx .und (cellsB (nx .dead s.blks 0)) 0)) (intS (nx .und (cellsB (nx .dead s.blks 0)) 1))).trans h⟩
  | false =>
  rw [hb, cond_false] at h
  clear hb
  cases h
def zb30 {β : Type} (N : Nat) (zq29 : Nat → Int → Int → Int → Int → Int → Int → (Int → Option β) → (Int → Option β) → Option β) (a0 : Int) (a1 : Int) (a2 : Int) (a3 : Int) (k : Int → Option β) : Option β :=
zq29  N a2 a3 (-1) 0 a0 a1 (fun e5_0 =>
k e5_0) (fun e6_0 =>
k e6_0)
theorem zt30 {β : Type} (N : Nat) (a0 : Int) (a1 : Int) (a2 : Int) (a3 : Int) (k : Int → Option β) : zj30 N a0 a1 a2 a3 k = zb30 N (zj29 N) a0 a1 a2 a3 k := by
  unfold zj30 zb30
  rfl
theorem ve199_0 {β : Type} (N : Nat) (zq29 : Nat → Int → Int → Int → Int → Int → Int → (Int → Option β) → (Int → Option β) → Option β)  (a0 : Int) (a1 : Int) (a2 : Int) (a3 : Int) (K : TV → Option β) : evFn lay (VE199 N zq29) Try.f199 [.v (.agg [.int .i64 a0, .int .i64 a1]), .v (.one (.int .i64 a2)), .v (.one (.int .i64 a3))] K = zb30 N zq29 a0 a1 a2 a3 (fun z4 => K (.v (.one (.int .i64 z4)))) := by kernel_rfl
theorem e199_0 {β : Type} (N : Nat)  (a0 : Int) (a1 : Int) (a2 : Int) (a3 : Int) (K : TV → Option β) : evFn lay (E199 N) Try.f199 [.v (.agg [.int .i64 a0, .int .i64 a1]), .v (.one (.int .i64 a2)), .v (.one (.int .i64 a3))] K = zj30 N a0 a1 a2 a3 (fun z4 => K (.v (.one (.int .i64 z4)))) := (ve199_0 N (zj29 N) a0 a1 a2 a3 K).trans (zt30 N a0 a1 a2 a3 (fun z4 => K (.v (.one (.int .i64 z4))))).symm
theorem o199 {β : Type} (N : Nat) : SpecOK (β := β) inv Try.prog 199 (S199 N) := by
  refine spec_of lay_ok mixed (E := E199 N) (specs_loops specs_nil) muts_nil gs_nil Try.func199 (by kernel_rfl) 1 (by kernel_rfl) ⟨trivial, rk199_0 N⟩ fun args K r h => ?_
  unfold S199 VS199 at h
  split at h
  · exact (e199_0 N _ _ _ _ _).trans h
  · cases h
def VS170 {β : Type} (N : Nat) (zq33 : (a0 : Int) → (a1 : Int) → (a2 : Int) → (k : Int → Option β) → Option β) : Rv.Spec β := fun args K => match args with
  | [.v (.agg [.int .i64 a0, .int .i64 a1]), .v (.one (.int .i64 a2))] => zq33 a0 a1 a2 (fun z3 => K (.v (.one (.int .i64 z3))))
  | _ => none
def S170 {β : Type} (N : Nat) : Rv.Spec β := VS170 N (zj33 N)
def h170_0_0  (v0 : Int) (v1 : Int) (v2 : Int) (v3 : Int) (v4 : Int) : St := ⟨tund :: .v (.one (.int .i64 v0)) :: .v (.one (.ptr 0 0)) :: tund :: tund :: .v (.one (.int .i64 v1)) :: .v (.one (.int .i64 v2)) :: tund :: tund :: tund :: tund :: tund :: tund :: tund :: tund :: tund :: tund :: tund :: tund :: tund :: tund :: tund :: tund :: tund :: tund :: tund :: tund :: tund :: tund :: tund :: tund :: tund :: tund :: tund :: [], [.cells 27 [.int .i64 v3, .int .i64 v4]]⟩
def x170_0_0_k0  (y0 : Int) : St := ⟨tund :: tund :: tund :: tund :: tund :: .v (.one (.int .i64 y0)) :: tund :: tund :: tund :: tund :: tund :: tund :: tund :: tund :: tund :: tund :: tund :: tund :: tund :: tund :: tund :: tund :: tund :: tund :: tund :: tund :: tund :: tund :: tund :: tund :: tund :: tund :: tund :: tund :: [], []⟩
theorem fl170_0_0 (s : St) : refSt (h170_0_0 0 0 0 0 0) s = h170_0_0 (intS (oneA (vT (nx tund s.tmps 1)))) (intS (oneA (vT (nx tund s.tmps 5)))) (intS (oneA (vT (nx tund s.tmps 6)))) (intS (nx .und (cellsB (nx .dead s.blks 0)) 0)) (intS (nx .und (cellsB (nx .dead s.blks 0)) 1)) := by kernel_rfl
def VLS170_0 {β : Type} (N : Nat) (zq32 : Nat → Int → Int → Int → Int → Int → (Int → Option β) → Option β) : LSpec β := fun s K => cond (shpSt (h170_0_0 0 0 0 0 0) s) ((fun (v0 : Int) (v1 : Int) (v2 : Int) (v3 : Int) (v4 : Int) => zq32  N v0 v1 v2 v3 v4 (fun y0 => K (.exit 0) (x170_0_0_k0  y0))) (intS (oneA (vT (nx tund s.tmps 1)))) (intS (oneA (vT (nx tund s.tmps 5)))) (intS (oneA (vT (nx tund s.tmps 6)))) (intS (nx .und (cellsB (nx .dead s.blks 0)) 0)) (intS (nx .und (cellsB (nx .dead s.blks 0)) 1))) (none)
def LS170_0 {β : Type} (N : Nat) : LSpec β := VLS170_0 N (zj32 N)
def VE170 {β : Type} (N : Nat) (zq27 : (a0 : Int) → (k : Int → Option β) → Option β) (zq30 : (a0 : Int) → (a1 : Int) → (a2 : Int) → (a3 : Int) → (k : Int → Option β) → Option β) (zq32 : Nat → Int → Int → Int → Int → Int → (Int → Option β) → Option β) : Env β := ⟨[(166, VS166 N zq27), (199, VS199 N zq30)], [], [(0, VLS170_0 N zq32)], [], ⟨[], [], [], [61]⟩⟩
def E170 {β : Type} (N : Nat) : Env β := VE170 N (zj27 N) (zj30 N) (zj32 N)
def zb31 {β : Type} (N : Nat) (zq27 : (a0 : Int) → (k : Int → Option β) → Option β) (zq30 : (a0 : Int) → (a1 : Int) → (a2 : Int) → (a3 : Int) → (k : Int → Option β) → Option β)  (v0 : Int) (v1 : Int) (v2 : Int) (v3 : Int) (v4 : Int) (rec_ : Int → Int → Int → Int → Int → Option β) (k0 : Int → Option β) : Option β :=
(gd ((decide (0 ≤ v3)))
((cond ((decide (v2 < (shlI .i64 1 v3))))
(zq27 v2 fun r4 =>
zq27 v1 fun r5 =>
(cond ((decide (r4 < r5)))
(zq30 v3 v4 v2 ((bits .and .i64 v0 v2)) fun r6 =>
(cond ((decide (r6 < 2)))
(rec_ v0 v2 ((w64 (v2 + 1))) v3 v4)
(rec_ v0 v1 ((w64 (v2 + 1))) v3 v4)))
(rec_ v0 v1 ((w64 (v2 + 1))) v3 v4)))
(k0 v1))))
theorem zt31 {β : Type} (N : Nat)  (v0 : Int) (v1 : Int) (v2 : Int) (v3 : Int) (v4 : Int) (rec_ : Int → Int → Int → Int → Int → Option β) (k0 : Int → Option β) : zj31 N v0 v1 v2 v3 v4 rec_ k0 = zb31 N (zj27 N) (zj30 N) v0 v1 v2 v3 v4 rec_ k0 := by
  unfold zj31 zb31
  rfl
theorem vst170_0_0 {β : Type} (N : Nat) (zq27 : (a0 : Int) → (k : Int → Option β) → Option β) (zq30 : (a0 : Int) → (a1 : Int) → (a2 : Int) → (a3 : Int) → (k : Int → Option β) → Option β) (zq32 : Nat → Int → Int → Int → Int → Int → (Int → Option β) → Option β)  (v0 : Int) (v1 : Int) (v2 : Int) (v3 : Int) (v4 : Int) (rec_ : St → Option β) (K : Exit → St → Option β) :
    ev lay (VE170 N zq27 zq30 zq32) (retMask Try.f170) (lp Try.f170 0).body (lp Try.f170 0).ex ((lp Try.f170 0).lv (retMask Try.f170)) (h170_0_0  v0 v1 v2 v3 v4) (nextR (fun s' => rec_ (s'.tidy ((lp Try.f170 0).lv (retMask Try.f170)))) K) = zb31 N zq27 zq30  v0 v1 v2 v3 v4 (fun v0 v1 v2 v3 v4 => rec_ (h170_0_0  v0 v1 v2 v3 v4)) (fun y0 => K (.exit 0) (x170_0_0_k0  y0)) := by kernel_rfl
theorem st170_0_0 {β : Type} (N : Nat)  (v0 : Int) (v1 : Int) (v2 : Int) (v3 : Int) (v4 : Int) (rec_ : St → Option β) (K : Exit → St → Option β) :
    ev lay (E170 N) (retMask Try.f170) (lp Try.f170 0).body (lp Try.f170 0).ex ((lp Try.f170 0).lv (retMask Try.f170)) (h170_0_0  v0 v1 v2 v3 v4) (nextR (fun s' => rec_ (s'.tidy ((lp Try.f170 0).lv (retMask Try.f170)))) K) = zj31 N  v0 v1 v2 v3 v4 (fun v0 v1 v2 v3 v4 => rec_ (h170_0_0  v0 v1 v2 v3 v4)) (fun y0 => K (.exit 0) (x170_0_0_k0  y0)) := (vst170_0_0 N (zj27 N) (zj30 N) (zj32 N) v0 v1 v2 v3 v4 rec_ K).trans (zt31 N  v0 v1 v2 v3 v4 (fun v0 v1 v2 v3 v4 => rec_ (h170_0_0  v0 v1 v2 v3 v4)) (fun y0 => K (.exit 0) (x170_0_0_k0  y0))).symm
theorem ro170_0_0 {β : Type} (N : Nat)  (K : Exit → St → Option β) : ∀ (F : Nat) (v0 : Int) (v1 : Int) (v2 : Int) (v3 : Int) (v4 : Int), (lp Try.f170 0).rounds lay (E170 N) (retMask Try.f170) F (h170_0_0  v0 v1 v2 v3 v4) K = zj32 N  F v0 v1 v2 v3 v4 (fun y0 => K (.exit 0) (x170_0_0_k0  y0)) := by
  intro F
  induction F with
  | zero => intros; rfl
  | succ F ih =>
    intros
    rw [rounds_next]
    refine (st170_0_0 N  _ _ _ _ _ (fun s => (lp Try.f170 0).rounds lay (E170 N) (retMask Try.f170) F s K) K).trans ?_
    simp only [ih]
    rfl
theorem lk170_0 {β : Type} (N : Nat) : lookL (E170 (β := β) N).loops (lp Try.f170 0).id = LS170_0 N := by kernel_rfl
theorem rk170_0 {β : Type} (N : Nat) : RoundsOK lay (E170 (β := β) N) (retMask Try.f170) (lp Try.f170 0) := by
  intro s K r h
  rw [lk170_0] at h
  unfold LS170_0 VLS170_0 at h
  cases hb : shpSt (h170_0_0 0 0 0 0 0) s with
  | true =>
    rw [hb, cond_true] at h
    exact ⟨N, by rw [← shpSt_ref hb, fl170_0_0 s]; exact (ro170_0_0 N  K N (intS (oneA (vT (nx tund s.tmps 1)))) (intS (oneA (vT (nx tund s.tmps 5)))) (intS (oneA (vT (nx tund s.tmps 6)))) (intS (nx .und (cellsB (nx .dead s.blks 0)) 0)) (intS (nx .und (cellsB (nx .dead s.blks 0)) 1))).trans h⟩
  | false =>
  rw [hb, cond_false] at h
  clear hb
  cases h
def zb33 {β : Type} (N : Nat) (zq32 : Nat → Int → Int → Int → Int → Int → (Int → Option β) → Option β) (a0 : Int) (a1 : Int) (a2 : Int) (k : Int → Option β) : Option β :=
(gd ((decide (0 ≤ a0)))
(zq32  N a2 ((w64 ((shlI .i64 1 a0) - 1))) 0 a0 a1 (fun e7_0 =>
k e7_0)))
theorem zt33 {β : Type} (N : Nat) (a0 : Int) (a1 : Int) (a2 : Int) (k : Int → Option β) : zj33 N a0 a1 a2 k = zb33 N (zj32 N) a0 a1 a2 k := by
  unfold zj33 zb33
  rfl
theorem ve170_0 {β : Type} (N : Nat) (zq27 : (a0 : Int) → (k : Int → Option β) → Option β) (zq30 : (a0 : Int) → (a1 : Int) → (a2 : Int) → (a3 : Int) → (k : Int → Option β) → Option β) (zq32 : Nat → Int → Int → Int → Int → Int → (Int → Option β) → Option β)  (a0 : Int) (a1 : Int) (a2 : Int) (K : TV → Option β) : evFn lay (VE170 N zq27 zq30 zq32) Try.f170 [.v (.agg [.int .i64 a0, .int .i64 a1]), .v (.one (.int .i64 a2))] K = zb33 N zq32 a0 a1 a2 (fun z3 => K (.v (.one (.int .i64 z3)))) := by kernel_rfl
theorem e170_0 {β : Type} (N : Nat)  (a0 : Int) (a1 : Int) (a2 : Int) (K : TV → Option β) : evFn lay (E170 N) Try.f170 [.v (.agg [.int .i64 a0, .int .i64 a1]), .v (.one (.int .i64 a2))] K = zj33 N a0 a1 a2 (fun z3 => K (.v (.one (.int .i64 z3)))) := (ve170_0 N (zj27 N) (zj30 N) (zj32 N) a0 a1 a2 K).trans (zt33 N a0 a1 a2 (fun z3 => K (.v (.one (.int .i64 z3))))).symm
theorem o170 {β : Type} (N : Nat) : SpecOK (β := β) inv Try.prog 170 (S170 N) := by
  refine spec_of lay_ok mixed (E := E170 N) (specs_loops (specs_cons (o166 N) (specs_cons (o199 N) specs_nil))) muts_nil gs_nil Try.func170 (by kernel_rfl) 1 (by kernel_rfl) ⟨trivial, rk170_0 N⟩ fun args K r h => ?_
  unfold S170 VS170 at h
  split at h
  · exact (e170_0 N _ _ _ _).trans h
  · cases h
def VS134 {β : Type} (N : Nat) (zq34 : (a0 : Int) → (a1 : Int) → (a2 : Int) → (k : Int → Option β) → Option β) : Rv.Spec β := fun args K => match args with
  | [.v (.agg [.int .i64 a0, .int .i64 a1]), .v (.one (.int .i64 a2))] => zq34 a0 a1 a2 (fun z3 => K (.v (.one (.int .i64 z3))))
  | _ => none
def S134 {β : Type} (N : Nat) : Rv.Spec β := VS134 N (zj34 N)
def VE134 {β : Type} (N : Nat) (zq10 : (a0 : Int) → (a1 : Int) → (a2 : Int) → (k : Bool → Option β) → Option β) (zq33 : (a0 : Int) → (a1 : Int) → (a2 : Int) → (k : Int → Option β) → Option β) (zq27 : (a0 : Int) → (k : Int → Option β) → Option β) : Env β := ⟨[(169, VS169 N zq10), (170, VS170 N zq33), (166, VS166 N zq27)], [], [], [], ⟨[], [], [], [61]⟩⟩
def E134 {β : Type} (N : Nat) : Env β := VE134 N (zj10 N) (zj33 N) (zj27 N)
def zb34 {β : Type} (N : Nat) (zq10 : (a0 : Int) → (a1 : Int) → (a2 : Int) → (k : Bool → Option β) → Option β) (zq33 : (a0 : Int) → (a1 : Int) → (a2 : Int) → (k : Int → Option β) → Option β) (zq27 : (a0 : Int) → (k : Int → Option β) → Option β) (a0 : Int) (a1 : Int) (a2 : Int) (k : Int → Option β) : Option β :=
zq10 a0 a1 a2 fun r4 =>
(cond (!r4)
(k (-1))
(zq33 a0 a1 a2 fun r5 =>
zq27 r5 fun r6 =>
k r6))
theorem zt34 {β : Type} (N : Nat) (a0 : Int) (a1 : Int) (a2 : Int) (k : Int → Option β) : zj34 N a0 a1 a2 k = zb34 N (zj10 N) (zj33 N) (zj27 N) a0 a1 a2 k := by
  unfold zj34 zb34
  rfl
theorem ve134_0 {β : Type} (N : Nat) (zq10 : (a0 : Int) → (a1 : Int) → (a2 : Int) → (k : Bool → Option β) → Option β) (zq33 : (a0 : Int) → (a1 : Int) → (a2 : Int) → (k : Int → Option β) → Option β) (zq27 : (a0 : Int) → (k : Int → Option β) → Option β)  (a0 : Int) (a1 : Int) (a2 : Int) (K : TV → Option β) : evFn lay (VE134 N zq10 zq33 zq27) Try.f134 [.v (.agg [.int .i64 a0, .int .i64 a1]), .v (.one (.int .i64 a2))] K = zb34 N zq10 zq33 zq27 a0 a1 a2 (fun z3 => K (.v (.one (.int .i64 z3)))) := by kernel_rfl
theorem e134_0 {β : Type} (N : Nat)  (a0 : Int) (a1 : Int) (a2 : Int) (K : TV → Option β) : evFn lay (E134 N) Try.f134 [.v (.agg [.int .i64 a0, .int .i64 a1]), .v (.one (.int .i64 a2))] K = zj34 N a0 a1 a2 (fun z3 => K (.v (.one (.int .i64 z3)))) := (ve134_0 N (zj10 N) (zj33 N) (zj27 N) a0 a1 a2 K).trans (zt34 N a0 a1 a2 (fun z3 => K (.v (.one (.int .i64 z3))))).symm
theorem o134 {β : Type} (N : Nat) : SpecOK (β := β) inv Try.prog 134 (S134 N) := by
  refine spec_of lay_ok mixed (E := E134 N) (specs_loops (specs_cons (o169 N) (specs_cons (o170 N) (specs_cons (o166 N) specs_nil)))) muts_nil gs_nil Try.func134 (by kernel_rfl) 0 (by kernel_rfl) trivial fun args K r h => ?_
  unfold S134 VS134 at h
  split at h
  · exact (e134_0 N _ _ _ _).trans h
  · cases h
def VS100 {β : Type} (N : Nat) (zq37 : (a0 : Int) → (a1 : Int) → (a2 : Int) → (k : Int → Option β) → Option β) : Rv.Spec β := fun args K => match args with
  | [.v (.agg [.int .i64 a0, .int .i64 a1]), .v (.one (.int .i64 a2))] => zq37 a0 a1 a2 (fun z3 => K (.v (.one (.int .i64 z3))))
  | _ => none
def S100 {β : Type} (N : Nat) : Rv.Spec β := VS100 N (zj37 N)
def h100_0_0  (v0 : Int) (v1 : Int) (v2 : Int) (v3 : Int) (v4 : Int) : St := ⟨tund :: .v (.one (.int .i64 v0)) :: .v (.one (.ptr 0 0)) :: tund :: tund :: .v (.one (.int .i64 v1)) :: .v (.one (.int .i64 v2)) :: tund :: tund :: tund :: tund :: tund :: tund :: tund :: tund :: tund :: tund :: tund :: tund :: tund :: tund :: tund :: tund :: tund :: tund :: tund :: tund :: tund :: tund :: tund :: tund :: tund :: tund :: tund :: tund :: [], [.cells 27 [.int .i64 v3, .int .i64 v4]]⟩
def x100_0_0_k0  (y0 : Int) : St := ⟨tund :: tund :: tund :: tund :: tund :: .v (.one (.int .i64 y0)) :: tund :: tund :: tund :: tund :: tund :: tund :: tund :: tund :: tund :: tund :: tund :: tund :: tund :: tund :: tund :: tund :: tund :: tund :: tund :: tund :: tund :: tund :: tund :: tund :: tund :: tund :: tund :: tund :: tund :: [], []⟩
theorem fl100_0_0 (s : St) : refSt (h100_0_0 0 0 0 0 0) s = h100_0_0 (intS (oneA (vT (nx tund s.tmps 1)))) (intS (oneA (vT (nx tund s.tmps 5)))) (intS (oneA (vT (nx tund s.tmps 6)))) (intS (nx .und (cellsB (nx .dead s.blks 0)) 0)) (intS (nx .und (cellsB (nx .dead s.blks 0)) 1)) := by kernel_rfl
def VLS100_0 {β : Type} (N : Nat) (zq36 : Nat → Int → Int → Int → Int → Int → (Int → Option β) → Option β) : LSpec β := fun s K => cond (shpSt (h100_0_0 0 0 0 0 0) s) ((fun (v0 : Int) (v1 : Int) (v2 : Int) (v3 : Int) (v4 : Int) => zq36  N v0 v1 v2 v3 v4 (fun y0 => K (.exit 0) (x100_0_0_k0  y0))) (intS (oneA (vT (nx tund s.tmps 1)))) (intS (oneA (vT (nx tund s.tmps 5)))) (intS (oneA (vT (nx tund s.tmps 6)))) (intS (nx .und (cellsB (nx .dead s.blks 0)) 0)) (intS (nx .und (cellsB (nx .dead s.blks 0)) 1))) (none)
def LS100_0 {β : Type} (N : Nat) : LSpec β := VLS100_0 N (zj36 N)
def VE100 {β : Type} (N : Nat) (zq2 : (a0 : Int) → (a1 : Int) → (k : Bool → Option β) → Option β) (zq1 : (a0 : Int) → (a1 : Int) → (a2 : Int) → (k : Bool → Option β) → Option β) (zq34 : (a0 : Int) → (a1 : Int) → (a2 : Int) → (k : Int → Option β) → Option β) (zq36 : Nat → Int → Int → Int → Int → Int → (Int → Option β) → Option β) : Env β := ⟨[(58, VS58 N zq2), (73, VS73 N zq1), (134, VS134 N zq34)], [], [(0, VLS100_0 N zq36)], [], ⟨[], [], [], [61]⟩⟩
def E100 {β : Type} (N : Nat) : Env β := VE100 N (zj2 N) (zj1 N) (zj34 N) (zj36 N)
def zb35 {β : Type} (N : Nat) (zq34 : (a0 : Int) → (a1 : Int) → (a2 : Int) → (k : Int → Option β) → Option β)  (v0 : Int) (v1 : Int) (v2 : Int) (v3 : Int) (v4 : Int) (rec_ : Int → Int → Int → Int → Int → Option β) (k0 : Int → Option β) : Option β :=
(gd ((decide (0 ≤ v3)))
((cond ((decide (v2 < (shlI .i64 1 v3))))
((gd ((decide (0 ≤ v2)))
((cond (((bits .and .i64 (shrI .i64 v4 v2) 1) == v0))
(zq34 v3 v4 v2 fun r6 =>
rec_ v0 ((mxI v1 r6)) ((w64 (v2 + 1))) v3 v4)
(rec_ v0 v1 ((w64 (v2 + 1))) v3 v4)))))
(k0 v1))))
theorem zt35 {β : Type} (N : Nat)  (v0 : Int) (v1 : Int) (v2 : Int) (v3 : Int) (v4 : Int) (rec_ : Int → Int → Int → Int → Int → Option β) (k0 : Int → Option β) : zj35 N v0 v1 v2 v3 v4 rec_ k0 = zb35 N (zj34 N) v0 v1 v2 v3 v4 rec_ k0 := by
  unfold zj35 zb35
  rfl
theorem vst100_0_0 {β : Type} (N : Nat) (zq2 : (a0 : Int) → (a1 : Int) → (k : Bool → Option β) → Option β) (zq1 : (a0 : Int) → (a1 : Int) → (a2 : Int) → (k : Bool → Option β) → Option β) (zq34 : (a0 : Int) → (a1 : Int) → (a2 : Int) → (k : Int → Option β) → Option β) (zq36 : Nat → Int → Int → Int → Int → Int → (Int → Option β) → Option β)  (v0 : Int) (v1 : Int) (v2 : Int) (v3 : Int) (v4 : Int) (rec_ : St → Option β) (K : Exit → St → Option β) :
    ev lay (VE100 N zq2 zq1 zq34 zq36) (retMask Try.f100) (lp Try.f100 0).body (lp Try.f100 0).ex ((lp Try.f100 0).lv (retMask Try.f100)) (h100_0_0  v0 v1 v2 v3 v4) (nextR (fun s' => rec_ (s'.tidy ((lp Try.f100 0).lv (retMask Try.f100)))) K) = zb35 N zq34  v0 v1 v2 v3 v4 (fun v0 v1 v2 v3 v4 => rec_ (h100_0_0  v0 v1 v2 v3 v4)) (fun y0 => K (.exit 0) (x100_0_0_k0  y0)) := by kernel_rfl
theorem st100_0_0 {β : Type} (N : Nat)  (v0 : Int) (v1 : Int) (v2 : Int) (v3 : Int) (v4 : Int) (rec_ : St → Option β) (K : Exit → St → Option β) :
    ev lay (E100 N) (retMask Try.f100) (lp Try.f100 0).body (lp Try.f100 0).ex ((lp Try.f100 0).lv (retMask Try.f100)) (h100_0_0  v0 v1 v2 v3 v4) (nextR (fun s' => rec_ (s'.tidy ((lp Try.f100 0).lv (retMask Try.f100)))) K) = zj35 N  v0 v1 v2 v3 v4 (fun v0 v1 v2 v3 v4 => rec_ (h100_0_0  v0 v1 v2 v3 v4)) (fun y0 => K (.exit 0) (x100_0_0_k0  y0)) := (vst100_0_0 N (zj2 N) (zj1 N) (zj34 N) (zj36 N) v0 v1 v2 v3 v4 rec_ K).trans (zt35 N  v0 v1 v2 v3 v4 (fun v0 v1 v2 v3 v4 => rec_ (h100_0_0  v0 v1 v2 v3 v4)) (fun y0 => K (.exit 0) (x100_0_0_k0  y0))).symm
theorem ro100_0_0 {β : Type} (N : Nat)  (K : Exit → St → Option β) : ∀ (F : Nat) (v0 : Int) (v1 : Int) (v2 : Int) (v3 : Int) (v4 : Int), (lp Try.f100 0).rounds lay (E100 N) (retMask Try.f100) F (h100_0_0  v0 v1 v2 v3 v4) K = zj36 N  F v0 v1 v2 v3 v4 (fun y0 => K (.exit 0) (x100_0_0_k0  y0)) := by
  intro F
  induction F with
  | zero => intros; rfl
  | succ F ih =>
    intros
    rw [rounds_next]
    refine (st100_0_0 N  _ _ _ _ _ (fun s => (lp Try.f100 0).rounds lay (E100 N) (retMask Try.f100) F s K) K).trans ?_
    simp only [ih]
    rfl
theorem lk100_0 {β : Type} (N : Nat) : lookL (E100 (β := β) N).loops (lp Try.f100 0).id = LS100_0 N := by kernel_rfl
theorem rk100_0 {β : Type} (N : Nat) : RoundsOK lay (E100 (β := β) N) (retMask Try.f100) (lp Try.f100 0) := by
  intro s K r h
  rw [lk100_0] at h
  unfold LS100_0 VLS100_0 at h
  cases hb : shpSt (h100_0_0 0 0 0 0 0) s with
  | true =>
    rw [hb, cond_true] at h
    exact ⟨N, by rw [← shpSt_ref hb, fl100_0_0 s]; exact (ro100_0_0 N  K N (intS (oneA (vT (nx tund s.tmps 1)))) (intS (oneA (vT (nx tund s.tmps 5)))) (intS (oneA (vT (nx tund s.tmps 6)))) (intS (nx .und (cellsB (nx .dead s.blks 0)) 0)) (intS (nx .und (cellsB (nx .dead s.blks 0)) 1))).trans h⟩
  | false =>
  rw [hb, cond_false] at h
  clear hb
  cases h
def zb37 {β : Type} (N : Nat) (zq2 : (a0 : Int) → (a1 : Int) → (k : Bool → Option β) → Option β) (zq1 : (a0 : Int) → (a1 : Int) → (a2 : Int) → (k : Bool → Option β) → Option β) (zq36 : Nat → Int → Int → Int → Int → Int → (Int → Option β) → Option β) (a0 : Int) (a1 : Int) (a2 : Int) (k : Int → Option β) : Option β :=
zq2 a0 a1 fun r4 =>
(cond (!r4)
(k (-1))
(zq1 a2 0 1 fun r5 =>
(cond (!r5)
(k (-1))
(zq36  N a2 0 0 a0 a1 (fun e7_0 =>
k e7_0)))))
theorem zt37 {β : Type} (N : Nat) (a0 : Int) (a1 : Int) (a2 : Int) (k : Int → Option β) : zj37 N a0 a1 a2 k = zb37 N (zj2 N) (zj1 N) (zj36 N) a0 a1 a2 k := by
  unfold zj37 zb37
  rfl
theorem ve100_0 {β : Type} (N : Nat) (zq2 : (a0 : Int) → (a1 : Int) → (k : Bool → Option β) → Option β) (zq1 : (a0 : Int) → (a1 : Int) → (a2 : Int) → (k : Bool → Option β) → Option β) (zq34 : (a0 : Int) → (a1 : Int) → (a2 : Int) → (k : Int → Option β) → Option β) (zq36 : Nat → Int → Int → Int → Int → Int → (Int → Option β) → Option β)  (a0 : Int) (a1 : Int) (a2 : Int) (K : TV → Option β) : evFn lay (VE100 N zq2 zq1 zq34 zq36) Try.f100 [.v (.agg [.int .i64 a0, .int .i64 a1]), .v (.one (.int .i64 a2))] K = zb37 N zq2 zq1 zq36 a0 a1 a2 (fun z3 => K (.v (.one (.int .i64 z3)))) := by kernel_rfl
theorem e100_0 {β : Type} (N : Nat)  (a0 : Int) (a1 : Int) (a2 : Int) (K : TV → Option β) : evFn lay (E100 N) Try.f100 [.v (.agg [.int .i64 a0, .int .i64 a1]), .v (.one (.int .i64 a2))] K = zj37 N a0 a1 a2 (fun z3 => K (.v (.one (.int .i64 z3)))) := (ve100_0 N (zj2 N) (zj1 N) (zj34 N) (zj36 N) a0 a1 a2 K).trans (zt37 N a0 a1 a2 (fun z3 => K (.v (.one (.int .i64 z3))))).symm
theorem o100 {β : Type} (N : Nat) : SpecOK (β := β) inv Try.prog 100 (S100 N) := by
  refine spec_of lay_ok mixed (E := E100 N) (specs_loops (specs_cons (o58 N) (specs_cons (o73 N) (specs_cons (o134 N) specs_nil)))) muts_nil gs_nil Try.func100 (by kernel_rfl) 1 (by kernel_rfl) ⟨trivial, rk100_0 N⟩ fun args K r h => ?_
  unfold S100 VS100 at h
  split at h
  · exact (e100_0 N _ _ _ _).trans h
  · cases h
def VSF164 {β : Type} (N : Nat) (zq41 : Nat → Int → Int → Int → Int → (Int → Option β) → Option β) (G : Nat) : Rv.Spec β := fun args K => match args with
  | [.v (.agg [.int .i64 a0, .int .i64 a1]), .v (.one (.int .i64 a2)), .v (.one (.int .i64 a3))] => zq41 G a0 a1 a2 a3 (fun z4 => K (.v (.one (.int .i64 z4))))
  | _ => none
def SF164 {β : Type} (N : Nat) (G : Nat) : Rv.Spec β := VSF164 N (zj41 N) G
def VS164 {β : Type} (N : Nat) (zq41 : Nat → Int → Int → Int → Int → (Int → Option β) → Option β) : Rv.Spec β := VSF164 N zq41 N
def S164 {β : Type} (N : Nat) : Rv.Spec β := SF164 N N
def h164_0_0  (v0 : Int) (v1 : Int) (v2 : Int) (v3 : Int) (v4 : Int) (v5 : Int) : St := ⟨tund :: .v (.one (.int .i64 v0)) :: .v (.one (.int .i64 v1)) :: .v (.one (.ptr 0 0)) :: tund :: tund :: tund :: .v (.one (.int .i64 v2)) :: .v (.one (.int .i64 v3)) :: tund :: tund :: tund :: tund :: tund :: tund :: tund :: tund :: tund :: tund :: tund :: tund :: tund :: tund :: tund :: tund :: tund :: tund :: tund :: tund :: tund :: tund :: tund :: tund :: tund :: tund :: tund :: tund :: tund :: tund :: tund :: tund :: tund :: tund :: tund :: tund :: tund :: [], [.cells 27 [.int .i64 v4, .int .i64 v5]]⟩
def x164_0_0_k0  (y0 : Int) : St := ⟨tund :: tund :: tund :: tund :: tund :: tund :: tund :: .v (.one (.int .i64 y0)) :: tund :: tund :: tund :: tund :: tund :: tund :: tund :: tund :: tund :: tund :: tund :: tund :: tund :: tund :: tund :: tund :: tund :: tund :: tund :: tund :: tund :: tund :: tund :: tund :: tund :: tund :: tund :: tund :: tund :: tund :: tund :: tund :: tund :: tund :: tund :: tund :: tund :: tund :: [], []⟩
theorem fl164_0_0 (s : St) : refSt (h164_0_0 0 0 0 0 0 0) s = h164_0_0 (intS (oneA (vT (nx tund s.tmps 1)))) (intS (oneA (vT (nx tund s.tmps 2)))) (intS (oneA (vT (nx tund s.tmps 7)))) (intS (oneA (vT (nx tund s.tmps 8)))) (intS (nx .und (cellsB (nx .dead s.blks 0)) 0)) (intS (nx .und (cellsB (nx .dead s.blks 0)) 1)) := by kernel_rfl
def VLS164_0 {β : Type} (N : Nat) (zq39 : (self : Int → Int → Int → Int → (Int → Option β) → Option β) → Nat → Int → Int → Int → Int → Int → Int → (Int → Option β) → Option β) (zq41 : Nat → Int → Int → Int → Int → (Int → Option β) → Option β) (G : Nat) : LSpec β := fun s K => cond (shpSt (h164_0_0 0 0 0 0 0 0) s) ((fun (v0 : Int) (v1 : Int) (v2 : Int) (v3 : Int) (v4 : Int) (v5 : Int) => zq39 (zq41 G)  N v0 v1 v2 v3 v4 v5 (fun y0 => K (.exit 0) (x164_0_0_k0  y0))) (intS (oneA (vT (nx tund s.tmps 1)))) (intS (oneA (vT (nx tund s.tmps 2)))) (intS (oneA (vT (nx tund s.tmps 7)))) (intS (oneA (vT (nx tund s.tmps 8)))) (intS (nx .und (cellsB (nx .dead s.blks 0)) 0)) (intS (nx .und (cellsB (nx .dead s.blks 0)) 1))) (none)
def LS164_0 {β : Type} (N : Nat) (G : Nat) : LSpec β := VLS164_0 N (zj39 N) (zj41 N) G
def VE164 {β : Type} (N : Nat) (zq30 : (a0 : Int) → (a1 : Int) → (a2 : Int) → (a3 : Int) → (k : Int → Option β) → Option β) (zq41 : Nat → Int → Int → Int → Int → (Int → Option β) → Option β) (zq39 : (self : Int → Int → Int → Int → (Int → Option β) → Option β) → Nat → Int → Int → Int → Int → Int → Int → (Int → Option β) → Option β) (G : Nat) : Env β := ⟨[(199, VS199 N zq30), (164, VSF164 N zq41 G)], [], [(0, VLS164_0 N zq39 zq41 G)], [], ⟨[], [], [], [61]⟩⟩
def E164 {β : Type} (N : Nat) (G : Nat) : Env β := VE164 N (zj30 N) (zj41 N) (zj39 N) G
def zb38 {β : Type} (N : Nat) (self : Int → Int → Int → Int → (Int → Option β) → Option β)  (v0 : Int) (v1 : Int) (v2 : Int) (v3 : Int) (v4 : Int) (v5 : Int) (rec_ : Int → Int → Int → Int → Int → Int → Option β) (k0 : Int → Option β) : Option β :=
(cond ((decide (v3 < v4)))
((gd ((decide (0 ≤ v3)))
((cond (((bits .and .i64 v0 (shlI .i64 1 v3)) == 0))
(self v4 v5 ((bits .or .i64 v0 (shlI .i64 1 v3))) v1 fun r6 =>
self v4 v5 ((bits .or .i64 v0 (shlI .i64 1 v3))) ((bits .or .i64 v1 (shlI .i64 1 v3))) fun r7 =>
rec_ v0 v1 ((mnI v2 (w64 (1 + (mxI r6 r7))))) ((w64 (v3 + 1))) v4 v5)
(rec_ v0 v1 v2 ((w64 (v3 + 1))) v4 v5)))))
(k0 v2))
theorem zt38 {β : Type} (N : Nat) (self : Int → Int → Int → Int → (Int → Option β) → Option β)  (v0 : Int) (v1 : Int) (v2 : Int) (v3 : Int) (v4 : Int) (v5 : Int) (rec_ : Int → Int → Int → Int → Int → Int → Option β) (k0 : Int → Option β) : zj38 N self v0 v1 v2 v3 v4 v5 rec_ k0 = zb38 N self v0 v1 v2 v3 v4 v5 rec_ k0 := by
  unfold zj38 zb38
  rfl
theorem vst164_0_0 {β : Type} (N : Nat) (zq30 : (a0 : Int) → (a1 : Int) → (a2 : Int) → (a3 : Int) → (k : Int → Option β) → Option β) (zq41 : Nat → Int → Int → Int → Int → (Int → Option β) → Option β) (zq39 : (self : Int → Int → Int → Int → (Int → Option β) → Option β) → Nat → Int → Int → Int → Int → Int → Int → (Int → Option β) → Option β) (G : Nat)  (v0 : Int) (v1 : Int) (v2 : Int) (v3 : Int) (v4 : Int) (v5 : Int) (rec_ : St → Option β) (K : Exit → St → Option β) :
    ev lay (VE164 N zq30 zq41 zq39 G) (retMask Try.f164) (lp Try.f164 0).body (lp Try.f164 0).ex ((lp Try.f164 0).lv (retMask Try.f164)) (h164_0_0  v0 v1 v2 v3 v4 v5) (nextR (fun s' => rec_ (s'.tidy ((lp Try.f164 0).lv (retMask Try.f164)))) K) = zb38 N (zq41 G)  v0 v1 v2 v3 v4 v5 (fun v0 v1 v2 v3 v4 v5 => rec_ (h164_0_0  v0 v1 v2 v3 v4 v5)) (fun y0 => K (.exit 0) (x164_0_0_k0  y0)) := by kernel_rfl
theorem st164_0_0 {β : Type} (N : Nat) (G : Nat)  (v0 : Int) (v1 : Int) (v2 : Int) (v3 : Int) (v4 : Int) (v5 : Int) (rec_ : St → Option β) (K : Exit → St → Option β) :
    ev lay (E164 N G) (retMask Try.f164) (lp Try.f164 0).body (lp Try.f164 0).ex ((lp Try.f164 0).lv (retMask Try.f164)) (h164_0_0  v0 v1 v2 v3 v4 v5) (nextR (fun s' => rec_ (s'.tidy ((lp Try.f164 0).lv (retMask Try.f164)))) K) = zj38 N (zj41 N G)  v0 v1 v2 v3 v4 v5 (fun v0 v1 v2 v3 v4 v5 => rec_ (h164_0_0  v0 v1 v2 v3 v4 v5)) (fun y0 => K (.exit 0) (x164_0_0_k0  y0)) := (vst164_0_0 N (zj30 N) (zj41 N) (zj39 N) G v0 v1 v2 v3 v4 v5 rec_ K).trans (zt38 N (zj41 N G)  v0 v1 v2 v3 v4 v5 (fun v0 v1 v2 v3 v4 v5 => rec_ (h164_0_0  v0 v1 v2 v3 v4 v5)) (fun y0 => K (.exit 0) (x164_0_0_k0  y0))).symm
theorem ro164_0_0 {β : Type} (N : Nat) (G : Nat)  (K : Exit → St → Option β) : ∀ (F : Nat) (v0 : Int) (v1 : Int) (v2 : Int) (v3 : Int) (v4 : Int) (v5 : Int), (lp Try.f164 0).rounds lay (E164 N G) (retMask Try.f164) F (h164_0_0  v0 v1 v2 v3 v4 v5) K = zj39 N (zj41 N G)  F v0 v1 v2 v3 v4 v5 (fun y0 => K (.exit 0) (x164_0_0_k0  y0)) := by
  intro F
  induction F with
  | zero => intros; rfl
  | succ F ih =>
    intros
    rw [rounds_next]
    refine (st164_0_0 N G  _ _ _ _ _ _ (fun s => (lp Try.f164 0).rounds lay (E164 N G) (retMask Try.f164) F s K) K).trans ?_
    simp only [ih]
    rfl
theorem lk164_0 {β : Type} (N : Nat) (G : Nat) : lookL (E164 (β := β) N G).loops (lp Try.f164 0).id = LS164_0 N G := by kernel_rfl
theorem rk164_0 {β : Type} (N : Nat) (G : Nat) : RoundsOK lay (E164 (β := β) N G) (retMask Try.f164) (lp Try.f164 0) := by
  intro s K r h
  rw [lk164_0] at h
  unfold LS164_0 VLS164_0 at h
  cases hb : shpSt (h164_0_0 0 0 0 0 0 0) s with
  | true =>
    rw [hb, cond_true] at h
    exact ⟨N, by rw [← shpSt_ref hb, fl164_0_0 s]; exact (ro164_0_0 N G  K N (intS (oneA (vT (nx tund s.tmps 1)))) (intS (oneA (vT (nx tund s.tmps 2)))) (intS (oneA (vT (nx tund s.tmps 7)))) (intS (oneA (vT (nx tund s.tmps 8)))) (intS (nx .und (cellsB (nx .dead s.blks 0)) 0)) (intS (nx .und (cellsB (nx .dead s.blks 0)) 1))).trans h⟩
  | false =>
  rw [hb, cond_false] at h
  clear hb
  cases h
def zb40 {β : Type} (N : Nat) (zq30 : (a0 : Int) → (a1 : Int) → (a2 : Int) → (a3 : Int) → (k : Int → Option β) → Option β) (zq39 : (self : Int → Int → Int → Int → (Int → Option β) → Option β) → Nat → Int → Int → Int → Int → Int → Int → (Int → Option β) → Option β) (self : Int → Int → Int → Int → (Int → Option β) → Option β) (a0 : Int) (a1 : Int) (a2 : Int) (a3 : Int) (k : Int → Option β) : Option β :=
zq30 a0 a1 a2 a3 fun r5 =>
(cond ((decide (r5 < 2)))
(k 0)
(zq39 self  N a2 a3 10 0 a0 a1 (fun e8_0 =>
k e8_0)))
theorem zt40 {β : Type} (N : Nat) (self : Int → Int → Int → Int → (Int → Option β) → Option β) (a0 : Int) (a1 : Int) (a2 : Int) (a3 : Int) (k : Int → Option β) : zj40 N self a0 a1 a2 a3 k = zb40 N (zj30 N) (zj39 N) self a0 a1 a2 a3 k := by
  unfold zj40 zb40
  rfl
theorem ve164_0 {β : Type} (N : Nat) (zq30 : (a0 : Int) → (a1 : Int) → (a2 : Int) → (a3 : Int) → (k : Int → Option β) → Option β) (zq41 : Nat → Int → Int → Int → Int → (Int → Option β) → Option β) (zq39 : (self : Int → Int → Int → Int → (Int → Option β) → Option β) → Nat → Int → Int → Int → Int → Int → Int → (Int → Option β) → Option β) (G : Nat)  (a0 : Int) (a1 : Int) (a2 : Int) (a3 : Int) (K : TV → Option β) : evFn lay (VE164 N zq30 zq41 zq39 G) Try.f164 [.v (.agg [.int .i64 a0, .int .i64 a1]), .v (.one (.int .i64 a2)), .v (.one (.int .i64 a3))] K = zb40 N zq30 zq39 (zq41 G) a0 a1 a2 a3 (fun z4 => K (.v (.one (.int .i64 z4)))) := by kernel_rfl
theorem e164_0 {β : Type} (N : Nat) (G : Nat)  (a0 : Int) (a1 : Int) (a2 : Int) (a3 : Int) (K : TV → Option β) : evFn lay (E164 N G) Try.f164 [.v (.agg [.int .i64 a0, .int .i64 a1]), .v (.one (.int .i64 a2)), .v (.one (.int .i64 a3))] K = zj41 N (G + 1) a0 a1 a2 a3 (fun z4 => K (.v (.one (.int .i64 z4)))) := (ve164_0 N (zj30 N) (zj41 N) (zj39 N) G a0 a1 a2 a3 K).trans (zt40 N (zj41 N G) a0 a1 a2 a3 (fun z4 => K (.v (.one (.int .i64 z4))))).symm
theorem z164 {β : Type} (N : Nat) : ∀ args K r, SF164 (β := β) N 0 args K = some r → (none : Option β) = some r := by
  intro args K r h
  unfold SF164 VSF164 at h
  split at h <;> exact h
theorem of164 {β : Type} (N : Nat) : ∀ G, SpecOK (β := β) inv Try.prog 164 (SF164 N G) := by
  intro G
  induction G with
  | zero => exact s_zero Try.func164 (by kernel_rfl) (z164 N)
  | succ G ih =>
    refine spec_of lay_ok mixed (E := E164 N G) (specs_loops (specs_cons (o199 N) (specs_cons ih specs_nil))) muts_nil gs_nil Try.func164 (by kernel_rfl) 1 (by kernel_rfl) ⟨trivial, rk164_0 N G⟩ fun args K r h => ?_
    unfold SF164 VSF164 at h
    split at h
    · exact (e164_0 N G _ _ _ _ _).trans h
    · cases h
theorem o164 {β : Type} (N : Nat) : SpecOK (β := β) inv Try.prog 164 (S164 N) := of164 N N
def VS129 {β : Type} (N : Nat) (zq43 : (a0 : Int) → (a1 : Int) → (k : Int → Option β) → Option β) : Rv.Spec β := fun args K => match args with
  | [.v (.agg [.int .i64 a0, .int .i64 a1])] => zq43 a0 a1 (fun z2 => K (.v (.one (.int .i64 z2))))
  | _ => none
def S129 {β : Type} (N : Nat) : Rv.Spec β := VS129 N (zj43 N)
def VE129 {β : Type} (N : Nat) (zq2 : (a0 : Int) → (a1 : Int) → (k : Bool → Option β) → Option β) (zq41 : Nat → Int → Int → Int → Int → (Int → Option β) → Option β) : Env β := ⟨[(58, VS58 N zq2), (164, VS164 N zq41)], [], [], [], ⟨[], [], [], [61]⟩⟩
def E129 {β : Type} (N : Nat) : Env β := VE129 N (zj2 N) (zj41 N)
def zb43 {β : Type} (N : Nat) (zq2 : (a0 : Int) → (a1 : Int) → (k : Bool → Option β) → Option β) (zq41 : Nat → Int → Int → Int → Int → (Int → Option β) → Option β) (a0 : Int) (a1 : Int) (k : Int → Option β) : Option β :=
zq2 a0 a1 fun r3 =>
(cond (!r3)
(k (-1))
((cond ((decide (a0 > 4)))
(k (-1))
(zq41 N a0 a1 0 0 fun r4 =>
k r4))))
theorem zt43 {β : Type} (N : Nat) (a0 : Int) (a1 : Int) (k : Int → Option β) : zj43 N a0 a1 k = zb43 N (zj2 N) (zj41 N) a0 a1 k := by
  unfold zj43 zb43
  rfl
theorem ve129_0 {β : Type} (N : Nat) (zq2 : (a0 : Int) → (a1 : Int) → (k : Bool → Option β) → Option β) (zq41 : Nat → Int → Int → Int → Int → (Int → Option β) → Option β)  (a0 : Int) (a1 : Int) (K : TV → Option β) : evFn lay (VE129 N zq2 zq41) Try.f129 [.v (.agg [.int .i64 a0, .int .i64 a1])] K = zb43 N zq2 zq41 a0 a1 (fun z2 => K (.v (.one (.int .i64 z2)))) := by kernel_rfl
theorem e129_0 {β : Type} (N : Nat)  (a0 : Int) (a1 : Int) (K : TV → Option β) : evFn lay (E129 N) Try.f129 [.v (.agg [.int .i64 a0, .int .i64 a1])] K = zj43 N a0 a1 (fun z2 => K (.v (.one (.int .i64 z2)))) := (ve129_0 N (zj2 N) (zj41 N) a0 a1 K).trans (zt43 N a0 a1 (fun z2 => K (.v (.one (.int .i64 z2))))).symm
theorem o129 {β : Type} (N : Nat) : SpecOK (β := β) inv Try.prog 129 (S129 N) := by
  refine spec_of lay_ok mixed (E := E129 N) (specs_loops (specs_cons (o58 N) (specs_cons (o164 N) specs_nil))) muts_nil gs_nil Try.func129 (by kernel_rfl) 0 (by kernel_rfl) trivial fun args K r h => ?_
  unfold S129 VS129 at h
  split at h
  · exact (e129_0 N _ _ _).trans h
  · cases h
end Go.Proofs.Ytfdggelojmofmaa
