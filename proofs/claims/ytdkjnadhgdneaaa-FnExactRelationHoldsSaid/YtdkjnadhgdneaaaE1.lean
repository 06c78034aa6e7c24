/- The functions that the claims reach answer as their texts do. -/
import Derived.Test.YtdkjnadhgdneaaaE0
namespace Go.Proofs.Ytdkjnadhgdneaaa
open Go.Rv
set_option maxRecDepth 100000
set_option maxHeartbeats 2000000
set_option linter.unusedVariables false
def VS70 {β : Type} (N : Nat) (q_spec_l2Count : (a0 : Int) → (k : Int → Option β) → Option β) : Rv.Spec β := fun args K => match args with
  | [.v (.one (.int .i64 a0))] => q_spec_l2Count a0 (fun z1 => K (.v (.one (.int .i64 z1))))
  | _ => none
def S70 {β : Type} (N : Nat) : Rv.Spec β := VS70 N (spec_l2Count N)
def h70_0_0  (v0 : Int) (v1 : Int) : St := ⟨.v (.one .und) :: .v (.one .und) :: .v (.one .und) :: .v (.one (.int .i64 v0)) :: .v (.one (.int .i64 v1)) :: .v (.one .und) :: .v (.one .und) :: .v (.one .und) :: .v (.one .und) :: .v (.one .und) :: .v (.one .und) :: .v (.one .und) :: .v (.one .und) :: .v (.one .und) :: .v (.one .und) :: [], []⟩
def x70_0_0_k0  (y0 : Int) : St := ⟨.v (.one .und) :: .v (.one .und) :: .v (.one .und) :: .v (.one (.int .i64 y0)) :: .v (.one .und) :: .v (.one .und) :: .v (.one .und) :: .v (.one .und) :: .v (.one .und) :: .v (.one .und) :: .v (.one .und) :: .v (.one .und) :: .v (.one .und) :: .v (.one .und) :: .v (.one .und) :: [], []⟩
theorem fl70_0_0 (s : St) : refSt (h70_0_0 0 0) s = h70_0_0 (intS (oneA (vT (nx tund s.tmps 3)))) (intS (oneA (vT (nx tund s.tmps 4)))) := by kernel_rfl
def VLS70_0 {β : Type} (N : Nat) (q_spec_l2Count_l0 : Nat → Int → Int → (Int → Option β) → Option β) : LSpec β := fun s K => cond (shpSt (h70_0_0 0 0) s) ((fun (v0 : Int) (v1 : Int) => q_spec_l2Count_l0  N v0 v1 (fun y0 => K (.exit 0) (x70_0_0_k0  y0))) (intS (oneA (vT (nx tund s.tmps 3)))) (intS (oneA (vT (nx tund s.tmps 4))))) (none)
def LS70_0 {β : Type} (N : Nat) : LSpec β := VLS70_0 N (spec_l2Count_l0 N)
def VE70 {β : Type} (N : Nat) (q_spec_l2Count_l0 : Nat → Int → Int → (Int → Option β) → Option β) : Env β := ⟨[], [], [(0, VLS70_0 N q_spec_l2Count_l0)], []⟩
def E70 {β : Type} (N : Nat) : Env β := VE70 N (spec_l2Count_l0 N)
def BV_spec_l2Count_l0b {β : Type} (N : Nat)  (v0 : Int) (v1 : Int) (rec_ : Int → Int → Option β) (k0 : Int → Option β) : Option β :=
(cond ((decide (v1 > 0)))
(rec_ ((w64 (v0 + (bits .and .i64 v1 1)))) ((shrI .i64 v1 1)))
(k0 v0))
theorem t_spec_l2Count_l0b {β : Type} (N : Nat)  (v0 : Int) (v1 : Int) (rec_ : Int → Int → Option β) (k0 : Int → Option β) : spec_l2Count_l0b N v0 v1 rec_ k0 = BV_spec_l2Count_l0b N v0 v1 rec_ k0 := by
  unfold spec_l2Count_l0b BV_spec_l2Count_l0b
  rfl
theorem vst70_0_0 {β : Type} (N : Nat) (q_spec_l2Count_l0 : Nat → Int → Int → (Int → Option β) → Option β)  (v0 : Int) (v1 : Int) (rec_ : St → Option β) (K : Exit → St → Option β) :
    ev lay (VE70 N q_spec_l2Count_l0) (retMask Try.f70) (lp Try.f70 0).body (lp Try.f70 0).ex ((lp Try.f70 0).lv (retMask Try.f70)) (h70_0_0  v0 v1) (nextR (fun s' => rec_ (s'.tidy ((lp Try.f70 0).lv (retMask Try.f70)))) K) = BV_spec_l2Count_l0b N  v0 v1 (fun v0 v1 => rec_ (h70_0_0  v0 v1)) (fun y0 => K (.exit 0) (x70_0_0_k0  y0)) := by kernel_rfl
theorem st70_0_0 {β : Type} (N : Nat)  (v0 : Int) (v1 : Int) (rec_ : St → Option β) (K : Exit → St → Option β) :
    ev lay (E70 N) (retMask Try.f70) (lp Try.f70 0).body (lp Try.f70 0).ex ((lp Try.f70 0).lv (retMask Try.f70)) (h70_0_0  v0 v1) (nextR (fun s' => rec_ (s'.tidy ((lp Try.f70 0).lv (retMask Try.f70)))) K) = spec_l2Count_l0b N  v0 v1 (fun v0 v1 => rec_ (h70_0_0  v0 v1)) (fun y0 => K (.exit 0) (x70_0_0_k0  y0)) := (vst70_0_0 N (spec_l2Count_l0 N) v0 v1 rec_ K).trans (t_spec_l2Count_l0b N  v0 v1 (fun v0 v1 => rec_ (h70_0_0  v0 v1)) (fun y0 => K (.exit 0) (x70_0_0_k0  y0))).symm
theorem ro70_0_0 {β : Type} (N : Nat)  (K : Exit → St → Option β) : ∀ (F : Nat) (v0 : Int) (v1 : Int), (lp Try.f70 0).rounds lay (E70 N) (retMask Try.f70) F (h70_0_0  v0 v1) K = spec_l2Count_l0 N  F v0 v1 (fun y0 => K (.exit 0) (x70_0_0_k0  y0)) := by
  intro F
  induction F with
  | zero => intros; rfl
  | succ F ih =>
    intros
    rw [rounds_next]
    refine (st70_0_0 N  _ _ (fun s => (lp Try.f70 0).rounds lay (E70 N) (retMask Try.f70) F s K) K).trans ?_
    simp only [ih]
    rfl
theorem lk70_0 {β : Type} (N : Nat) : lookL (E70 (β := β) N).loops (lp Try.f70 0).id = LS70_0 N := by kernel_rfl
theorem rk70_0 {β : Type} (N : Nat) : RoundsOK lay (E70 (β := β) N) (retMask Try.f70) (lp Try.f70 0) := by
  intro s K r h
  rw [lk70_0] at h
  unfold LS70_0 VLS70_0 at h
  cases hb : shpSt (h70_0_0 0 0) s with
  | true =>
    rw [hb, cond_true] at h
    exact ⟨N, by rw [← shpSt_ref hb, fl70_0_0 s]; exact (ro70_0_0 N  K N (intS (oneA (vT (nx tund s.tmps 3)))) (intS (oneA (vT (nx tund s.tmps 4))))).trans h⟩
  | false =>
  rw [hb, cond_false] at h
  clear hb
  cases h
def BV_spec_l2Count {β : Type} (N : Nat) (q_spec_l2Count_l0 : Nat → Int → Int → (Int → Option β) → Option β) (a0 : Int) (k : Int → Option β) : Option β :=
q_spec_l2Count_l0  N 0 a0 (fun e2_0 =>
k e2_0)
theorem t_spec_l2Count {β : Type} (N : Nat) (a0 : Int) (k : Int → Option β) : spec_l2Count N a0 k = BV_spec_l2Count N (spec_l2Count_l0 N) a0 k := by
  unfold spec_l2Count BV_spec_l2Count
  rfl
theorem ve70_0 {β : Type} (N : Nat) (q_spec_l2Count_l0 : Nat → Int → Int → (Int → Option β) → Option β)  (a0 : Int) (K : TV → Option β) : evFn lay (VE70 N q_spec_l2Count_l0) Try.f70 [.v (.one (.int .i64 a0))] K = BV_spec_l2Count N q_spec_l2Count_l0 a0 (fun z1 => K (.v (.one (.int .i64 z1)))) := by kernel_rfl
theorem e70_0 {β : Type} (N : Nat)  (a0 : Int) (K : TV → Option β) : evFn lay (E70 N) Try.f70 [.v (.one (.int .i64 a0))] K = spec_l2Count N a0 (fun z1 => K (.v (.one (.int .i64 z1)))) := (ve70_0 N (spec_l2Count_l0 N) a0 K).trans (t_spec_l2Count N a0 (fun z1 => K (.v (.one (.int .i64 z1))))).symm
theorem o70 {β : Type} (N : Nat) : SpecOK (β := β) Try.prog 70 (S70 N) := by
  refine spec_of lay_ok mixed (E := E70 N) (specs_loops specs_nil) muts_nil gs_nil Try.func70 (by kernel_rfl) 1 (by kernel_rfl) ⟨trivial, rk70_0 N⟩ fun args K r h => ?_
  unfold S70 VS70 at h
  split at h
  · exact (e70_0 N _ _).trans h
  · cases h
def VS143 {β : Type} (N : Nat) (q_spec_l3Cube : (a0 : Int) → (a1 : Int) → (a2 : Int) → (a3 : Int) → (k : Int → Option β) → Option β) : Rv.Spec β := fun args K => match args with
  | [.v (.agg [.int .i64 a0, .int .i64 a1]), .v (.one (.int .i64 a2)), .v (.one (.int .i64 a3))] => q_spec_l3Cube a0 a1 a2 a3 (fun z4 => K (.v (.one (.int .i64 z4))))
  | _ => none
def S143 {β : Type} (N : Nat) : Rv.Spec β := VS143 N (spec_l3Cube N)
def h143_0_0  (v0 : Int) (v1 : Int) (v2 : Int) (v3 : Int) (v4 : Int) (v5 : Int) : St := ⟨.v (.one .und) :: .v (.one (.int .i64 v0)) :: .v (.one (.int .i64 v1)) :: .v (.one (.ptr 0 0)) :: .v (.one .und) :: .v (.one .und) :: .v (.one .und) :: .v (.one (.int .i64 v2)) :: .v (.one (.int .i64 v3)) :: .v (.one .und) :: .v (.one .und) :: .v (.one .und) :: .v (.one .und) :: .v (.one .und) :: .v (.one .und) :: .v (.one .und) :: .v (.one .und) :: .v (.one .und) :: .v (.one .und) :: .v (.one .und) :: .v (.one .und) :: .v (.one .und) :: .v (.one .und) :: .v (.one .und) :: .v (.one .und) :: .v (.one .und) :: .v (.one .und) :: .v (.one .und) :: .v (.one .und) :: .v (.one .und) :: .v (.one .und) :: .v (.one .und) :: .v (.one .und) :: .v (.one .und) :: .v (.one .und) :: .v (.one .und) :: [], [.cells 25 [.int .i64 v4, .int .i64 v5]]⟩
def x143_0_0_k0  (y0 : Int) : St := ⟨.v (.one .und) :: .v (.one .und) :: .v (.one .und) :: .v (.one .und) :: .v (.one .und) :: .v (.one .und) :: .v (.one (.int .i64 y0)) :: .v (.one .und) :: .v (.one .und) :: .v (.one .und) :: .v (.one .und) :: .v (.one .und) :: .v (.one .und) :: .v (.one .und) :: .v (.one .und) :: .v (.one .und) :: .v (.one .und) :: .v (.one .und) :: .v (.one .und) :: .v (.one .und) :: .v (.one .und) :: .v (.one .und) :: .v (.one .und) :: .v (.one .und) :: .v (.one .und) :: .v (.one .und) :: .v (.one .und) :: .v (.one .und) :: .v (.one .und) :: .v (.one .und) :: .v (.one .und) :: .v (.one .und) :: .v (.one .und) :: .v (.one .und) :: .v (.one .und) :: .v (.one .und) :: [], []⟩
def x143_0_0_k1  (y0 : Int) : St := ⟨.v (.one .und) :: .v (.one .und) :: .v (.one .und) :: .v (.one .und) :: .v (.one .und) :: .v (.one .und) :: .v (.one .und) :: .v (.one (.int .i64 y0)) :: .v (.one .und) :: .v (.one .und) :: .v (.one .und) :: .v (.one .und) :: .v (.one .und) :: .v (.one .und) :: .v (.one .und) :: .v (.one .und) :: .v (.one .und) :: .v (.one .und) :: .v (.one .und) :: .v (.one .und) :: .v (.one .und) :: .v (.one .und) :: .v (.one .und) :: .v (.one .und) :: .v (.one .und) :: .v (.one .und) :: .v (.one .und) :: .v (.one .und) :: .v (.one .und) :: .v (.one .und) :: .v (.one .und) :: .v (.one .und) :: .v (.one .und) :: .v (.one .und) :: .v (.one .und) :: .v (.one .und) :: [], []⟩
theorem fl143_0_0 (s : St) : refSt (h143_0_0 0 0 0 0 0 0) s = h143_0_0 (intS (oneA (vT (nx tund s.tmps 1)))) (intS (oneA (vT (nx tund s.tmps 2)))) (intS (oneA (vT (nx tund s.tmps 7)))) (intS (oneA (vT (nx tund s.tmps 8)))) (intS (nx .und (cellsB (nx .dead s.blks 0)) 0)) (intS (nx .und (cellsB (nx .dead s.blks 0)) 1)) := by kernel_rfl
def VLS143_0 {β : Type} (N : Nat) (q_spec_l3Cube_l0 : Nat → Int → Int → Int → Int → Int → Int → (Int → Option β) → (Int → Option β) → Option β) : LSpec β := fun s K => cond (shpSt (h143_0_0 0 0 0 0 0 0) s) ((fun (v0 : Int) (v1 : Int) (v2 : Int) (v3 : Int) (v4 : Int) (v5 : Int) => q_spec_l3Cube_l0  N v0 v1 v2 v3 v4 v5 (fun y0 => K .ret (x143_0_0_k0  y0)) (fun y0 => K (.exit 0) (x143_0_0_k1  y0))) (intS (oneA (vT (nx tund s.tmps 1)))) (intS (oneA (vT (nx tund s.tmps 2)))) (intS (oneA (vT (nx tund s.tmps 7)))) (intS (oneA (vT (nx tund s.tmps 8)))) (intS (nx .und (cellsB (nx .dead s.blks 0)) 0)) (intS (nx .und (cellsB (nx .dead s.blks 0)) 1))) (none)
def LS143_0 {β : Type} (N : Nat) : LSpec β := VLS143_0 N (spec_l3Cube_l0 N)
def VE143 {β : Type} (N : Nat) (q_spec_l3Cube_l0 : Nat → Int → Int → Int → Int → Int → Int → (Int → Option β) → (Int → Option β) → Option β) : Env β := ⟨[], [], [(0, VLS143_0 N q_spec_l3Cube_l0)], []⟩
def E143 {β : Type} (N : Nat) : Env β := VE143 N (spec_l3Cube_l0 N)
def BV_spec_l3Cube_l0b {β : Type} (N : Nat)  (v0 : Int) (v1 : Int) (v2 : Int) (v3 : Int) (v4 : Int) (v5 : Int) (rec_ : Int → Int → Int → Int → Int → Int → Option β) (k0 : Int → Option β) (k1 : Int → Option β) : Option β :=
(gd ((decide (0 ≤ v4)))
((cond ((decide (v3 < (shlI .i64 1 v4))))
((cond (((bits .and .i64 v3 v0) != v1))
(rec_ v0 v1 v2 ((w64 (v3 + 1))) v4 v5)
((gd ((decide (0 ≤ v3)))
((cond ((decide (v2 ≥ 0)))
((cond ((v2 != (bits .and .i64 (shrI .i64 v5 v3) 1)))
(k0 2)
(rec_ v0 v1 ((bits .and .i64 (shrI .i64 v5 v3) 1)) ((w64 (v3 + 1))) v4 v5)))
(rec_ v0 v1 ((bits .and .i64 (shrI .i64 v5 v3) 1)) ((w64 (v3 + 1))) v4 v5)))))))
(k1 v2))))
theorem t_spec_l3Cube_l0b {β : Type} (N : Nat)  (v0 : Int) (v1 : Int) (v2 : Int) (v3 : Int) (v4 : Int) (v5 : Int) (rec_ : Int → Int → Int → Int → Int → Int → Option β) (k0 : Int → Option β) (k1 : Int → Option β) : spec_l3Cube_l0b N v0 v1 v2 v3 v4 v5 rec_ k0 k1 = BV_spec_l3Cube_l0b N v0 v1 v2 v3 v4 v5 rec_ k0 k1 := by
  unfold spec_l3Cube_l0b BV_spec_l3Cube_l0b
  rfl
theorem vst143_0_0 {β : Type} (N : Nat) (q_spec_l3Cube_l0 : Nat → Int → Int → Int → Int → Int → Int → (Int → Option β) → (Int → Option β) → Option β)  (v0 : Int) (v1 : Int) (v2 : Int) (v3 : Int) (v4 : Int) (v5 : Int) (rec_ : St → Option β) (K : Exit → St → Option β) :
    ev lay (VE143 N q_spec_l3Cube_l0) (retMask Try.f143) (lp Try.f143 0).body (lp Try.f143 0).ex ((lp Try.f143 0).lv (retMask Try.f143)) (h143_0_0  v0 v1 v2 v3 v4 v5) (nextR (fun s' => rec_ (s'.tidy ((lp Try.f143 0).lv (retMask Try.f143)))) K) = BV_spec_l3Cube_l0b N  v0 v1 v2 v3 v4 v5 (fun v0 v1 v2 v3 v4 v5 => rec_ (h143_0_0  v0 v1 v2 v3 v4 v5)) (fun y0 => K .ret (x143_0_0_k0  y0)) (fun y0 => K (.exit 0) (x143_0_0_k1  y0)) := by kernel_rfl
theorem st143_0_0 {β : Type} (N : Nat)  (v0 : Int) (v1 : Int) (v2 : Int) (v3 : Int) (v4 : Int) (v5 : Int) (rec_ : St → Option β) (K : Exit → St → Option β) :
    ev lay (E143 N) (retMask Try.f143) (lp Try.f143 0).body (lp Try.f143 0).ex ((lp Try.f143 0).lv (retMask Try.f143)) (h143_0_0  v0 v1 v2 v3 v4 v5) (nextR (fun s' => rec_ (s'.tidy ((lp Try.f143 0).lv (retMask Try.f143)))) K) = spec_l3Cube_l0b N  v0 v1 v2 v3 v4 v5 (fun v0 v1 v2 v3 v4 v5 => rec_ (h143_0_0  v0 v1 v2 v3 v4 v5)) (fun y0 => K .ret (x143_0_0_k0  y0)) (fun y0 => K (.exit 0) (x143_0_0_k1  y0)) := (vst143_0_0 N (spec_l3Cube_l0 N) v0 v1 v2 v3 v4 v5 rec_ K).trans (t_spec_l3Cube_l0b N  v0 v1 v2 v3 v4 v5 (fun v0 v1 v2 v3 v4 v5 => rec_ (h143_0_0  v0 v1 v2 v3 v4 v5)) (fun y0 => K .ret (x143_0_0_k0  y0)) (fun y0 => K (.exit 0) (x143_0_0_k1  y0))).symm
theorem ro143_0_0 {β : Type} (N : Nat)  (K : Exit → St → Option β) : ∀ (F : Nat) (v0 : Int) (v1 : Int) (v2 : Int) (v3 : Int) (v4 : Int) (v5 : Int), (lp Try.f143 0).rounds lay (E143 N) (retMask Try.f143) F (h143_0_0  v0 v1 v2 v3 v4 v5) K = spec_l3Cube_l0 N  F v0 v1 v2 v3 v4 v5 (fun y0 => K .ret (x143_0_0_k0  y0)) (fun y0 => K (.exit 0) (x143_0_0_k1  y0)) := by
  intro F
  induction F with
  | zero => intros; rfl
  | succ F ih =>
    intros
    rw [rounds_next]
    refine (st143_0_0 N  _ _ _ _ _ _ (fun s => (lp Try.f143 0).rounds lay (E143 N) (retMask Try.f143) F s K) K).trans ?_
    simp only [ih]
    rfl
theorem lk143_0 {β : Type} (N : Nat) : lookL (E143 (β := β) N).loops (lp Try.f143 0).id = LS143_0 N := by kernel_rfl
theorem rk143_0 {β : Type} (N : Nat) : RoundsOK lay (E143 (β := β) N) (retMask Try.f143) (lp Try.f143 0) := by
  intro s K r h
  rw [lk143_0] at h
  unfold LS143_0 VLS143_0 at h
  cases hb : shpSt (h143_0_0 0 0 0 0 0 0) s with
  | true =>
    rw [hb, cond_true] at h
    exact ⟨N, by rw [← shpSt_ref hb, fl143_0_0 s]; exact (ro143_0_0 N  K N (intS (oneA (vT (nx tund s.tmps 1)))) (intS (oneA (vT (nx tund s.tmps 2)))) (intS (oneA (vT (nx tund s.tmps 7)))) (intS (oneA (vT (nx tund s.tmps 8)))) (intS (nx .und (cellsB (nx .dead s.blks 0)) 0)) (intS (nx .und (cellsB (nx .dead s.blks 0)) 1))).trans h⟩
  | false =>
  rw [hb, cond_false] at h
  clear hb
  cases h
def BV_spec_l3Cube {β : Type} (N : Nat) (q_spec_l3Cube_l0 : Nat → Int → Int → Int → Int → Int → Int → (Int → Option β) → (Int → Option β) → Option β) (a0 : Int) (a1 : Int) (a2 : Int) (a3 : Int) (k : Int → Option β) : Option β :=
q_spec_l3Cube_l0  N a2 a3 (-1) 0 a0 a1 (fun e5_0 =>
k e5_0) (fun e6_0 =>
k e6_0)
theorem t_spec_l3Cube {β : Type} (N : Nat) (a0 : Int) (a1 : Int) (a2 : Int) (a3 : Int) (k : Int → Option β) : spec_l3Cube N a0 a1 a2 a3 k = BV_spec_l3Cube N (spec_l3Cube_l0 N) a0 a1 a2 a3 k := by
  unfold spec_l3Cube BV_spec_l3Cube
  rfl
theorem ve143_0 {β : Type} (N : Nat) (q_spec_l3Cube_l0 : Nat → Int → Int → Int → Int → Int → Int → (Int → Option β) → (Int → Option β) → Option β)  (a0 : Int) (a1 : Int) (a2 : Int) (a3 : Int) (K : TV → Option β) : evFn lay (VE143 N q_spec_l3Cube_l0) Try.f143 [.v (.agg [.int .i64 a0, .int .i64 a1]), .v (.one (.int .i64 a2)), .v (.one (.int .i64 a3))] K = BV_spec_l3Cube N q_spec_l3Cube_l0 a0 a1 a2 a3 (fun z4 => K (.v (.one (.int .i64 z4)))) := by kernel_rfl
theorem e143_0 {β : Type} (N : Nat)  (a0 : Int) (a1 : Int) (a2 : Int) (a3 : Int) (K : TV → Option β) : evFn lay (E143 N) Try.f143 [.v (.agg [.int .i64 a0, .int .i64 a1]), .v (.one (.int .i64 a2)), .v (.one (.int .i64 a3))] K = spec_l3Cube N a0 a1 a2 a3 (fun z4 => K (.v (.one (.int .i64 z4)))) := (ve143_0 N (spec_l3Cube_l0 N) a0 a1 a2 a3 K).trans (t_spec_l3Cube N a0 a1 a2 a3 (fun z4 => K (.v (.one (.int .i64 z4))))).symm
theorem o143 {β : Type} (N : Nat) : SpecOK (β := β) Try.prog 143 (S143 N) := by
  refine spec_of lay_ok mixed (E := E143 N) (specs_loops specs_nil) muts_nil gs_nil Try.func143 (by kernel_rfl) 1 (by kernel_rfl) ⟨trivial, rk143_0 N⟩ fun args K r h => ?_
  unfold S143 VS143 at h
  split at h
  · exact (e143_0 N _ _ _ _ _).trans h
  · cases h
def VS142 {β : Type} (N : Nat) (q_spec_l9Set : (a0 : Int) → (a1 : Int) → (a2 : Int) → (k : Int → Option β) → Option β) : Rv.Spec β := fun args K => match args with
  | [.v (.agg [.int .i64 a0, .int .i64 a1]), .v (.one (.int .i64 a2))] => q_spec_l9Set a0 a1 a2 (fun z3 => K (.v (.one (.int .i64 z3))))
  | _ => none
def S142 {β : Type} (N : Nat) : Rv.Spec β := VS142 N (spec_l9Set N)
def h142_0_0  (v0 : Int) (v1 : Int) (v2 : Int) (v3 : Int) (v4 : Int) : St := ⟨.v (.one .und) :: .v (.one (.int .i64 v0)) :: .v (.one (.ptr 0 0)) :: .v (.one .und) :: .v (.one .und) :: .v (.one (.int .i64 v1)) :: .v (.one (.int .i64 v2)) :: .v (.one .und) :: .v (.one .und) :: .v (.one .und) :: .v (.one .und) :: .v (.one .und) :: .v (.one .und) :: .v (.one .und) :: .v (.one .und) :: .v (.one .und) :: .v (.one .und) :: .v (.one .und) :: .v (.one .und) :: .v (.one .und) :: .v (.one .und) :: .v (.one .und) :: .v (.one .und) :: .v (.one .und) :: .v (.one .und) :: .v (.one .und) :: .v (.one .und) :: .v (.one .und) :: .v (.one .und) :: .v (.one .und) :: .v (.one .und) :: .v (.one .und) :: .v (.one .und) :: .v (.one .und) :: [], [.cells 25 [.int .i64 v3, .int .i64 v4]]⟩
def x142_0_0_k0  (y0 : Int) : St := ⟨.v (.one .und) :: .v (.one .und) :: .v (.one .und) :: .v (.one .und) :: .v (.one .und) :: .v (.one (.int .i64 y0)) :: .v (.one .und) :: .v (.one .und) :: .v (.one .und) :: .v (.one .und) :: .v (.one .und) :: .v (.one .und) :: .v (.one .und) :: .v (.one .und) :: .v (.one .und) :: .v (.one .und) :: .v (.one .und) :: .v (.one .und) :: .v (.one .und) :: .v (.one .und) :: .v (.one .und) :: .v (.one .und) :: .v (.one .und) :: .v (.one .und) :: .v (.one .und) :: .v (.one .und) :: .v (.one .und) :: .v (.one .und) :: .v (.one .und) :: .v (.one .und) :: .v (.one .und) :: .v (.one .und) :: .v (.one .und) :: .v (.one .und) :: [], []⟩
theorem fl142_0_0 (s : St) : refSt (h142_0_0 0 0 0 0 0) s = h142_0_0 (intS (oneA (vT (nx tund s.tmps 1)))) (intS (oneA (vT (nx tund s.tmps 5)))) (intS (oneA (vT (nx tund s.tmps 6)))) (intS (nx .und (cellsB (nx .dead s.blks 0)) 0)) (intS (nx .und (cellsB (nx .dead s.blks 0)) 1)) := by kernel_rfl
def VLS142_0 {β : Type} (N : Nat) (q_spec_l9Set_l0 : Nat → Int → Int → Int → Int → Int → (Int → Option β) → Option β) : LSpec β := fun s K => cond (shpSt (h142_0_0 0 0 0 0 0) s) ((fun (v0 : Int) (v1 : Int) (v2 : Int) (v3 : Int) (v4 : Int) => q_spec_l9Set_l0  N v0 v1 v2 v3 v4 (fun y0 => K (.exit 0) (x142_0_0_k0  y0))) (intS (oneA (vT (nx tund s.tmps 1)))) (intS (oneA (vT (nx tund s.tmps 5)))) (intS (oneA (vT (nx tund s.tmps 6)))) (intS (nx .und (cellsB (nx .dead s.blks 0)) 0)) (intS (nx .und (cellsB (nx .dead s.blks 0)) 1))) (none)
def LS142_0 {β : Type} (N : Nat) : LSpec β := VLS142_0 N (spec_l9Set_l0 N)
def VE142 {β : Type} (N : Nat) (q_spec_l2Count : (a0 : Int) → (k : Int → Option β) → Option β) (q_spec_l3Cube : (a0 : Int) → (a1 : Int) → (a2 : Int) → (a3 : Int) → (k : Int → Option β) → Option β) (q_spec_l9Set_l0 : Nat → Int → Int → Int → Int → Int → (Int → Option β) → Option β) : Env β := ⟨[(70, VS70 N q_spec_l2Count), (143, VS143 N q_spec_l3Cube)], [], [(0, VLS142_0 N q_spec_l9Set_l0)], []⟩
def E142 {β : Type} (N : Nat) : Env β := VE142 N (spec_l2Count N) (spec_l3Cube N) (spec_l9Set_l0 N)
def BV_spec_l9Set_l0b {β : Type} (N : Nat) (q_spec_l2Count : (a0 : Int) → (k : Int → Option β) → Option β) (q_spec_l3Cube : (a0 : Int) → (a1 : Int) → (a2 : Int) → (a3 : Int) → (k : Int → Option β) → Option β)  (v0 : Int) (v1 : Int) (v2 : Int) (v3 : Int) (v4 : Int) (rec_ : Int → Int → Int → Int → Int → Option β) (k0 : Int → Option β) : Option β :=
(gd ((decide (0 ≤ v3)))
((cond ((decide (v2 < (shlI .i64 1 v3))))
(q_spec_l2Count v2 fun r4 =>
q_spec_l2Count v1 fun r5 =>
(cond ((decide (r4 < r5)))
(q_spec_l3Cube v3 v4 v2 ((bits .and .i64 v0 v2)) fun r6 =>
(cond ((decide (r6 < 2)))
(rec_ v0 v2 ((w64 (v2 + 1))) v3 v4)
(rec_ v0 v1 ((w64 (v2 + 1))) v3 v4)))
(rec_ v0 v1 ((w64 (v2 + 1))) v3 v4)))
(k0 v1))))
theorem t_spec_l9Set_l0b {β : Type} (N : Nat)  (v0 : Int) (v1 : Int) (v2 : Int) (v3 : Int) (v4 : Int) (rec_ : Int → Int → Int → Int → Int → Option β) (k0 : Int → Option β) : spec_l9Set_l0b N v0 v1 v2 v3 v4 rec_ k0 = BV_spec_l9Set_l0b N (spec_l2Count N) (spec_l3Cube N) v0 v1 v2 v3 v4 rec_ k0 := by
  unfold spec_l9Set_l0b BV_spec_l9Set_l0b
  rfl
theorem vst142_0_0 {β : Type} (N : Nat) (q_spec_l2Count : (a0 : Int) → (k : Int → Option β) → Option β) (q_spec_l3Cube : (a0 : Int) → (a1 : Int) → (a2 : Int) → (a3 : Int) → (k : Int → Option β) → Option β) (q_spec_l9Set_l0 : Nat → Int → Int → Int → Int → Int → (Int → Option β) → Option β)  (v0 : Int) (v1 : Int) (v2 : Int) (v3 : Int) (v4 : Int) (rec_ : St → Option β) (K : Exit → St → Option β) :
    ev lay (VE142 N q_spec_l2Count q_spec_l3Cube q_spec_l9Set_l0) (retMask Try.f142) (lp Try.f142 0).body (lp Try.f142 0).ex ((lp Try.f142 0).lv (retMask Try.f142)) (h142_0_0  v0 v1 v2 v3 v4) (nextR (fun s' => rec_ (s'.tidy ((lp Try.f142 0).lv (retMask Try.f142)))) K) = BV_spec_l9Set_l0b N q_spec_l2Count q_spec_l3Cube  v0 v1 v2 v3 v4 (fun v0 v1 v2 v3 v4 => rec_ (h142_0_0  v0 v1 v2 v3 v4)) (fun y0 => K (.exit 0) (x142_0_0_k0  y0)) := by kernel_rfl
theorem st142_0_0 {β : Type} (N : Nat)  (v0 : Int) (v1 : Int) (v2 : Int) (v3 : Int) (v4 : Int) (rec_ : St → Option β) (K : Exit → St → Option β) :
    ev lay (E142 N) (retMask Try.f142) (lp Try.f142 0).body (lp Try.f142 0).ex ((lp Try.f142 0).lv (retMask Try.f142)) (h142_0_0  v0 v1 v2 v3 v4) (nextR (fun s' => rec_ (s'.tidy ((lp Try.f142 0).lv (retMask Try.f142)))) K) = spec_l9Set_l0b N  v0 v1 v2 v3 v4 (fun v0 v1 v2 v3 v4 => rec_ (h142_0_0  v0 v1 v2 v3 v4)) (fun y0 => K (.exit 0) (x142_0_0_k0  y0)) := (vst142_0_0 N (spec_l2Count N) (spec_l3Cube N) (spec_l9Set_l0 N) v0 v1 v2 v3 v4 rec_ K).trans (t_spec_l9Set_l0b N  v0 v1 v2 v3 v4 (fun v0 v1 v2 v3 v4 => rec_ (h142_0_0  v0 v1 v2 v3 v4)) (fun y0 => K (.exit 0) (x142_0_0_k0  y0))).symm
theorem ro142_0_0 {β : Type} (N : Nat)  (K : Exit → St → Option β) : ∀ (F : Nat) (v0 : Int) (v1 : Int) (v2 : Int) (v3 : Int) (v4 : Int), (lp Try.f142 0).rounds lay (E142 N) (retMask Try.f142) F (h142_0_0  v0 v1 v2 v3 v4) K = spec_l9Set_l0 N  F v0 v1 v2 v3 v4 (fun y0 => K (.exit 0) (x142_0_0_k0  y0)) := by
  intro F
  induction F with
  | zero => intros; rfl
  | succ F ih =>
    intros
    rw [rounds_next]
    refine (st142_0_0 N  _ _ _ _ _ (fun s => (lp Try.f142 0).rounds lay (E142 N) (retMask Try.f142) F s K) K).trans ?_
    simp only [ih]
    rfl
theorem lk142_0 {β : Type} (N : Nat) : lookL (E142 (β := β) N).loops (lp Try.f142 0).id = LS142_0 N := by kernel_rfl
theorem rk142_0 {β : Type} (N : Nat) : RoundsOK lay (E142 (β := β) N) (retMask Try.f142) (lp Try.f142 0) := by
  intro s K r h
  rw [lk142_0] at h
  unfold LS142_0 VLS142_0 at h
  cases hb : shpSt (h142_0_0 0 0 0 0 0) s with
  | true =>
    rw [hb, cond_true] at h
    exact ⟨N, by rw [← shpSt_ref hb, fl142_0_0 s]; exact (ro142_0_0 N  K N (intS (oneA (vT (nx tund s.tmps 1)))) (intS (oneA (vT (nx tund s.tmps 5)))) (intS (oneA (vT (nx tund s.tmps 6)))) (intS (nx .und (cellsB (nx .dead s.blks 0)) 0)) (intS (nx .und (cellsB (nx .dead s.blks 0)) 1))).trans h⟩
  | false =>
  rw [hb, cond_false] at h
  clear hb
  cases h
def BV_spec_l9Set {β : Type} (N : Nat) (q_spec_l9Set_l0 : Nat → Int → Int → Int → Int → Int → (Int → Option β) → Option β) (a0 : Int) (a1 : Int) (a2 : Int) (k : Int → Option β) : Option β :=
(gd ((decide (0 ≤ a0)))
(q_spec_l9Set_l0  N a2 ((w64 ((shlI .i64 1 a0) - 1))) 0 a0 a1 (fun e7_0 =>
k e7_0)))
theorem t_spec_l9Set {β : Type} (N : Nat) (a0 : Int) (a1 : Int) (a2 : Int) (k : Int → Option β) : spec_l9Set N a0 a1 a2 k = BV_spec_l9Set N (spec_l9Set_l0 N) a0 a1 a2 k := by
  unfold spec_l9Set BV_spec_l9Set
  rfl
theorem ve142_0 {β : Type} (N : Nat) (q_spec_l2Count : (a0 : Int) → (k : Int → Option β) → Option β) (q_spec_l3Cube : (a0 : Int) → (a1 : Int) → (a2 : Int) → (a3 : Int) → (k : Int → Option β) → Option β) (q_spec_l9Set_l0 : Nat → Int → Int → Int → Int → Int → (Int → Option β) → Option β)  (a0 : Int) (a1 : Int) (a2 : Int) (K : TV → Option β) : evFn lay (VE142 N q_spec_l2Count q_spec_l3Cube q_spec_l9Set_l0) Try.f142 [.v (.agg [.int .i64 a0, .int .i64 a1]), .v (.one (.int .i64 a2))] K = BV_spec_l9Set N q_spec_l9Set_l0 a0 a1 a2 (fun z3 => K (.v (.one (.int .i64 z3)))) := by kernel_rfl
theorem e142_0 {β : Type} (N : Nat)  (a0 : Int) (a1 : Int) (a2 : Int) (K : TV → Option β) : evFn lay (E142 N) Try.f142 [.v (.agg [.int .i64 a0, .int .i64 a1]), .v (.one (.int .i64 a2))] K = spec_l9Set N a0 a1 a2 (fun z3 => K (.v (.one (.int .i64 z3)))) := (ve142_0 N (spec_l2Count N) (spec_l3Cube N) (spec_l9Set_l0 N) a0 a1 a2 K).trans (t_spec_l9Set N a0 a1 a2 (fun z3 => K (.v (.one (.int .i64 z3))))).symm
theorem o142 {β : Type} (N : Nat) : SpecOK (β := β) Try.prog 142 (S142 N) := by
  refine spec_of lay_ok mixed (E := E142 N) (specs_loops (specs_cons (o70 N) (specs_cons (o143 N) specs_nil))) muts_nil gs_nil Try.func142 (by kernel_rfl) 1 (by kernel_rfl) ⟨trivial, rk142_0 N⟩ fun args K r h => ?_
  unfold S142 VS142 at h
  split at h
  · exact (e142_0 N _ _ _ _).trans h
  · cases h
def VS124 {β : Type} (N : Nat) (q_spec_CertificateAt : (a0 : Int) → (a1 : Int) → (a2 : Int) → (k : Int → Option β) → Option β) : Rv.Spec β := fun args K => match args with
  | [.v (.agg [.int .i64 a0, .int .i64 a1]), .v (.one (.int .i64 a2))] => q_spec_CertificateAt a0 a1 a2 (fun z3 => K (.v (.one (.int .i64 z3))))
  | _ => none
def S124 {β : Type} (N : Nat) : Rv.Spec β := VS124 N (spec_CertificateAt N)
def VE124 {β : Type} (N : Nat) (q_spec_l9In : (a0 : Int) → (a1 : Int) → (a2 : Int) → (k : Bool → Option β) → Option β) (q_spec_l9Set : (a0 : Int) → (a1 : Int) → (a2 : Int) → (k : Int → Option β) → Option β) (q_spec_l2Count : (a0 : Int) → (k : Int → Option β) → Option β) : Env β := ⟨[(58, VS58 N q_spec_l9In), (142, VS142 N q_spec_l9Set), (70, VS70 N q_spec_l2Count)], [], [], []⟩
def E124 {β : Type} (N : Nat) : Env β := VE124 N (spec_l9In N) (spec_l9Set N) (spec_l2Count N)
def BV_spec_CertificateAt {β : Type} (N : Nat) (q_spec_l9In : (a0 : Int) → (a1 : Int) → (a2 : Int) → (k : Bool → Option β) → Option β) (q_spec_l9Set : (a0 : Int) → (a1 : Int) → (a2 : Int) → (k : Int → Option β) → Option β) (q_spec_l2Count : (a0 : Int) → (k : Int → Option β) → Option β) (a0 : Int) (a1 : Int) (a2 : Int) (k : Int → Option β) : Option β :=
q_spec_l9In a0 a1 a2 fun r4 =>
(cond (!r4)
(k (-1))
(q_spec_l9Set a0 a1 a2 fun r5 =>
q_spec_l2Count r5 fun r6 =>
k r6))
theorem t_spec_CertificateAt {β : Type} (N : Nat) (a0 : Int) (a1 : Int) (a2 : Int) (k : Int → Option β) : spec_CertificateAt N a0 a1 a2 k = BV_spec_CertificateAt N (spec_l9In N) (spec_l9Set N) (spec_l2Count N) a0 a1 a2 k := by
  unfold spec_CertificateAt BV_spec_CertificateAt
  rfl
theorem ve124_0 {β : Type} (N : Nat) (q_spec_l9In : (a0 : Int) → (a1 : Int) → (a2 : Int) → (k : Bool → Option β) → Option β) (q_spec_l9Set : (a0 : Int) → (a1 : Int) → (a2 : Int) → (k : Int → Option β) → Option β) (q_spec_l2Count : (a0 : Int) → (k : Int → Option β) → Option β)  (a0 : Int) (a1 : Int) (a2 : Int) (K : TV → Option β) : evFn lay (VE124 N q_spec_l9In q_spec_l9Set q_spec_l2Count) Try.f124 [.v (.agg [.int .i64 a0, .int .i64 a1]), .v (.one (.int .i64 a2))] K = BV_spec_CertificateAt N q_spec_l9In q_spec_l9Set q_spec_l2Count a0 a1 a2 (fun z3 => K (.v (.one (.int .i64 z3)))) := by kernel_rfl
theorem e124_0 {β : Type} (N : Nat)  (a0 : Int) (a1 : Int) (a2 : Int) (K : TV → Option β) : evFn lay (E124 N) Try.f124 [.v (.agg [.int .i64 a0, .int .i64 a1]), .v (.one (.int .i64 a2))] K = spec_CertificateAt N a0 a1 a2 (fun z3 => K (.v (.one (.int .i64 z3)))) := (ve124_0 N (spec_l9In N) (spec_l9Set N) (spec_l2Count N) a0 a1 a2 K).trans (t_spec_CertificateAt N a0 a1 a2 (fun z3 => K (.v (.one (.int .i64 z3))))).symm
theorem o124 {β : Type} (N : Nat) : SpecOK (β := β) Try.prog 124 (S124 N) := by
  refine spec_of lay_ok mixed (E := E124 N) (specs_loops (specs_cons (o58 N) (specs_cons (o142 N) (specs_cons (o70 N) specs_nil)))) muts_nil gs_nil Try.func124 (by kernel_rfl) 0 (by kernel_rfl) trivial fun args K r h => ?_
  unfold S124 VS124 at h
  split at h
  · exact (e124_0 N _ _ _ _).trans h
  · cases h
def VS97 {β : Type} (N : Nat) (q_spec_CertificateOf : (a0 : Int) → (a1 : Int) → (a2 : Int) → (k : Int → Option β) → Option β) : Rv.Spec β := fun args K => match args with
  | [.v (.agg [.int .i64 a0, .int .i64 a1]), .v (.one (.int .i64 a2))] => q_spec_CertificateOf a0 a1 a2 (fun z3 => K (.v (.one (.int .i64 z3))))
  | _ => none
def S97 {β : Type} (N : Nat) : Rv.Spec β := VS97 N (spec_CertificateOf N)
def h97_0_0  (v0 : Int) (v1 : Int) (v2 : Int) (v3 : Int) (v4 : Int) : St := ⟨.v (.one .und) :: .v (.one (.int .i64 v0)) :: .v (.one (.ptr 0 0)) :: .v (.one .und) :: .v (.one .und) :: .v (.one (.int .i64 v1)) :: .v (.one (.int .i64 v2)) :: .v (.one .und) :: .v (.one .und) :: .v (.one .und) :: .v (.one .und) :: .v (.one .und) :: .v (.one .und) :: .v (.one .und) :: .v (.one .und) :: .v (.one .und) :: .v (.one .und) :: .v (.one .und) :: .v (.one .und) :: .v (.one .und) :: .v (.one .und) :: .v (.one .und) :: .v (.one .und) :: .v (.one .und) :: .v (.one .und) :: .v (.one .und) :: .v (.one .und) :: .v (.one .und) :: .v (.one .und) :: .v (.one .und) :: .v (.one .und) :: .v (.one .und) :: .v (.one .und) :: .v (.one .und) :: .v (.one .und) :: [], [.cells 25 [.int .i64 v3, .int .i64 v4]]⟩
def x97_0_0_k0  (y0 : Int) : St := ⟨.v (.one .und) :: .v (.one .und) :: .v (.one .und) :: .v (.one .und) :: .v (.one .und) :: .v (.one (.int .i64 y0)) :: .v (.one .und) :: .v (.one .und) :: .v (.one .und) :: .v (.one .und) :: .v (.one .und) :: .v (.one .und) :: .v (.one .und) :: .v (.one .und) :: .v (.one .und) :: .v (.one .und) :: .v (.one .und) :: .v (.one .und) :: .v (.one .und) :: .v (.one .und) :: .v (.one .und) :: .v (.one .und) :: .v (.one .und) :: .v (.one .und) :: .v (.one .und) :: .v (.one .und) :: .v (.one .und) :: .v (.one .und) :: .v (.one .und) :: .v (.one .und) :: .v (.one .und) :: .v (.one .und) :: .v (.one .und) :: .v (.one .und) :: .v (.one .und) :: [], []⟩
theorem fl97_0_0 (s : St) : refSt (h97_0_0 0 0 0 0 0) s = h97_0_0 (intS (oneA (vT (nx tund s.tmps 1)))) (intS (oneA (vT (nx tund s.tmps 5)))) (intS (oneA (vT (nx tund s.tmps 6)))) (intS (nx .und (cellsB (nx .dead s.blks 0)) 0)) (intS (nx .und (cellsB (nx .dead s.blks 0)) 1)) := by kernel_rfl
def VLS97_0 {β : Type} (N : Nat) (q_spec_CertificateOf_l0 : Nat → Int → Int → Int → Int → Int → (Int → Option β) → Option β) : LSpec β := fun s K => cond (shpSt (h97_0_0 0 0 0 0 0) s) ((fun (v0 : Int) (v1 : Int) (v2 : Int) (v3 : Int) (v4 : Int) => q_spec_CertificateOf_l0  N v0 v1 v2 v3 v4 (fun y0 => K (.exit 0) (x97_0_0_k0  y0))) (intS (oneA (vT (nx tund s.tmps 1)))) (intS (oneA (vT (nx tund s.tmps 5)))) (intS (oneA (vT (nx tund s.tmps 6)))) (intS (nx .und (cellsB (nx .dead s.blks 0)) 0)) (intS (nx .und (cellsB (nx .dead s.blks 0)) 1))) (none)
def LS97_0 {β : Type} (N : Nat) : LSpec β := VLS97_0 N (spec_CertificateOf_l0 N)
def VE97 {β : Type} (N : Nat) (q_spec_IsTable : (a0 : Int) → (a1 : Int) → (k : Bool → Option β) → Option β) (q_spec_l1In : (a0 : Int) → (a1 : Int) → (a2 : Int) → (k : Bool → Option β) → Option β) (q_spec_CertificateAt : (a0 : Int) → (a1 : Int) → (a2 : Int) → (k : Int → Option β) → Option β) (q_spec_CertificateOf_l0 : Nat → Int → Int → Int → Int → Int → (Int → Option β) → Option β) : Env β := ⟨[(69, VS69 N q_spec_IsTable), (93, VS93 N q_spec_l1In), (124, VS124 N q_spec_CertificateAt)], [], [(0, VLS97_0 N q_spec_CertificateOf_l0)], []⟩
def E97 {β : Type} (N : Nat) : Env β := VE97 N (spec_IsTable N) (spec_l1In N) (spec_CertificateAt N) (spec_CertificateOf_l0 N)
def BV_spec_CertificateOf_l0b {β : Type} (N : Nat) (q_spec_CertificateAt : (a0 : Int) → (a1 : Int) → (a2 : Int) → (k : Int → Option β) → Option β)  (v0 : Int) (v1 : Int) (v2 : Int) (v3 : Int) (v4 : Int) (rec_ : Int → Int → Int → Int → Int → Option β) (k0 : Int → Option β) : Option β :=
(gd ((decide (0 ≤ v3)))
((cond ((decide (v2 < (shlI .i64 1 v3))))
((gd ((decide (0 ≤ v2)))
((cond (((bits .and .i64 (shrI .i64 v4 v2) 1) == v0))
(q_spec_CertificateAt v3 v4 v2 fun r6 =>
rec_ v0 ((mxI v1 r6)) ((w64 (v2 + 1))) v3 v4)
(rec_ v0 v1 ((w64 (v2 + 1))) v3 v4)))))
(k0 v1))))
theorem t_spec_CertificateOf_l0b {β : Type} (N : Nat)  (v0 : Int) (v1 : Int) (v2 : Int) (v3 : Int) (v4 : Int) (rec_ : Int → Int → Int → Int → Int → Option β) (k0 : Int → Option β) : spec_CertificateOf_l0b N v0 v1 v2 v3 v4 rec_ k0 = BV_spec_CertificateOf_l0b N (spec_CertificateAt N) v0 v1 v2 v3 v4 rec_ k0 := by
  unfold spec_CertificateOf_l0b BV_spec_CertificateOf_l0b
  rfl
theorem vst97_0_0 {β : Type} (N : Nat) (q_spec_IsTable : (a0 : Int) → (a1 : Int) → (k : Bool → Option β) → Option β) (q_spec_l1In : (a0 : Int) → (a1 : Int) → (a2 : Int) → (k : Bool → Option β) → Option β) (q_spec_CertificateAt : (a0 : Int) → (a1 : Int) → (a2 : Int) → (k : Int → Option β) → Option β) (q_spec_CertificateOf_l0 : Nat → Int → Int → Int → Int → Int → (Int → Option β) → Option β)  (v0 : Int) (v1 : Int) (v2 : Int) (v3 : Int) (v4 : Int) (rec_ : St → Option β) (K : Exit → St → Option β) :
    ev lay (VE97 N q_spec_IsTable q_spec_l1In q_spec_CertificateAt q_spec_CertificateOf_l0) (retMask Try.f97) (lp Try.f97 0).body (lp Try.f97 0).ex ((lp Try.f97 0).lv (retMask Try.f97)) (h97_0_0  v0 v1 v2 v3 v4) (nextR (fun s' => rec_ (s'.tidy ((lp Try.f97 0).lv (retMask Try.f97)))) K) = BV_spec_CertificateOf_l0b N q_spec_CertificateAt  v0 v1 v2 v3 v4 (fun v0 v1 v2 v3 v4 => rec_ (h97_0_0  v0 v1 v2 v3 v4)) (fun y0 => K (.exit 0) (x97_0_0_k0  y0)) := by kernel_rfl
theorem st97_0_0 {β : Type} (N : Nat)  (v0 : Int) (v1 : Int) (v2 : Int) (v3 : Int) (v4 : Int) (rec_ : St → Option β) (K : Exit → St → Option β) :
    ev lay (E97 N) (retMask Try.f97) (lp Try.f97 0).body (lp Try.f97 0).ex ((lp Try.f97 0).lv (retMask Try.f97)) (h97_0_0  v0 v1 v2 v3 v4) (nextR (fun s' => rec_ (s'.tidy ((lp Try.f97 0).lv (retMask Try.f97)))) K) = spec_CertificateOf_l0b N  v0 v1 v2 v3 v4 (fun v0 v1 v2 v3 v4 => rec_ (h97_0_0  v0 v1 v2 v3 v4)) (fun y0 => K (.exit 0) (x97_0_0_k0  y0)) := (vst97_0_0 N (spec_IsTable N) (spec_l1In N) (spec_CertificateAt N) (spec_CertificateOf_l0 N) v0 v1 v2 v3 v4 rec_ K).trans (t_spec_CertificateOf_l0b N  v0 v1 v2 v3 v4 (fun v0 v1 v2 v3 v4 => rec_ (h97_0_0  v0 v1 v2 v3 v4)) (fun y0 => K (.exit 0) (x97_0_0_k0  y0))).symm
theorem ro97_0_0 {β : Type} (N : Nat)  (K : Exit → St → Option β) : ∀ (F : Nat) (v0 : Int) (v1 : Int) (v2 : Int) (v3 : Int) (v4 : Int), (lp Try.f97 0).rounds lay (E97 N) (retMask Try.f97) F (h97_0_0  v0 v1 v2 v3 v4) K = spec_CertificateOf_l0 N  F v0 v1 v2 v3 v4 (fun y0 => K (.exit 0) (x97_0_0_k0  y0)) := by
  intro F
  induction F with
  | zero => intros; rfl
  | succ F ih =>
    intros
    rw [rounds_next]
    refine (st97_0_0 N  _ _ _ _ _ (fun s => (lp Try.f97 0).rounds lay (E97 N) (retMask Try.f97) F s K) K).trans ?_
    simp only [ih]
    rfl
theorem lk97_0 {β : Type} (N : Nat) : lookL (E97 (β := β) N).loops (lp Try.f97 0).id = LS97_0 N := by kernel_rfl
theorem rk97_0 {β : Type} (N : Nat) : RoundsOK lay (E97 (β := β) N) (retMask Try.f97) (lp Try.f97 0) := by
  intro s K r h
  rw [lk97_0] at h
  unfold LS97_0 VLS97_0 at h
  cases hb : shpSt (h97_0_0 0 0 0 0 0) s with
  | true =>
    rw [hb, cond_true] at h
    exact ⟨N, by rw [← shpSt_ref hb, fl97_0_0 s]; exact (ro97_0_0 N  K N (intS (oneA (vT (nx tund s.tmps 1)))) (intS (oneA (vT (nx tund s.tmps 5)))) (intS (oneA (vT (nx tund s.tmps 6)))) (intS (nx .und (cellsB (nx .dead s.blks 0)) 0)) (intS (nx .und (cellsB (nx .dead s.blks 0)) 1))).trans h⟩
  | false =>
  rw [hb, cond_false] at h
  clear hb
  cases h
def BV_spec_CertificateOf {β : Type} (N : Nat) (q_spec_IsTable : (a0 : Int) → (a1 : Int) → (k : Bool → Option β) → Option β) (q_spec_l1In : (a0 : Int) → (a1 : Int) → (a2 : Int) → (k : Bool → Option β) → Option β) (q_spec_CertificateOf_l0 : Nat → Int → Int → Int → Int → Int → (Int → Option β) → Option β) (a0 : Int) (a1 : Int) (a2 : Int) (k : Int → Option β) : Option β :=
q_spec_IsTable a0 a1 fun r4 =>
(cond (!r4)
(k (-1))
(q_spec_l1In a2 0 1 fun r5 =>
(cond (!r5)
(k (-1))
(q_spec_CertificateOf_l0  N a2 0 0 a0 a1 (fun e7_0 =>
k e7_0)))))
theorem t_spec_CertificateOf {β : Type} (N : Nat) (a0 : Int) (a1 : Int) (a2 : Int) (k : Int → Option β) : spec_CertificateOf N a0 a1 a2 k = BV_spec_CertificateOf N (spec_IsTable N) (spec_l1In N) (spec_CertificateOf_l0 N) a0 a1 a2 k := by
  unfold spec_CertificateOf BV_spec_CertificateOf
  rfl
theorem ve97_0 {β : Type} (N : Nat) (q_spec_IsTable : (a0 : Int) → (a1 : Int) → (k : Bool → Option β) → Option β) (q_spec_l1In : (a0 : Int) → (a1 : Int) → (a2 : Int) → (k : Bool → Option β) → Option β) (q_spec_CertificateAt : (a0 : Int) → (a1 : Int) → (a2 : Int) → (k : Int → Option β) → Option β) (q_spec_CertificateOf_l0 : Nat → Int → Int → Int → Int → Int → (Int → Option β) → Option β)  (a0 : Int) (a1 : Int) (a2 : Int) (K : TV → Option β) : evFn lay (VE97 N q_spec_IsTable q_spec_l1In q_spec_CertificateAt q_spec_CertificateOf_l0) Try.f97 [.v (.agg [.int .i64 a0, .int .i64 a1]), .v (.one (.int .i64 a2))] K = BV_spec_CertificateOf N q_spec_IsTable q_spec_l1In q_spec_CertificateOf_l0 a0 a1 a2 (fun z3 => K (.v (.one (.int .i64 z3)))) := by kernel_rfl
theorem e97_0 {β : Type} (N : Nat)  (a0 : Int) (a1 : Int) (a2 : Int) (K : TV → Option β) : evFn lay (E97 N) Try.f97 [.v (.agg [.int .i64 a0, .int .i64 a1]), .v (.one (.int .i64 a2))] K = spec_CertificateOf N a0 a1 a2 (fun z3 => K (.v (.one (.int .i64 z3)))) := (ve97_0 N (spec_IsTable N) (spec_l1In N) (spec_CertificateAt N) (spec_CertificateOf_l0 N) a0 a1 a2 K).trans (t_spec_CertificateOf N a0 a1 a2 (fun z3 => K (.v (.one (.int .i64 z3))))).symm
theorem o97 {β : Type} (N : Nat) : SpecOK (β := β) Try.prog 97 (S97 N) := by
  refine spec_of lay_ok mixed (E := E97 N) (specs_loops (specs_cons (o69 N) (specs_cons (o93 N) (specs_cons (o124 N) specs_nil)))) muts_nil gs_nil Try.func97 (by kernel_rfl) 1 (by kernel_rfl) ⟨trivial, rk97_0 N⟩ fun args K r h => ?_
  unfold S97 VS97 at h
  split at h
  · exact (e97_0 N _ _ _ _).trans h
  · cases h
def VSF125 {β : Type} (N : Nat) (q_spec_l7Least_f : Nat → Int → Int → Int → Int → (Int → Option β) → Option β) (G : Nat) : Rv.Spec β := fun args K => match args with
  | [.v (.agg [.int .i64 a0, .int .i64 a1]), .v (.one (.int .i64 a2)), .v (.one (.int .i64 a3))] => q_spec_l7Least_f G a0 a1 a2 a3 (fun z4 => K (.v (.one (.int .i64 z4))))
  | _ => none
def SF125 {β : Type} (N : Nat) (G : Nat) : Rv.Spec β := VSF125 N (spec_l7Least_f N) G
def VS125 {β : Type} (N : Nat) (q_spec_l7Least_f : Nat → Int → Int → Int → Int → (Int → Option β) → Option β) : Rv.Spec β := VSF125 N q_spec_l7Least_f N
def S125 {β : Type} (N : Nat) : Rv.Spec β := SF125 N N
def h125_0_0  (v0 : Int) (v1 : Int) (v2 : Int) (v3 : Int) (v4 : Int) (v5 : Int) : St := ⟨.v (.one .und) :: .v (.one (.int .i64 v0)) :: .v (.one (.int .i64 v1)) :: .v (.one (.ptr 0 0)) :: .v (.one .und) :: .v (.one .und) :: .v (.one .und) :: .v (.one (.int .i64 v2)) :: .v (.one (.int .i64 v3)) :: .v (.one .und) :: .v (.one .und) :: .v (.one .und) :: .v (.one .und) :: .v (.one .und) :: .v (.one .und) :: .v (.one .und) :: .v (.one .und) :: .v (.one .und) :: .v (.one .und) :: .v (.one .und) :: .v (.one .und) :: .v (.one .und) :: .v (.one .und) :: .v (.one .und) :: .v (.one .und) :: .v (.one .und) :: .v (.one .und) :: .v (.one .und) :: .v (.one .und) :: .v (.one .und) :: .v (.one .und) :: .v (.one .und) :: .v (.one .und) :: .v (.one .und) :: .v (.one .und) :: .v (.one .und) :: .v (.one .und) :: .v (.one .und) :: .v (.one .und) :: .v (.one .und) :: .v (.one .und) :: .v (.one .und) :: .v (.one .und) :: .v (.one .und) :: .v (.one .und) :: .v (.one .und) :: [], [.cells 25 [.int .i64 v4, .int .i64 v5]]⟩
def x125_0_0_k0  (y0 : Int) : St := ⟨.v (.one .und) :: .v (.one .und) :: .v (.one .und) :: .v (.one .und) :: .v (.one .und) :: .v (.one .und) :: .v (.one .und) :: .v (.one (.int .i64 y0)) :: .v (.one .und) :: .v (.one .und) :: .v (.one .und) :: .v (.one .und) :: .v (.one .und) :: .v (.one .und) :: .v (.one .und) :: .v (.one .und) :: .v (.one .und) :: .v (.one .und) :: .v (.one .und) :: .v (.one .und) :: .v (.one .und) :: .v (.one .und) :: .v (.one .und) :: .v (.one .und) :: .v (.one .und) :: .v (.one .und) :: .v (.one .und) :: .v (.one .und) :: .v (.one .und) :: .v (.one .und) :: .v (.one .und) :: .v (.one .und) :: .v (.one .und) :: .v (.one .und) :: .v (.one .und) :: .v (.one .und) :: .v (.one .und) :: .v (.one .und) :: .v (.one .und) :: .v (.one .und) :: .v (.one .und) :: .v (.one .und) :: .v (.one .und) :: .v (.one .und) :: .v (.one .und) :: .v (.one .und) :: [], []⟩
theorem fl125_0_0 (s : St) : refSt (h125_0_0 0 0 0 0 0 0) s = h125_0_0 (intS (oneA (vT (nx tund s.tmps 1)))) (intS (oneA (vT (nx tund s.tmps 2)))) (intS (oneA (vT (nx tund s.tmps 7)))) (intS (oneA (vT (nx tund s.tmps 8)))) (intS (nx .und (cellsB (nx .dead s.blks 0)) 0)) (intS (nx .und (cellsB (nx .dead s.blks 0)) 1)) := by kernel_rfl
def VLS125_0 {β : Type} (N : Nat) (q_spec_l7Least_l0 : (self : Int → Int → Int → Int → (Int → Option β) → Option β) → Nat → Int → Int → Int → Int → Int → Int → (Int → Option β) → Option β) (q_spec_l7Least_f : Nat → Int → Int → Int → Int → (Int → Option β) → Option β) (G : Nat) : LSpec β := fun s K => cond (shpSt (h125_0_0 0 0 0 0 0 0) s) ((fun (v0 : Int) (v1 : Int) (v2 : Int) (v3 : Int) (v4 : Int) (v5 : Int) => q_spec_l7Least_l0 (q_spec_l7Least_f G)  N v0 v1 v2 v3 v4 v5 (fun y0 => K (.exit 0) (x125_0_0_k0  y0))) (intS (oneA (vT (nx tund s.tmps 1)))) (intS (oneA (vT (nx tund s.tmps 2)))) (intS (oneA (vT (nx tund s.tmps 7)))) (intS (oneA (vT (nx tund s.tmps 8)))) (intS (nx .und (cellsB (nx .dead s.blks 0)) 0)) (intS (nx .und (cellsB (nx .dead s.blks 0)) 1))) (none)
def LS125_0 {β : Type} (N : Nat) (G : Nat) : LSpec β := VLS125_0 N (spec_l7Least_l0 N) (spec_l7Least_f N) G
def VE125 {β : Type} (N : Nat) (q_spec_l3Cube : (a0 : Int) → (a1 : Int) → (a2 : Int) → (a3 : Int) → (k : Int → Option β) → Option β) (q_spec_l7Least_f : Nat → Int → Int → Int → Int → (Int → Option β) → Option β) (q_spec_l7Least_l0 : (self : Int → Int → Int → Int → (Int → Option β) → Option β) → Nat → Int → Int → Int → Int → Int → Int → (Int → Option β) → Option β) (G : Nat) : Env β := ⟨[(143, VS143 N q_spec_l3Cube), (125, VSF125 N q_spec_l7Least_f G)], [], [(0, VLS125_0 N q_spec_l7Least_l0 q_spec_l7Least_f G)], []⟩
def E125 {β : Type} (N : Nat) (G : Nat) : Env β := VE125 N (spec_l3Cube N) (spec_l7Least_f N) (spec_l7Least_l0 N) G
def BV_spec_l7Least_l0b {β : Type} (N : Nat) (self : Int → Int → Int → Int → (Int → Option β) → Option β)  (v0 : Int) (v1 : Int) (v2 : Int) (v3 : Int) (v4 : Int) (v5 : Int) (rec_ : Int → Int → Int → Int → Int → Int → Option β) (k0 : Int → Option β) : Option β :=
(cond ((decide (v3 < v4)))
((gd ((decide (0 ≤ v3)))
((cond (((bits .and .i64 v0 (shlI .i64 1 v3)) == 0))
(self v4 v5 ((bits .or .i64 v0 (shlI .i64 1 v3))) v1 fun r6 =>
self v4 v5 ((bits .or .i64 v0 (shlI .i64 1 v3))) ((bits .or .i64 v1 (shlI .i64 1 v3))) fun r7 =>
rec_ v0 v1 ((mnI v2 (w64 (1 + (mxI r6 r7))))) ((w64 (v3 + 1))) v4 v5)
(rec_ v0 v1 v2 ((w64 (v3 + 1))) v4 v5)))))
(k0 v2))
theorem t_spec_l7Least_l0b {β : Type} (N : Nat) (self : Int → Int → Int → Int → (Int → Option β) → Option β)  (v0 : Int) (v1 : Int) (v2 : Int) (v3 : Int) (v4 : Int) (v5 : Int) (rec_ : Int → Int → Int → Int → Int → Int → Option β) (k0 : Int → Option β) : spec_l7Least_l0b N self v0 v1 v2 v3 v4 v5 rec_ k0 = BV_spec_l7Least_l0b N self v0 v1 v2 v3 v4 v5 rec_ k0 := by
  unfold spec_l7Least_l0b BV_spec_l7Least_l0b
  rfl
theorem vst125_0_0 {β : Type} (N : Nat) (q_spec_l3Cube : (a0 : Int) → (a1 : Int) → (a2 : Int) → (a3 : Int) → (k : Int → Option β) → Option β) (q_spec_l7Least_f : Nat → Int → Int → Int → Int → (Int → Option β) → Option β) (q_spec_l7Least_l0 : (self : Int → Int → Int → Int → (Int → Option β) → Option β) → Nat → Int → Int → Int → Int → Int → Int → (Int → Option β) → Option β) (G : Nat)  (v0 : Int) (v1 : Int) (v2 : Int) (v3 : Int) (v4 : Int) (v5 : Int) (rec_ : St → Option β) (K : Exit → St → Option β) :
    ev lay (VE125 N q_spec_l3Cube q_spec_l7Least_f q_spec_l7Least_l0 G) (retMask Try.f125) (lp Try.f125 0).body (lp Try.f125 0).ex ((lp Try.f125 0).lv (retMask Try.f125)) (h125_0_0  v0 v1 v2 v3 v4 v5) (nextR (fun s' => rec_ (s'.tidy ((lp Try.f125 0).lv (retMask Try.f125)))) K) = BV_spec_l7Least_l0b N (q_spec_l7Least_f G)  v0 v1 v2 v3 v4 v5 (fun v0 v1 v2 v3 v4 v5 => rec_ (h125_0_0  v0 v1 v2 v3 v4 v5)) (fun y0 => K (.exit 0) (x125_0_0_k0  y0)) := by kernel_rfl
theorem st125_0_0 {β : Type} (N : Nat) (G : Nat)  (v0 : Int) (v1 : Int) (v2 : Int) (v3 : Int) (v4 : Int) (v5 : Int) (rec_ : St → Option β) (K : Exit → St → Option β) :
    ev lay (E125 N G) (retMask Try.f125) (lp Try.f125 0).body (lp Try.f125 0).ex ((lp Try.f125 0).lv (retMask Try.f125)) (h125_0_0  v0 v1 v2 v3 v4 v5) (nextR (fun s' => rec_ (s'.tidy ((lp Try.f125 0).lv (retMask Try.f125)))) K) = spec_l7Least_l0b N (spec_l7Least_f N G)  v0 v1 v2 v3 v4 v5 (fun v0 v1 v2 v3 v4 v5 => rec_ (h125_0_0  v0 v1 v2 v3 v4 v5)) (fun y0 => K (.exit 0) (x125_0_0_k0  y0)) := (vst125_0_0 N (spec_l3Cube N) (spec_l7Least_f N) (spec_l7Least_l0 N) G v0 v1 v2 v3 v4 v5 rec_ K).trans (t_spec_l7Least_l0b N (spec_l7Least_f N G)  v0 v1 v2 v3 v4 v5 (fun v0 v1 v2 v3 v4 v5 => rec_ (h125_0_0  v0 v1 v2 v3 v4 v5)) (fun y0 => K (.exit 0) (x125_0_0_k0  y0))).symm
theorem ro125_0_0 {β : Type} (N : Nat) (G : Nat)  (K : Exit → St → Option β) : ∀ (F : Nat) (v0 : Int) (v1 : Int) (v2 : Int) (v3 : Int) (v4 : Int) (v5 : Int), (lp Try.f125 0).rounds lay (E125 N G) (retMask Try.f125) F (h125_0_0  v0 v1 v2 v3 v4 v5) K = spec_l7Least_l0 N (spec_l7Least_f N G)  F v0 v1 v2 v3 v4 v5 (fun y0 => K (.exit 0) (x125_0_0_k0  y0)) := by
  intro F
  induction F with
  | zero => intros; rfl
  | succ F ih =>
    intros
    rw [rounds_next]
    refine (st125_0_0 N G  _ _ _ _ _ _ (fun s => (lp Try.f125 0).rounds lay (E125 N G) (retMask Try.f125) F s K) K).trans ?_
    simp only [ih]
    rfl
theorem lk125_0 {β : Type} (N : Nat) (G : Nat) : lookL (E125 (β := β) N G).loops (lp Try.f125 0).id = LS125_0 N G := by kernel_rfl
theorem rk125_0 {β : Type} (N : Nat) (G : Nat) : RoundsOK lay (E125 (β := β) N G) (retMask Try.f125) (lp Try.f125 0) := by
  intro s K r h
  rw [lk125_0] at h
  unfold LS125_0 VLS125_0 at h
  cases hb : shpSt (h125_0_0 0 0 0 0 0 0) s with
  | true =>
    rw [hb, cond_true] at h
    exact ⟨N, by rw [← shpSt_ref hb, fl125_0_0 s]; exact (ro125_0_0 N G  K N (intS (oneA (vT (nx tund s.tmps 1)))) (intS (oneA (vT (nx tund s.tmps 2)))) (intS (oneA (vT (nx tund s.tmps 7)))) (intS (oneA (vT (nx tund s.tmps 8)))) (intS (nx .und (cellsB (nx .dead s.blks 0)) 0)) (intS (nx .und (cellsB (nx .dead s.blks 0)) 1))).trans h⟩
  | false =>
  rw [hb, cond_false] at h
  clear hb
  cases h
def BV_spec_l7Least_b {β : Type} (N : Nat) (q_spec_l3Cube : (a0 : Int) → (a1 : Int) → (a2 : Int) → (a3 : Int) → (k : Int → Option β) → Option β) (q_spec_l7Least_l0 : (self : Int → Int → Int → Int → (Int → Option β) → Option β) → Nat → Int → Int → Int → Int → Int → Int → (Int → Option β) → Option β) (self : Int → Int → Int → Int → (Int → Option β) → Option β) (a0 : Int) (a1 : Int) (a2 : Int) (a3 : Int) (k : Int → Option β) : Option β :=
q_spec_l3Cube a0 a1 a2 a3 fun r5 =>
(cond ((decide (r5 < 2)))
(k 0)
(q_spec_l7Least_l0 self  N a2 a3 10 0 a0 a1 (fun e8_0 =>
k e8_0)))
theorem t_spec_l7Least_b {β : Type} (N : Nat) (self : Int → Int → Int → Int → (Int → Option β) → Option β) (a0 : Int) (a1 : Int) (a2 : Int) (a3 : Int) (k : Int → Option β) : spec_l7Least_b N self a0 a1 a2 a3 k = BV_spec_l7Least_b N (spec_l3Cube N) (spec_l7Least_l0 N) self a0 a1 a2 a3 k := by
  unfold spec_l7Least_b BV_spec_l7Least_b
  rfl
theorem ve125_0 {β : Type} (N : Nat) (q_spec_l3Cube : (a0 : Int) → (a1 : Int) → (a2 : Int) → (a3 : Int) → (k : Int → Option β) → Option β) (q_spec_l7Least_f : Nat → Int → Int → Int → Int → (Int → Option β) → Option β) (q_spec_l7Least_l0 : (self : Int → Int → Int → Int → (Int → Option β) → Option β) → Nat → Int → Int → Int → Int → Int → Int → (Int → Option β) → Option β) (G : Nat)  (a0 : Int) (a1 : Int) (a2 : Int) (a3 : Int) (K : TV → Option β) : evFn lay (VE125 N q_spec_l3Cube q_spec_l7Least_f q_spec_l7Least_l0 G) Try.f125 [.v (.agg [.int .i64 a0, .int .i64 a1]), .v (.one (.int .i64 a2)), .v (.one (.int .i64 a3))] K = BV_spec_l7Least_b N q_spec_l3Cube q_spec_l7Least_l0 (q_spec_l7Least_f G) a0 a1 a2 a3 (fun z4 => K (.v (.one (.int .i64 z4)))) := by kernel_rfl
theorem e125_0 {β : Type} (N : Nat) (G : Nat)  (a0 : Int) (a1 : Int) (a2 : Int) (a3 : Int) (K : TV → Option β) : evFn lay (E125 N G) Try.f125 [.v (.agg [.int .i64 a0, .int .i64 a1]), .v (.one (.int .i64 a2)), .v (.one (.int .i64 a3))] K = spec_l7Least_f N (G + 1) a0 a1 a2 a3 (fun z4 => K (.v (.one (.int .i64 z4)))) := (ve125_0 N (spec_l3Cube N) (spec_l7Least_f N) (spec_l7Least_l0 N) G a0 a1 a2 a3 K).trans (t_spec_l7Least_b N (spec_l7Least_f N G) a0 a1 a2 a3 (fun z4 => K (.v (.one (.int .i64 z4))))).symm
theorem z125 {β : Type} (N : Nat) : ∀ args K r, SF125 (β := β) N 0 args K = some r → (none : Option β) = some r := by
  intro args K r h
  unfold SF125 VSF125 at h
  split at h <;> exact h
theorem of125 {β : Type} (N : Nat) : ∀ G, SpecOK (β := β) Try.prog 125 (SF125 N G) := by
  intro G
  induction G with
  | zero => exact s_zero Try.func125 (by kernel_rfl) (z125 N)
  | succ G ih =>
    refine spec_of lay_ok mixed (E := E125 N G) (specs_loops (specs_cons (o143 N) (specs_cons ih specs_nil))) muts_nil gs_nil Try.func125 (by kernel_rfl) 1 (by kernel_rfl) ⟨trivial, rk125_0 N G⟩ fun args K r h => ?_
    unfold SF125 VSF125 at h
    split at h
    · exact (e125_0 N G _ _ _ _ _).trans h
    · cases h
theorem o125 {β : Type} (N : Nat) : SpecOK (β := β) Try.prog 125 (S125 N) := of125 N N
def VS98 {β : Type} (N : Nat) (q_spec_LeastDepth : (a0 : Int) → (a1 : Int) → (k : Int → Option β) → Option β) : Rv.Spec β := fun args K => match args with
  | [.v (.agg [.int .i64 a0, .int .i64 a1])] => q_spec_LeastDepth a0 a1 (fun z2 => K (.v (.one (.int .i64 z2))))
  | _ => none
def S98 {β : Type} (N : Nat) : Rv.Spec β := VS98 N (spec_LeastDepth N)
def VE98 {β : Type} (N : Nat) (q_spec_IsTable : (a0 : Int) → (a1 : Int) → (k : Bool → Option β) → Option β) (q_spec_l7Least_f : Nat → Int → Int → Int → Int → (Int → Option β) → Option β) : Env β := ⟨[(69, VS69 N q_spec_IsTable), (125, VS125 N q_spec_l7Least_f)], [], [], []⟩
def E98 {β : Type} (N : Nat) : Env β := VE98 N (spec_IsTable N) (spec_l7Least_f N)
def BV_spec_LeastDepth {β : Type} (N : Nat) (q_spec_IsTable : (a0 : Int) → (a1 : Int) → (k : Bool → Option β) → Option β) (q_spec_l7Least_f : Nat → Int → Int → Int → Int → (Int → Option β) → Option β) (a0 : Int) (a1 : Int) (k : Int → Option β) : Option β :=
q_spec_IsTable a0 a1 fun r3 =>
(cond (!r3)
(k (-1))
((cond ((decide (a0 > 4)))
(k (-1))
(q_spec_l7Least_f N a0 a1 0 0 fun r4 =>
k r4))))
theorem t_spec_LeastDepth {β : Type} (N : Nat) (a0 : Int) (a1 : Int) (k : Int → Option β) : spec_LeastDepth N a0 a1 k = BV_spec_LeastDepth N (spec_IsTable N) (spec_l7Least_f N) a0 a1 k := by
  unfold spec_LeastDepth BV_spec_LeastDepth
  rfl
theorem ve98_0 {β : Type} (N : Nat) (q_spec_IsTable : (a0 : Int) → (a1 : Int) → (k : Bool → Option β) → Option β) (q_spec_l7Least_f : Nat → Int → Int → Int → Int → (Int → Option β) → Option β)  (a0 : Int) (a1 : Int) (K : TV → Option β) : evFn lay (VE98 N q_spec_IsTable q_spec_l7Least_f) Try.f98 [.v (.agg [.int .i64 a0, .int .i64 a1])] K = BV_spec_LeastDepth N q_spec_IsTable q_spec_l7Least_f a0 a1 (fun z2 => K (.v (.one (.int .i64 z2)))) := by kernel_rfl
theorem e98_0 {β : Type} (N : Nat)  (a0 : Int) (a1 : Int) (K : TV → Option β) : evFn lay (E98 N) Try.f98 [.v (.agg [.int .i64 a0, .int .i64 a1])] K = spec_LeastDepth N a0 a1 (fun z2 => K (.v (.one (.int .i64 z2)))) := (ve98_0 N (spec_IsTable N) (spec_l7Least_f N) a0 a1 K).trans (t_spec_LeastDepth N a0 a1 (fun z2 => K (.v (.one (.int .i64 z2))))).symm
theorem o98 {β : Type} (N : Nat) : SpecOK (β := β) Try.prog 98 (S98 N) := by
  refine spec_of lay_ok mixed (E := E98 N) (specs_loops (specs_cons (o69 N) (specs_cons (o125 N) specs_nil))) muts_nil gs_nil Try.func98 (by kernel_rfl) 0 (by kernel_rfl) trivial fun args K r h => ?_
  unfold S98 VS98 at h
  split at h
  · exact (e98_0 N _ _ _).trans h
  · cases h
end Go.Proofs.Ytdkjnadhgdneaaa
