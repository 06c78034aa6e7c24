/- The functions that the claims reach answer as their texts do. -/
import Derived.Test.YtfdggelojmofmaaE3
namespace Go.Proofs.Ytfdggelojmofmaa
open Go.Rv
set_option maxRecDepth 100000
set_option maxHeartbeats 2000000
set_option linter.unusedVariables false
def VS172 {β : Type} (N : Nat) (zq87 : (a0 : Int) → (a1 : Int) → (a2 : Int) → (k : Int → Option β) → Option β) : Rv.Spec β := fun args K => match args with
  | [.v (.agg [.int .i64 a0, .int .i64 a1]), .v (.one (.int .i64 a2))] => zq87 a0 a1 a2 (fun z3 => K (.v (.one (.int .i64 z3))))
  | _ => none
def S172 {β : Type} (N : Nat) : Rv.Spec β := VS172 N (zj87 N)
def h172_0_0  (v0 : Int) (v1 : Int) (v2 : Int) (v3 : Int) (v4 : Int) (v5 : Int) : St := ⟨tund :: .v (.one (.int .i64 v0)) :: .v (.one (.ptr 0 0)) :: tund :: tund :: .v (.one (.int .i64 v1)) :: tund :: tund :: .v (.one (.int .i64 v2)) :: .v (.one (.int .i64 v3)) :: tund :: tund :: tund :: tund :: tund :: tund :: tund :: tund :: tund :: tund :: tund :: [], [.cells 27 [.int .i64 v4, .int .i64 v5]]⟩
def x172_0_0_k0  (y0 : Int) : St := ⟨tund :: tund :: tund :: tund :: tund :: .v (.one (.int .i64 y0)) :: tund :: tund :: tund :: tund :: tund :: tund :: tund :: tund :: tund :: tund :: tund :: tund :: tund :: tund :: tund :: [], []⟩
theorem fl172_0_0 (s : St) : refSt (h172_0_0 0 0 0 0 0 0) s = h172_0_0 (intS (oneA (vT (nx tund s.tmps 1)))) (intS (oneA (vT (nx tund s.tmps 5)))) (intS (oneA (vT (nx tund s.tmps 8)))) (intS (oneA (vT (nx tund s.tmps 9)))) (intS (nx .und (cellsB (nx .dead s.blks 0)) 0)) (intS (nx .und (cellsB (nx .dead s.blks 0)) 1)) := by kernel_rfl
def VLS172_0 {β : Type} (N : Nat) (zq86 : Nat → Int → Int → Int → Int → Int → Int → (Int → Option β) → Option β) : LSpec β := fun s K => cond (shpSt (h172_0_0 0 0 0 0 0 0) s) ((fun (v0 : Int) (v1 : Int) (v2 : Int) (v3 : Int) (v4 : Int) (v5 : Int) => zq86  N v0 v1 v2 v3 v4 v5 (fun y0 => K (.exit 0) (x172_0_0_k0  y0))) (intS (oneA (vT (nx tund s.tmps 1)))) (intS (oneA (vT (nx tund s.tmps 5)))) (intS (oneA (vT (nx tund s.tmps 8)))) (intS (oneA (vT (nx tund s.tmps 9)))) (intS (nx .und (cellsB (nx .dead s.blks 0)) 0)) (intS (nx .und (cellsB (nx .dead s.blks 0)) 1))) (none)
def LS172_0 {β : Type} (N : Nat) : LSpec β := VLS172_0 N (zj86 N)
def VE172 {β : Type} (N : Nat) (zq84 : (a0 : Int) → (a1 : Int) → (a2 : Int) → (a3 : Int) → (k : Bool → Option β) → Option β) (zq86 : Nat → Int → Int → Int → Int → Int → Int → (Int → Option β) → Option β) : Env β := ⟨[(201, VS201 N zq84)], [], [(0, VLS172_0 N zq86)], [], ⟨[], [], [], [61]⟩⟩
def E172 {β : Type} (N : Nat) : Env β := VE172 N (zj84 N) (zj86 N)
def zb85 {β : Type} (N : Nat) (zq84 : (a0 : Int) → (a1 : Int) → (a2 : Int) → (a3 : Int) → (k : Bool → Option β) → Option β)  (v0 : Int) (v1 : Int) (v2 : Int) (v3 : Int) (v4 : Int) (v5 : Int) (rec_ : Int → Int → Int → Int → Int → Int → Option β) (k0 : Int → Option β) : Option β :=
(cond ((decide (v3 < v2)))
((gd ((decide (0 ≤ v3)))
(zq84 v4 v5 v0 ((shlI .i64 1 v3)) fun r4 =>
(cond r4
(rec_ v0 ((w64 (v1 + 1))) v2 ((w64 (v3 + 1))) v4 v5)
(rec_ v0 v1 v2 ((w64 (v3 + 1))) v4 v5)))))
(k0 v1))
theorem zt85 {β : Type} (N : Nat)  (v0 : Int) (v1 : Int) (v2 : Int) (v3 : Int) (v4 : Int) (v5 : Int) (rec_ : Int → Int → Int → Int → Int → Int → Option β) (k0 : Int → Option β) : zj85 N v0 v1 v2 v3 v4 v5 rec_ k0 = zb85 N (zj84 N) v0 v1 v2 v3 v4 v5 rec_ k0 := by
  unfold zj85 zb85
  rfl
theorem vst172_0_0 {β : Type} (N : Nat) (zq84 : (a0 : Int) → (a1 : Int) → (a2 : Int) → (a3 : Int) → (k : Bool → Option β) → Option β) (zq86 : Nat → Int → Int → Int → Int → Int → Int → (Int → Option β) → Option β)  (v0 : Int) (v1 : Int) (v2 : Int) (v3 : Int) (v4 : Int) (v5 : Int) (rec_ : St → Option β) (K : Exit → St → Option β) :
    ev lay (VE172 N zq84 zq86) (retMask Try.f172) (lp Try.f172 0).body (lp Try.f172 0).ex ((lp Try.f172 0).lv (retMask Try.f172)) (h172_0_0  v0 v1 v2 v3 v4 v5) (nextR (fun s' => rec_ (s'.tidy ((lp Try.f172 0).lv (retMask Try.f172)))) K) = zb85 N zq84  v0 v1 v2 v3 v4 v5 (fun v0 v1 v2 v3 v4 v5 => rec_ (h172_0_0  v0 v1 v2 v3 v4 v5)) (fun y0 => K (.exit 0) (x172_0_0_k0  y0)) := by kernel_rfl
theorem st172_0_0 {β : Type} (N : Nat)  (v0 : Int) (v1 : Int) (v2 : Int) (v3 : Int) (v4 : Int) (v5 : Int) (rec_ : St → Option β) (K : Exit → St → Option β) :
    ev lay (E172 N) (retMask Try.f172) (lp Try.f172 0).body (lp Try.f172 0).ex ((lp Try.f172 0).lv (retMask Try.f172)) (h172_0_0  v0 v1 v2 v3 v4 v5) (nextR (fun s' => rec_ (s'.tidy ((lp Try.f172 0).lv (retMask Try.f172)))) K) = zj85 N  v0 v1 v2 v3 v4 v5 (fun v0 v1 v2 v3 v4 v5 => rec_ (h172_0_0  v0 v1 v2 v3 v4 v5)) (fun y0 => K (.exit 0) (x172_0_0_k0  y0)) := (vst172_0_0 N (zj84 N) (zj86 N) v0 v1 v2 v3 v4 v5 rec_ K).trans (zt85 N  v0 v1 v2 v3 v4 v5 (fun v0 v1 v2 v3 v4 v5 => rec_ (h172_0_0  v0 v1 v2 v3 v4 v5)) (fun y0 => K (.exit 0) (x172_0_0_k0  y0))).symm
theorem ro172_0_0 {β : Type} (N : Nat)  (K : Exit → St → Option β) : ∀ (F : Nat) (v0 : Int) (v1 : Int) (v2 : Int) (v3 : Int) (v4 : Int) (v5 : Int), (lp Try.f172 0).rounds lay (E172 N) (retMask Try.f172) F (h172_0_0  v0 v1 v2 v3 v4 v5) K = zj86 N  F v0 v1 v2 v3 v4 v5 (fun y0 => K (.exit 0) (x172_0_0_k0  y0)) := by
  intro F
  induction F with
  | zero => intros; rfl
  | succ F ih =>
    intros
    rw [rounds_next]
    refine (st172_0_0 N  _ _ _ _ _ _ (fun s => (lp Try.f172 0).rounds lay (E172 N) (retMask Try.f172) F s K) K).trans ?_
    simp only [ih]
    rfl
theorem lk172_0 {β : Type} (N : Nat) : lookL (E172 (β := β) N).loops (lp Try.f172 0).id = LS172_0 N := by kernel_rfl
theorem rk172_0 {β : Type} (N : Nat) : RoundsOK lay (E172 (β := β) N) (retMask Try.f172) (lp Try.f172 0) := by
  intro s K r h
  rw [lk172_0] at h
  unfold LS172_0 VLS172_0 at h
  cases hb : shpSt (h172_0_0 0 0 0 0 0 0) s with
  | true =>
    rw [hb, cond_true] at h
    exact ⟨N, by rw [← shpSt_ref hb, fl172_0_0 s]; exact (ro172_0_0 N  K N (intS (oneA (vT (nx tund s.tmps 1)))) (intS (oneA (vT (nx tund s.tmps 5)))) (intS (oneA (vT (nx tund s.tmps 8)))) (intS (oneA (vT (nx tund s.tmps 9)))) (intS (nx .und (cellsB (nx .dead s.blks 0)) 0)) (intS (nx .und (cellsB (nx .dead s.blks 0)) 1))).trans h⟩
  | false =>
  rw [hb, cond_false] at h
  clear hb
  cases h
def zb87 {β : Type} (N : Nat) (zq86 : Nat → Int → Int → Int → Int → Int → Int → (Int → Option β) → Option β) (a0 : Int) (a1 : Int) (a2 : Int) (k : Int → Option β) : Option β :=
zq86  N a2 0 a0 0 a0 a1 (fun e5_0 =>
k e5_0)
theorem zt87 {β : Type} (N : Nat) (a0 : Int) (a1 : Int) (a2 : Int) (k : Int → Option β) : zj87 N a0 a1 a2 k = zb87 N (zj86 N) a0 a1 a2 k := by
  unfold zj87 zb87
  rfl
theorem ve172_0 {β : Type} (N : Nat) (zq84 : (a0 : Int) → (a1 : Int) → (a2 : Int) → (a3 : Int) → (k : Bool → Option β) → Option β) (zq86 : Nat → Int → Int → Int → Int → Int → Int → (Int → Option β) → Option β)  (a0 : Int) (a1 : Int) (a2 : Int) (K : TV → Option β) : evFn lay (VE172 N zq84 zq86) Try.f172 [.v (.agg [.int .i64 a0, .int .i64 a1]), .v (.one (.int .i64 a2))] K = zb87 N zq86 a0 a1 a2 (fun z3 => K (.v (.one (.int .i64 z3)))) := by kernel_rfl
theorem e172_0 {β : Type} (N : Nat)  (a0 : Int) (a1 : Int) (a2 : Int) (K : TV → Option β) : evFn lay (E172 N) Try.f172 [.v (.agg [.int .i64 a0, .int .i64 a1]), .v (.one (.int .i64 a2))] K = zj87 N a0 a1 a2 (fun z3 => K (.v (.one (.int .i64 z3)))) := (ve172_0 N (zj84 N) (zj86 N) a0 a1 a2 K).trans (zt87 N a0 a1 a2 (fun z3 => K (.v (.one (.int .i64 z3))))).symm
theorem o172 {β : Type} (N : Nat) : SpecOK (β := β) inv Try.prog 172 (S172 N) := by
  refine spec_of lay_ok mixed (E := E172 N) (specs_loops (specs_cons (o201 N) specs_nil)) muts_nil gs_nil Try.func172 (by kernel_rfl) 1 (by kernel_rfl) ⟨trivial, rk172_0 N⟩ fun args K r h => ?_
  unfold S172 VS172 at h
  split at h
  · exact (e172_0 N _ _ _ _).trans h
  · cases h
def VS136 {β : Type} (N : Nat) (zq90 : (a0 : Int) → (a1 : Int) → (k : Int → Option β) → Option β) : Rv.Spec β := fun args K => match args with
  | [.v (.agg [.int .i64 a0, .int .i64 a1])] => zq90 a0 a1 (fun z2 => K (.v (.one (.int .i64 z2))))
  | _ => none
def S136 {β : Type} (N : Nat) : Rv.Spec β := VS136 N (zj90 N)
def h136_0_0  (v0 : Int) (v1 : Int) (v2 : Int) (v3 : Int) (v4 : Int) : St := ⟨tund :: .v (.one (.ptr 0 0)) :: tund :: .v (.one (.int .i64 v0)) :: tund :: tund :: tund :: tund :: tund :: .v (.one (.int .i64 v1)) :: .v (.one (.int .i64 v2)) :: tund :: tund :: tund :: tund :: tund :: tund :: tund :: tund :: tund :: [], [.cells 27 [.int .i64 v3, .int .i64 v4]]⟩
def x136_0_0_k0  (y0 : Int) : St := ⟨tund :: tund :: tund :: .v (.one (.int .i64 y0)) :: tund :: tund :: tund :: tund :: tund :: tund :: tund :: tund :: tund :: tund :: tund :: tund :: tund :: tund :: tund :: tund :: [], []⟩
theorem fl136_0_0 (s : St) : refSt (h136_0_0 0 0 0 0 0) s = h136_0_0 (intS (oneA (vT (nx tund s.tmps 3)))) (intS (oneA (vT (nx tund s.tmps 9)))) (intS (oneA (vT (nx tund s.tmps 10)))) (intS (nx .und (cellsB (nx .dead s.blks 0)) 0)) (intS (nx .und (cellsB (nx .dead s.blks 0)) 1)) := by kernel_rfl
def VLS136_0 {β : Type} (N : Nat) (zq89 : Nat → Int → Int → Int → Int → Int → (Int → Option β) → Option β) : LSpec β := fun s K => cond (shpSt (h136_0_0 0 0 0 0 0) s) ((fun (v0 : Int) (v1 : Int) (v2 : Int) (v3 : Int) (v4 : Int) => zq89  N v0 v1 v2 v3 v4 (fun y0 => K (.exit 0) (x136_0_0_k0  y0))) (intS (oneA (vT (nx tund s.tmps 3)))) (intS (oneA (vT (nx tund s.tmps 9)))) (intS (oneA (vT (nx tund s.tmps 10)))) (intS (nx .und (cellsB (nx .dead s.blks 0)) 0)) (intS (nx .und (cellsB (nx .dead s.blks 0)) 1))) (none)
def LS136_0 {β : Type} (N : Nat) : LSpec β := VLS136_0 N (zj89 N)
def VE136 {β : Type} (N : Nat) (zq80 : (a0 : Int) → (a1 : Int) → (k : Bool → Option β) → Option β) (zq79 : (a0 : Int) → (a1 : Int) → (k : Int → Option β) → Option β) (zq87 : (a0 : Int) → (a1 : Int) → (a2 : Int) → (k : Int → Option β) → Option β) (zq89 : Nat → Int → Int → Int → Int → Int → (Int → Option β) → Option β) : Env β := ⟨[(82, VS82 N zq80), (96, VS96 N zq79), (172, VS172 N zq87)], [], [(0, VLS136_0 N zq89)], [], ⟨[], [], [], [61]⟩⟩
def E136 {β : Type} (N : Nat) : Env β := VE136 N (zj80 N) (zj79 N) (zj87 N) (zj89 N)
def zb88 {β : Type} (N : Nat) (zq87 : (a0 : Int) → (a1 : Int) → (a2 : Int) → (k : Int → Option β) → Option β)  (v0 : Int) (v1 : Int) (v2 : Int) (v3 : Int) (v4 : Int) (rec_ : Int → Int → Int → Int → Int → Option β) (k0 : Int → Option β) : Option β :=
(cond ((decide (v2 < v1)))
(zq87 v3 v4 v2 fun r5 =>
rec_ ((mxI v0 r5)) v1 ((w64 (v2 + 1))) v3 v4)
(k0 v0))
theorem zt88 {β : Type} (N : Nat)  (v0 : Int) (v1 : Int) (v2 : Int) (v3 : Int) (v4 : Int) (rec_ : Int → Int → Int → Int → Int → Option β) (k0 : Int → Option β) : zj88 N v0 v1 v2 v3 v4 rec_ k0 = zb88 N (zj87 N) v0 v1 v2 v3 v4 rec_ k0 := by
  unfold zj88 zb88
  rfl
theorem vst136_0_0 {β : Type} (N : Nat) (zq80 : (a0 : Int) → (a1 : Int) → (k : Bool → Option β) → Option β) (zq79 : (a0 : Int) → (a1 : Int) → (k : Int → Option β) → Option β) (zq87 : (a0 : Int) → (a1 : Int) → (a2 : Int) → (k : Int → Option β) → Option β) (zq89 : Nat → Int → Int → Int → Int → Int → (Int → Option β) → Option β)  (v0 : Int) (v1 : Int) (v2 : Int) (v3 : Int) (v4 : Int) (rec_ : St → Option β) (K : Exit → St → Option β) :
    ev lay (VE136 N zq80 zq79 zq87 zq89) (retMask Try.f136) (lp Try.f136 0).body (lp Try.f136 0).ex ((lp Try.f136 0).lv (retMask Try.f136)) (h136_0_0  v0 v1 v2 v3 v4) (nextR (fun s' => rec_ (s'.tidy ((lp Try.f136 0).lv (retMask Try.f136)))) K) = zb88 N zq87  v0 v1 v2 v3 v4 (fun v0 v1 v2 v3 v4 => rec_ (h136_0_0  v0 v1 v2 v3 v4)) (fun y0 => K (.exit 0) (x136_0_0_k0  y0)) := by kernel_rfl
theorem st136_0_0 {β : Type} (N : Nat)  (v0 : Int) (v1 : Int) (v2 : Int) (v3 : Int) (v4 : Int) (rec_ : St → Option β) (K : Exit → St → Option β) :
    ev lay (E136 N) (retMask Try.f136) (lp Try.f136 0).body (lp Try.f136 0).ex ((lp Try.f136 0).lv (retMask Try.f136)) (h136_0_0  v0 v1 v2 v3 v4) (nextR (fun s' => rec_ (s'.tidy ((lp Try.f136 0).lv (retMask Try.f136)))) K) = zj88 N  v0 v1 v2 v3 v4 (fun v0 v1 v2 v3 v4 => rec_ (h136_0_0  v0 v1 v2 v3 v4)) (fun y0 => K (.exit 0) (x136_0_0_k0  y0)) := (vst136_0_0 N (zj80 N) (zj79 N) (zj87 N) (zj89 N) v0 v1 v2 v3 v4 rec_ K).trans (zt88 N  v0 v1 v2 v3 v4 (fun v0 v1 v2 v3 v4 => rec_ (h136_0_0  v0 v1 v2 v3 v4)) (fun y0 => K (.exit 0) (x136_0_0_k0  y0))).symm
theorem ro136_0_0 {β : Type} (N : Nat)  (K : Exit → St → Option β) : ∀ (F : Nat) (v0 : Int) (v1 : Int) (v2 : Int) (v3 : Int) (v4 : Int), (lp Try.f136 0).rounds lay (E136 N) (retMask Try.f136) F (h136_0_0  v0 v1 v2 v3 v4) K = zj89 N  F v0 v1 v2 v3 v4 (fun y0 => K (.exit 0) (x136_0_0_k0  y0)) := by
  intro F
  induction F with
  | zero => intros; rfl
  | succ F ih =>
    intros
    rw [rounds_next]
    refine (st136_0_0 N  _ _ _ _ _ (fun s => (lp Try.f136 0).rounds lay (E136 N) (retMask Try.f136) F s K) K).trans ?_
    simp only [ih]
    rfl
theorem lk136_0 {β : Type} (N : Nat) : lookL (E136 (β := β) N).loops (lp Try.f136 0).id = LS136_0 N := by kernel_rfl
theorem rk136_0 {β : Type} (N : Nat) : RoundsOK lay (E136 (β := β) N) (retMask Try.f136) (lp Try.f136 0) := by
  intro s K r h
  rw [lk136_0] at h
  unfold LS136_0 VLS136_0 at h
  cases hb : shpSt (h136_0_0 0 0 0 0 0) s with
  | true =>
    rw [hb, cond_true] at h
    exact ⟨N, by rw [← shpSt_ref hb, fl136_0_0 s]; exact (ro136_0_0 N  K N (intS (oneA (vT (nx tund s.tmps 3)))) (intS (oneA (vT (nx tund s.tmps 9)))) (intS (oneA (vT (nx tund s.tmps 10)))) (intS (nx .und (cellsB (nx .dead s.blks 0)) 0)) (intS (nx .und (cellsB (nx .dead s.blks 0)) 1))).trans h⟩
  | false =>
  rw [hb, cond_false] at h
  clear hb
  cases h
def zb90 {β : Type} (N : Nat) (zq80 : (a0 : Int) → (a1 : Int) → (k : Bool → Option β) → Option β) (zq79 : (a0 : Int) → (a1 : Int) → (k : Int → Option β) → Option β) (zq89 : Nat → Int → Int → Int → Int → Int → (Int → Option β) → Option β) (a0 : Int) (a1 : Int) (k : Int → Option β) : Option β :=
zq80 a0 a1 fun r3 =>
(cond (!r3)
(k (-1))
(zq79 a0 a1 fun r4 =>
zq89  N 0 r4 0 a0 a1 (fun e6_0 =>
k e6_0)))
theorem zt90 {β : Type} (N : Nat) (a0 : Int) (a1 : Int) (k : Int → Option β) : zj90 N a0 a1 k = zb90 N (zj80 N) (zj79 N) (zj89 N) a0 a1 k := by
  unfold zj90 zb90
  rfl
theorem ve136_0 {β : Type} (N : Nat) (zq80 : (a0 : Int) → (a1 : Int) → (k : Bool → Option β) → Option β) (zq79 : (a0 : Int) → (a1 : Int) → (k : Int → Option β) → Option β) (zq87 : (a0 : Int) → (a1 : Int) → (a2 : Int) → (k : Int → Option β) → Option β) (zq89 : Nat → Int → Int → Int → Int → Int → (Int → Option β) → Option β)  (a0 : Int) (a1 : Int) (K : TV → Option β) : evFn lay (VE136 N zq80 zq79 zq87 zq89) Try.f136 [.v (.agg [.int .i64 a0, .int .i64 a1])] K = zb90 N zq80 zq79 zq89 a0 a1 (fun z2 => K (.v (.one (.int .i64 z2)))) := by kernel_rfl
theorem e136_0 {β : Type} (N : Nat)  (a0 : Int) (a1 : Int) (K : TV → Option β) : evFn lay (E136 N) Try.f136 [.v (.agg [.int .i64 a0, .int .i64 a1])] K = zj90 N a0 a1 (fun z2 => K (.v (.one (.int .i64 z2)))) := (ve136_0 N (zj80 N) (zj79 N) (zj87 N) (zj89 N) a0 a1 K).trans (zt90 N a0 a1 (fun z2 => K (.v (.one (.int .i64 z2))))).symm
theorem o136 {β : Type} (N : Nat) : SpecOK (β := β) inv Try.prog 136 (S136 N) := by
  refine spec_of lay_ok mixed (E := E136 N) (specs_loops (specs_cons (o82 N) (specs_cons (o96 N) (specs_cons (o172 N) specs_nil)))) muts_nil gs_nil Try.func136 (by kernel_rfl) 1 (by kernel_rfl) ⟨trivial, rk136_0 N⟩ fun args K r h => ?_
  unfold S136 VS136 at h
  split at h
  · exact (e136_0 N _ _ _).trans h
  · cases h
def VS202 {β : Type} (N : Nat) (zq95 : (a0 : Int) → (a1 : Int) → (a2 : Int) → (k : List Int → Option β) → Option β) : Rv.Spec β := fun args K => match args with
  | [.v (.agg [.int .i64 a0, .int .i64 a1]), .v (.one (.int .i64 a2))] => zq95 a0 a1 a2 (fun z3 => K (.v (.one (.sl 3 (.ints .i64 z3)))))
  | _ => none
def S202 {β : Type} (N : Nat) : Rv.Spec β := VS202 N (zj95 N)
def h202_0_0  (v0 : Int) (v1 : Int) (v2 : Int) (v3 : Int) (v4 : Int) (v5 : List Int) : St := ⟨tund :: .v (.one (.int .i64 v0)) :: .v (.one (.ptr 0 0)) :: tund :: tund :: .v (.one (.row 1)) :: tund :: tund :: tund :: tund :: .v (.one (.int .i64 v1)) :: .v (.one (.int .i64 v2)) :: tund :: tund :: tund :: tund :: tund :: tund :: tund :: tund :: tund :: tund :: tund :: tund :: tund :: tund :: tund :: tund :: tund :: tund :: tund :: tund :: tund :: tund :: tund :: tund :: tund :: tund :: tund :: tund :: tund :: tund :: tund :: [], [.cells 27 [.int .i64 v3, .int .i64 v4], .row 3 (.ints .i64 v5)]⟩
def x202_0_0_k0  (y0 : List Int) : St := ⟨tund :: tund :: tund :: tund :: tund :: .v (.one (.row 0)) :: tund :: tund :: tund :: tund :: tund :: tund :: tund :: tund :: tund :: tund :: tund :: tund :: tund :: tund :: tund :: tund :: tund :: tund :: tund :: tund :: tund :: tund :: tund :: tund :: tund :: tund :: tund :: tund :: tund :: tund :: tund :: tund :: tund :: tund :: tund :: tund :: tund :: [], [.row 3 (.ints .i64 y0)]⟩
def h202_1_0  (v0 : Int) (v1 : Int) (v2 : Bool) (v3 : Int) (v4 : Int) (v5 : Int) (v6 : Int) (v7 : Int) (v8 : List Int) : St := ⟨tund :: .v (.one (.int .i64 v0)) :: .v (.one (.ptr 0 0)) :: tund :: tund :: .v (.one (.row 1)) :: .v (.one (.int .i64 v1)) :: .v (.one (.bool v2)) :: .v (.one (.int .i64 v3)) :: tund :: .v (.one (.int .i64 v4)) :: .v (.one (.int .i64 v5)) :: tund :: tund :: tund :: tund :: tund :: tund :: tund :: tund :: tund :: tund :: tund :: tund :: tund :: tund :: tund :: tund :: tund :: tund :: tund :: tund :: tund :: tund :: tund :: tund :: tund :: tund :: tund :: tund :: tund :: tund :: tund :: [], [.cells 27 [.int .i64 v6, .int .i64 v7], .row 3 (.ints .i64 v8)]⟩
def x202_1_0_k0  (y0 : Int) (y1 : Int) (y2 : Bool) (y3 : Int) (y4 : Int) (y5 : Int) (y6 : Int) (y7 : List Int) : St := ⟨tund :: .v (.one (.int .i64 y0)) :: .v (.one (.ptr 0 0)) :: tund :: tund :: .v (.one (.row 1)) :: .v (.one (.int .i64 y1)) :: .v (.one (.bool y2)) :: tund :: tund :: .v (.one (.int .i64 y3)) :: .v (.one (.int .i64 y4)) :: tund :: tund :: tund :: tund :: tund :: tund :: tund :: tund :: tund :: tund :: tund :: tund :: tund :: tund :: tund :: tund :: tund :: tund :: tund :: tund :: tund :: tund :: tund :: tund :: tund :: tund :: tund :: tund :: tund :: tund :: tund :: [], [.cells 27 [.int .i64 y5, .int .i64 y6], .row 3 (.ints .i64 y7)]⟩
theorem fl202_0_0 (s : St) : refSt (h202_0_0 0 0 0 0 0 []) s = h202_0_0 (intS (oneA (vT (nx tund s.tmps 1)))) (intS (oneA (vT (nx tund s.tmps 10)))) (intS (oneA (vT (nx tund s.tmps 11)))) (intS (nx .und (cellsB (nx .dead s.blks 0)) 0)) (intS (nx .und (cellsB (nx .dead s.blks 0)) 1)) (rInts (rowB_ (nx .dead s.blks 1))) := by kernel_rfl
def VLS202_0 {β : Type} (N : Nat) (zq94 : Nat → Int → Int → Int → Int → Int → List Int → (List Int → Option β) → Option β) : LSpec β := fun s K => cond (shpSt (h202_0_0 0 0 0 0 0 []) s) ((fun (v0 : Int) (v1 : Int) (v2 : Int) (v3 : Int) (v4 : Int) (v5 : List Int) => zq94  N v0 v1 v2 v3 v4 v5 (fun y0 => K (.exit 0) (x202_0_0_k0  y0))) (intS (oneA (vT (nx tund s.tmps 1)))) (intS (oneA (vT (nx tund s.tmps 10)))) (intS (oneA (vT (nx tund s.tmps 11)))) (intS (nx .und (cellsB (nx .dead s.blks 0)) 0)) (intS (nx .und (cellsB (nx .dead s.blks 0)) 1)) (rInts (rowB_ (nx .dead s.blks 1)))) (none)
def LS202_0 {β : Type} (N : Nat) : LSpec β := VLS202_0 N (zj94 N)
theorem fl202_1_0 (s : St) : refSt (h202_1_0 0 0 false 0 0 0 0 0 []) s = h202_1_0 (intS (oneA (vT (nx tund s.tmps 1)))) (intS (oneA (vT (nx tund s.tmps 6)))) (boolS (oneA (vT (nx tund s.tmps 7)))) (intS (oneA (vT (nx tund s.tmps 8)))) (intS (oneA (vT (nx tund s.tmps 10)))) (intS (oneA (vT (nx tund s.tmps 11)))) (intS (nx .und (cellsB (nx .dead s.blks 0)) 0)) (intS (nx .und (cellsB (nx .dead s.blks 0)) 1)) (rInts (rowB_ (nx .dead s.blks 1))) := by kernel_rfl
def VLS202_2 {β : Type} (N : Nat) (zq92 : Nat → Int → Int → Bool → Int → Int → Int → Int → Int → List Int → (Int → Int → Bool → Int → Int → Int → Int → List Int → Option β) → Option β) : LSpec β := fun s K => cond (shpSt (h202_1_0 0 0 false 0 0 0 0 0 []) s) ((fun (v0 : Int) (v1 : Int) (v2 : Bool) (v3 : Int) (v4 : Int) (v5 : Int) (v6 : Int) (v7 : Int) (v8 : List Int) => zq92  N v0 v1 v2 v3 v4 v5 v6 v7 v8 (fun y0 y1 y2 y3 y4 y5 y6 y7 => K (.exit 2) (x202_1_0_k0  y0 y1 y2 y3 y4 y5 y6 y7))) (intS (oneA (vT (nx tund s.tmps 1)))) (intS (oneA (vT (nx tund s.tmps 6)))) (boolS (oneA (vT (nx tund s.tmps 7)))) (intS (oneA (vT (nx tund s.tmps 8)))) (intS (oneA (vT (nx tund s.tmps 10)))) (intS (oneA (vT (nx tund s.tmps 11)))) (intS (nx .und (cellsB (nx .dead s.blks 0)) 0)) (intS (nx .und (cellsB (nx .dead s.blks 0)) 1)) (rInts (rowB_ (nx .dead s.blks 1)))) (none)
def LS202_2 {β : Type} (N : Nat) : LSpec β := VLS202_2 N (zj92 N)
def VE202 {β : Type} (N : Nat) (zq79 : (a0 : Int) → (a1 : Int) → (k : Int → Option β) → Option β) (zq84 : (a0 : Int) → (a1 : Int) → (a2 : Int) → (a3 : Int) → (k : Bool → Option β) → Option β) (zq94 : Nat → Int → Int → Int → Int → Int → List Int → (List Int → Option β) → Option β) (zq92 : Nat → Int → Int → Bool → Int → Int → Int → Int → Int → List Int → (Int → Int → Bool → Int → Int → Int → Int → List Int → Option β) → Option β) : Env β := ⟨[(96, VS96 N zq79), (201, VS201 N zq84)], [], [(0, VLS202_0 N zq94), (2, VLS202_2 N zq92)], [], ⟨[], [], [], [61]⟩⟩
def E202 {β : Type} (N : Nat) : Env β := VE202 N (zj79 N) (zj84 N) (zj94 N) (zj92 N)
def zb93 {β : Type} (N : Nat) (zq84 : (a0 : Int) → (a1 : Int) → (a2 : Int) → (a3 : Int) → (k : Bool → Option β) → Option β) (zq92 : Nat → Int → Int → Bool → Int → Int → Int → Int → Int → List Int → (Int → Int → Bool → Int → Int → Int → Int → List Int → Option β) → Option β)  (v0 : Int) (v1 : Int) (v2 : Int) (v3 : Int) (v4 : Int) (v5 : List Int) (rec_ : Int → Int → Int → Int → Int → List Int → Option β) (k0 : List Int → Option β) : Option β :=
(cond ((decide (v2 < v1)))
(zq84 v3 v4 v0 v2 fun r5 =>
zq92  N v0 v2 r5 ((bits .and .i64 (w64 (v2 - 1)) v2)) v1 v2 v3 v4 v5 (fun e7_0 e7_1 e7_2 e7_3 e7_4 e7_5 e7_6 e7_7 =>
(cond e7_2
((gd ((decide ((e7_7.length + ((([] : List Int) ++ [e7_1])).length) * 8 ≤ 140737488355328)))
(rec_ e7_0 e7_3 ((w64 (e7_4 + 1))) e7_5 e7_6 ((e7_7 ++ (([] : List Int) ++ [e7_1]))))))
(rec_ e7_0 e7_3 ((w64 (e7_4 + 1))) e7_5 e7_6 e7_7))))
(k0 v5))
theorem zt93 {β : Type} (N : Nat)  (v0 : Int) (v1 : Int) (v2 : Int) (v3 : Int) (v4 : Int) (v5 : List Int) (rec_ : Int → Int → Int → Int → Int → List Int → Option β) (k0 : List Int → Option β) : zj93 N v0 v1 v2 v3 v4 v5 rec_ k0 = zb93 N (zj84 N) (zj92 N) v0 v1 v2 v3 v4 v5 rec_ k0 := by
  unfold zj93 zb93
  rfl
theorem vst202_0_0 {β : Type} (N : Nat) (zq79 : (a0 : Int) → (a1 : Int) → (k : Int → Option β) → Option β) (zq84 : (a0 : Int) → (a1 : Int) → (a2 : Int) → (a3 : Int) → (k : Bool → Option β) → Option β) (zq94 : Nat → Int → Int → Int → Int → Int → List Int → (List Int → Option β) → Option β) (zq92 : Nat → Int → Int → Bool → Int → Int → Int → Int → Int → List Int → (Int → Int → Bool → Int → Int → Int → Int → List Int → Option β) → Option β)  (v0 : Int) (v1 : Int) (v2 : Int) (v3 : Int) (v4 : Int) (v5 : List Int) (rec_ : St → Option β) (K : Exit → St → Option β) :
    ev lay (VE202 N zq79 zq84 zq94 zq92) (retMask Try.f202) (lp Try.f202 0).body (lp Try.f202 0).ex ((lp Try.f202 0).lv (retMask Try.f202)) (h202_0_0  v0 v1 v2 v3 v4 v5) (nextR (fun s' => rec_ (s'.tidy ((lp Try.f202 0).lv (retMask Try.f202)))) K) = zb93 N zq84 zq92  v0 v1 v2 v3 v4 v5 (fun v0 v1 v2 v3 v4 v5 => rec_ (h202_0_0  v0 v1 v2 v3 v4 v5)) (fun y0 => K (.exit 0) (x202_0_0_k0  y0)) := by kernel_rfl
theorem st202_0_0 {β : Type} (N : Nat)  (v0 : Int) (v1 : Int) (v2 : Int) (v3 : Int) (v4 : Int) (v5 : List Int) (rec_ : St → Option β) (K : Exit → St → Option β) :
    ev lay (E202 N) (retMask Try.f202) (lp Try.f202 0).body (lp Try.f202 0).ex ((lp Try.f202 0).lv (retMask Try.f202)) (h202_0_0  v0 v1 v2 v3 v4 v5) (nextR (fun s' => rec_ (s'.tidy ((lp Try.f202 0).lv (retMask Try.f202)))) K) = zj93 N  v0 v1 v2 v3 v4 v5 (fun v0 v1 v2 v3 v4 v5 => rec_ (h202_0_0  v0 v1 v2 v3 v4 v5)) (fun y0 => K (.exit 0) (x202_0_0_k0  y0)) := (vst202_0_0 N (zj79 N) (zj84 N) (zj94 N) (zj92 N) v0 v1 v2 v3 v4 v5 rec_ K).trans (zt93 N  v0 v1 v2 v3 v4 v5 (fun v0 v1 v2 v3 v4 v5 => rec_ (h202_0_0  v0 v1 v2 v3 v4 v5)) (fun y0 => K (.exit 0) (x202_0_0_k0  y0))).symm
theorem ro202_0_0 {β : Type} (N : Nat)  (K : Exit → St → Option β) : ∀ (F : Nat) (v0 : Int) (v1 : Int) (v2 : Int) (v3 : Int) (v4 : Int) (v5 : List Int), (lp Try.f202 0).rounds lay (E202 N) (retMask Try.f202) F (h202_0_0  v0 v1 v2 v3 v4 v5) K = zj94 N  F v0 v1 v2 v3 v4 v5 (fun y0 => K (.exit 0) (x202_0_0_k0  y0)) := by
  intro F
  induction F with
  | zero => intros; rfl
  | succ F ih =>
    intros
    rw [rounds_next]
    refine (st202_0_0 N  _ _ _ _ _ _ (fun s => (lp Try.f202 0).rounds lay (E202 N) (retMask Try.f202) F s K) K).trans ?_
    simp only [ih]
    rfl
theorem lk202_0 {β : Type} (N : Nat) : lookL (E202 (β := β) N).loops (lp Try.f202 0).id = LS202_0 N := by kernel_rfl
theorem rk202_0 {β : Type} (N : Nat) : RoundsOK lay (E202 (β := β) N) (retMask Try.f202) (lp Try.f202 0) := by
  intro s K r h
  rw [lk202_0] at h
  unfold LS202_0 VLS202_0 at h
  cases hb : shpSt (h202_0_0 0 0 0 0 0 []) s with
  | true =>
    rw [hb, cond_true] at h
    exact ⟨N, by rw [← shpSt_ref hb, fl202_0_0 s]; exact (ro202_0_0 N  K N (intS (oneA (vT (nx tund s.tmps 1)))) (intS (oneA (vT (nx tund s.tmps 10)))) (intS (oneA (vT (nx tund s.tmps 11)))) (intS (nx .und (cellsB (nx .dead s.blks 0)) 0)) (intS (nx .und (cellsB (nx .dead s.blks 0)) 1)) (rInts (rowB_ (nx .dead s.blks 1)))).trans h⟩
  | false =>
  rw [hb, cond_false] at h
  clear hb
  cases h
def zb91 {β : Type} (N : Nat) (zq84 : (a0 : Int) → (a1 : Int) → (a2 : Int) → (a3 : Int) → (k : Bool → Option β) → Option β)  (v0 : Int) (v1 : Int) (v2 : Bool) (v3 : Int) (v4 : Int) (v5 : Int) (v6 : Int) (v7 : Int) (v8 : List Int) (rec_ : Int → Int → Bool → Int → Int → Int → Int → Int → List Int → Option β) (k0 : Int → Int → Bool → Int → Int → Int → Int → List Int → Option β) : Option β :=
(cond v2
((cond ((decide (v3 > 0)))
(zq84 v6 v7 v0 v3 fun r6 =>
rec_ v0 v1 (!r6) ((bits .and .i64 (w64 (v3 - 1)) v1)) v4 v5 v6 v7 v8)
(k0 v0 v1 v2 v4 v5 v6 v7 v8)))
(k0 v0 v1 v2 v4 v5 v6 v7 v8))
theorem zt91 {β : Type} (N : Nat)  (v0 : Int) (v1 : Int) (v2 : Bool) (v3 : Int) (v4 : Int) (v5 : Int) (v6 : Int) (v7 : Int) (v8 : List Int) (rec_ : Int → Int → Bool → Int → Int → Int → Int → Int → List Int → Option β) (k0 : Int → Int → Bool → Int → Int → Int → Int → List Int → Option β) : zj91 N v0 v1 v2 v3 v4 v5 v6 v7 v8 rec_ k0 = zb91 N (zj84 N) v0 v1 v2 v3 v4 v5 v6 v7 v8 rec_ k0 := by
  unfold zj91 zb91
  rfl
theorem vst202_1_0 {β : Type} (N : Nat) (zq79 : (a0 : Int) → (a1 : Int) → (k : Int → Option β) → Option β) (zq84 : (a0 : Int) → (a1 : Int) → (a2 : Int) → (a3 : Int) → (k : Bool → Option β) → Option β) (zq94 : Nat → Int → Int → Int → Int → Int → List Int → (List Int → Option β) → Option β) (zq92 : Nat → Int → Int → Bool → Int → Int → Int → Int → Int → List Int → (Int → Int → Bool → Int → Int → Int → Int → List Int → Option β) → Option β)  (v0 : Int) (v1 : Int) (v2 : Bool) (v3 : Int) (v4 : Int) (v5 : Int) (v6 : Int) (v7 : Int) (v8 : List Int) (rec_ : St → Option β) (K : Exit → St → Option β) :
    ev lay (VE202 N zq79 zq84 zq94 zq92) (retMask Try.f202) (lp Try.f202 1).body (lp Try.f202 1).ex ((lp Try.f202 1).lv (retMask Try.f202)) (h202_1_0  v0 v1 v2 v3 v4 v5 v6 v7 v8) (nextR (fun s' => rec_ (s'.tidy ((lp Try.f202 1).lv (retMask Try.f202)))) K) = zb91 N zq84  v0 v1 v2 v3 v4 v5 v6 v7 v8 (fun v0 v1 v2 v3 v4 v5 v6 v7 v8 => rec_ (h202_1_0  v0 v1 v2 v3 v4 v5 v6 v7 v8)) (fun y0 y1 y2 y3 y4 y5 y6 y7 => K (.exit 2) (x202_1_0_k0  y0 y1 y2 y3 y4 y5 y6 y7)) := by kernel_rfl
theorem st202_1_0 {β : Type} (N : Nat)  (v0 : Int) (v1 : Int) (v2 : Bool) (v3 : Int) (v4 : Int) (v5 : Int) (v6 : Int) (v7 : Int) (v8 : List Int) (rec_ : St → Option β) (K : Exit → St → Option β) :
    ev lay (E202 N) (retMask Try.f202) (lp Try.f202 1).body (lp Try.f202 1).ex ((lp Try.f202 1).lv (retMask Try.f202)) (h202_1_0  v0 v1 v2 v3 v4 v5 v6 v7 v8) (nextR (fun s' => rec_ (s'.tidy ((lp Try.f202 1).lv (retMask Try.f202)))) K) = zj91 N  v0 v1 v2 v3 v4 v5 v6 v7 v8 (fun v0 v1 v2 v3 v4 v5 v6 v7 v8 => rec_ (h202_1_0  v0 v1 v2 v3 v4 v5 v6 v7 v8)) (fun y0 y1 y2 y3 y4 y5 y6 y7 => K (.exit 2) (x202_1_0_k0  y0 y1 y2 y3 y4 y5 y6 y7)) := (vst202_1_0 N (zj79 N) (zj84 N) (zj94 N) (zj92 N) v0 v1 v2 v3 v4 v5 v6 v7 v8 rec_ K).trans (zt91 N  v0 v1 v2 v3 v4 v5 v6 v7 v8 (fun v0 v1 v2 v3 v4 v5 v6 v7 v8 => rec_ (h202_1_0  v0 v1 v2 v3 v4 v5 v6 v7 v8)) (fun y0 y1 y2 y3 y4 y5 y6 y7 => K (.exit 2) (x202_1_0_k0  y0 y1 y2 y3 y4 y5 y6 y7))).symm
theorem ro202_1_0 {β : Type} (N : Nat)  (K : Exit → St → Option β) : ∀ (F : Nat) (v0 : Int) (v1 : Int) (v2 : Bool) (v3 : Int) (v4 : Int) (v5 : Int) (v6 : Int) (v7 : Int) (v8 : List Int), (lp Try.f202 1).rounds lay (E202 N) (retMask Try.f202) F (h202_1_0  v0 v1 v2 v3 v4 v5 v6 v7 v8) K = zj92 N  F v0 v1 v2 v3 v4 v5 v6 v7 v8 (fun y0 y1 y2 y3 y4 y5 y6 y7 => K (.exit 2) (x202_1_0_k0  y0 y1 y2 y3 y4 y5 y6 y7)) := by
  intro F
  induction F with
  | zero => intros; rfl
  | succ F ih =>
    intros
    rw [rounds_next]
    refine (st202_1_0 N  _ _ _ _ _ _ _ _ _ (fun s => (lp Try.f202 1).rounds lay (E202 N) (retMask Try.f202) F s K) K).trans ?_
    simp only [ih]
    rfl
theorem lk202_2 {β : Type} (N : Nat) : lookL (E202 (β := β) N).loops (lp Try.f202 1).id = LS202_2 N := by kernel_rfl
theorem rk202_2 {β : Type} (N : Nat) : RoundsOK lay (E202 (β := β) N) (retMask Try.f202) (lp Try.f202 1) := by
  intro s K r h
  rw [lk202_2] at h
  unfold LS202_2 VLS202_2 at h
  cases hb : shpSt (h202_1_0 0 0 false 0 0 0 0 0 []) s with
  | true =>
    rw [hb, cond_true] at h
    exact ⟨N, by rw [← shpSt_ref hb, fl202_1_0 s]; exact (ro202_1_0 N  K N (intS (oneA (vT (nx tund s.tmps 1)))) (intS (oneA (vT (nx tund s.tmps 6)))) (boolS (oneA (vT (nx tund s.tmps 7)))) (intS (oneA (vT (nx tund s.tmps 8)))) (intS (oneA (vT (nx tund s.tmps 10)))) (intS (oneA (vT (nx tund s.tmps 11)))) (intS (nx .und (cellsB (nx .dead s.blks 0)) 0)) (intS (nx .und (cellsB (nx .dead s.blks 0)) 1)) (rInts (rowB_ (nx .dead s.blks 1)))).trans h⟩
  | false =>
  rw [hb, cond_false] at h
  clear hb
  cases h
def zb95 {β : Type} (N : Nat) (zq79 : (a0 : Int) → (a1 : Int) → (k : Int → Option β) → Option β) (zq94 : Nat → Int → Int → Int → Int → Int → List Int → (List Int → Option β) → Option β) (a0 : Int) (a1 : Int) (a2 : Int) (k : List Int → Option β) : Option β :=
zq79 a0 a1 fun r4 =>
zq94  N a2 r4 0 a0 a1 (([] : List Int)) (fun e8_0 =>
k e8_0)
theorem zt95 {β : Type} (N : Nat) (a0 : Int) (a1 : Int) (a2 : Int) (k : List Int → Option β) : zj95 N a0 a1 a2 k = zb95 N (zj79 N) (zj94 N) a0 a1 a2 k := by
  unfold zj95 zb95
  rfl
theorem ve202_0 {β : Type} (N : Nat) (zq79 : (a0 : Int) → (a1 : Int) → (k : Int → Option β) → Option β) (zq84 : (a0 : Int) → (a1 : Int) → (a2 : Int) → (a3 : Int) → (k : Bool → Option β) → Option β) (zq94 : Nat → Int → Int → Int → Int → Int → List Int → (List Int → Option β) → Option β) (zq92 : Nat → Int → Int → Bool → Int → Int → Int → Int → Int → List Int → (Int → Int → Bool → Int → Int → Int → Int → List Int → Option β) → Option β)  (a0 : Int) (a1 : Int) (a2 : Int) (K : TV → Option β) : evFn lay (VE202 N zq79 zq84 zq94 zq92) Try.f202 [.v (.agg [.int .i64 a0, .int .i64 a1]), .v (.one (.int .i64 a2))] K = zb95 N zq79 zq94 a0 a1 a2 (fun z3 => K (.v (.one (.sl 3 (.ints .i64 z3))))) := by kernel_rfl
theorem e202_0 {β : Type} (N : Nat)  (a0 : Int) (a1 : Int) (a2 : Int) (K : TV → Option β) : evFn lay (E202 N) Try.f202 [.v (.agg [.int .i64 a0, .int .i64 a1]), .v (.one (.int .i64 a2))] K = zj95 N a0 a1 a2 (fun z3 => K (.v (.one (.sl 3 (.ints .i64 z3))))) := (ve202_0 N (zj79 N) (zj84 N) (zj94 N) (zj92 N) a0 a1 a2 K).trans (zt95 N a0 a1 a2 (fun z3 => K (.v (.one (.sl 3 (.ints .i64 z3)))))).symm
theorem o202 {β : Type} (N : Nat) : SpecOK (β := β) inv Try.prog 202 (S202 N) := by
  refine spec_of lay_ok mixed (E := E202 N) (specs_loops (specs_cons (o96 N) (specs_cons (o201 N) specs_nil))) muts_nil gs_nil Try.func202 (by kernel_rfl) 2 (by kernel_rfl) ⟨⟨trivial, rk202_0 N⟩, rk202_2 N⟩ fun args K r h => ?_
  unfold S202 VS202 at h
  split at h
  · exact (e202_0 N _ _ _ _).trans h
  · cases h
def VS173 {β : Type} (N : Nat) (zq100 : (a0 : Int) → (a1 : Int) → (a2 : Int) → (k : Int → Option β) → Option β) : Rv.Spec β := fun args K => match args with
  | [.v (.agg [.int .i64 a0, .int .i64 a1]), .v (.one (.int .i64 a2))] => zq100 a0 a1 a2 (fun z3 => K (.v (.one (.int .i64 z3))))
  | _ => none
def S173 {β : Type} (N : Nat) : Rv.Spec β := VS173 N (zj100 N)
def h173_0_0  (v0 : Int) (v1 : Int) (v2 : Int) (v3 : Int) (v4 : List Int) (v5 : List Int) : St := ⟨tund :: tund :: .v (.one (.ptr 0 0)) :: tund :: tund :: .v (.one (.row 1)) :: .v (.one (.row 2)) :: tund :: tund :: tund :: tund :: tund :: tund :: tund :: tund :: tund :: tund :: .v (.one (.int .i64 v0)) :: .v (.one (.int .i64 v1)) :: tund :: tund :: tund :: tund :: tund :: tund :: tund :: tund :: tund :: tund :: tund :: tund :: tund :: tund :: tund :: tund :: tund :: tund :: tund :: tund :: tund :: tund :: tund :: tund :: tund :: tund :: tund :: tund :: tund :: tund :: tund :: tund :: tund :: tund :: tund :: [], [.cells 27 [.int .i64 v2, .int .i64 v3], .row 3 (.ints .i64 v4), .row 3 (.ints .i64 v5)]⟩
def x173_0_0_k0  (y0 : Int) (y1 : Int) (y2 : List Int) : St := ⟨tund :: tund :: .v (.one (.ptr 0 0)) :: tund :: tund :: tund :: .v (.one (.row 1)) :: tund :: tund :: tund :: tund :: tund :: tund :: tund :: tund :: tund :: tund :: tund :: tund :: tund :: tund :: tund :: tund :: tund :: tund :: tund :: tund :: tund :: tund :: tund :: tund :: tund :: tund :: tund :: tund :: tund :: tund :: tund :: tund :: tund :: tund :: tund :: tund :: tund :: tund :: tund :: tund :: tund :: tund :: tund :: tund :: tund :: tund :: tund :: [], [.cells 27 [.int .i64 y0, .int .i64 y1], .row 3 (.ints .i64 y2)]⟩
def h173_1_0  (v0 : Int) (v1 : Int) (v2 : Int) (v3 : Int) (v4 : Int) (v5 : Int) (v6 : Int) (v7 : List Int) (v8 : List Int) : St := ⟨tund :: tund :: .v (.one (.ptr 0 0)) :: tund :: tund :: .v (.one (.row 1)) :: .v (.one (.row 2)) :: .v (.one (.int .i64 v0)) :: tund :: tund :: tund :: tund :: tund :: tund :: tund :: tund :: tund :: .v (.one (.int .i64 v1)) :: .v (.one (.int .i64 v2)) :: tund :: tund :: .v (.one (.row 1)) :: .v (.one (.int .i64 v3)) :: .v (.one (.int .i64 v4)) :: tund :: tund :: tund :: tund :: tund :: tund :: tund :: tund :: tund :: tund :: tund :: tund :: tund :: tund :: tund :: tund :: tund :: tund :: tund :: tund :: tund :: tund :: tund :: tund :: tund :: tund :: tund :: tund :: tund :: tund :: [], [.cells 27 [.int .i64 v5, .int .i64 v6], .row 3 (.ints .i64 v7), .row 3 (.ints .i64 v8)]⟩
def x173_1_0_k0  (y0 : Int) (y1 : Int) (y2 : Int) (y3 : Int) (y4 : List Int) (y5 : List Int) : St := ⟨tund :: tund :: .v (.one (.ptr 0 0)) :: tund :: tund :: .v (.one (.row 1)) :: .v (.one (.row 2)) :: tund :: tund :: tund :: tund :: tund :: tund :: tund :: tund :: tund :: tund :: .v (.one (.int .i64 y0)) :: .v (.one (.int .i64 y1)) :: tund :: tund :: tund :: tund :: tund :: tund :: tund :: tund :: tund :: tund :: tund :: tund :: tund :: tund :: tund :: tund :: tund :: tund :: tund :: tund :: tund :: tund :: tund :: tund :: tund :: tund :: tund :: tund :: tund :: tund :: tund :: tund :: tund :: tund :: tund :: [], [.cells 27 [.int .i64 y2, .int .i64 y3], .row 3 (.ints .i64 y4), .row 3 (.ints .i64 y5)]⟩
theorem fl173_0_0 (s : St) : refSt (h173_0_0 0 0 0 0 [] []) s = h173_0_0 (intS (oneA (vT (nx tund s.tmps 17)))) (intS (oneA (vT (nx tund s.tmps 18)))) (intS (nx .und (cellsB (nx .dead s.blks 0)) 0)) (intS (nx .und (cellsB (nx .dead s.blks 0)) 1)) (rInts (rowB_ (nx .dead s.blks 1))) (rInts (rowB_ (nx .dead s.blks 2))) := by kernel_rfl
def VLS173_0 {β : Type} (N : Nat) (zq99 : Nat → Int → Int → Int → Int → List Int → List Int → (Int → Int → List Int → Option β) → Option β) : LSpec β := fun s K => cond (shpSt (h173_0_0 0 0 0 0 [] []) s) ((fun (v0 : Int) (v1 : Int) (v2 : Int) (v3 : Int) (v4 : List Int) (v5 : List Int) => zq99  N v0 v1 v2 v3 v4 v5 (fun y0 y1 y2 => K (.exit 0) (x173_0_0_k0  y0 y1 y2))) (intS (oneA (vT (nx tund s.tmps 17)))) (intS (oneA (vT (nx tund s.tmps 18)))) (intS (nx .und (cellsB (nx .dead s.blks 0)) 0)) (intS (nx .und (cellsB (nx .dead s.blks 0)) 1)) (rInts (rowB_ (nx .dead s.blks 1))) (rInts (rowB_ (nx .dead s.blks 2)))) (none)
def LS173_0 {β : Type} (N : Nat) : LSpec β := VLS173_0 N (zj99 N)
theorem fl173_1_0 (s : St) : refSt (h173_1_0 0 0 0 0 0 0 0 [] []) s = h173_1_0 (intS (oneA (vT (nx tund s.tmps 7)))) (intS (oneA (vT (nx tund s.tmps 17)))) (intS (oneA (vT (nx tund s.tmps 18)))) (intS (oneA (vT (nx tund s.tmps 22)))) (intS (oneA (vT (nx tund s.tmps 23)))) (intS (nx .und (cellsB (nx .dead s.blks 0)) 0)) (intS (nx .und (cellsB (nx .dead s.blks 0)) 1)) (rInts (rowB_ (nx .dead s.blks 1))) (rInts (rowB_ (nx .dead s.blks 2))) := by kernel_rfl
def VLS173_2 {β : Type} (N : Nat) (zq97 : Nat → Int → Int → Int → Int → Int → Int → Int → List Int → List Int → (Int → Int → Int → Int → List Int → List Int → Option β) → Option β) : LSpec β := fun s K => cond (shpSt (h173_1_0 0 0 0 0 0 0 0 [] []) s) ((fun (v0 : Int) (v1 : Int) (v2 : Int) (v3 : Int) (v4 : Int) (v5 : Int) (v6 : Int) (v7 : List Int) (v8 : List Int) => zq97  N v0 v1 v2 v3 v4 v5 v6 v7 v8 (fun y0 y1 y2 y3 y4 y5 => K (.exit 2) (x173_1_0_k0  y0 y1 y2 y3 y4 y5))) (intS (oneA (vT (nx tund s.tmps 7)))) (intS (oneA (vT (nx tund s.tmps 17)))) (intS (oneA (vT (nx tund s.tmps 18)))) (intS (oneA (vT (nx tund s.tmps 22)))) (intS (oneA (vT (nx tund s.tmps 23)))) (intS (nx .und (cellsB (nx .dead s.blks 0)) 0)) (intS (nx .und (cellsB (nx .dead s.blks 0)) 1)) (rInts (rowB_ (nx .dead s.blks 1))) (rInts (rowB_ (nx .dead s.blks 2)))) (none)
def LS173_2 {β : Type} (N : Nat) : LSpec β := VLS173_2 N (zj97 N)
def VE173 {β : Type} (N : Nat) (zq95 : (a0 : Int) → (a1 : Int) → (a2 : Int) → (k : List Int → Option β) → Option β) (zq79 : (a0 : Int) → (a1 : Int) → (k : Int → Option β) → Option β) (zq99 : Nat → Int → Int → Int → Int → List Int → List Int → (Int → Int → List Int → Option β) → Option β) (zq97 : Nat → Int → Int → Int → Int → Int → Int → Int → List Int → List Int → (Int → Int → Int → Int → List Int → List Int → Option β) → Option β) : Env β := ⟨[(202, VS202 N zq95), (96, VS96 N zq79)], [], [(0, VLS173_0 N zq99), (2, VLS173_2 N zq97)], [], ⟨[], [], [], [61]⟩⟩
def E173 {β : Type} (N : Nat) : Env β := VE173 N (zj95 N) (zj79 N) (zj99 N) (zj97 N)
def zb98 {β : Type} (N : Nat) (zq97 : Nat → Int → Int → Int → Int → Int → Int → Int → List Int → List Int → (Int → Int → Int → Int → List Int → List Int → Option β) → Option β)  (v0 : Int) (v1 : Int) (v2 : Int) (v3 : Int) (v4 : List Int) (v5 : List Int) (rec_ : Int → Int → Int → Int → List Int → List Int → Option β) (k0 : Int → Int → List Int → Option β) : Option β :=
(cond ((decide (v1 < v0)))
(zq97  N v1 v0 v1 ((v4.length : Int)) 0 v2 v3 v4 v5 (fun e6_0 e6_1 e6_2 e6_3 e6_4 e6_5 =>
rec_ e6_0 ((w64 (e6_1 + 1))) e6_2 e6_3 e6_4 e6_5))
(k0 v2 v3 v5))
theorem zt98 {β : Type} (N : Nat)  (v0 : Int) (v1 : Int) (v2 : Int) (v3 : Int) (v4 : List Int) (v5 : List Int) (rec_ : Int → Int → Int → Int → List Int → List Int → Option β) (k0 : Int → Int → List Int → Option β) : zj98 N v0 v1 v2 v3 v4 v5 rec_ k0 = zb98 N (zj97 N) v0 v1 v2 v3 v4 v5 rec_ k0 := by
  unfold zj98 zb98
  rfl
theorem vst173_0_0 {β : Type} (N : Nat) (zq95 : (a0 : Int) → (a1 : Int) → (a2 : Int) → (k : List Int → Option β) → Option β) (zq79 : (a0 : Int) → (a1 : Int) → (k : Int → Option β) → Option β) (zq99 : Nat → Int → Int → Int → Int → List Int → List Int → (Int → Int → List Int → Option β) → Option β) (zq97 : Nat → Int → Int → Int → Int → Int → Int → Int → List Int → List Int → (Int → Int → Int → Int → List Int → List Int → Option β) → Option β)  (v0 : Int) (v1 : Int) (v2 : Int) (v3 : Int) (v4 : List Int) (v5 : List Int) (rec_ : St → Option β) (K : Exit → St → Option β) :
    ev lay (VE173 N zq95 zq79 zq99 zq97) (retMask Try.f173) (lp Try.f173 0).body (lp Try.f173 0).ex ((lp Try.f173 0).lv (retMask Try.f173)) (h173_0_0  v0 v1 v2 v3 v4 v5) (nextR (fun s' => rec_ (s'.tidy ((lp Try.f173 0).lv (retMask Try.f173)))) K) = zb98 N zq97  v0 v1 v2 v3 v4 v5 (fun v0 v1 v2 v3 v4 v5 => rec_ (h173_0_0  v0 v1 v2 v3 v4 v5)) (fun y0 y1 y2 => K (.exit 0) (x173_0_0_k0  y0 y1 y2)) := by kernel_rfl
theorem st173_0_0 {β : Type} (N : Nat)  (v0 : Int) (v1 : Int) (v2 : Int) (v3 : Int) (v4 : List Int) (v5 : List Int) (rec_ : St → Option β) (K : Exit → St → Option β) :
    ev lay (E173 N) (retMask Try.f173) (lp Try.f173 0).body (lp Try.f173 0).ex ((lp Try.f173 0).lv (retMask Try.f173)) (h173_0_0  v0 v1 v2 v3 v4 v5) (nextR (fun s' => rec_ (s'.tidy ((lp Try.f173 0).lv (retMask Try.f173)))) K) = zj98 N  v0 v1 v2 v3 v4 v5 (fun v0 v1 v2 v3 v4 v5 => rec_ (h173_0_0  v0 v1 v2 v3 v4 v5)) (fun y0 y1 y2 => K (.exit 0) (x173_0_0_k0  y0 y1 y2)) := (vst173_0_0 N (zj95 N) (zj79 N) (zj99 N) (zj97 N) v0 v1 v2 v3 v4 v5 rec_ K).trans (zt98 N  v0 v1 v2 v3 v4 v5 (fun v0 v1 v2 v3 v4 v5 => rec_ (h173_0_0  v0 v1 v2 v3 v4 v5)) (fun y0 y1 y2 => K (.exit 0) (x173_0_0_k0  y0 y1 y2))).symm
theorem ro173_0_0 {β : Type} (N : Nat)  (K : Exit → St → Option β) : ∀ (F : Nat) (v0 : Int) (v1 : Int) (v2 : Int) (v3 : Int) (v4 : List Int) (v5 : List Int), (lp Try.f173 0).rounds lay (E173 N) (retMask Try.f173) F (h173_0_0  v0 v1 v2 v3 v4 v5) K = zj99 N  F v0 v1 v2 v3 v4 v5 (fun y0 y1 y2 => K (.exit 0) (x173_0_0_k0  y0 y1 y2)) := by
  intro F
  induction F with
  | zero => intros; rfl
  | succ F ih =>
    intros
    rw [rounds_next]
    refine (st173_0_0 N  _ _ _ _ _ _ (fun s => (lp Try.f173 0).rounds lay (E173 N) (retMask Try.f173) F s K) K).trans ?_
    simp only [ih]
    rfl
theorem lk173_0 {β : Type} (N : Nat) : lookL (E173 (β := β) N).loops (lp Try.f173 0).id = LS173_0 N := by kernel_rfl
theorem rk173_0 {β : Type} (N : Nat) : RoundsOK lay (E173 (β := β) N) (retMask Try.f173) (lp Try.f173 0) := by
  intro s K r h
  rw [lk173_0] at h
  unfold LS173_0 VLS173_0 at h
  cases hb : shpSt (h173_0_0 0 0 0 0 [] []) s with
  | true =>
    rw [hb, cond_true] at h
    exact ⟨N, by rw [← shpSt_ref hb, fl173_0_0 s]; exact (ro173_0_0 N  K N (intS (oneA (vT (nx tund s.tmps 17)))) (intS (oneA (vT (nx tund s.tmps 18)))) (intS (nx .und (cellsB (nx .dead s.blks 0)) 0)) (intS (nx .und (cellsB (nx .dead s.blks 0)) 1)) (rInts (rowB_ (nx .dead s.blks 1))) (rInts (rowB_ (nx .dead s.blks 2)))).trans h⟩
  | false =>
  rw [hb, cond_false] at h
  clear hb
  cases h
def zb96 {β : Type} (N : Nat)  (v0 : Int) (v1 : Int) (v2 : Int) (v3 : Int) (v4 : Int) (v5 : Int) (v6 : Int) (v7 : List Int) (v8 : List Int) (rec_ : Int → Int → Int → Int → Int → Int → Int → List Int → List Int → Option β) (k0 : Int → Int → Int → Int → List Int → List Int → Option β) : Option β :=
(cond ((decide (v4 < v3)))
((gd ((decide (0 ≤ v4)))
((gd ((decide (v4 < (v7.length : Int))))
((cond (((bits .andNot .i64 (rd 0 v7 v4) v0) == 0))
((gd ((decide (0 ≤ v0)))
((gd ((decide (v0 < (v8.length : Int))))
((gd ((decide (0 ≤ (bits .andNot .i64 v0 (rd 0 v7 v4)))))
((gd ((decide ((bits .andNot .i64 v0 (rd 0 v7 v4)) < (v8.length : Int))))
((gd ((decide (0 ≤ v0)))
((gd ((decide (v0 < (v8.length : Int))))
(rec_ v0 v1 v2 v3 ((w64 (v4 + 1))) v5 v6 v7 ((wr v8 v0 (mxI (rd 0 v8 v0) (w64 (1 + (rd 0 v8 (bits .andNot .i64 v0 (rd 0 v7 v4)))))))))))))))))))))
(rec_ v0 v1 v2 v3 ((w64 (v4 + 1))) v5 v6 v7 v8)))))))
(k0 v1 v2 v5 v6 v7 v8))
theorem zt96 {β : Type} (N : Nat)  (v0 : Int) (v1 : Int) (v2 : Int) (v3 : Int) (v4 : Int) (v5 : Int) (v6 : Int) (v7 : List Int) (v8 : List Int) (rec_ : Int → Int → Int → Int → Int → Int → Int → List Int → List Int → Option β) (k0 : Int → Int → Int → Int → List Int → List Int → Option β) : zj96 N v0 v1 v2 v3 v4 v5 v6 v7 v8 rec_ k0 = zb96 N v0 v1 v2 v3 v4 v5 v6 v7 v8 rec_ k0 := by
  unfold zj96 zb96
  rfl
theorem vst173_1_0 {β : Type} (N : Nat) (zq95 : (a0 : Int) → (a1 : Int) → (a2 : Int) → (k : List Int → Option β) → Option β) (zq79 : (a0 : Int) → (a1 : Int) → (k : Int → Option β) → Option β) (zq99 : Nat → Int → Int → Int → Int → List Int → List Int → (Int → Int → List Int → Option β) → Option β) (zq97 : Nat → Int → Int → Int → Int → Int → Int → Int → List Int → List Int → (Int → Int → Int → Int → List Int → List Int → Option β) → Option β)  (v0 : Int) (v1 : Int) (v2 : Int) (v3 : Int) (v4 : Int) (v5 : Int) (v6 : Int) (v7 : List Int) (v8 : List Int) (rec_ : St → Option β) (K : Exit → St → Option β) :
    ev lay (VE173 N zq95 zq79 zq99 zq97) (retMask Try.f173) (lp Try.f173 1).body (lp Try.f173 1).ex ((lp Try.f173 1).lv (retMask Try.f173)) (h173_1_0  v0 v1 v2 v3 v4 v5 v6 v7 v8) (nextR (fun s' => rec_ (s'.tidy ((lp Try.f173 1).lv (retMask Try.f173)))) K) = zb96 N  v0 v1 v2 v3 v4 v5 v6 v7 v8 (fun v0 v1 v2 v3 v4 v5 v6 v7 v8 => rec_ (h173_1_0  v0 v1 v2 v3 v4 v5 v6 v7 v8)) (fun y0 y1 y2 y3 y4 y5 => K (.exit 2) (x173_1_0_k0  y0 y1 y2 y3 y4 y5)) := by kernel_rfl
theorem st173_1_0 {β : Type} (N : Nat)  (v0 : Int) (v1 : Int) (v2 : Int) (v3 : Int) (v4 : Int) (v5 : Int) (v6 : Int) (v7 : List Int) (v8 : List Int) (rec_ : St → Option β) (K : Exit → St → Option β) :
    ev lay (E173 N) (retMask Try.f173) (lp Try.f173 1).body (lp Try.f173 1).ex ((lp Try.f173 1).lv (retMask Try.f173)) (h173_1_0  v0 v1 v2 v3 v4 v5 v6 v7 v8) (nextR (fun s' => rec_ (s'.tidy ((lp Try.f173 1).lv (retMask Try.f173)))) K) = zj96 N  v0 v1 v2 v3 v4 v5 v6 v7 v8 (fun v0 v1 v2 v3 v4 v5 v6 v7 v8 => rec_ (h173_1_0  v0 v1 v2 v3 v4 v5 v6 v7 v8)) (fun y0 y1 y2 y3 y4 y5 => K (.exit 2) (x173_1_0_k0  y0 y1 y2 y3 y4 y5)) := (vst173_1_0 N (zj95 N) (zj79 N) (zj99 N) (zj97 N) v0 v1 v2 v3 v4 v5 v6 v7 v8 rec_ K).trans (zt96 N  v0 v1 v2 v3 v4 v5 v6 v7 v8 (fun v0 v1 v2 v3 v4 v5 v6 v7 v8 => rec_ (h173_1_0  v0 v1 v2 v3 v4 v5 v6 v7 v8)) (fun y0 y1 y2 y3 y4 y5 => K (.exit 2) (x173_1_0_k0  y0 y1 y2 y3 y4 y5))).symm
theorem ro173_1_0 {β : Type} (N : Nat)  (K : Exit → St → Option β) : ∀ (F : Nat) (v0 : Int) (v1 : Int) (v2 : Int) (v3 : Int) (v4 : Int) (v5 : Int) (v6 : Int) (v7 : List Int) (v8 : List Int), (lp Try.f173 1).rounds lay (E173 N) (retMask Try.f173) F (h173_1_0  v0 v1 v2 v3 v4 v5 v6 v7 v8) K = zj97 N  F v0 v1 v2 v3 v4 v5 v6 v7 v8 (fun y0 y1 y2 y3 y4 y5 => K (.exit 2) (x173_1_0_k0  y0 y1 y2 y3 y4 y5)) := by
  intro F
  induction F with
  | zero => intros; rfl
  | succ F ih =>
    intros
    rw [rounds_next]
    refine (st173_1_0 N  _ _ _ _ _ _ _ _ _ (fun s => (lp Try.f173 1).rounds lay (E173 N) (retMask Try.f173) F s K) K).trans ?_
    simp only [ih]
    rfl
theorem lk173_2 {β : Type} (N : Nat) : lookL (E173 (β := β) N).loops (lp Try.f173 1).id = LS173_2 N := by kernel_rfl
theorem rk173_2 {β : Type} (N : Nat) : RoundsOK lay (E173 (β := β) N) (retMask Try.f173) (lp Try.f173 1) := by
  intro s K r h
  rw [lk173_2] at h
  unfold LS173_2 VLS173_2 at h
  cases hb : shpSt (h173_1_0 0 0 0 0 0 0 0 [] []) s with
  | true =>
    rw [hb, cond_true] at h
    exact ⟨N, by rw [← shpSt_ref hb, fl173_1_0 s]; exact (ro173_1_0 N  K N (intS (oneA (vT (nx tund s.tmps 7)))) (intS (oneA (vT (nx tund s.tmps 17)))) (intS (oneA (vT (nx tund s.tmps 18)))) (intS (oneA (vT (nx tund s.tmps 22)))) (intS (oneA (vT (nx tund s.tmps 23)))) (intS (nx .und (cellsB (nx .dead s.blks 0)) 0)) (intS (nx .und (cellsB (nx .dead s.blks 0)) 1)) (rInts (rowB_ (nx .dead s.blks 1))) (rInts (rowB_ (nx .dead s.blks 2)))).trans h⟩
  | false =>
  rw [hb, cond_false] at h
  clear hb
  cases h
def zb100 {β : Type} (N : Nat) (zq95 : (a0 : Int) → (a1 : Int) → (a2 : Int) → (k : List Int → Option β) → Option β) (zq79 : (a0 : Int) → (a1 : Int) → (k : Int → Option β) → Option β) (zq99 : Nat → Int → Int → Int → Int → List Int → List Int → (Int → Int → List Int → Option β) → Option β) (a0 : Int) (a1 : Int) (a2 : Int) (k : Int → Option β) : Option β :=
zq95 a0 a1 a2 fun r4 =>
zq79 a0 a1 fun r5 =>
(gd ((decide (0 ≤ r5)))
((gd ((decide (r5 ≤ r5)))
((gd ((decide (8 * r5 ≤ 281474976710656)))
(zq99  N ((((List.replicate (Int.toNat r5) (0 : Int))).length : Int)) 0 a0 a1 r4 ((List.replicate (Int.toNat r5) (0 : Int))) (fun e7_0 e7_1 e7_2 =>
zq79 e7_0 e7_1 fun r8 =>
(gd ((decide (0 ≤ (w64 (r8 - 1)))))
((gd ((decide ((w64 (r8 - 1)) < (e7_2.length : Int))))
(k ((rd 0 e7_2 (w64 (r8 - 1)))))))))))))))
theorem zt100 {β : Type} (N : Nat) (a0 : Int) (a1 : Int) (a2 : Int) (k : Int → Option β) : zj100 N a0 a1 a2 k = zb100 N (zj95 N) (zj79 N) (zj99 N) a0 a1 a2 k := by
  unfold zj100 zb100
  rfl
theorem ve173_0 {β : Type} (N : Nat) (zq95 : (a0 : Int) → (a1 : Int) → (a2 : Int) → (k : List Int → Option β) → Option β) (zq79 : (a0 : Int) → (a1 : Int) → (k : Int → Option β) → Option β) (zq99 : Nat → Int → Int → Int → Int → List Int → List Int → (Int → Int → List Int → Option β) → Option β) (zq97 : Nat → Int → Int → Int → Int → Int → Int → Int → List Int → List Int → (Int → Int → Int → Int → List Int → List Int → Option β) → Option β)  (a0 : Int) (a1 : Int) (a2 : Int) (K : TV → Option β) : evFn lay (VE173 N zq95 zq79 zq99 zq97) Try.f173 [.v (.agg [.int .i64 a0, .int .i64 a1]), .v (.one (.int .i64 a2))] K = zb100 N zq95 zq79 zq99 a0 a1 a2 (fun z3 => K (.v (.one (.int .i64 z3)))) := by kernel_rfl
theorem e173_0 {β : Type} (N : Nat)  (a0 : Int) (a1 : Int) (a2 : Int) (K : TV → Option β) : evFn lay (E173 N) Try.f173 [.v (.agg [.int .i64 a0, .int .i64 a1]), .v (.one (.int .i64 a2))] K = zj100 N a0 a1 a2 (fun z3 => K (.v (.one (.int .i64 z3)))) := (ve173_0 N (zj95 N) (zj79 N) (zj99 N) (zj97 N) a0 a1 a2 K).trans (zt100 N a0 a1 a2 (fun z3 => K (.v (.one (.int .i64 z3))))).symm
theorem o173 {β : Type} (N : Nat) : SpecOK (β := β) inv Try.prog 173 (S173 N) := by
  refine spec_of lay_ok mixed (E := E173 N) (specs_loops (specs_cons (o202 N) (specs_cons (o96 N) specs_nil))) muts_nil gs_nil Try.func173 (by kernel_rfl) 2 (by kernel_rfl) ⟨⟨trivial, rk173_0 N⟩, rk173_2 N⟩ fun args K r h => ?_
  unfold S173 VS173 at h
  split at h
  · exact (e173_0 N _ _ _ _).trans h
  · cases h
end Go.Proofs.Ytfdggelojmofmaa
