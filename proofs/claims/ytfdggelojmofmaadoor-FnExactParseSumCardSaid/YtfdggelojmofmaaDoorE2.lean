/- The functions that the claims reach answer as their texts do. -/
import Derived.Test.YtfdggelojmofmaaDoorE1
namespace Go.Proofs.YtfdggelojmofmaaDoor
open Go.Rv
set_option maxRecDepth 100000
set_option maxHeartbeats 2000000
set_option linter.unusedVariables false
def VS20 {β : Type} (N : Nat) (q_laws_eqTermS : (a0 : List (Int × Int)) → (a1 : List (Int × Int)) → (k : Bool → Option β) → Option β) : Rv.Spec β := fun args K => match args with
  | [.v (.one (.sl 52 (.pairs a0))), .v (.one (.sl 52 (.pairs a1)))] => q_laws_eqTermS a0 a1 (fun z2 => K (.v (.one (.bool z2))))
  | _ => none
def S20 {β : Type} (N : Nat) : Rv.Spec β := VS20 N (laws_eqTermS N)
def h20_0_0  (v0 : List (Int × Int)) (v1 : List (Int × Int)) (v2 : Int) : St := ⟨.v (.one (.sl 52 (.pairs v0))) :: .v (.one (.sl 52 (.pairs v1))) :: .v (.one .und) :: .v (.one .und) :: .v (.one .und) :: .v (.one (.int .i64 v2)) :: .v (.one .und) :: .v (.one .und) :: .v (.one .und) :: .v (.one .und) :: .v (.one .und) :: .v (.one .und) :: .v (.one .und) :: .v (.one .und) :: .v (.one .und) :: .v (.one .und) :: .v (.one .und) :: .v (.one .und) :: .v (.one .und) :: .v (.one .und) :: .v (.one .und) :: .v (.one .und) :: .v (.one .und) :: .v (.one .und) :: .v (.one .und) :: .v (.one .und) :: .v (.one .und) :: [], []⟩
def x20_0_0_k0  (y0 : Bool) : St := ⟨.v (.one .und) :: .v (.one .und) :: .v (.one .und) :: .v (.one .und) :: .v (.one (.bool y0)) :: .v (.one .und) :: .v (.one .und) :: .v (.one .und) :: .v (.one .und) :: .v (.one .und) :: .v (.one .und) :: .v (.one .und) :: .v (.one .und) :: .v (.one .und) :: .v (.one .und) :: .v (.one .und) :: .v (.one .und) :: .v (.one .und) :: .v (.one .und) :: .v (.one .und) :: .v (.one .und) :: .v (.one .und) :: .v (.one .und) :: .v (.one .und) :: .v (.one .und) :: .v (.one .und) :: .v (.one .und) :: [], []⟩
def x20_0_0_k1   : St := ⟨.v (.one .und) :: .v (.one .und) :: .v (.one .und) :: .v (.one .und) :: .v (.one .und) :: .v (.one .und) :: .v (.one .und) :: .v (.one .und) :: .v (.one .und) :: .v (.one .und) :: .v (.one .und) :: .v (.one .und) :: .v (.one .und) :: .v (.one .und) :: .v (.one .und) :: .v (.one .und) :: .v (.one .und) :: .v (.one .und) :: .v (.one .und) :: .v (.one .und) :: .v (.one .und) :: .v (.one .und) :: .v (.one .und) :: .v (.one .und) :: .v (.one .und) :: .v (.one .und) :: .v (.one .und) :: [], []⟩
theorem fl20_0_0 (s : St) : refSt (h20_0_0 [] [] 0) s = h20_0_0 (rPairs (rowV (oneA (vT (nx tund s.tmps 0))))) (rPairs (rowV (oneA (vT (nx tund s.tmps 1))))) (intS (oneA (vT (nx tund s.tmps 5)))) := by kernel_rfl
def VLS20_0 {β : Type} (N : Nat) (q_laws_eqTermS_l0 : Nat → List (Int × Int) → List (Int × Int) → Int → (Bool → Option β) → (Option β) → Option β) : LSpec β := fun s K => cond (shpSt (h20_0_0 [] [] 0) s) ((fun (v0 : List (Int × Int)) (v1 : List (Int × Int)) (v2 : Int) => q_laws_eqTermS_l0  N v0 v1 v2 (fun y0 => K .ret (x20_0_0_k0  y0)) (K (.exit 0) (x20_0_0_k1  ))) (rPairs (rowV (oneA (vT (nx tund s.tmps 0))))) (rPairs (rowV (oneA (vT (nx tund s.tmps 1))))) (intS (oneA (vT (nx tund s.tmps 5))))) (none)
def LS20_0 {β : Type} (N : Nat) : LSpec β := VLS20_0 N (laws_eqTermS_l0 N)
def VE20 {β : Type} (N : Nat) (q_laws_eqTerm : (a0 : Int) → (a1 : Int) → (a2 : Int) → (a3 : Int) → (k : Bool → Option β) → Option β) (q_laws_eqTermS_l0 : Nat → List (Int × Int) → List (Int × Int) → Int → (Bool → Option β) → (Option β) → Option β) : Env β := ⟨[(50, VS50 N q_laws_eqTerm)], [], [(0, VLS20_0 N q_laws_eqTermS_l0)], [], ⟨[], [], [], []⟩⟩
def E20 {β : Type} (N : Nat) : Env β := VE20 N (laws_eqTerm N) (laws_eqTermS_l0 N)
def BV_laws_eqTermS_l0b {β : Type} (N : Nat) (q_laws_eqTerm : (a0 : Int) → (a1 : Int) → (a2 : Int) → (a3 : Int) → (k : Bool → Option β) → Option β)  (v0 : List (Int × Int)) (v1 : List (Int × Int)) (v2 : Int) (rec_ : List (Int × Int) → List (Int × Int) → Int → Option β) (k0 : Bool → Option β) (k1 : Option β) : Option β :=
(cond ((decide (v2 < (v0.length : Int))))
((gd ((decide (0 ≤ v2)))
((gd ((decide (v2 < (v0.length : Int))))
((gd ((decide (0 ≤ v2)))
((gd ((decide (v2 < (v1.length : Int))))
(q_laws_eqTerm ((rd (0, 0) v0 v2).1) ((rd (0, 0) v0 v2).2) ((rd (0, 0) v1 v2).1) ((rd (0, 0) v1 v2).2) fun r3 =>
(cond (!r3)
(k0 false)
(rec_ v0 v1 ((w64 (v2 + 1))))))))))))))
(k1 ))
theorem t_laws_eqTermS_l0b {β : Type} (N : Nat)  (v0 : List (Int × Int)) (v1 : List (Int × Int)) (v2 : Int) (rec_ : List (Int × Int) → List (Int × Int) → Int → Option β) (k0 : Bool → Option β) (k1 : Option β) : laws_eqTermS_l0b N v0 v1 v2 rec_ k0 k1 = BV_laws_eqTermS_l0b N (laws_eqTerm N) v0 v1 v2 rec_ k0 k1 := by
  unfold laws_eqTermS_l0b BV_laws_eqTermS_l0b
  rfl
theorem vst20_0_0 {β : Type} (N : Nat) (q_laws_eqTerm : (a0 : Int) → (a1 : Int) → (a2 : Int) → (a3 : Int) → (k : Bool → Option β) → Option β) (q_laws_eqTermS_l0 : Nat → List (Int × Int) → List (Int × Int) → Int → (Bool → Option β) → (Option β) → Option β)  (v0 : List (Int × Int)) (v1 : List (Int × Int)) (v2 : Int) (rec_ : St → Option β) (K : Exit → St → Option β) :
    ev lay (VE20 N q_laws_eqTerm q_laws_eqTermS_l0) (retMask Tryd.f20) (lp Tryd.f20 0).body (lp Tryd.f20 0).ex ((lp Tryd.f20 0).lv (retMask Tryd.f20)) (h20_0_0  v0 v1 v2) (nextR (fun s' => rec_ (s'.tidy ((lp Tryd.f20 0).lv (retMask Tryd.f20)))) K) = BV_laws_eqTermS_l0b N q_laws_eqTerm  v0 v1 v2 (fun v0 v1 v2 => rec_ (h20_0_0  v0 v1 v2)) (fun y0 => K .ret (x20_0_0_k0  y0)) (K (.exit 0) (x20_0_0_k1  )) := by kernel_rfl
theorem st20_0_0 {β : Type} (N : Nat)  (v0 : List (Int × Int)) (v1 : List (Int × Int)) (v2 : Int) (rec_ : St → Option β) (K : Exit → St → Option β) :
    ev lay (E20 N) (retMask Tryd.f20) (lp Tryd.f20 0).body (lp Tryd.f20 0).ex ((lp Tryd.f20 0).lv (retMask Tryd.f20)) (h20_0_0  v0 v1 v2) (nextR (fun s' => rec_ (s'.tidy ((lp Tryd.f20 0).lv (retMask Tryd.f20)))) K) = laws_eqTermS_l0b N  v0 v1 v2 (fun v0 v1 v2 => rec_ (h20_0_0  v0 v1 v2)) (fun y0 => K .ret (x20_0_0_k0  y0)) (K (.exit 0) (x20_0_0_k1  )) := (vst20_0_0 N (laws_eqTerm N) (laws_eqTermS_l0 N) v0 v1 v2 rec_ K).trans (t_laws_eqTermS_l0b N  v0 v1 v2 (fun v0 v1 v2 => rec_ (h20_0_0  v0 v1 v2)) (fun y0 => K .ret (x20_0_0_k0  y0)) (K (.exit 0) (x20_0_0_k1  ))).symm
theorem ro20_0_0 {β : Type} (N : Nat)  (K : Exit → St → Option β) : ∀ (F : Nat) (v0 : List (Int × Int)) (v1 : List (Int × Int)) (v2 : Int), (lp Tryd.f20 0).rounds lay (E20 N) (retMask Tryd.f20) F (h20_0_0  v0 v1 v2) K = laws_eqTermS_l0 N  F v0 v1 v2 (fun y0 => K .ret (x20_0_0_k0  y0)) (K (.exit 0) (x20_0_0_k1  )) := by
  intro F
  induction F with
  | zero => intros; rfl
  | succ F ih =>
    intros
    rw [rounds_next]
    refine (st20_0_0 N  _ _ _ (fun s => (lp Tryd.f20 0).rounds lay (E20 N) (retMask Tryd.f20) F s K) K).trans ?_
    simp only [ih]
    rfl
theorem lk20_0 {β : Type} (N : Nat) : lookL (E20 (β := β) N).loops (lp Tryd.f20 0).id = LS20_0 N := by kernel_rfl
theorem rk20_0 {β : Type} (N : Nat) : RoundsOK lay (E20 (β := β) N) (retMask Tryd.f20) (lp Tryd.f20 0) := by
  intro s K r h
  rw [lk20_0] at h
  unfold LS20_0 VLS20_0 at h
  cases hb : shpSt (h20_0_0 [] [] 0) s with
  | true =>
    rw [hb, cond_true] at h
    exact ⟨N, by rw [← shpSt_ref hb, fl20_0_0 s]; exact (ro20_0_0 N  K N (rPairs (rowV (oneA (vT (nx tund s.tmps 0))))) (rPairs (rowV (oneA (vT (nx tund s.tmps 1))))) (intS (oneA (vT (nx tund s.tmps 5))))).trans h⟩
  | false =>
  rw [hb, cond_false] at h
  clear hb
  cases h
def BV_laws_eqTermS {β : Type} (N : Nat) (q_laws_eqTermS_l0 : Nat → List (Int × Int) → List (Int × Int) → Int → (Bool → Option β) → (Option β) → Option β) (a0 : List (Int × Int)) (a1 : List (Int × Int)) (k : Bool → Option β) : Option β :=
(cond (((a0.length : Int) != (a1.length : Int)))
(k false)
(q_laws_eqTermS_l0  N a0 a1 0 (fun e4_0 =>
k e4_0) (k true)))
theorem t_laws_eqTermS {β : Type} (N : Nat) (a0 : List (Int × Int)) (a1 : List (Int × Int)) (k : Bool → Option β) : laws_eqTermS N a0 a1 k = BV_laws_eqTermS N (laws_eqTermS_l0 N) a0 a1 k := by
  unfold laws_eqTermS BV_laws_eqTermS
  rfl
theorem ve20_0 {β : Type} (N : Nat) (q_laws_eqTerm : (a0 : Int) → (a1 : Int) → (a2 : Int) → (a3 : Int) → (k : Bool → Option β) → Option β) (q_laws_eqTermS_l0 : Nat → List (Int × Int) → List (Int × Int) → Int → (Bool → Option β) → (Option β) → Option β)  (a0 : List (Int × Int)) (a1 : List (Int × Int)) (K : TV → Option β) : evFn lay (VE20 N q_laws_eqTerm q_laws_eqTermS_l0) Tryd.f20 [.v (.one (.sl 52 (.pairs a0))), .v (.one (.sl 52 (.pairs a1)))] K = BV_laws_eqTermS N q_laws_eqTermS_l0 a0 a1 (fun z2 => K (.v (.one (.bool z2)))) := by kernel_rfl
theorem e20_0 {β : Type} (N : Nat)  (a0 : List (Int × Int)) (a1 : List (Int × Int)) (K : TV → Option β) : evFn lay (E20 N) Tryd.f20 [.v (.one (.sl 52 (.pairs a0))), .v (.one (.sl 52 (.pairs a1)))] K = laws_eqTermS N a0 a1 (fun z2 => K (.v (.one (.bool z2)))) := (ve20_0 N (laws_eqTerm N) (laws_eqTermS_l0 N) a0 a1 K).trans (t_laws_eqTermS N a0 a1 (fun z2 => K (.v (.one (.bool z2))))).symm
theorem o20 {β : Type} (N : Nat) : SpecOK (β := β) inv Tryd.prog 20 (S20 N) := by
  refine spec_of lay_ok mixed (E := E20 N) (specs_loops (specs_cons (o50 N) specs_nil)) muts_nil gs_nil Tryd.func20 (by kernel_rfl) 1 (by kernel_rfl) ⟨trivial, rk20_0 N⟩ fun args K r h => ?_
  unfold S20 VS20 at h
  split at h
  · exact (e20_0 N _ _ _).trans h
  · cases h
def VS22 {β : Type} (N : Nat) (q_laws_heldTermS : (a0 : List (Int × Int)) → (a1 : Int) → (k : Int → Option β) → Option β) : Rv.Spec β := fun args K => match args with
  | [.v (.one (.sl 52 (.pairs a0))), .v (.one (.int .i64 a1))] => q_laws_heldTermS a0 a1 (fun z2 => K (.v (.one (.int .i64 z2))))
  | _ => none
def S22 {β : Type} (N : Nat) : Rv.Spec β := VS22 N (laws_heldTermS N)
def h22_0_0  (v0 : List (Int × Int)) (v1 : Int) (v2 : Int) : St := ⟨.v (.one (.sl 52 (.pairs v0))) :: .v (.one (.int .i64 v1)) :: .v (.one .und) :: .v (.one .und) :: .v (.one .und) :: .v (.one (.int .i64 v2)) :: .v (.one .und) :: .v (.one .und) :: .v (.one .und) :: .v (.one .und) :: .v (.one .und) :: .v (.one .und) :: .v (.one .und) :: .v (.one .und) :: .v (.one .und) :: .v (.one .und) :: .v (.one .und) :: .v (.one .und) :: .v (.one .und) :: .v (.one .und) :: .v (.one .und) :: .v (.one .und) :: .v (.one .und) :: .v (.one .und) :: .v (.one .und) :: .v (.one .und) :: .v (.one .und) :: .v (.one .und) :: .v (.one .und) :: .v (.one .und) :: .v (.one .und) :: [], []⟩
def x22_0_0_k0  (y0 : Int) : St := ⟨.v (.one .und) :: .v (.one .und) :: .v (.one .und) :: .v (.one .und) :: .v (.one (.int .i64 y0)) :: .v (.one .und) :: .v (.one .und) :: .v (.one .und) :: .v (.one .und) :: .v (.one .und) :: .v (.one .und) :: .v (.one .und) :: .v (.one .und) :: .v (.one .und) :: .v (.one .und) :: .v (.one .und) :: .v (.one .und) :: .v (.one .und) :: .v (.one .und) :: .v (.one .und) :: .v (.one .und) :: .v (.one .und) :: .v (.one .und) :: .v (.one .und) :: .v (.one .und) :: .v (.one .und) :: .v (.one .und) :: .v (.one .und) :: .v (.one .und) :: .v (.one .und) :: .v (.one .und) :: [], []⟩
def x22_0_0_k1  (y0 : Int) : St := ⟨.v (.one .und) :: .v (.one (.int .i64 y0)) :: .v (.one .und) :: .v (.one .und) :: .v (.one .und) :: .v (.one .und) :: .v (.one .und) :: .v (.one .und) :: .v (.one .und) :: .v (.one .und) :: .v (.one .und) :: .v (.one .und) :: .v (.one .und) :: .v (.one .und) :: .v (.one .und) :: .v (.one .und) :: .v (.one .und) :: .v (.one .und) :: .v (.one .und) :: .v (.one .und) :: .v (.one .und) :: .v (.one .und) :: .v (.one .und) :: .v (.one .und) :: .v (.one .und) :: .v (.one .und) :: .v (.one .und) :: .v (.one .und) :: .v (.one .und) :: .v (.one .und) :: .v (.one .und) :: [], []⟩
theorem fl22_0_0 (s : St) : refSt (h22_0_0 [] 0 0) s = h22_0_0 (rPairs (rowV (oneA (vT (nx tund s.tmps 0))))) (intS (oneA (vT (nx tund s.tmps 1)))) (intS (oneA (vT (nx tund s.tmps 5)))) := by kernel_rfl
def VLS22_0 {β : Type} (N : Nat) (q_laws_heldTermS_l0 : Nat → List (Int × Int) → Int → Int → (Int → Option β) → (Int → Option β) → Option β) : LSpec β := fun s K => cond (shpSt (h22_0_0 [] 0 0) s) ((fun (v0 : List (Int × Int)) (v1 : Int) (v2 : Int) => q_laws_heldTermS_l0  N v0 v1 v2 (fun y0 => K .ret (x22_0_0_k0  y0)) (fun y0 => K (.exit 0) (x22_0_0_k1  y0))) (rPairs (rowV (oneA (vT (nx tund s.tmps 0))))) (intS (oneA (vT (nx tund s.tmps 1)))) (intS (oneA (vT (nx tund s.tmps 5))))) (none)
def LS22_0 {β : Type} (N : Nat) : LSpec β := VLS22_0 N (laws_heldTermS_l0 N)
def VE22 {β : Type} (N : Nat) (q_laws_heldTermS_l0 : Nat → List (Int × Int) → Int → Int → (Int → Option β) → (Int → Option β) → Option β) : Env β := ⟨[], [], [(0, VLS22_0 N q_laws_heldTermS_l0)], [], ⟨[], [], [], []⟩⟩
def E22 {β : Type} (N : Nat) : Env β := VE22 N (laws_heldTermS_l0 N)
def BV_laws_heldTermS_l0b {β : Type} (N : Nat)  (v0 : List (Int × Int)) (v1 : Int) (v2 : Int) (rec_ : List (Int × Int) → Int → Int → Option β) (k0 : Int → Option β) (k1 : Int → Option β) : Option β :=
(cond ((decide (v2 < (v0.length : Int))))
((gd ((decide (0 ≤ v2)))
((gd ((decide (v2 < (v0.length : Int))))
((cond (((rd (0, 0) v0 v2).1 != v1))
(k0 (-1))
((gd ((decide (0 ≤ v2)))
((gd ((decide (v2 < (v0.length : Int))))
((cond (((rd (0, 0) v0 v2).2 != (w64 (v1 + 1))))
(k0 (-1))
(rec_ v0 ((w64 ((w64 (v1 + 1)) + 1))) ((w64 (v2 + 1))))))))))))))))
(k1 v1))
theorem t_laws_heldTermS_l0b {β : Type} (N : Nat)  (v0 : List (Int × Int)) (v1 : Int) (v2 : Int) (rec_ : List (Int × Int) → Int → Int → Option β) (k0 : Int → Option β) (k1 : Int → Option β) : laws_heldTermS_l0b N v0 v1 v2 rec_ k0 k1 = BV_laws_heldTermS_l0b N v0 v1 v2 rec_ k0 k1 := by
  unfold laws_heldTermS_l0b BV_laws_heldTermS_l0b
  rfl
theorem vst22_0_0 {β : Type} (N : Nat) (q_laws_heldTermS_l0 : Nat → List (Int × Int) → Int → Int → (Int → Option β) → (Int → Option β) → Option β)  (v0 : List (Int × Int)) (v1 : Int) (v2 : Int) (rec_ : St → Option β) (K : Exit → St → Option β) :
    ev lay (VE22 N q_laws_heldTermS_l0) (retMask Tryd.f22) (lp Tryd.f22 0).body (lp Tryd.f22 0).ex ((lp Tryd.f22 0).lv (retMask Tryd.f22)) (h22_0_0  v0 v1 v2) (nextR (fun s' => rec_ (s'.tidy ((lp Tryd.f22 0).lv (retMask Tryd.f22)))) K) = BV_laws_heldTermS_l0b N  v0 v1 v2 (fun v0 v1 v2 => rec_ (h22_0_0  v0 v1 v2)) (fun y0 => K .ret (x22_0_0_k0  y0)) (fun y0 => K (.exit 0) (x22_0_0_k1  y0)) := by kernel_rfl
theorem st22_0_0 {β : Type} (N : Nat)  (v0 : List (Int × Int)) (v1 : Int) (v2 : Int) (rec_ : St → Option β) (K : Exit → St → Option β) :
    ev lay (E22 N) (retMask Tryd.f22) (lp Tryd.f22 0).body (lp Tryd.f22 0).ex ((lp Tryd.f22 0).lv (retMask Tryd.f22)) (h22_0_0  v0 v1 v2) (nextR (fun s' => rec_ (s'.tidy ((lp Tryd.f22 0).lv (retMask Tryd.f22)))) K) = laws_heldTermS_l0b N  v0 v1 v2 (fun v0 v1 v2 => rec_ (h22_0_0  v0 v1 v2)) (fun y0 => K .ret (x22_0_0_k0  y0)) (fun y0 => K (.exit 0) (x22_0_0_k1  y0)) := (vst22_0_0 N (laws_heldTermS_l0 N) v0 v1 v2 rec_ K).trans (t_laws_heldTermS_l0b N  v0 v1 v2 (fun v0 v1 v2 => rec_ (h22_0_0  v0 v1 v2)) (fun y0 => K .ret (x22_0_0_k0  y0)) (fun y0 => K (.exit 0) (x22_0_0_k1  y0))).symm
theorem ro22_0_0 {β : Type} (N : Nat)  (K : Exit → St → Option β) : ∀ (F : Nat) (v0 : List (Int × Int)) (v1 : Int) (v2 : Int), (lp Tryd.f22 0).rounds lay (E22 N) (retMask Tryd.f22) F (h22_0_0  v0 v1 v2) K = laws_heldTermS_l0 N  F v0 v1 v2 (fun y0 => K .ret (x22_0_0_k0  y0)) (fun y0 => K (.exit 0) (x22_0_0_k1  y0)) := by
  intro F
  induction F with
  | zero => intros; rfl
  | succ F ih =>
    intros
    rw [rounds_next]
    refine (st22_0_0 N  _ _ _ (fun s => (lp Tryd.f22 0).rounds lay (E22 N) (retMask Tryd.f22) F s K) K).trans ?_
    simp only [ih]
    rfl
theorem lk22_0 {β : Type} (N : Nat) : lookL (E22 (β := β) N).loops (lp Tryd.f22 0).id = LS22_0 N := by kernel_rfl
theorem rk22_0 {β : Type} (N : Nat) : RoundsOK lay (E22 (β := β) N) (retMask Tryd.f22) (lp Tryd.f22 0) := by
  intro s K r h
  rw [lk22_0] at h
  unfold LS22_0 VLS22_0 at h
  cases hb : shpSt (h22_0_0 [] 0 0) s with
  | true =>
    rw [hb, cond_true] at h
    exact ⟨N, by rw [← shpSt_ref hb, fl22_0_0 s]; exact (ro22_0_0 N  K N (rPairs (rowV (oneA (vT (nx tund s.tmps 0))))) (intS (oneA (vT (nx tund s.tmps 1)))) (intS (oneA (vT (nx tund s.tmps 5))))).trans h⟩
  | false =>
  rw [hb, cond_false] at h
  clear hb
  cases h
def BV_laws_heldTermS {β : Type} (N : Nat) (q_laws_heldTermS_l0 : Nat → List (Int × Int) → Int → Int → (Int → Option β) → (Int → Option β) → Option β) (a0 : List (Int × Int)) (a1 : Int) (k : Int → Option β) : Option β :=
q_laws_heldTermS_l0  N a0 a1 0 (fun e3_0 =>
k e3_0) (fun e4_0 =>
k e4_0)
theorem t_laws_heldTermS {β : Type} (N : Nat) (a0 : List (Int × Int)) (a1 : Int) (k : Int → Option β) : laws_heldTermS N a0 a1 k = BV_laws_heldTermS N (laws_heldTermS_l0 N) a0 a1 k := by
  unfold laws_heldTermS BV_laws_heldTermS
  rfl
theorem ve22_0 {β : Type} (N : Nat) (q_laws_heldTermS_l0 : Nat → List (Int × Int) → Int → Int → (Int → Option β) → (Int → Option β) → Option β)  (a0 : List (Int × Int)) (a1 : Int) (K : TV → Option β) : evFn lay (VE22 N q_laws_heldTermS_l0) Tryd.f22 [.v (.one (.sl 52 (.pairs a0))), .v (.one (.int .i64 a1))] K = BV_laws_heldTermS N q_laws_heldTermS_l0 a0 a1 (fun z2 => K (.v (.one (.int .i64 z2)))) := by kernel_rfl
theorem e22_0 {β : Type} (N : Nat)  (a0 : List (Int × Int)) (a1 : Int) (K : TV → Option β) : evFn lay (E22 N) Tryd.f22 [.v (.one (.sl 52 (.pairs a0))), .v (.one (.int .i64 a1))] K = laws_heldTermS N a0 a1 (fun z2 => K (.v (.one (.int .i64 z2)))) := (ve22_0 N (laws_heldTermS_l0 N) a0 a1 K).trans (t_laws_heldTermS N a0 a1 (fun z2 => K (.v (.one (.int .i64 z2))))).symm
theorem o22 {β : Type} (N : Nat) : SpecOK (β := β) inv Tryd.prog 22 (S22 N) := by
  refine spec_of lay_ok mixed (E := E22 N) (specs_loops specs_nil) muts_nil gs_nil Tryd.func22 (by kernel_rfl) 1 (by kernel_rfl) ⟨trivial, rk22_0 N⟩ fun args K r h => ?_
  unfold S22 VS22 at h
  split at h
  · exact (e22_0 N _ _ _).trans h
  · cases h
def VS21 {β : Type} (N : Nat) (q_laws_markTermS : (a0 : List (Int × Int)) → (a1 : Int) → (k : Int → List (Int × Int) → Option β) → Option β) : MSpec β := fun args bl K => match args, bl with
  | [.v (.one (.row 0)), .v (.one (.int .i64 a1))], [.prow 0 52 (.pairs a0)] => q_laws_markTermS a0 a1 (fun z2 m0 => K (.v (.one (.int .i64 z2))) [(.pairs m0)])
  | _, _ => none
def S21 {β : Type} (N : Nat) : MSpec β := VS21 N (laws_markTermS N)
def h21_0_0  (v0 : Int) (v1 : Int) (v2 : List (Int × Int)) : St := ⟨.v (.one (.row 0)) :: .v (.one (.int .i64 v0)) :: .v (.one .und) :: .v (.one .und) :: .v (.one .und) :: .v (.one (.int .i64 v1)) :: .v (.one .und) :: .v (.one .und) :: .v (.one .und) :: .v (.one .und) :: .v (.one .und) :: .v (.one .und) :: .v (.one .und) :: .v (.one .und) :: .v (.one .und) :: .v (.one .und) :: .v (.one .und) :: .v (.one .und) :: .v (.one .und) :: .v (.one .und) :: .v (.one .und) :: .v (.one .und) :: .v (.one .und) :: .v (.one .und) :: .v (.one .und) :: .v (.one .und) :: .v (.one .und) :: [], [.prow 0 52 (.pairs v2)]⟩
def x21_0_0_k0  (y0 : Int) (y1 : List (Int × Int)) : St := ⟨.v (.one (.row 0)) :: .v (.one (.int .i64 y0)) :: .v (.one .und) :: .v (.one .und) :: .v (.one .und) :: .v (.one .und) :: .v (.one .und) :: .v (.one .und) :: .v (.one .und) :: .v (.one .und) :: .v (.one .und) :: .v (.one .und) :: .v (.one .und) :: .v (.one .und) :: .v (.one .und) :: .v (.one .und) :: .v (.one .und) :: .v (.one .und) :: .v (.one .und) :: .v (.one .und) :: .v (.one .und) :: .v (.one .und) :: .v (.one .und) :: .v (.one .und) :: .v (.one .und) :: .v (.one .und) :: .v (.one .und) :: [], [.prow 0 52 (.pairs y1)]⟩
theorem fl21_0_0 (s : St) : refSt (h21_0_0 0 0 []) s = h21_0_0 (intS (oneA (vT (nx tund s.tmps 1)))) (intS (oneA (vT (nx tund s.tmps 5)))) (rPairs (rowB_ (nx .dead s.blks 0))) := by kernel_rfl
def VLS21_0 {β : Type} (N : Nat) (q_laws_markTermS_l0 : Nat → Int → Int → List (Int × Int) → (Int → List (Int × Int) → Option β) → Option β) : LSpec β := fun s K => cond (shpSt (h21_0_0 0 0 []) s) ((fun (v0 : Int) (v1 : Int) (v2 : List (Int × Int)) => q_laws_markTermS_l0  N v0 v1 v2 (fun y0 y1 => K (.exit 0) (x21_0_0_k0  y0 y1))) (intS (oneA (vT (nx tund s.tmps 1)))) (intS (oneA (vT (nx tund s.tmps 5)))) (rPairs (rowB_ (nx .dead s.blks 0)))) (none)
def LS21_0 {β : Type} (N : Nat) : LSpec β := VLS21_0 N (laws_markTermS_l0 N)
def VE21 {β : Type} (N : Nat) (q_laws_markTermS_l0 : Nat → Int → Int → List (Int × Int) → (Int → List (Int × Int) → Option β) → Option β) : Env β := ⟨[], [], [(0, VLS21_0 N q_laws_markTermS_l0)], [], ⟨[], [], [], []⟩⟩
def E21 {β : Type} (N : Nat) : Env β := VE21 N (laws_markTermS_l0 N)
def BV_laws_markTermS_l0b {β : Type} (N : Nat)  (v0 : Int) (v1 : Int) (v2 : List (Int × Int)) (rec_ : Int → Int → List (Int × Int) → Option β) (k0 : Int → List (Int × Int) → Option β) : Option β :=
(cond ((decide (v1 < (v2.length : Int))))
((gd ((decide (0 ≤ v1)))
((gd ((decide (v1 < (v2.length : Int))))
((gd ((decide (0 ≤ v1)))
((gd ((decide (v1 < (((wr v2 v1 (v0, (rd (0, 0) v2 v1).2))).length : Int))))
(rec_ ((w64 ((w64 (v0 + 1)) + 1))) ((w64 (v1 + 1))) ((wr ((wr v2 v1 (v0, (rd (0, 0) v2 v1).2))) v1 ((rd (0, 0) ((wr v2 v1 (v0, (rd (0, 0) v2 v1).2))) v1).1, (w64 (v0 + 1))))))))))))))
(k0 v0 v2))
theorem t_laws_markTermS_l0b {β : Type} (N : Nat)  (v0 : Int) (v1 : Int) (v2 : List (Int × Int)) (rec_ : Int → Int → List (Int × Int) → Option β) (k0 : Int → List (Int × Int) → Option β) : laws_markTermS_l0b N v0 v1 v2 rec_ k0 = BV_laws_markTermS_l0b N v0 v1 v2 rec_ k0 := by
  unfold laws_markTermS_l0b BV_laws_markTermS_l0b
  rfl
theorem vst21_0_0 {β : Type} (N : Nat) (q_laws_markTermS_l0 : Nat → Int → Int → List (Int × Int) → (Int → List (Int × Int) → Option β) → Option β)  (v0 : Int) (v1 : Int) (v2 : List (Int × Int)) (rec_ : St → Option β) (K : Exit → St → Option β) :
    ev lay (VE21 N q_laws_markTermS_l0) (retMaskM Tryd.f21) (lpM Tryd.f21 0).body (lpM Tryd.f21 0).ex ((lpM Tryd.f21 0).lv (retMaskM Tryd.f21)) (h21_0_0  v0 v1 v2) (nextR (fun s' => rec_ (s'.tidy ((lpM Tryd.f21 0).lv (retMaskM Tryd.f21)))) K) = BV_laws_markTermS_l0b N  v0 v1 v2 (fun v0 v1 v2 => rec_ (h21_0_0  v0 v1 v2)) (fun y0 y1 => K (.exit 0) (x21_0_0_k0  y0 y1)) := by kernel_rfl
theorem st21_0_0 {β : Type} (N : Nat)  (v0 : Int) (v1 : Int) (v2 : List (Int × Int)) (rec_ : St → Option β) (K : Exit → St → Option β) :
    ev lay (E21 N) (retMaskM Tryd.f21) (lpM Tryd.f21 0).body (lpM Tryd.f21 0).ex ((lpM Tryd.f21 0).lv (retMaskM Tryd.f21)) (h21_0_0  v0 v1 v2) (nextR (fun s' => rec_ (s'.tidy ((lpM Tryd.f21 0).lv (retMaskM Tryd.f21)))) K) = laws_markTermS_l0b N  v0 v1 v2 (fun v0 v1 v2 => rec_ (h21_0_0  v0 v1 v2)) (fun y0 y1 => K (.exit 0) (x21_0_0_k0  y0 y1)) := (vst21_0_0 N (laws_markTermS_l0 N) v0 v1 v2 rec_ K).trans (t_laws_markTermS_l0b N  v0 v1 v2 (fun v0 v1 v2 => rec_ (h21_0_0  v0 v1 v2)) (fun y0 y1 => K (.exit 0) (x21_0_0_k0  y0 y1))).symm
theorem ro21_0_0 {β : Type} (N : Nat)  (K : Exit → St → Option β) : ∀ (F : Nat) (v0 : Int) (v1 : Int) (v2 : List (Int × Int)), (lpM Tryd.f21 0).rounds lay (E21 N) (retMaskM Tryd.f21) F (h21_0_0  v0 v1 v2) K = laws_markTermS_l0 N  F v0 v1 v2 (fun y0 y1 => K (.exit 0) (x21_0_0_k0  y0 y1)) := by
  intro F
  induction F with
  | zero => intros; rfl
  | succ F ih =>
    intros
    rw [rounds_next]
    refine (st21_0_0 N  _ _ _ (fun s => (lpM Tryd.f21 0).rounds lay (E21 N) (retMaskM Tryd.f21) F s K) K).trans ?_
    simp only [ih]
    rfl
theorem lk21_0 {β : Type} (N : Nat) : lookL (E21 (β := β) N).loops (lpM Tryd.f21 0).id = LS21_0 N := by kernel_rfl
theorem rk21_0 {β : Type} (N : Nat) : RoundsOK lay (E21 (β := β) N) (retMaskM Tryd.f21) (lpM Tryd.f21 0) := by
  intro s K r h
  rw [lk21_0] at h
  unfold LS21_0 VLS21_0 at h
  cases hb : shpSt (h21_0_0 0 0 []) s with
  | true =>
    rw [hb, cond_true] at h
    exact ⟨N, by rw [← shpSt_ref hb, fl21_0_0 s]; exact (ro21_0_0 N  K N (intS (oneA (vT (nx tund s.tmps 1)))) (intS (oneA (vT (nx tund s.tmps 5)))) (rPairs (rowB_ (nx .dead s.blks 0)))).trans h⟩
  | false =>
  rw [hb, cond_false] at h
  clear hb
  cases h
def BV_laws_markTermS {β : Type} (N : Nat) (q_laws_markTermS_l0 : Nat → Int → Int → List (Int × Int) → (Int → List (Int × Int) → Option β) → Option β) (a0 : List (Int × Int)) (a1 : Int) (k : Int → List (Int × Int) → Option β) : Option β :=
q_laws_markTermS_l0  N a1 0 a0 (fun e3_0 e3_1 =>
k e3_0 e3_1)
theorem t_laws_markTermS {β : Type} (N : Nat) (a0 : List (Int × Int)) (a1 : Int) (k : Int → List (Int × Int) → Option β) : laws_markTermS N a0 a1 k = BV_laws_markTermS N (laws_markTermS_l0 N) a0 a1 k := by
  unfold laws_markTermS BV_laws_markTermS
  rfl
theorem ve21_0 {β : Type} (N : Nat) (q_laws_markTermS_l0 : Nat → Int → Int → List (Int × Int) → (Int → List (Int × Int) → Option β) → Option β)  (a0 : List (Int × Int)) (a1 : Int) (K : TV → List Row → Option β) : evFnM lay (VE21 N q_laws_markTermS_l0) Tryd.f21 [.v (.one (.row 0)), .v (.one (.int .i64 a1))] [.prow 0 52 (.pairs a0)] K = BV_laws_markTermS N q_laws_markTermS_l0 a0 a1 (fun z2 m0 => K (.v (.one (.int .i64 z2))) [(.pairs m0)]) := by kernel_rfl
theorem e21_0 {β : Type} (N : Nat)  (a0 : List (Int × Int)) (a1 : Int) (K : TV → List Row → Option β) : evFnM lay (E21 N) Tryd.f21 [.v (.one (.row 0)), .v (.one (.int .i64 a1))] [.prow 0 52 (.pairs a0)] K = laws_markTermS N a0 a1 (fun z2 m0 => K (.v (.one (.int .i64 z2))) [(.pairs m0)]) := (ve21_0 N (laws_markTermS_l0 N) a0 a1 K).trans (t_laws_markTermS N a0 a1 (fun z2 m0 => K (.v (.one (.int .i64 z2))) [(.pairs m0)])).symm
theorem o21 {β : Type} (N : Nat) : MutOK (β := β) inv Tryd.prog 21 (S21 N) := by
  refine mut_of lay_ok mixed (E := E21 N) (specs_loops specs_nil) muts_nil gs_nil Tryd.func21 (by kernel_rfl) 1 (by kernel_rfl) ⟨trivial, rk21_0 N⟩ fun args bl K r h => ?_
  unfold S21 VS21 at h
  split at h
  · exact (e21_0 N _ _ _).trans h
  · cases h
def VS5 {β : Type} (N : Nat) (q_laws_FnExactParseSum : (a0 : Int) → (a1 : ByteArray) → (k : Bool → Option β) → Option β) : Rv.Spec β := fun args K => match args with
  | [.v (.one (.int .i64 a0)), .v (.one (.str a1))] => q_laws_FnExactParseSum a0 a1 (fun z2 => K (.v (.one (.bool z2))))
  | _ => none
def S5 {β : Type} (N : Nat) : Rv.Spec β := VS5 N (laws_FnExactParseSum N)
def VE5 {β : Type} (N : Nat) (q_spec_ParseSum : (a0 : Int) → (a1 : ByteArray) → (k : List (Int × Int) → Bool → Option β) → Option β) (q_impl_ParseSum : (a0 : Int) → (a1 : ByteArray) → (k : List (Int × Int) → Bool → Option β) → Option β) (q_laws_eqTermS : (a0 : List (Int × Int)) → (a1 : List (Int × Int)) → (k : Bool → Option β) → Option β) (q_laws_heldTermS : (a0 : List (Int × Int)) → (a1 : Int) → (k : Int → Option β) → Option β) (q_laws_markTermS : (a0 : List (Int × Int)) → (a1 : Int) → (k : Int → List (Int × Int) → Option β) → Option β) : Env β := ⟨[(18, VS18 N q_spec_ParseSum), (19, VS19 N q_impl_ParseSum), (20, VS20 N q_laws_eqTermS), (22, VS22 N q_laws_heldTermS)], [(21, VS21 N q_laws_markTermS)], [], [], ⟨[], [], [], []⟩⟩
def E5 {β : Type} (N : Nat) : Env β := VE5 N (spec_ParseSum N) (impl_ParseSum N) (laws_eqTermS N) (laws_heldTermS N) (laws_markTermS N)
def BV_laws_FnExactParseSum {β : Type} (N : Nat) (q_spec_ParseSum : (a0 : Int) → (a1 : ByteArray) → (k : List (Int × Int) → Bool → Option β) → Option β) (q_impl_ParseSum : (a0 : Int) → (a1 : ByteArray) → (k : List (Int × Int) → Bool → Option β) → Option β) (q_laws_eqTermS : (a0 : List (Int × Int)) → (a1 : List (Int × Int)) → (k : Bool → Option β) → Option β) (q_laws_markTermS : (a0 : List (Int × Int)) → (a1 : Int) → (k : Int → List (Int × Int) → Option β) → Option β) (q_laws_heldTermS : (a0 : List (Int × Int)) → (a1 : Int) → (k : Int → Option β) → Option β) (a0 : Int) (a1 : ByteArray) (k : Bool → Option β) : Option β :=
(cond ((decide ((a1.size : Int) > 1048576)))
(k true)
(q_spec_ParseSum a0 a1 fun r3 r4 =>
q_impl_ParseSum a0 a1 fun r5 r6 =>
q_laws_eqTermS r5 r3 fun r7 =>
(cond (!r7)
(k false)
((cond ((!(r6 == r4)))
(k false)
(q_laws_markTermS r5 1 fun r8 m9 =>
q_laws_heldTermS m9 1 fun r10 =>
(cond ((decide (r10 < 0)))
(k false)
((cond ((r10 != r8))
(k false)
(q_impl_ParseSum a0 a1 fun r11 r12 =>
q_laws_eqTermS r11 r3 fun r13 =>
(cond (!r13)
(k false)
((cond ((!(r12 == r4)))
(k false)
(q_laws_heldTermS m9 1 fun r14 =>
(cond ((decide (r14 < 0)))
(k false)
((cond ((r14 != r8))
(k false)
(k true))))))))))))))))))
theorem t_laws_FnExactParseSum {β : Type} (N : Nat) (a0 : Int) (a1 : ByteArray) (k : Bool → Option β) : laws_FnExactParseSum N a0 a1 k = BV_laws_FnExactParseSum N (spec_ParseSum N) (impl_ParseSum N) (laws_eqTermS N) (laws_markTermS N) (laws_heldTermS N) a0 a1 k := by
  unfold laws_FnExactParseSum BV_laws_FnExactParseSum
  rfl
theorem ve5_0 {β : Type} (N : Nat) (q_spec_ParseSum : (a0 : Int) → (a1 : ByteArray) → (k : List (Int × Int) → Bool → Option β) → Option β) (q_impl_ParseSum : (a0 : Int) → (a1 : ByteArray) → (k : List (Int × Int) → Bool → Option β) → Option β) (q_laws_eqTermS : (a0 : List (Int × Int)) → (a1 : List (Int × Int)) → (k : Bool → Option β) → Option β) (q_laws_heldTermS : (a0 : List (Int × Int)) → (a1 : Int) → (k : Int → Option β) → Option β) (q_laws_markTermS : (a0 : List (Int × Int)) → (a1 : Int) → (k : Int → List (Int × Int) → Option β) → Option β)  (a0 : Int) (a1 : ByteArray) (K : TV → Option β) : evFn lay (VE5 N q_spec_ParseSum q_impl_ParseSum q_laws_eqTermS q_laws_heldTermS q_laws_markTermS) Tryd.f5 [.v (.one (.int .i64 a0)), .v (.one (.str a1))] K = BV_laws_FnExactParseSum N q_spec_ParseSum q_impl_ParseSum q_laws_eqTermS q_laws_markTermS q_laws_heldTermS a0 a1 (fun z2 => K (.v (.one (.bool z2)))) := by kernel_rfl
theorem e5_0 {β : Type} (N : Nat)  (a0 : Int) (a1 : ByteArray) (K : TV → Option β) : evFn lay (E5 N) Tryd.f5 [.v (.one (.int .i64 a0)), .v (.one (.str a1))] K = laws_FnExactParseSum N a0 a1 (fun z2 => K (.v (.one (.bool z2)))) := (ve5_0 N (spec_ParseSum N) (impl_ParseSum N) (laws_eqTermS N) (laws_heldTermS N) (laws_markTermS N) a0 a1 K).trans (t_laws_FnExactParseSum N a0 a1 (fun z2 => K (.v (.one (.bool z2))))).symm
theorem o5 {β : Type} (N : Nat) : SpecOK (β := β) inv Tryd.prog 5 (S5 N) := by
  refine spec_of lay_ok mixed (E := E5 N) (specs_loops (specs_cons (o18 N) (specs_cons (o19 N) (specs_cons (o20 N) (specs_cons (o22 N) specs_nil))))) (muts_cons (o21 N) muts_nil) gs_nil Tryd.func5 (by kernel_rfl) 0 (by kernel_rfl) trivial fun args K r h => ?_
  unfold S5 VS5 at h
  split at h
  · exact (e5_0 N _ _ _).trans h
  · cases h
end Go.Proofs.YtfdggelojmofmaaDoor
