/- The functions that the claims reach answer as their texts do. -/
import Derived.Test.YtemihnclhcobnaaGreatDoorE1
namespace Go.Proofs.YtemihnclhcobnaaGreatDoor
open Go.Rv
set_option maxRecDepth 100000
set_option maxHeartbeats 2000000
set_option linter.unusedVariables false
variable {β : Type}
variable (zq2 : Y2 β) (zq6 : Y4 β) (zq31 : Y18 β) (zq37 : Y21 β) (zq40 : Y24 β) (zq41 : Y10 β) (zq43 : Y27 β) (zq45 : Y26 β) (zq46 : Y0 β) (zq47 : Y6 β) (zq48 : Y29 β) (zq50 : Y30 β) (zq51 : Y29 β) (zq53 : Y31 β) (zq54 : Y2 β) (zq55 : Y2 β) (zq56 : Y32 β) (zq57 : Y3 β) (zq59 : Y33 β) (zq60 : Y2 β)
def VS90 (N : Nat) : Rv.Spec β := fun args K => match args with
  | [.v (.agg [.int .i64 a0, .int .i64 a1])] => zq46 a0 a1 (fun z2 z3 => K (.tup [.one (.int .i64 z2), .one (.int .i64 z3)]))
  | _ => none
def S90 (N : Nat) : Rv.Spec β := VS90 (zj46 N) N
def h90_0_0 (v0 : Int) (v1 : Int) (v2 : Int) (v3 : Int) (v4 : Int) (v5 : List (List Int)) : St := ⟨tund :: .v (.one (.ptr 0 0)) :: tund :: tund :: .v (.one (.int .i64 v0)) :: .v (.one (.int .i64 v1)) :: .v (.one (.row 1)) :: .v (.one (.int .i64 v2)) :: tn 59 [], [.cells 25 [.int .i64 v3, .int .i64 v4], .row 40 (.lists 3 v5)]⟩
def x90_0_0_k0 (y0 : Int) (y1 : Int) : St := ⟨tn 4 (.v (.one (.int .i64 y0)) :: .v (.one (.int .i64 y1)) :: tn 61 []), []⟩
def h90_1_0 (v0 : Int) (v1 : Int) (v2 : Int) (v3 : Int) (v4 : Int) (v5 : Int) (v6 : List (List Int)) (v7 : Int) (v8 : Int) : St := ⟨tund :: .v (.one (.ptr 0 0)) :: tund :: tund :: .v (.one (.int .i64 v0)) :: .v (.one (.int .i64 v1)) :: .v (.one (.row 1)) :: .v (.one (.int .i64 v2)) :: .v (.one (.ptr 2 0)) :: .v (.one (.int .i64 v3)) :: tn 57 [], [.cells 25 [.int .i64 v4, .int .i64 v5], .row 40 (.lists 3 v6), .cells 25 [.int .i64 v7, .int .i64 v8]]⟩
def x90_1_0_k0 (y0 : Int) (y1 : Int) (y2 : Int) (y3 : Int) (y4 : Int) (y5 : List (List Int)) : St := ⟨tund :: .v (.one (.ptr 0 0)) :: tund :: tund :: .v (.one (.int .i64 y0)) :: .v (.one (.int .i64 y1)) :: .v (.one (.row 1)) :: .v (.one (.int .i64 y2)) :: tn 59 [], [.cells 25 [.int .i64 y3, .int .i64 y4], .row 40 (.lists 3 y5)]⟩
def p90_0_0 {γ : Type} (f : Int → Int → Int → Int → Int → List (List Int) → γ) (s : St) : γ := f (intS (oneA (vT (nx tund s.tmps 4)))) (intS (oneA (vT (nx tund s.tmps 5)))) (intS (oneA (vT (nx tund s.tmps 7)))) (intS (nx .und (cellsB (nx .dead s.blks 0)) 0)) (intS (nx .und (cellsB (nx .dead s.blks 0)) 1)) (rLists (rowB_ (nx .dead s.blks 1)))
theorem fl90_0_0 (s : St) : refSt (h90_0_0 0 0 0 0 0 []) s = p90_0_0 h90_0_0 s := by kernel_rfl
def VLS90_0 (N : Nat) : LSpec β := fun s K => cond (shpSt (h90_0_0 0 0 0 0 0 []) s) (p90_0_0 (fun v0 v1 v2 v3 v4 v5 => zq45 N v0 v1 v2 v3 v4 v5 (fun y0 y1 => K (.exit 0) (x90_0_0_k0 y0 y1))) s) (none)
def LS90_0 (N : Nat) : LSpec β := VLS90_0 (zj45 N) N
def p90_1_0 {γ : Type} (f : Int → Int → Int → Int → Int → Int → List (List Int) → Int → Int → γ) (s : St) : γ := f (intS (oneA (vT (nx tund s.tmps 4)))) (intS (oneA (vT (nx tund s.tmps 5)))) (intS (oneA (vT (nx tund s.tmps 7)))) (intS (oneA (vT (nx tund s.tmps 9)))) (intS (nx .und (cellsB (nx .dead s.blks 0)) 0)) (intS (nx .und (cellsB (nx .dead s.blks 0)) 1)) (rLists (rowB_ (nx .dead s.blks 1))) (intS (nx .und (cellsB (nx .dead s.blks 2)) 0)) (intS (nx .und (cellsB (nx .dead s.blks 2)) 1))
theorem fl90_1_0 (s : St) : refSt (h90_1_0 0 0 0 0 0 0 [] 0 0) s = p90_1_0 h90_1_0 s := by kernel_rfl
def VLS90_2 (N : Nat) : LSpec β := fun s K => cond (shpSt (h90_1_0 0 0 0 0 0 0 [] 0 0) s) ((fun (v0 : Int) (v1 : Int) (v2 : Int) (v3 : Int) (v4 : Int) (v5 : Int) (v6 : List (List Int)) (v7 : Int) (v8 : Int) => zq43 N v0 v1 v2 v3 v4 v5 v6 v7 v8 (fun y0 y1 y2 y3 y4 y5 => K (.exit 2) (x90_1_0_k0 y0 y1 y2 y3 y4 y5))) (intS (oneA (vT (nx tund s.tmps 4)))) (intS (oneA (vT (nx tund s.tmps 5)))) (intS (oneA (vT (nx tund s.tmps 7)))) (intS (oneA (vT (nx tund s.tmps 9)))) (intS (nx .und (cellsB (nx .dead s.blks 0)) 0)) (intS (nx .und (cellsB (nx .dead s.blks 0)) 1)) (rLists (rowB_ (nx .dead s.blks 1))) (intS (nx .und (cellsB (nx .dead s.blks 2)) 0)) (intS (nx .und (cellsB (nx .dead s.blks 2)) 1))) (none)
def LS90_2 (N : Nat) : LSpec β := VLS90_2 (zj43 N) N
def VE90 (N : Nat) : Env β := ⟨[(157, VS157 zq31 N), (158, VS158 zq37 N), (159, VS159 zq40 N), (160, VS160 zq41 N)], [], [(0, VLS90_0 zq45 N), (2, VLS90_2 zq43 N)], [], ⟨[], [], [157], [222]⟩⟩
def E90 (N : Nat) : Env β := VE90 (zj31 N) (zj37 N) (zj40 N) (zj41 N) (zj43 N) (zj45 N) N
theorem vst90_0_0 (N : Nat) (v0 : Int) (v1 : Int) (v2 : Int) (v3 : Int) (v4 : Int) (v5 : List (List Int)) (rec_ : St → O β) (K : Exit → St → O β) :
    stB lay (VE90 zq31 zq37 zq40 zq41 zq43 zq45 N) Tryz.f90 0 (h90_0_0 v0 v1 v2 v3 v4 v5) rec_ K = zb44 zq37 zq43 N v0 v1 v2 v3 v4 v5 (fun v0 v1 v2 v3 v4 v5 => rec_ (h90_0_0 v0 v1 v2 v3 v4 v5)) (fun y0 y1 => K (.exit 0) (x90_0_0_k0 y0 y1)) := by kernel_rfl
theorem ro90_0_0 (N : Nat) (K : Exit → St → O β) : ∀ (F : Nat) (v0 : Int) (v1 : Int) (v2 : Int) (v3 : Int) (v4 : Int) (v5 : List (List Int)), (lp Tryz.f90 0).rounds lay (E90 N) (retMask Tryz.f90) F (h90_0_0 v0 v1 v2 v3 v4 v5) K = zj45 N F v0 v1 v2 v3 v4 v5 (fun y0 y1 => K (.exit 0) (x90_0_0_k0 y0 y1)) := by
  intro F
  induction F with
  | zero => intros; rfl
  | succ F ih =>
    intros
    rw [rounds_next]
    refine (vst90_0_0 (zj31 N) (zj37 N) (zj40 N) (zj41 N) (zj43 N) (zj45 N) N _ _ _ _ _ _ (fun s => (lp Tryz.f90 0).rounds lay (E90 N) (retMask Tryz.f90) F s K) K).trans ?_
    simp only [ih]
    rfl
theorem lk90_0 (N : Nat) : lookL (E90 (β := β) N).loops (lp Tryz.f90 0).id = LS90_0 N := by kernel_rfl
theorem rk90_0 (N : Nat) : RoundsOK lay (E90 (β := β) N) (retMask Tryz.f90) (lp Tryz.f90 0) := by
  intro s K r h
  rw [lk90_0] at h
  unfold LS90_0 VLS90_0 at h
  cases hb : shpSt (h90_0_0 0 0 0 0 0 []) s with
  | true =>
    rw [hb, cond_true] at h
    exact ⟨N, by rw [← shpSt_ref hb, fl90_0_0 s]; unfold p90_0_0 at h ⊢; exact (ro90_0_0 N K N _ _ _ _ _ _).trans h⟩
  | false =>
  rw [hb, cond_false] at h
  clear hb
  cases h
theorem vst90_1_0 (N : Nat) (v0 : Int) (v1 : Int) (v2 : Int) (v3 : Int) (v4 : Int) (v5 : Int) (v6 : List (List Int)) (v7 : Int) (v8 : Int) (rec_ : St → O β) (K : Exit → St → O β) :
    stB lay (VE90 zq31 zq37 zq40 zq41 zq43 zq45 N) Tryz.f90 1 (h90_1_0 v0 v1 v2 v3 v4 v5 v6 v7 v8) rec_ K = zb42 zq40 zq41 N v0 v1 v2 v3 v4 v5 v6 v7 v8 (fun v0 v1 v2 v3 v4 v5 v6 v7 v8 => rec_ (h90_1_0 v0 v1 v2 v3 v4 v5 v6 v7 v8)) (fun y0 y1 y2 y3 y4 y5 => K (.exit 2) (x90_1_0_k0 y0 y1 y2 y3 y4 y5)) := by kernel_rfl
theorem ro90_1_0 (N : Nat) (K : Exit → St → O β) : ∀ (F : Nat) (v0 : Int) (v1 : Int) (v2 : Int) (v3 : Int) (v4 : Int) (v5 : Int) (v6 : List (List Int)) (v7 : Int) (v8 : Int), (lp Tryz.f90 1).rounds lay (E90 N) (retMask Tryz.f90) F (h90_1_0 v0 v1 v2 v3 v4 v5 v6 v7 v8) K = zj43 N F v0 v1 v2 v3 v4 v5 v6 v7 v8 (fun y0 y1 y2 y3 y4 y5 => K (.exit 2) (x90_1_0_k0 y0 y1 y2 y3 y4 y5)) := by
  intro F
  induction F with
  | zero => intros; rfl
  | succ F ih =>
    intros
    rw [rounds_next]
    refine (vst90_1_0 (zj31 N) (zj37 N) (zj40 N) (zj41 N) (zj43 N) (zj45 N) N _ _ _ _ _ _ _ _ _ (fun s => (lp Tryz.f90 1).rounds lay (E90 N) (retMask Tryz.f90) F s K) K).trans ?_
    simp only [ih]
    rfl
theorem lk90_2 (N : Nat) : lookL (E90 (β := β) N).loops (lp Tryz.f90 1).id = LS90_2 N := by kernel_rfl
theorem rk90_2 (N : Nat) : RoundsOK lay (E90 (β := β) N) (retMask Tryz.f90) (lp Tryz.f90 1) := by
  intro s K r h
  rw [lk90_2] at h
  unfold LS90_2 VLS90_2 at h
  cases hb : shpSt (h90_1_0 0 0 0 0 0 0 [] 0 0) s with
  | true =>
    rw [hb, cond_true] at h
    exact ⟨N, by rw [← shpSt_ref hb, fl90_1_0 s]; exact (ro90_1_0 N K N (intS (oneA (vT (nx tund s.tmps 4)))) (intS (oneA (vT (nx tund s.tmps 5)))) (intS (oneA (vT (nx tund s.tmps 7)))) (intS (oneA (vT (nx tund s.tmps 9)))) (intS (nx .und (cellsB (nx .dead s.blks 0)) 0)) (intS (nx .und (cellsB (nx .dead s.blks 0)) 1)) (rLists (rowB_ (nx .dead s.blks 1))) (intS (nx .und (cellsB (nx .dead s.blks 2)) 0)) (intS (nx .und (cellsB (nx .dead s.blks 2)) 1))).trans h⟩
  | false =>
  rw [hb, cond_false] at h
  clear hb
  cases h
theorem ve90_0 (N : Nat) (a0 : Int) (a1 : Int) (K : TV → O β) : evFn lay (VE90 zq31 zq37 zq40 zq41 zq43 zq45 N) Tryz.f90 [.v (.agg [.int .i64 a0, .int .i64 a1])] K = zb46 (zq31 N) zq45 N a0 a1 (fun z2 z3 => K (.tup [.one (.int .i64 z2), .one (.int .i64 z3)])) := by kernel_rfl
theorem o90 (N : Nat) : SpecOK (β := β) inv Tryz.prog 90 (S90 N) := by
  refine spec_of lay_ok mixed (E := E90 N) (specs_loops (specs_cons (o157 N) (specs_cons (o158 N) (specs_cons (o159 N) (specs_cons (o160 N) specs_nil))))) muts_nil gs_nil Tryz.func90 (by kernel_rfl) 2 (by kernel_rfl) ⟨⟨trivial, rk90_0 N⟩, rk90_2 N⟩ fun args K r h => ?_
  unfold S90 VS90 at h
  split at h
  · exact (ve90_0 (zj31 N) (zj37 N) (zj40 N) (zj41 N) (zj43 N) (zj45 N) N _ _ _).trans h
  · cases h
def VS27 (N : Nat) : Rv.Spec β := fun args K => match args with
  | [.v (.agg [.int .i64 a0, .int .i64 a1])] => zq47 a0 a1 (fun z2 z3 z4 => K (.tup [.agg [.int .i64 z2, .int .i64 z3], .one (.bool z4)]))
  | _ => none
def S27 (N : Nat) : Rv.Spec β := VS27 (zj47 N) N
def VE27 (N : Nat) : Env β := ⟨[(20, VS20 zq2 N), (90, VS90 zq46 N)], [], [], [], ⟨[], [], [157], [222]⟩⟩
def E27 (N : Nat) : Env β := VE27 (zj2 N) (zj46 N) N
theorem ve27_0 (N : Nat) (a0 : Int) (a1 : Int) (K : TV → O β) : evFn lay (VE27 zq2 zq46 N) Tryz.f27 [.v (.agg [.int .i64 a0, .int .i64 a1])] K = zb47 zq2 zq46 N a0 a1 (fun z2 z3 z4 => K (.tup [.agg [.int .i64 z2, .int .i64 z3], .one (.bool z4)])) := by kernel_rfl
theorem o27 (N : Nat) : SpecOK (β := β) inv Tryz.prog 27 (S27 N) := by
  refine spec_of lay_ok mixed (E := E27 N) (specs_loops (specs_cons (o20 N) (specs_cons (o90 N) specs_nil))) muts_nil gs_nil Tryz.func27 (by kernel_rfl) 0 (by kernel_rfl) trivial fun args K r h => ?_
  unfold S27 VS27 at h
  split at h
  · exact (ve27_0 (zj2 N) (zj46 N) N _ _ _).trans h
  · cases h
def VS91 (N : Nat) : Rv.Spec β := fun args K => match args with
  | [.v (.agg [.int .i64 a0, .int .i64 a1])] => zq48 a0 a1 (fun z2 => K (.v (.one (.int .i64 z2))))
  | _ => none
def S91 (N : Nat) : Rv.Spec β := VS91 (zj48 N) N
def VE91 (N : Nat) : Env β := ⟨[(20, VS20 zq2 N), (90, VS90 zq46 N)], [], [], [], ⟨[], [], [157], [222]⟩⟩
def E91 (N : Nat) : Env β := VE91 (zj2 N) (zj46 N) N
theorem ve91_0 (N : Nat) (a0 : Int) (a1 : Int) (K : TV → O β) : evFn lay (VE91 zq2 zq46 N) Tryz.f91 [.v (.agg [.int .i64 a0, .int .i64 a1])] K = zb48 zq2 zq46 N a0 a1 (fun z2 => K (.v (.one (.int .i64 z2)))) := by kernel_rfl
theorem o91 (N : Nat) : SpecOK (β := β) inv Tryz.prog 91 (S91 N) := by
  refine spec_of lay_ok mixed (E := E91 N) (specs_loops (specs_cons (o20 N) (specs_cons (o90 N) specs_nil))) muts_nil gs_nil Tryz.func91 (by kernel_rfl) 0 (by kernel_rfl) trivial fun args K r h => ?_
  unfold S91 VS91 at h
  split at h
  · exact (ve91_0 (zj2 N) (zj46 N) N _ _ _).trans h
  · cases h
def VS28 (N : Nat) : Rv.Spec β := fun args K => match args with
  | [.v (.agg [.int .i64 a0, .int .i64 a1])] => zq51 a0 a1 (fun z2 => K (.v (.one (.int .i64 z2))))
  | _ => none
def S28 (N : Nat) : Rv.Spec β := VS28 (zj51 N) N
def h28_0_0 (v0 : Int) (v1 : Int) (v2 : Int) (v3 : Int) (v4 : Int) : St := ⟨tund :: .v (.one (.ptr 0 0)) :: tund :: .v (.one (.int .i64 v0)) :: .v (.one (.int .i64 v1)) :: .v (.one (.int .i64 v2)) :: tn 17 [], [.cells 25 [.int .i64 v3, .int .i64 v4]]⟩
def x28_0_0_k0 (y0 : Int) (y1 : Int) : St := ⟨tn 3 (.v (.one (.int .i64 y0)) :: .v (.one (.int .i64 y1)) :: tn 18 []), []⟩
def p28_0_0 {γ : Type} (f : Int → Int → Int → Int → Int → γ) (s : St) : γ := f (intS (oneA (vT (nx tund s.tmps 3)))) (intS (oneA (vT (nx tund s.tmps 4)))) (intS (oneA (vT (nx tund s.tmps 5)))) (intS (nx .und (cellsB (nx .dead s.blks 0)) 0)) (intS (nx .und (cellsB (nx .dead s.blks 0)) 1))
theorem fl28_0_0 (s : St) : refSt (h28_0_0 0 0 0 0 0) s = p28_0_0 h28_0_0 s := by kernel_rfl
def VLS28_0 (N : Nat) : LSpec β := fun s K => cond (shpSt (h28_0_0 0 0 0 0 0) s) (p28_0_0 (fun v0 v1 v2 v3 v4 => zq50 N v0 v1 v2 v3 v4 (fun y0 y1 => K (.exit 0) (x28_0_0_k0 y0 y1))) s) (none)
def LS28_0 (N : Nat) : LSpec β := VLS28_0 (zj50 N) N
def VE28 (N : Nat) : Env β := ⟨[(91, VS91 zq48 N)], [], [(0, VLS28_0 zq50 N)], [], ⟨[], [], [157], [222]⟩⟩
def E28 (N : Nat) : Env β := VE28 (zj48 N) (zj50 N) N
theorem vst28_0_0 (N : Nat) (v0 : Int) (v1 : Int) (v2 : Int) (v3 : Int) (v4 : Int) (rec_ : St → O β) (K : Exit → St → O β) :
    stB lay (VE28 zq48 zq50 N) Tryz.f28 0 (h28_0_0 v0 v1 v2 v3 v4) rec_ K = zb49 N v0 v1 v2 v3 v4 (fun v0 v1 v2 v3 v4 => rec_ (h28_0_0 v0 v1 v2 v3 v4)) (fun y0 y1 => K (.exit 0) (x28_0_0_k0 y0 y1)) := by kernel_rfl
theorem ro28_0_0 (N : Nat) (K : Exit → St → O β) : ∀ (F : Nat) (v0 : Int) (v1 : Int) (v2 : Int) (v3 : Int) (v4 : Int), (lp Tryz.f28 0).rounds lay (E28 N) (retMask Tryz.f28) F (h28_0_0 v0 v1 v2 v3 v4) K = zj50 N F v0 v1 v2 v3 v4 (fun y0 y1 => K (.exit 0) (x28_0_0_k0 y0 y1)) := by
  intro F
  induction F with
  | zero => intros; rfl
  | succ F ih =>
    intros
    rw [rounds_next]
    refine (vst28_0_0 (zj48 N) (zj50 N) N _ _ _ _ _ (fun s => (lp Tryz.f28 0).rounds lay (E28 N) (retMask Tryz.f28) F s K) K).trans ?_
    simp only [ih]
    rfl
theorem lk28_0 (N : Nat) : lookL (E28 (β := β) N).loops (lp Tryz.f28 0).id = LS28_0 N := by kernel_rfl
theorem rk28_0 (N : Nat) : RoundsOK lay (E28 (β := β) N) (retMask Tryz.f28) (lp Tryz.f28 0) := by
  intro s K r h
  rw [lk28_0] at h
  unfold LS28_0 VLS28_0 at h
  cases hb : shpSt (h28_0_0 0 0 0 0 0) s with
  | true =>
    rw [hb, cond_true] at h
    exact ⟨N, by rw [← shpSt_ref hb, fl28_0_0 s]; unfold p28_0_0 at h ⊢; exact (ro28_0_0 N K N _ _ _ _ _).trans h⟩
  | false =>
  rw [hb, cond_false] at h
  clear hb
  cases h
theorem ve28_0 (N : Nat) (a0 : Int) (a1 : Int) (K : TV → O β) : evFn lay (VE28 zq48 zq50 N) Tryz.f28 [.v (.agg [.int .i64 a0, .int .i64 a1])] K = zb51 zq48 zq50 N a0 a1 (fun z2 => K (.v (.one (.int .i64 z2)))) := by kernel_rfl
theorem o28 (N : Nat) : SpecOK (β := β) inv Tryz.prog 28 (S28 N) := by
  refine spec_of lay_ok mixed (E := E28 N) (specs_loops (specs_cons (o91 N) specs_nil)) muts_nil gs_nil Tryz.func28 (by kernel_rfl) 1 (by kernel_rfl) ⟨trivial, rk28_0 N⟩ fun args K r h => ?_
  unfold S28 VS28 at h
  split at h
  · exact (ve28_0 (zj48 N) (zj50 N) N _ _ _).trans h
  · cases h
def VS92 (N : Nat) : Rv.Spec β := fun args K => match args with
  | [.v (.agg [.int .i64 a0, .int .i64 a1])] => zq54 a0 a1 (fun z2 => K (.v (.one (.bool z2))))
  | _ => none
def S92 (N : Nat) : Rv.Spec β := VS92 (zj54 N) N
def h92_0_0 (v0 : Int) (v1 : Int) (v2 : Int) : St := ⟨tund :: .v (.one (.ptr 0 0)) :: tund :: .v (.one (.int .i64 v0)) :: tn 21 [], [.cells 25 [.int .i64 v1, .int .i64 v2]]⟩
def x92_0_0_k0 (y0 : Bool) : St := ⟨tund :: tund :: .v (.one (.bool y0)) :: tn 22 [], []⟩
def x92_0_0_k1 : St := ⟨tn 25 [], []⟩
def p92_0_0 {γ : Type} (f : Int → Int → Int → γ) (s : St) : γ := f (intS (oneA (vT (nx tund s.tmps 3)))) (intS (nx .und (cellsB (nx .dead s.blks 0)) 0)) (intS (nx .und (cellsB (nx .dead s.blks 0)) 1))
theorem fl92_0_0 (s : St) : refSt (h92_0_0 0 0 0) s = p92_0_0 h92_0_0 s := by kernel_rfl
def VLS92_0 (N : Nat) : LSpec β := fun s K => cond (shpSt (h92_0_0 0 0 0) s) (p92_0_0 (fun v0 v1 v2 => zq53 N v0 v1 v2 (fun y0 => K .ret (x92_0_0_k0 y0)) (K (.exit 0) (x92_0_0_k1 ))) s) (none)
def LS92_0 (N : Nat) : LSpec β := VLS92_0 (zj53 N) N
def VE92 (N : Nat) : Env β := ⟨[(89, VS89 zq6 N)], [], [(0, VLS92_0 zq53 N)], [], ⟨[], [], [157], [222]⟩⟩
def E92 (N : Nat) : Env β := VE92 (zj6 N) (zj53 N) N
theorem vst92_0_0 (N : Nat) (v0 : Int) (v1 : Int) (v2 : Int) (rec_ : St → O β) (K : Exit → St → O β) :
    stB lay (VE92 zq6 zq53 N) Tryz.f92 0 (h92_0_0 v0 v1 v2) rec_ K = zb52 zq6 N v0 v1 v2 (fun v0 v1 v2 => rec_ (h92_0_0 v0 v1 v2)) (fun y0 => K .ret (x92_0_0_k0 y0)) (K (.exit 0) (x92_0_0_k1 )) := by kernel_rfl
theorem ro92_0_0 (N : Nat) (K : Exit → St → O β) : ∀ (F : Nat) (v0 : Int) (v1 : Int) (v2 : Int), (lp Tryz.f92 0).rounds lay (E92 N) (retMask Tryz.f92) F (h92_0_0 v0 v1 v2) K = zj53 N F v0 v1 v2 (fun y0 => K .ret (x92_0_0_k0 y0)) (K (.exit 0) (x92_0_0_k1 )) := by
  intro F
  induction F with
  | zero => intros; rfl
  | succ F ih =>
    intros
    rw [rounds_next]
    refine (vst92_0_0 (zj6 N) (zj53 N) N _ _ _ (fun s => (lp Tryz.f92 0).rounds lay (E92 N) (retMask Tryz.f92) F s K) K).trans ?_
    simp only [ih]
    rfl
theorem lk92_0 (N : Nat) : lookL (E92 (β := β) N).loops (lp Tryz.f92 0).id = LS92_0 N := by kernel_rfl
theorem rk92_0 (N : Nat) : RoundsOK lay (E92 (β := β) N) (retMask Tryz.f92) (lp Tryz.f92 0) := by
  intro s K r h
  rw [lk92_0] at h
  unfold LS92_0 VLS92_0 at h
  cases hb : shpSt (h92_0_0 0 0 0) s with
  | true =>
    rw [hb, cond_true] at h
    exact ⟨N, by rw [← shpSt_ref hb, fl92_0_0 s]; unfold p92_0_0 at h ⊢; exact (ro92_0_0 N K N _ _ _).trans h⟩
  | false =>
  rw [hb, cond_false] at h
  clear hb
  cases h
theorem ve92_0 (N : Nat) (a0 : Int) (a1 : Int) (K : TV → O β) : evFn lay (VE92 zq6 zq53 N) Tryz.f92 [.v (.agg [.int .i64 a0, .int .i64 a1])] K = zb54 zq53 N a0 a1 (fun z2 => K (.v (.one (.bool z2)))) := by kernel_rfl
theorem o92 (N : Nat) : SpecOK (β := β) inv Tryz.prog 92 (S92 N) := by
  refine spec_of lay_ok mixed (E := E92 N) (specs_loops (specs_cons (o89 N) specs_nil)) muts_nil gs_nil Tryz.func92 (by kernel_rfl) 1 (by kernel_rfl) ⟨trivial, rk92_0 N⟩ fun args K r h => ?_
  unfold S92 VS92 at h
  split at h
  · exact (ve92_0 (zj6 N) (zj53 N) N _ _ _).trans h
  · cases h
def VS30 (N : Nat) : Rv.Spec β := fun args K => match args with
  | [.v (.agg [.int .i64 a0, .int .i64 a1])] => zq55 a0 a1 (fun z2 => K (.v (.one (.bool z2))))
  | _ => none
def S30 (N : Nat) : Rv.Spec β := VS30 (zj55 N) N
def VE30 (N : Nat) : Env β := ⟨[(20, VS20 zq2 N), (92, VS92 zq54 N)], [], [], [], ⟨[], [], [157], [222]⟩⟩
def E30 (N : Nat) : Env β := VE30 (zj2 N) (zj54 N) N
theorem ve30_0 (N : Nat) (a0 : Int) (a1 : Int) (K : TV → O β) : evFn lay (VE30 zq2 zq54 N) Tryz.f30 [.v (.agg [.int .i64 a0, .int .i64 a1])] K = zb55 zq2 zq54 N a0 a1 (fun z2 => K (.v (.one (.bool z2)))) := by kernel_rfl
theorem o30 (N : Nat) : SpecOK (β := β) inv Tryz.prog 30 (S30 N) := by
  refine spec_of lay_ok mixed (E := E30 N) (specs_loops (specs_cons (o20 N) (specs_cons (o92 N) specs_nil))) muts_nil gs_nil Tryz.func30 (by kernel_rfl) 0 (by kernel_rfl) trivial fun args K r h => ?_
  unfold S30 VS30 at h
  split at h
  · exact (ve30_0 (zj2 N) (zj54 N) N _ _ _).trans h
  · cases h
def VS29 (N : Nat) : Rv.Spec β := fun args K => match args with
  | [.v (.one (.bool a0)), .v (.one (.str a1))] => zq56 a0 a1 (fun z2 => K (.v (.one (.str z2))))
  | _ => none
def S29 (N : Nat) : Rv.Spec β := VS29 (zj56 N) N
def VE29 (N : Nat) : Env β := ⟨[], [], [], [], ⟨[], [], [157], [222]⟩⟩
def E29 (N : Nat) : Env β := VE29 N
theorem ve29_0 (N : Nat) (a0 : Bool) (a1 : ByteArray) (K : TV → O β) : evFn lay (VE29 N) Tryz.f29 [.v (.one (.bool a0)), .v (.one (.str a1))] K = zb56 N a0 a1 (fun z2 => K (.v (.one (.str z2)))) := by kernel_rfl
theorem o29 (N : Nat) : SpecOK (β := β) inv Tryz.prog 29 (S29 N) := by
  refine spec_of lay_ok mixed (E := E29 N) (specs_loops specs_nil) muts_nil gs_nil Tryz.func29 (by kernel_rfl) 0 (by kernel_rfl) trivial fun args K r h => ?_
  unfold S29 VS29 at h
  split at h
  · exact (ve29_0 N _ _ _).trans h
  · cases h
def VS93 (N : Nat) : Rv.Spec β := fun args K => match args with
  | [.v (.agg [.int .i64 a0, .int .i64 a1]), .v (.one (.int .i64 a2))] => zq57 a0 a1 a2 (fun z3 => K (.v (.one (.int .i64 z3))))
  | _ => none
def S93 (N : Nat) : Rv.Spec β := VS93 (zj57 N) N
def VE93 (N : Nat) : Env β := ⟨[(89, VS89 zq6 N)], [], [], [], ⟨[], [], [157], [222]⟩⟩
def E93 (N : Nat) : Env β := VE93 (zj6 N) N
theorem ve93_0 (N : Nat) (a0 : Int) (a1 : Int) (a2 : Int) (K : TV → O β) : evFn lay (VE93 zq6 N) Tryz.f93 [.v (.agg [.int .i64 a0, .int .i64 a1]), .v (.one (.int .i64 a2))] K = zb57 zq6 N a0 a1 a2 (fun z3 => K (.v (.one (.int .i64 z3)))) := by kernel_rfl
theorem o93 (N : Nat) : SpecOK (β := β) inv Tryz.prog 93 (S93 N) := by
  refine spec_of lay_ok mixed (E := E93 N) (specs_loops (specs_cons (o89 N) specs_nil)) muts_nil gs_nil Tryz.func93 (by kernel_rfl) 0 (by kernel_rfl) trivial fun args K r h => ?_
  unfold S93 VS93 at h
  split at h
  · exact (ve93_0 (zj6 N) N _ _ _ _).trans h
  · cases h
def VS31 (N : Nat) : Rv.Spec β := fun args K => match args with
  | [.v (.agg [.int .i64 a0, .int .i64 a1])] => zq60 a0 a1 (fun z2 => K (.v (.one (.bool z2))))
  | _ => none
def S31 (N : Nat) : Rv.Spec β := VS31 (zj60 N) N
def h31_0_0 (v0 : Int) (v1 : Int) (v2 : Int) : St := ⟨tund :: .v (.one (.ptr 0 0)) :: tund :: .v (.one (.int .i64 v0)) :: tn 16 [], [.cells 25 [.int .i64 v1, .int .i64 v2]]⟩
def x31_0_0_k0 (y0 : Bool) : St := ⟨tund :: tund :: .v (.one (.bool y0)) :: tn 17 [], []⟩
def x31_0_0_k1 (y0 : Int) (y1 : Int) : St := ⟨tund :: .v (.one (.ptr 0 0)) :: tn 18 [], [.cells 25 [.int .i64 y0, .int .i64 y1]]⟩
def p31_0_0 {γ : Type} (f : Int → Int → Int → γ) (s : St) : γ := f (intS (oneA (vT (nx tund s.tmps 3)))) (intS (nx .und (cellsB (nx .dead s.blks 0)) 0)) (intS (nx .und (cellsB (nx .dead s.blks 0)) 1))
theorem fl31_0_0 (s : St) : refSt (h31_0_0 0 0 0) s = p31_0_0 h31_0_0 s := by kernel_rfl
def VLS31_0 (N : Nat) : LSpec β := fun s K => cond (shpSt (h31_0_0 0 0 0) s) (p31_0_0 (fun v0 v1 v2 => zq59 N v0 v1 v2 (fun y0 => K .ret (x31_0_0_k0 y0)) (fun y0 y1 => K (.exit 0) (x31_0_0_k1 y0 y1))) s) (none)
def LS31_0 (N : Nat) : LSpec β := VLS31_0 (zj59 N) N
def VE31 (N : Nat) : Env β := ⟨[(20, VS20 zq2 N), (93, VS93 zq57 N)], [], [(0, VLS31_0 zq59 N)], [], ⟨[], [], [157], [222]⟩⟩
def E31 (N : Nat) : Env β := VE31 (zj2 N) (zj57 N) (zj59 N) N
theorem vst31_0_0 (N : Nat) (v0 : Int) (v1 : Int) (v2 : Int) (rec_ : St → O β) (K : Exit → St → O β) :
    stB lay (VE31 zq2 zq57 zq59 N) Tryz.f31 0 (h31_0_0 v0 v1 v2) rec_ K = zb58 zq2 zq57 N v0 v1 v2 (fun v0 v1 v2 => rec_ (h31_0_0 v0 v1 v2)) (fun y0 => K .ret (x31_0_0_k0 y0)) (fun y0 y1 => K (.exit 0) (x31_0_0_k1 y0 y1)) := by kernel_rfl
theorem ro31_0_0 (N : Nat) (K : Exit → St → O β) : ∀ (F : Nat) (v0 : Int) (v1 : Int) (v2 : Int), (lp Tryz.f31 0).rounds lay (E31 N) (retMask Tryz.f31) F (h31_0_0 v0 v1 v2) K = zj59 N F v0 v1 v2 (fun y0 => K .ret (x31_0_0_k0 y0)) (fun y0 y1 => K (.exit 0) (x31_0_0_k1 y0 y1)) := by
  intro F
  induction F with
  | zero => intros; rfl
  | succ F ih =>
    intros
    rw [rounds_next]
    refine (vst31_0_0 (zj2 N) (zj57 N) (zj59 N) N _ _ _ (fun s => (lp Tryz.f31 0).rounds lay (E31 N) (retMask Tryz.f31) F s K) K).trans ?_
    simp only [ih]
    rfl
theorem lk31_0 (N : Nat) : lookL (E31 (β := β) N).loops (lp Tryz.f31 0).id = LS31_0 N := by kernel_rfl
theorem rk31_0 (N : Nat) : RoundsOK lay (E31 (β := β) N) (retMask Tryz.f31) (lp Tryz.f31 0) := by
  intro s K r h
  rw [lk31_0] at h
  unfold LS31_0 VLS31_0 at h
  cases hb : shpSt (h31_0_0 0 0 0) s with
  | true =>
    rw [hb, cond_true] at h
    exact ⟨N, by rw [← shpSt_ref hb, fl31_0_0 s]; unfold p31_0_0 at h ⊢; exact (ro31_0_0 N K N _ _ _).trans h⟩
  | false =>
  rw [hb, cond_false] at h
  clear hb
  cases h
theorem ve31_0 (N : Nat) (a0 : Int) (a1 : Int) (K : TV → O β) : evFn lay (VE31 zq2 zq57 zq59 N) Tryz.f31 [.v (.agg [.int .i64 a0, .int .i64 a1])] K = zb60 zq2 zq59 N a0 a1 (fun z2 => K (.v (.one (.bool z2)))) := by kernel_rfl
theorem o31 (N : Nat) : SpecOK (β := β) inv Tryz.prog 31 (S31 N) := by
  refine spec_of lay_ok mixed (E := E31 N) (specs_loops (specs_cons (o20 N) (specs_cons (o93 N) specs_nil))) muts_nil gs_nil Tryz.func31 (by kernel_rfl) 1 (by kernel_rfl) ⟨trivial, rk31_0 N⟩ fun args K r h => ?_
  unfold S31 VS31 at h
  split at h
  · exact (ve31_0 (zj2 N) (zj57 N) (zj59 N) N _ _ _).trans h
  · cases h
end Go.Proofs.YtemihnclhcobnaaGreatDoor
