/- The functions that the claims reach answer as their texts do. -/
import Derived.Test.YtemihnclhcobnaaGreatDoorE3
namespace Go.Proofs.YtemihnclhcobnaaGreatDoor
open Go.Rv
set_option maxRecDepth 100000
set_option maxHeartbeats 2000000
set_option linter.unusedVariables false
variable {β : Type}
variable (zq2 : Y2 β) (zq78 : Y10 β) (zq80 : Y40 β) (zq82 : Y15 β) (zq83 : Y14 β) (zq85 : Y41 β) (zq86 : Y2 β) (zq88 : Y43 β) (zq89 : Y42 β) (zq91 : Y45 β) (zq92 : Y44 β)
def VS97 (N : Nat) : Rv.Spec β := fun args K => match args with
  | [.v (.agg [.int .i64 a0, .int .i64 a1])] => zq83 a0 a1 (fun z2 => K (.v (.one (.sl 3 (.ints .i64 z2)))))
  | _ => none
def S97 (N : Nat) : Rv.Spec β := VS97 (zj83 N) N
def h97_0_0 (v0 : Int) (v1 : Int) (v2 : Int) (v3 : List Int) : St := ⟨tund :: .v (.one (.ptr 0 0)) :: tund :: .v (.one (.row 1)) :: .v (.one (.int .i64 v0)) :: tn 39 [], [.cells 25 [.int .i64 v1, .int .i64 v2], .row 3 (.ints .i64 v3)]⟩
def x97_0_0_k0 (y0 : List Int) : St := ⟨tn 3 (.v (.one (.row 0)) :: tn 40 []), [.row 3 (.ints .i64 y0)]⟩
def h97_1_0 (v0 : Int) (v1 : Int) (v2 : Int) (v3 : Int) (v4 : Int) (v5 : List Int) : St := ⟨tund :: .v (.one (.ptr 0 0)) :: tund :: .v (.one (.row 1)) :: .v (.one (.int .i64 v0)) :: .v (.one (.int .i64 v1)) :: .v (.one (.int .i64 v2)) :: tn 37 [], [.cells 25 [.int .i64 v3, .int .i64 v4], .row 3 (.ints .i64 v5)]⟩
def x97_1_0_k0 (y0 : Int) (y1 : Int) (y2 : Int) (y3 : Int) (y4 : List Int) : St := ⟨tund :: .v (.one (.ptr 0 0)) :: tund :: .v (.one (.row 1)) :: .v (.one (.int .i64 y0)) :: .v (.one (.int .i64 y1)) :: tn 38 [], [.cells 25 [.int .i64 y2, .int .i64 y3], .row 3 (.ints .i64 y4)]⟩
def p97_0_0 {γ : Type} (f : Int → Int → Int → List Int → γ) (s : St) : γ := f (intS (oneA (vT (nx tund s.tmps 4)))) (intS (nx .und (cellsB (nx .dead s.blks 0)) 0)) (intS (nx .und (cellsB (nx .dead s.blks 0)) 1)) (rInts (rowB_ (nx .dead s.blks 1)))
theorem fl97_0_0 (s : St) : refSt (h97_0_0 0 0 0 []) s = p97_0_0 h97_0_0 s := by kernel_rfl
def VLS97_0 (N : Nat) : LSpec β := fun s K => cond (shpSt (h97_0_0 0 0 0 []) s) (p97_0_0 (fun v0 v1 v2 v3 => zq82 N v0 v1 v2 v3 (fun y0 => K (.exit 0) (x97_0_0_k0 y0))) s) (none)
def LS97_0 (N : Nat) : LSpec β := VLS97_0 (zj82 N) N
def p97_1_0 {γ : Type} (f : Int → Int → Int → Int → Int → List Int → γ) (s : St) : γ := f (intS (oneA (vT (nx tund s.tmps 4)))) (intS (oneA (vT (nx tund s.tmps 5)))) (intS (oneA (vT (nx tund s.tmps 6)))) (intS (nx .und (cellsB (nx .dead s.blks 0)) 0)) (intS (nx .und (cellsB (nx .dead s.blks 0)) 1)) (rInts (rowB_ (nx .dead s.blks 1)))
theorem fl97_1_0 (s : St) : refSt (h97_1_0 0 0 0 0 0 []) s = p97_1_0 h97_1_0 s := by kernel_rfl
def VLS97_2 (N : Nat) : LSpec β := fun s K => cond (shpSt (h97_1_0 0 0 0 0 0 []) s) ((fun (v0 : Int) (v1 : Int) (v2 : Int) (v3 : Int) (v4 : Int) (v5 : List Int) => zq80 N v0 v1 v2 v3 v4 v5 (fun y0 y1 y2 y3 y4 => K (.exit 2) (x97_1_0_k0 y0 y1 y2 y3 y4))) (intS (oneA (vT (nx tund s.tmps 4)))) (intS (oneA (vT (nx tund s.tmps 5)))) (intS (oneA (vT (nx tund s.tmps 6)))) (intS (nx .und (cellsB (nx .dead s.blks 0)) 0)) (intS (nx .und (cellsB (nx .dead s.blks 0)) 1)) (rInts (rowB_ (nx .dead s.blks 1)))) (none)
def LS97_2 (N : Nat) : LSpec β := VLS97_2 (zj80 N) N
def VE97 (N : Nat) : Env β := ⟨[(20, VS20 zq2 N), (162, VS162 zq78 N)], [], [(0, VLS97_0 zq82 N), (2, VLS97_2 zq80 N)], [], ⟨[], [], [157], [222]⟩⟩
def E97 (N : Nat) : Env β := VE97 (zj2 N) (zj78 N) (zj80 N) (zj82 N) N
theorem vst97_0_0 (N : Nat) (v0 : Int) (v1 : Int) (v2 : Int) (v3 : List Int) (rec_ : St → O β) (K : Exit → St → O β) :
    stB lay (VE97 zq2 zq78 zq80 zq82 N) Tryz.f97 0 (h97_0_0 v0 v1 v2 v3) rec_ K = zb81 zq2 zq80 N v0 v1 v2 v3 (fun v0 v1 v2 v3 => rec_ (h97_0_0 v0 v1 v2 v3)) (fun y0 => K (.exit 0) (x97_0_0_k0 y0)) := by kernel_rfl
theorem ro97_0_0 (N : Nat) (K : Exit → St → O β) : ∀ (F : Nat) (v0 : Int) (v1 : Int) (v2 : Int) (v3 : List Int), (lp Tryz.f97 0).rounds lay (E97 N) (retMask Tryz.f97) F (h97_0_0 v0 v1 v2 v3) K = zj82 N F v0 v1 v2 v3 (fun y0 => K (.exit 0) (x97_0_0_k0 y0)) := by
  intro F
  induction F with
  | zero => intros; rfl
  | succ F ih =>
    intros
    rw [rounds_next]
    refine (vst97_0_0 (zj2 N) (zj78 N) (zj80 N) (zj82 N) N _ _ _ _ (fun s => (lp Tryz.f97 0).rounds lay (E97 N) (retMask Tryz.f97) F s K) K).trans ?_
    simp only [ih]
    rfl
theorem lk97_0 (N : Nat) : lookL (E97 (β := β) N).loops (lp Tryz.f97 0).id = LS97_0 N := by kernel_rfl
theorem rk97_0 (N : Nat) : RoundsOK lay (E97 (β := β) N) (retMask Tryz.f97) (lp Tryz.f97 0) := by
  intro s K r h
  rw [lk97_0] at h
  unfold LS97_0 VLS97_0 at h
  cases hb : shpSt (h97_0_0 0 0 0 []) s with
  | true =>
    rw [hb, cond_true] at h
    exact ⟨N, by rw [← shpSt_ref hb, fl97_0_0 s]; unfold p97_0_0 at h ⊢; exact (ro97_0_0 N K N _ _ _ _).trans h⟩
  | false =>
  rw [hb, cond_false] at h
  clear hb
  cases h
theorem vst97_1_0 (N : Nat) (v0 : Int) (v1 : Int) (v2 : Int) (v3 : Int) (v4 : Int) (v5 : List Int) (rec_ : St → O β) (K : Exit → St → O β) :
    stB lay (VE97 zq2 zq78 zq80 zq82 N) Tryz.f97 1 (h97_1_0 v0 v1 v2 v3 v4 v5) rec_ K = zb79 zq78 N v0 v1 v2 v3 v4 v5 (fun v0 v1 v2 v3 v4 v5 => rec_ (h97_1_0 v0 v1 v2 v3 v4 v5)) (fun y0 y1 y2 y3 y4 => K (.exit 2) (x97_1_0_k0 y0 y1 y2 y3 y4)) := by kernel_rfl
theorem ro97_1_0 (N : Nat) (K : Exit → St → O β) : ∀ (F : Nat) (v0 : Int) (v1 : Int) (v2 : Int) (v3 : Int) (v4 : Int) (v5 : List Int), (lp Tryz.f97 1).rounds lay (E97 N) (retMask Tryz.f97) F (h97_1_0 v0 v1 v2 v3 v4 v5) K = zj80 N F v0 v1 v2 v3 v4 v5 (fun y0 y1 y2 y3 y4 => K (.exit 2) (x97_1_0_k0 y0 y1 y2 y3 y4)) := by
  intro F
  induction F with
  | zero => intros; rfl
  | succ F ih =>
    intros
    rw [rounds_next]
    refine (vst97_1_0 (zj2 N) (zj78 N) (zj80 N) (zj82 N) N _ _ _ _ _ _ (fun s => (lp Tryz.f97 1).rounds lay (E97 N) (retMask Tryz.f97) F s K) K).trans ?_
    simp only [ih]
    rfl
theorem lk97_2 (N : Nat) : lookL (E97 (β := β) N).loops (lp Tryz.f97 1).id = LS97_2 N := by kernel_rfl
theorem rk97_2 (N : Nat) : RoundsOK lay (E97 (β := β) N) (retMask Tryz.f97) (lp Tryz.f97 1) := by
  intro s K r h
  rw [lk97_2] at h
  unfold LS97_2 VLS97_2 at h
  cases hb : shpSt (h97_1_0 0 0 0 0 0 []) s with
  | true =>
    rw [hb, cond_true] at h
    exact ⟨N, by rw [← shpSt_ref hb, fl97_1_0 s]; exact (ro97_1_0 N K N (intS (oneA (vT (nx tund s.tmps 4)))) (intS (oneA (vT (nx tund s.tmps 5)))) (intS (oneA (vT (nx tund s.tmps 6)))) (intS (nx .und (cellsB (nx .dead s.blks 0)) 0)) (intS (nx .und (cellsB (nx .dead s.blks 0)) 1)) (rInts (rowB_ (nx .dead s.blks 1)))).trans h⟩
  | false =>
  rw [hb, cond_false] at h
  clear hb
  cases h
theorem ve97_0 (N : Nat) (a0 : Int) (a1 : Int) (K : TV → O β) : evFn lay (VE97 zq2 zq78 zq80 zq82 N) Tryz.f97 [.v (.agg [.int .i64 a0, .int .i64 a1])] K = zb83 zq82 N a0 a1 (fun z2 => K (.v (.one (.sl 3 (.ints .i64 z2))))) := by kernel_rfl
theorem o97 (N : Nat) : SpecOK (β := β) inv Tryz.prog 97 (S97 N) := by
  refine spec_of lay_ok mixed (E := E97 N) (specs_loops (specs_cons (o20 N) (specs_cons (o162 N) specs_nil))) muts_nil gs_nil Tryz.func97 (by kernel_rfl) 2 (by kernel_rfl) ⟨⟨trivial, rk97_0 N⟩, rk97_2 N⟩ fun args K r h => ?_
  unfold S97 VS97 at h
  split at h
  · exact (ve97_0 (zj2 N) (zj78 N) (zj80 N) (zj82 N) N _ _ _).trans h
  · cases h
def VS35 (N : Nat) : Rv.Spec β := fun args K => match args with
  | [.v (.agg [.int .i64 a0, .int .i64 a1])] => zq86 a0 a1 (fun z2 => K (.v (.one (.bool z2))))
  | _ => none
def S35 (N : Nat) : Rv.Spec β := VS35 (zj86 N) N
def h35_0_0 (v0 : Int) (v1 : Int) (v2 : Int) (v3 : List Int) : St := ⟨tund :: .v (.one (.ptr 0 0)) :: tund :: .v (.one (.row 1)) :: .v (.one (.int .i64 v0)) :: tn 37 [], [.cells 25 [.int .i64 v1, .int .i64 v2], .row 3 (.ints .i64 v3)]⟩
def x35_0_0_k0 (y0 : Bool) : St := ⟨tund :: tund :: .v (.one (.bool y0)) :: tn 39 [], []⟩
def x35_0_0_k1 (y0 : Int) (y1 : Int) : St := ⟨tund :: .v (.one (.ptr 0 0)) :: tn 40 [], [.cells 25 [.int .i64 y0, .int .i64 y1]]⟩
def p35_0_0 {γ : Type} (f : Int → Int → Int → List Int → γ) (s : St) : γ := f (intS (oneA (vT (nx tund s.tmps 4)))) (intS (nx .und (cellsB (nx .dead s.blks 0)) 0)) (intS (nx .und (cellsB (nx .dead s.blks 0)) 1)) (rInts (rowB_ (nx .dead s.blks 1)))
theorem fl35_0_0 (s : St) : refSt (h35_0_0 0 0 0 []) s = p35_0_0 h35_0_0 s := by kernel_rfl
def VLS35_0 (N : Nat) : LSpec β := fun s K => cond (shpSt (h35_0_0 0 0 0 []) s) (p35_0_0 (fun v0 v1 v2 v3 => zq85 N v0 v1 v2 v3 (fun y0 => K .ret (x35_0_0_k0 y0)) (fun y0 y1 => K (.exit 0) (x35_0_0_k1 y0 y1))) s) (none)
def LS35_0 (N : Nat) : LSpec β := VLS35_0 (zj85 N) N
def VE35 (N : Nat) : Env β := ⟨[(97, VS97 zq83 N), (20, VS20 zq2 N)], [], [(0, VLS35_0 zq85 N)], [], ⟨[], [], [157], [222]⟩⟩
def E35 (N : Nat) : Env β := VE35 (zj2 N) (zj83 N) (zj85 N) N
theorem vst35_0_0 (N : Nat) (v0 : Int) (v1 : Int) (v2 : Int) (v3 : List Int) (rec_ : St → O β) (K : Exit → St → O β) :
    stB lay (VE35 zq2 zq83 zq85 N) Tryz.f35 0 (h35_0_0 v0 v1 v2 v3) rec_ K = zb84 N v0 v1 v2 v3 (fun v0 v1 v2 v3 => rec_ (h35_0_0 v0 v1 v2 v3)) (fun y0 => K .ret (x35_0_0_k0 y0)) (fun y0 y1 => K (.exit 0) (x35_0_0_k1 y0 y1)) := by kernel_rfl
theorem ro35_0_0 (N : Nat) (K : Exit → St → O β) : ∀ (F : Nat) (v0 : Int) (v1 : Int) (v2 : Int) (v3 : List Int), (lp Tryz.f35 0).rounds lay (E35 N) (retMask Tryz.f35) F (h35_0_0 v0 v1 v2 v3) K = zj85 N F v0 v1 v2 v3 (fun y0 => K .ret (x35_0_0_k0 y0)) (fun y0 y1 => K (.exit 0) (x35_0_0_k1 y0 y1)) := by
  intro F
  induction F with
  | zero => intros; rfl
  | succ F ih =>
    intros
    rw [rounds_next]
    refine (vst35_0_0 (zj2 N) (zj83 N) (zj85 N) N _ _ _ _ (fun s => (lp Tryz.f35 0).rounds lay (E35 N) (retMask Tryz.f35) F s K) K).trans ?_
    simp only [ih]
    rfl
theorem lk35_0 (N : Nat) : lookL (E35 (β := β) N).loops (lp Tryz.f35 0).id = LS35_0 N := by kernel_rfl
theorem rk35_0 (N : Nat) : RoundsOK lay (E35 (β := β) N) (retMask Tryz.f35) (lp Tryz.f35 0) := by
  intro s K r h
  rw [lk35_0] at h
  unfold LS35_0 VLS35_0 at h
  cases hb : shpSt (h35_0_0 0 0 0 []) s with
  | true =>
    rw [hb, cond_true] at h
    exact ⟨N, by rw [← shpSt_ref hb, fl35_0_0 s]; unfold p35_0_0 at h ⊢; exact (ro35_0_0 N K N _ _ _ _).trans h⟩
  | false =>
  rw [hb, cond_false] at h
  clear hb
  cases h
theorem ve35_0 (N : Nat) (a0 : Int) (a1 : Int) (K : TV → O β) : evFn lay (VE35 zq2 zq83 zq85 N) Tryz.f35 [.v (.agg [.int .i64 a0, .int .i64 a1])] K = zb86 zq2 zq83 zq85 N a0 a1 (fun z2 => K (.v (.one (.bool z2)))) := by kernel_rfl
theorem o35 (N : Nat) : SpecOK (β := β) inv Tryz.prog 35 (S35 N) := by
  refine spec_of lay_ok mixed (E := E35 N) (specs_loops (specs_cons (o97 N) (specs_cons (o20 N) specs_nil))) muts_nil gs_nil Tryz.func35 (by kernel_rfl) 1 (by kernel_rfl) ⟨trivial, rk35_0 N⟩ fun args K r h => ?_
  unfold S35 VS35 at h
  split at h
  · exact (ve35_0 (zj2 N) (zj83 N) (zj85 N) N _ _ _).trans h
  · cases h
def VS218 (N : Nat) : Rv.Spec β := fun args K => match args with
  | [.v (.one (.sl 3 (.ints .i64 a0))), .v (.one (.int .i64 a1))] => zq89 a0 a1 (fun z2 => K (.v (.one (.int .i64 z2))))
  | _ => none
def S218 (N : Nat) : Rv.Spec β := VS218 (zj89 N) N
def h218_0_0 (v0 : List Int) (v1 : Int) (v2 : Int) (v3 : Int) : St := ⟨.v (.one (.sl 3 (.ints .i64 v0))) :: .v (.one (.int .i64 v1)) :: tn 3 (.v (.one (.int .i64 v2)) :: .v (.one (.int .i64 v3)) :: tn 18 []), []⟩
def x218_0_0_k0 (y0 : Int) : St := ⟨tn 5 (.v (.one (.int .i64 y0)) :: tn 19 []), []⟩
def p218_0_0 {γ : Type} (f : List Int → Int → Int → Int → γ) (s : St) : γ := f (rInts (rowV (oneA (vT (nx tund s.tmps 0))))) (intS (oneA (vT (nx tund s.tmps 1)))) (intS (oneA (vT (nx tund s.tmps 5)))) (intS (oneA (vT (nx tund s.tmps 6))))
theorem fl218_0_0 (s : St) : refSt (h218_0_0 [] 0 0 0) s = p218_0_0 h218_0_0 s := by kernel_rfl
def VLS218_0 (N : Nat) : LSpec β := fun s K => cond (shpSt (h218_0_0 [] 0 0 0) s) (p218_0_0 (fun v0 v1 v2 v3 => zq88 N v0 v1 v2 v3 (fun y0 => K (.exit 0) (x218_0_0_k0 y0))) s) (none)
def LS218_0 (N : Nat) : LSpec β := VLS218_0 (zj88 N) N
def VE218 (N : Nat) : Env β := ⟨[], [], [(0, VLS218_0 zq88 N)], [], ⟨[], [], [157], [222]⟩⟩
def E218 (N : Nat) : Env β := VE218 (zj88 N) N
theorem vst218_0_0 (N : Nat) (v0 : List Int) (v1 : Int) (v2 : Int) (v3 : Int) (rec_ : St → O β) (K : Exit → St → O β) :
    stB lay (VE218 zq88 N) Tryz.f218 0 (h218_0_0 v0 v1 v2 v3) rec_ K = zb87 N v0 v1 v2 v3 (fun v0 v1 v2 v3 => rec_ (h218_0_0 v0 v1 v2 v3)) (fun y0 => K (.exit 0) (x218_0_0_k0 y0)) := by kernel_rfl
theorem ro218_0_0 (N : Nat) (K : Exit → St → O β) : ∀ (F : Nat) (v0 : List Int) (v1 : Int) (v2 : Int) (v3 : Int), (lp Tryz.f218 0).rounds lay (E218 N) (retMask Tryz.f218) F (h218_0_0 v0 v1 v2 v3) K = zj88 N F v0 v1 v2 v3 (fun y0 => K (.exit 0) (x218_0_0_k0 y0)) := by
  intro F
  induction F with
  | zero => intros; rfl
  | succ F ih =>
    intros
    rw [rounds_next]
    refine (vst218_0_0 (zj88 N) N _ _ _ _ (fun s => (lp Tryz.f218 0).rounds lay (E218 N) (retMask Tryz.f218) F s K) K).trans ?_
    simp only [ih]
    rfl
theorem lk218_0 (N : Nat) : lookL (E218 (β := β) N).loops (lp Tryz.f218 0).id = LS218_0 N := by kernel_rfl
theorem rk218_0 (N : Nat) : RoundsOK lay (E218 (β := β) N) (retMask Tryz.f218) (lp Tryz.f218 0) := by
  intro s K r h
  rw [lk218_0] at h
  unfold LS218_0 VLS218_0 at h
  cases hb : shpSt (h218_0_0 [] 0 0 0) s with
  | true =>
    rw [hb, cond_true] at h
    exact ⟨N, by rw [← shpSt_ref hb, fl218_0_0 s]; unfold p218_0_0 at h ⊢; exact (ro218_0_0 N K N _ _ _ _).trans h⟩
  | false =>
  rw [hb, cond_false] at h
  clear hb
  cases h
theorem ve218_0 (N : Nat) (a0 : List Int) (a1 : Int) (K : TV → O β) : evFn lay (VE218 zq88 N) Tryz.f218 [.v (.one (.sl 3 (.ints .i64 a0))), .v (.one (.int .i64 a1))] K = zb89 zq88 N a0 a1 (fun z2 => K (.v (.one (.int .i64 z2)))) := by kernel_rfl
theorem o218 (N : Nat) : SpecOK (β := β) inv Tryz.prog 218 (S218 N) := by
  refine spec_of lay_ok mixed (E := E218 N) (specs_loops specs_nil) muts_nil gs_nil Tryz.func218 (by kernel_rfl) 1 (by kernel_rfl) ⟨trivial, rk218_0 N⟩ fun args K r h => ?_
  unfold S218 VS218 at h
  split at h
  · exact (ve218_0 (zj88 N) N _ _ _).trans h
  · cases h
def VS163 (N : Nat) : Rv.Spec β := fun args K => match args with
  | [.v (.agg [.int .i64 a0, .int .i64 a1]), .v (.one (.sl 3 (.ints .i64 a2)))] => zq92 a0 a1 a2 (fun z3 z4 => K (.tup [.one (.int .i64 z3), .one (.bool z4)]))
  | _ => none
def S163 (N : Nat) : Rv.Spec β := VS163 (zj92 N) N
def h163_0_0 (v0 : List Int) (v1 : Int) (v2 : Int) (v3 : Int) (v4 : Int) (v5 : Int) : St := ⟨tund :: .v (.one (.sl 3 (.ints .i64 v0))) :: .v (.one (.ptr 0 0)) :: tn 3 (.v (.one (.int .i64 v1)) :: .v (.one (.int .i64 v2)) :: .v (.one (.int .i64 v3)) :: tn 31 []), [.cells 25 [.int .i64 v4, .int .i64 v5]]⟩
def x163_0_0_k0 (y0 : Int) (y1 : Int) : St := ⟨tn 6 (.v (.one (.int .i64 y0)) :: .v (.one (.int .i64 y1)) :: tn 32 []), []⟩
def p163_0_0 {γ : Type} (f : List Int → Int → Int → Int → Int → Int → γ) (s : St) : γ := f (rInts (rowV (oneA (vT (nx tund s.tmps 1))))) (intS (oneA (vT (nx tund s.tmps 6)))) (intS (oneA (vT (nx tund s.tmps 7)))) (intS (oneA (vT (nx tund s.tmps 8)))) (intS (nx .und (cellsB (nx .dead s.blks 0)) 0)) (intS (nx .und (cellsB (nx .dead s.blks 0)) 1))
theorem fl163_0_0 (s : St) : refSt (h163_0_0 [] 0 0 0 0 0) s = p163_0_0 h163_0_0 s := by kernel_rfl
def VLS163_0 (N : Nat) : LSpec β := fun s K => cond (shpSt (h163_0_0 [] 0 0 0 0 0) s) (p163_0_0 (fun v0 v1 v2 v3 v4 v5 => zq91 N v0 v1 v2 v3 v4 v5 (fun y0 y1 => K (.exit 0) (x163_0_0_k0 y0 y1))) s) (none)
def LS163_0 (N : Nat) : LSpec β := VLS163_0 (zj91 N) N
def VE163 (N : Nat) : Env β := ⟨[(218, VS218 zq89 N)], [], [(0, VLS163_0 zq91 N)], [], ⟨[], [], [157], [222]⟩⟩
def E163 (N : Nat) : Env β := VE163 (zj89 N) (zj91 N) N
theorem vst163_0_0 (N : Nat) (v0 : List Int) (v1 : Int) (v2 : Int) (v3 : Int) (v4 : Int) (v5 : Int) (rec_ : St → O β) (K : Exit → St → O β) :
    stB lay (VE163 zq89 zq91 N) Tryz.f163 0 (h163_0_0 v0 v1 v2 v3 v4 v5) rec_ K = zb90 zq89 N v0 v1 v2 v3 v4 v5 (fun v0 v1 v2 v3 v4 v5 => rec_ (h163_0_0 v0 v1 v2 v3 v4 v5)) (fun y0 y1 => K (.exit 0) (x163_0_0_k0 y0 y1)) := by kernel_rfl
theorem ro163_0_0 (N : Nat) (K : Exit → St → O β) : ∀ (F : Nat) (v0 : List Int) (v1 : Int) (v2 : Int) (v3 : Int) (v4 : Int) (v5 : Int), (lp Tryz.f163 0).rounds lay (E163 N) (retMask Tryz.f163) F (h163_0_0 v0 v1 v2 v3 v4 v5) K = zj91 N F v0 v1 v2 v3 v4 v5 (fun y0 y1 => K (.exit 0) (x163_0_0_k0 y0 y1)) := by
  intro F
  induction F with
  | zero => intros; rfl
  | succ F ih =>
    intros
    rw [rounds_next]
    refine (vst163_0_0 (zj89 N) (zj91 N) N _ _ _ _ _ _ (fun s => (lp Tryz.f163 0).rounds lay (E163 N) (retMask Tryz.f163) F s K) K).trans ?_
    simp only [ih]
    rfl
theorem lk163_0 (N : Nat) : lookL (E163 (β := β) N).loops (lp Tryz.f163 0).id = LS163_0 N := by kernel_rfl
theorem rk163_0 (N : Nat) : RoundsOK lay (E163 (β := β) N) (retMask Tryz.f163) (lp Tryz.f163 0) := by
  intro s K r h
  rw [lk163_0] at h
  unfold LS163_0 VLS163_0 at h
  cases hb : shpSt (h163_0_0 [] 0 0 0 0 0) s with
  | true =>
    rw [hb, cond_true] at h
    exact ⟨N, by rw [← shpSt_ref hb, fl163_0_0 s]; unfold p163_0_0 at h ⊢; exact (ro163_0_0 N K N _ _ _ _ _ _).trans h⟩
  | false =>
  rw [hb, cond_false] at h
  clear hb
  cases h
theorem ve163_0 (N : Nat) (a0 : Int) (a1 : Int) (a2 : List Int) (K : TV → O β) : evFn lay (VE163 zq89 zq91 N) Tryz.f163 [.v (.agg [.int .i64 a0, .int .i64 a1]), .v (.one (.sl 3 (.ints .i64 a2)))] K = zb92 zq91 N a0 a1 a2 (fun z3 z4 => K (.tup [.one (.int .i64 z3), .one (.bool z4)])) := by kernel_rfl
theorem o163 (N : Nat) : SpecOK (β := β) inv Tryz.prog 163 (S163 N) := by
  refine spec_of lay_ok mixed (E := E163 N) (specs_loops (specs_cons (o218 N) specs_nil)) muts_nil gs_nil Tryz.func163 (by kernel_rfl) 1 (by kernel_rfl) ⟨trivial, rk163_0 N⟩ fun args K r h => ?_
  unfold S163 VS163 at h
  split at h
  · exact (ve163_0 (zj89 N) (zj91 N) N _ _ _ _).trans h
  · cases h
end Go.Proofs.YtemihnclhcobnaaGreatDoor
