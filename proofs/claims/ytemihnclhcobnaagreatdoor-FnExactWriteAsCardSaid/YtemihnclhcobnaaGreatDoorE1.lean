/- The functions that the claims reach answer as their texts do. -/
import Derived.Test.YtemihnclhcobnaaGreatDoorSizU
namespace Go.Proofs.YtemihnclhcobnaaGreatDoor
open Go.Rv
set_option maxRecDepth 100000
set_option maxHeartbeats 2000000
set_option linter.unusedVariables false
variable {β : Type}
variable (zq24 : Y11 β) (zq25 : Y3 β) (zq26 : Y0 β) (zq28 : Y17 β) (zq29 : Y16 β) (zq31 : Y18 β) (zq33 : Y12 β) (zq34 : Y1 β) (zq35 : Y3 β) (zq37 : Y20 β) (zq38 : Y19 β) (zq40 : Y21 β) (zq41 : Y16 β) (zq43 : Y22 β) (zq44 : Y2 β) (zq45 : Y23 β)
def VS9 (N : Nat) : Rv.Spec β := fun args K => match args with
  | [.v (.agg [.int .i64 a0, .int .i64 a1])] => zq24 a0 a1 (fun z2 z3 => K (.v (.agg [.int .i64 z2, .int .i64 z3])))
  | _ => none
def S9 (N : Nat) : Rv.Spec β := VS9 (zj24 N) N
def VE9 (N : Nat) : Env β := ⟨[], [], [], [], ⟨[], [], [], []⟩⟩
def E9 (N : Nat) : Env β := VE9 N
theorem ve9_0 (N : Nat) (a0 : Int) (a1 : Int) (K : TV → O β) : evFn lay (VE9 N) Tryz.f9 [.v (.agg [.int .i64 a0, .int .i64 a1])] K = zb24 N a0 a1 (fun z2 z3 => K (.v (.agg [.int .i64 z2, .int .i64 z3]))) := by kernel_rfl
theorem o9 (N : Nat) : SpecOK (β := β) inv Tryz.prog 9 (S9 N) := by
  refine spec_of lay_ok mixed (E := E9 N) (specs_loops specs_nil) muts_nil gs_nil Tryz.func9 (by kernel_rfl) 0 (by kernel_rfl) trivial fun args K r h => ?_
  unfold S9 VS9 at h
  split at h
  · exact (ve9_0 N _ _ _).trans h
  · cases h
def VS57 (N : Nat) : Rv.Spec β := fun args K => match args with
  | [.v (.one (.int .i64 a0)), .v (.one (.int .i64 a1)), .v (.one (.int .i64 a2))] => zq25 a0 a1 a2 (fun z3 => K (.v (.one (.bool z3))))
  | _ => none
def S57 (N : Nat) : Rv.Spec β := VS57 (zj25 N) N
def VE57 (N : Nat) : Env β := ⟨[], [], [], [], ⟨[], [], [], []⟩⟩
def E57 (N : Nat) : Env β := VE57 N
theorem ve57_0 (N : Nat) (a0 : Int) (a1 : Int) (a2 : Int) (K : TV → O β) : evFn lay (VE57 N) Tryz.f57 [.v (.one (.int .i64 a0)), .v (.one (.int .i64 a1)), .v (.one (.int .i64 a2))] K = zb25 N a0 a1 a2 (fun z3 => K (.v (.one (.bool z3)))) := by kernel_rfl
theorem o57 (N : Nat) : SpecOK (β := β) inv Tryz.prog 57 (S57 N) := by
  refine spec_of lay_ok mixed (E := E57 N) (specs_loops specs_nil) muts_nil gs_nil Tryz.func57 (by kernel_rfl) 0 (by kernel_rfl) trivial fun args K r h => ?_
  unfold S57 VS57 at h
  split at h
  · exact (ve57_0 N _ _ _ _).trans h
  · cases h
def VS20 (N : Nat) : Rv.Spec β := fun args K => match args with
  | [.v (.agg [.int .i64 a0, .int .i64 a1])] => zq26 a0 a1 (fun z2 => K (.v (.one (.bool z2))))
  | _ => none
def S20 (N : Nat) : Rv.Spec β := VS20 (zj26 N) N
def VE20 (N : Nat) : Env β := ⟨[(57, VS57 zq25 N)], [], [], [], ⟨[], [], [], []⟩⟩
def E20 (N : Nat) : Env β := VE20 (zj25 N) N
theorem ve20_0 (N : Nat) (a0 : Int) (a1 : Int) (K : TV → O β) : evFn lay (VE20 zq25 N) Tryz.f20 [.v (.agg [.int .i64 a0, .int .i64 a1])] K = zb26 zq25 N a0 a1 (fun z2 => K (.v (.one (.bool z2)))) := by kernel_rfl
theorem o20 (N : Nat) : SpecOK (β := β) inv Tryz.prog 20 (S20 N) := by
  refine spec_of lay_ok mixed (E := E20 N) (specs_loops (specs_cons (o57 N) specs_nil)) muts_nil gs_nil Tryz.func20 (by kernel_rfl) 0 (by kernel_rfl) trivial fun args K r h => ?_
  unfold S20 VS20 at h
  split at h
  · exact (ve20_0 (zj25 N) N _ _ _).trans h
  · cases h
def VS22 (N : Nat) : Rv.Spec β := fun args K => match args with
  | [.v (.agg [.int .i64 a0, .int .i64 a1])] => zq29 a0 a1 (fun z2 => K (.v (.one (.str z2))))
  | _ => none
def S22 (N : Nat) : Rv.Spec β := VS22 (zj29 N) N
def h22_0_0 (v0 : ByteArray) (v1 : Int) (v2 : Int) (v3 : Int) : St := ⟨tund :: .v (.one (.ptr 0 0)) :: tund :: .v (.one (.str v0)) :: .v (.one (.int .i64 v1)) :: tn 22 [], [.cells 25 [.int .i64 v2, .int .i64 v3]]⟩
def x22_0_0_k0 (y0 : ByteArray) : St := ⟨tn 3 (.v (.one (.str y0)) :: tn 23 []), []⟩
def p22_0_0 {γ : Type} (f : ByteArray → Int → Int → Int → γ) (s : St) : γ := f (strS (oneA (vT (nx tund s.tmps 3)))) (intS (oneA (vT (nx tund s.tmps 4)))) (intS (nx .und (cellsB (nx .dead s.blks 0)) 0)) (intS (nx .und (cellsB (nx .dead s.blks 0)) 1))
theorem fl22_0_0 (s : St) : refSt (h22_0_0 ByteArray.empty 0 0 0) s = p22_0_0 h22_0_0 s := by kernel_rfl
def VLS22_0 (N : Nat) : LSpec β := fun s K => cond (shpSt (h22_0_0 ByteArray.empty 0 0 0) s) (p22_0_0 (fun v0 v1 v2 v3 => zq28 N v0 v1 v2 v3 (fun y0 => K (.exit 0) (x22_0_0_k0 y0))) s) (none)
def LS22_0 (N : Nat) : LSpec β := VLS22_0 (zj28 N) N
def VE22 (N : Nat) : Env β := ⟨[(20, VS20 zq26 N)], [], [(0, VLS22_0 zq28 N)], [], ⟨[], [], [], []⟩⟩
def E22 (N : Nat) : Env β := VE22 (zj26 N) (zj28 N) N
theorem vst22_0_0 (N : Nat) (v0 : ByteArray) (v1 : Int) (v2 : Int) (v3 : Int) (rec_ : St → O β) (K : Exit → St → O β) :
    stB lay (VE22 zq26 zq28 N) Tryz.f22 0 (h22_0_0 v0 v1 v2 v3) rec_ K = zb27 zq26 N v0 v1 v2 v3 (fun v0 v1 v2 v3 => rec_ (h22_0_0 v0 v1 v2 v3)) (fun y0 => K (.exit 0) (x22_0_0_k0 y0)) := by kernel_rfl
theorem ro22_0_0 (N : Nat) (K : Exit → St → O β) : ∀ (F : Nat) (v0 : ByteArray) (v1 : Int) (v2 : Int) (v3 : Int), (lp Tryz.f22 0).rounds lay (E22 N) (retMask Tryz.f22) F (h22_0_0 v0 v1 v2 v3) K = zj28 N F v0 v1 v2 v3 (fun y0 => K (.exit 0) (x22_0_0_k0 y0)) := by
  intro F
  induction F with
  | zero => intros; rfl
  | succ F ih =>
    intros
    rw [rounds_next]
    refine (vst22_0_0 (zj26 N) (zj28 N) N _ _ _ _ (fun s => (lp Tryz.f22 0).rounds lay (E22 N) (retMask Tryz.f22) F s K) K).trans ?_
    simp only [ih]
    rfl
theorem lk22_0 (N : Nat) : lookL (E22 (β := β) N).loops (lp Tryz.f22 0).id = LS22_0 N := by kernel_rfl
theorem rk22_0 (N : Nat) : RoundsOK lay (E22 (β := β) N) (retMask Tryz.f22) (lp Tryz.f22 0) := by
  intro s K r h
  rw [lk22_0] at h
  unfold LS22_0 VLS22_0 at h
  cases hb : shpSt (h22_0_0 ByteArray.empty 0 0 0) s with
  | true =>
    rw [hb, cond_true] at h
    exact ⟨N, by rw [← shpSt_ref hb, fl22_0_0 s]; unfold p22_0_0 at h ⊢; exact (ro22_0_0 N K N _ _ _ _).trans h⟩
  | false =>
  rw [hb, cond_false] at h
  clear hb
  cases h
theorem ve22_0 (N : Nat) (a0 : Int) (a1 : Int) (K : TV → O β) : evFn lay (VE22 zq26 zq28 N) Tryz.f22 [.v (.agg [.int .i64 a0, .int .i64 a1])] K = zb29 zq28 N a0 a1 (fun z2 => K (.v (.one (.str z2)))) := by kernel_rfl
theorem o22 (N : Nat) : SpecOK (β := β) inv Tryz.prog 22 (S22 N) := by
  refine spec_of lay_ok mixed (E := E22 N) (specs_loops (specs_cons (o20 N) specs_nil)) muts_nil gs_nil Tryz.func22 (by kernel_rfl) 1 (by kernel_rfl) ⟨trivial, rk22_0 N⟩ fun args K r h => ?_
  unfold S22 VS22 at h
  split at h
  · exact (ve22_0 (zj26 N) (zj28 N) N _ _ _).trans h
  · cases h
def VS121 (N : Nat) : Rv.Spec β := fun args K => match args with
  | [.v (.agg [.int .i64 a0, .int .i64 a1])] => zq34 a0 a1 (fun z2 => K (.v (.one (.int .i64 z2))))
  | _ => none
def S121 (N : Nat) : Rv.Spec β := VS121 (zj34 N) N
def h121_0_0 (v0 : Int) (v1 : Int) (v2 : Int) (v3 : Int) : St := ⟨tund :: .v (.one (.ptr 0 0)) :: tund :: .v (.one (.int .i64 v0)) :: .v (.one (.int .i64 v1)) :: tn 33 [], [.cells 25 [.int .i64 v2, .int .i64 v3]]⟩
def x121_0_0_k0 (y0 : Int) : St := ⟨tn 3 (.v (.one (.int .i64 y0)) :: tn 34 []), []⟩
def h121_1_0 (v0 : Int) (v1 : Int) (v2 : Int) (v3 : Int) (v4 : Int) (v5 : Int) : St := ⟨tund :: .v (.one (.ptr 0 0)) :: tund :: .v (.one (.int .i64 v0)) :: .v (.one (.int .i64 v1)) :: .v (.one (.int .i64 v2)) :: .v (.one (.int .i64 v3)) :: tn 31 [], [.cells 25 [.int .i64 v4, .int .i64 v5]]⟩
def x121_1_0_k0 (y0 : Int) (y1 : Int) (y2 : Int) (y3 : Int) (y4 : Int) : St := ⟨tund :: .v (.one (.ptr 0 0)) :: tund :: .v (.one (.int .i64 y0)) :: .v (.one (.int .i64 y1)) :: .v (.one (.int .i64 y2)) :: tn 32 [], [.cells 25 [.int .i64 y3, .int .i64 y4]]⟩
def p121_0_0 {γ : Type} (f : Int → Int → Int → Int → γ) (s : St) : γ := f (intS (oneA (vT (nx tund s.tmps 3)))) (intS (oneA (vT (nx tund s.tmps 4)))) (intS (nx .und (cellsB (nx .dead s.blks 0)) 0)) (intS (nx .und (cellsB (nx .dead s.blks 0)) 1))
theorem fl121_0_0 (s : St) : refSt (h121_0_0 0 0 0 0) s = p121_0_0 h121_0_0 s := by kernel_rfl
def VLS121_0 (N : Nat) : LSpec β := fun s K => cond (shpSt (h121_0_0 0 0 0 0) s) (p121_0_0 (fun v0 v1 v2 v3 => zq33 N v0 v1 v2 v3 (fun y0 => K (.exit 0) (x121_0_0_k0 y0))) s) (none)
def LS121_0 (N : Nat) : LSpec β := VLS121_0 (zj33 N) N
def p121_1_0 {γ : Type} (f : Int → Int → Int → Int → Int → Int → γ) (s : St) : γ := f (intS (oneA (vT (nx tund s.tmps 3)))) (intS (oneA (vT (nx tund s.tmps 4)))) (intS (oneA (vT (nx tund s.tmps 5)))) (intS (oneA (vT (nx tund s.tmps 6)))) (intS (nx .und (cellsB (nx .dead s.blks 0)) 0)) (intS (nx .und (cellsB (nx .dead s.blks 0)) 1))
theorem fl121_1_0 (s : St) : refSt (h121_1_0 0 0 0 0 0 0) s = p121_1_0 h121_1_0 s := by kernel_rfl
def VLS121_2 (N : Nat) : LSpec β := fun s K => cond (shpSt (h121_1_0 0 0 0 0 0 0) s) ((fun (v0 : Int) (v1 : Int) (v2 : Int) (v3 : Int) (v4 : Int) (v5 : Int) => zq31 N v0 v1 v2 v3 v4 v5 (fun y0 y1 y2 y3 y4 => K (.exit 2) (x121_1_0_k0 y0 y1 y2 y3 y4))) (intS (oneA (vT (nx tund s.tmps 3)))) (intS (oneA (vT (nx tund s.tmps 4)))) (intS (oneA (vT (nx tund s.tmps 5)))) (intS (oneA (vT (nx tund s.tmps 6)))) (intS (nx .und (cellsB (nx .dead s.blks 0)) 0)) (intS (nx .und (cellsB (nx .dead s.blks 0)) 1))) (none)
def LS121_2 (N : Nat) : LSpec β := VLS121_2 (zj31 N) N
def VE121 (N : Nat) : Env β := ⟨[], [], [(0, VLS121_0 zq33 N), (2, VLS121_2 zq31 N)], [], ⟨[], [], [], []⟩⟩
def E121 (N : Nat) : Env β := VE121 (zj31 N) (zj33 N) N
theorem vst121_0_0 (N : Nat) (v0 : Int) (v1 : Int) (v2 : Int) (v3 : Int) (rec_ : St → O β) (K : Exit → St → O β) :
    stB lay (VE121 zq31 zq33 N) Tryz.f121 0 (h121_0_0 v0 v1 v2 v3) rec_ K = zb32 zq31 N v0 v1 v2 v3 (fun v0 v1 v2 v3 => rec_ (h121_0_0 v0 v1 v2 v3)) (fun y0 => K (.exit 0) (x121_0_0_k0 y0)) := by kernel_rfl
theorem ro121_0_0 (N : Nat) (K : Exit → St → O β) : ∀ (F : Nat) (v0 : Int) (v1 : Int) (v2 : Int) (v3 : Int), (lp Tryz.f121 0).rounds lay (E121 N) (retMask Tryz.f121) F (h121_0_0 v0 v1 v2 v3) K = zj33 N F v0 v1 v2 v3 (fun y0 => K (.exit 0) (x121_0_0_k0 y0)) := by
  intro F
  induction F with
  | zero => intros; rfl
  | succ F ih =>
    intros
    rw [rounds_next]
    refine (vst121_0_0 (zj31 N) (zj33 N) N _ _ _ _ (fun s => (lp Tryz.f121 0).rounds lay (E121 N) (retMask Tryz.f121) F s K) K).trans ?_
    simp only [ih]
    rfl
theorem lk121_0 (N : Nat) : lookL (E121 (β := β) N).loops (lp Tryz.f121 0).id = LS121_0 N := by kernel_rfl
theorem rk121_0 (N : Nat) : RoundsOK lay (E121 (β := β) N) (retMask Tryz.f121) (lp Tryz.f121 0) := by
  intro s K r h
  rw [lk121_0] at h
  unfold LS121_0 VLS121_0 at h
  cases hb : shpSt (h121_0_0 0 0 0 0) s with
  | true =>
    rw [hb, cond_true] at h
    exact ⟨N, by rw [← shpSt_ref hb, fl121_0_0 s]; unfold p121_0_0 at h ⊢; exact (ro121_0_0 N K N _ _ _ _).trans h⟩
  | false =>
  rw [hb, cond_false] at h
  clear hb
  cases h
theorem vst121_1_0 (N : Nat) (v0 : Int) (v1 : Int) (v2 : Int) (v3 : Int) (v4 : Int) (v5 : Int) (rec_ : St → O β) (K : Exit → St → O β) :
    stB lay (VE121 zq31 zq33 N) Tryz.f121 1 (h121_1_0 v0 v1 v2 v3 v4 v5) rec_ K = zb30 N v0 v1 v2 v3 v4 v5 (fun v0 v1 v2 v3 v4 v5 => rec_ (h121_1_0 v0 v1 v2 v3 v4 v5)) (fun y0 y1 y2 y3 y4 => K (.exit 2) (x121_1_0_k0 y0 y1 y2 y3 y4)) := by kernel_rfl
theorem ro121_1_0 (N : Nat) (K : Exit → St → O β) : ∀ (F : Nat) (v0 : Int) (v1 : Int) (v2 : Int) (v3 : Int) (v4 : Int) (v5 : Int), (lp Tryz.f121 1).rounds lay (E121 N) (retMask Tryz.f121) F (h121_1_0 v0 v1 v2 v3 v4 v5) K = zj31 N F v0 v1 v2 v3 v4 v5 (fun y0 y1 y2 y3 y4 => K (.exit 2) (x121_1_0_k0 y0 y1 y2 y3 y4)) := by
  intro F
  induction F with
  | zero => intros; rfl
  | succ F ih =>
    intros
    rw [rounds_next]
    refine (vst121_1_0 (zj31 N) (zj33 N) N _ _ _ _ _ _ (fun s => (lp Tryz.f121 1).rounds lay (E121 N) (retMask Tryz.f121) F s K) K).trans ?_
    simp only [ih]
    rfl
theorem lk121_2 (N : Nat) : lookL (E121 (β := β) N).loops (lp Tryz.f121 1).id = LS121_2 N := by kernel_rfl
theorem rk121_2 (N : Nat) : RoundsOK lay (E121 (β := β) N) (retMask Tryz.f121) (lp Tryz.f121 1) := by
  intro s K r h
  rw [lk121_2] at h
  unfold LS121_2 VLS121_2 at h
  cases hb : shpSt (h121_1_0 0 0 0 0 0 0) s with
  | true =>
    rw [hb, cond_true] at h
    exact ⟨N, by rw [← shpSt_ref hb, fl121_1_0 s]; exact (ro121_1_0 N K N (intS (oneA (vT (nx tund s.tmps 3)))) (intS (oneA (vT (nx tund s.tmps 4)))) (intS (oneA (vT (nx tund s.tmps 5)))) (intS (oneA (vT (nx tund s.tmps 6)))) (intS (nx .und (cellsB (nx .dead s.blks 0)) 0)) (intS (nx .und (cellsB (nx .dead s.blks 0)) 1))).trans h⟩
  | false =>
  rw [hb, cond_false] at h
  clear hb
  cases h
theorem ve121_0 (N : Nat) (a0 : Int) (a1 : Int) (K : TV → O β) : evFn lay (VE121 zq31 zq33 N) Tryz.f121 [.v (.agg [.int .i64 a0, .int .i64 a1])] K = zb34 zq33 N a0 a1 (fun z2 => K (.v (.one (.int .i64 z2)))) := by kernel_rfl
theorem o121 (N : Nat) : SpecOK (β := β) inv Tryz.prog 121 (S121 N) := by
  refine spec_of lay_ok mixed (E := E121 N) (specs_loops specs_nil) muts_nil gs_nil Tryz.func121 (by kernel_rfl) 2 (by kernel_rfl) ⟨⟨trivial, rk121_0 N⟩, rk121_2 N⟩ fun args K r h => ?_
  unfold S121 VS121 at h
  split at h
  · exact (ve121_0 (zj31 N) (zj33 N) N _ _ _).trans h
  · cases h
def VS123 (N : Nat) : Rv.Spec β := fun args K => match args with
  | [.v (.one (.int .i64 a0)), .v (.agg [.int .i64 a1, .int .i64 a2])] => zq35 a0 a1 a2 (fun z3 => K (.v (.one (.bool z3))))
  | _ => none
def S123 (N : Nat) : Rv.Spec β := VS123 (zj35 N) N
def VE123 (N : Nat) : Env β := ⟨[(57, VS57 zq25 N)], [], [], [], ⟨[], [], [], []⟩⟩
def E123 (N : Nat) : Env β := VE123 (zj25 N) N
theorem ve123_0 (N : Nat) (a0 : Int) (a1 : Int) (a2 : Int) (K : TV → O β) : evFn lay (VE123 zq25 N) Tryz.f123 [.v (.one (.int .i64 a0)), .v (.agg [.int .i64 a1, .int .i64 a2])] K = zb35 zq25 N a0 a1 a2 (fun z3 => K (.v (.one (.bool z3)))) := by kernel_rfl
theorem o123 (N : Nat) : SpecOK (β := β) inv Tryz.prog 123 (S123 N) := by
  refine spec_of lay_ok mixed (E := E123 N) (specs_loops (specs_cons (o57 N) specs_nil)) muts_nil gs_nil Tryz.func123 (by kernel_rfl) 0 (by kernel_rfl) trivial fun args K r h => ?_
  unfold S123 VS123 at h
  split at h
  · exact (ve123_0 (zj25 N) N _ _ _ _).trans h
  · cases h
def VS140 (N : Nat) : Rv.Spec β := fun args K => match args with
  | [.v (.one (.int .i64 a0)), .v (.agg [.int .i64 a1, .int .i64 a2])] => zq38 a0 a1 a2 (fun z3 => K (.v (.one (.str z3))))
  | _ => none
def S140 (N : Nat) : Rv.Spec β := VS140 (zj38 N) N
def h140_0_0 (v0 : Int) (v1 : ByteArray) (v2 : Int) (v3 : Int) (v4 : Int) : St := ⟨.v (.one (.int .i64 v0)) :: tund :: tund :: .v (.one (.ptr 0 0)) :: tund :: .v (.one (.str v1)) :: .v (.one (.int .i64 v2)) :: tn 38 [], [.cells 93 [.int .i64 v3, .int .i64 v4]]⟩
def x140_0_0_k0 (y0 : Int) (y1 : ByteArray) (y2 : Int) (y3 : Int) : St := ⟨.v (.one (.int .i64 y0)) :: tund :: tund :: .v (.one (.ptr 0 0)) :: tund :: .v (.one (.str y1)) :: tn 39 [], [.cells 93 [.int .i64 y2, .int .i64 y3]]⟩
def p140_0_0 {γ : Type} (f : Int → ByteArray → Int → Int → Int → γ) (s : St) : γ := f (intS (oneA (vT (nx tund s.tmps 0)))) (strS (oneA (vT (nx tund s.tmps 5)))) (intS (oneA (vT (nx tund s.tmps 6)))) (intS (nx .und (cellsB (nx .dead s.blks 0)) 0)) (intS (nx .und (cellsB (nx .dead s.blks 0)) 1))
theorem fl140_0_0 (s : St) : refSt (h140_0_0 0 ByteArray.empty 0 0 0) s = p140_0_0 h140_0_0 s := by kernel_rfl
def VLS140_0 (N : Nat) : LSpec β := fun s K => cond (shpSt (h140_0_0 0 ByteArray.empty 0 0 0) s) (p140_0_0 (fun v0 v1 v2 v3 v4 => zq37 N v0 v1 v2 v3 v4 (fun y0 y1 y2 y3 => K (.exit 0) (x140_0_0_k0 y0 y1 y2 y3))) s) (none)
def LS140_0 (N : Nat) : LSpec β := VLS140_0 (zj37 N) N
def VE140 (N : Nat) : Env β := ⟨[(123, VS123 zq35 N)], [], [(0, VLS140_0 zq37 N)], [], ⟨[], [], [], []⟩⟩
def E140 (N : Nat) : Env β := VE140 (zj35 N) (zj37 N) N
theorem vst140_0_0 (N : Nat) (v0 : Int) (v1 : ByteArray) (v2 : Int) (v3 : Int) (v4 : Int) (rec_ : St → O β) (K : Exit → St → O β) :
    stB lay (VE140 zq35 zq37 N) Tryz.f140 0 (h140_0_0 v0 v1 v2 v3 v4) rec_ K = zb36 zq35 N v0 v1 v2 v3 v4 (fun v0 v1 v2 v3 v4 => rec_ (h140_0_0 v0 v1 v2 v3 v4)) (fun y0 y1 y2 y3 => K (.exit 0) (x140_0_0_k0 y0 y1 y2 y3)) := by kernel_rfl
theorem ro140_0_0 (N : Nat) (K : Exit → St → O β) : ∀ (F : Nat) (v0 : Int) (v1 : ByteArray) (v2 : Int) (v3 : Int) (v4 : Int), (lp Tryz.f140 0).rounds lay (E140 N) (retMask Tryz.f140) F (h140_0_0 v0 v1 v2 v3 v4) K = zj37 N F v0 v1 v2 v3 v4 (fun y0 y1 y2 y3 => K (.exit 0) (x140_0_0_k0 y0 y1 y2 y3)) := by
  intro F
  induction F with
  | zero => intros; rfl
  | succ F ih =>
    intros
    rw [rounds_next]
    refine (vst140_0_0 (zj35 N) (zj37 N) N _ _ _ _ _ (fun s => (lp Tryz.f140 0).rounds lay (E140 N) (retMask Tryz.f140) F s K) K).trans ?_
    simp only [ih]
    rfl
theorem lk140_0 (N : Nat) : lookL (E140 (β := β) N).loops (lp Tryz.f140 0).id = LS140_0 N := by kernel_rfl
theorem rk140_0 (N : Nat) : RoundsOK lay (E140 (β := β) N) (retMask Tryz.f140) (lp Tryz.f140 0) := by
  intro s K r h
  rw [lk140_0] at h
  unfold LS140_0 VLS140_0 at h
  cases hb : shpSt (h140_0_0 0 ByteArray.empty 0 0 0) s with
  | true =>
    rw [hb, cond_true] at h
    exact ⟨N, by rw [← shpSt_ref hb, fl140_0_0 s]; unfold p140_0_0 at h ⊢; exact (ro140_0_0 N K N _ _ _ _ _).trans h⟩
  | false =>
  rw [hb, cond_false] at h
  clear hb
  cases h
theorem ve140_0 (N : Nat) (a0 : Int) (a1 : Int) (a2 : Int) (K : TV → O β) : evFn lay (VE140 zq35 zq37 N) Tryz.f140 [.v (.one (.int .i64 a0)), .v (.agg [.int .i64 a1, .int .i64 a2])] K = zb38 zq35 zq37 N a0 a1 a2 (fun z3 => K (.v (.one (.str z3)))) := by kernel_rfl
theorem o140 (N : Nat) : SpecOK (β := β) inv Tryz.prog 140 (S140 N) := by
  refine spec_of lay_ok mixed (E := E140 N) (specs_loops (specs_cons (o123 N) specs_nil)) muts_nil gs_nil Tryz.func140 (by kernel_rfl) 1 (by kernel_rfl) ⟨trivial, rk140_0 N⟩ fun args K r h => ?_
  unfold S140 VS140 at h
  split at h
  · exact (ve140_0 (zj35 N) (zj37 N) N _ _ _ _).trans h
  · cases h
def VS70 (N : Nat) : Rv.Spec β := fun args K => match args with
  | [.v (.agg [.int .i64 a0, .int .i64 a1])] => zq41 a0 a1 (fun z2 => K (.v (.one (.str z2))))
  | _ => none
def S70 (N : Nat) : Rv.Spec β := VS70 (zj41 N) N
def h70_0_0 (v0 : ByteArray) (v1 : Int) (v2 : Int) (v3 : Int) (v4 : Int) : St := ⟨tund :: .v (.one (.ptr 0 0)) :: tund :: .v (.one (.str v0)) :: .v (.one (.int .i64 v1)) :: .v (.one (.int .i64 v2)) :: tn 32 [], [.cells 25 [.int .i64 v3, .int .i64 v4]]⟩
def x70_0_0_k0 (y0 : ByteArray) : St := ⟨tn 3 (.v (.one (.str y0)) :: tn 34 []), []⟩
def p70_0_0 {γ : Type} (f : ByteArray → Int → Int → Int → Int → γ) (s : St) : γ := f (strS (oneA (vT (nx tund s.tmps 3)))) (intS (oneA (vT (nx tund s.tmps 4)))) (intS (oneA (vT (nx tund s.tmps 5)))) (intS (nx .und (cellsB (nx .dead s.blks 0)) 0)) (intS (nx .und (cellsB (nx .dead s.blks 0)) 1))
theorem fl70_0_0 (s : St) : refSt (h70_0_0 ByteArray.empty 0 0 0 0) s = p70_0_0 h70_0_0 s := by kernel_rfl
def VLS70_0 (N : Nat) : LSpec β := fun s K => cond (shpSt (h70_0_0 ByteArray.empty 0 0 0 0) s) (p70_0_0 (fun v0 v1 v2 v3 v4 => zq40 N v0 v1 v2 v3 v4 (fun y0 => K (.exit 0) (x70_0_0_k0 y0))) s) (none)
def LS70_0 (N : Nat) : LSpec β := VLS70_0 (zj40 N) N
def VE70 (N : Nat) : Env β := ⟨[(20, VS20 zq26 N), (121, VS121 zq34 N), (140, VS140 zq38 N)], [], [(0, VLS70_0 zq40 N)], [], ⟨[], [], [], []⟩⟩
def E70 (N : Nat) : Env β := VE70 (zj26 N) (zj34 N) (zj38 N) (zj40 N) N
theorem vst70_0_0 (N : Nat) (v0 : ByteArray) (v1 : Int) (v2 : Int) (v3 : Int) (v4 : Int) (rec_ : St → O β) (K : Exit → St → O β) :
    stB lay (VE70 zq26 zq34 zq38 zq40 N) Tryz.f70 0 (h70_0_0 v0 v1 v2 v3 v4) rec_ K = zb39 zq38 N v0 v1 v2 v3 v4 (fun v0 v1 v2 v3 v4 => rec_ (h70_0_0 v0 v1 v2 v3 v4)) (fun y0 => K (.exit 0) (x70_0_0_k0 y0)) := by kernel_rfl
theorem ro70_0_0 (N : Nat) (K : Exit → St → O β) : ∀ (F : Nat) (v0 : ByteArray) (v1 : Int) (v2 : Int) (v3 : Int) (v4 : Int), (lp Tryz.f70 0).rounds lay (E70 N) (retMask Tryz.f70) F (h70_0_0 v0 v1 v2 v3 v4) K = zj40 N F v0 v1 v2 v3 v4 (fun y0 => K (.exit 0) (x70_0_0_k0 y0)) := by
  intro F
  induction F with
  | zero => intros; rfl
  | succ F ih =>
    intros
    rw [rounds_next]
    refine (vst70_0_0 (zj26 N) (zj34 N) (zj38 N) (zj40 N) N _ _ _ _ _ (fun s => (lp Tryz.f70 0).rounds lay (E70 N) (retMask Tryz.f70) F s K) K).trans ?_
    simp only [ih]
    rfl
theorem lk70_0 (N : Nat) : lookL (E70 (β := β) N).loops (lp Tryz.f70 0).id = LS70_0 N := by kernel_rfl
theorem rk70_0 (N : Nat) : RoundsOK lay (E70 (β := β) N) (retMask Tryz.f70) (lp Tryz.f70 0) := by
  intro s K r h
  rw [lk70_0] at h
  unfold LS70_0 VLS70_0 at h
  cases hb : shpSt (h70_0_0 ByteArray.empty 0 0 0 0) s with
  | true =>
    rw [hb, cond_true] at h
    exact ⟨N, by rw [← shpSt_ref hb, fl70_0_0 s]; unfold p70_0_0 at h ⊢; exact (ro70_0_0 N K N _ _ _ _ _).trans h⟩
  | false =>
  rw [hb, cond_false] at h
  clear hb
  cases h
theorem ve70_0 (N : Nat) (a0 : Int) (a1 : Int) (K : TV → O β) : evFn lay (VE70 zq26 zq34 zq38 zq40 N) Tryz.f70 [.v (.agg [.int .i64 a0, .int .i64 a1])] K = zb41 zq26 zq34 zq40 N a0 a1 (fun z2 => K (.v (.one (.str z2)))) := by kernel_rfl
theorem o70 (N : Nat) : SpecOK (β := β) inv Tryz.prog 70 (S70 N) := by
  refine spec_of lay_ok mixed (E := E70 N) (specs_loops (specs_cons (o20 N) (specs_cons (o121 N) (specs_cons (o140 N) specs_nil)))) muts_nil gs_nil Tryz.func70 (by kernel_rfl) 1 (by kernel_rfl) ⟨trivial, rk70_0 N⟩ fun args K r h => ?_
  unfold S70 VS70 at h
  split at h
  · exact (ve70_0 (zj26 N) (zj34 N) (zj38 N) (zj40 N) N _ _ _).trans h
  · cases h
def VS124 (N : Nat) : Rv.Spec β := fun args K => match args with
  | [.v (.one (.int .i64 a0)), .v (.agg [.int .i64 a1, .int .i64 a2])] => zq44 a0 a1 a2 (fun z3 => K (.v (.one (.int .i64 z3))))
  | _ => none
def S124 (N : Nat) : Rv.Spec β := VS124 (zj44 N) N
def h124_0_0 (v0 : Int) (v1 : Int) (v2 : Int) (v3 : Int) (v4 : Int) : St := ⟨.v (.one (.int .i64 v0)) :: tund :: tund :: .v (.one (.ptr 0 0)) :: tund :: .v (.one (.int .i64 v1)) :: .v (.one (.int .i64 v2)) :: tn 18 [], [.cells 93 [.int .i64 v3, .int .i64 v4]]⟩
def x124_0_0_k0 (y0 : Int) : St := ⟨tn 5 (.v (.one (.int .i64 y0)) :: tn 19 []), []⟩
def p124_0_0 {γ : Type} (f : Int → Int → Int → Int → Int → γ) (s : St) : γ := f (intS (oneA (vT (nx tund s.tmps 0)))) (intS (oneA (vT (nx tund s.tmps 5)))) (intS (oneA (vT (nx tund s.tmps 6)))) (intS (nx .und (cellsB (nx .dead s.blks 0)) 0)) (intS (nx .und (cellsB (nx .dead s.blks 0)) 1))
theorem fl124_0_0 (s : St) : refSt (h124_0_0 0 0 0 0 0) s = p124_0_0 h124_0_0 s := by kernel_rfl
def VLS124_0 (N : Nat) : LSpec β := fun s K => cond (shpSt (h124_0_0 0 0 0 0 0) s) (p124_0_0 (fun v0 v1 v2 v3 v4 => zq43 N v0 v1 v2 v3 v4 (fun y0 => K (.exit 0) (x124_0_0_k0 y0))) s) (none)
def LS124_0 (N : Nat) : LSpec β := VLS124_0 (zj43 N) N
def VE124 (N : Nat) : Env β := ⟨[], [], [(0, VLS124_0 zq43 N)], [], ⟨[], [], [], []⟩⟩
def E124 (N : Nat) : Env β := VE124 (zj43 N) N
theorem vst124_0_0 (N : Nat) (v0 : Int) (v1 : Int) (v2 : Int) (v3 : Int) (v4 : Int) (rec_ : St → O β) (K : Exit → St → O β) :
    stB lay (VE124 zq43 N) Tryz.f124 0 (h124_0_0 v0 v1 v2 v3 v4) rec_ K = zb42 N v0 v1 v2 v3 v4 (fun v0 v1 v2 v3 v4 => rec_ (h124_0_0 v0 v1 v2 v3 v4)) (fun y0 => K (.exit 0) (x124_0_0_k0 y0)) := by kernel_rfl
theorem ro124_0_0 (N : Nat) (K : Exit → St → O β) : ∀ (F : Nat) (v0 : Int) (v1 : Int) (v2 : Int) (v3 : Int) (v4 : Int), (lp Tryz.f124 0).rounds lay (E124 N) (retMask Tryz.f124) F (h124_0_0 v0 v1 v2 v3 v4) K = zj43 N F v0 v1 v2 v3 v4 (fun y0 => K (.exit 0) (x124_0_0_k0 y0)) := by
  intro F
  induction F with
  | zero => intros; rfl
  | succ F ih =>
    intros
    rw [rounds_next]
    refine (vst124_0_0 (zj43 N) N _ _ _ _ _ (fun s => (lp Tryz.f124 0).rounds lay (E124 N) (retMask Tryz.f124) F s K) K).trans ?_
    simp only [ih]
    rfl
theorem lk124_0 (N : Nat) : lookL (E124 (β := β) N).loops (lp Tryz.f124 0).id = LS124_0 N := by kernel_rfl
theorem rk124_0 (N : Nat) : RoundsOK lay (E124 (β := β) N) (retMask Tryz.f124) (lp Tryz.f124 0) := by
  intro s K r h
  rw [lk124_0] at h
  unfold LS124_0 VLS124_0 at h
  cases hb : shpSt (h124_0_0 0 0 0 0 0) s with
  | true =>
    rw [hb, cond_true] at h
    exact ⟨N, by rw [← shpSt_ref hb, fl124_0_0 s]; unfold p124_0_0 at h ⊢; exact (ro124_0_0 N K N _ _ _ _ _).trans h⟩
  | false =>
  rw [hb, cond_false] at h
  clear hb
  cases h
theorem ve124_0 (N : Nat) (a0 : Int) (a1 : Int) (a2 : Int) (K : TV → O β) : evFn lay (VE124 zq43 N) Tryz.f124 [.v (.one (.int .i64 a0)), .v (.agg [.int .i64 a1, .int .i64 a2])] K = zb44 zq43 N a0 a1 a2 (fun z3 => K (.v (.one (.int .i64 z3)))) := by kernel_rfl
theorem o124 (N : Nat) : SpecOK (β := β) inv Tryz.prog 124 (S124 N) := by
  refine spec_of lay_ok mixed (E := E124 N) (specs_loops specs_nil) muts_nil gs_nil Tryz.func124 (by kernel_rfl) 1 (by kernel_rfl) ⟨trivial, rk124_0 N⟩ fun args K r h => ?_
  unfold S124 VS124 at h
  split at h
  · exact (ve124_0 (zj43 N) N _ _ _ _).trans h
  · cases h
def VS236 (N : Nat) : Rv.Spec β := fun args K => match args with
  | [.v (.agg [.int .i64 a0, .int .i64 a1]), .v (.agg [.int .i64 a2, .int .i64 a3])] => zq45 a0 a1 a2 a3 (fun z4 => K (.v (.one (.bool z4))))
  | _ => none
def S236 (N : Nat) : Rv.Spec β := VS236 (zj45 N) N
def VE236 (N : Nat) : Env β := ⟨[(124, VS124 zq44 N)], [], [], [], ⟨[], [], [], []⟩⟩
def E236 (N : Nat) : Env β := VE236 (zj44 N) N
theorem ve236_0 (N : Nat) (a0 : Int) (a1 : Int) (a2 : Int) (a3 : Int) (K : TV → O β) : evFn lay (VE236 zq44 N) Tryz.f236 [.v (.agg [.int .i64 a0, .int .i64 a1]), .v (.agg [.int .i64 a2, .int .i64 a3])] K = zb45 zq44 N a0 a1 a2 a3 (fun z4 => K (.v (.one (.bool z4)))) := by kernel_rfl
theorem o236 (N : Nat) : SpecOK (β := β) inv Tryz.prog 236 (S236 N) := by
  refine spec_of lay_ok mixed (E := E236 N) (specs_loops (specs_cons (o124 N) specs_nil)) muts_nil gs_nil Tryz.func236 (by kernel_rfl) 0 (by kernel_rfl) trivial fun args K r h => ?_
  unfold S236 VS236 at h
  split at h
  · exact (ve236_0 (zj44 N) N _ _ _ _ _).trans h
  · cases h
end Go.Proofs.YtemihnclhcobnaaGreatDoor
