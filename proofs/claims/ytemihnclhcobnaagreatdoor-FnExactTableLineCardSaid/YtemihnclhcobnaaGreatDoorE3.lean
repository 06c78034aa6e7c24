/- The functions that the claims reach answer as their texts do. -/
import Derived.Test.YtemihnclhcobnaaGreatDoorE2
namespace Go.Proofs.YtemihnclhcobnaaGreatDoor
open Go.Rv
set_option maxRecDepth 100000
set_option maxHeartbeats 2000000
set_option linter.unusedVariables false
variable {β : Type}
variable (zq1 : Y1 β) (zq2 : Y2 β) (zq16 : Y10 β) (zq40 : Y24 β) (zq41 : Y10 β) (zq62 : Y35 β) (zq63 : Y34 β) (zq65 : Y33 β) (zq66 : Y2 β) (zq68 : Y36 β) (zq69 : Y3 β) (zq71 : Y39 β) (zq73 : Y38 β) (zq74 : Y37 β) (zq75 : Y2 β) (zq76 : Y6 β) (zq77 : Y2 β) (zq78 : Y10 β)
def VS94 (N : Nat) : Rv.Spec β := fun args K => match args with
  | [.v (.agg [.int .i64 a0, .int .i64 a1]), .v (.one (.int .i64 a2)), .v (.one (.int .i64 a3))] => zq63 a0 a1 a2 a3 (fun z4 => K (.v (.one (.bool z4))))
  | _ => none
def S94 (N : Nat) : Rv.Spec β := VS94 (zj63 N) N
def h94_0_0 (v0 : Int) (v1 : Int) (v2 : Int) (v3 : Int) (v4 : Int) : St := ⟨tund :: .v (.one (.int .i64 v0)) :: .v (.one (.int .i64 v1)) :: .v (.one (.ptr 0 0)) :: tn 3 (.v (.one (.int .i64 v2)) :: tn 55 []), [.cells 25 [.int .i64 v3, .int .i64 v4]]⟩
def x94_0_0_k0 (y0 : Bool) : St := ⟨tn 6 (.v (.one (.bool y0)) :: tn 56 []), []⟩
def x94_0_0_k1 : St := ⟨tn 63 [], []⟩
def p94_0_0 {γ : Type} (f : Int → Int → Int → Int → Int → γ) (s : St) : γ := f (intS (oneA (vT (nx tund s.tmps 1)))) (intS (oneA (vT (nx tund s.tmps 2)))) (intS (oneA (vT (nx tund s.tmps 7)))) (intS (nx .und (cellsB (nx .dead s.blks 0)) 0)) (intS (nx .und (cellsB (nx .dead s.blks 0)) 1))
theorem fl94_0_0 (s : St) : refSt (h94_0_0 0 0 0 0 0) s = p94_0_0 h94_0_0 s := by kernel_rfl
def VLS94_0 (N : Nat) : LSpec β := fun s K => cond (shpSt (h94_0_0 0 0 0 0 0) s) (p94_0_0 (fun v0 v1 v2 v3 v4 => zq62 N v0 v1 v2 v3 v4 (fun y0 => K .ret (x94_0_0_k0 y0)) (K (.exit 0) (x94_0_0_k1 ))) s) (none)
def LS94_0 (N : Nat) : LSpec β := VLS94_0 (zj62 N) N
def VE94 (N : Nat) : Env β := ⟨[(20, VS20 zq2 N), (57, VS57 zq1 N)], [], [(0, VLS94_0 zq62 N)], [], ⟨[], [], [157], [222]⟩⟩
def E94 (N : Nat) : Env β := VE94 (zj1 N) (zj2 N) (zj62 N) N
theorem vst94_0_0 (N : Nat) (v0 : Int) (v1 : Int) (v2 : Int) (v3 : Int) (v4 : Int) (rec_ : St → O β) (K : Exit → St → O β) :
    stB lay (VE94 zq1 zq2 zq62 N) Tryz.f94 0 (h94_0_0 v0 v1 v2 v3 v4) rec_ K = zb61 N v0 v1 v2 v3 v4 (fun v0 v1 v2 v3 v4 => rec_ (h94_0_0 v0 v1 v2 v3 v4)) (fun y0 => K .ret (x94_0_0_k0 y0)) (K (.exit 0) (x94_0_0_k1 )) := by kernel_rfl
theorem ro94_0_0 (N : Nat) (K : Exit → St → O β) : ∀ (F : Nat) (v0 : Int) (v1 : Int) (v2 : Int) (v3 : Int) (v4 : Int), (lp Tryz.f94 0).rounds lay (E94 N) (retMask Tryz.f94) F (h94_0_0 v0 v1 v2 v3 v4) K = zj62 N F v0 v1 v2 v3 v4 (fun y0 => K .ret (x94_0_0_k0 y0)) (K (.exit 0) (x94_0_0_k1 )) := by
  intro F
  induction F with
  | zero => intros; rfl
  | succ F ih =>
    intros
    rw [rounds_next]
    refine (vst94_0_0 (zj1 N) (zj2 N) (zj62 N) N _ _ _ _ _ (fun s => (lp Tryz.f94 0).rounds lay (E94 N) (retMask Tryz.f94) F s K) K).trans ?_
    simp only [ih]
    rfl
theorem lk94_0 (N : Nat) : lookL (E94 (β := β) N).loops (lp Tryz.f94 0).id = LS94_0 N := by kernel_rfl
theorem rk94_0 (N : Nat) : RoundsOK lay (E94 (β := β) N) (retMask Tryz.f94) (lp Tryz.f94 0) := by
  intro s K r h
  rw [lk94_0] at h
  unfold LS94_0 VLS94_0 at h
  cases hb : shpSt (h94_0_0 0 0 0 0 0) s with
  | true =>
    rw [hb, cond_true] at h
    exact ⟨N, by rw [← shpSt_ref hb, fl94_0_0 s]; unfold p94_0_0 at h ⊢; exact (ro94_0_0 N K N _ _ _ _ _).trans h⟩
  | false =>
  rw [hb, cond_false] at h
  clear hb
  cases h
theorem ve94_0 (N : Nat) (a0 : Int) (a1 : Int) (a2 : Int) (a3 : Int) (K : TV → O β) : evFn lay (VE94 zq1 zq2 zq62 N) Tryz.f94 [.v (.agg [.int .i64 a0, .int .i64 a1]), .v (.one (.int .i64 a2)), .v (.one (.int .i64 a3))] K = zb63 zq1 zq2 zq62 N a0 a1 a2 a3 (fun z4 => K (.v (.one (.bool z4)))) := by kernel_rfl
theorem o94 (N : Nat) : SpecOK (β := β) inv Tryz.prog 94 (S94 N) := by
  refine spec_of lay_ok mixed (E := E94 N) (specs_loops (specs_cons (o20 N) (specs_cons (o57 N) specs_nil))) muts_nil gs_nil Tryz.func94 (by kernel_rfl) 1 (by kernel_rfl) ⟨trivial, rk94_0 N⟩ fun args K r h => ?_
  unfold S94 VS94 at h
  split at h
  · exact (ve94_0 (zj1 N) (zj2 N) (zj62 N) N _ _ _ _ _).trans h
  · cases h
def VS32 (N : Nat) : Rv.Spec β := fun args K => match args with
  | [.v (.agg [.int .i64 a0, .int .i64 a1])] => zq66 a0 a1 (fun z2 => K (.v (.one (.bool z2))))
  | _ => none
def S32 (N : Nat) : Rv.Spec β := VS32 (zj66 N) N
def h32_0_0 (v0 : Int) (v1 : Int) (v2 : Int) : St := ⟨tund :: .v (.one (.ptr 0 0)) :: tund :: .v (.one (.int .i64 v0)) :: tn 18 [], [.cells 25 [.int .i64 v1, .int .i64 v2]]⟩
def x32_0_0_k0 (y0 : Bool) : St := ⟨tund :: tund :: .v (.one (.bool y0)) :: tn 19 [], []⟩
def x32_0_0_k1 (y0 : Int) (y1 : Int) : St := ⟨tund :: .v (.one (.ptr 0 0)) :: tn 20 [], [.cells 25 [.int .i64 y0, .int .i64 y1]]⟩
def p32_0_0 {γ : Type} (f : Int → Int → Int → γ) (s : St) : γ := f (intS (oneA (vT (nx tund s.tmps 3)))) (intS (nx .und (cellsB (nx .dead s.blks 0)) 0)) (intS (nx .und (cellsB (nx .dead s.blks 0)) 1))
theorem fl32_0_0 (s : St) : refSt (h32_0_0 0 0 0) s = p32_0_0 h32_0_0 s := by kernel_rfl
def VLS32_0 (N : Nat) : LSpec β := fun s K => cond (shpSt (h32_0_0 0 0 0) s) (p32_0_0 (fun v0 v1 v2 => zq65 N v0 v1 v2 (fun y0 => K .ret (x32_0_0_k0 y0)) (fun y0 y1 => K (.exit 0) (x32_0_0_k1 y0 y1))) s) (none)
def LS32_0 (N : Nat) : LSpec β := VLS32_0 (zj65 N) N
def VE32 (N : Nat) : Env β := ⟨[(20, VS20 zq2 N), (94, VS94 zq63 N)], [], [(0, VLS32_0 zq65 N)], [], ⟨[], [], [157], [222]⟩⟩
def E32 (N : Nat) : Env β := VE32 (zj2 N) (zj63 N) (zj65 N) N
theorem vst32_0_0 (N : Nat) (v0 : Int) (v1 : Int) (v2 : Int) (rec_ : St → O β) (K : Exit → St → O β) :
    stB lay (VE32 zq2 zq63 zq65 N) Tryz.f32 0 (h32_0_0 v0 v1 v2) rec_ K = zb64 zq2 zq63 N v0 v1 v2 (fun v0 v1 v2 => rec_ (h32_0_0 v0 v1 v2)) (fun y0 => K .ret (x32_0_0_k0 y0)) (fun y0 y1 => K (.exit 0) (x32_0_0_k1 y0 y1)) := by kernel_rfl
theorem ro32_0_0 (N : Nat) (K : Exit → St → O β) : ∀ (F : Nat) (v0 : Int) (v1 : Int) (v2 : Int), (lp Tryz.f32 0).rounds lay (E32 N) (retMask Tryz.f32) F (h32_0_0 v0 v1 v2) K = zj65 N F v0 v1 v2 (fun y0 => K .ret (x32_0_0_k0 y0)) (fun y0 y1 => K (.exit 0) (x32_0_0_k1 y0 y1)) := by
  intro F
  induction F with
  | zero => intros; rfl
  | succ F ih =>
    intros
    rw [rounds_next]
    refine (vst32_0_0 (zj2 N) (zj63 N) (zj65 N) N _ _ _ (fun s => (lp Tryz.f32 0).rounds lay (E32 N) (retMask Tryz.f32) F s K) K).trans ?_
    simp only [ih]
    rfl
theorem lk32_0 (N : Nat) : lookL (E32 (β := β) N).loops (lp Tryz.f32 0).id = LS32_0 N := by kernel_rfl
theorem rk32_0 (N : Nat) : RoundsOK lay (E32 (β := β) N) (retMask Tryz.f32) (lp Tryz.f32 0) := by
  intro s K r h
  rw [lk32_0] at h
  unfold LS32_0 VLS32_0 at h
  cases hb : shpSt (h32_0_0 0 0 0) s with
  | true =>
    rw [hb, cond_true] at h
    exact ⟨N, by rw [← shpSt_ref hb, fl32_0_0 s]; unfold p32_0_0 at h ⊢; exact (ro32_0_0 N K N _ _ _).trans h⟩
  | false =>
  rw [hb, cond_false] at h
  clear hb
  cases h
theorem ve32_0 (N : Nat) (a0 : Int) (a1 : Int) (K : TV → O β) : evFn lay (VE32 zq2 zq63 zq65 N) Tryz.f32 [.v (.agg [.int .i64 a0, .int .i64 a1])] K = zb66 zq2 zq65 N a0 a1 (fun z2 => K (.v (.one (.bool z2)))) := by kernel_rfl
theorem o32 (N : Nat) : SpecOK (β := β) inv Tryz.prog 32 (S32 N) := by
  refine spec_of lay_ok mixed (E := E32 N) (specs_loops (specs_cons (o20 N) (specs_cons (o94 N) specs_nil))) muts_nil gs_nil Tryz.func32 (by kernel_rfl) 1 (by kernel_rfl) ⟨trivial, rk32_0 N⟩ fun args K r h => ?_
  unfold S32 VS32 at h
  split at h
  · exact (ve32_0 (zj2 N) (zj63 N) (zj65 N) N _ _ _).trans h
  · cases h
def VS161 (N : Nat) : Rv.Spec β := fun args K => match args with
  | [.v (.one (.int .i64 a0)), .v (.one (.int .i64 a1)), .v (.one (.int .i64 a2))] => zq69 a0 a1 a2 (fun z3 => K (.v (.one (.int .i64 z3))))
  | _ => none
def S161 (N : Nat) : Rv.Spec β := VS161 (zj69 N) N
def h161_0_0 (v0 : Int) (v1 : Int) (v2 : Int) (v3 : Int) (v4 : Int) : St := ⟨.v (.one (.int .i64 v0)) :: .v (.one (.int .i64 v1)) :: .v (.one (.int .i64 v2)) :: tn 4 (.v (.one (.int .i64 v3)) :: .v (.one (.int .i64 v4)) :: tn 18 []), []⟩
def x161_0_0_k0 (y0 : Int) : St := ⟨tn 7 (.v (.one (.int .i64 y0)) :: tn 19 []), []⟩
def p161_0_0 {γ : Type} (f : Int → Int → Int → Int → Int → γ) (s : St) : γ := f (intS (oneA (vT (nx tund s.tmps 0)))) (intS (oneA (vT (nx tund s.tmps 1)))) (intS (oneA (vT (nx tund s.tmps 2)))) (intS (oneA (vT (nx tund s.tmps 7)))) (intS (oneA (vT (nx tund s.tmps 8))))
theorem fl161_0_0 (s : St) : refSt (h161_0_0 0 0 0 0 0) s = p161_0_0 h161_0_0 s := by kernel_rfl
def VLS161_0 (N : Nat) : LSpec β := fun s K => cond (shpSt (h161_0_0 0 0 0 0 0) s) (p161_0_0 (fun v0 v1 v2 v3 v4 => zq68 N v0 v1 v2 v3 v4 (fun y0 => K (.exit 0) (x161_0_0_k0 y0))) s) (none)
def LS161_0 (N : Nat) : LSpec β := VLS161_0 (zj68 N) N
def VE161 (N : Nat) : Env β := ⟨[(24, VS24 zq16 N)], [], [(0, VLS161_0 zq68 N)], [], ⟨[], [], [157], [222]⟩⟩
def E161 (N : Nat) : Env β := VE161 (zj16 N) (zj68 N) N
theorem vst161_0_0 (N : Nat) (v0 : Int) (v1 : Int) (v2 : Int) (v3 : Int) (v4 : Int) (rec_ : St → O β) (K : Exit → St → O β) :
    stB lay (VE161 zq16 zq68 N) Tryz.f161 0 (h161_0_0 v0 v1 v2 v3 v4) rec_ K = zb67 zq16 N v0 v1 v2 v3 v4 (fun v0 v1 v2 v3 v4 => rec_ (h161_0_0 v0 v1 v2 v3 v4)) (fun y0 => K (.exit 0) (x161_0_0_k0 y0)) := by kernel_rfl
theorem ro161_0_0 (N : Nat) (K : Exit → St → O β) : ∀ (F : Nat) (v0 : Int) (v1 : Int) (v2 : Int) (v3 : Int) (v4 : Int), (lp Tryz.f161 0).rounds lay (E161 N) (retMask Tryz.f161) F (h161_0_0 v0 v1 v2 v3 v4) K = zj68 N F v0 v1 v2 v3 v4 (fun y0 => K (.exit 0) (x161_0_0_k0 y0)) := by
  intro F
  induction F with
  | zero => intros; rfl
  | succ F ih =>
    intros
    rw [rounds_next]
    refine (vst161_0_0 (zj16 N) (zj68 N) N _ _ _ _ _ (fun s => (lp Tryz.f161 0).rounds lay (E161 N) (retMask Tryz.f161) F s K) K).trans ?_
    simp only [ih]
    rfl
theorem lk161_0 (N : Nat) : lookL (E161 (β := β) N).loops (lp Tryz.f161 0).id = LS161_0 N := by kernel_rfl
theorem rk161_0 (N : Nat) : RoundsOK lay (E161 (β := β) N) (retMask Tryz.f161) (lp Tryz.f161 0) := by
  intro s K r h
  rw [lk161_0] at h
  unfold LS161_0 VLS161_0 at h
  cases hb : shpSt (h161_0_0 0 0 0 0 0) s with
  | true =>
    rw [hb, cond_true] at h
    exact ⟨N, by rw [← shpSt_ref hb, fl161_0_0 s]; unfold p161_0_0 at h ⊢; exact (ro161_0_0 N K N _ _ _ _ _).trans h⟩
  | false =>
  rw [hb, cond_false] at h
  clear hb
  cases h
theorem ve161_0 (N : Nat) (a0 : Int) (a1 : Int) (a2 : Int) (K : TV → O β) : evFn lay (VE161 zq16 zq68 N) Tryz.f161 [.v (.one (.int .i64 a0)), .v (.one (.int .i64 a1)), .v (.one (.int .i64 a2))] K = zb69 zq68 N a0 a1 a2 (fun z3 => K (.v (.one (.int .i64 z3)))) := by kernel_rfl
theorem o161 (N : Nat) : SpecOK (β := β) inv Tryz.prog 161 (S161 N) := by
  refine spec_of lay_ok mixed (E := E161 N) (specs_loops (specs_cons (o24 N) specs_nil)) muts_nil gs_nil Tryz.func161 (by kernel_rfl) 1 (by kernel_rfl) ⟨trivial, rk161_0 N⟩ fun args K r h => ?_
  unfold S161 VS161 at h
  split at h
  · exact (ve161_0 (zj16 N) (zj68 N) N _ _ _ _).trans h
  · cases h
def VS95 (N : Nat) : Rv.Spec β := fun args K => match args with
  | [.v (.agg [.int .i64 a0, .int .i64 a1])] => zq74 a0 a1 (fun z2 z3 z4 z5 => K (.tup [.one (.int .i64 z2), .one (.int .i64 z3), .one (.int .i64 z4), .one (.bool z5)]))
  | _ => none
def S95 (N : Nat) : Rv.Spec β := VS95 (zj74 N) N
def h95_0_0 (v0 : Int) (v1 : Int) (v2 : Int) (v3 : Int) (v4 : Int) (v5 : Int) : St := ⟨tund :: .v (.one (.ptr 0 0)) :: tn 4 (.v (.one (.int .i64 v0)) :: .v (.one (.int .i64 v1)) :: .v (.one (.int .i64 v2)) :: .v (.one (.int .i64 v3)) :: tn 34 []), [.cells 25 [.int .i64 v4, .int .i64 v5]]⟩
def x95_0_0_k0 (y0 : Int) (y1 : Int) (y2 : Int) : St := ⟨tn 6 (.v (.one (.int .i64 y0)) :: .v (.one (.int .i64 y1)) :: .v (.one (.int .i64 y2)) :: tn 35 []), []⟩
def h95_1_0 (v0 : Int) (v1 : Int) (v2 : Int) (v3 : Int) (v4 : Int) (v5 : Int) (v6 : Int) : St := ⟨tund :: .v (.one (.ptr 0 0)) :: tn 4 (.v (.one (.int .i64 v0)) :: .v (.one (.int .i64 v1)) :: .v (.one (.int .i64 v2)) :: .v (.one (.int .i64 v3)) :: .v (.one (.int .i64 v4)) :: tn 33 []), [.cells 25 [.int .i64 v5, .int .i64 v6]]⟩
def x95_1_0_k0 (y0 : Int) (y1 : Int) (y2 : Int) (y3 : Int) (y4 : Int) (y5 : Int) : St := ⟨tund :: .v (.one (.ptr 0 0)) :: tn 4 (.v (.one (.int .i64 y0)) :: .v (.one (.int .i64 y1)) :: .v (.one (.int .i64 y2)) :: .v (.one (.int .i64 y3)) :: tn 34 []), [.cells 25 [.int .i64 y4, .int .i64 y5]]⟩
def p95_0_0 {γ : Type} (f : Int → Int → Int → Int → Int → Int → γ) (s : St) : γ := f (intS (oneA (vT (nx tund s.tmps 6)))) (intS (oneA (vT (nx tund s.tmps 7)))) (intS (oneA (vT (nx tund s.tmps 8)))) (intS (oneA (vT (nx tund s.tmps 9)))) (intS (nx .und (cellsB (nx .dead s.blks 0)) 0)) (intS (nx .und (cellsB (nx .dead s.blks 0)) 1))
theorem fl95_0_0 (s : St) : refSt (h95_0_0 0 0 0 0 0 0) s = p95_0_0 h95_0_0 s := by kernel_rfl
def VLS95_0 (N : Nat) : LSpec β := fun s K => cond (shpSt (h95_0_0 0 0 0 0 0 0) s) (p95_0_0 (fun v0 v1 v2 v3 v4 v5 => zq73 N v0 v1 v2 v3 v4 v5 (fun y0 y1 y2 => K (.exit 0) (x95_0_0_k0 y0 y1 y2))) s) (none)
def LS95_0 (N : Nat) : LSpec β := VLS95_0 (zj73 N) N
def p95_1_0 {γ : Type} (f : Int → Int → Int → Int → Int → Int → Int → γ) (s : St) : γ := f (intS (oneA (vT (nx tund s.tmps 6)))) (intS (oneA (vT (nx tund s.tmps 7)))) (intS (oneA (vT (nx tund s.tmps 8)))) (intS (oneA (vT (nx tund s.tmps 9)))) (intS (oneA (vT (nx tund s.tmps 10)))) (intS (nx .und (cellsB (nx .dead s.blks 0)) 0)) (intS (nx .und (cellsB (nx .dead s.blks 0)) 1))
theorem fl95_1_0 (s : St) : refSt (h95_1_0 0 0 0 0 0 0 0) s = p95_1_0 h95_1_0 s := by kernel_rfl
def VLS95_2 (N : Nat) : LSpec β := fun s K => cond (shpSt (h95_1_0 0 0 0 0 0 0 0) s) ((fun (v0 : Int) (v1 : Int) (v2 : Int) (v3 : Int) (v4 : Int) (v5 : Int) (v6 : Int) => zq71 N v0 v1 v2 v3 v4 v5 v6 (fun y0 y1 y2 y3 y4 y5 => K (.exit 2) (x95_1_0_k0 y0 y1 y2 y3 y4 y5))) (intS (oneA (vT (nx tund s.tmps 6)))) (intS (oneA (vT (nx tund s.tmps 7)))) (intS (oneA (vT (nx tund s.tmps 8)))) (intS (oneA (vT (nx tund s.tmps 9)))) (intS (oneA (vT (nx tund s.tmps 10)))) (intS (nx .und (cellsB (nx .dead s.blks 0)) 0)) (intS (nx .und (cellsB (nx .dead s.blks 0)) 1))) (none)
def LS95_2 (N : Nat) : LSpec β := VLS95_2 (zj71 N) N
def VE95 (N : Nat) : Env β := ⟨[(20, VS20 zq2 N), (161, VS161 zq69 N), (24, VS24 zq16 N)], [], [(0, VLS95_0 zq73 N), (2, VLS95_2 zq71 N)], [], ⟨[], [], [157], [222]⟩⟩
def E95 (N : Nat) : Env β := VE95 (zj2 N) (zj16 N) (zj69 N) (zj71 N) (zj73 N) N
theorem vst95_0_0 (N : Nat) (v0 : Int) (v1 : Int) (v2 : Int) (v3 : Int) (v4 : Int) (v5 : Int) (rec_ : St → O β) (K : Exit → St → O β) :
    stB lay (VE95 zq2 zq16 zq69 zq71 zq73 N) Tryz.f95 0 (h95_0_0 v0 v1 v2 v3 v4 v5) rec_ K = zb72 zq71 N v0 v1 v2 v3 v4 v5 (fun v0 v1 v2 v3 v4 v5 => rec_ (h95_0_0 v0 v1 v2 v3 v4 v5)) (fun y0 y1 y2 => K (.exit 0) (x95_0_0_k0 y0 y1 y2)) := by kernel_rfl
theorem ro95_0_0 (N : Nat) (K : Exit → St → O β) : ∀ (F : Nat) (v0 : Int) (v1 : Int) (v2 : Int) (v3 : Int) (v4 : Int) (v5 : Int), (lp Tryz.f95 0).rounds lay (E95 N) (retMask Tryz.f95) F (h95_0_0 v0 v1 v2 v3 v4 v5) K = zj73 N F v0 v1 v2 v3 v4 v5 (fun y0 y1 y2 => K (.exit 0) (x95_0_0_k0 y0 y1 y2)) := by
  intro F
  induction F with
  | zero => intros; rfl
  | succ F ih =>
    intros
    rw [rounds_next]
    refine (vst95_0_0 (zj2 N) (zj16 N) (zj69 N) (zj71 N) (zj73 N) N _ _ _ _ _ _ (fun s => (lp Tryz.f95 0).rounds lay (E95 N) (retMask Tryz.f95) F s K) K).trans ?_
    simp only [ih]
    rfl
theorem lk95_0 (N : Nat) : lookL (E95 (β := β) N).loops (lp Tryz.f95 0).id = LS95_0 N := by kernel_rfl
theorem rk95_0 (N : Nat) : RoundsOK lay (E95 (β := β) N) (retMask Tryz.f95) (lp Tryz.f95 0) := by
  intro s K r h
  rw [lk95_0] at h
  unfold LS95_0 VLS95_0 at h
  cases hb : shpSt (h95_0_0 0 0 0 0 0 0) s with
  | true =>
    rw [hb, cond_true] at h
    exact ⟨N, by rw [← shpSt_ref hb, fl95_0_0 s]; unfold p95_0_0 at h ⊢; exact (ro95_0_0 N K N _ _ _ _ _ _).trans h⟩
  | false =>
  rw [hb, cond_false] at h
  clear hb
  cases h
theorem vst95_1_0 (N : Nat) (v0 : Int) (v1 : Int) (v2 : Int) (v3 : Int) (v4 : Int) (v5 : Int) (v6 : Int) (rec_ : St → O β) (K : Exit → St → O β) :
    stB lay (VE95 zq2 zq16 zq69 zq71 zq73 N) Tryz.f95 1 (h95_1_0 v0 v1 v2 v3 v4 v5 v6) rec_ K = zb70 zq16 zq69 N v0 v1 v2 v3 v4 v5 v6 (fun v0 v1 v2 v3 v4 v5 v6 => rec_ (h95_1_0 v0 v1 v2 v3 v4 v5 v6)) (fun y0 y1 y2 y3 y4 y5 => K (.exit 2) (x95_1_0_k0 y0 y1 y2 y3 y4 y5)) := by kernel_rfl
theorem ro95_1_0 (N : Nat) (K : Exit → St → O β) : ∀ (F : Nat) (v0 : Int) (v1 : Int) (v2 : Int) (v3 : Int) (v4 : Int) (v5 : Int) (v6 : Int), (lp Tryz.f95 1).rounds lay (E95 N) (retMask Tryz.f95) F (h95_1_0 v0 v1 v2 v3 v4 v5 v6) K = zj71 N F v0 v1 v2 v3 v4 v5 v6 (fun y0 y1 y2 y3 y4 y5 => K (.exit 2) (x95_1_0_k0 y0 y1 y2 y3 y4 y5)) := by
  intro F
  induction F with
  | zero => intros; rfl
  | succ F ih =>
    intros
    rw [rounds_next]
    refine (vst95_1_0 (zj2 N) (zj16 N) (zj69 N) (zj71 N) (zj73 N) N _ _ _ _ _ _ _ (fun s => (lp Tryz.f95 1).rounds lay (E95 N) (retMask Tryz.f95) F s K) K).trans ?_
    simp only [ih]
    rfl
theorem lk95_2 (N : Nat) : lookL (E95 (β := β) N).loops (lp Tryz.f95 1).id = LS95_2 N := by kernel_rfl
theorem rk95_2 (N : Nat) : RoundsOK lay (E95 (β := β) N) (retMask Tryz.f95) (lp Tryz.f95 1) := by
  intro s K r h
  rw [lk95_2] at h
  unfold LS95_2 VLS95_2 at h
  cases hb : shpSt (h95_1_0 0 0 0 0 0 0 0) s with
  | true =>
    rw [hb, cond_true] at h
    exact ⟨N, by rw [← shpSt_ref hb, fl95_1_0 s]; exact (ro95_1_0 N K N (intS (oneA (vT (nx tund s.tmps 6)))) (intS (oneA (vT (nx tund s.tmps 7)))) (intS (oneA (vT (nx tund s.tmps 8)))) (intS (oneA (vT (nx tund s.tmps 9)))) (intS (oneA (vT (nx tund s.tmps 10)))) (intS (nx .und (cellsB (nx .dead s.blks 0)) 0)) (intS (nx .und (cellsB (nx .dead s.blks 0)) 1))).trans h⟩
  | false =>
  rw [hb, cond_false] at h
  clear hb
  cases h
theorem ve95_0 (N : Nat) (a0 : Int) (a1 : Int) (K : TV → O β) : evFn lay (VE95 zq2 zq16 zq69 zq71 zq73 N) Tryz.f95 [.v (.agg [.int .i64 a0, .int .i64 a1])] K = zb74 zq2 zq73 N a0 a1 (fun z2 z3 z4 z5 => K (.tup [.one (.int .i64 z2), .one (.int .i64 z3), .one (.int .i64 z4), .one (.bool z5)])) := by kernel_rfl
theorem o95 (N : Nat) : SpecOK (β := β) inv Tryz.prog 95 (S95 N) := by
  refine spec_of lay_ok mixed (E := E95 N) (specs_loops (specs_cons (o20 N) (specs_cons (o161 N) (specs_cons (o24 N) specs_nil)))) muts_nil gs_nil Tryz.func95 (by kernel_rfl) 2 (by kernel_rfl) ⟨⟨trivial, rk95_0 N⟩, rk95_2 N⟩ fun args K r h => ?_
  unfold S95 VS95 at h
  split at h
  · exact (ve95_0 (zj2 N) (zj16 N) (zj69 N) (zj71 N) (zj73 N) N _ _ _).trans h
  · cases h
def VS33 (N : Nat) : Rv.Spec β := fun args K => match args with
  | [.v (.agg [.int .i64 a0, .int .i64 a1])] => zq75 a0 a1 (fun z2 => K (.v (.one (.bool z2))))
  | _ => none
def S33 (N : Nat) : Rv.Spec β := VS33 (zj75 N) N
def VE33 (N : Nat) : Env β := ⟨[(95, VS95 zq74 N)], [], [], [], ⟨[], [], [157], [222]⟩⟩
def E33 (N : Nat) : Env β := VE33 (zj74 N) N
theorem ve33_0 (N : Nat) (a0 : Int) (a1 : Int) (K : TV → O β) : evFn lay (VE33 zq74 N) Tryz.f33 [.v (.agg [.int .i64 a0, .int .i64 a1])] K = zb75 zq74 N a0 a1 (fun z2 => K (.v (.one (.bool z2)))) := by kernel_rfl
theorem o33 (N : Nat) : SpecOK (β := β) inv Tryz.prog 33 (S33 N) := by
  refine spec_of lay_ok mixed (E := E33 N) (specs_loops (specs_cons (o95 N) specs_nil)) muts_nil gs_nil Tryz.func33 (by kernel_rfl) 0 (by kernel_rfl) trivial fun args K r h => ?_
  unfold S33 VS33 at h
  split at h
  · exact (ve33_0 (zj74 N) N _ _ _).trans h
  · cases h
def VS96 (N : Nat) : Rv.Spec β := fun args K => match args with
  | [.v (.agg [.int .i64 a0, .int .i64 a1])] => zq76 a0 a1 (fun z2 z3 z4 => K (.tup [.agg [.int .i64 z2, .int .i64 z3], .one (.bool z4)]))
  | _ => none
def S96 (N : Nat) : Rv.Spec β := VS96 (zj76 N) N
def VE96 (N : Nat) : Env β := ⟨[(20, VS20 zq2 N), (159, VS159 zq40 N), (160, VS160 zq41 N)], [], [], [], ⟨[], [], [157], [222]⟩⟩
def E96 (N : Nat) : Env β := VE96 (zj2 N) (zj40 N) (zj41 N) N
theorem ve96_0 (N : Nat) (a0 : Int) (a1 : Int) (K : TV → O β) : evFn lay (VE96 zq2 zq40 zq41 N) Tryz.f96 [.v (.agg [.int .i64 a0, .int .i64 a1])] K = zb76 zq2 zq40 zq41 N a0 a1 (fun z2 z3 z4 => K (.tup [.agg [.int .i64 z2, .int .i64 z3], .one (.bool z4)])) := by kernel_rfl
theorem o96 (N : Nat) : SpecOK (β := β) inv Tryz.prog 96 (S96 N) := by
  refine spec_of lay_ok mixed (E := E96 N) (specs_loops (specs_cons (o20 N) (specs_cons (o159 N) (specs_cons (o160 N) specs_nil)))) muts_nil gs_nil Tryz.func96 (by kernel_rfl) 0 (by kernel_rfl) trivial fun args K r h => ?_
  unfold S96 VS96 at h
  split at h
  · exact (ve96_0 (zj2 N) (zj40 N) (zj41 N) N _ _ _).trans h
  · cases h
def VS34 (N : Nat) : Rv.Spec β := fun args K => match args with
  | [.v (.agg [.int .i64 a0, .int .i64 a1])] => zq77 a0 a1 (fun z2 => K (.v (.one (.bool z2))))
  | _ => none
def S34 (N : Nat) : Rv.Spec β := VS34 (zj77 N) N
def VE34 (N : Nat) : Env β := ⟨[(96, VS96 zq76 N)], [], [], [], ⟨[], [], [157], [222]⟩⟩
def E34 (N : Nat) : Env β := VE34 (zj76 N) N
theorem ve34_0 (N : Nat) (a0 : Int) (a1 : Int) (K : TV → O β) : evFn lay (VE34 zq76 N) Tryz.f34 [.v (.agg [.int .i64 a0, .int .i64 a1])] K = zb77 zq76 N a0 a1 (fun z2 => K (.v (.one (.bool z2)))) := by kernel_rfl
theorem o34 (N : Nat) : SpecOK (β := β) inv Tryz.prog 34 (S34 N) := by
  refine spec_of lay_ok mixed (E := E34 N) (specs_loops (specs_cons (o96 N) specs_nil)) muts_nil gs_nil Tryz.func34 (by kernel_rfl) 0 (by kernel_rfl) trivial fun args K r h => ?_
  unfold S34 VS34 at h
  split at h
  · exact (ve34_0 (zj76 N) N _ _ _).trans h
  · cases h
def VS162 (N : Nat) : Rv.Spec β := fun args K => match args with
  | [.v (.one (.int .i64 a0))] => zq78 a0 (fun z1 => K (.v (.one (.int .i64 z1))))
  | _ => none
def S162 (N : Nat) : Rv.Spec β := VS162 (zj78 N) N
def VE162 (N : Nat) : Env β := ⟨[(24, VS24 zq16 N)], [], [], [], ⟨[], [], [157], [222]⟩⟩
def E162 (N : Nat) : Env β := VE162 (zj16 N) N
theorem ve162_0 (N : Nat) (a0 : Int) (K : TV → O β) : evFn lay (VE162 zq16 N) Tryz.f162 [.v (.one (.int .i64 a0))] K = zb78 zq16 N a0 (fun z1 => K (.v (.one (.int .i64 z1)))) := by kernel_rfl
theorem o162 (N : Nat) : SpecOK (β := β) inv Tryz.prog 162 (S162 N) := by
  refine spec_of lay_ok mixed (E := E162 N) (specs_loops (specs_cons (o24 N) specs_nil)) muts_nil gs_nil Tryz.func162 (by kernel_rfl) 0 (by kernel_rfl) trivial fun args K r h => ?_
  unfold S162 VS162 at h
  split at h
  · exact (ve162_0 (zj16 N) N _ _).trans h
  · cases h
end Go.Proofs.YtemihnclhcobnaaGreatDoor
