/- The functions that the claims reach answer as their texts do. -/
import Derived.Test.YtemihnclhcobnaaGreatDoorE5
namespace Go.Proofs.YtemihnclhcobnaaGreatDoor
open Go.Rv
set_option maxRecDepth 100000
set_option maxHeartbeats 2000000
set_option linter.unusedVariables false
variable {β : Type}
variable (zq104 : Y2 β) (zq105 : Y3 β) (zq106 : Y3 β) (zq107 : Y51 β) (zq108 : Y34 β) (zq109 : Y10 β) (zq110 : Y10 β) (zq111 : Y1 β) (zq113 : Y53 β) (zq114 : Y52 β) (zq115 : Y4 β) (zq116 : Y1 β) (zq118 : Y7 β) (zq119 : Y6 β)
def VS164 (N : Nat) : Rv.Spec β := fun args K => match args with
  | [.v (.one (.int .i64 a0)), .v (.one (.cref [.int .i64 c0, .int .i64 c1] 0)), .v (.one (.cref [.int .i64 c2] 0)), .v (.one (.cref [.int .i64 c3] 0))] => zq107 a0 c0 c1 c2 c3 (fun z1 => K (.v (.one (.bool z1))))
  | _ => none
def S164 (N : Nat) : Rv.Spec β := VS164 (zj107 N) N
def VE164 (N : Nat) : Env β := ⟨[(165, VS165 zq105 N), (103, VS103 zq106 N)], [], [], [], ⟨[], [], [157], [222]⟩⟩
def E164 (N : Nat) : Env β := VE164 (zj105 N) (zj106 N) N
theorem ve164_0 (N : Nat) (a0 : Int) (c0 : Int) (c1 : Int) (c2 : Int) (c3 : Int) (K : TV → O β) : evFn lay (VE164 zq105 zq106 N) Tryz.f164 [.v (.one (.int .i64 a0)), .v (.one (.cref [.int .i64 c0, .int .i64 c1] 0)), .v (.one (.cref [.int .i64 c2] 0)), .v (.one (.cref [.int .i64 c3] 0))] K = zb107 zq105 zq106 N a0 c0 c1 c2 c3 (fun z1 => K (.v (.one (.bool z1)))) := by kernel_rfl
theorem o164 (N : Nat) : SpecOK (β := β) inv Tryz.prog 164 (S164 N) := by
  refine spec_of lay_ok mixed (E := E164 N) (specs_loops (specs_cons (o165 N) (specs_cons (o103 N) specs_nil))) muts_nil gs_nil Tryz.func164 (by kernel_rfl) 0 (by kernel_rfl) trivial fun args K r h => ?_
  unfold S164 VS164 at h
  split at h
  · exact (ve164_0 (zj105 N) (zj106 N) N _ _ _ _ _ _).trans h
  · cases h
def VS224 (N : Nat) : Rv.Spec β := fun args K => match args with
  | [.v (.one (.int .i64 a0)), .v (.one (.cref [.int .i64 c0, .int .i64 c1] 0)), .v (.one (.cref [.int .i64 c2] 0))] => zq108 a0 c0 c1 c2 (fun z1 => K (.v (.one (.bool z1))))
  | _ => none
def S224 (N : Nat) : Rv.Spec β := VS224 (zj108 N) N
def VE224 (N : Nat) : Env β := ⟨[(103, VS103 zq106 N)], [], [], [], ⟨[], [], [157], [222]⟩⟩
def E224 (N : Nat) : Env β := VE224 (zj106 N) N
theorem ve224_0 (N : Nat) (a0 : Int) (c0 : Int) (c1 : Int) (c2 : Int) (K : TV → O β) : evFn lay (VE224 zq106 N) Tryz.f224 [.v (.one (.int .i64 a0)), .v (.one (.cref [.int .i64 c0, .int .i64 c1] 0)), .v (.one (.cref [.int .i64 c2] 0))] K = zb108 zq106 N a0 c0 c1 c2 (fun z1 => K (.v (.one (.bool z1)))) := by kernel_rfl
theorem o224 (N : Nat) : SpecOK (β := β) inv Tryz.prog 224 (S224 N) := by
  refine spec_of lay_ok mixed (E := E224 N) (specs_loops (specs_cons (o103 N) specs_nil)) muts_nil gs_nil Tryz.func224 (by kernel_rfl) 0 (by kernel_rfl) trivial fun args K r h => ?_
  unfold S224 VS224 at h
  split at h
  · exact (ve224_0 (zj106 N) N _ _ _ _ _).trans h
  · cases h
def VS167 (N : Nat) : Rv.Spec β := fun args K => match args with
  | [.v (.one (.int .u64 a0))] => zq109 a0 (fun z1 => K (.v (.one (.int .i64 z1))))
  | _ => none
def S167 (N : Nat) : Rv.Spec β := VS167 (zj109 N) N
def VE167 (N : Nat) : Env β := ⟨[], [], [], [], ⟨[], [], [157], [222]⟩⟩
def E167 (N : Nat) : Env β := VE167 N
theorem ve167_0 (N : Nat) (a0 : Int) (K : TV → O β) : evFn lay (VE167 N) Tryz.f167 [.v (.one (.int .u64 a0))] K = zb109 N a0 (fun z1 => K (.v (.one (.int .i64 z1)))) := by kernel_rfl
theorem o167 (N : Nat) : SpecOK (β := β) inv Tryz.prog 167 (S167 N) := by
  refine spec_of lay_ok mixed (E := E167 N) (specs_loops specs_nil) muts_nil gs_nil Tryz.func167 (by kernel_rfl) 0 (by kernel_rfl) trivial fun args K r h => ?_
  unfold S167 VS167 at h
  split at h
  · exact (ve167_0 N _ _).trans h
  · cases h
def VS105 (N : Nat) : Rv.Spec β := fun args K => match args with
  | [.v (.one (.int .i64 a0))] => zq110 a0 (fun z1 => K (.v (.one (.int .i64 z1))))
  | _ => none
def S105 (N : Nat) : Rv.Spec β := VS105 (zj110 N) N
def VE105 (N : Nat) : Env β := ⟨[(167, VS167 zq109 N)], [], [], [], ⟨[], [], [157], [222]⟩⟩
def E105 (N : Nat) : Env β := VE105 (zj109 N) N
theorem ve105_0 (N : Nat) (a0 : Int) (K : TV → O β) : evFn lay (VE105 zq109 N) Tryz.f105 [.v (.one (.int .i64 a0))] K = zb110 zq109 N a0 (fun z1 => K (.v (.one (.int .i64 z1)))) := by kernel_rfl
theorem o105 (N : Nat) : SpecOK (β := β) inv Tryz.prog 105 (S105 N) := by
  refine spec_of lay_ok mixed (E := E105 N) (specs_loops (specs_cons (o167 N) specs_nil)) muts_nil gs_nil Tryz.func105 (by kernel_rfl) 0 (by kernel_rfl) trivial fun args K r h => ?_
  unfold S105 VS105 at h
  split at h
  · exact (ve105_0 (zj109 N) N _ _).trans h
  · cases h
def VS226 (N : Nat) : Rv.Spec β := fun args K => match args with
  | [.v (.one (.int .i64 a0)), .v (.one (.cref [.int .i64 c0] 0)), .v (.one (.cref [.int .i64 c1] 0))] => zq111 a0 c0 c1 (fun z1 => K (.v (.one (.bool z1))))
  | _ => none
def S226 (N : Nat) : Rv.Spec β := VS226 (zj111 N) N
def VE226 (N : Nat) : Env β := ⟨[(105, VS105 zq110 N)], [], [], [], ⟨[], [], [157], [222]⟩⟩
def E226 (N : Nat) : Env β := VE226 (zj110 N) N
theorem ve226_0 (N : Nat) (a0 : Int) (c0 : Int) (c1 : Int) (K : TV → O β) : evFn lay (VE226 zq110 N) Tryz.f226 [.v (.one (.int .i64 a0)), .v (.one (.cref [.int .i64 c0] 0)), .v (.one (.cref [.int .i64 c1] 0))] K = zb111 zq110 N a0 c0 c1 (fun z1 => K (.v (.one (.bool z1)))) := by kernel_rfl
theorem o226 (N : Nat) : SpecOK (β := β) inv Tryz.prog 226 (S226 N) := by
  refine spec_of lay_ok mixed (E := E226 N) (specs_loops (specs_cons (o105 N) specs_nil)) muts_nil gs_nil Tryz.func226 (by kernel_rfl) 0 (by kernel_rfl) trivial fun args K r h => ?_
  unfold S226 VS226 at h
  split at h
  · exact (ve226_0 (zj110 N) N _ _ _ _).trans h
  · cases h
def VS129 (N : Nat) : Rv.Spec β := fun args K => match args with
  | [.v (.one (.int .i64 a0)), .v (.one (.dfn 164 [([.int .i64 q0, .int .i64 q1], 0), ([.int .i64 q2], 0), ([.int .i64 q3], 0)]))] => zq114 a0 (fun x0 k => zq107 x0 q0 q1 q2 q3 k) (fun z2 z3 => K (.v (.agg [.int .i64 z2, .int .i64 z3])))
  | [.v (.one (.int .i64 a0)), .v (.one (.dfn 224 [([.int .i64 q0, .int .i64 q1], 0), ([.int .i64 q2], 0)]))] => zq114 a0 (fun x0 k => zq108 x0 q0 q1 q2 k) (fun z2 z3 => K (.v (.agg [.int .i64 z2, .int .i64 z3])))
  | [.v (.one (.int .i64 a0)), .v (.one (.dfn 226 [([.int .i64 q0], 0), ([.int .i64 q1], 0)]))] => zq114 a0 (fun x0 k => zq111 x0 q0 q1 k) (fun z2 z3 => K (.v (.agg [.int .i64 z2, .int .i64 z3])))
  | _ => none
def S129 (N : Nat) : Rv.Spec β := VS129 (zj107 N) (zj108 N) (zj111 N) (zj114 N) N
def h129_0_0 (q0 : Int) (q1 : Int) (q2 : Int) (q3 : Int) (v0 : Int) (v1 : Int) (v2 : Int) (v3 : Int) (v4 : Int) (v5 : Int) : St := ⟨tund :: .v (.one (.dfn 164 [([.int .i64 q0, .int .i64 q1], 0), ([.int .i64 q2], 0), ([.int .i64 q3], 0)])) :: tund :: tund :: .v (.one (.ptr 0 0)) :: .v (.one (.ptr 1 0)) :: tn 4 (.v (.one (.int .i64 v0)) :: .v (.one (.int .i64 v1)) :: tn 13 []), [.cells 25 [.int .i64 v2, .int .i64 v3], .cells 25 [.int .i64 v4, .int .i64 v5]]⟩
def x129_0_0_k0 (q0 : Int) (q1 : Int) (q2 : Int) (q3 : Int) (y0 : Int) (y1 : Int) (y2 : Int) (y3 : Int) : St := ⟨tn 4 (.v (.one (.ptr 0 0)) :: .v (.one (.ptr 1 0)) :: tn 19 []), [.cells 25 [.int .i64 y0, .int .i64 y1], .cells 25 [.int .i64 y2, .int .i64 y3]]⟩
def h129_0_1 (q0 : Int) (q1 : Int) (q2 : Int) (v0 : Int) (v1 : Int) (v2 : Int) (v3 : Int) (v4 : Int) (v5 : Int) : St := ⟨tund :: .v (.one (.dfn 224 [([.int .i64 q0, .int .i64 q1], 0), ([.int .i64 q2], 0)])) :: tund :: tund :: .v (.one (.ptr 0 0)) :: .v (.one (.ptr 1 0)) :: tn 4 (.v (.one (.int .i64 v0)) :: .v (.one (.int .i64 v1)) :: tn 13 []), [.cells 25 [.int .i64 v2, .int .i64 v3], .cells 25 [.int .i64 v4, .int .i64 v5]]⟩
def x129_0_1_k0 (q0 : Int) (q1 : Int) (q2 : Int) (y0 : Int) (y1 : Int) (y2 : Int) (y3 : Int) : St := ⟨tn 4 (.v (.one (.ptr 0 0)) :: .v (.one (.ptr 1 0)) :: tn 19 []), [.cells 25 [.int .i64 y0, .int .i64 y1], .cells 25 [.int .i64 y2, .int .i64 y3]]⟩
def h129_0_2 (q0 : Int) (q1 : Int) (v0 : Int) (v1 : Int) (v2 : Int) (v3 : Int) (v4 : Int) (v5 : Int) : St := ⟨tund :: .v (.one (.dfn 226 [([.int .i64 q0], 0), ([.int .i64 q1], 0)])) :: tund :: tund :: .v (.one (.ptr 0 0)) :: .v (.one (.ptr 1 0)) :: tn 4 (.v (.one (.int .i64 v0)) :: .v (.one (.int .i64 v1)) :: tn 13 []), [.cells 25 [.int .i64 v2, .int .i64 v3], .cells 25 [.int .i64 v4, .int .i64 v5]]⟩
def x129_0_2_k0 (q0 : Int) (q1 : Int) (y0 : Int) (y1 : Int) (y2 : Int) (y3 : Int) : St := ⟨tn 4 (.v (.one (.ptr 0 0)) :: .v (.one (.ptr 1 0)) :: tn 19 []), [.cells 25 [.int .i64 y0, .int .i64 y1], .cells 25 [.int .i64 y2, .int .i64 y3]]⟩
def p129_0_0 {γ : Type} (f : Int → Int → Int → Int → Int → Int → Int → Int → Int → Int → γ) (s : St) : γ := f (intF (nx .no (nx ([], 0) (dfnS (oneA (vT (nx tund s.tmps 1)))) 0).1 0)) (intF (nx .no (nx ([], 0) (dfnS (oneA (vT (nx tund s.tmps 1)))) 0).1 1)) (intF (nx .no (nx ([], 0) (dfnS (oneA (vT (nx tund s.tmps 1)))) 1).1 0)) (intF (nx .no (nx ([], 0) (dfnS (oneA (vT (nx tund s.tmps 1)))) 2).1 0)) (intS (oneA (vT (nx tund s.tmps 10)))) (intS (oneA (vT (nx tund s.tmps 11)))) (intS (nx .und (cellsB (nx .dead s.blks 0)) 0)) (intS (nx .und (cellsB (nx .dead s.blks 0)) 1)) (intS (nx .und (cellsB (nx .dead s.blks 1)) 0)) (intS (nx .und (cellsB (nx .dead s.blks 1)) 1))
theorem fl129_0_0 (s : St) : refSt (h129_0_0 0 0 0 0 0 0 0 0 0 0) s = p129_0_0 h129_0_0 s := by kernel_rfl
def p129_0_1 {γ : Type} (f : Int → Int → Int → Int → Int → Int → Int → Int → Int → γ) (s : St) : γ := f (intF (nx .no (nx ([], 0) (dfnS (oneA (vT (nx tund s.tmps 1)))) 0).1 0)) (intF (nx .no (nx ([], 0) (dfnS (oneA (vT (nx tund s.tmps 1)))) 0).1 1)) (intF (nx .no (nx ([], 0) (dfnS (oneA (vT (nx tund s.tmps 1)))) 1).1 0)) (intS (oneA (vT (nx tund s.tmps 10)))) (intS (oneA (vT (nx tund s.tmps 11)))) (intS (nx .und (cellsB (nx .dead s.blks 0)) 0)) (intS (nx .und (cellsB (nx .dead s.blks 0)) 1)) (intS (nx .und (cellsB (nx .dead s.blks 1)) 0)) (intS (nx .und (cellsB (nx .dead s.blks 1)) 1))
theorem fl129_0_1 (s : St) : refSt (h129_0_1 0 0 0 0 0 0 0 0 0) s = p129_0_1 h129_0_1 s := by kernel_rfl
def p129_0_2 {γ : Type} (f : Int → Int → Int → Int → Int → Int → Int → Int → γ) (s : St) : γ := f (intF (nx .no (nx ([], 0) (dfnS (oneA (vT (nx tund s.tmps 1)))) 0).1 0)) (intF (nx .no (nx ([], 0) (dfnS (oneA (vT (nx tund s.tmps 1)))) 1).1 0)) (intS (oneA (vT (nx tund s.tmps 10)))) (intS (oneA (vT (nx tund s.tmps 11)))) (intS (nx .und (cellsB (nx .dead s.blks 0)) 0)) (intS (nx .und (cellsB (nx .dead s.blks 0)) 1)) (intS (nx .und (cellsB (nx .dead s.blks 1)) 0)) (intS (nx .und (cellsB (nx .dead s.blks 1)) 1))
theorem fl129_0_2 (s : St) : refSt (h129_0_2 0 0 0 0 0 0 0 0) s = p129_0_2 h129_0_2 s := by kernel_rfl
def VLS129_0 (N : Nat) : LSpec β := fun s K => cond (shpSt (h129_0_0 0 0 0 0 0 0 0 0 0 0) s) (p129_0_0 (fun q0 q1 q2 q3 v0 v1 v2 v3 v4 v5 => zq113 (fun x0 k => zq107 x0 q0 q1 q2 q3 k) N v0 v1 v2 v3 v4 v5 (fun y0 y1 y2 y3 => K (.exit 0) (x129_0_0_k0 q0 q1 q2 q3 y0 y1 y2 y3))) s) (cond (shpSt (h129_0_1 0 0 0 0 0 0 0 0 0) s) (p129_0_1 (fun q0 q1 q2 v0 v1 v2 v3 v4 v5 => zq113 (fun x0 k => zq108 x0 q0 q1 q2 k) N v0 v1 v2 v3 v4 v5 (fun y0 y1 y2 y3 => K (.exit 0) (x129_0_1_k0 q0 q1 q2 y0 y1 y2 y3))) s) (cond (shpSt (h129_0_2 0 0 0 0 0 0 0 0) s) (p129_0_2 (fun q0 q1 v0 v1 v2 v3 v4 v5 => zq113 (fun x0 k => zq111 x0 q0 q1 k) N v0 v1 v2 v3 v4 v5 (fun y0 y1 y2 y3 => K (.exit 0) (x129_0_2_k0 q0 q1 y0 y1 y2 y3))) s) (none)))
def LS129_0 (N : Nat) : LSpec β := VLS129_0 (zj107 N) (zj108 N) (zj111 N) (zj113 N) N
def VE129 (N : Nat) : Env β := ⟨[(164, VS164 zq107 N), (224, VS224 zq108 N), (226, VS226 zq111 N)], [], [(0, VLS129_0 zq107 zq108 zq111 zq113 N)], [], ⟨[], [], [157], [222]⟩⟩
def E129 (N : Nat) : Env β := VE129 (zj107 N) (zj108 N) (zj111 N) (zj113 N) N
theorem vst129_0_0 (N : Nat) (q0 : Int) (q1 : Int) (q2 : Int) (q3 : Int) (v0 : Int) (v1 : Int) (v2 : Int) (v3 : Int) (v4 : Int) (v5 : Int) (rec_ : St → O β) (K : Exit → St → O β) :
    stB lay (VE129 zq107 zq108 zq111 zq113 N) Tryz.f129 0 (h129_0_0 q0 q1 q2 q3 v0 v1 v2 v3 v4 v5) rec_ K = zb112 N (fun x0 k => zq107 x0 q0 q1 q2 q3 k) v0 v1 v2 v3 v4 v5 (fun v0 v1 v2 v3 v4 v5 => rec_ (h129_0_0 q0 q1 q2 q3 v0 v1 v2 v3 v4 v5)) (fun y0 y1 y2 y3 => K (.exit 0) (x129_0_0_k0 q0 q1 q2 q3 y0 y1 y2 y3)) := by kernel_rfl
theorem ro129_0_0 (N : Nat) (q0 : Int) (q1 : Int) (q2 : Int) (q3 : Int) (K : Exit → St → O β) : ∀ (F : Nat) (v0 : Int) (v1 : Int) (v2 : Int) (v3 : Int) (v4 : Int) (v5 : Int), (lp Tryz.f129 0).rounds lay (E129 N) (retMask Tryz.f129) F (h129_0_0 q0 q1 q2 q3 v0 v1 v2 v3 v4 v5) K = zj113 N (fun x0 k => zj107 N x0 q0 q1 q2 q3 k) F v0 v1 v2 v3 v4 v5 (fun y0 y1 y2 y3 => K (.exit 0) (x129_0_0_k0 q0 q1 q2 q3 y0 y1 y2 y3)) := by
  intro F
  induction F with
  | zero => intros; rfl
  | succ F ih =>
    intros
    rw [rounds_next]
    refine (vst129_0_0 (zj107 N) (zj108 N) (zj111 N) (zj113 N) N q0 q1 q2 q3 _ _ _ _ _ _ (fun s => (lp Tryz.f129 0).rounds lay (E129 N) (retMask Tryz.f129) F s K) K).trans ?_
    simp only [ih]
    rfl
theorem vst129_0_1 (N : Nat) (q0 : Int) (q1 : Int) (q2 : Int) (v0 : Int) (v1 : Int) (v2 : Int) (v3 : Int) (v4 : Int) (v5 : Int) (rec_ : St → O β) (K : Exit → St → O β) :
    stB lay (VE129 zq107 zq108 zq111 zq113 N) Tryz.f129 0 (h129_0_1 q0 q1 q2 v0 v1 v2 v3 v4 v5) rec_ K = zb112 N (fun x0 k => zq108 x0 q0 q1 q2 k) v0 v1 v2 v3 v4 v5 (fun v0 v1 v2 v3 v4 v5 => rec_ (h129_0_1 q0 q1 q2 v0 v1 v2 v3 v4 v5)) (fun y0 y1 y2 y3 => K (.exit 0) (x129_0_1_k0 q0 q1 q2 y0 y1 y2 y3)) := by kernel_rfl
theorem ro129_0_1 (N : Nat) (q0 : Int) (q1 : Int) (q2 : Int) (K : Exit → St → O β) : ∀ (F : Nat) (v0 : Int) (v1 : Int) (v2 : Int) (v3 : Int) (v4 : Int) (v5 : Int), (lp Tryz.f129 0).rounds lay (E129 N) (retMask Tryz.f129) F (h129_0_1 q0 q1 q2 v0 v1 v2 v3 v4 v5) K = zj113 N (fun x0 k => zj108 N x0 q0 q1 q2 k) F v0 v1 v2 v3 v4 v5 (fun y0 y1 y2 y3 => K (.exit 0) (x129_0_1_k0 q0 q1 q2 y0 y1 y2 y3)) := by
  intro F
  induction F with
  | zero => intros; rfl
  | succ F ih =>
    intros
    rw [rounds_next]
    refine (vst129_0_1 (zj107 N) (zj108 N) (zj111 N) (zj113 N) N q0 q1 q2 _ _ _ _ _ _ (fun s => (lp Tryz.f129 0).rounds lay (E129 N) (retMask Tryz.f129) F s K) K).trans ?_
    simp only [ih]
    rfl
theorem vst129_0_2 (N : Nat) (q0 : Int) (q1 : Int) (v0 : Int) (v1 : Int) (v2 : Int) (v3 : Int) (v4 : Int) (v5 : Int) (rec_ : St → O β) (K : Exit → St → O β) :
    stB lay (VE129 zq107 zq108 zq111 zq113 N) Tryz.f129 0 (h129_0_2 q0 q1 v0 v1 v2 v3 v4 v5) rec_ K = zb112 N (fun x0 k => zq111 x0 q0 q1 k) v0 v1 v2 v3 v4 v5 (fun v0 v1 v2 v3 v4 v5 => rec_ (h129_0_2 q0 q1 v0 v1 v2 v3 v4 v5)) (fun y0 y1 y2 y3 => K (.exit 0) (x129_0_2_k0 q0 q1 y0 y1 y2 y3)) := by kernel_rfl
theorem ro129_0_2 (N : Nat) (q0 : Int) (q1 : Int) (K : Exit → St → O β) : ∀ (F : Nat) (v0 : Int) (v1 : Int) (v2 : Int) (v3 : Int) (v4 : Int) (v5 : Int), (lp Tryz.f129 0).rounds lay (E129 N) (retMask Tryz.f129) F (h129_0_2 q0 q1 v0 v1 v2 v3 v4 v5) K = zj113 N (fun x0 k => zj111 N x0 q0 q1 k) F v0 v1 v2 v3 v4 v5 (fun y0 y1 y2 y3 => K (.exit 0) (x129_0_2_k0 q0 q1 y0 y1 y2 y3)) := by
  intro F
  induction F with
  | zero => intros; rfl
  | succ F ih =>
    intros
    rw [rounds_next]
    refine (vst129_0_2 (zj107 N) (zj108 N) (zj111 N) (zj113 N) N q0 q1 _ _ _ _ _ _ (fun s => (lp Tryz.f129 0).rounds lay (E129 N) (retMask Tryz.f129) F s K) K).trans ?_
    simp only [ih]
    rfl
theorem lk129_0 (N : Nat) : lookL (E129 (β := β) N).loops (lp Tryz.f129 0).id = LS129_0 N := by kernel_rfl
theorem rk129_0 (N : Nat) : RoundsOK lay (E129 (β := β) N) (retMask Tryz.f129) (lp Tryz.f129 0) := by
  intro s K r h
  rw [lk129_0] at h
  unfold LS129_0 VLS129_0 at h
  cases hb : shpSt (h129_0_0 0 0 0 0 0 0 0 0 0 0) s with
  | true =>
    rw [hb, cond_true] at h
    exact ⟨N, by rw [← shpSt_ref hb, fl129_0_0 s]; unfold p129_0_0 at h ⊢; exact (ro129_0_0 N _ _ _ _ K N _ _ _ _ _ _).trans h⟩
  | false =>
  rw [hb, cond_false] at h
  clear hb
  cases hb : shpSt (h129_0_1 0 0 0 0 0 0 0 0 0) s with
  | true =>
    rw [hb, cond_true] at h
    exact ⟨N, by rw [← shpSt_ref hb, fl129_0_1 s]; unfold p129_0_1 at h ⊢; exact (ro129_0_1 N _ _ _ K N _ _ _ _ _ _).trans h⟩
  | false =>
  rw [hb, cond_false] at h
  clear hb
  cases hb : shpSt (h129_0_2 0 0 0 0 0 0 0 0) s with
  | true =>
    rw [hb, cond_true] at h
    exact ⟨N, by rw [← shpSt_ref hb, fl129_0_2 s]; unfold p129_0_2 at h ⊢; exact (ro129_0_2 N _ _ K N _ _ _ _ _ _).trans h⟩
  | false =>
  rw [hb, cond_false] at h
  clear hb
  cases h
theorem ve129_0 (N : Nat) (q0 : Int) (q1 : Int) (q2 : Int) (q3 : Int) (a0 : Int) (K : TV → O β) : evFn lay (VE129 zq107 zq108 zq111 zq113 N) Tryz.f129 [.v (.one (.int .i64 a0)), .v (.one (.dfn 164 [([.int .i64 q0, .int .i64 q1], 0), ([.int .i64 q2], 0), ([.int .i64 q3], 0)]))] K = zb114 zq113 N a0 (fun x0 k => zq107 x0 q0 q1 q2 q3 k) (fun z2 z3 => K (.v (.agg [.int .i64 z2, .int .i64 z3]))) := by kernel_rfl
theorem ve129_1 (N : Nat) (q0 : Int) (q1 : Int) (q2 : Int) (a0 : Int) (K : TV → O β) : evFn lay (VE129 zq107 zq108 zq111 zq113 N) Tryz.f129 [.v (.one (.int .i64 a0)), .v (.one (.dfn 224 [([.int .i64 q0, .int .i64 q1], 0), ([.int .i64 q2], 0)]))] K = zb114 zq113 N a0 (fun x0 k => zq108 x0 q0 q1 q2 k) (fun z2 z3 => K (.v (.agg [.int .i64 z2, .int .i64 z3]))) := by kernel_rfl
theorem ve129_2 (N : Nat) (q0 : Int) (q1 : Int) (a0 : Int) (K : TV → O β) : evFn lay (VE129 zq107 zq108 zq111 zq113 N) Tryz.f129 [.v (.one (.int .i64 a0)), .v (.one (.dfn 226 [([.int .i64 q0], 0), ([.int .i64 q1], 0)]))] K = zb114 zq113 N a0 (fun x0 k => zq111 x0 q0 q1 k) (fun z2 z3 => K (.v (.agg [.int .i64 z2, .int .i64 z3]))) := by kernel_rfl
theorem o129 (N : Nat) : SpecOK (β := β) inv Tryz.prog 129 (S129 N) := by
  refine spec_of lay_ok mixed (E := E129 N) (specs_loops (specs_cons (o164 N) (specs_cons (o224 N) (specs_cons (o226 N) specs_nil)))) muts_nil gs_nil Tryz.func129 (by kernel_rfl) 1 (by kernel_rfl) ⟨trivial, rk129_0 N⟩ fun args K r h => ?_
  unfold S129 VS129 at h
  split at h
  · exact (ve129_0 (zj107 N) (zj108 N) (zj111 N) (zj113 N) N _ _ _ _ _ _).trans h
  · exact (ve129_1 (zj107 N) (zj108 N) (zj111 N) (zj113 N) N _ _ _ _ _).trans h
  · exact (ve129_2 (zj107 N) (zj108 N) (zj111 N) (zj113 N) N _ _ _ _).trans h
  · cases h
def VS102 (N : Nat) : Rv.Spec β := fun args K => match args with
  | [.v (.agg [.int .i64 a0, .int .i64 a1]), .v (.one (.int .i64 a2)), .v (.one (.int .i64 a3))] => zq115 a0 a1 a2 a3 (fun z4 z5 => K (.v (.agg [.int .i64 z4, .int .i64 z5])))
  | _ => none
def S102 (N : Nat) : Rv.Spec β := VS102 (zj115 N) N
def VE102 (N : Nat) : Env β := ⟨[(129, VS129 zq107 zq108 zq111 zq114 N), (164, VS164 zq107 N)], [], [], [], ⟨[], [], [157], [222]⟩⟩
def E102 (N : Nat) : Env β := VE102 (zj107 N) (zj108 N) (zj111 N) (zj114 N) N
theorem ve102_0 (N : Nat) (a0 : Int) (a1 : Int) (a2 : Int) (a3 : Int) (K : TV → O β) : evFn lay (VE102 zq107 zq108 zq111 zq114 N) Tryz.f102 [.v (.agg [.int .i64 a0, .int .i64 a1]), .v (.one (.int .i64 a2)), .v (.one (.int .i64 a3))] K = zb115 zq107 zq114 N a0 a1 a2 a3 (fun z4 z5 => K (.v (.agg [.int .i64 z4, .int .i64 z5]))) := by kernel_rfl
theorem o102 (N : Nat) : SpecOK (β := β) inv Tryz.prog 102 (S102 N) := by
  refine spec_of lay_ok mixed (E := E102 N) (specs_loops (specs_cons (o129 N) (specs_cons (o164 N) specs_nil))) muts_nil gs_nil Tryz.func102 (by kernel_rfl) 0 (by kernel_rfl) trivial fun args K r h => ?_
  unfold S102 VS102 at h
  split at h
  · exact (ve102_0 (zj107 N) (zj108 N) (zj111 N) (zj114 N) N _ _ _ _ _).trans h
  · cases h
def VS101 (N : Nat) : Rv.Spec β := fun args K => match args with
  | [.v (.agg [.int .i64 a0, .int .i64 a1]), .v (.one (.int .i64 a2))] => zq116 a0 a1 a2 (fun z3 => K (.v (.one (.bool z3))))
  | _ => none
def S101 (N : Nat) : Rv.Spec β := VS101 (zj116 N) N
def VE101 (N : Nat) : Env β := ⟨[(102, VS102 zq115 N)], [], [], [], ⟨[], [], [157], [222]⟩⟩
def E101 (N : Nat) : Env β := VE101 (zj115 N) N
theorem ve101_0 (N : Nat) (a0 : Int) (a1 : Int) (a2 : Int) (K : TV → O β) : evFn lay (VE101 zq115 N) Tryz.f101 [.v (.agg [.int .i64 a0, .int .i64 a1]), .v (.one (.int .i64 a2))] K = zb116 zq115 N a0 a1 a2 (fun z3 => K (.v (.one (.bool z3)))) := by kernel_rfl
theorem o101 (N : Nat) : SpecOK (β := β) inv Tryz.prog 101 (S101 N) := by
  refine spec_of lay_ok mixed (E := E101 N) (specs_loops (specs_cons (o102 N) specs_nil)) muts_nil gs_nil Tryz.func101 (by kernel_rfl) 0 (by kernel_rfl) trivial fun args K r h => ?_
  unfold S101 VS101 at h
  split at h
  · exact (ve101_0 (zj115 N) N _ _ _ _).trans h
  · cases h
def VS38 (N : Nat) : Rv.Spec β := fun args K => match args with
  | [.v (.agg [.int .i64 a0, .int .i64 a1])] => zq119 a0 a1 (fun z2 z3 z4 => K (.tup [.agg [.int .i64 z2, .int .i64 z3], .one (.bool z4)]))
  | _ => none
def S38 (N : Nat) : Rv.Spec β := VS38 (zj119 N) N
def h38_0_0 (v0 : Int) (v1 : Int) (v2 : Int) (v3 : Int) (v4 : Int) : St := ⟨tund :: .v (.one (.ptr 0 0)) :: .v (.one (.ptr 1 0)) :: tund :: .v (.one (.int .i64 v0)) :: tn 19 [], [.cells 25 [.int .i64 v1, .int .i64 v2], .cells 25 [.int .i64 v3, .int .i64 v4]]⟩
def x38_0_0_k0 (y0 : Int) (y1 : Int) (y2 : Int) (y3 : Int) : St := ⟨tund :: .v (.one (.ptr 0 0)) :: .v (.one (.ptr 1 0)) :: tn 21 [], [.cells 25 [.int .i64 y0, .int .i64 y1], .cells 25 [.int .i64 y2, .int .i64 y3]]⟩
def p38_0_0 {γ : Type} (f : Int → Int → Int → Int → Int → γ) (s : St) : γ := f (intS (oneA (vT (nx tund s.tmps 4)))) (intS (nx .und (cellsB (nx .dead s.blks 0)) 0)) (intS (nx .und (cellsB (nx .dead s.blks 0)) 1)) (intS (nx .und (cellsB (nx .dead s.blks 1)) 0)) (intS (nx .und (cellsB (nx .dead s.blks 1)) 1))
theorem fl38_0_0 (s : St) : refSt (h38_0_0 0 0 0 0 0) s = p38_0_0 h38_0_0 s := by kernel_rfl
def VLS38_0 (N : Nat) : LSpec β := fun s K => cond (shpSt (h38_0_0 0 0 0 0 0) s) (p38_0_0 (fun v0 v1 v2 v3 v4 => zq118 N v0 v1 v2 v3 v4 (fun y0 y1 y2 y3 => K (.exit 0) (x38_0_0_k0 y0 y1 y2 y3))) s) (none)
def LS38_0 (N : Nat) : LSpec β := VLS38_0 (zj118 N) N
def VE38 (N : Nat) : Env β := ⟨[(37, VS37 zq104 N), (101, VS101 zq116 N), (102, VS102 zq115 N)], [], [(0, VLS38_0 zq118 N)], [], ⟨[], [], [157], [222]⟩⟩
def E38 (N : Nat) : Env β := VE38 (zj104 N) (zj115 N) (zj116 N) (zj118 N) N
theorem vst38_0_0 (N : Nat) (v0 : Int) (v1 : Int) (v2 : Int) (v3 : Int) (v4 : Int) (rec_ : St → O β) (K : Exit → St → O β) :
    stB lay (VE38 zq104 zq115 zq116 zq118 N) Tryz.f38 0 (h38_0_0 v0 v1 v2 v3 v4) rec_ K = zb117 zq115 zq116 N v0 v1 v2 v3 v4 (fun v0 v1 v2 v3 v4 => rec_ (h38_0_0 v0 v1 v2 v3 v4)) (fun y0 y1 y2 y3 => K (.exit 0) (x38_0_0_k0 y0 y1 y2 y3)) := by kernel_rfl
theorem ro38_0_0 (N : Nat) (K : Exit → St → O β) : ∀ (F : Nat) (v0 : Int) (v1 : Int) (v2 : Int) (v3 : Int) (v4 : Int), (lp Tryz.f38 0).rounds lay (E38 N) (retMask Tryz.f38) F (h38_0_0 v0 v1 v2 v3 v4) K = zj118 N F v0 v1 v2 v3 v4 (fun y0 y1 y2 y3 => K (.exit 0) (x38_0_0_k0 y0 y1 y2 y3)) := by
  intro F
  induction F with
  | zero => intros; rfl
  | succ F ih =>
    intros
    rw [rounds_next]
    refine (vst38_0_0 (zj104 N) (zj115 N) (zj116 N) (zj118 N) N _ _ _ _ _ (fun s => (lp Tryz.f38 0).rounds lay (E38 N) (retMask Tryz.f38) F s K) K).trans ?_
    simp only [ih]
    rfl
theorem lk38_0 (N : Nat) : lookL (E38 (β := β) N).loops (lp Tryz.f38 0).id = LS38_0 N := by kernel_rfl
theorem rk38_0 (N : Nat) : RoundsOK lay (E38 (β := β) N) (retMask Tryz.f38) (lp Tryz.f38 0) := by
  intro s K r h
  rw [lk38_0] at h
  unfold LS38_0 VLS38_0 at h
  cases hb : shpSt (h38_0_0 0 0 0 0 0) s with
  | true =>
    rw [hb, cond_true] at h
    exact ⟨N, by rw [← shpSt_ref hb, fl38_0_0 s]; unfold p38_0_0 at h ⊢; exact (ro38_0_0 N K N _ _ _ _ _).trans h⟩
  | false =>
  rw [hb, cond_false] at h
  clear hb
  cases h
theorem ve38_0 (N : Nat) (a0 : Int) (a1 : Int) (K : TV → O β) : evFn lay (VE38 zq104 zq115 zq116 zq118 N) Tryz.f38 [.v (.agg [.int .i64 a0, .int .i64 a1])] K = zb119 zq104 zq118 N a0 a1 (fun z2 z3 z4 => K (.tup [.agg [.int .i64 z2, .int .i64 z3], .one (.bool z4)])) := by kernel_rfl
theorem o38 (N : Nat) : SpecOK (β := β) inv Tryz.prog 38 (S38 N) := by
  refine spec_of lay_ok mixed (E := E38 N) (specs_loops (specs_cons (o37 N) (specs_cons (o101 N) (specs_cons (o102 N) specs_nil)))) muts_nil gs_nil Tryz.func38 (by kernel_rfl) 1 (by kernel_rfl) ⟨trivial, rk38_0 N⟩ fun args K r h => ?_
  unfold S38 VS38 at h
  split at h
  · exact (ve38_0 (zj104 N) (zj115 N) (zj116 N) (zj118 N) N _ _ _).trans h
  · cases h
end Go.Proofs.YtemihnclhcobnaaGreatDoor
