/- The functions that the claims reach answer as their texts do. -/
import Derived.Test.YtemihnclhcobnaaGreatDoorE7
namespace Go.Proofs.YtemihnclhcobnaaGreatDoor
open Go.Rv
set_option maxRecDepth 100000
set_option maxHeartbeats 2000000
set_option linter.unusedVariables false
variable {β : Type}
variable (zq103 : Y29 β) (zq106 : Y3 β) (zq107 : Y51 β) (zq108 : Y34 β) (zq111 : Y1 β) (zq114 : Y52 β) (zq140 : Y60 β) (zq142 : Y62 β) (zq143 : Y21 β) (zq144 : Y24 β) (zq145 : Y0 β) (zq146 : Y4 β) (zq147 : Y63 β)
def VS172 (N : Nat) : Rv.Spec β := fun args K => match args with
  | [.v (.agg [.int .i64 a0, .int .i64 a1]), .v (.one (.sl 3 (.ints .i64 a2)))] => zq143 a0 a1 a2 (fun z3 z4 => K (.v (.agg [.int .i64 z3, .int .i64 z4])))
  | _ => none
def S172 (N : Nat) : Rv.Spec β := VS172 (zj143 N) N
def h172_0_0 (v0 : List Int) (v1 : Int) (v2 : Int) (v3 : Int) (v4 : Int) (v5 : Int) (v6 : Int) (v7 : Int) (v8 : Int) : St := ⟨tund :: .v (.one (.sl 3 (.ints .i64 v0))) :: .v (.one (.ptr 0 0)) :: tund :: .v (.one (.ptr 1 0)) :: .v (.one (.ptr 2 0)) :: tn 5 (.v (.one (.int .i64 v1)) :: .v (.one (.int .i64 v2)) :: tn 15 []), [.cells 25 [.int .i64 v3, .int .i64 v4], .cells 25 [.int .i64 v5, .int .i64 v6], .cells 25 [.int .i64 v7, .int .i64 v8]]⟩
def x172_0_0_k0 (y0 : Int) (y1 : Int) (y2 : Int) (y3 : Int) : St := ⟨tn 4 (.v (.one (.ptr 0 0)) :: .v (.one (.ptr 1 0)) :: tn 22 []), [.cells 25 [.int .i64 y0, .int .i64 y1], .cells 25 [.int .i64 y2, .int .i64 y3]]⟩
def p172_0_0 {γ : Type} (f : List Int → Int → Int → Int → Int → Int → Int → Int → Int → γ) (s : St) : γ := f (rInts (rowV (oneA (vT (nx tund s.tmps 1))))) (intS (oneA (vT (nx tund s.tmps 11)))) (intS (oneA (vT (nx tund s.tmps 12)))) (intS (nx .und (cellsB (nx .dead s.blks 0)) 0)) (intS (nx .und (cellsB (nx .dead s.blks 0)) 1)) (intS (nx .und (cellsB (nx .dead s.blks 1)) 0)) (intS (nx .und (cellsB (nx .dead s.blks 1)) 1)) (intS (nx .und (cellsB (nx .dead s.blks 2)) 0)) (intS (nx .und (cellsB (nx .dead s.blks 2)) 1))
theorem fl172_0_0 (s : St) : refSt (h172_0_0 [] 0 0 0 0 0 0 0 0) s = p172_0_0 h172_0_0 s := by kernel_rfl
def VLS172_0 (N : Nat) : LSpec β := fun s K => cond (shpSt (h172_0_0 [] 0 0 0 0 0 0 0 0) s) (p172_0_0 (fun v0 v1 v2 v3 v4 v5 v6 v7 v8 => zq142 N v0 v1 v2 v3 v4 v5 v6 v7 v8 (fun y0 y1 y2 y3 => K (.exit 0) (x172_0_0_k0 y0 y1 y2 y3))) s) (none)
def LS172_0 (N : Nat) : LSpec β := VLS172_0 (zj142 N) N
def VE172 (N : Nat) : Env β := ⟨[(100, VS100 zq103 N), (103, VS103 zq106 N), (223, VS223 zq140 N)], [], [(0, VLS172_0 zq142 N)], [], ⟨[], [], [157], [222]⟩⟩
def E172 (N : Nat) : Env β := VE172 (zj103 N) (zj106 N) (zj140 N) (zj142 N) N
theorem vst172_0_0 (N : Nat) (v0 : List Int) (v1 : Int) (v2 : Int) (v3 : Int) (v4 : Int) (v5 : Int) (v6 : Int) (v7 : Int) (v8 : Int) (rec_ : St → O β) (K : Exit → St → O β) :
    stB lay (VE172 zq103 zq106 zq140 zq142 N) Tryz.f172 0 (h172_0_0 v0 v1 v2 v3 v4 v5 v6 v7 v8) rec_ K = zb141 zq106 zq140 N v0 v1 v2 v3 v4 v5 v6 v7 v8 (fun v0 v1 v2 v3 v4 v5 v6 v7 v8 => rec_ (h172_0_0 v0 v1 v2 v3 v4 v5 v6 v7 v8)) (fun y0 y1 y2 y3 => K (.exit 0) (x172_0_0_k0 y0 y1 y2 y3)) := by kernel_rfl
theorem ro172_0_0 (N : Nat) (K : Exit → St → O β) : ∀ (F : Nat) (v0 : List Int) (v1 : Int) (v2 : Int) (v3 : Int) (v4 : Int) (v5 : Int) (v6 : Int) (v7 : Int) (v8 : Int), (lp Tryz.f172 0).rounds lay (E172 N) (retMask Tryz.f172) F (h172_0_0 v0 v1 v2 v3 v4 v5 v6 v7 v8) K = zj142 N F v0 v1 v2 v3 v4 v5 v6 v7 v8 (fun y0 y1 y2 y3 => K (.exit 0) (x172_0_0_k0 y0 y1 y2 y3)) := by
  intro F
  induction F with
  | zero => intros; rfl
  | succ F ih =>
    intros
    rw [rounds_next]
    refine (vst172_0_0 (zj103 N) (zj106 N) (zj140 N) (zj142 N) N _ _ _ _ _ _ _ _ _ (fun s => (lp Tryz.f172 0).rounds lay (E172 N) (retMask Tryz.f172) F s K) K).trans ?_
    simp only [ih]
    rfl
theorem lk172_0 (N : Nat) : lookL (E172 (β := β) N).loops (lp Tryz.f172 0).id = LS172_0 N := by kernel_rfl
theorem rk172_0 (N : Nat) : RoundsOK lay (E172 (β := β) N) (retMask Tryz.f172) (lp Tryz.f172 0) := by
  intro s K r h
  rw [lk172_0] at h
  unfold LS172_0 VLS172_0 at h
  cases hb : shpSt (h172_0_0 [] 0 0 0 0 0 0 0 0) s with
  | true =>
    rw [hb, cond_true] at h
    exact ⟨N, by rw [← shpSt_ref hb, fl172_0_0 s]; unfold p172_0_0 at h ⊢; exact (ro172_0_0 N K N _ _ _ _ _ _ _ _ _).trans h⟩
  | false =>
  rw [hb, cond_false] at h
  clear hb
  cases h
theorem ve172_0 (N : Nat) (a0 : Int) (a1 : Int) (a2 : List Int) (K : TV → O β) : evFn lay (VE172 zq103 zq106 zq140 zq142 N) Tryz.f172 [.v (.agg [.int .i64 a0, .int .i64 a1]), .v (.one (.sl 3 (.ints .i64 a2)))] K = zb143 zq103 zq142 N a0 a1 a2 (fun z3 z4 => K (.v (.agg [.int .i64 z3, .int .i64 z4]))) := by kernel_rfl
theorem o172 (N : Nat) : SpecOK (β := β) inv Tryz.prog 172 (S172 N) := by
  refine spec_of lay_ok mixed (E := E172 N) (specs_loops (specs_cons (o100 N) (specs_cons (o103 N) (specs_cons (o223 N) specs_nil)))) muts_nil gs_nil Tryz.func172 (by kernel_rfl) 1 (by kernel_rfl) ⟨trivial, rk172_0 N⟩ fun args K r h => ?_
  unfold S172 VS172 at h
  split at h
  · exact (ve172_0 (zj103 N) (zj106 N) (zj140 N) (zj142 N) N _ _ _ _).trans h
  · cases h
def VS173 (N : Nat) : Rv.Spec β := fun args K => match args with
  | [.v (.agg [.int .i64 a0, .int .i64 a1]), .v (.one (.int .i64 a2))] => zq144 a0 a1 a2 (fun z3 z4 => K (.v (.agg [.int .i64 z3, .int .i64 z4])))
  | _ => none
def S173 (N : Nat) : Rv.Spec β := VS173 (zj144 N) N
def VE173 (N : Nat) : Env β := ⟨[(129, VS129 zq107 zq108 zq111 zq114 N), (224, VS224 zq108 N)], [], [], [], ⟨[], [], [157], [222]⟩⟩
def E173 (N : Nat) : Env β := VE173 (zj107 N) (zj108 N) (zj111 N) (zj114 N) N
theorem ve173_0 (N : Nat) (a0 : Int) (a1 : Int) (a2 : Int) (K : TV → O β) : evFn lay (VE173 zq107 zq108 zq111 zq114 N) Tryz.f173 [.v (.agg [.int .i64 a0, .int .i64 a1]), .v (.one (.int .i64 a2))] K = zb144 zq108 zq114 N a0 a1 a2 (fun z3 z4 => K (.v (.agg [.int .i64 z3, .int .i64 z4]))) := by kernel_rfl
theorem o173 (N : Nat) : SpecOK (β := β) inv Tryz.prog 173 (S173 N) := by
  refine spec_of lay_ok mixed (E := E173 N) (specs_loops (specs_cons (o129 N) (specs_cons (o224 N) specs_nil))) muts_nil gs_nil Tryz.func173 (by kernel_rfl) 0 (by kernel_rfl) trivial fun args K r h => ?_
  unfold S173 VS173 at h
  split at h
  · exact (ve173_0 (zj107 N) (zj108 N) (zj111 N) (zj114 N) N _ _ _ _).trans h
  · cases h
def VS174 (N : Nat) : Rv.Spec β := fun args K => match args with
  | [.v (.agg [.int .i64 a0, .int .i64 a1])] => zq145 a0 a1 (fun z2 z3 => K (.v (.agg [.int .i64 z2, .int .i64 z3])))
  | _ => none
def S174 (N : Nat) : Rv.Spec β := VS174 (zj145 N) N
def VE174 (N : Nat) : Env β := ⟨[(100, VS100 zq103 N)], [], [], [], ⟨[], [], [157], [222]⟩⟩
def E174 (N : Nat) : Env β := VE174 (zj103 N) N
theorem ve174_0 (N : Nat) (a0 : Int) (a1 : Int) (K : TV → O β) : evFn lay (VE174 zq103 N) Tryz.f174 [.v (.agg [.int .i64 a0, .int .i64 a1])] K = zb145 zq103 N a0 a1 (fun z2 z3 => K (.v (.agg [.int .i64 z2, .int .i64 z3]))) := by kernel_rfl
theorem o174 (N : Nat) : SpecOK (β := β) inv Tryz.prog 174 (S174 N) := by
  refine spec_of lay_ok mixed (E := E174 N) (specs_loops (specs_cons (o100 N) specs_nil)) muts_nil gs_nil Tryz.func174 (by kernel_rfl) 0 (by kernel_rfl) trivial fun args K r h => ?_
  unfold S174 VS174 at h
  split at h
  · exact (ve174_0 (zj103 N) N _ _ _).trans h
  · cases h
def VS108 (N : Nat) : GSpec β := fun args bl K => match args, bl with
  | [.v (.agg [.int .i64 a0, .int .i64 a1]), .v (.one (.ptr 0 0))], [.pcells 0 25 [.int .i64 a2, .int .i64 a3]] => zq146 a0 a1 a2 a3 (fun y0 y1 => K (.tup []) [.pcells 0 25 [.int .i64 y0, .int .i64 y1]])
  | _, _ => none
def S108 (N : Nat) : GSpec β := VS108 (zj146 N) N
def VE108 (N : Nat) : Env β := ⟨[], [], [], [], ⟨[], [], [157], [222]⟩⟩
def E108 (N : Nat) : Env β := VE108 N
theorem ve108_0 (N : Nat) (a0 : Int) (a1 : Int) (a2 : Int) (a3 : Int) (K : TV → List Blk → O β) : evFnG lay (VE108 N) Tryz.f108 [.v (.agg [.int .i64 a0, .int .i64 a1]), .v (.one (.ptr 0 0))] [.pcells 0 25 [.int .i64 a2, .int .i64 a3]] K = zb146 N a0 a1 a2 a3 (fun y0 y1 => K (.tup []) [.pcells 0 25 [.int .i64 y0, .int .i64 y1]]) := by kernel_rfl
theorem o108 (N : Nat) : GOK (β := β) inv Tryz.prog 108 (S108 N) := by
  refine g_of lay_ok mixed (E := E108 N) (specs_loops specs_nil) muts_nil gs_nil Tryz.func108 (by kernel_rfl) 0 (by kernel_rfl) trivial fun args bl K r h => ?_
  unfold S108 VS108 at h
  split at h
  · exact (ve108_0 N _ _ _ _ _).trans h
  · cases h
def VS109 (N : Nat) : GSpec β := fun args bl K => match args, bl with
  | [.v (.agg [.int .i64 a0, .int .i64 a1]), .v (.one (.ptr 0 0))], [.pcells 0 84 [.mp 1], .pmp 1 ⟨false, true⟩ a2] => zq147 a0 a1 a2 (fun y0 => K (.tup []) [.pcells 0 84 [.mp 1], .pmp 1 ⟨false, true⟩ y0])
  | _, _ => none
def S109 (N : Nat) : GSpec β := VS109 (zj147 N) N
def VE109 (N : Nat) : Env β := ⟨[], [], [], [], ⟨[], [], [157], [222]⟩⟩
def E109 (N : Nat) : Env β := VE109 N
theorem ve109_0 (N : Nat) (a0 : Int) (a1 : Int) (a2 : Mp) (K : TV → List Blk → O β) : evFnG lay (VE109 N) Tryz.f109 [.v (.agg [.int .i64 a0, .int .i64 a1]), .v (.one (.ptr 0 0))] [.pcells 0 84 [.mp 1], .pmp 1 ⟨false, true⟩ a2] K = zb147 N a0 a1 a2 (fun y0 => K (.tup []) [.pcells 0 84 [.mp 1], .pmp 1 ⟨false, true⟩ y0]) := by kernel_rfl
theorem o109 (N : Nat) : GOK (β := β) inv Tryz.prog 109 (S109 N) := by
  refine g_of lay_ok mixed (E := E109 N) (specs_loops specs_nil) muts_nil gs_nil Tryz.func109 (by kernel_rfl) 0 (by kernel_rfl) trivial fun args bl K r h => ?_
  unfold S109 VS109 at h
  split at h
  · exact (ve109_0 N _ _ _ _).trans h
  · cases h
end Go.Proofs.YtemihnclhcobnaaGreatDoor
