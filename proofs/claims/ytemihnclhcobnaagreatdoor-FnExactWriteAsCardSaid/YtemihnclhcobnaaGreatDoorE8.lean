/- The functions that the claims reach answer as their texts do. -/
import Derived.Test.YtemihnclhcobnaaGreatDoorE7
namespace Go.Proofs.YtemihnclhcobnaaGreatDoor
open Go.Rv
set_option maxRecDepth 100000
set_option maxHeartbeats 2000000
set_option linter.unusedVariables false
variable {β : Type}
variable (zq1 : Y1 β) (zq98 : Y3 β) (zq116 : Y36 β) (zq140 : Y67 β) (zq141 : Y68 β) (zq142 : Y69 β) (zq146 : Y70 β) (zq149 : Y73 β) (zq150 : Y72 β) (zq153 : Y74 β) (zq155 : Y41 β) (zq156 : Y11 β) (zq157 : Y0 β)
def VS208 (N : Nat) : GSpec β := fun args bl K => match args, bl with
  | [.v (.one (.ptr 0 0)), .v (.agg [.int .i64 a0, .int .i64 a1])], [.pcells 0 173 [.int .i64 a2, .int .i64 a3, .mp 1, .mp 2], .pmp 1 ⟨true, false⟩ a4, .pmp 2 ⟨true, false⟩ a5] => zq150 a0 a1 a2 a3 a4 a5 (fun y0 y1 y2 y3 y4 => K (.v (.one (.int .i64 y0))) [.pcells 0 173 [.int .i64 y1, .int .i64 y2, .mp 1, .mp 2], .pmp 1 ⟨true, false⟩ y3, .pmp 2 ⟨true, false⟩ y4])
  | _, _ => none
def S208 (N : Nat) : GSpec β := VS208 (zj150 N) N
def h208_0_0 (v0 : Int) (v1 : Int) (v2 : Int) (v3 : Int) (v4 : Int) (v5 : Mp) (v6 : Mp) (v7 : Int) (v8 : Int) : St := ⟨.v (.one (.ptr 0 0)) :: tund :: tund :: .v (.one (.ptr 3 0)) :: tund :: .v (.one (.int .i64 v0)) :: tn 8 (.v (.one (.int .i64 v1)) :: .v (.one (.int .i64 v2)) :: tn 32 []), [.pcells 0 173 [.int .i64 v3, .int .i64 v4, .mp 1, .mp 2], .pmp 1 ⟨true, false⟩ v5, .pmp 2 ⟨true, false⟩ v6, .cells 123 [.int .i64 v7, .int .i64 v8]]⟩
def x208_0_0_k0 (y0 : Int) (y1 : Int) (y2 : Int) (y3 : Mp) (y4 : Mp) : St := ⟨tn 4 (.v (.one (.int .i64 y0)) :: tn 43 []), [.pcells 0 173 [.int .i64 y1, .int .i64 y2, .mp 1, .mp 2], .pmp 1 ⟨true, false⟩ y3, .pmp 2 ⟨true, false⟩ y4]⟩
def x208_0_0_k1 (y0 : Int) (y1 : Int) (y2 : Mp) (y3 : Mp) : St := ⟨tn 48 [], [.pcells 0 173 [.int .i64 y0, .int .i64 y1, .mp 1, .mp 2], .pmp 1 ⟨true, false⟩ y2, .pmp 2 ⟨true, false⟩ y3]⟩
def p208_0_0 {γ : Type} (f : Int → Int → Int → Int → Int → Mp → Mp → Int → Int → γ) (s : St) : γ := f (intS (oneA (vT (nx tund s.tmps 5)))) (intS (oneA (vT (nx tund s.tmps 14)))) (intS (oneA (vT (nx tund s.tmps 15)))) (intS (nx .und (cellsB (nx .dead s.blks 0)) 0)) (intS (nx .und (cellsB (nx .dead s.blks 0)) 1)) (mpB (nx .dead s.blks 1)) (mpB (nx .dead s.blks 2)) (intS (nx .und (cellsB (nx .dead s.blks 3)) 0)) (intS (nx .und (cellsB (nx .dead s.blks 3)) 1))
theorem fl208_0_0 (s : St) : refSt (h208_0_0 0 0 0 0 0 [] [] 0 0) s = p208_0_0 h208_0_0 s := by kernel_rfl
def VLS208_0 (N : Nat) : LSpec β := fun s K => cond (shpSt (h208_0_0 0 0 0 0 0 [] [] 0 0) s) (p208_0_0 (fun v0 v1 v2 v3 v4 v5 v6 v7 v8 => zq149 N v0 v1 v2 v3 v4 v5 v6 v7 v8 (fun y0 y1 y2 y3 y4 => K .ret (x208_0_0_k0 y0 y1 y2 y3 y4)) (fun y0 y1 y2 y3 => K (.exit 0) (x208_0_0_k1 y0 y1 y2 y3))) s) (none)
def LS208_0 (N : Nat) : LSpec β := VLS208_0 (zj149 N) N
def VE208 (N : Nat) : Env β := ⟨[(210, VS210 zq142 N)], [], [(0, VLS208_0 zq149 N)], [(237, VS237 zq146 N)], ⟨[], [], [], []⟩⟩
def E208 (N : Nat) : Env β := VE208 (zj142 N) (zj146 N) (zj149 N) N
theorem vst208_0_0 (N : Nat) (v0 : Int) (v1 : Int) (v2 : Int) (v3 : Int) (v4 : Int) (v5 : Mp) (v6 : Mp) (v7 : Int) (v8 : Int) (rec_ : St → O β) (K : Exit → St → O β) :
    stB lay (VE208 zq142 zq146 zq149 N) Tryz.f208 0 (h208_0_0 v0 v1 v2 v3 v4 v5 v6 v7 v8) rec_ K = zb148 zq142 (zq146 N) N v0 v1 v2 v3 v4 v5 v6 v7 v8 (fun v0 v1 v2 v3 v4 v5 v6 v7 v8 => rec_ (h208_0_0 v0 v1 v2 v3 v4 v5 v6 v7 v8)) (fun y0 y1 y2 y3 y4 => K .ret (x208_0_0_k0 y0 y1 y2 y3 y4)) (fun y0 y1 y2 y3 => K (.exit 0) (x208_0_0_k1 y0 y1 y2 y3)) := by kernel_rfl
theorem ro208_0_0 (N : Nat) (K : Exit → St → O β) : ∀ (F : Nat) (v0 : Int) (v1 : Int) (v2 : Int) (v3 : Int) (v4 : Int) (v5 : Mp) (v6 : Mp) (v7 : Int) (v8 : Int), (lp Tryz.f208 0).rounds lay (E208 N) (retMask Tryz.f208) F (h208_0_0 v0 v1 v2 v3 v4 v5 v6 v7 v8) K = zj149 N F v0 v1 v2 v3 v4 v5 v6 v7 v8 (fun y0 y1 y2 y3 y4 => K .ret (x208_0_0_k0 y0 y1 y2 y3 y4)) (fun y0 y1 y2 y3 => K (.exit 0) (x208_0_0_k1 y0 y1 y2 y3)) := by
  intro F
  induction F with
  | zero => intros; rfl
  | succ F ih =>
    intros
    rw [rounds_next]
    refine (vst208_0_0 (zj142 N) (zj146 N) (zj149 N) N _ _ _ _ _ _ _ _ _ (fun s => (lp Tryz.f208 0).rounds lay (E208 N) (retMask Tryz.f208) F s K) K).trans ?_
    simp only [ih]
    rfl
theorem lk208_0 (N : Nat) : lookL (E208 (β := β) N).loops (lp Tryz.f208 0).id = LS208_0 N := by kernel_rfl
theorem rk208_0 (N : Nat) : RoundsOK lay (E208 (β := β) N) (retMask Tryz.f208) (lp Tryz.f208 0) := by
  intro s K r h
  rw [lk208_0] at h
  unfold LS208_0 VLS208_0 at h
  cases hb : shpSt (h208_0_0 0 0 0 0 0 [] [] 0 0) s with
  | true =>
    rw [hb, cond_true] at h
    exact ⟨N, by rw [← shpSt_ref hb, fl208_0_0 s]; unfold p208_0_0 at h ⊢; exact (ro208_0_0 N K N _ _ _ _ _ _ _ _ _).trans h⟩
  | false =>
  rw [hb, cond_false] at h
  clear hb
  cases h
theorem ve208_0 (N : Nat) (a0 : Int) (a1 : Int) (a2 : Int) (a3 : Int) (a4 : Mp) (a5 : Mp) (K : TV → List Blk → O β) : evFnG lay (VE208 zq142 zq146 zq149 N) Tryz.f208 [.v (.one (.ptr 0 0)), .v (.agg [.int .i64 a0, .int .i64 a1])] [.pcells 0 173 [.int .i64 a2, .int .i64 a3, .mp 1, .mp 2], .pmp 1 ⟨true, false⟩ a4, .pmp 2 ⟨true, false⟩ a5] K = zb150 (zq146 N) zq149 N a0 a1 a2 a3 a4 a5 (fun y0 y1 y2 y3 y4 => K (.v (.one (.int .i64 y0))) [.pcells 0 173 [.int .i64 y1, .int .i64 y2, .mp 1, .mp 2], .pmp 1 ⟨true, false⟩ y3, .pmp 2 ⟨true, false⟩ y4]) := by kernel_rfl
theorem o208 (N : Nat) : GOK (β := β) inv Tryz.prog 208 (S208 N) := by
  refine g_of lay_ok mixed (E := E208 N) (specs_loops (specs_cons (o210 N) specs_nil)) muts_nil (gs_cons (o237 N) gs_nil) Tryz.func208 (by kernel_rfl) 1 (by kernel_rfl) ⟨trivial, rk208_0 N⟩ fun args bl K r h => ?_
  unfold S208 VS208 at h
  split at h
  · exact (ve208_0 (zj142 N) (zj146 N) (zj149 N) N _ _ _ _ _ _ _).trans h
  · cases h
def VSF149 (N : Nat) (G : Nat) : GSpec β := fun args bl K => match args, bl with
  | [.v (.one (.ptr 0 0)), .v (.agg [.int .i64 a0, .int .i64 a1])], [.pcells 0 173 [.int .i64 a2, .int .i64 a3, .mp 1, .mp 2], .pmp 1 ⟨true, false⟩ a4, .pmp 2 ⟨true, false⟩ a5] => zq153 G a0 a1 a2 a3 a4 a5 (fun y0 y1 y2 y3 y4 => K (.v (.one (.str y0))) [.pcells 0 173 [.int .i64 y1, .int .i64 y2, .mp 1, .mp 2], .pmp 1 ⟨true, false⟩ y3, .pmp 2 ⟨true, false⟩ y4])
  | _, _ => none
def SF149 (N : Nat) (G : Nat) : GSpec β := VSF149 (zj153 N) N G
def VS149 (N : Nat) : GSpec β := VSF149 zq153 N N
def S149 (N : Nat) : GSpec β := SF149 N N
def VE149 (N : Nat) (G : Nat) : Env β := ⟨[(209, VS209 zq116 N), (41, VS41 zq141 N), (210, VS210 zq142 N)], [], [], [(208, VS208 zq150 N), (149, VSF149 zq153 N G)], ⟨[], [], [], []⟩⟩
def E149 (N : Nat) (G : Nat) : Env β := VE149 (zj116 N) (zj141 N) (zj142 N) (zj150 N) (zj153 N) N G
theorem ve149_0 (N : Nat) (G : Nat) (a0 : Int) (a1 : Int) (a2 : Int) (a3 : Int) (a4 : Mp) (a5 : Mp) (K : TV → List Blk → O β) : evFnG lay (VE149 zq116 zq141 zq142 zq150 zq153 N G) Tryz.f149 [.v (.one (.ptr 0 0)), .v (.agg [.int .i64 a0, .int .i64 a1])] [.pcells 0 173 [.int .i64 a2, .int .i64 a3, .mp 1, .mp 2], .pmp 1 ⟨true, false⟩ a4, .pmp 2 ⟨true, false⟩ a5] K = zb152 zq116 zq141 zq142 zq150 N (zq153 G) a0 a1 a2 a3 a4 a5 (fun y0 y1 y2 y3 y4 => K (.v (.one (.str y0))) [.pcells 0 173 [.int .i64 y1, .int .i64 y2, .mp 1, .mp 2], .pmp 1 ⟨true, false⟩ y3, .pmp 2 ⟨true, false⟩ y4]) := by kernel_rfl
theorem z149 (N : Nat) : ∀ args bl K r, SF149 (β := β) N 0 args bl K = some r → (none : O β) = some r := by
  intro args bl K r h
  unfold SF149 VSF149 at h
  split at h <;> exact h
theorem of149 (N : Nat) : ∀ G, GOK (β := β) inv Tryz.prog 149 (SF149 N G) := by
  intro G
  induction G with
  | zero => exact g_zero Tryz.func149 (by kernel_rfl) (z149 N)
  | succ G ih =>
    refine g_of lay_ok mixed (E := E149 N G) (specs_loops (specs_cons (o209 N) (specs_cons (o41 N) (specs_cons (o210 N) specs_nil)))) muts_nil (gs_cons (o208 N) (gs_cons ih gs_nil)) Tryz.func149 (by kernel_rfl) 0 (by kernel_rfl) trivial fun args bl K r h => ?_
    unfold SF149 VSF149 at h
    split at h
    · exact (ve149_0 (zj116 N) (zj141 N) (zj142 N) (zj150 N) (zj153 N) N G _ _ _ _ _ _ _).trans h
    · cases h
theorem o149 (N : Nat) : GOK (β := β) inv Tryz.prog 149 (S149 N) := of149 N N
def VS78 (N : Nat) : Rv.Spec β := fun args K => match args with
  | [.v (.agg [.int .i64 a0, .int .i64 a1])] => zq155 a0 a1 (fun z2 z3 => K (.tup [.one (.str z2), .one (.bool z3)]))
  | _ => none
def S78 (N : Nat) : Rv.Spec β := VS78 (zj155 N) N
def VE78 (N : Nat) : Env β := ⟨[(45, VS45 zq98 N)], [], [], [(148, VS148 zq140 N), (149, VS149 zq153 N)], ⟨[], [], [], []⟩⟩
def E78 (N : Nat) : Env β := VE78 (zj98 N) (zj140 N) (zj153 N) N
theorem ve78_0 (N : Nat) (a0 : Int) (a1 : Int) (K : TV → O β) : evFn lay (VE78 zq98 zq140 zq153 N) Tryz.f78 [.v (.agg [.int .i64 a0, .int .i64 a1])] K = zb155 zq98 zq140 (zq153 N) N a0 a1 (fun z2 z3 => K (.tup [.one (.str z2), .one (.bool z3)])) := by kernel_rfl
theorem o78 (N : Nat) : SpecOK (β := β) inv Tryz.prog 78 (S78 N) := by
  refine spec_of lay_ok mixed (E := E78 N) (specs_loops (specs_cons (o45 N) specs_nil)) muts_nil (gs_cons (o148 N) (gs_cons (o149 N) gs_nil)) Tryz.func78 (by kernel_rfl) 0 (by kernel_rfl) trivial fun args K r h => ?_
  unfold S78 VS78 at h
  split at h
  · exact (ve78_0 (zj98 N) (zj140 N) (zj153 N) N _ _ _).trans h
  · cases h
def VS174 (N : Nat) : Rv.Spec β := fun args K => match args with
  | [.v (.agg [.int .i64 a0, .int .i64 a1])] => zq156 a0 a1 (fun z2 z3 => K (.v (.agg [.int .i64 z2, .int .i64 z3])))
  | _ => none
def S174 (N : Nat) : Rv.Spec β := VS174 (zj156 N) N
def VE174 (N : Nat) : Env β := ⟨[(100, VS100 zq1 N)], [], [], [], ⟨[], [], [], []⟩⟩
def E174 (N : Nat) : Env β := VE174 (zj1 N) N
theorem ve174_0 (N : Nat) (a0 : Int) (a1 : Int) (K : TV → O β) : evFn lay (VE174 zq1 N) Tryz.f174 [.v (.agg [.int .i64 a0, .int .i64 a1])] K = zb156 zq1 N a0 a1 (fun z2 z3 => K (.v (.agg [.int .i64 z2, .int .i64 z3]))) := by kernel_rfl
theorem o174 (N : Nat) : SpecOK (β := β) inv Tryz.prog 174 (S174 N) := by
  refine spec_of lay_ok mixed (E := E174 N) (specs_loops (specs_cons (o100 N) specs_nil)) muts_nil gs_nil Tryz.func174 (by kernel_rfl) 0 (by kernel_rfl) trivial fun args K r h => ?_
  unfold S174 VS174 at h
  split at h
  · exact (ve174_0 (zj1 N) N _ _ _).trans h
  · cases h
def VS211 (N : Nat) : Rv.Spec β := fun args K => match args with
  | [.v (.agg [.int .i64 a0, .int .i64 a1])] => zq157 a0 a1 (fun z2 => K (.v (.one (.bool z2))))
  | _ => none
def S211 (N : Nat) : Rv.Spec β := VS211 (zj157 N) N
def VE211 (N : Nat) : Env β := ⟨[(174, VS174 zq156 N)], [], [], [], ⟨[], [], [], []⟩⟩
def E211 (N : Nat) : Env β := VE211 (zj156 N) N
theorem ve211_0 (N : Nat) (a0 : Int) (a1 : Int) (K : TV → O β) : evFn lay (VE211 zq156 N) Tryz.f211 [.v (.agg [.int .i64 a0, .int .i64 a1])] K = zb157 zq156 N a0 a1 (fun z2 => K (.v (.one (.bool z2)))) := by kernel_rfl
theorem o211 (N : Nat) : SpecOK (β := β) inv Tryz.prog 211 (S211 N) := by
  refine spec_of lay_ok mixed (E := E211 N) (specs_loops (specs_cons (o174 N) specs_nil)) muts_nil gs_nil Tryz.func211 (by kernel_rfl) 0 (by kernel_rfl) trivial fun args K r h => ?_
  unfold S211 VS211 at h
  split at h
  · exact (ve211_0 (zj156 N) N _ _ _).trans h
  · cases h
end Go.Proofs.YtemihnclhcobnaaGreatDoor
