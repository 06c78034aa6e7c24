/- The functions that the claims reach answer as their texts do. -/
import Derived.Test.YtemihnclhcobnaaGreatDoorE5
namespace Go.Proofs.YtemihnclhcobnaaGreatDoor
open Go.Rv
set_option maxRecDepth 100000
set_option maxHeartbeats 2000000
set_option linter.unusedVariables false
variable {β : Type}
variable (zq0 : Y0 β) (zq1 : Y1 β) (zq2 : Y2 β) (zq5 : Y3 β) (zq12 : Y8 β) (zq15 : Y9 β) (zq115 : Y56 β) (zq116 : Y36 β) (zq117 : Y23 β) (zq119 : Y57 β) (zq120 : Y23 β) (zq122 : Y59 β) (zq124 : Y58 β) (zq125 : Y25 β) (zq126 : Y60 β) (zq128 : Y62 β) (zq130 : Y61 β)
def VS209 (N : Nat) : Rv.Spec β := fun args K => match args with
  | [.v (.agg [.int .i64 a0, .int .i64 a1]), .v (.one (.int .i64 a2)), .v (.one (.int .i64 a3))] => zq116 a0 a1 a2 a3 (fun z4 => K (.v (.one (.int .i64 z4))))
  | _ => none
def S209 (N : Nat) : Rv.Spec β := VS209 (zj116 N) N
def h209_0_0 (v0 : Int) (v1 : Int) (v2 : Int) (v3 : Int) (v4 : Int) (v5 : Int) (v6 : Bool) (v7 : Bool) : St := ⟨tund :: .v (.one (.int .i64 v0)) :: .v (.one (.int .i64 v1)) :: .v (.one (.ptr 0 0)) :: tn 3 (.v (.one (.ptr 1 0)) :: tn 3 (.v (.one (.int .i64 v2)) :: .v (.one (.int .i64 v3)) :: tn 22 [])), [.cells 25 [.int .i64 v4, .int .i64 v5], .cells 194 [.bool v6, .bool v7]]⟩
def x209_0_0_k0 (y0 : Bool) (y1 : Bool) : St := ⟨tn 7 (.v (.one (.ptr 0 0)) :: tn 27 []), [.cells 194 [.bool y0, .bool y1]]⟩
def p209_0_0 {γ : Type} (f : Int → Int → Int → Int → Int → Int → Bool → Bool → γ) (s : St) : γ := f (intS (oneA (vT (nx tund s.tmps 1)))) (intS (oneA (vT (nx tund s.tmps 2)))) (intS (oneA (vT (nx tund s.tmps 11)))) (intS (oneA (vT (nx tund s.tmps 12)))) (intS (nx .und (cellsB (nx .dead s.blks 0)) 0)) (intS (nx .und (cellsB (nx .dead s.blks 0)) 1)) (boolS (nx .und (cellsB (nx .dead s.blks 1)) 0)) (boolS (nx .und (cellsB (nx .dead s.blks 1)) 1))
theorem fl209_0_0 (s : St) : refSt (h209_0_0 0 0 0 0 0 0 false false) s = p209_0_0 h209_0_0 s := by kernel_rfl
def VLS209_0 (N : Nat) : LSpec β := fun s K => cond (shpSt (h209_0_0 0 0 0 0 0 0 false false) s) (p209_0_0 (fun v0 v1 v2 v3 v4 v5 v6 v7 => zq115 N v0 v1 v2 v3 v4 v5 v6 v7 (fun y0 y1 => K (.exit 0) (x209_0_0_k0 y0 y1))) s) (none)
def LS209_0 (N : Nat) : LSpec β := VLS209_0 (zj115 N) N
def VE209 (N : Nat) : Env β := ⟨[(100, VS100 zq1 N), (103, VS103 zq2 N)], [], [(0, VLS209_0 zq115 N)], [], ⟨[], [], [], []⟩⟩
def E209 (N : Nat) : Env β := VE209 (zj1 N) (zj2 N) (zj115 N) N
theorem vst209_0_0 (N : Nat) (v0 : Int) (v1 : Int) (v2 : Int) (v3 : Int) (v4 : Int) (v5 : Int) (v6 : Bool) (v7 : Bool) (rec_ : St → O β) (K : Exit → St → O β) :
    stB lay (VE209 zq1 zq2 zq115 N) Tryz.f209 0 (h209_0_0 v0 v1 v2 v3 v4 v5 v6 v7) rec_ K = zb114 zq2 N v0 v1 v2 v3 v4 v5 v6 v7 (fun v0 v1 v2 v3 v4 v5 v6 v7 => rec_ (h209_0_0 v0 v1 v2 v3 v4 v5 v6 v7)) (fun y0 y1 => K (.exit 0) (x209_0_0_k0 y0 y1)) := by kernel_rfl
theorem ro209_0_0 (N : Nat) (K : Exit → St → O β) : ∀ (F : Nat) (v0 : Int) (v1 : Int) (v2 : Int) (v3 : Int) (v4 : Int) (v5 : Int) (v6 : Bool) (v7 : Bool), (lp Tryz.f209 0).rounds lay (E209 N) (retMask Tryz.f209) F (h209_0_0 v0 v1 v2 v3 v4 v5 v6 v7) K = zj115 N F v0 v1 v2 v3 v4 v5 v6 v7 (fun y0 y1 => K (.exit 0) (x209_0_0_k0 y0 y1)) := by
  intro F
  induction F with
  | zero => intros; rfl
  | succ F ih =>
    intros
    rw [rounds_next]
    refine (vst209_0_0 (zj1 N) (zj2 N) (zj115 N) N _ _ _ _ _ _ _ _ (fun s => (lp Tryz.f209 0).rounds lay (E209 N) (retMask Tryz.f209) F s K) K).trans ?_
    simp only [ih]
    rfl
theorem lk209_0 (N : Nat) : lookL (E209 (β := β) N).loops (lp Tryz.f209 0).id = LS209_0 N := by kernel_rfl
theorem rk209_0 (N : Nat) : RoundsOK lay (E209 (β := β) N) (retMask Tryz.f209) (lp Tryz.f209 0) := by
  intro s K r h
  rw [lk209_0] at h
  unfold LS209_0 VLS209_0 at h
  cases hb : shpSt (h209_0_0 0 0 0 0 0 0 false false) s with
  | true =>
    rw [hb, cond_true] at h
    exact ⟨N, by rw [← shpSt_ref hb, fl209_0_0 s]; unfold p209_0_0 at h ⊢; exact (ro209_0_0 N K N _ _ _ _ _ _ _ _).trans h⟩
  | false =>
  rw [hb, cond_false] at h
  clear hb
  cases h
theorem ve209_0 (N : Nat) (a0 : Int) (a1 : Int) (a2 : Int) (a3 : Int) (K : TV → O β) : evFn lay (VE209 zq1 zq2 zq115 N) Tryz.f209 [.v (.agg [.int .i64 a0, .int .i64 a1]), .v (.one (.int .i64 a2)), .v (.one (.int .i64 a3))] K = zb116 zq1 zq115 N a0 a1 a2 a3 (fun z4 => K (.v (.one (.int .i64 z4)))) := by kernel_rfl
theorem o209 (N : Nat) : SpecOK (β := β) inv Tryz.prog 209 (S209 N) := by
  refine spec_of lay_ok mixed (E := E209 N) (specs_loops (specs_cons (o100 N) (specs_cons (o103 N) specs_nil))) muts_nil gs_nil Tryz.func209 (by kernel_rfl) 1 (by kernel_rfl) ⟨trivial, rk209_0 N⟩ fun args K r h => ?_
  unfold S209 VS209 at h
  split at h
  · exact (ve209_0 (zj1 N) (zj2 N) (zj115 N) N _ _ _ _ _).trans h
  · cases h
def VS216 (N : Nat) : Rv.Spec β := fun args K => match args with
  | [.v (.agg [.int .i64 a0, .int .i64 a1]), .v (.agg [.int .i64 a2, .int .i64 a3])] => zq117 a0 a1 a2 a3 (fun z4 => K (.v (.one (.bool z4))))
  | _ => none
def S216 (N : Nat) : Rv.Spec β := VS216 (zj117 N) N
def VE216 (N : Nat) : Env β := ⟨[(209, VS209 zq116 N)], [], [], [], ⟨[], [], [], []⟩⟩
def E216 (N : Nat) : Env β := VE216 (zj116 N) N
theorem ve216_0 (N : Nat) (a0 : Int) (a1 : Int) (a2 : Int) (a3 : Int) (K : TV → O β) : evFn lay (VE216 zq116 N) Tryz.f216 [.v (.agg [.int .i64 a0, .int .i64 a1]), .v (.agg [.int .i64 a2, .int .i64 a3])] K = zb117 zq116 N a0 a1 a2 a3 (fun z4 => K (.v (.one (.bool z4)))) := by kernel_rfl
theorem o216 (N : Nat) : SpecOK (β := β) inv Tryz.prog 216 (S216 N) := by
  refine spec_of lay_ok mixed (E := E216 N) (specs_loops (specs_cons (o209 N) specs_nil)) muts_nil gs_nil Tryz.func216 (by kernel_rfl) 0 (by kernel_rfl) trivial fun args K r h => ?_
  unfold S216 VS216 at h
  split at h
  · exact (ve216_0 (zj116 N) N _ _ _ _ _).trans h
  · cases h
def VS154 (N : Nat) : Rv.Spec β := fun args K => match args with
  | [.v (.agg [.int .i64 a0, .int .i64 a1]), .v (.agg [.int .i64 a2, .int .i64 a3])] => zq120 a0 a1 a2 a3 (fun z4 => K (.v (.one (.bool z4))))
  | _ => none
def S154 (N : Nat) : Rv.Spec β := VS154 (zj120 N) N
def h154_0_0 (v0 : Int) (v1 : Int) (v2 : Int) (v3 : Int) (v4 : Int) (v5 : Int) : St := ⟨tund :: tund :: .v (.one (.ptr 0 0)) :: .v (.one (.ptr 1 0)) :: tn 8 (.v (.one (.int .i64 v0)) :: .v (.one (.int .i64 v1)) :: tn 23 []), [.cells 25 [.int .i64 v2, .int .i64 v3], .cells 93 [.int .i64 v4, .int .i64 v5]]⟩
def x154_0_0_k0 (y0 : Bool) : St := ⟨tn 4 (.v (.one (.bool y0)) :: tn 32 []), []⟩
def x154_0_0_k1 : St := ⟨tn 37 [], []⟩
def p154_0_0 {γ : Type} (f : Int → Int → Int → Int → Int → Int → γ) (s : St) : γ := f (intS (oneA (vT (nx tund s.tmps 12)))) (intS (oneA (vT (nx tund s.tmps 13)))) (intS (nx .und (cellsB (nx .dead s.blks 0)) 0)) (intS (nx .und (cellsB (nx .dead s.blks 0)) 1)) (intS (nx .und (cellsB (nx .dead s.blks 1)) 0)) (intS (nx .und (cellsB (nx .dead s.blks 1)) 1))
theorem fl154_0_0 (s : St) : refSt (h154_0_0 0 0 0 0 0 0) s = p154_0_0 h154_0_0 s := by kernel_rfl
def VLS154_0 (N : Nat) : LSpec β := fun s K => cond (shpSt (h154_0_0 0 0 0 0 0 0) s) (p154_0_0 (fun v0 v1 v2 v3 v4 v5 => zq119 N v0 v1 v2 v3 v4 v5 (fun y0 => K .ret (x154_0_0_k0 y0)) (K (.exit 0) (x154_0_0_k1 ))) s) (none)
def LS154_0 (N : Nat) : LSpec β := VLS154_0 (zj119 N) N
def VE154 (N : Nat) : Env β := ⟨[(216, VS216 zq117 N)], [], [(0, VLS154_0 zq119 N)], [], ⟨[], [], [], []⟩⟩
def E154 (N : Nat) : Env β := VE154 (zj117 N) (zj119 N) N
theorem vst154_0_0 (N : Nat) (v0 : Int) (v1 : Int) (v2 : Int) (v3 : Int) (v4 : Int) (v5 : Int) (rec_ : St → O β) (K : Exit → St → O β) :
    stB lay (VE154 zq117 zq119 N) Tryz.f154 0 (h154_0_0 v0 v1 v2 v3 v4 v5) rec_ K = zb118 zq117 N v0 v1 v2 v3 v4 v5 (fun v0 v1 v2 v3 v4 v5 => rec_ (h154_0_0 v0 v1 v2 v3 v4 v5)) (fun y0 => K .ret (x154_0_0_k0 y0)) (K (.exit 0) (x154_0_0_k1 )) := by kernel_rfl
theorem ro154_0_0 (N : Nat) (K : Exit → St → O β) : ∀ (F : Nat) (v0 : Int) (v1 : Int) (v2 : Int) (v3 : Int) (v4 : Int) (v5 : Int), (lp Tryz.f154 0).rounds lay (E154 N) (retMask Tryz.f154) F (h154_0_0 v0 v1 v2 v3 v4 v5) K = zj119 N F v0 v1 v2 v3 v4 v5 (fun y0 => K .ret (x154_0_0_k0 y0)) (K (.exit 0) (x154_0_0_k1 )) := by
  intro F
  induction F with
  | zero => intros; rfl
  | succ F ih =>
    intros
    rw [rounds_next]
    refine (vst154_0_0 (zj117 N) (zj119 N) N _ _ _ _ _ _ (fun s => (lp Tryz.f154 0).rounds lay (E154 N) (retMask Tryz.f154) F s K) K).trans ?_
    simp only [ih]
    rfl
theorem lk154_0 (N : Nat) : lookL (E154 (β := β) N).loops (lp Tryz.f154 0).id = LS154_0 N := by kernel_rfl
theorem rk154_0 (N : Nat) : RoundsOK lay (E154 (β := β) N) (retMask Tryz.f154) (lp Tryz.f154 0) := by
  intro s K r h
  rw [lk154_0] at h
  unfold LS154_0 VLS154_0 at h
  cases hb : shpSt (h154_0_0 0 0 0 0 0 0) s with
  | true =>
    rw [hb, cond_true] at h
    exact ⟨N, by rw [← shpSt_ref hb, fl154_0_0 s]; unfold p154_0_0 at h ⊢; exact (ro154_0_0 N K N _ _ _ _ _ _).trans h⟩
  | false =>
  rw [hb, cond_false] at h
  clear hb
  cases h
theorem ve154_0 (N : Nat) (a0 : Int) (a1 : Int) (a2 : Int) (a3 : Int) (K : TV → O β) : evFn lay (VE154 zq117 zq119 N) Tryz.f154 [.v (.agg [.int .i64 a0, .int .i64 a1]), .v (.agg [.int .i64 a2, .int .i64 a3])] K = zb120 zq117 zq119 N a0 a1 a2 a3 (fun z4 => K (.v (.one (.bool z4)))) := by kernel_rfl
theorem o154 (N : Nat) : SpecOK (β := β) inv Tryz.prog 154 (S154 N) := by
  refine spec_of lay_ok mixed (E := E154 N) (specs_loops (specs_cons (o216 N) specs_nil)) muts_nil gs_nil Tryz.func154 (by kernel_rfl) 1 (by kernel_rfl) ⟨trivial, rk154_0 N⟩ fun args K r h => ?_
  unfold S154 VS154 at h
  split at h
  · exact (ve154_0 (zj117 N) (zj119 N) N _ _ _ _ _).trans h
  · cases h
def VS86 (N : Nat) : Rv.Spec β := fun args K => match args with
  | [.v (.agg [.int .i64 a0, .int .i64 a1])] => zq125 a0 a1 (fun z2 => K (.v (.one (.sl 93 (.pairs z2)))))
  | _ => none
def S86 (N : Nat) : Rv.Spec β := VS86 (zj125 N) N
def h86_0_0 (v0 : Int) (v1 : Int) (v2 : Int) (v3 : Int) (v4 : List (Int × Int)) : St := ⟨tund :: .v (.one (.ptr 0 0)) :: tund :: .v (.one (.row 1)) :: tn 4 (.v (.one (.int .i64 v0)) :: .v (.one (.int .i64 v1)) :: tn 26 []), [.cells 25 [.int .i64 v2, .int .i64 v3], .row 93 (.pairs v4)]⟩
def x86_0_0_k0 (y0 : List (Int × Int)) : St := ⟨tn 3 (.v (.one (.row 0)) :: tn 32 []), [.row 93 (.pairs y0)]⟩
def h86_1_0 (v0 : Int) (v1 : Int) (v2 : Int) (v3 : Int) (v4 : Int) (v5 : Int) (v6 : Int) (v7 : List (Int × Int)) : St := ⟨tund :: .v (.one (.ptr 0 0)) :: tund :: .v (.one (.row 1)) :: .v (.one (.int .i64 v0)) :: tn 3 (.v (.one (.int .i64 v1)) :: .v (.one (.int .i64 v2)) :: tn 3 (.v (.one (.int .i64 v3)) :: .v (.one (.int .i64 v4)) :: tn 21 [])), [.cells 25 [.int .i64 v5, .int .i64 v6], .row 93 (.pairs v7)]⟩
def x86_1_0_k0 (y0 : Int) (y1 : Int) (y2 : Int) (y3 : Int) (y4 : List (Int × Int)) : St := ⟨tund :: .v (.one (.ptr 0 0)) :: tund :: .v (.one (.row 1)) :: tn 4 (.v (.one (.int .i64 y0)) :: .v (.one (.int .i64 y1)) :: tn 26 []), [.cells 25 [.int .i64 y2, .int .i64 y3], .row 93 (.pairs y4)]⟩
def p86_0_0 {γ : Type} (f : Int → Int → Int → Int → (List (Int × Int)) → γ) (s : St) : γ := f (intS (oneA (vT (nx tund s.tmps 8)))) (intS (oneA (vT (nx tund s.tmps 9)))) (intS (nx .und (cellsB (nx .dead s.blks 0)) 0)) (intS (nx .und (cellsB (nx .dead s.blks 0)) 1)) (rPairs (rowB_ (nx .dead s.blks 1)))
theorem fl86_0_0 (s : St) : refSt (h86_0_0 0 0 0 0 []) s = p86_0_0 h86_0_0 s := by kernel_rfl
def VLS86_0 (N : Nat) : LSpec β := fun s K => cond (shpSt (h86_0_0 0 0 0 0 []) s) (p86_0_0 (fun v0 v1 v2 v3 v4 => zq124 N v0 v1 v2 v3 v4 (fun y0 => K (.exit 0) (x86_0_0_k0 y0))) s) (none)
def LS86_0 (N : Nat) : LSpec β := VLS86_0 (zj124 N) N
def p86_1_0 {γ : Type} (f : Int → Int → Int → Int → Int → Int → Int → (List (Int × Int)) → γ) (s : St) : γ := f (intS (oneA (vT (nx tund s.tmps 4)))) (intS (oneA (vT (nx tund s.tmps 8)))) (intS (oneA (vT (nx tund s.tmps 9)))) (intS (oneA (vT (nx tund s.tmps 13)))) (intS (oneA (vT (nx tund s.tmps 14)))) (intS (nx .und (cellsB (nx .dead s.blks 0)) 0)) (intS (nx .und (cellsB (nx .dead s.blks 0)) 1)) (rPairs (rowB_ (nx .dead s.blks 1)))
theorem fl86_1_0 (s : St) : refSt (h86_1_0 0 0 0 0 0 0 0 []) s = p86_1_0 h86_1_0 s := by kernel_rfl
def VLS86_2 (N : Nat) : LSpec β := fun s K => cond (shpSt (h86_1_0 0 0 0 0 0 0 0 []) s) ((fun (v0 : Int) (v1 : Int) (v2 : Int) (v3 : Int) (v4 : Int) (v5 : Int) (v6 : Int) (v7 : List (Int × Int)) => zq122 N v0 v1 v2 v3 v4 v5 v6 v7 (fun y0 y1 y2 y3 y4 => K (.exit 2) (x86_1_0_k0 y0 y1 y2 y3 y4))) (intS (oneA (vT (nx tund s.tmps 4)))) (intS (oneA (vT (nx tund s.tmps 8)))) (intS (oneA (vT (nx tund s.tmps 9)))) (intS (oneA (vT (nx tund s.tmps 13)))) (intS (oneA (vT (nx tund s.tmps 14)))) (intS (nx .und (cellsB (nx .dead s.blks 0)) 0)) (intS (nx .und (cellsB (nx .dead s.blks 0)) 1)) (rPairs (rowB_ (nx .dead s.blks 1)))) (none)
def LS86_2 (N : Nat) : LSpec β := VLS86_2 (zj122 N) N
def VE86 (N : Nat) : Env β := ⟨[(100, VS100 zq1 N), (154, VS154 zq120 N)], [], [(0, VLS86_0 zq124 N), (2, VLS86_2 zq122 N)], [], ⟨[], [], [], []⟩⟩
def E86 (N : Nat) : Env β := VE86 (zj1 N) (zj120 N) (zj122 N) (zj124 N) N
theorem vst86_0_0 (N : Nat) (v0 : Int) (v1 : Int) (v2 : Int) (v3 : Int) (v4 : List (Int × Int)) (rec_ : St → O β) (K : Exit → St → O β) :
    stB lay (VE86 zq1 zq120 zq122 zq124 N) Tryz.f86 0 (h86_0_0 v0 v1 v2 v3 v4) rec_ K = zb123 zq122 N v0 v1 v2 v3 v4 (fun v0 v1 v2 v3 v4 => rec_ (h86_0_0 v0 v1 v2 v3 v4)) (fun y0 => K (.exit 0) (x86_0_0_k0 y0)) := by kernel_rfl
theorem ro86_0_0 (N : Nat) (K : Exit → St → O β) : ∀ (F : Nat) (v0 : Int) (v1 : Int) (v2 : Int) (v3 : Int) (v4 : List (Int × Int)), (lp Tryz.f86 0).rounds lay (E86 N) (retMask Tryz.f86) F (h86_0_0 v0 v1 v2 v3 v4) K = zj124 N F v0 v1 v2 v3 v4 (fun y0 => K (.exit 0) (x86_0_0_k0 y0)) := by
  intro F
  induction F with
  | zero => intros; rfl
  | succ F ih =>
    intros
    rw [rounds_next]
    refine (vst86_0_0 (zj1 N) (zj120 N) (zj122 N) (zj124 N) N _ _ _ _ _ (fun s => (lp Tryz.f86 0).rounds lay (E86 N) (retMask Tryz.f86) F s K) K).trans ?_
    simp only [ih]
    rfl
theorem lk86_0 (N : Nat) : lookL (E86 (β := β) N).loops (lp Tryz.f86 0).id = LS86_0 N := by kernel_rfl
theorem rk86_0 (N : Nat) : RoundsOK lay (E86 (β := β) N) (retMask Tryz.f86) (lp Tryz.f86 0) := by
  intro s K r h
  rw [lk86_0] at h
  unfold LS86_0 VLS86_0 at h
  cases hb : shpSt (h86_0_0 0 0 0 0 []) s with
  | true =>
    rw [hb, cond_true] at h
    exact ⟨N, by rw [← shpSt_ref hb, fl86_0_0 s]; unfold p86_0_0 at h ⊢; exact (ro86_0_0 N K N _ _ _ _ _).trans h⟩
  | false =>
  rw [hb, cond_false] at h
  clear hb
  cases h
theorem vst86_1_0 (N : Nat) (v0 : Int) (v1 : Int) (v2 : Int) (v3 : Int) (v4 : Int) (v5 : Int) (v6 : Int) (v7 : List (Int × Int)) (rec_ : St → O β) (K : Exit → St → O β) :
    stB lay (VE86 zq1 zq120 zq122 zq124 N) Tryz.f86 1 (h86_1_0 v0 v1 v2 v3 v4 v5 v6 v7) rec_ K = zb121 zq120 N v0 v1 v2 v3 v4 v5 v6 v7 (fun v0 v1 v2 v3 v4 v5 v6 v7 => rec_ (h86_1_0 v0 v1 v2 v3 v4 v5 v6 v7)) (fun y0 y1 y2 y3 y4 => K (.exit 2) (x86_1_0_k0 y0 y1 y2 y3 y4)) := by kernel_rfl
theorem ro86_1_0 (N : Nat) (K : Exit → St → O β) : ∀ (F : Nat) (v0 : Int) (v1 : Int) (v2 : Int) (v3 : Int) (v4 : Int) (v5 : Int) (v6 : Int) (v7 : List (Int × Int)), (lp Tryz.f86 1).rounds lay (E86 N) (retMask Tryz.f86) F (h86_1_0 v0 v1 v2 v3 v4 v5 v6 v7) K = zj122 N F v0 v1 v2 v3 v4 v5 v6 v7 (fun y0 y1 y2 y3 y4 => K (.exit 2) (x86_1_0_k0 y0 y1 y2 y3 y4)) := by
  intro F
  induction F with
  | zero => intros; rfl
  | succ F ih =>
    intros
    rw [rounds_next]
    refine (vst86_1_0 (zj1 N) (zj120 N) (zj122 N) (zj124 N) N _ _ _ _ _ _ _ _ (fun s => (lp Tryz.f86 1).rounds lay (E86 N) (retMask Tryz.f86) F s K) K).trans ?_
    simp only [ih]
    rfl
theorem lk86_2 (N : Nat) : lookL (E86 (β := β) N).loops (lp Tryz.f86 1).id = LS86_2 N := by kernel_rfl
theorem rk86_2 (N : Nat) : RoundsOK lay (E86 (β := β) N) (retMask Tryz.f86) (lp Tryz.f86 1) := by
  intro s K r h
  rw [lk86_2] at h
  unfold LS86_2 VLS86_2 at h
  cases hb : shpSt (h86_1_0 0 0 0 0 0 0 0 []) s with
  | true =>
    rw [hb, cond_true] at h
    exact ⟨N, by rw [← shpSt_ref hb, fl86_1_0 s]; exact (ro86_1_0 N K N (intS (oneA (vT (nx tund s.tmps 4)))) (intS (oneA (vT (nx tund s.tmps 8)))) (intS (oneA (vT (nx tund s.tmps 9)))) (intS (oneA (vT (nx tund s.tmps 13)))) (intS (oneA (vT (nx tund s.tmps 14)))) (intS (nx .und (cellsB (nx .dead s.blks 0)) 0)) (intS (nx .und (cellsB (nx .dead s.blks 0)) 1)) (rPairs (rowB_ (nx .dead s.blks 1)))).trans h⟩
  | false =>
  rw [hb, cond_false] at h
  clear hb
  cases h
theorem ve86_0 (N : Nat) (a0 : Int) (a1 : Int) (K : TV → O β) : evFn lay (VE86 zq1 zq120 zq122 zq124 N) Tryz.f86 [.v (.agg [.int .i64 a0, .int .i64 a1])] K = zb125 zq1 zq124 N a0 a1 (fun z2 => K (.v (.one (.sl 93 (.pairs z2))))) := by kernel_rfl
theorem o86 (N : Nat) : SpecOK (β := β) inv Tryz.prog 86 (S86 N) := by
  refine spec_of lay_ok mixed (E := E86 N) (specs_loops (specs_cons (o100 N) (specs_cons (o154 N) specs_nil))) muts_nil gs_nil Tryz.func86 (by kernel_rfl) 2 (by kernel_rfl) ⟨⟨trivial, rk86_0 N⟩, rk86_2 N⟩ fun args K r h => ?_
  unfold S86 VS86 at h
  split at h
  · exact (ve86_0 (zj1 N) (zj120 N) (zj122 N) (zj124 N) N _ _ _).trans h
  · cases h
def VS136 (N : Nat) : Rv.Spec β := fun args K => match args with
  | [.v (.one (.int .i64 a0)), .v (.one (.sl 93 (.pairs a1)))] => zq126 a0 a1 (fun z2 z3 => K (.v (.agg [.int .i64 z2, .int .i64 z3])))
  | _ => none
def S136 (N : Nat) : Rv.Spec β := VS136 (zj126 N) N
def VE136 (N : Nat) : Env β := ⟨[(129, VS129 zq0 zq5 zq12 zq15 N), (193, VS193 zq12 N)], [], [], [], ⟨[], [], [], []⟩⟩
def E136 (N : Nat) : Env β := VE136 (zj0 N) (zj5 N) (zj12 N) (zj15 N) N
theorem ve136_0 (N : Nat) (a0 : Int) (a1 : List (Int × Int)) (K : TV → O β) : evFn lay (VE136 zq0 zq5 zq12 zq15 N) Tryz.f136 [.v (.one (.int .i64 a0)), .v (.one (.sl 93 (.pairs a1)))] K = zb126 zq12 zq15 N a0 a1 (fun z2 z3 => K (.v (.agg [.int .i64 z2, .int .i64 z3]))) := by kernel_rfl
theorem o136 (N : Nat) : SpecOK (β := β) inv Tryz.prog 136 (S136 N) := by
  refine spec_of lay_ok mixed (E := E136 N) (specs_loops (specs_cons (o129 N) (specs_cons (o193 N) specs_nil))) muts_nil gs_nil Tryz.func136 (by kernel_rfl) 0 (by kernel_rfl) trivial fun args K r h => ?_
  unfold S136 VS136 at h
  split at h
  · exact (ve136_0 (zj0 N) (zj5 N) (zj12 N) (zj15 N) N _ _ _).trans h
  · cases h
def VSF147 (N : Nat) (G : Nat) : Rv.Spec β := fun args K => match args with
  | [.v (.one (.sl 3 (.ints .i64 a0))), .v (.one (.int .i64 a1)), .v (.one (.int .i64 a2)), .v (.one (.int .i64 a3)), .v (.one (.int .i64 a4))] => zq130 G a0 a1 a2 a3 a4 (fun z5 z6 => K (.tup [.one (.sl 3 (.ints .i64 z5)), .one (.bool z6)]))
  | _ => none
def SF147 (N : Nat) (G : Nat) : Rv.Spec β := VSF147 (zj130 N) N G
def VS147 (N : Nat) : Rv.Spec β := VSF147 zq130 N N
def S147 (N : Nat) : Rv.Spec β := SF147 N N
def h147_0_0 (v0 : List Int) (v1 : Int) (v2 : Int) (v3 : Int) (v4 : Int) : St := ⟨.v (.one (.sl 3 (.ints .i64 v0))) :: .v (.one (.int .i64 v1)) :: .v (.one (.int .i64 v2)) :: tund :: .v (.one (.int .i64 v3)) :: tn 7 (.v (.one (.int .i64 v4)) :: tn 44 []), []⟩
def x147_0_0_k0 (y0 : Bool) (y1 : List Int) : St := ⟨tn 10 (.v (.one (.row 0)) :: .v (.one (.bool y0)) :: tn 45 []), [.row 3 (.ints .i64 y1)]⟩
def x147_0_0_k1 : St := ⟨tn 57 [], []⟩
def p147_0_0 {γ : Type} (f : List Int → Int → Int → Int → Int → γ) (s : St) : γ := f (rInts (rowV (oneA (vT (nx tund s.tmps 0))))) (intS (oneA (vT (nx tund s.tmps 1)))) (intS (oneA (vT (nx tund s.tmps 2)))) (intS (oneA (vT (nx tund s.tmps 4)))) (intS (oneA (vT (nx tund s.tmps 12))))
theorem fl147_0_0 (s : St) : refSt (h147_0_0 [] 0 0 0 0) s = p147_0_0 h147_0_0 s := by kernel_rfl
def VLS147_0 (N : Nat) (G : Nat) : LSpec β := fun s K => cond (shpSt (h147_0_0 [] 0 0 0 0) s) (p147_0_0 (fun v0 v1 v2 v3 v4 => zq128 (zq130 G) N v0 v1 v2 v3 v4 (fun y0 y1 => K .ret (x147_0_0_k0 y0 y1)) (K (.exit 0) (x147_0_0_k1 ))) s) (none)
def LS147_0 (N : Nat) (G : Nat) : LSpec β := VLS147_0 (zj128 N) (zj130 N) N G
def VE147 (N : Nat) (G : Nat) : Env β := ⟨[(147, VSF147 zq130 N G)], [], [(0, VLS147_0 zq128 zq130 N G)], [], ⟨[], [], [], []⟩⟩
def E147 (N : Nat) (G : Nat) : Env β := VE147 (zj128 N) (zj130 N) N G
theorem vst147_0_0 (N : Nat) (G : Nat) (v0 : List Int) (v1 : Int) (v2 : Int) (v3 : Int) (v4 : Int) (rec_ : St → O β) (K : Exit → St → O β) :
    stB lay (VE147 zq128 zq130 N G) Tryz.f147 0 (h147_0_0 v0 v1 v2 v3 v4) rec_ K = zb127 N (zq130 G) v0 v1 v2 v3 v4 (fun v0 v1 v2 v3 v4 => rec_ (h147_0_0 v0 v1 v2 v3 v4)) (fun y0 y1 => K .ret (x147_0_0_k0 y0 y1)) (K (.exit 0) (x147_0_0_k1 )) := by kernel_rfl
theorem ro147_0_0 (N : Nat) (G : Nat) (K : Exit → St → O β) : ∀ (F : Nat) (v0 : List Int) (v1 : Int) (v2 : Int) (v3 : Int) (v4 : Int), (lp Tryz.f147 0).rounds lay (E147 N G) (retMask Tryz.f147) F (h147_0_0 v0 v1 v2 v3 v4) K = zj128 N (zj130 N G) F v0 v1 v2 v3 v4 (fun y0 y1 => K .ret (x147_0_0_k0 y0 y1)) (K (.exit 0) (x147_0_0_k1 )) := by
  intro F
  induction F with
  | zero => intros; rfl
  | succ F ih =>
    intros
    rw [rounds_next]
    refine (vst147_0_0 (zj128 N) (zj130 N) N G _ _ _ _ _ (fun s => (lp Tryz.f147 0).rounds lay (E147 N G) (retMask Tryz.f147) F s K) K).trans ?_
    simp only [ih]
    rfl
theorem lk147_0 (N : Nat) (G : Nat) : lookL (E147 (β := β) N G).loops (lp Tryz.f147 0).id = LS147_0 N G := by kernel_rfl
theorem rk147_0 (N : Nat) (G : Nat) : RoundsOK lay (E147 (β := β) N G) (retMask Tryz.f147) (lp Tryz.f147 0) := by
  intro s K r h
  rw [lk147_0] at h
  unfold LS147_0 VLS147_0 at h
  cases hb : shpSt (h147_0_0 [] 0 0 0 0) s with
  | true =>
    rw [hb, cond_true] at h
    exact ⟨N, by rw [← shpSt_ref hb, fl147_0_0 s]; unfold p147_0_0 at h ⊢; exact (ro147_0_0 N _ K N _ _ _ _ _).trans h⟩
  | false =>
  rw [hb, cond_false] at h
  clear hb
  cases h
theorem ve147_0 (N : Nat) (G : Nat) (a0 : List Int) (a1 : Int) (a2 : Int) (a3 : Int) (a4 : Int) (K : TV → O β) : evFn lay (VE147 zq128 zq130 N G) Tryz.f147 [.v (.one (.sl 3 (.ints .i64 a0))), .v (.one (.int .i64 a1)), .v (.one (.int .i64 a2)), .v (.one (.int .i64 a3)), .v (.one (.int .i64 a4))] K = zb129 zq128 N (zq130 G) a0 a1 a2 a3 a4 (fun z5 z6 => K (.tup [.one (.sl 3 (.ints .i64 z5)), .one (.bool z6)])) := by kernel_rfl
theorem z147 (N : Nat) : ∀ args K r, SF147 (β := β) N 0 args K = some r → (none : O β) = some r := by
  intro args K r h
  unfold SF147 VSF147 at h
  split at h <;> exact h
theorem of147 (N : Nat) : ∀ G, SpecOK (β := β) inv Tryz.prog 147 (SF147 N G) := by
  intro G
  induction G with
  | zero => exact s_zero Tryz.func147 (by kernel_rfl) (z147 N)
  | succ G ih =>
    refine spec_of lay_ok mixed (E := E147 N G) (specs_loops (specs_cons ih specs_nil)) muts_nil gs_nil Tryz.func147 (by kernel_rfl) 1 (by kernel_rfl) ⟨trivial, rk147_0 N G⟩ fun args K r h => ?_
    unfold SF147 VSF147 at h
    split at h
    · exact (ve147_0 (zj128 N) (zj130 N) N G _ _ _ _ _ _).trans h
    · cases h
theorem o147 (N : Nat) : SpecOK (β := β) inv Tryz.prog 147 (S147 N) := of147 N N
end Go.Proofs.YtemihnclhcobnaaGreatDoor
