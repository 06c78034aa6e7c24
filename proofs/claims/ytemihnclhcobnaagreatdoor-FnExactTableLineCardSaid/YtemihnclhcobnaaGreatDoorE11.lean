/- The functions that the claims reach answer as their texts do. -/
import Derived.Test.YtemihnclhcobnaaGreatDoorE10
namespace Go.Proofs.YtemihnclhcobnaaGreatDoor
open Go.Rv
set_option maxRecDepth 100000
set_option maxHeartbeats 2000000
set_option linter.unusedVariables false
variable {β : Type}
variable (zq103 : Y29 β) (zq104 : Y2 β) (zq106 : Y3 β) (zq110 : Y10 β) (zq144 : Y24 β) (zq145 : Y0 β) (zq183 : Y0 β) (zq184 : Y2 β) (zq185 : Y10 β) (zq187 : Y76 β) (zq189 : Y54 β) (zq190 : Y14 β) (zq191 : Y10 β) (zq192 : Y77 β) (zq194 : Y79 β) (zq195 : Y78 β) (zq196 : Y80 β) (zq197 : Y2 β) (zq199 : Y61 β) (zq200 : Y42 β)
def VS114 (N : Nat) : Rv.Spec β := fun args K => match args with
  | [.v (.agg [.int .i64 a0, .int .i64 a1])] => zq183 a0 a1 (fun z2 z3 => K (.v (.agg [.int .i64 z2, .int .i64 z3])))
  | _ => none
def S114 (N : Nat) : Rv.Spec β := VS114 (zj183 N) N
def VE114 (N : Nat) : Env β := ⟨[(100, VS100 zq103 N), (173, VS173 zq144 N), (174, VS174 zq145 N)], [], [], [], ⟨[], [], [157], [222]⟩⟩
def E114 (N : Nat) : Env β := VE114 (zj103 N) (zj144 N) (zj145 N) N
theorem ve114_0 (N : Nat) (a0 : Int) (a1 : Int) (K : TV → O β) : evFn lay (VE114 zq103 zq144 zq145 N) Tryz.f114 [.v (.agg [.int .i64 a0, .int .i64 a1])] K = zb183 zq103 zq144 zq145 N a0 a1 (fun z2 z3 => K (.v (.agg [.int .i64 z2, .int .i64 z3]))) := by kernel_rfl
theorem o114 (N : Nat) : SpecOK (β := β) inv Tryz.prog 114 (S114 N) := by
  refine spec_of lay_ok mixed (E := E114 N) (specs_loops (specs_cons (o100 N) (specs_cons (o173 N) (specs_cons (o174 N) specs_nil)))) muts_nil gs_nil Tryz.func114 (by kernel_rfl) 0 (by kernel_rfl) trivial fun args K r h => ?_
  unfold S114 VS114 at h
  split at h
  · exact (ve114_0 (zj103 N) (zj144 N) (zj145 N) N _ _ _).trans h
  · cases h
def VS53 (N : Nat) : Rv.Spec β := fun args K => match args with
  | [.v (.agg [.int .i64 a0, .int .i64 a1])] => zq184 a0 a1 (fun z2 => K (.v (.one (.bool z2))))
  | _ => none
def S53 (N : Nat) : Rv.Spec β := VS53 (zj184 N) N
def VE53 (N : Nat) : Env β := ⟨[(37, VS37 zq104 N), (114, VS114 zq183 N)], [], [], [], ⟨[], [], [157], [222]⟩⟩
def E53 (N : Nat) : Env β := VE53 (zj104 N) (zj183 N) N
theorem ve53_0 (N : Nat) (a0 : Int) (a1 : Int) (K : TV → O β) : evFn lay (VE53 zq104 zq183 N) Tryz.f53 [.v (.agg [.int .i64 a0, .int .i64 a1])] K = zb184 zq104 zq183 N a0 a1 (fun z2 => K (.v (.one (.bool z2)))) := by kernel_rfl
theorem o53 (N : Nat) : SpecOK (β := β) inv Tryz.prog 53 (S53 N) := by
  refine spec_of lay_ok mixed (E := E53 N) (specs_loops (specs_cons (o37 N) (specs_cons (o114 N) specs_nil))) muts_nil gs_nil Tryz.func53 (by kernel_rfl) 0 (by kernel_rfl) trivial fun args K r h => ?_
  unfold S53 VS53 at h
  split at h
  · exact (ve53_0 (zj104 N) (zj183 N) N _ _ _).trans h
  · cases h
def VS177 (N : Nat) : Rv.Spec β := fun args K => match args with
  | [.v (.one (.int .i64 a0))] => zq185 a0 (fun z1 => K (.v (.one (.int .i64 z1))))
  | _ => none
def S177 (N : Nat) : Rv.Spec β := VS177 (zj185 N) N
def VE177 (N : Nat) : Env β := ⟨[], [], [], [], ⟨[], [], [157], [222]⟩⟩
def E177 (N : Nat) : Env β := VE177 N
theorem ve177_0 (N : Nat) (a0 : Int) (K : TV → O β) : evFn lay (VE177 N) Tryz.f177 [.v (.one (.int .i64 a0))] K = zb185 N a0 (fun z1 => K (.v (.one (.int .i64 z1)))) := by kernel_rfl
theorem o177 (N : Nat) : SpecOK (β := β) inv Tryz.prog 177 (S177 N) := by
  refine spec_of lay_ok mixed (E := E177 N) (specs_loops specs_nil) muts_nil gs_nil Tryz.func177 (by kernel_rfl) 0 (by kernel_rfl) trivial fun args K r h => ?_
  unfold S177 VS177 at h
  split at h
  · exact (ve177_0 N _ _).trans h
  · cases h
def VS115 (N : Nat) : Rv.Spec β := fun args K => match args with
  | [.v (.agg [.int .i64 a0, .int .i64 a1])] => zq190 a0 a1 (fun z2 => K (.v (.one (.sl 3 (.ints .i64 z2)))))
  | _ => none
def S115 (N : Nat) : Rv.Spec β := VS115 (zj190 N) N
def h115_0_0 (v0 : Int) (v1 : Int) (v2 : Int) (v3 : Int) (v4 : List Int) : St := ⟨tund :: .v (.one (.ptr 0 0)) :: tund :: .v (.one (.row 1)) :: tn 6 (.v (.one (.int .i64 v0)) :: .v (.one (.int .i64 v1)) :: tn 25 []), [.cells 25 [.int .i64 v2, .int .i64 v3], .row 3 (.ints .i64 v4)]⟩
def x115_0_0_k0 (y0 : List Int) : St := ⟨tn 3 (.v (.one (.row 0)) :: tn 33 []), [.row 3 (.ints .i64 y0)]⟩
def h115_1_0 (v0 : Int) (v1 : Int) (v2 : Int) (v3 : Int) (v4 : Int) (v5 : Int) (v6 : Int) (v7 : List Int) : St := ⟨tund :: .v (.one (.ptr 0 0)) :: tund :: .v (.one (.row 1)) :: .v (.one (.int .i64 v0)) :: tn 5 (.v (.one (.int .i64 v1)) :: .v (.one (.int .i64 v2)) :: tn 3 (.v (.one (.int .i64 v3)) :: .v (.one (.int .i64 v4)) :: tn 20 [])), [.cells 25 [.int .i64 v5, .int .i64 v6], .row 3 (.ints .i64 v7)]⟩
def x115_1_0_k0 (y0 : Int) (y1 : Int) (y2 : Int) (y3 : Int) (y4 : List Int) : St := ⟨tund :: .v (.one (.ptr 0 0)) :: tund :: .v (.one (.row 1)) :: tn 6 (.v (.one (.int .i64 y0)) :: .v (.one (.int .i64 y1)) :: tn 25 []), [.cells 25 [.int .i64 y2, .int .i64 y3], .row 3 (.ints .i64 y4)]⟩
def p115_0_0 {γ : Type} (f : Int → Int → Int → Int → List Int → γ) (s : St) : γ := f (intS (oneA (vT (nx tund s.tmps 10)))) (intS (oneA (vT (nx tund s.tmps 11)))) (intS (nx .und (cellsB (nx .dead s.blks 0)) 0)) (intS (nx .und (cellsB (nx .dead s.blks 0)) 1)) (rInts (rowB_ (nx .dead s.blks 1)))
theorem fl115_0_0 (s : St) : refSt (h115_0_0 0 0 0 0 []) s = p115_0_0 h115_0_0 s := by kernel_rfl
def VLS115_0 (N : Nat) : LSpec β := fun s K => cond (shpSt (h115_0_0 0 0 0 0 []) s) (p115_0_0 (fun v0 v1 v2 v3 v4 => zq189 N v0 v1 v2 v3 v4 (fun y0 => K (.exit 0) (x115_0_0_k0 y0))) s) (none)
def LS115_0 (N : Nat) : LSpec β := VLS115_0 (zj189 N) N
def p115_1_0 {γ : Type} (f : Int → Int → Int → Int → Int → Int → Int → List Int → γ) (s : St) : γ := f (intS (oneA (vT (nx tund s.tmps 4)))) (intS (oneA (vT (nx tund s.tmps 10)))) (intS (oneA (vT (nx tund s.tmps 11)))) (intS (oneA (vT (nx tund s.tmps 15)))) (intS (oneA (vT (nx tund s.tmps 16)))) (intS (nx .und (cellsB (nx .dead s.blks 0)) 0)) (intS (nx .und (cellsB (nx .dead s.blks 0)) 1)) (rInts (rowB_ (nx .dead s.blks 1)))
theorem fl115_1_0 (s : St) : refSt (h115_1_0 0 0 0 0 0 0 0 []) s = p115_1_0 h115_1_0 s := by kernel_rfl
def VLS115_2 (N : Nat) : LSpec β := fun s K => cond (shpSt (h115_1_0 0 0 0 0 0 0 0 []) s) ((fun (v0 : Int) (v1 : Int) (v2 : Int) (v3 : Int) (v4 : Int) (v5 : Int) (v6 : Int) (v7 : List Int) => zq187 N v0 v1 v2 v3 v4 v5 v6 v7 (fun y0 y1 y2 y3 y4 => K (.exit 2) (x115_1_0_k0 y0 y1 y2 y3 y4))) (intS (oneA (vT (nx tund s.tmps 4)))) (intS (oneA (vT (nx tund s.tmps 10)))) (intS (oneA (vT (nx tund s.tmps 11)))) (intS (oneA (vT (nx tund s.tmps 15)))) (intS (oneA (vT (nx tund s.tmps 16)))) (intS (nx .und (cellsB (nx .dead s.blks 0)) 0)) (intS (nx .und (cellsB (nx .dead s.blks 0)) 1)) (rInts (rowB_ (nx .dead s.blks 1)))) (none)
def LS115_2 (N : Nat) : LSpec β := VLS115_2 (zj187 N) N
def VE115 (N : Nat) : Env β := ⟨[(100, VS100 zq103 N), (103, VS103 zq106 N), (105, VS105 zq110 N), (177, VS177 zq185 N)], [], [(0, VLS115_0 zq189 N), (2, VLS115_2 zq187 N)], [], ⟨[], [], [157], [222]⟩⟩
def E115 (N : Nat) : Env β := VE115 (zj103 N) (zj106 N) (zj110 N) (zj185 N) (zj187 N) (zj189 N) N
theorem vst115_0_0 (N : Nat) (v0 : Int) (v1 : Int) (v2 : Int) (v3 : Int) (v4 : List Int) (rec_ : St → O β) (K : Exit → St → O β) :
    stB lay (VE115 zq103 zq106 zq110 zq185 zq187 zq189 N) Tryz.f115 0 (h115_0_0 v0 v1 v2 v3 v4) rec_ K = zb188 zq103 zq187 N v0 v1 v2 v3 v4 (fun v0 v1 v2 v3 v4 => rec_ (h115_0_0 v0 v1 v2 v3 v4)) (fun y0 => K (.exit 0) (x115_0_0_k0 y0)) := by kernel_rfl
theorem ro115_0_0 (N : Nat) (K : Exit → St → O β) : ∀ (F : Nat) (v0 : Int) (v1 : Int) (v2 : Int) (v3 : Int) (v4 : List Int), (lp Tryz.f115 0).rounds lay (E115 N) (retMask Tryz.f115) F (h115_0_0 v0 v1 v2 v3 v4) K = zj189 N F v0 v1 v2 v3 v4 (fun y0 => K (.exit 0) (x115_0_0_k0 y0)) := by
  intro F
  induction F with
  | zero => intros; rfl
  | succ F ih =>
    intros
    rw [rounds_next]
    refine (vst115_0_0 (zj103 N) (zj106 N) (zj110 N) (zj185 N) (zj187 N) (zj189 N) N _ _ _ _ _ (fun s => (lp Tryz.f115 0).rounds lay (E115 N) (retMask Tryz.f115) F s K) K).trans ?_
    simp only [ih]
    rfl
theorem lk115_0 (N : Nat) : lookL (E115 (β := β) N).loops (lp Tryz.f115 0).id = LS115_0 N := by kernel_rfl
theorem rk115_0 (N : Nat) : RoundsOK lay (E115 (β := β) N) (retMask Tryz.f115) (lp Tryz.f115 0) := by
  intro s K r h
  rw [lk115_0] at h
  unfold LS115_0 VLS115_0 at h
  cases hb : shpSt (h115_0_0 0 0 0 0 []) s with
  | true =>
    rw [hb, cond_true] at h
    exact ⟨N, by rw [← shpSt_ref hb, fl115_0_0 s]; unfold p115_0_0 at h ⊢; exact (ro115_0_0 N K N _ _ _ _ _).trans h⟩
  | false =>
  rw [hb, cond_false] at h
  clear hb
  cases h
theorem vst115_1_0 (N : Nat) (v0 : Int) (v1 : Int) (v2 : Int) (v3 : Int) (v4 : Int) (v5 : Int) (v6 : Int) (v7 : List Int) (rec_ : St → O β) (K : Exit → St → O β) :
    stB lay (VE115 zq103 zq106 zq110 zq185 zq187 zq189 N) Tryz.f115 1 (h115_1_0 v0 v1 v2 v3 v4 v5 v6 v7) rec_ K = zb186 zq106 zq110 zq185 N v0 v1 v2 v3 v4 v5 v6 v7 (fun v0 v1 v2 v3 v4 v5 v6 v7 => rec_ (h115_1_0 v0 v1 v2 v3 v4 v5 v6 v7)) (fun y0 y1 y2 y3 y4 => K (.exit 2) (x115_1_0_k0 y0 y1 y2 y3 y4)) := by kernel_rfl
theorem ro115_1_0 (N : Nat) (K : Exit → St → O β) : ∀ (F : Nat) (v0 : Int) (v1 : Int) (v2 : Int) (v3 : Int) (v4 : Int) (v5 : Int) (v6 : Int) (v7 : List Int), (lp Tryz.f115 1).rounds lay (E115 N) (retMask Tryz.f115) F (h115_1_0 v0 v1 v2 v3 v4 v5 v6 v7) K = zj187 N F v0 v1 v2 v3 v4 v5 v6 v7 (fun y0 y1 y2 y3 y4 => K (.exit 2) (x115_1_0_k0 y0 y1 y2 y3 y4)) := by
  intro F
  induction F with
  | zero => intros; rfl
  | succ F ih =>
    intros
    rw [rounds_next]
    refine (vst115_1_0 (zj103 N) (zj106 N) (zj110 N) (zj185 N) (zj187 N) (zj189 N) N _ _ _ _ _ _ _ _ (fun s => (lp Tryz.f115 1).rounds lay (E115 N) (retMask Tryz.f115) F s K) K).trans ?_
    simp only [ih]
    rfl
theorem lk115_2 (N : Nat) : lookL (E115 (β := β) N).loops (lp Tryz.f115 1).id = LS115_2 N := by kernel_rfl
theorem rk115_2 (N : Nat) : RoundsOK lay (E115 (β := β) N) (retMask Tryz.f115) (lp Tryz.f115 1) := by
  intro s K r h
  rw [lk115_2] at h
  unfold LS115_2 VLS115_2 at h
  cases hb : shpSt (h115_1_0 0 0 0 0 0 0 0 []) s with
  | true =>
    rw [hb, cond_true] at h
    exact ⟨N, by rw [← shpSt_ref hb, fl115_1_0 s]; exact (ro115_1_0 N K N (intS (oneA (vT (nx tund s.tmps 4)))) (intS (oneA (vT (nx tund s.tmps 10)))) (intS (oneA (vT (nx tund s.tmps 11)))) (intS (oneA (vT (nx tund s.tmps 15)))) (intS (oneA (vT (nx tund s.tmps 16)))) (intS (nx .und (cellsB (nx .dead s.blks 0)) 0)) (intS (nx .und (cellsB (nx .dead s.blks 0)) 1)) (rInts (rowB_ (nx .dead s.blks 1)))).trans h⟩
  | false =>
  rw [hb, cond_false] at h
  clear hb
  cases h
theorem ve115_0 (N : Nat) (a0 : Int) (a1 : Int) (K : TV → O β) : evFn lay (VE115 zq103 zq106 zq110 zq185 zq187 zq189 N) Tryz.f115 [.v (.agg [.int .i64 a0, .int .i64 a1])] K = zb190 zq103 zq189 N a0 a1 (fun z2 => K (.v (.one (.sl 3 (.ints .i64 z2))))) := by kernel_rfl
theorem o115 (N : Nat) : SpecOK (β := β) inv Tryz.prog 115 (S115 N) := by
  refine spec_of lay_ok mixed (E := E115 N) (specs_loops (specs_cons (o100 N) (specs_cons (o103 N) (specs_cons (o105 N) (specs_cons (o177 N) specs_nil))))) muts_nil gs_nil Tryz.func115 (by kernel_rfl) 2 (by kernel_rfl) ⟨⟨trivial, rk115_0 N⟩, rk115_2 N⟩ fun args K r h => ?_
  unfold S115 VS115 at h
  split at h
  · exact (ve115_0 (zj103 N) (zj106 N) (zj110 N) (zj185 N) (zj187 N) (zj189 N) N _ _ _).trans h
  · cases h
def VS118 (N : Nat) : Rv.Spec β := fun args K => match args with
  | [.v (.one (.int .i64 a0))] => zq191 a0 (fun z1 => K (.v (.one (.int .i64 z1))))
  | _ => none
def S118 (N : Nat) : Rv.Spec β := VS118 (zj191 N) N
def VE118 (N : Nat) : Env β := ⟨[], [], [], [], ⟨[], [], [157], [222]⟩⟩
def E118 (N : Nat) : Env β := VE118 N
theorem ve118_0 (N : Nat) (a0 : Int) (K : TV → O β) : evFn lay (VE118 N) Tryz.f118 [.v (.one (.int .i64 a0))] K = zb191 N a0 (fun z1 => K (.v (.one (.int .i64 z1)))) := by kernel_rfl
theorem o118 (N : Nat) : SpecOK (β := β) inv Tryz.prog 118 (S118 N) := by
  refine spec_of lay_ok mixed (E := E118 N) (specs_loops specs_nil) muts_nil gs_nil Tryz.func118 (by kernel_rfl) 0 (by kernel_rfl) trivial fun args K r h => ?_
  unfold S118 VS118 at h
  split at h
  · exact (ve118_0 N _ _).trans h
  · cases h
def VS117 (N : Nat) : Rv.Spec β := fun args K => match args with
  | [.v (.one (.int .i64 a0)), .v (.one (.cref [.sl 3 (.ints .i64 c0)] 0))] => zq192 a0 c0 (fun z1 => K (.v (.one (.bool z1))))
  | _ => none
def S117 (N : Nat) : Rv.Spec β := VS117 (zj192 N) N
def VE117 (N : Nat) : Env β := ⟨[(118, VS118 zq191 N)], [], [], [], ⟨[], [], [157], [222]⟩⟩
def E117 (N : Nat) : Env β := VE117 (zj191 N) N
theorem ve117_0 (N : Nat) (a0 : Int) (c0 : List Int) (K : TV → O β) : evFn lay (VE117 zq191 N) Tryz.f117 [.v (.one (.int .i64 a0)), .v (.one (.cref [.sl 3 (.ints .i64 c0)] 0))] K = zb192 zq191 N a0 c0 (fun z1 => K (.v (.one (.bool z1)))) := by kernel_rfl
theorem o117 (N : Nat) : SpecOK (β := β) inv Tryz.prog 117 (S117 N) := by
  refine spec_of lay_ok mixed (E := E117 N) (specs_loops (specs_cons (o118 N) specs_nil)) muts_nil gs_nil Tryz.func117 (by kernel_rfl) 0 (by kernel_rfl) trivial fun args K r h => ?_
  unfold S117 VS117 at h
  split at h
  · exact (ve117_0 (zj191 N) N _ _ _).trans h
  · cases h
def VS178 (N : Nat) : Rv.Spec β := fun args K => match args with
  | [.v (.one (.sl 3 (.ints .i64 a0))), .v (.one (.dfn 117 [([.sl 3 (.ints .i64 q0)], 0)]))] => zq195 a0 (fun x0 k => zq192 x0 q0 k) (fun z2 => K (.v (.one (.int .i64 z2))))
  | _ => none
def S178 (N : Nat) : Rv.Spec β := VS178 (zj192 N) (zj195 N) N
def h178_0_0 (q0 : List Int) (v0 : List Int) (v1 : Int) (v2 : Int) : St := ⟨.v (.one (.sl 3 (.ints .i64 v0))) :: .v (.one (.dfn 117 [([.sl 3 (.ints .i64 q0)], 0)])) :: tn 5 (.v (.one (.int .i64 v1)) :: .v (.one (.int .i64 v2)) :: tn 10 []), []⟩
def x178_0_0_k0 (q0 : List Int) (y0 : Int) : St := ⟨tn 4 (.v (.one (.int .i64 y0)) :: tn 14 []), []⟩
def x178_0_0_k1 (q0 : List Int) : St := ⟨tn 19 [], []⟩
def p178_0_0 {γ : Type} (f : List Int → List Int → Int → Int → γ) (s : St) : γ := f (rInts (rowF (nx .no (nx ([], 0) (dfnS (oneA (vT (nx tund s.tmps 1)))) 0).1 0))) (rInts (rowV (oneA (vT (nx tund s.tmps 0))))) (intS (oneA (vT (nx tund s.tmps 7)))) (intS (oneA (vT (nx tund s.tmps 8))))
theorem fl178_0_0 (s : St) : refSt (h178_0_0 [] [] 0 0) s = p178_0_0 h178_0_0 s := by kernel_rfl
def VLS178_0 (N : Nat) : LSpec β := fun s K => cond (shpSt (h178_0_0 [] [] 0 0) s) (p178_0_0 (fun q0 v0 v1 v2 => zq194 (fun x0 k => zq192 x0 q0 k) N v0 v1 v2 (fun y0 => K .ret (x178_0_0_k0 q0 y0)) (K (.exit 0) (x178_0_0_k1 q0 ))) s) (none)
def LS178_0 (N : Nat) : LSpec β := VLS178_0 (zj192 N) (zj194 N) N
def VE178 (N : Nat) : Env β := ⟨[(117, VS117 zq192 N)], [], [(0, VLS178_0 zq192 zq194 N)], [], ⟨[], [], [157], [222]⟩⟩
def E178 (N : Nat) : Env β := VE178 (zj192 N) (zj194 N) N
theorem vst178_0_0 (N : Nat) (q0 : List Int) (v0 : List Int) (v1 : Int) (v2 : Int) (rec_ : St → O β) (K : Exit → St → O β) :
    stB lay (VE178 zq192 zq194 N) Tryz.f178 0 (h178_0_0 q0 v0 v1 v2) rec_ K = zb193 N (fun x0 k => zq192 x0 q0 k) v0 v1 v2 (fun v0 v1 v2 => rec_ (h178_0_0 q0 v0 v1 v2)) (fun y0 => K .ret (x178_0_0_k0 q0 y0)) (K (.exit 0) (x178_0_0_k1 q0 )) := by kernel_rfl
theorem ro178_0_0 (N : Nat) (q0 : List Int) (K : Exit → St → O β) : ∀ (F : Nat) (v0 : List Int) (v1 : Int) (v2 : Int), (lp Tryz.f178 0).rounds lay (E178 N) (retMask Tryz.f178) F (h178_0_0 q0 v0 v1 v2) K = zj194 N (fun x0 k => zj192 N x0 q0 k) F v0 v1 v2 (fun y0 => K .ret (x178_0_0_k0 q0 y0)) (K (.exit 0) (x178_0_0_k1 q0 )) := by
  intro F
  induction F with
  | zero => intros; rfl
  | succ F ih =>
    intros
    rw [rounds_next]
    refine (vst178_0_0 (zj192 N) (zj194 N) N q0 _ _ _ (fun s => (lp Tryz.f178 0).rounds lay (E178 N) (retMask Tryz.f178) F s K) K).trans ?_
    simp only [ih]
    rfl
theorem lk178_0 (N : Nat) : lookL (E178 (β := β) N).loops (lp Tryz.f178 0).id = LS178_0 N := by kernel_rfl
theorem rk178_0 (N : Nat) : RoundsOK lay (E178 (β := β) N) (retMask Tryz.f178) (lp Tryz.f178 0) := by
  intro s K r h
  rw [lk178_0] at h
  unfold LS178_0 VLS178_0 at h
  cases hb : shpSt (h178_0_0 [] [] 0 0) s with
  | true =>
    rw [hb, cond_true] at h
    exact ⟨N, by rw [← shpSt_ref hb, fl178_0_0 s]; unfold p178_0_0 at h ⊢; exact (ro178_0_0 N _ K N _ _ _).trans h⟩
  | false =>
  rw [hb, cond_false] at h
  clear hb
  cases h
theorem ve178_0 (N : Nat) (q0 : List Int) (a0 : List Int) (K : TV → O β) : evFn lay (VE178 zq192 zq194 N) Tryz.f178 [.v (.one (.sl 3 (.ints .i64 a0))), .v (.one (.dfn 117 [([.sl 3 (.ints .i64 q0)], 0)]))] K = zb195 zq194 N a0 (fun x0 k => zq192 x0 q0 k) (fun z2 => K (.v (.one (.int .i64 z2)))) := by kernel_rfl
theorem o178 (N : Nat) : SpecOK (β := β) inv Tryz.prog 178 (S178 N) := by
  refine spec_of lay_ok mixed (E := E178 N) (specs_loops (specs_cons (o117 N) specs_nil)) muts_nil gs_nil Tryz.func178 (by kernel_rfl) 1 (by kernel_rfl) ⟨trivial, rk178_0 N⟩ fun args K r h => ?_
  unfold S178 VS178 at h
  split at h
  · exact (ve178_0 (zj192 N) (zj194 N) N _ _ _).trans h
  · cases h
def VS116 (N : Nat) : Rv.Spec β := fun args K => match args with
  | [.v (.one (.sl 3 (.ints .i64 a0))), .v (.one (.dfn 117 [([.sl 3 (.ints .i64 q0)], 0)]))] => zq196 a0 (fun x0 k => zq192 x0 q0 k) (fun z2 => K (.v (.one (.bool z2))))
  | _ => none
def S116 (N : Nat) : Rv.Spec β := VS116 (zj192 N) (zj196 N) N
def VE116 (N : Nat) : Env β := ⟨[(178, VS178 zq192 zq195 N), (117, VS117 zq192 N)], [], [], [], ⟨[], [], [157], [222]⟩⟩
def E116 (N : Nat) : Env β := VE116 (zj192 N) (zj195 N) N
theorem ve116_0 (N : Nat) (q0 : List Int) (a0 : List Int) (K : TV → O β) : evFn lay (VE116 zq192 zq195 N) Tryz.f116 [.v (.one (.sl 3 (.ints .i64 a0))), .v (.one (.dfn 117 [([.sl 3 (.ints .i64 q0)], 0)]))] K = zb196 zq195 N a0 (fun x0 k => zq192 x0 q0 k) (fun z2 => K (.v (.one (.bool z2)))) := by kernel_rfl
theorem o116 (N : Nat) : SpecOK (β := β) inv Tryz.prog 116 (S116 N) := by
  refine spec_of lay_ok mixed (E := E116 N) (specs_loops (specs_cons (o178 N) (specs_cons (o117 N) specs_nil))) muts_nil gs_nil Tryz.func116 (by kernel_rfl) 0 (by kernel_rfl) trivial fun args K r h => ?_
  unfold S116 VS116 at h
  split at h
  · exact (ve116_0 (zj192 N) (zj195 N) N _ _ _).trans h
  · cases h
def VS54 (N : Nat) : Rv.Spec β := fun args K => match args with
  | [.v (.agg [.int .i64 a0, .int .i64 a1])] => zq197 a0 a1 (fun z2 => K (.v (.one (.bool z2))))
  | _ => none
def S54 (N : Nat) : Rv.Spec β := VS54 (zj197 N) N
def VE54 (N : Nat) : Env β := ⟨[(37, VS37 zq104 N), (115, VS115 zq190 N), (116, VS116 zq192 zq196 N), (117, VS117 zq192 N)], [], [], [], ⟨[], [], [157], [222]⟩⟩
def E54 (N : Nat) : Env β := VE54 (zj104 N) (zj190 N) (zj192 N) (zj196 N) N
theorem ve54_0 (N : Nat) (a0 : Int) (a1 : Int) (K : TV → O β) : evFn lay (VE54 zq104 zq190 zq192 zq196 N) Tryz.f54 [.v (.agg [.int .i64 a0, .int .i64 a1])] K = zb197 zq104 zq190 zq192 zq196 N a0 a1 (fun z2 => K (.v (.one (.bool z2)))) := by kernel_rfl
theorem o54 (N : Nat) : SpecOK (β := β) inv Tryz.prog 54 (S54 N) := by
  refine spec_of lay_ok mixed (E := E54 N) (specs_loops (specs_cons (o37 N) (specs_cons (o115 N) (specs_cons (o116 N) (specs_cons (o117 N) specs_nil))))) muts_nil gs_nil Tryz.func54 (by kernel_rfl) 0 (by kernel_rfl) trivial fun args K r h => ?_
  unfold S54 VS54 at h
  split at h
  · exact (ve54_0 (zj104 N) (zj190 N) (zj192 N) (zj196 N) N _ _ _).trans h
  · cases h
def VS228 (N : Nat) : Rv.Spec β := fun args K => match args with
  | [.v (.one (.sl 3 (.ints .i64 a0))), .v (.one (.int .i64 a1))] => zq200 a0 a1 (fun z2 => K (.v (.one (.int .i64 z2))))
  | _ => none
def S228 (N : Nat) : Rv.Spec β := VS228 (zj200 N) N
def h228_0_0 (v0 : Int) (v1 : Int) (v2 : List Int) (v3 : Int) (v4 : Int) : St := ⟨tund :: .v (.one (.int .i64 v0)) :: tn 3 (.v (.one (.int .i64 v1)) :: tund :: tund :: .v (.one (.sl 3 (.ints .i64 v2))) :: .v (.one (.int .i64 v3)) :: .v (.one (.int .i64 v4)) :: tn 14 []), []⟩
def x228_0_0_k0 (y0 : Int) : St := ⟨tn 5 (.v (.one (.int .i64 y0)) :: tn 19 []), []⟩
def p228_0_0 {γ : Type} (f : Int → Int → List Int → Int → Int → γ) (s : St) : γ := f (intS (oneA (vT (nx tund s.tmps 1)))) (intS (oneA (vT (nx tund s.tmps 5)))) (rInts (rowV (oneA (vT (nx tund s.tmps 8))))) (intS (oneA (vT (nx tund s.tmps 9)))) (intS (oneA (vT (nx tund s.tmps 10))))
theorem fl228_0_0 (s : St) : refSt (h228_0_0 0 0 [] 0 0) s = p228_0_0 h228_0_0 s := by kernel_rfl
def VLS228_0 (N : Nat) : LSpec β := fun s K => cond (shpSt (h228_0_0 0 0 [] 0 0) s) (p228_0_0 (fun v0 v1 v2 v3 v4 => zq199 N v0 v1 v2 v3 v4 (fun y0 => K (.exit 0) (x228_0_0_k0 y0))) s) (none)
def LS228_0 (N : Nat) : LSpec β := VLS228_0 (zj199 N) N
def VE228 (N : Nat) : Env β := ⟨[], [], [(0, VLS228_0 zq199 N)], [], ⟨[], [], [157], [222]⟩⟩
def E228 (N : Nat) : Env β := VE228 (zj199 N) N
theorem vst228_0_0 (N : Nat) (v0 : Int) (v1 : Int) (v2 : List Int) (v3 : Int) (v4 : Int) (rec_ : St → O β) (K : Exit → St → O β) :
    stB lay (VE228 zq199 N) Tryz.f228 0 (h228_0_0 v0 v1 v2 v3 v4) rec_ K = zb198 N v0 v1 v2 v3 v4 (fun v0 v1 v2 v3 v4 => rec_ (h228_0_0 v0 v1 v2 v3 v4)) (fun y0 => K (.exit 0) (x228_0_0_k0 y0)) := by kernel_rfl
theorem ro228_0_0 (N : Nat) (K : Exit → St → O β) : ∀ (F : Nat) (v0 : Int) (v1 : Int) (v2 : List Int) (v3 : Int) (v4 : Int), (lp Tryz.f228 0).rounds lay (E228 N) (retMask Tryz.f228) F (h228_0_0 v0 v1 v2 v3 v4) K = zj199 N F v0 v1 v2 v3 v4 (fun y0 => K (.exit 0) (x228_0_0_k0 y0)) := by
  intro F
  induction F with
  | zero => intros; rfl
  | succ F ih =>
    intros
    rw [rounds_next]
    refine (vst228_0_0 (zj199 N) N _ _ _ _ _ (fun s => (lp Tryz.f228 0).rounds lay (E228 N) (retMask Tryz.f228) F s K) K).trans ?_
    simp only [ih]
    rfl
theorem lk228_0 (N : Nat) : lookL (E228 (β := β) N).loops (lp Tryz.f228 0).id = LS228_0 N := by kernel_rfl
theorem rk228_0 (N : Nat) : RoundsOK lay (E228 (β := β) N) (retMask Tryz.f228) (lp Tryz.f228 0) := by
  intro s K r h
  rw [lk228_0] at h
  unfold LS228_0 VLS228_0 at h
  cases hb : shpSt (h228_0_0 0 0 [] 0 0) s with
  | true =>
    rw [hb, cond_true] at h
    exact ⟨N, by rw [← shpSt_ref hb, fl228_0_0 s]; unfold p228_0_0 at h ⊢; exact (ro228_0_0 N K N _ _ _ _ _).trans h⟩
  | false =>
  rw [hb, cond_false] at h
  clear hb
  cases h
theorem ve228_0 (N : Nat) (a0 : List Int) (a1 : Int) (K : TV → O β) : evFn lay (VE228 zq199 N) Tryz.f228 [.v (.one (.sl 3 (.ints .i64 a0))), .v (.one (.int .i64 a1))] K = zb200 zq199 N a0 a1 (fun z2 => K (.v (.one (.int .i64 z2)))) := by kernel_rfl
theorem o228 (N : Nat) : SpecOK (β := β) inv Tryz.prog 228 (S228 N) := by
  refine spec_of lay_ok mixed (E := E228 N) (specs_loops specs_nil) muts_nil gs_nil Tryz.func228 (by kernel_rfl) 1 (by kernel_rfl) ⟨trivial, rk228_0 N⟩ fun args K r h => ?_
  unfold S228 VS228 at h
  split at h
  · exact (ve228_0 (zj199 N) N _ _ _).trans h
  · cases h
end Go.Proofs.YtemihnclhcobnaaGreatDoor
