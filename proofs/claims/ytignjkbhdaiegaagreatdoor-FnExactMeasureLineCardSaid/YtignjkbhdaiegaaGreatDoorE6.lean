/- The functions that the claims reach answer as their texts do. -/
import Derived.Test.YtignjkbhdaiegaaGreatDoorE5
namespace Go.Proofs.YtignjkbhdaiegaaGreatDoor
open Go.Rv
set_option maxRecDepth 100000
set_option maxHeartbeats 2000000
set_option linter.unusedVariables false
def VS78 {β : Type} (N : Nat) (jq127 : (a0 : Int) → (a1 : Int) → (a2 : Int) → (k : Int → Option β) → Option β) : Rv.Spec β := fun args K => match args with
  | [.v (.agg [.int .i64 a0, .int .i64 a1]), .v (.one (.int .i64 a2))] => jq127 a0 a1 a2 (fun z3 => K (.v (.one (.int .i64 z3))))
  | _ => none
def S78 {β : Type} (N : Nat) : Rv.Spec β := VS78 N (j127 N)
def h78_0_0  (v0 : Int) (v1 : Int) (v2 : Int) (v3 : Int) (v4 : Int) (v5 : Int) : St := ⟨tund :: .v (.one (.int .i64 v0)) :: .v (.one (.ptr 0 0)) :: tund :: tund :: .v (.one (.int .i64 v1)) :: tund :: tund :: tund :: tund :: tund :: tund :: tund :: tund :: tund :: tund :: .v (.one (.int .i64 v2)) :: .v (.one (.int .i64 v3)) :: tund :: tund :: tund :: tund :: tund :: tund :: tund :: tund :: tund :: tund :: tund :: tund :: tund :: tund :: tund :: [], [.cells 25 [.int .i64 v4, .int .i64 v5]]⟩
def x78_0_0_k0  (y0 : Int) : St := ⟨tund :: tund :: tund :: tund :: tund :: .v (.one (.int .i64 y0)) :: tund :: tund :: tund :: tund :: tund :: tund :: tund :: tund :: tund :: tund :: tund :: tund :: tund :: tund :: tund :: tund :: tund :: tund :: tund :: tund :: tund :: tund :: tund :: tund :: tund :: tund :: tund :: [], []⟩
theorem fl78_0_0 (s : St) : refSt (h78_0_0 0 0 0 0 0 0) s = h78_0_0 (intS (oneA (vT (nx tund s.tmps 1)))) (intS (oneA (vT (nx tund s.tmps 5)))) (intS (oneA (vT (nx tund s.tmps 16)))) (intS (oneA (vT (nx tund s.tmps 17)))) (intS (nx .und (cellsB (nx .dead s.blks 0)) 0)) (intS (nx .und (cellsB (nx .dead s.blks 0)) 1)) := by kernel_rfl
def VLS78_0 {β : Type} (N : Nat) (jq126 : Nat → Int → Int → Int → Int → Int → Int → (Int → Option β) → Option β) : LSpec β := fun s K => cond (shpSt (h78_0_0 0 0 0 0 0 0) s) ((fun (v0 : Int) (v1 : Int) (v2 : Int) (v3 : Int) (v4 : Int) (v5 : Int) => jq126  N v0 v1 v2 v3 v4 v5 (fun y0 => K (.exit 0) (x78_0_0_k0  y0))) (intS (oneA (vT (nx tund s.tmps 1)))) (intS (oneA (vT (nx tund s.tmps 5)))) (intS (oneA (vT (nx tund s.tmps 16)))) (intS (oneA (vT (nx tund s.tmps 17)))) (intS (nx .und (cellsB (nx .dead s.blks 0)) 0)) (intS (nx .und (cellsB (nx .dead s.blks 0)) 1))) (none)
def LS78_0 {β : Type} (N : Nat) : LSpec β := VLS78_0 N (j126 N)
def VE78 {β : Type} (N : Nat) (jq91 : (a0 : Int) → (a1 : Int) → (k : Bool → Option β) → Option β) (jq115 : (a0 : Int) → (k : Bool → Option β) → Option β) (jq90 : (a0 : Int) → (a1 : Int) → (k : Int → Option β) → Option β) (jq94 : (a0 : Int) → (a1 : Int) → (a2 : Int) → (k : Int → Option β) → Option β) (jq124 : (a0 : Int) → (a1 : Int) → (a2 : Int) → (k : Int → Option β) → Option β) (jq117 : (a0 : Int) → (k : Int → Option β) → Option β) (jq126 : Nat → Int → Int → Int → Int → Int → Int → (Int → Option β) → Option β) : Env β := ⟨[(45, VS45 N jq91), (134, VS134 N jq115), (100, VS100 N jq90), (103, VS103 N jq94), (135, VS135 N jq124), (104, VS104 N jq117)], [], [(0, VLS78_0 N jq126)], [], ⟨[], [], []⟩⟩
def E78 {β : Type} (N : Nat) : Env β := VE78 N (j91 N) (j115 N) (j90 N) (j94 N) (j124 N) (j117 N) (j126 N)
def jb125 {β : Type} (N : Nat) (jq94 : (a0 : Int) → (a1 : Int) → (a2 : Int) → (k : Int → Option β) → Option β) (jq124 : (a0 : Int) → (a1 : Int) → (a2 : Int) → (k : Int → Option β) → Option β) (jq117 : (a0 : Int) → (k : Int → Option β) → Option β)  (v0 : Int) (v1 : Int) (v2 : Int) (v3 : Int) (v4 : Int) (v5 : Int) (rec_ : Int → Int → Int → Int → Int → Int → Option β) (k0 : Int → Option β) : Option β :=
(cond ((decide (v3 < v2)))
(jq94 v4 v5 v3 fun r7 =>
(cond ((r7 == v0))
(jq124 v4 v5 v3 fun r8 =>
jq117 r8 fun r9 =>
rec_ v0 ((mxI v1 r9)) v2 ((w64 (v3 + 1))) v4 v5)
(rec_ v0 v1 v2 ((w64 (v3 + 1))) v4 v5)))
(k0 v1))
theorem jt125 {β : Type} (N : Nat)  (v0 : Int) (v1 : Int) (v2 : Int) (v3 : Int) (v4 : Int) (v5 : Int) (rec_ : Int → Int → Int → Int → Int → Int → Option β) (k0 : Int → Option β) : j125 N v0 v1 v2 v3 v4 v5 rec_ k0 = jb125 N (j94 N) (j124 N) (j117 N) v0 v1 v2 v3 v4 v5 rec_ k0 := by
  unfold j125 jb125
  rfl
theorem vst78_0_0 {β : Type} (N : Nat) (jq91 : (a0 : Int) → (a1 : Int) → (k : Bool → Option β) → Option β) (jq115 : (a0 : Int) → (k : Bool → Option β) → Option β) (jq90 : (a0 : Int) → (a1 : Int) → (k : Int → Option β) → Option β) (jq94 : (a0 : Int) → (a1 : Int) → (a2 : Int) → (k : Int → Option β) → Option β) (jq124 : (a0 : Int) → (a1 : Int) → (a2 : Int) → (k : Int → Option β) → Option β) (jq117 : (a0 : Int) → (k : Int → Option β) → Option β) (jq126 : Nat → Int → Int → Int → Int → Int → Int → (Int → Option β) → Option β)  (v0 : Int) (v1 : Int) (v2 : Int) (v3 : Int) (v4 : Int) (v5 : Int) (rec_ : St → Option β) (K : Exit → St → Option β) :
    ev lay (VE78 N jq91 jq115 jq90 jq94 jq124 jq117 jq126) (retMask Tryz.f78) (lp Tryz.f78 0).body (lp Tryz.f78 0).ex ((lp Tryz.f78 0).lv (retMask Tryz.f78)) (h78_0_0  v0 v1 v2 v3 v4 v5) (nextR (fun s' => rec_ (s'.tidy ((lp Tryz.f78 0).lv (retMask Tryz.f78)))) K) = jb125 N jq94 jq124 jq117  v0 v1 v2 v3 v4 v5 (fun v0 v1 v2 v3 v4 v5 => rec_ (h78_0_0  v0 v1 v2 v3 v4 v5)) (fun y0 => K (.exit 0) (x78_0_0_k0  y0)) := by kernel_rfl
theorem st78_0_0 {β : Type} (N : Nat)  (v0 : Int) (v1 : Int) (v2 : Int) (v3 : Int) (v4 : Int) (v5 : Int) (rec_ : St → Option β) (K : Exit → St → Option β) :
    ev lay (E78 N) (retMask Tryz.f78) (lp Tryz.f78 0).body (lp Tryz.f78 0).ex ((lp Tryz.f78 0).lv (retMask Tryz.f78)) (h78_0_0  v0 v1 v2 v3 v4 v5) (nextR (fun s' => rec_ (s'.tidy ((lp Tryz.f78 0).lv (retMask Tryz.f78)))) K) = j125 N  v0 v1 v2 v3 v4 v5 (fun v0 v1 v2 v3 v4 v5 => rec_ (h78_0_0  v0 v1 v2 v3 v4 v5)) (fun y0 => K (.exit 0) (x78_0_0_k0  y0)) := (vst78_0_0 N (j91 N) (j115 N) (j90 N) (j94 N) (j124 N) (j117 N) (j126 N) v0 v1 v2 v3 v4 v5 rec_ K).trans (jt125 N  v0 v1 v2 v3 v4 v5 (fun v0 v1 v2 v3 v4 v5 => rec_ (h78_0_0  v0 v1 v2 v3 v4 v5)) (fun y0 => K (.exit 0) (x78_0_0_k0  y0))).symm
theorem ro78_0_0 {β : Type} (N : Nat)  (K : Exit → St → Option β) : ∀ (F : Nat) (v0 : Int) (v1 : Int) (v2 : Int) (v3 : Int) (v4 : Int) (v5 : Int), (lp Tryz.f78 0).rounds lay (E78 N) (retMask Tryz.f78) F (h78_0_0  v0 v1 v2 v3 v4 v5) K = j126 N  F v0 v1 v2 v3 v4 v5 (fun y0 => K (.exit 0) (x78_0_0_k0  y0)) := by
  intro F
  induction F with
  | zero => intros; rfl
  | succ F ih =>
    intros
    rw [rounds_next]
    refine (st78_0_0 N  _ _ _ _ _ _ (fun s => (lp Tryz.f78 0).rounds lay (E78 N) (retMask Tryz.f78) F s K) K).trans ?_
    simp only [ih]
    rfl
theorem lk78_0 {β : Type} (N : Nat) : lookL (E78 (β := β) N).loops (lp Tryz.f78 0).id = LS78_0 N := by kernel_rfl
theorem rk78_0 {β : Type} (N : Nat) : RoundsOK lay (E78 (β := β) N) (retMask Tryz.f78) (lp Tryz.f78 0) := by
  intro s K r h
  rw [lk78_0] at h
  unfold LS78_0 VLS78_0 at h
  cases hb : shpSt (h78_0_0 0 0 0 0 0 0) s with
  | true =>
    rw [hb, cond_true] at h
    exact ⟨N, by rw [← shpSt_ref hb, fl78_0_0 s]; exact (ro78_0_0 N  K N (intS (oneA (vT (nx tund s.tmps 1)))) (intS (oneA (vT (nx tund s.tmps 5)))) (intS (oneA (vT (nx tund s.tmps 16)))) (intS (oneA (vT (nx tund s.tmps 17)))) (intS (nx .und (cellsB (nx .dead s.blks 0)) 0)) (intS (nx .und (cellsB (nx .dead s.blks 0)) 1))).trans h⟩
  | false =>
  rw [hb, cond_false] at h
  clear hb
  cases h
def jb127 {β : Type} (N : Nat) (jq91 : (a0 : Int) → (a1 : Int) → (k : Bool → Option β) → Option β) (jq115 : (a0 : Int) → (k : Bool → Option β) → Option β) (jq90 : (a0 : Int) → (a1 : Int) → (k : Int → Option β) → Option β) (jq126 : Nat → Int → Int → Int → Int → Int → Int → (Int → Option β) → Option β) (a0 : Int) (a1 : Int) (a2 : Int) (k : Int → Option β) : Option β :=
jq91 a0 a1 fun r4 =>
(cond (!r4)
(k (-1))
(jq115 a2 fun r5 =>
(cond (!r5)
(k (-1))
(jq90 a0 a1 fun r6 =>
jq126  N a2 0 r6 0 a0 a1 (fun e10_0 =>
k e10_0)))))
theorem jt127 {β : Type} (N : Nat) (a0 : Int) (a1 : Int) (a2 : Int) (k : Int → Option β) : j127 N a0 a1 a2 k = jb127 N (j91 N) (j115 N) (j90 N) (j126 N) a0 a1 a2 k := by
  unfold j127 jb127
  rfl
theorem ve78_0 {β : Type} (N : Nat) (jq91 : (a0 : Int) → (a1 : Int) → (k : Bool → Option β) → Option β) (jq115 : (a0 : Int) → (k : Bool → Option β) → Option β) (jq90 : (a0 : Int) → (a1 : Int) → (k : Int → Option β) → Option β) (jq94 : (a0 : Int) → (a1 : Int) → (a2 : Int) → (k : Int → Option β) → Option β) (jq124 : (a0 : Int) → (a1 : Int) → (a2 : Int) → (k : Int → Option β) → Option β) (jq117 : (a0 : Int) → (k : Int → Option β) → Option β) (jq126 : Nat → Int → Int → Int → Int → Int → Int → (Int → Option β) → Option β)  (a0 : Int) (a1 : Int) (a2 : Int) (K : TV → Option β) : evFn lay (VE78 N jq91 jq115 jq90 jq94 jq124 jq117 jq126) Tryz.f78 [.v (.agg [.int .i64 a0, .int .i64 a1]), .v (.one (.int .i64 a2))] K = jb127 N jq91 jq115 jq90 jq126 a0 a1 a2 (fun z3 => K (.v (.one (.int .i64 z3)))) := by kernel_rfl
theorem e78_0 {β : Type} (N : Nat)  (a0 : Int) (a1 : Int) (a2 : Int) (K : TV → Option β) : evFn lay (E78 N) Tryz.f78 [.v (.agg [.int .i64 a0, .int .i64 a1]), .v (.one (.int .i64 a2))] K = j127 N a0 a1 a2 (fun z3 => K (.v (.one (.int .i64 z3)))) := (ve78_0 N (j91 N) (j115 N) (j90 N) (j94 N) (j124 N) (j117 N) (j126 N) a0 a1 a2 K).trans (jt127 N a0 a1 a2 (fun z3 => K (.v (.one (.int .i64 z3))))).symm
theorem o78 {β : Type} (N : Nat) : SpecOK (β := β) inv Tryz.prog 78 (S78 N) := by
  refine spec_of lay_ok mixed (E := E78 N) (specs_loops (specs_cons (o45 N) (specs_cons (o134 N) (specs_cons (o100 N) (specs_cons (o103 N) (specs_cons (o135 N) (specs_cons (o104 N) specs_nil))))))) muts_nil gs_nil Tryz.func78 (by kernel_rfl) 1 (by kernel_rfl) ⟨trivial, rk78_0 N⟩ fun args K r h => ?_
  unfold S78 VS78 at h
  split at h
  · exact (e78_0 N _ _ _ _).trans h
  · cases h
def VS83 {β : Type} (N : Nat) (jq128 : (a0 : Int) → (a1 : Int) → (k0 : Int → Int → Mp → Mp → Option β) → Option β) : GSpec β := fun args bl K => match args, bl with
  | [.v (.agg [.int .i64 a0, .int .i64 a1])], [] => jq128 a0 a1 (fun y0 y1 y2 y3 => K (.v (.one (.ptr 0 0))) [.cells 91 [.int .i64 y0, .int .i64 y1, .mp 1, .mp 2], .mp ⟨true, false⟩ y2, .mp ⟨true, false⟩ y3])
  | _, _ => none
def S83 {β : Type} (N : Nat) : GSpec β := VS83 N (j128 N)
def VE83 {β : Type} (N : Nat) : Env β := ⟨[], [], [], [], ⟨[], [], []⟩⟩
def E83 {β : Type} (N : Nat) : Env β := VE83 N
def jb128 {β : Type} (N : Nat) (a0 : Int) (a1 : Int) (k0 : Int → Int → Mp → Mp → Option β) : Option β :=
k0 a0 a1 (([] : Mp)) (([] : Mp))
theorem jt128 {β : Type} (N : Nat) (a0 : Int) (a1 : Int) (k0 : Int → Int → Mp → Mp → Option β) : j128 N a0 a1 k0 = jb128 N a0 a1 k0 := by
  unfold j128 jb128
  rfl
theorem ve83_0 {β : Type} (N : Nat) (a0 : Int) (a1 : Int) (K : TV → List Blk → Option β) : evFnG lay (VE83 N) Tryz.f83 [.v (.agg [.int .i64 a0, .int .i64 a1])] [] K = jb128 N a0 a1 (fun y0 y1 y2 y3 => K (.v (.one (.ptr 0 0))) [.cells 91 [.int .i64 y0, .int .i64 y1, .mp 1, .mp 2], .mp ⟨true, false⟩ y2, .mp ⟨true, false⟩ y3]) := by kernel_rfl
theorem e83_0 {β : Type} (N : Nat) (a0 : Int) (a1 : Int) (K : TV → List Blk → Option β) : evFnG lay (E83 N) Tryz.f83 [.v (.agg [.int .i64 a0, .int .i64 a1])] [] K = j128 N a0 a1 (fun y0 y1 y2 y3 => K (.v (.one (.ptr 0 0))) [.cells 91 [.int .i64 y0, .int .i64 y1, .mp 1, .mp 2], .mp ⟨true, false⟩ y2, .mp ⟨true, false⟩ y3]) := (ve83_0 N a0 a1 K).trans (jt128 N a0 a1 (fun y0 y1 y2 y3 => K (.v (.one (.ptr 0 0))) [.cells 91 [.int .i64 y0, .int .i64 y1, .mp 1, .mp 2], .mp ⟨true, false⟩ y2, .mp ⟨true, false⟩ y3])).symm
theorem o83 {β : Type} (N : Nat) : GOK (β := β) inv Tryz.prog 83 (S83 N) := by
  refine g_of lay_ok mixed (E := E83 N) (specs_loops specs_nil) muts_nil gs_nil Tryz.func83 (by kernel_rfl) 0 (by kernel_rfl) trivial fun args bl K r h => ?_
  unfold S83 VS83 at h
  split at h
  · exact (e83_0 N _ _ _).trans h
  · cases h
def VS144 {β : Type} (N : Nat) (jq129 : (a0 : Int) → (a1 : Int) → (a2 : Int) → (a3 : Int) → (k : Int → Int → Option β) → Option β) : Rv.Spec β := fun args K => match args with
  | [.v (.agg [.int .i64 a0, .int .i64 a1]), .v (.one (.int .i64 a2)), .v (.one (.int .i64 a3))] => jq129 a0 a1 a2 a3 (fun z4 z5 => K (.v (.agg [.int .i64 z4, .int .i64 z5])))
  | _ => none
def S144 {β : Type} (N : Nat) : Rv.Spec β := VS144 N (j129 N)
def VE144 {β : Type} (N : Nat) : Env β := ⟨[], [], [], [], ⟨[], [], []⟩⟩
def E144 {β : Type} (N : Nat) : Env β := VE144 N
def jb129 {β : Type} (N : Nat) (a0 : Int) (a1 : Int) (a2 : Int) (a3 : Int) (k : Int → Int → Option β) : Option β :=
(gd ((decide (0 ≤ a2)))
((gd ((decide (0 ≤ a2)))
(k ((bits .or .i64 a0 (shlI .i64 1 a2))) ((bits .or .i64 a1 (shlI .i64 a3 a2)))))))
theorem jt129 {β : Type} (N : Nat) (a0 : Int) (a1 : Int) (a2 : Int) (a3 : Int) (k : Int → Int → Option β) : j129 N a0 a1 a2 a3 k = jb129 N a0 a1 a2 a3 k := by
  unfold j129 jb129
  rfl
theorem ve144_0 {β : Type} (N : Nat)  (a0 : Int) (a1 : Int) (a2 : Int) (a3 : Int) (K : TV → Option β) : evFn lay (VE144 N) Tryz.f144 [.v (.agg [.int .i64 a0, .int .i64 a1]), .v (.one (.int .i64 a2)), .v (.one (.int .i64 a3))] K = jb129 N a0 a1 a2 a3 (fun z4 z5 => K (.v (.agg [.int .i64 z4, .int .i64 z5]))) := by kernel_rfl
theorem e144_0 {β : Type} (N : Nat)  (a0 : Int) (a1 : Int) (a2 : Int) (a3 : Int) (K : TV → Option β) : evFn lay (E144 N) Tryz.f144 [.v (.agg [.int .i64 a0, .int .i64 a1]), .v (.one (.int .i64 a2)), .v (.one (.int .i64 a3))] K = j129 N a0 a1 a2 a3 (fun z4 z5 => K (.v (.agg [.int .i64 z4, .int .i64 z5]))) := (ve144_0 N a0 a1 a2 a3 K).trans (jt129 N a0 a1 a2 a3 (fun z4 z5 => K (.v (.agg [.int .i64 z4, .int .i64 z5])))).symm
theorem o144 {β : Type} (N : Nat) : SpecOK (β := β) inv Tryz.prog 144 (S144 N) := by
  refine spec_of lay_ok mixed (E := E144 N) (specs_loops specs_nil) muts_nil gs_nil Tryz.func144 (by kernel_rfl) 0 (by kernel_rfl) trivial fun args K r h => ?_
  unfold S144 VS144 at h
  split at h
  · exact (e144_0 N _ _ _ _ _).trans h
  · cases h
def VSF136 {β : Type} (N : Nat) (jq133 : Nat → Int → Int → Int → Int → Mp → Mp → (Int → Int → Int → Mp → Mp → Option β) → Option β) (G : Nat) : GSpec β := fun args bl K => match args, bl with
  | [.v (.one (.ptr 0 0)), .v (.agg [.int .i64 a0, .int .i64 a1])], [.pcells 0 91 [.int .i64 a2, .int .i64 a3, .mp 1, .mp 2], .pmp 1 ⟨true, false⟩ a4, .pmp 2 ⟨true, false⟩ a5] => jq133 G a0 a1 a2 a3 a4 a5 (fun y0 y1 y2 y3 y4 => K (.v (.one (.int .i64 y0))) [.pcells 0 91 [.int .i64 y1, .int .i64 y2, .mp 1, .mp 2], .pmp 1 ⟨true, false⟩ y3, .pmp 2 ⟨true, false⟩ y4])
  | _, _ => none
def SF136 {β : Type} (N : Nat) (G : Nat) : GSpec β := VSF136 N (j133 N) G
def VS136 {β : Type} (N : Nat) (jq133 : Nat → Int → Int → Int → Int → Mp → Mp → (Int → Int → Int → Mp → Mp → Option β) → Option β) : GSpec β := VSF136 N jq133 N
def S136 {β : Type} (N : Nat) : GSpec β := SF136 N N
def h136_0_0  (v0 : Int) (v1 : Int) (v2 : Int) (v3 : Int) (v4 : Int) (v5 : Mp) (v6 : Mp) (v7 : Int) (v8 : Int) : St := ⟨.v (.one (.ptr 0 0)) :: tund :: tund :: .v (.one (.ptr 3 0)) :: tund :: tund :: tund :: .v (.one (.int .i64 v0)) :: tund :: tund :: tund :: tund :: tund :: tund :: tund :: tund :: tund :: tund :: tund :: tund :: tund :: tund :: tund :: tund :: tund :: tund :: tund :: tund :: tund :: tund :: tund :: tund :: tund :: tund :: tund :: tund :: tund :: tund :: tund :: .v (.one (.int .i64 v1)) :: .v (.one (.int .i64 v2)) :: tund :: tund :: tund :: tund :: tund :: tund :: tund :: tund :: tund :: tund :: tund :: tund :: tund :: tund :: tund :: tund :: tund :: tund :: tund :: tund :: tund :: tund :: tund :: tund :: tund :: tund :: tund :: tund :: tund :: tund :: [], [.pcells 0 91 [.int .i64 v3, .int .i64 v4, .mp 1, .mp 2], .pmp 1 ⟨true, false⟩ v5, .pmp 2 ⟨true, false⟩ v6, .cells 63 [.int .i64 v7, .int .i64 v8]]⟩
def x136_0_0_k0  (y0 : Int) (y1 : Int) (y2 : Int) (y3 : Mp) (y4 : Mp) (y5 : Int) (y6 : Int) : St := ⟨.v (.one (.ptr 0 0)) :: tund :: tund :: .v (.one (.ptr 3 0)) :: tund :: tund :: tund :: .v (.one (.int .i64 y0)) :: tund :: tund :: tund :: tund :: tund :: tund :: tund :: tund :: tund :: tund :: tund :: tund :: tund :: tund :: tund :: tund :: tund :: tund :: tund :: tund :: tund :: tund :: tund :: tund :: tund :: tund :: tund :: tund :: tund :: tund :: tund :: tund :: tund :: tund :: tund :: tund :: tund :: tund :: tund :: tund :: tund :: tund :: tund :: tund :: tund :: tund :: tund :: tund :: tund :: tund :: tund :: tund :: tund :: tund :: tund :: tund :: tund :: tund :: tund :: tund :: tund :: tund :: tund :: [], [.pcells 0 91 [.int .i64 y1, .int .i64 y2, .mp 1, .mp 2], .pmp 1 ⟨true, false⟩ y3, .pmp 2 ⟨true, false⟩ y4, .cells 63 [.int .i64 y5, .int .i64 y6]]⟩
theorem fl136_0_0 (s : St) : refSt (h136_0_0 0 0 0 0 0 [] [] 0 0) s = h136_0_0 (intS (oneA (vT (nx tund s.tmps 7)))) (intS (oneA (vT (nx tund s.tmps 39)))) (intS (oneA (vT (nx tund s.tmps 40)))) (intS (nx .und (cellsB (nx .dead s.blks 0)) 0)) (intS (nx .und (cellsB (nx .dead s.blks 0)) 1)) (mpB (nx .dead s.blks 1)) (mpB (nx .dead s.blks 2)) (intS (nx .und (cellsB (nx .dead s.blks 3)) 0)) (intS (nx .und (cellsB (nx .dead s.blks 3)) 1)) := by kernel_rfl
def VLS136_0 {β : Type} (N : Nat) (jq131 : (self : Int → Int → Int → Int → Mp → Mp → (Int → Int → Int → Mp → Mp → Option β) → Option β) → Nat → Int → Int → Int → Int → Int → Mp → Mp → Int → Int → (Int → Int → Int → Mp → Mp → Int → Int → Option β) → Option β) (jq133 : Nat → Int → Int → Int → Int → Mp → Mp → (Int → Int → Int → Mp → Mp → Option β) → Option β) (G : Nat) : LSpec β := fun s K => cond (shpSt (h136_0_0 0 0 0 0 0 [] [] 0 0) s) ((fun (v0 : Int) (v1 : Int) (v2 : Int) (v3 : Int) (v4 : Int) (v5 : Mp) (v6 : Mp) (v7 : Int) (v8 : Int) => jq131 (jq133 G)  N v0 v1 v2 v3 v4 v5 v6 v7 v8 (fun y0 y1 y2 y3 y4 y5 y6 => K (.exit 0) (x136_0_0_k0  y0 y1 y2 y3 y4 y5 y6))) (intS (oneA (vT (nx tund s.tmps 7)))) (intS (oneA (vT (nx tund s.tmps 39)))) (intS (oneA (vT (nx tund s.tmps 40)))) (intS (nx .und (cellsB (nx .dead s.blks 0)) 0)) (intS (nx .und (cellsB (nx .dead s.blks 0)) 1)) (mpB (nx .dead s.blks 1)) (mpB (nx .dead s.blks 2)) (intS (nx .und (cellsB (nx .dead s.blks 3)) 0)) (intS (nx .und (cellsB (nx .dead s.blks 3)) 1))) (none)
def LS136_0 {β : Type} (N : Nat) (G : Nat) : LSpec β := VLS136_0 N (j131 N) (j133 N) G
def VE136 {β : Type} (N : Nat) (jq120 : (a0 : Int) → (a1 : Int) → (a2 : Int) → (a3 : Int) → (k : Int → Option β) → Option β) (jq129 : (a0 : Int) → (a1 : Int) → (a2 : Int) → (a3 : Int) → (k : Int → Int → Option β) → Option β) (jq131 : (self : Int → Int → Int → Int → Mp → Mp → (Int → Int → Int → Mp → Mp → Option β) → Option β) → Nat → Int → Int → Int → Int → Int → Mp → Mp → Int → Int → (Int → Int → Int → Mp → Mp → Int → Int → Option β) → Option β) (jq133 : Nat → Int → Int → Int → Int → Mp → Mp → (Int → Int → Int → Mp → Mp → Option β) → Option β) (G : Nat) : Env β := ⟨[(143, VS143 N jq120), (144, VS144 N jq129)], [], [(0, VLS136_0 N jq131 jq133 G)], [(136, VSF136 N jq133 G)], ⟨[], [], []⟩⟩
def E136 {β : Type} (N : Nat) (G : Nat) : Env β := VE136 N (j120 N) (j129 N) (j131 N) (j133 N) G
def jb130 {β : Type} (N : Nat) (jq129 : (a0 : Int) → (a1 : Int) → (a2 : Int) → (a3 : Int) → (k : Int → Int → Option β) → Option β) (self : Int → Int → Int → Int → Mp → Mp → (Int → Int → Int → Mp → Mp → Option β) → Option β)  (v0 : Int) (v1 : Int) (v2 : Int) (v3 : Int) (v4 : Int) (v5 : Mp) (v6 : Mp) (v7 : Int) (v8 : Int) (rec_ : Int → Int → Int → Int → Int → Mp → Mp → Int → Int → Option β) (k0 : Int → Int → Int → Mp → Mp → Int → Int → Option β) : Option β :=
(cond ((decide (v2 < v1)))
((gd ((decide (0 ≤ v2)))
((cond (((bits .and .i64 (shrI .i64 v7 v2) 1) == 0))
(jq129 v7 v8 v2 0 fun r6 r7 =>
self r6 r7 v3 v4 v5 v6 (fun r8_0 r8_1 r8_2 r8_3 r8_4 =>
jq129 v7 v8 v2 1 fun r9 r10 =>
self r9 r10 r8_1 r8_2 r8_3 r8_4 (fun r11_0 r11_1 r11_2 r11_3 r11_4 =>
rec_ ((mnI v0 (w64 (1 + (mxI r8_0 r11_0))))) v1 ((w64 (v2 + 1))) r11_1 r11_2 r11_3 r11_4 v7 v8)))
(rec_ v0 v1 ((w64 (v2 + 1))) v3 v4 v5 v6 v7 v8)))))
(k0 v0 v3 v4 v5 v6 v7 v8))
theorem jt130 {β : Type} (N : Nat) (self : Int → Int → Int → Int → Mp → Mp → (Int → Int → Int → Mp → Mp → Option β) → Option β)  (v0 : Int) (v1 : Int) (v2 : Int) (v3 : Int) (v4 : Int) (v5 : Mp) (v6 : Mp) (v7 : Int) (v8 : Int) (rec_ : Int → Int → Int → Int → Int → Mp → Mp → Int → Int → Option β) (k0 : Int → Int → Int → Mp → Mp → Int → Int → Option β) : j130 N self v0 v1 v2 v3 v4 v5 v6 v7 v8 rec_ k0 = jb130 N (j129 N) self v0 v1 v2 v3 v4 v5 v6 v7 v8 rec_ k0 := by
  unfold j130 jb130
  rfl
theorem vst136_0_0 {β : Type} (N : Nat) (jq120 : (a0 : Int) → (a1 : Int) → (a2 : Int) → (a3 : Int) → (k : Int → Option β) → Option β) (jq129 : (a0 : Int) → (a1 : Int) → (a2 : Int) → (a3 : Int) → (k : Int → Int → Option β) → Option β) (jq131 : (self : Int → Int → Int → Int → Mp → Mp → (Int → Int → Int → Mp → Mp → Option β) → Option β) → Nat → Int → Int → Int → Int → Int → Mp → Mp → Int → Int → (Int → Int → Int → Mp → Mp → Int → Int → Option β) → Option β) (jq133 : Nat → Int → Int → Int → Int → Mp → Mp → (Int → Int → Int → Mp → Mp → Option β) → Option β) (G : Nat)  (v0 : Int) (v1 : Int) (v2 : Int) (v3 : Int) (v4 : Int) (v5 : Mp) (v6 : Mp) (v7 : Int) (v8 : Int) (rec_ : St → Option β) (K : Exit → St → Option β) :
    ev lay (VE136 N jq120 jq129 jq131 jq133 G) (retMask Tryz.f136) (lp Tryz.f136 0).body (lp Tryz.f136 0).ex ((lp Tryz.f136 0).lv (retMask Tryz.f136)) (h136_0_0  v0 v1 v2 v3 v4 v5 v6 v7 v8) (nextR (fun s' => rec_ (s'.tidy ((lp Tryz.f136 0).lv (retMask Tryz.f136)))) K) = jb130 N jq129 (jq133 G)  v0 v1 v2 v3 v4 v5 v6 v7 v8 (fun v0 v1 v2 v3 v4 v5 v6 v7 v8 => rec_ (h136_0_0  v0 v1 v2 v3 v4 v5 v6 v7 v8)) (fun y0 y1 y2 y3 y4 y5 y6 => K (.exit 0) (x136_0_0_k0  y0 y1 y2 y3 y4 y5 y6)) := by kernel_rfl
theorem st136_0_0 {β : Type} (N : Nat) (G : Nat)  (v0 : Int) (v1 : Int) (v2 : Int) (v3 : Int) (v4 : Int) (v5 : Mp) (v6 : Mp) (v7 : Int) (v8 : Int) (rec_ : St → Option β) (K : Exit → St → Option β) :
    ev lay (E136 N G) (retMask Tryz.f136) (lp Tryz.f136 0).body (lp Tryz.f136 0).ex ((lp Tryz.f136 0).lv (retMask Tryz.f136)) (h136_0_0  v0 v1 v2 v3 v4 v5 v6 v7 v8) (nextR (fun s' => rec_ (s'.tidy ((lp Tryz.f136 0).lv (retMask Tryz.f136)))) K) = j130 N (j133 N G)  v0 v1 v2 v3 v4 v5 v6 v7 v8 (fun v0 v1 v2 v3 v4 v5 v6 v7 v8 => rec_ (h136_0_0  v0 v1 v2 v3 v4 v5 v6 v7 v8)) (fun y0 y1 y2 y3 y4 y5 y6 => K (.exit 0) (x136_0_0_k0  y0 y1 y2 y3 y4 y5 y6)) := (vst136_0_0 N (j120 N) (j129 N) (j131 N) (j133 N) G v0 v1 v2 v3 v4 v5 v6 v7 v8 rec_ K).trans (jt130 N (j133 N G)  v0 v1 v2 v3 v4 v5 v6 v7 v8 (fun v0 v1 v2 v3 v4 v5 v6 v7 v8 => rec_ (h136_0_0  v0 v1 v2 v3 v4 v5 v6 v7 v8)) (fun y0 y1 y2 y3 y4 y5 y6 => K (.exit 0) (x136_0_0_k0  y0 y1 y2 y3 y4 y5 y6))).symm
theorem ro136_0_0 {β : Type} (N : Nat) (G : Nat)  (K : Exit → St → Option β) : ∀ (F : Nat) (v0 : Int) (v1 : Int) (v2 : Int) (v3 : Int) (v4 : Int) (v5 : Mp) (v6 : Mp) (v7 : Int) (v8 : Int), (lp Tryz.f136 0).rounds lay (E136 N G) (retMask Tryz.f136) F (h136_0_0  v0 v1 v2 v3 v4 v5 v6 v7 v8) K = j131 N (j133 N G)  F v0 v1 v2 v3 v4 v5 v6 v7 v8 (fun y0 y1 y2 y3 y4 y5 y6 => K (.exit 0) (x136_0_0_k0  y0 y1 y2 y3 y4 y5 y6)) := by
  intro F
  induction F with
  | zero => intros; rfl
  | succ F ih =>
    intros
    rw [rounds_next]
    refine (st136_0_0 N G  _ _ _ _ _ _ _ _ _ (fun s => (lp Tryz.f136 0).rounds lay (E136 N G) (retMask Tryz.f136) F s K) K).trans ?_
    simp only [ih]
    rfl
theorem lk136_0 {β : Type} (N : Nat) (G : Nat) : lookL (E136 (β := β) N G).loops (lp Tryz.f136 0).id = LS136_0 N G := by kernel_rfl
theorem rk136_0 {β : Type} (N : Nat) (G : Nat) : RoundsOK lay (E136 (β := β) N G) (retMask Tryz.f136) (lp Tryz.f136 0) := by
  intro s K r h
  rw [lk136_0] at h
  unfold LS136_0 VLS136_0 at h
  cases hb : shpSt (h136_0_0 0 0 0 0 0 [] [] 0 0) s with
  | true =>
    rw [hb, cond_true] at h
    exact ⟨N, by rw [← shpSt_ref hb, fl136_0_0 s]; exact (ro136_0_0 N G  K N (intS (oneA (vT (nx tund s.tmps 7)))) (intS (oneA (vT (nx tund s.tmps 39)))) (intS (oneA (vT (nx tund s.tmps 40)))) (intS (nx .und (cellsB (nx .dead s.blks 0)) 0)) (intS (nx .und (cellsB (nx .dead s.blks 0)) 1)) (mpB (nx .dead s.blks 1)) (mpB (nx .dead s.blks 2)) (intS (nx .und (cellsB (nx .dead s.blks 3)) 0)) (intS (nx .und (cellsB (nx .dead s.blks 3)) 1))).trans h⟩
  | false =>
  rw [hb, cond_false] at h
  clear hb
  cases h
def jb132 {β : Type} (N : Nat) (jq120 : (a0 : Int) → (a1 : Int) → (a2 : Int) → (a3 : Int) → (k : Int → Option β) → Option β) (jq131 : (self : Int → Int → Int → Int → Mp → Mp → (Int → Int → Int → Mp → Mp → Option β) → Option β) → Nat → Int → Int → Int → Int → Int → Mp → Mp → Int → Int → (Int → Int → Int → Mp → Mp → Int → Int → Option β) → Option β) (self : Int → Int → Int → Int → Mp → Mp → (Int → Int → Int → Mp → Mp → Option β) → Option β) (a0 : Int) (a1 : Int) (a2 : Int) (a3 : Int) (a4 : Mp) (a5 : Mp) (k0 : Int → Int → Int → Mp → Mp → Option β) : Option β :=
(cond ((hasM ⟨true, false⟩ a4 a0 a1))
(k0 ((getM ⟨true, false⟩ a4 a0 a1)) a2 a3 a4 a5)
(jq120 a2 a3 a0 a1 fun r5 =>
(cond ((r5 == 2))
(jq131 self  N a2 a2 0 a2 a3 a4 a5 a0 a1 (fun e12_0 e12_1 e12_2 e12_3 e12_4 e12_5 e12_6 =>
k0 e12_0 e12_1 e12_2 ((putM ⟨true, false⟩ e12_3 e12_5 e12_6 e12_0)) e12_4))
(k0 0 a2 a3 ((putM ⟨true, false⟩ a4 a0 a1 0)) a5))))
theorem jt132 {β : Type} (N : Nat) (self : Int → Int → Int → Int → Mp → Mp → (Int → Int → Int → Mp → Mp → Option β) → Option β) (a0 : Int) (a1 : Int) (a2 : Int) (a3 : Int) (a4 : Mp) (a5 : Mp) (k0 : Int → Int → Int → Mp → Mp → Option β) : j132 N self a0 a1 a2 a3 a4 a5 k0 = jb132 N (j120 N) (j131 N) self a0 a1 a2 a3 a4 a5 k0 := by
  unfold j132 jb132
  rfl
theorem ve136_0 {β : Type} (N : Nat) (jq120 : (a0 : Int) → (a1 : Int) → (a2 : Int) → (a3 : Int) → (k : Int → Option β) → Option β) (jq129 : (a0 : Int) → (a1 : Int) → (a2 : Int) → (a3 : Int) → (k : Int → Int → Option β) → Option β) (jq131 : (self : Int → Int → Int → Int → Mp → Mp → (Int → Int → Int → Mp → Mp → Option β) → Option β) → Nat → Int → Int → Int → Int → Int → Mp → Mp → Int → Int → (Int → Int → Int → Mp → Mp → Int → Int → Option β) → Option β) (jq133 : Nat → Int → Int → Int → Int → Mp → Mp → (Int → Int → Int → Mp → Mp → Option β) → Option β) (G : Nat) (a0 : Int) (a1 : Int) (a2 : Int) (a3 : Int) (a4 : Mp) (a5 : Mp) (K : TV → List Blk → Option β) : evFnG lay (VE136 N jq120 jq129 jq131 jq133 G) Tryz.f136 [.v (.one (.ptr 0 0)), .v (.agg [.int .i64 a0, .int .i64 a1])] [.pcells 0 91 [.int .i64 a2, .int .i64 a3, .mp 1, .mp 2], .pmp 1 ⟨true, false⟩ a4, .pmp 2 ⟨true, false⟩ a5] K = jb132 N jq120 jq131 (jq133 G) a0 a1 a2 a3 a4 a5 (fun y0 y1 y2 y3 y4 => K (.v (.one (.int .i64 y0))) [.pcells 0 91 [.int .i64 y1, .int .i64 y2, .mp 1, .mp 2], .pmp 1 ⟨true, false⟩ y3, .pmp 2 ⟨true, false⟩ y4]) := by kernel_rfl
theorem e136_0 {β : Type} (N : Nat) (G : Nat) (a0 : Int) (a1 : Int) (a2 : Int) (a3 : Int) (a4 : Mp) (a5 : Mp) (K : TV → List Blk → Option β) : evFnG lay (E136 N G) Tryz.f136 [.v (.one (.ptr 0 0)), .v (.agg [.int .i64 a0, .int .i64 a1])] [.pcells 0 91 [.int .i64 a2, .int .i64 a3, .mp 1, .mp 2], .pmp 1 ⟨true, false⟩ a4, .pmp 2 ⟨true, false⟩ a5] K = j133 N (G + 1) a0 a1 a2 a3 a4 a5 (fun y0 y1 y2 y3 y4 => K (.v (.one (.int .i64 y0))) [.pcells 0 91 [.int .i64 y1, .int .i64 y2, .mp 1, .mp 2], .pmp 1 ⟨true, false⟩ y3, .pmp 2 ⟨true, false⟩ y4]) := (ve136_0 N (j120 N) (j129 N) (j131 N) (j133 N) G a0 a1 a2 a3 a4 a5 K).trans (jt132 N (j133 N G) a0 a1 a2 a3 a4 a5 (fun y0 y1 y2 y3 y4 => K (.v (.one (.int .i64 y0))) [.pcells 0 91 [.int .i64 y1, .int .i64 y2, .mp 1, .mp 2], .pmp 1 ⟨true, false⟩ y3, .pmp 2 ⟨true, false⟩ y4])).symm
theorem z136 {β : Type} (N : Nat) : ∀ args bl K r, SF136 (β := β) N 0 args bl K = some r → (none : Option β) = some r := by
  intro args bl K r h
  unfold SF136 VSF136 at h
  split at h <;> exact h
theorem of136 {β : Type} (N : Nat) : ∀ G, GOK (β := β) inv Tryz.prog 136 (SF136 N G) := by
  intro G
  induction G with
  | zero => exact g_zero Tryz.func136 (by kernel_rfl) (z136 N)
  | succ G ih =>
    refine g_of lay_ok mixed (E := E136 N G) (specs_loops (specs_cons (o143 N) (specs_cons (o144 N) specs_nil))) muts_nil (gs_cons ih gs_nil) Tryz.func136 (by kernel_rfl) 1 (by kernel_rfl) ⟨trivial, rk136_0 N G⟩ fun args bl K r h => ?_
    unfold SF136 VSF136 at h
    split at h
    · exact (e136_0 N G _ _ _ _ _ _ _).trans h
    · cases h
theorem o136 {β : Type} (N : Nat) : GOK (β := β) inv Tryz.prog 136 (S136 N) := of136 N N
def VS79 {β : Type} (N : Nat) (jq135 : (a0 : Int) → (a1 : Int) → (k : Int → Option β) → Option β) : Rv.Spec β := fun args K => match args with
  | [.v (.agg [.int .i64 a0, .int .i64 a1])] => jq135 a0 a1 (fun z2 => K (.v (.one (.int .i64 z2))))
  | _ => none
def S79 {β : Type} (N : Nat) : Rv.Spec β := VS79 N (j135 N)
def VE79 {β : Type} (N : Nat) (jq92 : (a0 : Int) → (a1 : Int) → (a2 : Int) → (k : Bool → Option β) → Option β) (jq128 : (a0 : Int) → (a1 : Int) → (k0 : Int → Int → Mp → Mp → Option β) → Option β) (jq133 : Nat → Int → Int → Int → Int → Mp → Mp → (Int → Int → Int → Mp → Mp → Option β) → Option β) : Env β := ⟨[(21, VS21 N jq92)], [], [], [(83, VS83 N jq128), (136, VS136 N jq133)], ⟨[], [], []⟩⟩
def E79 {β : Type} (N : Nat) : Env β := VE79 N (j92 N) (j128 N) (j133 N)
def jb135 {β : Type} (N : Nat) (jq92 : (a0 : Int) → (a1 : Int) → (a2 : Int) → (k : Bool → Option β) → Option β) (jq128 : (a0 : Int) → (a1 : Int) → (k0 : Int → Int → Mp → Mp → Option β) → Option β) (jq133 : Nat → Int → Int → Int → Int → Mp → Mp → (Int → Int → Int → Mp → Mp → Option β) → Option β) (a0 : Int) (a1 : Int) (k : Int → Option β) : Option β :=
jq92 a0 a1 4 fun r3 =>
(cond (!r3)
(k (-1))
(jq128 a0 a1 (fun r4_0 r4_1 r4_2 r4_3 =>
jq133 N 0 0 r4_0 r4_1 r4_2 r4_3 (fun r5_0 r5_1 r5_2 r5_3 r5_4 =>
k r5_0))))
theorem jt135 {β : Type} (N : Nat) (a0 : Int) (a1 : Int) (k : Int → Option β) : j135 N a0 a1 k = jb135 N (j92 N) (j128 N) (j133 N) a0 a1 k := by
  unfold j135 jb135
  rfl
theorem ve79_0 {β : Type} (N : Nat) (jq92 : (a0 : Int) → (a1 : Int) → (a2 : Int) → (k : Bool → Option β) → Option β) (jq128 : (a0 : Int) → (a1 : Int) → (k0 : Int → Int → Mp → Mp → Option β) → Option β) (jq133 : Nat → Int → Int → Int → Int → Mp → Mp → (Int → Int → Int → Mp → Mp → Option β) → Option β)  (a0 : Int) (a1 : Int) (K : TV → Option β) : evFn lay (VE79 N jq92 jq128 jq133) Tryz.f79 [.v (.agg [.int .i64 a0, .int .i64 a1])] K = jb135 N jq92 jq128 jq133 a0 a1 (fun z2 => K (.v (.one (.int .i64 z2)))) := by kernel_rfl
theorem e79_0 {β : Type} (N : Nat)  (a0 : Int) (a1 : Int) (K : TV → Option β) : evFn lay (E79 N) Tryz.f79 [.v (.agg [.int .i64 a0, .int .i64 a1])] K = j135 N a0 a1 (fun z2 => K (.v (.one (.int .i64 z2)))) := (ve79_0 N (j92 N) (j128 N) (j133 N) a0 a1 K).trans (jt135 N a0 a1 (fun z2 => K (.v (.one (.int .i64 z2))))).symm
theorem o79 {β : Type} (N : Nat) : SpecOK (β := β) inv Tryz.prog 79 (S79 N) := by
  refine spec_of lay_ok mixed (E := E79 N) (specs_loops (specs_cons (o21 N) specs_nil)) muts_nil (gs_cons (o83 N) (gs_cons (o136 N) gs_nil)) Tryz.func79 (by kernel_rfl) 0 (by kernel_rfl) trivial fun args K r h => ?_
  unfold S79 VS79 at h
  split at h
  · exact (e79_0 N _ _ _).trans h
  · cases h
def VS137 {β : Type} (N : Nat) (jq140 : (a0 : Int) → (a1 : Int) → (k : List Int → Option β) → Option β) : Rv.Spec β := fun args K => match args with
  | [.v (.agg [.int .i64 a0, .int .i64 a1])] => jq140 a0 a1 (fun z2 => K (.v (.one (.sl 3 (.ints .i64 z2)))))
  | _ => none
def S137 {β : Type} (N : Nat) : Rv.Spec β := VS137 N (j140 N)
def h137_0_0  (v0 : Int) (v1 : Int) (v2 : Int) (v3 : Int) (v4 : List Int) : St := ⟨tund :: .v (.one (.ptr 0 0)) :: tund :: .v (.one (.row 1)) :: tund :: tund :: tund :: tund :: tund :: tund :: .v (.one (.int .i64 v0)) :: .v (.one (.int .i64 v1)) :: tund :: tund :: tund :: tund :: tund :: tund :: tund :: tund :: tund :: tund :: tund :: tund :: tund :: tund :: tund :: tund :: tund :: tund :: tund :: tund :: tund :: tund :: tund :: tund :: tund :: tund :: tund :: tund :: tund :: tund :: tund :: tund :: tund :: tund :: tund :: tund :: tund :: tund :: tund :: tund :: [], [.cells 25 [.int .i64 v2, .int .i64 v3], .row 3 (.ints .i64 v4)]⟩
def x137_0_0_k0  (y0 : List Int) : St := ⟨tund :: tund :: tund :: .v (.one (.row 0)) :: tund :: tund :: tund :: tund :: tund :: tund :: tund :: tund :: tund :: tund :: tund :: tund :: tund :: tund :: tund :: tund :: tund :: tund :: tund :: tund :: tund :: tund :: tund :: tund :: tund :: tund :: tund :: tund :: tund :: tund :: tund :: tund :: tund :: tund :: tund :: tund :: tund :: tund :: tund :: tund :: tund :: tund :: tund :: tund :: tund :: tund :: tund :: tund :: [], [.row 3 (.ints .i64 y0)]⟩
def h137_1_0  (v0 : Int) (v1 : Int) (v2 : Int) (v3 : Int) (v4 : Int) (v5 : Int) (v6 : Int) (v7 : List Int) : St := ⟨tund :: .v (.one (.ptr 0 0)) :: tund :: .v (.one (.row 1)) :: .v (.one (.int .i64 v0)) :: tund :: tund :: tund :: tund :: tund :: .v (.one (.int .i64 v1)) :: .v (.one (.int .i64 v2)) :: tund :: tund :: tund :: .v (.one (.int .i64 v3)) :: .v (.one (.int .i64 v4)) :: tund :: tund :: tund :: tund :: tund :: tund :: tund :: tund :: tund :: tund :: tund :: tund :: tund :: tund :: tund :: tund :: tund :: tund :: tund :: tund :: tund :: tund :: tund :: tund :: tund :: tund :: tund :: tund :: tund :: tund :: tund :: tund :: tund :: tund :: tund :: [], [.cells 25 [.int .i64 v5, .int .i64 v6], .row 3 (.ints .i64 v7)]⟩
def x137_1_0_k0  (y0 : Int) (y1 : Int) (y2 : Int) (y3 : Int) (y4 : List Int) : St := ⟨tund :: .v (.one (.ptr 0 0)) :: tund :: .v (.one (.row 1)) :: tund :: tund :: tund :: tund :: tund :: tund :: .v (.one (.int .i64 y0)) :: .v (.one (.int .i64 y1)) :: tund :: tund :: tund :: tund :: tund :: tund :: tund :: tund :: tund :: tund :: tund :: tund :: tund :: tund :: tund :: tund :: tund :: tund :: tund :: tund :: tund :: tund :: tund :: tund :: tund :: tund :: tund :: tund :: tund :: tund :: tund :: tund :: tund :: tund :: tund :: tund :: tund :: tund :: tund :: tund :: [], [.cells 25 [.int .i64 y2, .int .i64 y3], .row 3 (.ints .i64 y4)]⟩
theorem fl137_0_0 (s : St) : refSt (h137_0_0 0 0 0 0 []) s = h137_0_0 (intS (oneA (vT (nx tund s.tmps 10)))) (intS (oneA (vT (nx tund s.tmps 11)))) (intS (nx .und (cellsB (nx .dead s.blks 0)) 0)) (intS (nx .und (cellsB (nx .dead s.blks 0)) 1)) (rInts (rowB_ (nx .dead s.blks 1))) := by kernel_rfl
def VLS137_0 {β : Type} (N : Nat) (jq139 : Nat → Int → Int → Int → Int → List Int → (List Int → Option β) → Option β) : LSpec β := fun s K => cond (shpSt (h137_0_0 0 0 0 0 []) s) ((fun (v0 : Int) (v1 : Int) (v2 : Int) (v3 : Int) (v4 : List Int) => jq139  N v0 v1 v2 v3 v4 (fun y0 => K (.exit 0) (x137_0_0_k0  y0))) (intS (oneA (vT (nx tund s.tmps 10)))) (intS (oneA (vT (nx tund s.tmps 11)))) (intS (nx .und (cellsB (nx .dead s.blks 0)) 0)) (intS (nx .und (cellsB (nx .dead s.blks 0)) 1)) (rInts (rowB_ (nx .dead s.blks 1)))) (none)
def LS137_0 {β : Type} (N : Nat) : LSpec β := VLS137_0 N (j139 N)
theorem fl137_1_0 (s : St) : refSt (h137_1_0 0 0 0 0 0 0 0 []) s = h137_1_0 (intS (oneA (vT (nx tund s.tmps 4)))) (intS (oneA (vT (nx tund s.tmps 10)))) (intS (oneA (vT (nx tund s.tmps 11)))) (intS (oneA (vT (nx tund s.tmps 15)))) (intS (oneA (vT (nx tund s.tmps 16)))) (intS (nx .und (cellsB (nx .dead s.blks 0)) 0)) (intS (nx .und (cellsB (nx .dead s.blks 0)) 1)) (rInts (rowB_ (nx .dead s.blks 1))) := by kernel_rfl
def VLS137_2 {β : Type} (N : Nat) (jq137 : Nat → Int → Int → Int → Int → Int → Int → Int → List Int → (Int → Int → Int → Int → List Int → Option β) → Option β) : LSpec β := fun s K => cond (shpSt (h137_1_0 0 0 0 0 0 0 0 []) s) ((fun (v0 : Int) (v1 : Int) (v2 : Int) (v3 : Int) (v4 : Int) (v5 : Int) (v6 : Int) (v7 : List Int) => jq137  N v0 v1 v2 v3 v4 v5 v6 v7 (fun y0 y1 y2 y3 y4 => K (.exit 2) (x137_1_0_k0  y0 y1 y2 y3 y4))) (intS (oneA (vT (nx tund s.tmps 4)))) (intS (oneA (vT (nx tund s.tmps 10)))) (intS (oneA (vT (nx tund s.tmps 11)))) (intS (oneA (vT (nx tund s.tmps 15)))) (intS (oneA (vT (nx tund s.tmps 16)))) (intS (nx .und (cellsB (nx .dead s.blks 0)) 0)) (intS (nx .und (cellsB (nx .dead s.blks 0)) 1)) (rInts (rowB_ (nx .dead s.blks 1)))) (none)
def LS137_2 {β : Type} (N : Nat) : LSpec β := VLS137_2 N (j137 N)
def VE137 {β : Type} (N : Nat) (jq90 : (a0 : Int) → (a1 : Int) → (k : Int → Option β) → Option β) (jq117 : (a0 : Int) → (k : Int → Option β) → Option β) (jq94 : (a0 : Int) → (a1 : Int) → (a2 : Int) → (k : Int → Option β) → Option β) (jq139 : Nat → Int → Int → Int → Int → List Int → (List Int → Option β) → Option β) (jq137 : Nat → Int → Int → Int → Int → Int → Int → Int → List Int → (Int → Int → Int → Int → List Int → Option β) → Option β) : Env β := ⟨[(100, VS100 N jq90), (104, VS104 N jq117), (103, VS103 N jq94)], [], [(0, VLS137_0 N jq139), (2, VLS137_2 N jq137)], [], ⟨[], [], []⟩⟩
def E137 {β : Type} (N : Nat) : Env β := VE137 N (j90 N) (j117 N) (j94 N) (j139 N) (j137 N)
def jb138 {β : Type} (N : Nat) (jq90 : (a0 : Int) → (a1 : Int) → (k : Int → Option β) → Option β) (jq137 : Nat → Int → Int → Int → Int → Int → Int → Int → List Int → (Int → Int → Int → Int → List Int → Option β) → Option β)  (v0 : Int) (v1 : Int) (v2 : Int) (v3 : Int) (v4 : List Int) (rec_ : Int → Int → Int → Int → List Int → Option β) (k0 : List Int → Option β) : Option β :=
(cond ((decide (v1 < v0)))
(jq90 v2 v3 fun r4 =>
jq137  N v1 v0 v1 r4 0 v2 v3 v4 (fun e8_0 e8_1 e8_2 e8_3 e8_4 =>
rec_ e8_0 ((w64 (e8_1 + 1))) e8_2 e8_3 e8_4))
(k0 v4))
theorem jt138 {β : Type} (N : Nat)  (v0 : Int) (v1 : Int) (v2 : Int) (v3 : Int) (v4 : List Int) (rec_ : Int → Int → Int → Int → List Int → Option β) (k0 : List Int → Option β) : j138 N v0 v1 v2 v3 v4 rec_ k0 = jb138 N (j90 N) (j137 N) v0 v1 v2 v3 v4 rec_ k0 := by
  unfold j138 jb138
  rfl
theorem vst137_0_0 {β : Type} (N : Nat) (jq90 : (a0 : Int) → (a1 : Int) → (k : Int → Option β) → Option β) (jq117 : (a0 : Int) → (k : Int → Option β) → Option β) (jq94 : (a0 : Int) → (a1 : Int) → (a2 : Int) → (k : Int → Option β) → Option β) (jq139 : Nat → Int → Int → Int → Int → List Int → (List Int → Option β) → Option β) (jq137 : Nat → Int → Int → Int → Int → Int → Int → Int → List Int → (Int → Int → Int → Int → List Int → Option β) → Option β)  (v0 : Int) (v1 : Int) (v2 : Int) (v3 : Int) (v4 : List Int) (rec_ : St → Option β) (K : Exit → St → Option β) :
    ev lay (VE137 N jq90 jq117 jq94 jq139 jq137) (retMask Tryz.f137) (lp Tryz.f137 0).body (lp Tryz.f137 0).ex ((lp Tryz.f137 0).lv (retMask Tryz.f137)) (h137_0_0  v0 v1 v2 v3 v4) (nextR (fun s' => rec_ (s'.tidy ((lp Tryz.f137 0).lv (retMask Tryz.f137)))) K) = jb138 N jq90 jq137  v0 v1 v2 v3 v4 (fun v0 v1 v2 v3 v4 => rec_ (h137_0_0  v0 v1 v2 v3 v4)) (fun y0 => K (.exit 0) (x137_0_0_k0  y0)) := by kernel_rfl
theorem st137_0_0 {β : Type} (N : Nat)  (v0 : Int) (v1 : Int) (v2 : Int) (v3 : Int) (v4 : List Int) (rec_ : St → Option β) (K : Exit → St → Option β) :
    ev lay (E137 N) (retMask Tryz.f137) (lp Tryz.f137 0).body (lp Tryz.f137 0).ex ((lp Tryz.f137 0).lv (retMask Tryz.f137)) (h137_0_0  v0 v1 v2 v3 v4) (nextR (fun s' => rec_ (s'.tidy ((lp Tryz.f137 0).lv (retMask Tryz.f137)))) K) = j138 N  v0 v1 v2 v3 v4 (fun v0 v1 v2 v3 v4 => rec_ (h137_0_0  v0 v1 v2 v3 v4)) (fun y0 => K (.exit 0) (x137_0_0_k0  y0)) := (vst137_0_0 N (j90 N) (j117 N) (j94 N) (j139 N) (j137 N) v0 v1 v2 v3 v4 rec_ K).trans (jt138 N  v0 v1 v2 v3 v4 (fun v0 v1 v2 v3 v4 => rec_ (h137_0_0  v0 v1 v2 v3 v4)) (fun y0 => K (.exit 0) (x137_0_0_k0  y0))).symm
theorem ro137_0_0 {β : Type} (N : Nat)  (K : Exit → St → Option β) : ∀ (F : Nat) (v0 : Int) (v1 : Int) (v2 : Int) (v3 : Int) (v4 : List Int), (lp Tryz.f137 0).rounds lay (E137 N) (retMask Tryz.f137) F (h137_0_0  v0 v1 v2 v3 v4) K = j139 N  F v0 v1 v2 v3 v4 (fun y0 => K (.exit 0) (x137_0_0_k0  y0)) := by
  intro F
  induction F with
  | zero => intros; rfl
  | succ F ih =>
    intros
    rw [rounds_next]
    refine (st137_0_0 N  _ _ _ _ _ (fun s => (lp Tryz.f137 0).rounds lay (E137 N) (retMask Tryz.f137) F s K) K).trans ?_
    simp only [ih]
    rfl
theorem lk137_0 {β : Type} (N : Nat) : lookL (E137 (β := β) N).loops (lp Tryz.f137 0).id = LS137_0 N := by kernel_rfl
theorem rk137_0 {β : Type} (N : Nat) : RoundsOK lay (E137 (β := β) N) (retMask Tryz.f137) (lp Tryz.f137 0) := by
  intro s K r h
  rw [lk137_0] at h
  unfold LS137_0 VLS137_0 at h
  cases hb : shpSt (h137_0_0 0 0 0 0 []) s with
  | true =>
    rw [hb, cond_true] at h
    exact ⟨N, by rw [← shpSt_ref hb, fl137_0_0 s]; exact (ro137_0_0 N  K N (intS (oneA (vT (nx tund s.tmps 10)))) (intS (oneA (vT (nx tund s.tmps 11)))) (intS (nx .und (cellsB (nx .dead s.blks 0)) 0)) (intS (nx .und (cellsB (nx .dead s.blks 0)) 1)) (rInts (rowB_ (nx .dead s.blks 1)))).trans h⟩
  | false =>
  rw [hb, cond_false] at h
  clear hb
  cases h
def jb136 {β : Type} (N : Nat) (jq117 : (a0 : Int) → (k : Int → Option β) → Option β) (jq94 : (a0 : Int) → (a1 : Int) → (a2 : Int) → (k : Int → Option β) → Option β)  (v0 : Int) (v1 : Int) (v2 : Int) (v3 : Int) (v4 : Int) (v5 : Int) (v6 : Int) (v7 : List Int) (rec_ : Int → Int → Int → Int → Int → Int → Int → List Int → Option β) (k0 : Int → Int → Int → Int → List Int → Option β) : Option β :=
(cond ((decide (v4 < v3)))
((cond (((bits .andNot .i64 v4 v0) != 0))
(rec_ v0 v1 v2 v3 ((w64 (v4 + 1))) v5 v6 v7)
(jq117 ((bits .xor .i64 v0 v4)) fun r5 =>
(cond (((remI r5 2) == 0))
((gd ((decide (0 ≤ v0)))
((gd ((decide (v0 < (v7.length : Int))))
(jq94 v5 v6 v4 fun r6 =>
(gd ((decide (0 ≤ v0)))
((gd ((decide (v0 < (v7.length : Int))))
(rec_ v0 v1 v2 v3 ((w64 (v4 + 1))) v5 v6 ((wr v7 v0 (w64 ((rd 0 v7 v0) + r6)))))))))))))
((gd ((decide (0 ≤ v0)))
((gd ((decide (v0 < (v7.length : Int))))
(jq94 v5 v6 v4 fun r7 =>
(gd ((decide (0 ≤ v0)))
((gd ((decide (v0 < (v7.length : Int))))
(rec_ v0 v1 v2 v3 ((w64 (v4 + 1))) v5 v6 ((wr v7 v0 (w64 ((rd 0 v7 v0) - r7)))))))))))))))))
(k0 v1 v2 v5 v6 v7))
theorem jt136 {β : Type} (N : Nat)  (v0 : Int) (v1 : Int) (v2 : Int) (v3 : Int) (v4 : Int) (v5 : Int) (v6 : Int) (v7 : List Int) (rec_ : Int → Int → Int → Int → Int → Int → Int → List Int → Option β) (k0 : Int → Int → Int → Int → List Int → Option β) : j136 N v0 v1 v2 v3 v4 v5 v6 v7 rec_ k0 = jb136 N (j117 N) (j94 N) v0 v1 v2 v3 v4 v5 v6 v7 rec_ k0 := by
  unfold j136 jb136
  rfl
theorem vst137_1_0 {β : Type} (N : Nat) (jq90 : (a0 : Int) → (a1 : Int) → (k : Int → Option β) → Option β) (jq117 : (a0 : Int) → (k : Int → Option β) → Option β) (jq94 : (a0 : Int) → (a1 : Int) → (a2 : Int) → (k : Int → Option β) → Option β) (jq139 : Nat → Int → Int → Int → Int → List Int → (List Int → Option β) → Option β) (jq137 : Nat → Int → Int → Int → Int → Int → Int → Int → List Int → (Int → Int → Int → Int → List Int → Option β) → Option β)  (v0 : Int) (v1 : Int) (v2 : Int) (v3 : Int) (v4 : Int) (v5 : Int) (v6 : Int) (v7 : List Int) (rec_ : St → Option β) (K : Exit → St → Option β) :
    ev lay (VE137 N jq90 jq117 jq94 jq139 jq137) (retMask Tryz.f137) (lp Tryz.f137 1).body (lp Tryz.f137 1).ex ((lp Tryz.f137 1).lv (retMask Tryz.f137)) (h137_1_0  v0 v1 v2 v3 v4 v5 v6 v7) (nextR (fun s' => rec_ (s'.tidy ((lp Tryz.f137 1).lv (retMask Tryz.f137)))) K) = jb136 N jq117 jq94  v0 v1 v2 v3 v4 v5 v6 v7 (fun v0 v1 v2 v3 v4 v5 v6 v7 => rec_ (h137_1_0  v0 v1 v2 v3 v4 v5 v6 v7)) (fun y0 y1 y2 y3 y4 => K (.exit 2) (x137_1_0_k0  y0 y1 y2 y3 y4)) := by kernel_rfl
theorem st137_1_0 {β : Type} (N : Nat)  (v0 : Int) (v1 : Int) (v2 : Int) (v3 : Int) (v4 : Int) (v5 : Int) (v6 : Int) (v7 : List Int) (rec_ : St → Option β) (K : Exit → St → Option β) :
    ev lay (E137 N) (retMask Tryz.f137) (lp Tryz.f137 1).body (lp Tryz.f137 1).ex ((lp Tryz.f137 1).lv (retMask Tryz.f137)) (h137_1_0  v0 v1 v2 v3 v4 v5 v6 v7) (nextR (fun s' => rec_ (s'.tidy ((lp Tryz.f137 1).lv (retMask Tryz.f137)))) K) = j136 N  v0 v1 v2 v3 v4 v5 v6 v7 (fun v0 v1 v2 v3 v4 v5 v6 v7 => rec_ (h137_1_0  v0 v1 v2 v3 v4 v5 v6 v7)) (fun y0 y1 y2 y3 y4 => K (.exit 2) (x137_1_0_k0  y0 y1 y2 y3 y4)) := (vst137_1_0 N (j90 N) (j117 N) (j94 N) (j139 N) (j137 N) v0 v1 v2 v3 v4 v5 v6 v7 rec_ K).trans (jt136 N  v0 v1 v2 v3 v4 v5 v6 v7 (fun v0 v1 v2 v3 v4 v5 v6 v7 => rec_ (h137_1_0  v0 v1 v2 v3 v4 v5 v6 v7)) (fun y0 y1 y2 y3 y4 => K (.exit 2) (x137_1_0_k0  y0 y1 y2 y3 y4))).symm
theorem ro137_1_0 {β : Type} (N : Nat)  (K : Exit → St → Option β) : ∀ (F : Nat) (v0 : Int) (v1 : Int) (v2 : Int) (v3 : Int) (v4 : Int) (v5 : Int) (v6 : Int) (v7 : List Int), (lp Tryz.f137 1).rounds lay (E137 N) (retMask Tryz.f137) F (h137_1_0  v0 v1 v2 v3 v4 v5 v6 v7) K = j137 N  F v0 v1 v2 v3 v4 v5 v6 v7 (fun y0 y1 y2 y3 y4 => K (.exit 2) (x137_1_0_k0  y0 y1 y2 y3 y4)) := by
  intro F
  induction F with
  | zero => intros; rfl
  | succ F ih =>
    intros
    rw [rounds_next]
    refine (st137_1_0 N  _ _ _ _ _ _ _ _ (fun s => (lp Tryz.f137 1).rounds lay (E137 N) (retMask Tryz.f137) F s K) K).trans ?_
    simp only [ih]
    rfl
theorem lk137_2 {β : Type} (N : Nat) : lookL (E137 (β := β) N).loops (lp Tryz.f137 1).id = LS137_2 N := by kernel_rfl
theorem rk137_2 {β : Type} (N : Nat) : RoundsOK lay (E137 (β := β) N) (retMask Tryz.f137) (lp Tryz.f137 1) := by
  intro s K r h
  rw [lk137_2] at h
  unfold LS137_2 VLS137_2 at h
  cases hb : shpSt (h137_1_0 0 0 0 0 0 0 0 []) s with
  | true =>
    rw [hb, cond_true] at h
    exact ⟨N, by rw [← shpSt_ref hb, fl137_1_0 s]; exact (ro137_1_0 N  K N (intS (oneA (vT (nx tund s.tmps 4)))) (intS (oneA (vT (nx tund s.tmps 10)))) (intS (oneA (vT (nx tund s.tmps 11)))) (intS (oneA (vT (nx tund s.tmps 15)))) (intS (oneA (vT (nx tund s.tmps 16)))) (intS (nx .und (cellsB (nx .dead s.blks 0)) 0)) (intS (nx .und (cellsB (nx .dead s.blks 0)) 1)) (rInts (rowB_ (nx .dead s.blks 1)))).trans h⟩
  | false =>
  rw [hb, cond_false] at h
  clear hb
  cases h
def jb140 {β : Type} (N : Nat) (jq90 : (a0 : Int) → (a1 : Int) → (k : Int → Option β) → Option β) (jq139 : Nat → Int → Int → Int → Int → List Int → (List Int → Option β) → Option β) (a0 : Int) (a1 : Int) (k : List Int → Option β) : Option β :=
jq90 a0 a1 fun r3 =>
(gd ((decide (0 ≤ r3)))
((gd ((decide (r3 ≤ r3)))
((gd ((decide (8 * r3 ≤ 281474976710656)))
(jq139  N ((((List.replicate (Int.toNat r3) (0 : Int))).length : Int)) 0 a0 a1 ((List.replicate (Int.toNat r3) (0 : Int))) (fun e9_0 =>
k e9_0)))))))
theorem jt140 {β : Type} (N : Nat) (a0 : Int) (a1 : Int) (k : List Int → Option β) : j140 N a0 a1 k = jb140 N (j90 N) (j139 N) a0 a1 k := by
  unfold j140 jb140
  rfl
theorem ve137_0 {β : Type} (N : Nat) (jq90 : (a0 : Int) → (a1 : Int) → (k : Int → Option β) → Option β) (jq117 : (a0 : Int) → (k : Int → Option β) → Option β) (jq94 : (a0 : Int) → (a1 : Int) → (a2 : Int) → (k : Int → Option β) → Option β) (jq139 : Nat → Int → Int → Int → Int → List Int → (List Int → Option β) → Option β) (jq137 : Nat → Int → Int → Int → Int → Int → Int → Int → List Int → (Int → Int → Int → Int → List Int → Option β) → Option β)  (a0 : Int) (a1 : Int) (K : TV → Option β) : evFn lay (VE137 N jq90 jq117 jq94 jq139 jq137) Tryz.f137 [.v (.agg [.int .i64 a0, .int .i64 a1])] K = jb140 N jq90 jq139 a0 a1 (fun z2 => K (.v (.one (.sl 3 (.ints .i64 z2))))) := by kernel_rfl
theorem e137_0 {β : Type} (N : Nat)  (a0 : Int) (a1 : Int) (K : TV → Option β) : evFn lay (E137 N) Tryz.f137 [.v (.agg [.int .i64 a0, .int .i64 a1])] K = j140 N a0 a1 (fun z2 => K (.v (.one (.sl 3 (.ints .i64 z2))))) := (ve137_0 N (j90 N) (j117 N) (j94 N) (j139 N) (j137 N) a0 a1 K).trans (jt140 N a0 a1 (fun z2 => K (.v (.one (.sl 3 (.ints .i64 z2)))))).symm
theorem o137 {β : Type} (N : Nat) : SpecOK (β := β) inv Tryz.prog 137 (S137 N) := by
  refine spec_of lay_ok mixed (E := E137 N) (specs_loops (specs_cons (o100 N) (specs_cons (o104 N) (specs_cons (o103 N) specs_nil)))) muts_nil gs_nil Tryz.func137 (by kernel_rfl) 2 (by kernel_rfl) ⟨⟨trivial, rk137_0 N⟩, rk137_2 N⟩ fun args K r h => ?_
  unfold S137 VS137 at h
  split at h
  · exact (e137_0 N _ _ _).trans h
  · cases h
def VS139 {β : Type} (N : Nat) (jq141 : (a0 : Int) → (c0 : List Int) → (k : Bool → Option β) → Option β) : Rv.Spec β := fun args K => match args with
  | [.v (.one (.int .i64 a0)), .v (.one (.cref [.sl 3 (.ints .i64 c0)] 0))] => jq141 a0 c0 (fun z1 => K (.v (.one (.bool z1))))
  | _ => none
def S139 {β : Type} (N : Nat) : Rv.Spec β := VS139 N (j141 N)
def VE139 {β : Type} (N : Nat) : Env β := ⟨[], [], [], [], ⟨[], [], []⟩⟩
def E139 {β : Type} (N : Nat) : Env β := VE139 N
def jb141 {β : Type} (N : Nat) (a0 : Int) (c0 : List Int) (k : Bool → Option β) : Option β :=
(gd ((decide (0 ≤ a0)))
((gd ((decide (a0 < (c0.length : Int))))
(k (((rd 0 c0 a0) != 0))))))
theorem jt141 {β : Type} (N : Nat) (a0 : Int) (c0 : List Int) (k : Bool → Option β) : j141 N a0 c0 k = jb141 N a0 c0 k := by
  unfold j141 jb141
  rfl
theorem ve139_0 {β : Type} (N : Nat)  (a0 : Int) (c0 : List Int) (K : TV → Option β) : evFn lay (VE139 N) Tryz.f139 [.v (.one (.int .i64 a0)), .v (.one (.cref [.sl 3 (.ints .i64 c0)] 0))] K = jb141 N a0 c0 (fun z1 => K (.v (.one (.bool z1)))) := by kernel_rfl
theorem e139_0 {β : Type} (N : Nat)  (a0 : Int) (c0 : List Int) (K : TV → Option β) : evFn lay (E139 N) Tryz.f139 [.v (.one (.int .i64 a0)), .v (.one (.cref [.sl 3 (.ints .i64 c0)] 0))] K = j141 N a0 c0 (fun z1 => K (.v (.one (.bool z1)))) := (ve139_0 N a0 c0 K).trans (jt141 N a0 c0 (fun z1 => K (.v (.one (.bool z1))))).symm
theorem o139 {β : Type} (N : Nat) : SpecOK (β := β) inv Tryz.prog 139 (S139 N) := by
  refine spec_of lay_ok mixed (E := E139 N) (specs_loops specs_nil) muts_nil gs_nil Tryz.func139 (by kernel_rfl) 0 (by kernel_rfl) trivial fun args K r h => ?_
  unfold S139 VS139 at h
  split at h
  · exact (e139_0 N _ _ _).trans h
  · cases h
def VS141 {β : Type} (N : Nat) (jq142 : (a0 : Int) → (c0 : Int) → (c1 : Int) → (k : Bool → Option β) → Option β) : Rv.Spec β := fun args K => match args with
  | [.v (.one (.int .i64 a0)), .v (.one (.cref [.int .i64 c0, .int .i64 c1] 0))] => jq142 a0 c0 c1 (fun z1 => K (.v (.one (.bool z1))))
  | _ => none
def S141 {β : Type} (N : Nat) : Rv.Spec β := VS141 N (j142 N)
def VE141 {β : Type} (N : Nat) (jq94 : (a0 : Int) → (a1 : Int) → (a2 : Int) → (k : Int → Option β) → Option β) : Env β := ⟨[(103, VS103 N jq94)], [], [], [], ⟨[], [], []⟩⟩
def E141 {β : Type} (N : Nat) : Env β := VE141 N (j94 N)
def jb142 {β : Type} (N : Nat) (jq94 : (a0 : Int) → (a1 : Int) → (a2 : Int) → (k : Int → Option β) → Option β) (a0 : Int) (c0 : Int) (c1 : Int) (k : Bool → Option β) : Option β :=
jq94 c0 c1 a0 fun r2 =>
k ((r2 == 1))
theorem jt142 {β : Type} (N : Nat) (a0 : Int) (c0 : Int) (c1 : Int) (k : Bool → Option β) : j142 N a0 c0 c1 k = jb142 N (j94 N) a0 c0 c1 k := by
  unfold j142 jb142
  rfl
theorem ve141_0 {β : Type} (N : Nat) (jq94 : (a0 : Int) → (a1 : Int) → (a2 : Int) → (k : Int → Option β) → Option β)  (a0 : Int) (c0 : Int) (c1 : Int) (K : TV → Option β) : evFn lay (VE141 N jq94) Tryz.f141 [.v (.one (.int .i64 a0)), .v (.one (.cref [.int .i64 c0, .int .i64 c1] 0))] K = jb142 N jq94 a0 c0 c1 (fun z1 => K (.v (.one (.bool z1)))) := by kernel_rfl
theorem e141_0 {β : Type} (N : Nat)  (a0 : Int) (c0 : Int) (c1 : Int) (K : TV → Option β) : evFn lay (E141 N) Tryz.f141 [.v (.one (.int .i64 a0)), .v (.one (.cref [.int .i64 c0, .int .i64 c1] 0))] K = j142 N a0 c0 c1 (fun z1 => K (.v (.one (.bool z1)))) := (ve141_0 N (j94 N) a0 c0 c1 K).trans (jt142 N a0 c0 c1 (fun z1 => K (.v (.one (.bool z1))))).symm
theorem o141 {β : Type} (N : Nat) : SpecOK (β := β) inv Tryz.prog 141 (S141 N) := by
  refine spec_of lay_ok mixed (E := E141 N) (specs_loops (specs_cons (o103 N) specs_nil)) muts_nil gs_nil Tryz.func141 (by kernel_rfl) 0 (by kernel_rfl) trivial fun args K r h => ?_
  unfold S141 VS141 at h
  split at h
  · exact (e141_0 N _ _ _ _).trans h
  · cases h
end Go.Proofs.YtignjkbhdaiegaaGreatDoor
