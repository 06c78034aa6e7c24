/- The functions that the claims reach answer as their texts do. -/
import Derived.Test.YtignjkbhdaiegaaGreatDoorE6
namespace Go.Proofs.YtignjkbhdaiegaaGreatDoor
open Go.Rv
set_option maxRecDepth 100000
set_option maxHeartbeats 2000000
set_option linter.unusedVariables false
def VS138 {β : Type} (N : Nat) (jq145 : (a0 : Int) → (a1 : (Int → (Bool → Option β) → Option β)) → (k : Int → Option β) → Option β) (jq141 : (a0 : Int) → (c0 : List Int) → (k : Bool → Option β) → Option β) (jq142 : (a0 : Int) → (c0 : Int) → (c1 : Int) → (k : Bool → Option β) → Option β) : Rv.Spec β := fun args K => match args with
  | [.v (.one (.int .i64 a0)), .v (.one (.dfn 139 [([.sl 3 (.ints .i64 q0)], 0)]))] => jq145 a0 (fun x0 k => jq141 x0 q0 k) (fun z2 => K (.v (.one (.int .i64 z2))))
  | [.v (.one (.int .i64 a0)), .v (.one (.dfn 141 [([.int .i64 q0, .int .i64 q1], 0)]))] => jq145 a0 (fun x0 k => jq142 x0 q0 q1 k) (fun z2 => K (.v (.one (.int .i64 z2))))
  | _ => none
def S138 {β : Type} (N : Nat) : Rv.Spec β := VS138 N (j145 N) (j141 N) (j142 N)
def h138_0_0 (q0 : List Int) (v0 : Int) (v1 : Int) (v2 : Int) : St := ⟨tund :: .v (.one (.dfn 139 [([.sl 3 (.ints .i64 q0)], 0)])) :: tund :: tund :: tund :: .v (.one (.int .i64 v0)) :: tund :: tund :: .v (.one (.int .i64 v1)) :: .v (.one (.int .i64 v2)) :: tund :: tund :: tund :: tund :: tund :: tund :: tund :: tund :: tund :: tund :: tund :: [], []⟩
def x138_0_0_k0 (q0 : List Int) (y0 : Int) : St := ⟨tund :: tund :: tund :: tund :: tund :: .v (.one (.int .i64 y0)) :: tund :: tund :: tund :: tund :: tund :: tund :: tund :: tund :: tund :: tund :: tund :: tund :: tund :: tund :: tund :: [], []⟩
def h138_0_1 (q0 : Int) (q1 : Int) (v0 : Int) (v1 : Int) (v2 : Int) : St := ⟨tund :: .v (.one (.dfn 141 [([.int .i64 q0, .int .i64 q1], 0)])) :: tund :: tund :: tund :: .v (.one (.int .i64 v0)) :: tund :: tund :: .v (.one (.int .i64 v1)) :: .v (.one (.int .i64 v2)) :: tund :: tund :: tund :: tund :: tund :: tund :: tund :: tund :: tund :: tund :: tund :: [], []⟩
def x138_0_1_k0 (q0 : Int) (q1 : Int) (y0 : Int) : St := ⟨tund :: tund :: tund :: tund :: tund :: .v (.one (.int .i64 y0)) :: tund :: tund :: tund :: tund :: tund :: tund :: tund :: tund :: tund :: tund :: tund :: tund :: tund :: tund :: tund :: [], []⟩
theorem fl138_0_0 (s : St) : refSt (h138_0_0 [] 0 0 0) s = h138_0_0 (rInts (rowF (nx .no (nx ([], 0) (dfnS (oneA (vT (nx tund s.tmps 1)))) 0).1 0))) (intS (oneA (vT (nx tund s.tmps 5)))) (intS (oneA (vT (nx tund s.tmps 8)))) (intS (oneA (vT (nx tund s.tmps 9)))) := by kernel_rfl
theorem fl138_0_1 (s : St) : refSt (h138_0_1 0 0 0 0 0) s = h138_0_1 (intF (nx .no (nx ([], 0) (dfnS (oneA (vT (nx tund s.tmps 1)))) 0).1 0)) (intF (nx .no (nx ([], 0) (dfnS (oneA (vT (nx tund s.tmps 1)))) 0).1 1)) (intS (oneA (vT (nx tund s.tmps 5)))) (intS (oneA (vT (nx tund s.tmps 8)))) (intS (oneA (vT (nx tund s.tmps 9)))) := by kernel_rfl
def VLS138_0 {β : Type} (N : Nat) (jq144 : (a1 : (Int → (Bool → Option β) → Option β)) → Nat → Int → Int → Int → (Int → Option β) → Option β) (jq141 : (a0 : Int) → (c0 : List Int) → (k : Bool → Option β) → Option β) (jq142 : (a0 : Int) → (c0 : Int) → (c1 : Int) → (k : Bool → Option β) → Option β) : LSpec β := fun s K => cond (shpSt (h138_0_0 [] 0 0 0) s) ((fun (q0 : List Int) (v0 : Int) (v1 : Int) (v2 : Int) => jq144 (fun x0 k => jq141 x0 q0 k) N v0 v1 v2 (fun y0 => K (.exit 0) (x138_0_0_k0 q0 y0))) (rInts (rowF (nx .no (nx ([], 0) (dfnS (oneA (vT (nx tund s.tmps 1)))) 0).1 0))) (intS (oneA (vT (nx tund s.tmps 5)))) (intS (oneA (vT (nx tund s.tmps 8)))) (intS (oneA (vT (nx tund s.tmps 9))))) (cond (shpSt (h138_0_1 0 0 0 0 0) s) ((fun (q0 : Int) (q1 : Int) (v0 : Int) (v1 : Int) (v2 : Int) => jq144 (fun x0 k => jq142 x0 q0 q1 k) N v0 v1 v2 (fun y0 => K (.exit 0) (x138_0_1_k0 q0 q1 y0))) (intF (nx .no (nx ([], 0) (dfnS (oneA (vT (nx tund s.tmps 1)))) 0).1 0)) (intF (nx .no (nx ([], 0) (dfnS (oneA (vT (nx tund s.tmps 1)))) 0).1 1)) (intS (oneA (vT (nx tund s.tmps 5)))) (intS (oneA (vT (nx tund s.tmps 8)))) (intS (oneA (vT (nx tund s.tmps 9))))) (none))
def LS138_0 {β : Type} (N : Nat) : LSpec β := VLS138_0 N (j144 N) (j141 N) (j142 N)
def VE138 {β : Type} (N : Nat) (jq117 : (a0 : Int) → (k : Int → Option β) → Option β) (jq141 : (a0 : Int) → (c0 : List Int) → (k : Bool → Option β) → Option β) (jq142 : (a0 : Int) → (c0 : Int) → (c1 : Int) → (k : Bool → Option β) → Option β) (jq144 : (a1 : (Int → (Bool → Option β) → Option β)) → Nat → Int → Int → Int → (Int → Option β) → Option β) : Env β := ⟨[(104, VS104 N jq117), (139, VS139 N jq141), (141, VS141 N jq142)], [], [(0, VLS138_0 N jq144 jq141 jq142)], [], ⟨[], [], []⟩⟩
def E138 {β : Type} (N : Nat) : Env β := VE138 N (j117 N) (j141 N) (j142 N) (j144 N)
def jb143 {β : Type} (N : Nat) (jq117 : (a0 : Int) → (k : Int → Option β) → Option β) (a1 : (Int → (Bool → Option β) → Option β)) (v0 : Int) (v1 : Int) (v2 : Int) (rec_ : Int → Int → Int → Option β) (k0 : Int → Option β) : Option β :=
(cond ((decide (v2 < v1)))
(a1 v2 fun r3 =>
(cond r3
(jq117 v2 fun r4 =>
rec_ ((mxI v0 r4)) v1 ((w64 (v2 + 1))))
(rec_ v0 v1 ((w64 (v2 + 1))))))
(k0 v0))
theorem jt143 {β : Type} (N : Nat) (a1 : (Int → (Bool → Option β) → Option β)) (v0 : Int) (v1 : Int) (v2 : Int) (rec_ : Int → Int → Int → Option β) (k0 : Int → Option β) : j143 N a1 v0 v1 v2 rec_ k0 = jb143 N (j117 N) a1 v0 v1 v2 rec_ k0 := by
  unfold j143 jb143
  rfl
theorem vst138_0_0 {β : Type} (N : Nat) (jq117 : (a0 : Int) → (k : Int → Option β) → Option β) (jq141 : (a0 : Int) → (c0 : List Int) → (k : Bool → Option β) → Option β) (jq142 : (a0 : Int) → (c0 : Int) → (c1 : Int) → (k : Bool → Option β) → Option β) (jq144 : (a1 : (Int → (Bool → Option β) → Option β)) → Nat → Int → Int → Int → (Int → Option β) → Option β) (q0 : List Int) (v0 : Int) (v1 : Int) (v2 : Int) (rec_ : St → Option β) (K : Exit → St → Option β) :
    ev lay (VE138 N jq117 jq141 jq142 jq144) (retMask Tryz.f138) (lp Tryz.f138 0).body (lp Tryz.f138 0).ex ((lp Tryz.f138 0).lv (retMask Tryz.f138)) (h138_0_0 q0 v0 v1 v2) (nextR (fun s' => rec_ (s'.tidy ((lp Tryz.f138 0).lv (retMask Tryz.f138)))) K) = jb143 N jq117 (fun x0 k => jq141 x0 q0 k) v0 v1 v2 (fun v0 v1 v2 => rec_ (h138_0_0 q0 v0 v1 v2)) (fun y0 => K (.exit 0) (x138_0_0_k0 q0 y0)) := by kernel_rfl
theorem st138_0_0 {β : Type} (N : Nat) (q0 : List Int) (v0 : Int) (v1 : Int) (v2 : Int) (rec_ : St → Option β) (K : Exit → St → Option β) :
    ev lay (E138 N) (retMask Tryz.f138) (lp Tryz.f138 0).body (lp Tryz.f138 0).ex ((lp Tryz.f138 0).lv (retMask Tryz.f138)) (h138_0_0 q0 v0 v1 v2) (nextR (fun s' => rec_ (s'.tidy ((lp Tryz.f138 0).lv (retMask Tryz.f138)))) K) = j143 N (fun x0 k => j141 N x0 q0 k) v0 v1 v2 (fun v0 v1 v2 => rec_ (h138_0_0 q0 v0 v1 v2)) (fun y0 => K (.exit 0) (x138_0_0_k0 q0 y0)) := (vst138_0_0 N (j117 N) (j141 N) (j142 N) (j144 N) q0 v0 v1 v2 rec_ K).trans (jt143 N (fun x0 k => j141 N x0 q0 k) v0 v1 v2 (fun v0 v1 v2 => rec_ (h138_0_0 q0 v0 v1 v2)) (fun y0 => K (.exit 0) (x138_0_0_k0 q0 y0))).symm
theorem ro138_0_0 {β : Type} (N : Nat) (q0 : List Int) (K : Exit → St → Option β) : ∀ (F : Nat) (v0 : Int) (v1 : Int) (v2 : Int), (lp Tryz.f138 0).rounds lay (E138 N) (retMask Tryz.f138) F (h138_0_0 q0 v0 v1 v2) K = j144 N (fun x0 k => j141 N x0 q0 k) F v0 v1 v2 (fun y0 => K (.exit 0) (x138_0_0_k0 q0 y0)) := by
  intro F
  induction F with
  | zero => intros; rfl
  | succ F ih =>
    intros
    rw [rounds_next]
    refine (st138_0_0 N q0 _ _ _ (fun s => (lp Tryz.f138 0).rounds lay (E138 N) (retMask Tryz.f138) F s K) K).trans ?_
    simp only [ih]
    rfl
theorem vst138_0_1 {β : Type} (N : Nat) (jq117 : (a0 : Int) → (k : Int → Option β) → Option β) (jq141 : (a0 : Int) → (c0 : List Int) → (k : Bool → Option β) → Option β) (jq142 : (a0 : Int) → (c0 : Int) → (c1 : Int) → (k : Bool → Option β) → Option β) (jq144 : (a1 : (Int → (Bool → Option β) → Option β)) → Nat → Int → Int → Int → (Int → Option β) → Option β) (q0 : Int) (q1 : Int) (v0 : Int) (v1 : Int) (v2 : Int) (rec_ : St → Option β) (K : Exit → St → Option β) :
    ev lay (VE138 N jq117 jq141 jq142 jq144) (retMask Tryz.f138) (lp Tryz.f138 0).body (lp Tryz.f138 0).ex ((lp Tryz.f138 0).lv (retMask Tryz.f138)) (h138_0_1 q0 q1 v0 v1 v2) (nextR (fun s' => rec_ (s'.tidy ((lp Tryz.f138 0).lv (retMask Tryz.f138)))) K) = jb143 N jq117 (fun x0 k => jq142 x0 q0 q1 k) v0 v1 v2 (fun v0 v1 v2 => rec_ (h138_0_1 q0 q1 v0 v1 v2)) (fun y0 => K (.exit 0) (x138_0_1_k0 q0 q1 y0)) := by kernel_rfl
theorem st138_0_1 {β : Type} (N : Nat) (q0 : Int) (q1 : Int) (v0 : Int) (v1 : Int) (v2 : Int) (rec_ : St → Option β) (K : Exit → St → Option β) :
    ev lay (E138 N) (retMask Tryz.f138) (lp Tryz.f138 0).body (lp Tryz.f138 0).ex ((lp Tryz.f138 0).lv (retMask Tryz.f138)) (h138_0_1 q0 q1 v0 v1 v2) (nextR (fun s' => rec_ (s'.tidy ((lp Tryz.f138 0).lv (retMask Tryz.f138)))) K) = j143 N (fun x0 k => j142 N x0 q0 q1 k) v0 v1 v2 (fun v0 v1 v2 => rec_ (h138_0_1 q0 q1 v0 v1 v2)) (fun y0 => K (.exit 0) (x138_0_1_k0 q0 q1 y0)) := (vst138_0_1 N (j117 N) (j141 N) (j142 N) (j144 N) q0 q1 v0 v1 v2 rec_ K).trans (jt143 N (fun x0 k => j142 N x0 q0 q1 k) v0 v1 v2 (fun v0 v1 v2 => rec_ (h138_0_1 q0 q1 v0 v1 v2)) (fun y0 => K (.exit 0) (x138_0_1_k0 q0 q1 y0))).symm
theorem ro138_0_1 {β : Type} (N : Nat) (q0 : Int) (q1 : Int) (K : Exit → St → Option β) : ∀ (F : Nat) (v0 : Int) (v1 : Int) (v2 : Int), (lp Tryz.f138 0).rounds lay (E138 N) (retMask Tryz.f138) F (h138_0_1 q0 q1 v0 v1 v2) K = j144 N (fun x0 k => j142 N x0 q0 q1 k) F v0 v1 v2 (fun y0 => K (.exit 0) (x138_0_1_k0 q0 q1 y0)) := by
  intro F
  induction F with
  | zero => intros; rfl
  | succ F ih =>
    intros
    rw [rounds_next]
    refine (st138_0_1 N q0 q1 _ _ _ (fun s => (lp Tryz.f138 0).rounds lay (E138 N) (retMask Tryz.f138) F s K) K).trans ?_
    simp only [ih]
    rfl
theorem lk138_0 {β : Type} (N : Nat) : lookL (E138 (β := β) N).loops (lp Tryz.f138 0).id = LS138_0 N := by kernel_rfl
theorem rk138_0 {β : Type} (N : Nat) : RoundsOK lay (E138 (β := β) N) (retMask Tryz.f138) (lp Tryz.f138 0) := by
  intro s K r h
  rw [lk138_0] at h
  unfold LS138_0 VLS138_0 at h
  cases hb : shpSt (h138_0_0 [] 0 0 0) s with
  | true =>
    rw [hb, cond_true] at h
    exact ⟨N, by rw [← shpSt_ref hb, fl138_0_0 s]; exact (ro138_0_0 N (rInts (rowF (nx .no (nx ([], 0) (dfnS (oneA (vT (nx tund s.tmps 1)))) 0).1 0))) K N (intS (oneA (vT (nx tund s.tmps 5)))) (intS (oneA (vT (nx tund s.tmps 8)))) (intS (oneA (vT (nx tund s.tmps 9))))).trans h⟩
  | false =>
  rw [hb, cond_false] at h
  clear hb
  cases hb : shpSt (h138_0_1 0 0 0 0 0) s with
  | true =>
    rw [hb, cond_true] at h
    exact ⟨N, by rw [← shpSt_ref hb, fl138_0_1 s]; exact (ro138_0_1 N (intF (nx .no (nx ([], 0) (dfnS (oneA (vT (nx tund s.tmps 1)))) 0).1 0)) (intF (nx .no (nx ([], 0) (dfnS (oneA (vT (nx tund s.tmps 1)))) 0).1 1)) K N (intS (oneA (vT (nx tund s.tmps 5)))) (intS (oneA (vT (nx tund s.tmps 8)))) (intS (oneA (vT (nx tund s.tmps 9))))).trans h⟩
  | false =>
  rw [hb, cond_false] at h
  clear hb
  cases h
def jb145 {β : Type} (N : Nat) (jq144 : (a1 : (Int → (Bool → Option β) → Option β)) → Nat → Int → Int → Int → (Int → Option β) → Option β) (a0 : Int) (a1 : (Int → (Bool → Option β) → Option β)) (k : Int → Option β) : Option β :=
(gd ((decide (0 ≤ a0)))
(jq144 a1 N (-1) ((shlI .i64 1 a0)) 0 (fun e5_0 =>
k e5_0)))
theorem jt145 {β : Type} (N : Nat) (a0 : Int) (a1 : (Int → (Bool → Option β) → Option β)) (k : Int → Option β) : j145 N a0 a1 k = jb145 N (j144 N) a0 a1 k := by
  unfold j145 jb145
  rfl
theorem ve138_0 {β : Type} (N : Nat) (jq117 : (a0 : Int) → (k : Int → Option β) → Option β) (jq141 : (a0 : Int) → (c0 : List Int) → (k : Bool → Option β) → Option β) (jq142 : (a0 : Int) → (c0 : Int) → (c1 : Int) → (k : Bool → Option β) → Option β) (jq144 : (a1 : (Int → (Bool → Option β) → Option β)) → Nat → Int → Int → Int → (Int → Option β) → Option β) (q0 : List Int) (a0 : Int) (K : TV → Option β) : evFn lay (VE138 N jq117 jq141 jq142 jq144) Tryz.f138 [.v (.one (.int .i64 a0)), .v (.one (.dfn 139 [([.sl 3 (.ints .i64 q0)], 0)]))] K = jb145 N jq144 a0 (fun x0 k => jq141 x0 q0 k) (fun z2 => K (.v (.one (.int .i64 z2)))) := by kernel_rfl
theorem e138_0 {β : Type} (N : Nat) (q0 : List Int) (a0 : Int) (K : TV → Option β) : evFn lay (E138 N) Tryz.f138 [.v (.one (.int .i64 a0)), .v (.one (.dfn 139 [([.sl 3 (.ints .i64 q0)], 0)]))] K = j145 N a0 (fun x0 k => j141 N x0 q0 k) (fun z2 => K (.v (.one (.int .i64 z2)))) := (ve138_0 N (j117 N) (j141 N) (j142 N) (j144 N) q0 a0 K).trans (jt145 N a0 (fun x0 k => j141 N x0 q0 k) (fun z2 => K (.v (.one (.int .i64 z2))))).symm
theorem ve138_1 {β : Type} (N : Nat) (jq117 : (a0 : Int) → (k : Int → Option β) → Option β) (jq141 : (a0 : Int) → (c0 : List Int) → (k : Bool → Option β) → Option β) (jq142 : (a0 : Int) → (c0 : Int) → (c1 : Int) → (k : Bool → Option β) → Option β) (jq144 : (a1 : (Int → (Bool → Option β) → Option β)) → Nat → Int → Int → Int → (Int → Option β) → Option β) (q0 : Int) (q1 : Int) (a0 : Int) (K : TV → Option β) : evFn lay (VE138 N jq117 jq141 jq142 jq144) Tryz.f138 [.v (.one (.int .i64 a0)), .v (.one (.dfn 141 [([.int .i64 q0, .int .i64 q1], 0)]))] K = jb145 N jq144 a0 (fun x0 k => jq142 x0 q0 q1 k) (fun z2 => K (.v (.one (.int .i64 z2)))) := by kernel_rfl
theorem e138_1 {β : Type} (N : Nat) (q0 : Int) (q1 : Int) (a0 : Int) (K : TV → Option β) : evFn lay (E138 N) Tryz.f138 [.v (.one (.int .i64 a0)), .v (.one (.dfn 141 [([.int .i64 q0, .int .i64 q1], 0)]))] K = j145 N a0 (fun x0 k => j142 N x0 q0 q1 k) (fun z2 => K (.v (.one (.int .i64 z2)))) := (ve138_1 N (j117 N) (j141 N) (j142 N) (j144 N) q0 q1 a0 K).trans (jt145 N a0 (fun x0 k => j142 N x0 q0 q1 k) (fun z2 => K (.v (.one (.int .i64 z2))))).symm
theorem o138 {β : Type} (N : Nat) : SpecOK (β := β) inv Tryz.prog 138 (S138 N) := by
  refine spec_of lay_ok mixed (E := E138 N) (specs_loops (specs_cons (o104 N) (specs_cons (o139 N) (specs_cons (o141 N) specs_nil)))) muts_nil gs_nil Tryz.func138 (by kernel_rfl) 1 (by kernel_rfl) ⟨trivial, rk138_0 N⟩ fun args K r h => ?_
  unfold S138 VS138 at h
  split at h
  · exact (e138_0 N _ _ _).trans h
  · exact (e138_1 N _ _ _ _).trans h
  · cases h
def VS80 {β : Type} (N : Nat) (jq146 : (a0 : Int) → (a1 : Int) → (k : Int → Option β) → Option β) : Rv.Spec β := fun args K => match args with
  | [.v (.agg [.int .i64 a0, .int .i64 a1])] => jq146 a0 a1 (fun z2 => K (.v (.one (.int .i64 z2))))
  | _ => none
def S80 {β : Type} (N : Nat) : Rv.Spec β := VS80 N (j146 N)
def VE80 {β : Type} (N : Nat) (jq91 : (a0 : Int) → (a1 : Int) → (k : Bool → Option β) → Option β) (jq140 : (a0 : Int) → (a1 : Int) → (k : List Int → Option β) → Option β) (jq145 : (a0 : Int) → (a1 : (Int → (Bool → Option β) → Option β)) → (k : Int → Option β) → Option β) (jq141 : (a0 : Int) → (c0 : List Int) → (k : Bool → Option β) → Option β) (jq142 : (a0 : Int) → (c0 : Int) → (c1 : Int) → (k : Bool → Option β) → Option β) : Env β := ⟨[(45, VS45 N jq91), (137, VS137 N jq140), (138, VS138 N jq145 jq141 jq142), (139, VS139 N jq141)], [], [], [], ⟨[], [], []⟩⟩
def E80 {β : Type} (N : Nat) : Env β := VE80 N (j91 N) (j140 N) (j145 N) (j141 N) (j142 N)
def jb146 {β : Type} (N : Nat) (jq91 : (a0 : Int) → (a1 : Int) → (k : Bool → Option β) → Option β) (jq140 : (a0 : Int) → (a1 : Int) → (k : List Int → Option β) → Option β) (jq145 : (a0 : Int) → (a1 : (Int → (Bool → Option β) → Option β)) → (k : Int → Option β) → Option β) (jq141 : (a0 : Int) → (c0 : List Int) → (k : Bool → Option β) → Option β) (a0 : Int) (a1 : Int) (k : Int → Option β) : Option β :=
jq91 a0 a1 fun r3 =>
(cond (!r3)
(k (-2))
(jq140 a0 a1 fun r4 =>
jq145 a0 (fun x0 k => jq141 x0 r4 k) fun r5 =>
k r5))
theorem jt146 {β : Type} (N : Nat) (a0 : Int) (a1 : Int) (k : Int → Option β) : j146 N a0 a1 k = jb146 N (j91 N) (j140 N) (j145 N) (j141 N) a0 a1 k := by
  unfold j146 jb146
  rfl
theorem ve80_0 {β : Type} (N : Nat) (jq91 : (a0 : Int) → (a1 : Int) → (k : Bool → Option β) → Option β) (jq140 : (a0 : Int) → (a1 : Int) → (k : List Int → Option β) → Option β) (jq145 : (a0 : Int) → (a1 : (Int → (Bool → Option β) → Option β)) → (k : Int → Option β) → Option β) (jq141 : (a0 : Int) → (c0 : List Int) → (k : Bool → Option β) → Option β) (jq142 : (a0 : Int) → (c0 : Int) → (c1 : Int) → (k : Bool → Option β) → Option β)  (a0 : Int) (a1 : Int) (K : TV → Option β) : evFn lay (VE80 N jq91 jq140 jq145 jq141 jq142) Tryz.f80 [.v (.agg [.int .i64 a0, .int .i64 a1])] K = jb146 N jq91 jq140 jq145 jq141 a0 a1 (fun z2 => K (.v (.one (.int .i64 z2)))) := by kernel_rfl
theorem e80_0 {β : Type} (N : Nat)  (a0 : Int) (a1 : Int) (K : TV → Option β) : evFn lay (E80 N) Tryz.f80 [.v (.agg [.int .i64 a0, .int .i64 a1])] K = j146 N a0 a1 (fun z2 => K (.v (.one (.int .i64 z2)))) := (ve80_0 N (j91 N) (j140 N) (j145 N) (j141 N) (j142 N) a0 a1 K).trans (jt146 N a0 a1 (fun z2 => K (.v (.one (.int .i64 z2))))).symm
theorem o80 {β : Type} (N : Nat) : SpecOK (β := β) inv Tryz.prog 80 (S80 N) := by
  refine spec_of lay_ok mixed (E := E80 N) (specs_loops (specs_cons (o45 N) (specs_cons (o137 N) (specs_cons (o138 N) (specs_cons (o139 N) specs_nil))))) muts_nil gs_nil Tryz.func80 (by kernel_rfl) 0 (by kernel_rfl) trivial fun args K r h => ?_
  unfold S80 VS80 at h
  split at h
  · exact (e80_0 N _ _ _).trans h
  · cases h
def VS201 {β : Type} (N : Nat) (jq149 : (a0 : Int) → (c0 : Int) → (c1 : Int) → (k : Bool → Option β) → Option β) : Rv.Spec β := fun args K => match args with
  | [.v (.one (.int .i64 a0)), .v (.one (.cref [.int .i64 c0, .int .i64 c1] 0))] => jq149 a0 c0 c1 (fun z1 => K (.v (.one (.bool z1))))
  | _ => none
def S201 {β : Type} (N : Nat) : Rv.Spec β := VS201 N (j149 N)
def h201_0_0  (v0 : Int) (v1 : Int) (v2 : Int) (v3 : Int) (v4 : Int) (v5 : Int) : St := ⟨.v (.one (.int .i64 v0)) :: .v (.one (.cref [.int .i64 v1, .int .i64 v2] 0)) :: tund :: tund :: .v (.one (.int .i64 v3)) :: tund :: tund :: .v (.one (.int .i64 v4)) :: .v (.one (.int .i64 v5)) :: tund :: tund :: tund :: tund :: tund :: tund :: tund :: tund :: tund :: tund :: tund :: tund :: tund :: tund :: [], []⟩
def x201_0_0_k0  (y0 : Int) : St := ⟨tund :: tund :: tund :: tund :: .v (.one (.int .i64 y0)) :: tund :: tund :: tund :: tund :: tund :: tund :: tund :: tund :: tund :: tund :: tund :: tund :: tund :: tund :: tund :: tund :: tund :: tund :: [], []⟩
theorem fl201_0_0 (s : St) : refSt (h201_0_0 0 0 0 0 0 0) s = h201_0_0 (intS (oneA (vT (nx tund s.tmps 0)))) (intF (nx .no (crefS (oneA (vT (nx tund s.tmps 1)))) 0)) (intF (nx .no (crefS (oneA (vT (nx tund s.tmps 1)))) 1)) (intS (oneA (vT (nx tund s.tmps 4)))) (intS (oneA (vT (nx tund s.tmps 7)))) (intS (oneA (vT (nx tund s.tmps 8)))) := by kernel_rfl
def VLS201_0 {β : Type} (N : Nat) (jq148 : Nat → Int → Int → Int → Int → Int → Int → (Int → Option β) → Option β) : LSpec β := fun s K => cond (shpSt (h201_0_0 0 0 0 0 0 0) s) ((fun (v0 : Int) (v1 : Int) (v2 : Int) (v3 : Int) (v4 : Int) (v5 : Int) => jq148  N v0 v1 v2 v3 v4 v5 (fun y0 => K (.exit 0) (x201_0_0_k0  y0))) (intS (oneA (vT (nx tund s.tmps 0)))) (intF (nx .no (crefS (oneA (vT (nx tund s.tmps 1)))) 0)) (intF (nx .no (crefS (oneA (vT (nx tund s.tmps 1)))) 1)) (intS (oneA (vT (nx tund s.tmps 4)))) (intS (oneA (vT (nx tund s.tmps 7)))) (intS (oneA (vT (nx tund s.tmps 8))))) (none)
def LS201_0 {β : Type} (N : Nat) : LSpec β := VLS201_0 N (j148 N)
def VE201 {β : Type} (N : Nat) (jq90 : (a0 : Int) → (a1 : Int) → (k : Int → Option β) → Option β) (jq94 : (a0 : Int) → (a1 : Int) → (a2 : Int) → (k : Int → Option β) → Option β) (jq148 : Nat → Int → Int → Int → Int → Int → Int → (Int → Option β) → Option β) : Env β := ⟨[(100, VS100 N jq90), (103, VS103 N jq94)], [], [(0, VLS201_0 N jq148)], [], ⟨[], [], []⟩⟩
def E201 {β : Type} (N : Nat) : Env β := VE201 N (j90 N) (j94 N) (j148 N)
def jb147 {β : Type} (N : Nat) (jq94 : (a0 : Int) → (a1 : Int) → (a2 : Int) → (k : Int → Option β) → Option β)  (v0 : Int) (v1 : Int) (v2 : Int) (v3 : Int) (v4 : Int) (v5 : Int) (rec_ : Int → Int → Int → Int → Int → Int → Option β) (k0 : Int → Option β) : Option β :=
(cond ((decide (v5 < v4)))
((cond (((bits .andNot .i64 v5 v0) == 0))
(jq94 v1 v2 v5 fun r3 =>
rec_ v0 v1 v2 ((bits .xor .i64 v3 r3)) v4 ((w64 (v5 + 1))))
(rec_ v0 v1 v2 v3 v4 ((w64 (v5 + 1))))))
(k0 v3))
theorem jt147 {β : Type} (N : Nat)  (v0 : Int) (v1 : Int) (v2 : Int) (v3 : Int) (v4 : Int) (v5 : Int) (rec_ : Int → Int → Int → Int → Int → Int → Option β) (k0 : Int → Option β) : j147 N v0 v1 v2 v3 v4 v5 rec_ k0 = jb147 N (j94 N) v0 v1 v2 v3 v4 v5 rec_ k0 := by
  unfold j147 jb147
  rfl
theorem vst201_0_0 {β : Type} (N : Nat) (jq90 : (a0 : Int) → (a1 : Int) → (k : Int → Option β) → Option β) (jq94 : (a0 : Int) → (a1 : Int) → (a2 : Int) → (k : Int → Option β) → Option β) (jq148 : Nat → Int → Int → Int → Int → Int → Int → (Int → Option β) → Option β)  (v0 : Int) (v1 : Int) (v2 : Int) (v3 : Int) (v4 : Int) (v5 : Int) (rec_ : St → Option β) (K : Exit → St → Option β) :
    ev lay (VE201 N jq90 jq94 jq148) (retMask Tryz.f201) (lp Tryz.f201 0).body (lp Tryz.f201 0).ex ((lp Tryz.f201 0).lv (retMask Tryz.f201)) (h201_0_0  v0 v1 v2 v3 v4 v5) (nextR (fun s' => rec_ (s'.tidy ((lp Tryz.f201 0).lv (retMask Tryz.f201)))) K) = jb147 N jq94  v0 v1 v2 v3 v4 v5 (fun v0 v1 v2 v3 v4 v5 => rec_ (h201_0_0  v0 v1 v2 v3 v4 v5)) (fun y0 => K (.exit 0) (x201_0_0_k0  y0)) := by kernel_rfl
theorem st201_0_0 {β : Type} (N : Nat)  (v0 : Int) (v1 : Int) (v2 : Int) (v3 : Int) (v4 : Int) (v5 : Int) (rec_ : St → Option β) (K : Exit → St → Option β) :
    ev lay (E201 N) (retMask Tryz.f201) (lp Tryz.f201 0).body (lp Tryz.f201 0).ex ((lp Tryz.f201 0).lv (retMask Tryz.f201)) (h201_0_0  v0 v1 v2 v3 v4 v5) (nextR (fun s' => rec_ (s'.tidy ((lp Tryz.f201 0).lv (retMask Tryz.f201)))) K) = j147 N  v0 v1 v2 v3 v4 v5 (fun v0 v1 v2 v3 v4 v5 => rec_ (h201_0_0  v0 v1 v2 v3 v4 v5)) (fun y0 => K (.exit 0) (x201_0_0_k0  y0)) := (vst201_0_0 N (j90 N) (j94 N) (j148 N) v0 v1 v2 v3 v4 v5 rec_ K).trans (jt147 N  v0 v1 v2 v3 v4 v5 (fun v0 v1 v2 v3 v4 v5 => rec_ (h201_0_0  v0 v1 v2 v3 v4 v5)) (fun y0 => K (.exit 0) (x201_0_0_k0  y0))).symm
theorem ro201_0_0 {β : Type} (N : Nat)  (K : Exit → St → Option β) : ∀ (F : Nat) (v0 : Int) (v1 : Int) (v2 : Int) (v3 : Int) (v4 : Int) (v5 : Int), (lp Tryz.f201 0).rounds lay (E201 N) (retMask Tryz.f201) F (h201_0_0  v0 v1 v2 v3 v4 v5) K = j148 N  F v0 v1 v2 v3 v4 v5 (fun y0 => K (.exit 0) (x201_0_0_k0  y0)) := by
  intro F
  induction F with
  | zero => intros; rfl
  | succ F ih =>
    intros
    rw [rounds_next]
    refine (st201_0_0 N  _ _ _ _ _ _ (fun s => (lp Tryz.f201 0).rounds lay (E201 N) (retMask Tryz.f201) F s K) K).trans ?_
    simp only [ih]
    rfl
theorem lk201_0 {β : Type} (N : Nat) : lookL (E201 (β := β) N).loops (lp Tryz.f201 0).id = LS201_0 N := by kernel_rfl
theorem rk201_0 {β : Type} (N : Nat) : RoundsOK lay (E201 (β := β) N) (retMask Tryz.f201) (lp Tryz.f201 0) := by
  intro s K r h
  rw [lk201_0] at h
  unfold LS201_0 VLS201_0 at h
  cases hb : shpSt (h201_0_0 0 0 0 0 0 0) s with
  | true =>
    rw [hb, cond_true] at h
    exact ⟨N, by rw [← shpSt_ref hb, fl201_0_0 s]; exact (ro201_0_0 N  K N (intS (oneA (vT (nx tund s.tmps 0)))) (intF (nx .no (crefS (oneA (vT (nx tund s.tmps 1)))) 0)) (intF (nx .no (crefS (oneA (vT (nx tund s.tmps 1)))) 1)) (intS (oneA (vT (nx tund s.tmps 4)))) (intS (oneA (vT (nx tund s.tmps 7)))) (intS (oneA (vT (nx tund s.tmps 8))))).trans h⟩
  | false =>
  rw [hb, cond_false] at h
  clear hb
  cases h
def jb149 {β : Type} (N : Nat) (jq90 : (a0 : Int) → (a1 : Int) → (k : Int → Option β) → Option β) (jq148 : Nat → Int → Int → Int → Int → Int → Int → (Int → Option β) → Option β) (a0 : Int) (c0 : Int) (c1 : Int) (k : Bool → Option β) : Option β :=
jq90 c0 c1 fun r2 =>
jq148  N a0 c0 c1 0 r2 0 (fun e4_0 =>
k ((e4_0 == 1)))
theorem jt149 {β : Type} (N : Nat) (a0 : Int) (c0 : Int) (c1 : Int) (k : Bool → Option β) : j149 N a0 c0 c1 k = jb149 N (j90 N) (j148 N) a0 c0 c1 k := by
  unfold j149 jb149
  rfl
theorem ve201_0 {β : Type} (N : Nat) (jq90 : (a0 : Int) → (a1 : Int) → (k : Int → Option β) → Option β) (jq94 : (a0 : Int) → (a1 : Int) → (a2 : Int) → (k : Int → Option β) → Option β) (jq148 : Nat → Int → Int → Int → Int → Int → Int → (Int → Option β) → Option β)  (a0 : Int) (c0 : Int) (c1 : Int) (K : TV → Option β) : evFn lay (VE201 N jq90 jq94 jq148) Tryz.f201 [.v (.one (.int .i64 a0)), .v (.one (.cref [.int .i64 c0, .int .i64 c1] 0))] K = jb149 N jq90 jq148 a0 c0 c1 (fun z1 => K (.v (.one (.bool z1)))) := by kernel_rfl
theorem e201_0 {β : Type} (N : Nat)  (a0 : Int) (c0 : Int) (c1 : Int) (K : TV → Option β) : evFn lay (E201 N) Tryz.f201 [.v (.one (.int .i64 a0)), .v (.one (.cref [.int .i64 c0, .int .i64 c1] 0))] K = j149 N a0 c0 c1 (fun z1 => K (.v (.one (.bool z1)))) := (ve201_0 N (j90 N) (j94 N) (j148 N) a0 c0 c1 K).trans (jt149 N a0 c0 c1 (fun z1 => K (.v (.one (.bool z1))))).symm
theorem o201 {β : Type} (N : Nat) : SpecOK (β := β) inv Tryz.prog 201 (S201 N) := by
  refine spec_of lay_ok mixed (E := E201 N) (specs_loops (specs_cons (o100 N) (specs_cons (o103 N) specs_nil))) muts_nil gs_nil Tryz.func201 (by kernel_rfl) 1 (by kernel_rfl) ⟨trivial, rk201_0 N⟩ fun args K r h => ?_
  unfold S201 VS201 at h
  split at h
  · exact (e201_0 N _ _ _ _).trans h
  · cases h
def VS156 {β : Type} (N : Nat) (jq152 : (a0 : Int) → (a1 : (Int → (Bool → Option β) → Option β)) → (k : Int → Int → Option β) → Option β) (jq149 : (a0 : Int) → (c0 : Int) → (c1 : Int) → (k : Bool → Option β) → Option β) : Rv.Spec β := fun args K => match args with
  | [.v (.one (.int .i64 a0)), .v (.one (.dfn 201 [([.int .i64 q0, .int .i64 q1], 0)]))] => jq152 a0 (fun x0 k => jq149 x0 q0 q1 k) (fun z2 z3 => K (.v (.agg [.int .i64 z2, .int .i64 z3])))
  | _ => none
def S156 {β : Type} (N : Nat) : Rv.Spec β := VS156 N (j152 N) (j149 N)
def h156_0_0 (q0 : Int) (q1 : Int) (v0 : Int) (v1 : Int) (v2 : Int) (v3 : Int) (v4 : Int) (v5 : Int) : St := ⟨tund :: .v (.one (.dfn 201 [([.int .i64 q0, .int .i64 q1], 0)])) :: tund :: tund :: .v (.one (.ptr 0 0)) :: .v (.one (.ptr 1 0)) :: tund :: tund :: tund :: tund :: .v (.one (.int .i64 v0)) :: .v (.one (.int .i64 v1)) :: tund :: tund :: tund :: tund :: tund :: tund :: tund :: tund :: tund :: tund :: tund :: tund :: tund :: [], [.cells 25 [.int .i64 v2, .int .i64 v3], .cells 25 [.int .i64 v4, .int .i64 v5]]⟩
def x156_0_0_k0 (q0 : Int) (q1 : Int) (y0 : Int) (y1 : Int) (y2 : Int) (y3 : Int) : St := ⟨tund :: tund :: tund :: tund :: .v (.one (.ptr 0 0)) :: .v (.one (.ptr 1 0)) :: tund :: tund :: tund :: tund :: tund :: tund :: tund :: tund :: tund :: tund :: tund :: tund :: tund :: tund :: tund :: tund :: tund :: tund :: tund :: [], [.cells 25 [.int .i64 y0, .int .i64 y1], .cells 25 [.int .i64 y2, .int .i64 y3]]⟩
theorem fl156_0_0 (s : St) : refSt (h156_0_0 0 0 0 0 0 0 0 0) s = h156_0_0 (intF (nx .no (nx ([], 0) (dfnS (oneA (vT (nx tund s.tmps 1)))) 0).1 0)) (intF (nx .no (nx ([], 0) (dfnS (oneA (vT (nx tund s.tmps 1)))) 0).1 1)) (intS (oneA (vT (nx tund s.tmps 10)))) (intS (oneA (vT (nx tund s.tmps 11)))) (intS (nx .und (cellsB (nx .dead s.blks 0)) 0)) (intS (nx .und (cellsB (nx .dead s.blks 0)) 1)) (intS (nx .und (cellsB (nx .dead s.blks 1)) 0)) (intS (nx .und (cellsB (nx .dead s.blks 1)) 1)) := by kernel_rfl
def VLS156_0 {β : Type} (N : Nat) (jq151 : (a1 : (Int → (Bool → Option β) → Option β)) → Nat → Int → Int → Int → Int → Int → Int → (Int → Int → Int → Int → Option β) → Option β) (jq149 : (a0 : Int) → (c0 : Int) → (c1 : Int) → (k : Bool → Option β) → Option β) : LSpec β := fun s K => cond (shpSt (h156_0_0 0 0 0 0 0 0 0 0) s) ((fun (q0 : Int) (q1 : Int) (v0 : Int) (v1 : Int) (v2 : Int) (v3 : Int) (v4 : Int) (v5 : Int) => jq151 (fun x0 k => jq149 x0 q0 q1 k) N v0 v1 v2 v3 v4 v5 (fun y0 y1 y2 y3 => K (.exit 0) (x156_0_0_k0 q0 q1 y0 y1 y2 y3))) (intF (nx .no (nx ([], 0) (dfnS (oneA (vT (nx tund s.tmps 1)))) 0).1 0)) (intF (nx .no (nx ([], 0) (dfnS (oneA (vT (nx tund s.tmps 1)))) 0).1 1)) (intS (oneA (vT (nx tund s.tmps 10)))) (intS (oneA (vT (nx tund s.tmps 11)))) (intS (nx .und (cellsB (nx .dead s.blks 0)) 0)) (intS (nx .und (cellsB (nx .dead s.blks 0)) 1)) (intS (nx .und (cellsB (nx .dead s.blks 1)) 0)) (intS (nx .und (cellsB (nx .dead s.blks 1)) 1))) (none)
def LS156_0 {β : Type} (N : Nat) : LSpec β := VLS156_0 N (j151 N) (j149 N)
def VE156 {β : Type} (N : Nat) (jq149 : (a0 : Int) → (c0 : Int) → (c1 : Int) → (k : Bool → Option β) → Option β) (jq151 : (a1 : (Int → (Bool → Option β) → Option β)) → Nat → Int → Int → Int → Int → Int → Int → (Int → Int → Int → Int → Option β) → Option β) : Env β := ⟨[(201, VS201 N jq149)], [], [(0, VLS156_0 N jq151 jq149)], [], ⟨[], [], []⟩⟩
def E156 {β : Type} (N : Nat) : Env β := VE156 N (j149 N) (j151 N)
def jb150 {β : Type} (N : Nat) (a1 : (Int → (Bool → Option β) → Option β)) (v0 : Int) (v1 : Int) (v2 : Int) (v3 : Int) (v4 : Int) (v5 : Int) (rec_ : Int → Int → Int → Int → Int → Int → Option β) (k0 : Int → Int → Int → Int → Option β) : Option β :=
(cond ((decide (v1 < v0)))
(a1 v1 fun r4 =>
(cond r4
((gd ((decide (0 ≤ v1)))
(rec_ v0 ((w64 (v1 + 1))) v2 v3 v4 ((bits .or .i64 v5 (shlI .i64 1 v1))))))
(rec_ v0 ((w64 (v1 + 1))) v2 v3 v4 v5)))
(k0 v2 v3 v4 v5))
theorem jt150 {β : Type} (N : Nat) (a1 : (Int → (Bool → Option β) → Option β)) (v0 : Int) (v1 : Int) (v2 : Int) (v3 : Int) (v4 : Int) (v5 : Int) (rec_ : Int → Int → Int → Int → Int → Int → Option β) (k0 : Int → Int → Int → Int → Option β) : j150 N a1 v0 v1 v2 v3 v4 v5 rec_ k0 = jb150 N a1 v0 v1 v2 v3 v4 v5 rec_ k0 := by
  unfold j150 jb150
  rfl
theorem vst156_0_0 {β : Type} (N : Nat) (jq149 : (a0 : Int) → (c0 : Int) → (c1 : Int) → (k : Bool → Option β) → Option β) (jq151 : (a1 : (Int → (Bool → Option β) → Option β)) → Nat → Int → Int → Int → Int → Int → Int → (Int → Int → Int → Int → Option β) → Option β) (q0 : Int) (q1 : Int) (v0 : Int) (v1 : Int) (v2 : Int) (v3 : Int) (v4 : Int) (v5 : Int) (rec_ : St → Option β) (K : Exit → St → Option β) :
    ev lay (VE156 N jq149 jq151) (retMask Tryz.f156) (lp Tryz.f156 0).body (lp Tryz.f156 0).ex ((lp Tryz.f156 0).lv (retMask Tryz.f156)) (h156_0_0 q0 q1 v0 v1 v2 v3 v4 v5) (nextR (fun s' => rec_ (s'.tidy ((lp Tryz.f156 0).lv (retMask Tryz.f156)))) K) = jb150 N (fun x0 k => jq149 x0 q0 q1 k) v0 v1 v2 v3 v4 v5 (fun v0 v1 v2 v3 v4 v5 => rec_ (h156_0_0 q0 q1 v0 v1 v2 v3 v4 v5)) (fun y0 y1 y2 y3 => K (.exit 0) (x156_0_0_k0 q0 q1 y0 y1 y2 y3)) := by kernel_rfl
theorem st156_0_0 {β : Type} (N : Nat) (q0 : Int) (q1 : Int) (v0 : Int) (v1 : Int) (v2 : Int) (v3 : Int) (v4 : Int) (v5 : Int) (rec_ : St → Option β) (K : Exit → St → Option β) :
    ev lay (E156 N) (retMask Tryz.f156) (lp Tryz.f156 0).body (lp Tryz.f156 0).ex ((lp Tryz.f156 0).lv (retMask Tryz.f156)) (h156_0_0 q0 q1 v0 v1 v2 v3 v4 v5) (nextR (fun s' => rec_ (s'.tidy ((lp Tryz.f156 0).lv (retMask Tryz.f156)))) K) = j150 N (fun x0 k => j149 N x0 q0 q1 k) v0 v1 v2 v3 v4 v5 (fun v0 v1 v2 v3 v4 v5 => rec_ (h156_0_0 q0 q1 v0 v1 v2 v3 v4 v5)) (fun y0 y1 y2 y3 => K (.exit 0) (x156_0_0_k0 q0 q1 y0 y1 y2 y3)) := (vst156_0_0 N (j149 N) (j151 N) q0 q1 v0 v1 v2 v3 v4 v5 rec_ K).trans (jt150 N (fun x0 k => j149 N x0 q0 q1 k) v0 v1 v2 v3 v4 v5 (fun v0 v1 v2 v3 v4 v5 => rec_ (h156_0_0 q0 q1 v0 v1 v2 v3 v4 v5)) (fun y0 y1 y2 y3 => K (.exit 0) (x156_0_0_k0 q0 q1 y0 y1 y2 y3))).symm
theorem ro156_0_0 {β : Type} (N : Nat) (q0 : Int) (q1 : Int) (K : Exit → St → Option β) : ∀ (F : Nat) (v0 : Int) (v1 : Int) (v2 : Int) (v3 : Int) (v4 : Int) (v5 : Int), (lp Tryz.f156 0).rounds lay (E156 N) (retMask Tryz.f156) F (h156_0_0 q0 q1 v0 v1 v2 v3 v4 v5) K = j151 N (fun x0 k => j149 N x0 q0 q1 k) F v0 v1 v2 v3 v4 v5 (fun y0 y1 y2 y3 => K (.exit 0) (x156_0_0_k0 q0 q1 y0 y1 y2 y3)) := by
  intro F
  induction F with
  | zero => intros; rfl
  | succ F ih =>
    intros
    rw [rounds_next]
    refine (st156_0_0 N q0 q1 _ _ _ _ _ _ (fun s => (lp Tryz.f156 0).rounds lay (E156 N) (retMask Tryz.f156) F s K) K).trans ?_
    simp only [ih]
    rfl
theorem lk156_0 {β : Type} (N : Nat) : lookL (E156 (β := β) N).loops (lp Tryz.f156 0).id = LS156_0 N := by kernel_rfl
theorem rk156_0 {β : Type} (N : Nat) : RoundsOK lay (E156 (β := β) N) (retMask Tryz.f156) (lp Tryz.f156 0) := by
  intro s K r h
  rw [lk156_0] at h
  unfold LS156_0 VLS156_0 at h
  cases hb : shpSt (h156_0_0 0 0 0 0 0 0 0 0) s with
  | true =>
    rw [hb, cond_true] at h
    exact ⟨N, by rw [← shpSt_ref hb, fl156_0_0 s]; exact (ro156_0_0 N (intF (nx .no (nx ([], 0) (dfnS (oneA (vT (nx tund s.tmps 1)))) 0).1 0)) (intF (nx .no (nx ([], 0) (dfnS (oneA (vT (nx tund s.tmps 1)))) 0).1 1)) K N (intS (oneA (vT (nx tund s.tmps 10)))) (intS (oneA (vT (nx tund s.tmps 11)))) (intS (nx .und (cellsB (nx .dead s.blks 0)) 0)) (intS (nx .und (cellsB (nx .dead s.blks 0)) 1)) (intS (nx .und (cellsB (nx .dead s.blks 1)) 0)) (intS (nx .und (cellsB (nx .dead s.blks 1)) 1))).trans h⟩
  | false =>
  rw [hb, cond_false] at h
  clear hb
  cases h
def jb152 {β : Type} (N : Nat) (jq151 : (a1 : (Int → (Bool → Option β) → Option β)) → Nat → Int → Int → Int → Int → Int → Int → (Int → Int → Int → Int → Option β) → Option β) (a0 : Int) (a1 : (Int → (Bool → Option β) → Option β)) (k : Int → Int → Option β) : Option β :=
(gd ((decide (0 ≤ a0)))
(jq151 a1 N ((shlI .i64 1 a0)) 0 0 0 a0 0 (fun e5_0 e5_1 e5_2 e5_3 =>
k e5_2 e5_3)))
theorem jt152 {β : Type} (N : Nat) (a0 : Int) (a1 : (Int → (Bool → Option β) → Option β)) (k : Int → Int → Option β) : j152 N a0 a1 k = jb152 N (j151 N) a0 a1 k := by
  unfold j152 jb152
  rfl
theorem ve156_0 {β : Type} (N : Nat) (jq149 : (a0 : Int) → (c0 : Int) → (c1 : Int) → (k : Bool → Option β) → Option β) (jq151 : (a1 : (Int → (Bool → Option β) → Option β)) → Nat → Int → Int → Int → Int → Int → Int → (Int → Int → Int → Int → Option β) → Option β) (q0 : Int) (q1 : Int) (a0 : Int) (K : TV → Option β) : evFn lay (VE156 N jq149 jq151) Tryz.f156 [.v (.one (.int .i64 a0)), .v (.one (.dfn 201 [([.int .i64 q0, .int .i64 q1], 0)]))] K = jb152 N jq151 a0 (fun x0 k => jq149 x0 q0 q1 k) (fun z2 z3 => K (.v (.agg [.int .i64 z2, .int .i64 z3]))) := by kernel_rfl
theorem e156_0 {β : Type} (N : Nat) (q0 : Int) (q1 : Int) (a0 : Int) (K : TV → Option β) : evFn lay (E156 N) Tryz.f156 [.v (.one (.int .i64 a0)), .v (.one (.dfn 201 [([.int .i64 q0, .int .i64 q1], 0)]))] K = j152 N a0 (fun x0 k => j149 N x0 q0 q1 k) (fun z2 z3 => K (.v (.agg [.int .i64 z2, .int .i64 z3]))) := (ve156_0 N (j149 N) (j151 N) q0 q1 a0 K).trans (jt152 N a0 (fun x0 k => j149 N x0 q0 q1 k) (fun z2 z3 => K (.v (.agg [.int .i64 z2, .int .i64 z3])))).symm
theorem o156 {β : Type} (N : Nat) : SpecOK (β := β) inv Tryz.prog 156 (S156 N) := by
  refine spec_of lay_ok mixed (E := E156 N) (specs_loops (specs_cons (o201 N) specs_nil)) muts_nil gs_nil Tryz.func156 (by kernel_rfl) 1 (by kernel_rfl) ⟨trivial, rk156_0 N⟩ fun args K r h => ?_
  unfold S156 VS156 at h
  split at h
  · exact (e156_0 N _ _ _ _).trans h
  · cases h
def VS140 {β : Type} (N : Nat) (jq153 : (a0 : Int) → (a1 : Int) → (k : Int → Int → Option β) → Option β) : Rv.Spec β := fun args K => match args with
  | [.v (.agg [.int .i64 a0, .int .i64 a1])] => jq153 a0 a1 (fun z2 z3 => K (.v (.agg [.int .i64 z2, .int .i64 z3])))
  | _ => none
def S140 {β : Type} (N : Nat) : Rv.Spec β := VS140 N (j153 N)
def VE140 {β : Type} (N : Nat) (jq152 : (a0 : Int) → (a1 : (Int → (Bool → Option β) → Option β)) → (k : Int → Int → Option β) → Option β) (jq149 : (a0 : Int) → (c0 : Int) → (c1 : Int) → (k : Bool → Option β) → Option β) : Env β := ⟨[(156, VS156 N jq152 jq149), (201, VS201 N jq149)], [], [], [], ⟨[], [], []⟩⟩
def E140 {β : Type} (N : Nat) : Env β := VE140 N (j152 N) (j149 N)
def jb153 {β : Type} (N : Nat) (jq152 : (a0 : Int) → (a1 : (Int → (Bool → Option β) → Option β)) → (k : Int → Int → Option β) → Option β) (jq149 : (a0 : Int) → (c0 : Int) → (c1 : Int) → (k : Bool → Option β) → Option β) (a0 : Int) (a1 : Int) (k : Int → Int → Option β) : Option β :=
jq152 a0 (fun x0 k => jq149 x0 a0 a1 k) fun r4 r5 =>
k r4 r5
theorem jt153 {β : Type} (N : Nat) (a0 : Int) (a1 : Int) (k : Int → Int → Option β) : j153 N a0 a1 k = jb153 N (j152 N) (j149 N) a0 a1 k := by
  unfold j153 jb153
  rfl
theorem ve140_0 {β : Type} (N : Nat) (jq152 : (a0 : Int) → (a1 : (Int → (Bool → Option β) → Option β)) → (k : Int → Int → Option β) → Option β) (jq149 : (a0 : Int) → (c0 : Int) → (c1 : Int) → (k : Bool → Option β) → Option β)  (a0 : Int) (a1 : Int) (K : TV → Option β) : evFn lay (VE140 N jq152 jq149) Tryz.f140 [.v (.agg [.int .i64 a0, .int .i64 a1])] K = jb153 N jq152 jq149 a0 a1 (fun z2 z3 => K (.v (.agg [.int .i64 z2, .int .i64 z3]))) := by kernel_rfl
theorem e140_0 {β : Type} (N : Nat)  (a0 : Int) (a1 : Int) (K : TV → Option β) : evFn lay (E140 N) Tryz.f140 [.v (.agg [.int .i64 a0, .int .i64 a1])] K = j153 N a0 a1 (fun z2 z3 => K (.v (.agg [.int .i64 z2, .int .i64 z3]))) := (ve140_0 N (j152 N) (j149 N) a0 a1 K).trans (jt153 N a0 a1 (fun z2 z3 => K (.v (.agg [.int .i64 z2, .int .i64 z3])))).symm
theorem o140 {β : Type} (N : Nat) : SpecOK (β := β) inv Tryz.prog 140 (S140 N) := by
  refine spec_of lay_ok mixed (E := E140 N) (specs_loops (specs_cons (o156 N) (specs_cons (o201 N) specs_nil))) muts_nil gs_nil Tryz.func140 (by kernel_rfl) 0 (by kernel_rfl) trivial fun args K r h => ?_
  unfold S140 VS140 at h
  split at h
  · exact (e140_0 N _ _ _).trans h
  · cases h
def VS81 {β : Type} (N : Nat) (jq154 : (a0 : Int) → (a1 : Int) → (k : Int → Option β) → Option β) : Rv.Spec β := fun args K => match args with
  | [.v (.agg [.int .i64 a0, .int .i64 a1])] => jq154 a0 a1 (fun z2 => K (.v (.one (.int .i64 z2))))
  | _ => none
def S81 {β : Type} (N : Nat) : Rv.Spec β := VS81 N (j154 N)
def VE81 {β : Type} (N : Nat) (jq91 : (a0 : Int) → (a1 : Int) → (k : Bool → Option β) → Option β) (jq153 : (a0 : Int) → (a1 : Int) → (k : Int → Int → Option β) → Option β) (jq145 : (a0 : Int) → (a1 : (Int → (Bool → Option β) → Option β)) → (k : Int → Option β) → Option β) (jq141 : (a0 : Int) → (c0 : List Int) → (k : Bool → Option β) → Option β) (jq142 : (a0 : Int) → (c0 : Int) → (c1 : Int) → (k : Bool → Option β) → Option β) : Env β := ⟨[(45, VS45 N jq91), (140, VS140 N jq153), (138, VS138 N jq145 jq141 jq142), (141, VS141 N jq142)], [], [], [], ⟨[], [], []⟩⟩
def E81 {β : Type} (N : Nat) : Env β := VE81 N (j91 N) (j153 N) (j145 N) (j141 N) (j142 N)
def jb154 {β : Type} (N : Nat) (jq91 : (a0 : Int) → (a1 : Int) → (k : Bool → Option β) → Option β) (jq153 : (a0 : Int) → (a1 : Int) → (k : Int → Int → Option β) → Option β) (jq145 : (a0 : Int) → (a1 : (Int → (Bool → Option β) → Option β)) → (k : Int → Option β) → Option β) (jq142 : (a0 : Int) → (c0 : Int) → (c1 : Int) → (k : Bool → Option β) → Option β) (a0 : Int) (a1 : Int) (k : Int → Option β) : Option β :=
jq91 a0 a1 fun r3 =>
(cond (!r3)
(k (-2))
(jq153 a0 a1 fun r4 r5 =>
jq145 a0 (fun x0 k => jq142 x0 r4 r5 k) fun r6 =>
k r6))
theorem jt154 {β : Type} (N : Nat) (a0 : Int) (a1 : Int) (k : Int → Option β) : j154 N a0 a1 k = jb154 N (j91 N) (j153 N) (j145 N) (j142 N) a0 a1 k := by
  unfold j154 jb154
  rfl
theorem ve81_0 {β : Type} (N : Nat) (jq91 : (a0 : Int) → (a1 : Int) → (k : Bool → Option β) → Option β) (jq153 : (a0 : Int) → (a1 : Int) → (k : Int → Int → Option β) → Option β) (jq145 : (a0 : Int) → (a1 : (Int → (Bool → Option β) → Option β)) → (k : Int → Option β) → Option β) (jq141 : (a0 : Int) → (c0 : List Int) → (k : Bool → Option β) → Option β) (jq142 : (a0 : Int) → (c0 : Int) → (c1 : Int) → (k : Bool → Option β) → Option β)  (a0 : Int) (a1 : Int) (K : TV → Option β) : evFn lay (VE81 N jq91 jq153 jq145 jq141 jq142) Tryz.f81 [.v (.agg [.int .i64 a0, .int .i64 a1])] K = jb154 N jq91 jq153 jq145 jq142 a0 a1 (fun z2 => K (.v (.one (.int .i64 z2)))) := by kernel_rfl
theorem e81_0 {β : Type} (N : Nat)  (a0 : Int) (a1 : Int) (K : TV → Option β) : evFn lay (E81 N) Tryz.f81 [.v (.agg [.int .i64 a0, .int .i64 a1])] K = j154 N a0 a1 (fun z2 => K (.v (.one (.int .i64 z2)))) := (ve81_0 N (j91 N) (j153 N) (j145 N) (j141 N) (j142 N) a0 a1 K).trans (jt154 N a0 a1 (fun z2 => K (.v (.one (.int .i64 z2))))).symm
theorem o81 {β : Type} (N : Nat) : SpecOK (β := β) inv Tryz.prog 81 (S81 N) := by
  refine spec_of lay_ok mixed (E := E81 N) (specs_loops (specs_cons (o45 N) (specs_cons (o140 N) (specs_cons (o138 N) (specs_cons (o141 N) specs_nil))))) muts_nil gs_nil Tryz.func81 (by kernel_rfl) 0 (by kernel_rfl) trivial fun args K r h => ?_
  unfold S81 VS81 at h
  split at h
  · exact (e81_0 N _ _ _).trans h
  · cases h
def VS48 {β : Type} (N : Nat) (jq155 : (a0 : Int) → (a1 : Int) → (k : Int → Option β) → Option β) : Rv.Spec β := fun args K => match args with
  | [.v (.agg [.int .i64 a0, .int .i64 a1])] => jq155 a0 a1 (fun z2 => K (.v (.one (.int .i64 z2))))
  | _ => none
def S48 {β : Type} (N : Nat) : Rv.Spec β := VS48 N (j155 N)
def VE48 {β : Type} (N : Nat) (jq91 : (a0 : Int) → (a1 : Int) → (k : Bool → Option β) → Option β) (jq117 : (a0 : Int) → (k : Int → Option β) → Option β) : Env β := ⟨[(45, VS45 N jq91), (104, VS104 N jq117)], [], [], [], ⟨[], [], []⟩⟩
def E48 {β : Type} (N : Nat) : Env β := VE48 N (j91 N) (j117 N)
def jb155 {β : Type} (N : Nat) (jq91 : (a0 : Int) → (a1 : Int) → (k : Bool → Option β) → Option β) (jq117 : (a0 : Int) → (k : Int → Option β) → Option β) (a0 : Int) (a1 : Int) (k : Int → Option β) : Option β :=
jq91 a0 a1 fun r3 =>
(cond (!r3)
(k (-1))
(jq117 a1 fun r4 =>
k r4))
theorem jt155 {β : Type} (N : Nat) (a0 : Int) (a1 : Int) (k : Int → Option β) : j155 N a0 a1 k = jb155 N (j91 N) (j117 N) a0 a1 k := by
  unfold j155 jb155
  rfl
theorem ve48_0 {β : Type} (N : Nat) (jq91 : (a0 : Int) → (a1 : Int) → (k : Bool → Option β) → Option β) (jq117 : (a0 : Int) → (k : Int → Option β) → Option β)  (a0 : Int) (a1 : Int) (K : TV → Option β) : evFn lay (VE48 N jq91 jq117) Tryz.f48 [.v (.agg [.int .i64 a0, .int .i64 a1])] K = jb155 N jq91 jq117 a0 a1 (fun z2 => K (.v (.one (.int .i64 z2)))) := by kernel_rfl
theorem e48_0 {β : Type} (N : Nat)  (a0 : Int) (a1 : Int) (K : TV → Option β) : evFn lay (E48 N) Tryz.f48 [.v (.agg [.int .i64 a0, .int .i64 a1])] K = j155 N a0 a1 (fun z2 => K (.v (.one (.int .i64 z2)))) := (ve48_0 N (j91 N) (j117 N) a0 a1 K).trans (jt155 N a0 a1 (fun z2 => K (.v (.one (.int .i64 z2))))).symm
theorem o48 {β : Type} (N : Nat) : SpecOK (β := β) inv Tryz.prog 48 (S48 N) := by
  refine spec_of lay_ok mixed (E := E48 N) (specs_loops (specs_cons (o45 N) (specs_cons (o104 N) specs_nil))) muts_nil gs_nil Tryz.func48 (by kernel_rfl) 0 (by kernel_rfl) trivial fun args K r h => ?_
  unfold S48 VS48 at h
  split at h
  · exact (e48_0 N _ _ _).trans h
  · cases h
def VS202 {β : Type} (N : Nat) (jq158 : (a0 : Int) → (a1 : Int) → (a2 : Int) → (k : Int → Option β) → Option β) : Rv.Spec β := fun args K => match args with
  | [.v (.agg [.int .i64 a0, .int .i64 a1]), .v (.one (.int .i64 a2))] => jq158 a0 a1 a2 (fun z3 => K (.v (.one (.int .i64 z3))))
  | _ => none
def S202 {β : Type} (N : Nat) : Rv.Spec β := VS202 N (j158 N)
def h202_0_0  (v0 : Int) (v1 : Int) (v2 : Int) (v3 : Int) (v4 : Int) (v5 : Int) : St := ⟨tund :: .v (.one (.int .i64 v0)) :: .v (.one (.ptr 0 0)) :: tund :: tund :: .v (.one (.int .i64 v1)) :: tund :: tund :: .v (.one (.int .i64 v2)) :: .v (.one (.int .i64 v3)) :: tund :: tund :: tund :: tund :: tund :: tund :: tund :: tund :: tund :: tund :: tund :: [], [.cells 25 [.int .i64 v4, .int .i64 v5]]⟩
def x202_0_0_k0  (y0 : Int) : St := ⟨tund :: tund :: tund :: tund :: tund :: .v (.one (.int .i64 y0)) :: tund :: tund :: tund :: tund :: tund :: tund :: tund :: tund :: tund :: tund :: tund :: tund :: tund :: tund :: tund :: [], []⟩
theorem fl202_0_0 (s : St) : refSt (h202_0_0 0 0 0 0 0 0) s = h202_0_0 (intS (oneA (vT (nx tund s.tmps 1)))) (intS (oneA (vT (nx tund s.tmps 5)))) (intS (oneA (vT (nx tund s.tmps 8)))) (intS (oneA (vT (nx tund s.tmps 9)))) (intS (nx .und (cellsB (nx .dead s.blks 0)) 0)) (intS (nx .und (cellsB (nx .dead s.blks 0)) 1)) := by kernel_rfl
def VLS202_0 {β : Type} (N : Nat) (jq157 : Nat → Int → Int → Int → Int → Int → Int → (Int → Option β) → Option β) : LSpec β := fun s K => cond (shpSt (h202_0_0 0 0 0 0 0 0) s) ((fun (v0 : Int) (v1 : Int) (v2 : Int) (v3 : Int) (v4 : Int) (v5 : Int) => jq157  N v0 v1 v2 v3 v4 v5 (fun y0 => K (.exit 0) (x202_0_0_k0  y0))) (intS (oneA (vT (nx tund s.tmps 1)))) (intS (oneA (vT (nx tund s.tmps 5)))) (intS (oneA (vT (nx tund s.tmps 8)))) (intS (oneA (vT (nx tund s.tmps 9)))) (intS (nx .und (cellsB (nx .dead s.blks 0)) 0)) (intS (nx .und (cellsB (nx .dead s.blks 0)) 1))) (none)
def LS202_0 {β : Type} (N : Nat) : LSpec β := VLS202_0 N (j157 N)
def VE202 {β : Type} (N : Nat) (jq90 : (a0 : Int) → (a1 : Int) → (k : Int → Option β) → Option β) (jq95 : (a0 : Int) → (a1 : Int) → (a2 : Int) → (a3 : Int) → (k : Bool → Option β) → Option β) (jq157 : Nat → Int → Int → Int → Int → Int → Int → (Int → Option β) → Option β) : Env β := ⟨[(100, VS100 N jq90), (198, VS198 N jq95)], [], [(0, VLS202_0 N jq157)], [], ⟨[], [], []⟩⟩
def E202 {β : Type} (N : Nat) : Env β := VE202 N (j90 N) (j95 N) (j157 N)
def jb156 {β : Type} (N : Nat) (jq95 : (a0 : Int) → (a1 : Int) → (a2 : Int) → (a3 : Int) → (k : Bool → Option β) → Option β)  (v0 : Int) (v1 : Int) (v2 : Int) (v3 : Int) (v4 : Int) (v5 : Int) (rec_ : Int → Int → Int → Int → Int → Int → Option β) (k0 : Int → Option β) : Option β :=
(cond ((decide (v3 < v2)))
((gd ((decide (0 ≤ v0)))
(jq95 v4 v5 v3 ((shlI .i64 1 v0)) fun r5 =>
(cond r5
(rec_ v0 ((w64 (v1 + 1))) v2 ((w64 (v3 + 1))) v4 v5)
(rec_ v0 v1 v2 ((w64 (v3 + 1))) v4 v5)))))
(k0 v1))
theorem jt156 {β : Type} (N : Nat)  (v0 : Int) (v1 : Int) (v2 : Int) (v3 : Int) (v4 : Int) (v5 : Int) (rec_ : Int → Int → Int → Int → Int → Int → Option β) (k0 : Int → Option β) : j156 N v0 v1 v2 v3 v4 v5 rec_ k0 = jb156 N (j95 N) v0 v1 v2 v3 v4 v5 rec_ k0 := by
  unfold j156 jb156
  rfl
theorem vst202_0_0 {β : Type} (N : Nat) (jq90 : (a0 : Int) → (a1 : Int) → (k : Int → Option β) → Option β) (jq95 : (a0 : Int) → (a1 : Int) → (a2 : Int) → (a3 : Int) → (k : Bool → Option β) → Option β) (jq157 : Nat → Int → Int → Int → Int → Int → Int → (Int → Option β) → Option β)  (v0 : Int) (v1 : Int) (v2 : Int) (v3 : Int) (v4 : Int) (v5 : Int) (rec_ : St → Option β) (K : Exit → St → Option β) :
    ev lay (VE202 N jq90 jq95 jq157) (retMask Tryz.f202) (lp Tryz.f202 0).body (lp Tryz.f202 0).ex ((lp Tryz.f202 0).lv (retMask Tryz.f202)) (h202_0_0  v0 v1 v2 v3 v4 v5) (nextR (fun s' => rec_ (s'.tidy ((lp Tryz.f202 0).lv (retMask Tryz.f202)))) K) = jb156 N jq95  v0 v1 v2 v3 v4 v5 (fun v0 v1 v2 v3 v4 v5 => rec_ (h202_0_0  v0 v1 v2 v3 v4 v5)) (fun y0 => K (.exit 0) (x202_0_0_k0  y0)) := by kernel_rfl
theorem st202_0_0 {β : Type} (N : Nat)  (v0 : Int) (v1 : Int) (v2 : Int) (v3 : Int) (v4 : Int) (v5 : Int) (rec_ : St → Option β) (K : Exit → St → Option β) :
    ev lay (E202 N) (retMask Tryz.f202) (lp Tryz.f202 0).body (lp Tryz.f202 0).ex ((lp Tryz.f202 0).lv (retMask Tryz.f202)) (h202_0_0  v0 v1 v2 v3 v4 v5) (nextR (fun s' => rec_ (s'.tidy ((lp Tryz.f202 0).lv (retMask Tryz.f202)))) K) = j156 N  v0 v1 v2 v3 v4 v5 (fun v0 v1 v2 v3 v4 v5 => rec_ (h202_0_0  v0 v1 v2 v3 v4 v5)) (fun y0 => K (.exit 0) (x202_0_0_k0  y0)) := (vst202_0_0 N (j90 N) (j95 N) (j157 N) v0 v1 v2 v3 v4 v5 rec_ K).trans (jt156 N  v0 v1 v2 v3 v4 v5 (fun v0 v1 v2 v3 v4 v5 => rec_ (h202_0_0  v0 v1 v2 v3 v4 v5)) (fun y0 => K (.exit 0) (x202_0_0_k0  y0))).symm
theorem ro202_0_0 {β : Type} (N : Nat)  (K : Exit → St → Option β) : ∀ (F : Nat) (v0 : Int) (v1 : Int) (v2 : Int) (v3 : Int) (v4 : Int) (v5 : Int), (lp Tryz.f202 0).rounds lay (E202 N) (retMask Tryz.f202) F (h202_0_0  v0 v1 v2 v3 v4 v5) K = j157 N  F v0 v1 v2 v3 v4 v5 (fun y0 => K (.exit 0) (x202_0_0_k0  y0)) := by
  intro F
  induction F with
  | zero => intros; rfl
  | succ F ih =>
    intros
    rw [rounds_next]
    refine (st202_0_0 N  _ _ _ _ _ _ (fun s => (lp Tryz.f202 0).rounds lay (E202 N) (retMask Tryz.f202) F s K) K).trans ?_
    simp only [ih]
    rfl
theorem lk202_0 {β : Type} (N : Nat) : lookL (E202 (β := β) N).loops (lp Tryz.f202 0).id = LS202_0 N := by kernel_rfl
theorem rk202_0 {β : Type} (N : Nat) : RoundsOK lay (E202 (β := β) N) (retMask Tryz.f202) (lp Tryz.f202 0) := by
  intro s K r h
  rw [lk202_0] at h
  unfold LS202_0 VLS202_0 at h
  cases hb : shpSt (h202_0_0 0 0 0 0 0 0) s with
  | true =>
    rw [hb, cond_true] at h
    exact ⟨N, by rw [← shpSt_ref hb, fl202_0_0 s]; exact (ro202_0_0 N  K N (intS (oneA (vT (nx tund s.tmps 1)))) (intS (oneA (vT (nx tund s.tmps 5)))) (intS (oneA (vT (nx tund s.tmps 8)))) (intS (oneA (vT (nx tund s.tmps 9)))) (intS (nx .und (cellsB (nx .dead s.blks 0)) 0)) (intS (nx .und (cellsB (nx .dead s.blks 0)) 1))).trans h⟩
  | false =>
  rw [hb, cond_false] at h
  clear hb
  cases h
def jb158 {β : Type} (N : Nat) (jq90 : (a0 : Int) → (a1 : Int) → (k : Int → Option β) → Option β) (jq157 : Nat → Int → Int → Int → Int → Int → Int → (Int → Option β) → Option β) (a0 : Int) (a1 : Int) (a2 : Int) (k : Int → Option β) : Option β :=
jq90 a0 a1 fun r4 =>
jq157  N a2 0 r4 0 a0 a1 (fun e6_0 =>
k e6_0)
theorem jt158 {β : Type} (N : Nat) (a0 : Int) (a1 : Int) (a2 : Int) (k : Int → Option β) : j158 N a0 a1 a2 k = jb158 N (j90 N) (j157 N) a0 a1 a2 k := by
  unfold j158 jb158
  rfl
theorem ve202_0 {β : Type} (N : Nat) (jq90 : (a0 : Int) → (a1 : Int) → (k : Int → Option β) → Option β) (jq95 : (a0 : Int) → (a1 : Int) → (a2 : Int) → (a3 : Int) → (k : Bool → Option β) → Option β) (jq157 : Nat → Int → Int → Int → Int → Int → Int → (Int → Option β) → Option β)  (a0 : Int) (a1 : Int) (a2 : Int) (K : TV → Option β) : evFn lay (VE202 N jq90 jq95 jq157) Tryz.f202 [.v (.agg [.int .i64 a0, .int .i64 a1]), .v (.one (.int .i64 a2))] K = jb158 N jq90 jq157 a0 a1 a2 (fun z3 => K (.v (.one (.int .i64 z3)))) := by kernel_rfl
theorem e202_0 {β : Type} (N : Nat)  (a0 : Int) (a1 : Int) (a2 : Int) (K : TV → Option β) : evFn lay (E202 N) Tryz.f202 [.v (.agg [.int .i64 a0, .int .i64 a1]), .v (.one (.int .i64 a2))] K = j158 N a0 a1 a2 (fun z3 => K (.v (.one (.int .i64 z3)))) := (ve202_0 N (j90 N) (j95 N) (j157 N) a0 a1 a2 K).trans (jt158 N a0 a1 a2 (fun z3 => K (.v (.one (.int .i64 z3))))).symm
theorem o202 {β : Type} (N : Nat) : SpecOK (β := β) inv Tryz.prog 202 (S202 N) := by
  refine spec_of lay_ok mixed (E := E202 N) (specs_loops (specs_cons (o100 N) (specs_cons (o198 N) specs_nil))) muts_nil gs_nil Tryz.func202 (by kernel_rfl) 1 (by kernel_rfl) ⟨trivial, rk202_0 N⟩ fun args K r h => ?_
  unfold S202 VS202 at h
  split at h
  · exact (e202_0 N _ _ _ _).trans h
  · cases h
def VS142 {β : Type} (N : Nat) (jq161 : (a0 : Int) → (a1 : Int) → (k : List Int → Option β) → Option β) : Rv.Spec β := fun args K => match args with
  | [.v (.agg [.int .i64 a0, .int .i64 a1])] => jq161 a0 a1 (fun z2 => K (.v (.one (.sl 3 (.ints .i64 z2)))))
  | _ => none
def S142 {β : Type} (N : Nat) : Rv.Spec β := VS142 N (j161 N)
def h142_0_0  (v0 : Int) (v1 : Int) (v2 : Int) (v3 : Int) (v4 : List Int) : St := ⟨tund :: .v (.one (.ptr 0 0)) :: tund :: .v (.one (.row 1)) :: tund :: tund :: tund :: tund :: tund :: .v (.one (.int .i64 v0)) :: .v (.one (.int .i64 v1)) :: tund :: tund :: tund :: tund :: tund :: tund :: tund :: tund :: tund :: tund :: [], [.cells 25 [.int .i64 v2, .int .i64 v3], .row 3 (.ints .i64 v4)]⟩
def x142_0_0_k0  (y0 : List Int) : St := ⟨tund :: tund :: tund :: .v (.one (.row 0)) :: tund :: tund :: tund :: tund :: tund :: tund :: tund :: tund :: tund :: tund :: tund :: tund :: tund :: tund :: tund :: tund :: tund :: [], [.row 3 (.ints .i64 y0)]⟩
theorem fl142_0_0 (s : St) : refSt (h142_0_0 0 0 0 0 []) s = h142_0_0 (intS (oneA (vT (nx tund s.tmps 9)))) (intS (oneA (vT (nx tund s.tmps 10)))) (intS (nx .und (cellsB (nx .dead s.blks 0)) 0)) (intS (nx .und (cellsB (nx .dead s.blks 0)) 1)) (rInts (rowB_ (nx .dead s.blks 1))) := by kernel_rfl
def VLS142_0 {β : Type} (N : Nat) (jq160 : Nat → Int → Int → Int → Int → List Int → (List Int → Option β) → Option β) : LSpec β := fun s K => cond (shpSt (h142_0_0 0 0 0 0 []) s) ((fun (v0 : Int) (v1 : Int) (v2 : Int) (v3 : Int) (v4 : List Int) => jq160  N v0 v1 v2 v3 v4 (fun y0 => K (.exit 0) (x142_0_0_k0  y0))) (intS (oneA (vT (nx tund s.tmps 9)))) (intS (oneA (vT (nx tund s.tmps 10)))) (intS (nx .und (cellsB (nx .dead s.blks 0)) 0)) (intS (nx .und (cellsB (nx .dead s.blks 0)) 1)) (rInts (rowB_ (nx .dead s.blks 1)))) (none)
def LS142_0 {β : Type} (N : Nat) : LSpec β := VLS142_0 N (j160 N)
def VE142 {β : Type} (N : Nat) (jq158 : (a0 : Int) → (a1 : Int) → (a2 : Int) → (k : Int → Option β) → Option β) (jq160 : Nat → Int → Int → Int → Int → List Int → (List Int → Option β) → Option β) : Env β := ⟨[(202, VS202 N jq158)], [], [(0, VLS142_0 N jq160)], [], ⟨[], [], []⟩⟩
def E142 {β : Type} (N : Nat) : Env β := VE142 N (j158 N) (j160 N)
def jb159 {β : Type} (N : Nat) (jq158 : (a0 : Int) → (a1 : Int) → (a2 : Int) → (k : Int → Option β) → Option β)  (v0 : Int) (v1 : Int) (v2 : Int) (v3 : Int) (v4 : List Int) (rec_ : Int → Int → Int → Int → List Int → Option β) (k0 : List Int → Option β) : Option β :=
(cond ((decide (v1 < v0)))
(jq158 v2 v3 v1 fun r3 =>
(gd ((decide (0 ≤ v1)))
((gd ((decide (v1 < (v4.length : Int))))
(rec_ v0 ((w64 (v1 + 1))) v2 v3 ((wr v4 v1 r3)))))))
(k0 v4))
theorem jt159 {β : Type} (N : Nat)  (v0 : Int) (v1 : Int) (v2 : Int) (v3 : Int) (v4 : List Int) (rec_ : Int → Int → Int → Int → List Int → Option β) (k0 : List Int → Option β) : j159 N v0 v1 v2 v3 v4 rec_ k0 = jb159 N (j158 N) v0 v1 v2 v3 v4 rec_ k0 := by
  unfold j159 jb159
  rfl
theorem vst142_0_0 {β : Type} (N : Nat) (jq158 : (a0 : Int) → (a1 : Int) → (a2 : Int) → (k : Int → Option β) → Option β) (jq160 : Nat → Int → Int → Int → Int → List Int → (List Int → Option β) → Option β)  (v0 : Int) (v1 : Int) (v2 : Int) (v3 : Int) (v4 : List Int) (rec_ : St → Option β) (K : Exit → St → Option β) :
    ev lay (VE142 N jq158 jq160) (retMask Tryz.f142) (lp Tryz.f142 0).body (lp Tryz.f142 0).ex ((lp Tryz.f142 0).lv (retMask Tryz.f142)) (h142_0_0  v0 v1 v2 v3 v4) (nextR (fun s' => rec_ (s'.tidy ((lp Tryz.f142 0).lv (retMask Tryz.f142)))) K) = jb159 N jq158  v0 v1 v2 v3 v4 (fun v0 v1 v2 v3 v4 => rec_ (h142_0_0  v0 v1 v2 v3 v4)) (fun y0 => K (.exit 0) (x142_0_0_k0  y0)) := by kernel_rfl
theorem st142_0_0 {β : Type} (N : Nat)  (v0 : Int) (v1 : Int) (v2 : Int) (v3 : Int) (v4 : List Int) (rec_ : St → Option β) (K : Exit → St → Option β) :
    ev lay (E142 N) (retMask Tryz.f142) (lp Tryz.f142 0).body (lp Tryz.f142 0).ex ((lp Tryz.f142 0).lv (retMask Tryz.f142)) (h142_0_0  v0 v1 v2 v3 v4) (nextR (fun s' => rec_ (s'.tidy ((lp Tryz.f142 0).lv (retMask Tryz.f142)))) K) = j159 N  v0 v1 v2 v3 v4 (fun v0 v1 v2 v3 v4 => rec_ (h142_0_0  v0 v1 v2 v3 v4)) (fun y0 => K (.exit 0) (x142_0_0_k0  y0)) := (vst142_0_0 N (j158 N) (j160 N) v0 v1 v2 v3 v4 rec_ K).trans (jt159 N  v0 v1 v2 v3 v4 (fun v0 v1 v2 v3 v4 => rec_ (h142_0_0  v0 v1 v2 v3 v4)) (fun y0 => K (.exit 0) (x142_0_0_k0  y0))).symm
theorem ro142_0_0 {β : Type} (N : Nat)  (K : Exit → St → Option β) : ∀ (F : Nat) (v0 : Int) (v1 : Int) (v2 : Int) (v3 : Int) (v4 : List Int), (lp Tryz.f142 0).rounds lay (E142 N) (retMask Tryz.f142) F (h142_0_0  v0 v1 v2 v3 v4) K = j160 N  F v0 v1 v2 v3 v4 (fun y0 => K (.exit 0) (x142_0_0_k0  y0)) := by
  intro F
  induction F with
  | zero => intros; rfl
  | succ F ih =>
    intros
    rw [rounds_next]
    refine (st142_0_0 N  _ _ _ _ _ (fun s => (lp Tryz.f142 0).rounds lay (E142 N) (retMask Tryz.f142) F s K) K).trans ?_
    simp only [ih]
    rfl
theorem lk142_0 {β : Type} (N : Nat) : lookL (E142 (β := β) N).loops (lp Tryz.f142 0).id = LS142_0 N := by kernel_rfl
theorem rk142_0 {β : Type} (N : Nat) : RoundsOK lay (E142 (β := β) N) (retMask Tryz.f142) (lp Tryz.f142 0) := by
  intro s K r h
  rw [lk142_0] at h
  unfold LS142_0 VLS142_0 at h
  cases hb : shpSt (h142_0_0 0 0 0 0 []) s with
  | true =>
    rw [hb, cond_true] at h
    exact ⟨N, by rw [← shpSt_ref hb, fl142_0_0 s]; exact (ro142_0_0 N  K N (intS (oneA (vT (nx tund s.tmps 9)))) (intS (oneA (vT (nx tund s.tmps 10)))) (intS (nx .und (cellsB (nx .dead s.blks 0)) 0)) (intS (nx .und (cellsB (nx .dead s.blks 0)) 1)) (rInts (rowB_ (nx .dead s.blks 1)))).trans h⟩
  | false =>
  rw [hb, cond_false] at h
  clear hb
  cases h
def jb161 {β : Type} (N : Nat) (jq160 : Nat → Int → Int → Int → Int → List Int → (List Int → Option β) → Option β) (a0 : Int) (a1 : Int) (k : List Int → Option β) : Option β :=
(gd ((decide (0 ≤ a0)))
((gd ((decide (a0 ≤ a0)))
((gd ((decide (8 * a0 ≤ 281474976710656)))
(jq160  N ((((List.replicate (Int.toNat a0) (0 : Int))).length : Int)) 0 a0 a1 ((List.replicate (Int.toNat a0) (0 : Int))) (fun e4_0 =>
k e4_0)))))))
theorem jt161 {β : Type} (N : Nat) (a0 : Int) (a1 : Int) (k : List Int → Option β) : j161 N a0 a1 k = jb161 N (j160 N) a0 a1 k := by
  unfold j161 jb161
  rfl
theorem ve142_0 {β : Type} (N : Nat) (jq158 : (a0 : Int) → (a1 : Int) → (a2 : Int) → (k : Int → Option β) → Option β) (jq160 : Nat → Int → Int → Int → Int → List Int → (List Int → Option β) → Option β)  (a0 : Int) (a1 : Int) (K : TV → Option β) : evFn lay (VE142 N jq158 jq160) Tryz.f142 [.v (.agg [.int .i64 a0, .int .i64 a1])] K = jb161 N jq160 a0 a1 (fun z2 => K (.v (.one (.sl 3 (.ints .i64 z2))))) := by kernel_rfl
theorem e142_0 {β : Type} (N : Nat)  (a0 : Int) (a1 : Int) (K : TV → Option β) : evFn lay (E142 N) Tryz.f142 [.v (.agg [.int .i64 a0, .int .i64 a1])] K = j161 N a0 a1 (fun z2 => K (.v (.one (.sl 3 (.ints .i64 z2))))) := (ve142_0 N (j158 N) (j160 N) a0 a1 K).trans (jt161 N a0 a1 (fun z2 => K (.v (.one (.sl 3 (.ints .i64 z2)))))).symm
theorem o142 {β : Type} (N : Nat) : SpecOK (β := β) inv Tryz.prog 142 (S142 N) := by
  refine spec_of lay_ok mixed (E := E142 N) (specs_loops (specs_cons (o202 N) specs_nil)) muts_nil gs_nil Tryz.func142 (by kernel_rfl) 1 (by kernel_rfl) ⟨trivial, rk142_0 N⟩ fun args K r h => ?_
  unfold S142 VS142 at h
  split at h
  · exact (e142_0 N _ _ _).trans h
  · cases h
end Go.Proofs.YtignjkbhdaiegaaGreatDoor
