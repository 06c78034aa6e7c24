/- The functions that the claims reach answer as their texts do. -/
import Derived.Test.YtfdggelojmofmaaDoorE3
namespace Go.Proofs.YtfdggelojmofmaaDoor
open Go.Rv
set_option maxRecDepth 100000
set_option maxHeartbeats 2000000
set_option linter.unusedVariables false
def VS141 {β : Type} (N : Nat) (q_impl_factorial : (a0 : Int) → (k : Int → Option β) → Option β) : Rv.Spec β := fun args K => match args with
  | [.v (.one (.int .i64 a0))] => q_impl_factorial a0 (fun z1 => K (.v (.one (.int .i64 z1))))
  | _ => none
def S141 {β : Type} (N : Nat) : Rv.Spec β := VS141 N (impl_factorial N)
def h141_0_0  (v0 : Int) (v1 : Int) (v2 : Int) : St := ⟨.v (.one (.int .i64 v0)) :: .v (.one .und) :: .v (.one .und) :: .v (.one (.int .i64 v1)) :: .v (.one (.int .i64 v2)) :: .v (.one .und) :: .v (.one .und) :: .v (.one .und) :: .v (.one .und) :: .v (.one .und) :: .v (.one .und) :: .v (.one .und) :: .v (.one .und) :: .v (.one .und) :: [], []⟩
def x141_0_0_k0  (y0 : Int) : St := ⟨.v (.one .und) :: .v (.one .und) :: .v (.one .und) :: .v (.one (.int .i64 y0)) :: .v (.one .und) :: .v (.one .und) :: .v (.one .und) :: .v (.one .und) :: .v (.one .und) :: .v (.one .und) :: .v (.one .und) :: .v (.one .und) :: .v (.one .und) :: .v (.one .und) :: [], []⟩
theorem fl141_0_0 (s : St) : refSt (h141_0_0 0 0 0) s = h141_0_0 (intS (oneA (vT (nx tund s.tmps 0)))) (intS (oneA (vT (nx tund s.tmps 3)))) (intS (oneA (vT (nx tund s.tmps 4)))) := by kernel_rfl
def VLS141_0 {β : Type} (N : Nat) (q_impl_factorial_l0 : Nat → Int → Int → Int → (Int → Option β) → Option β) : LSpec β := fun s K => cond (shpSt (h141_0_0 0 0 0) s) ((fun (v0 : Int) (v1 : Int) (v2 : Int) => q_impl_factorial_l0  N v0 v1 v2 (fun y0 => K (.exit 0) (x141_0_0_k0  y0))) (intS (oneA (vT (nx tund s.tmps 0)))) (intS (oneA (vT (nx tund s.tmps 3)))) (intS (oneA (vT (nx tund s.tmps 4))))) (none)
def LS141_0 {β : Type} (N : Nat) : LSpec β := VLS141_0 N (impl_factorial_l0 N)
def VE141 {β : Type} (N : Nat) (q_impl_factorial_l0 : Nat → Int → Int → Int → (Int → Option β) → Option β) : Env β := ⟨[], [], [(0, VLS141_0 N q_impl_factorial_l0)], [], ⟨[], [], []⟩⟩
def E141 {β : Type} (N : Nat) : Env β := VE141 N (impl_factorial_l0 N)
def BV_impl_factorial_l0b {β : Type} (N : Nat)  (v0 : Int) (v1 : Int) (v2 : Int) (rec_ : Int → Int → Int → Option β) (k0 : Int → Option β) : Option β :=
(cond ((decide (v2 ≤ v0)))
(rec_ v0 ((w64 (v1 * v2))) ((w64 (v2 + 1))))
(k0 v1))
theorem t_impl_factorial_l0b {β : Type} (N : Nat)  (v0 : Int) (v1 : Int) (v2 : Int) (rec_ : Int → Int → Int → Option β) (k0 : Int → Option β) : impl_factorial_l0b N v0 v1 v2 rec_ k0 = BV_impl_factorial_l0b N v0 v1 v2 rec_ k0 := by
  unfold impl_factorial_l0b BV_impl_factorial_l0b
  rfl
theorem vst141_0_0 {β : Type} (N : Nat) (q_impl_factorial_l0 : Nat → Int → Int → Int → (Int → Option β) → Option β)  (v0 : Int) (v1 : Int) (v2 : Int) (rec_ : St → Option β) (K : Exit → St → Option β) :
    ev lay (VE141 N q_impl_factorial_l0) (retMask Tryd.f141) (lp Tryd.f141 0).body (lp Tryd.f141 0).ex ((lp Tryd.f141 0).lv (retMask Tryd.f141)) (h141_0_0  v0 v1 v2) (nextR (fun s' => rec_ (s'.tidy ((lp Tryd.f141 0).lv (retMask Tryd.f141)))) K) = BV_impl_factorial_l0b N  v0 v1 v2 (fun v0 v1 v2 => rec_ (h141_0_0  v0 v1 v2)) (fun y0 => K (.exit 0) (x141_0_0_k0  y0)) := by kernel_rfl
theorem st141_0_0 {β : Type} (N : Nat)  (v0 : Int) (v1 : Int) (v2 : Int) (rec_ : St → Option β) (K : Exit → St → Option β) :
    ev lay (E141 N) (retMask Tryd.f141) (lp Tryd.f141 0).body (lp Tryd.f141 0).ex ((lp Tryd.f141 0).lv (retMask Tryd.f141)) (h141_0_0  v0 v1 v2) (nextR (fun s' => rec_ (s'.tidy ((lp Tryd.f141 0).lv (retMask Tryd.f141)))) K) = impl_factorial_l0b N  v0 v1 v2 (fun v0 v1 v2 => rec_ (h141_0_0  v0 v1 v2)) (fun y0 => K (.exit 0) (x141_0_0_k0  y0)) := (vst141_0_0 N (impl_factorial_l0 N) v0 v1 v2 rec_ K).trans (t_impl_factorial_l0b N  v0 v1 v2 (fun v0 v1 v2 => rec_ (h141_0_0  v0 v1 v2)) (fun y0 => K (.exit 0) (x141_0_0_k0  y0))).symm
theorem ro141_0_0 {β : Type} (N : Nat)  (K : Exit → St → Option β) : ∀ (F : Nat) (v0 : Int) (v1 : Int) (v2 : Int), (lp Tryd.f141 0).rounds lay (E141 N) (retMask Tryd.f141) F (h141_0_0  v0 v1 v2) K = impl_factorial_l0 N  F v0 v1 v2 (fun y0 => K (.exit 0) (x141_0_0_k0  y0)) := by
  intro F
  induction F with
  | zero => intros; rfl
  | succ F ih =>
    intros
    rw [rounds_next]
    refine (st141_0_0 N  _ _ _ (fun s => (lp Tryd.f141 0).rounds lay (E141 N) (retMask Tryd.f141) F s K) K).trans ?_
    simp only [ih]
    rfl
theorem lk141_0 {β : Type} (N : Nat) : lookL (E141 (β := β) N).loops (lp Tryd.f141 0).id = LS141_0 N := by kernel_rfl
theorem rk141_0 {β : Type} (N : Nat) : RoundsOK lay (E141 (β := β) N) (retMask Tryd.f141) (lp Tryd.f141 0) := by
  intro s K r h
  rw [lk141_0] at h
  unfold LS141_0 VLS141_0 at h
  cases hb : shpSt (h141_0_0 0 0 0) s with
  | true =>
    rw [hb, cond_true] at h
    exact ⟨N, by rw [← shpSt_ref hb, fl141_0_0 s]; exact (ro141_0_0 N  K N (intS (oneA (vT (nx tund s.tmps 0)))) (intS (oneA (vT (nx tund s.tmps 3)))) (intS (oneA (vT (nx tund s.tmps 4))))).trans h⟩
  | false =>
  rw [hb, cond_false] at h
  clear hb
  cases h
def BV_impl_factorial {β : Type} (N : Nat) (q_impl_factorial_l0 : Nat → Int → Int → Int → (Int → Option β) → Option β) (a0 : Int) (k : Int → Option β) : Option β :=
q_impl_factorial_l0  N a0 1 2 (fun e2_0 =>
k e2_0)
theorem t_impl_factorial {β : Type} (N : Nat) (a0 : Int) (k : Int → Option β) : impl_factorial N a0 k = BV_impl_factorial N (impl_factorial_l0 N) a0 k := by
  unfold impl_factorial BV_impl_factorial
  rfl
theorem ve141_0 {β : Type} (N : Nat) (q_impl_factorial_l0 : Nat → Int → Int → Int → (Int → Option β) → Option β)  (a0 : Int) (K : TV → Option β) : evFn lay (VE141 N q_impl_factorial_l0) Tryd.f141 [.v (.one (.int .i64 a0))] K = BV_impl_factorial N q_impl_factorial_l0 a0 (fun z1 => K (.v (.one (.int .i64 z1)))) := by kernel_rfl
theorem e141_0 {β : Type} (N : Nat)  (a0 : Int) (K : TV → Option β) : evFn lay (E141 N) Tryd.f141 [.v (.one (.int .i64 a0))] K = impl_factorial N a0 (fun z1 => K (.v (.one (.int .i64 z1)))) := (ve141_0 N (impl_factorial_l0 N) a0 K).trans (t_impl_factorial N a0 (fun z1 => K (.v (.one (.int .i64 z1))))).symm
theorem o141 {β : Type} (N : Nat) : SpecOK (β := β) inv Tryd.prog 141 (S141 N) := by
  refine spec_of lay_ok mixed (E := E141 N) (specs_loops specs_nil) muts_nil gs_nil Tryd.func141 (by kernel_rfl) 1 (by kernel_rfl) ⟨trivial, rk141_0 N⟩ fun args K r h => ?_
  unfold S141 VS141 at h
  split at h
  · exact (e141_0 N _ _).trans h
  · cases h
def VS140 {β : Type} (N : Nat) (q_impl_ShapleyNumbers_1 : (a0 : Int) → (c0 : Int) → (c1 : Int) → (k : Int → Option β) → Option β) : Rv.Spec β := fun args K => match args with
  | [.v (.one (.int .i64 a0)), .v (.one (.cref [.int .i64 c0, .int .i64 c1] 0))] => q_impl_ShapleyNumbers_1 a0 c0 c1 (fun z1 => K (.v (.one (.int .i64 z1))))
  | _ => none
def S140 {β : Type} (N : Nat) : Rv.Spec β := VS140 N (impl_ShapleyNumbers_1 N)
def VE140 {β : Type} (N : Nat) (q_impl_factorial : (a0 : Int) → (k : Int → Option β) → Option β) : Env β := ⟨[(141, VS141 N q_impl_factorial)], [], [], [], ⟨[], [], []⟩⟩
def E140 {β : Type} (N : Nat) : Env β := VE140 N (impl_factorial N)
def BV_impl_ShapleyNumbers_1 {β : Type} (N : Nat) (q_impl_factorial : (a0 : Int) → (k : Int → Option β) → Option β) (a0 : Int) (c0 : Int) (c1 : Int) (k : Int → Option β) : Option β :=
q_impl_factorial a0 fun r2 =>
q_impl_factorial ((w64 ((w64 (c0 - 1)) - a0))) fun r3 =>
k ((w64 (r2 * r3)))
theorem t_impl_ShapleyNumbers_1 {β : Type} (N : Nat) (a0 : Int) (c0 : Int) (c1 : Int) (k : Int → Option β) : impl_ShapleyNumbers_1 N a0 c0 c1 k = BV_impl_ShapleyNumbers_1 N (impl_factorial N) a0 c0 c1 k := by
  unfold impl_ShapleyNumbers_1 BV_impl_ShapleyNumbers_1
  rfl
theorem ve140_0 {β : Type} (N : Nat) (q_impl_factorial : (a0 : Int) → (k : Int → Option β) → Option β)  (a0 : Int) (c0 : Int) (c1 : Int) (K : TV → Option β) : evFn lay (VE140 N q_impl_factorial) Tryd.f140 [.v (.one (.int .i64 a0)), .v (.one (.cref [.int .i64 c0, .int .i64 c1] 0))] K = BV_impl_ShapleyNumbers_1 N q_impl_factorial a0 c0 c1 (fun z1 => K (.v (.one (.int .i64 z1)))) := by kernel_rfl
theorem e140_0 {β : Type} (N : Nat)  (a0 : Int) (c0 : Int) (c1 : Int) (K : TV → Option β) : evFn lay (E140 N) Tryd.f140 [.v (.one (.int .i64 a0)), .v (.one (.cref [.int .i64 c0, .int .i64 c1] 0))] K = impl_ShapleyNumbers_1 N a0 c0 c1 (fun z1 => K (.v (.one (.int .i64 z1)))) := (ve140_0 N (impl_factorial N) a0 c0 c1 K).trans (t_impl_ShapleyNumbers_1 N a0 c0 c1 (fun z1 => K (.v (.one (.int .i64 z1))))).symm
theorem o140 {β : Type} (N : Nat) : SpecOK (β := β) inv Tryd.prog 140 (S140 N) := by
  refine spec_of lay_ok mixed (E := E140 N) (specs_loops (specs_cons (o141 N) specs_nil)) muts_nil gs_nil Tryd.func140 (by kernel_rfl) 0 (by kernel_rfl) trivial fun args K r h => ?_
  unfold S140 VS140 at h
  split at h
  · exact (e140_0 N _ _ _ _).trans h
  · cases h
def VS138 {β : Type} (N : Nat) (q_impl_Table_powers : (a0 : Int) → (a1 : Int) → (a2 : (Int → (Int → Option β) → Option β)) → (k : List Int → Option β) → Option β) (q_impl_BanzhafNumbers_1 : (a0 : Int) → (k : Int → Option β) → Option β) (q_impl_ShapleyNumbers_1 : (a0 : Int) → (c0 : Int) → (c1 : Int) → (k : Int → Option β) → Option β) : Rv.Spec β := fun args K => match args with
  | [.v (.agg [.int .i64 a0, .int .i64 a1]), .v (.one (.fn 139 []))] => q_impl_Table_powers a0 a1 (fun x0 k => q_impl_BanzhafNumbers_1 x0 k) (fun z3 => K (.v (.one (.sl 3 (.ints .i64 z3)))))
  | [.v (.agg [.int .i64 a0, .int .i64 a1]), .v (.one (.dfn 140 [([.int .i64 q0, .int .i64 q1], 0)]))] => q_impl_Table_powers a0 a1 (fun x0 k => q_impl_ShapleyNumbers_1 x0 q0 q1 k) (fun z3 => K (.v (.one (.sl 3 (.ints .i64 z3)))))
  | _ => none
def S138 {β : Type} (N : Nat) : Rv.Spec β := VS138 N (impl_Table_powers N) (impl_BanzhafNumbers_1 N) (impl_ShapleyNumbers_1 N)
def h138_0_0  (v0 : Int) (v1 : Int) (v2 : Int) (v3 : Int) (v4 : List Int) : St := ⟨.v (.one .und) :: .v (.one (.fn 139 [])) :: .v (.one (.ptr 0 0)) :: .v (.one .und) :: .v (.one .und) :: .v (.one (.row 1)) :: .v (.one .und) :: .v (.one .und) :: .v (.one .und) :: .v (.one .und) :: .v (.one .und) :: .v (.one .und) :: .v (.one .und) :: .v (.one .und) :: .v (.one .und) :: .v (.one (.int .i64 v0)) :: .v (.one (.int .i64 v1)) :: .v (.one .und) :: .v (.one .und) :: .v (.one .und) :: .v (.one .und) :: .v (.one .und) :: .v (.one .und) :: .v (.one .und) :: .v (.one .und) :: .v (.one .und) :: .v (.one .und) :: .v (.one .und) :: .v (.one .und) :: .v (.one .und) :: .v (.one .und) :: .v (.one .und) :: .v (.one .und) :: .v (.one .und) :: .v (.one .und) :: .v (.one .und) :: .v (.one .und) :: .v (.one .und) :: .v (.one .und) :: .v (.one .und) :: .v (.one .und) :: .v (.one .und) :: .v (.one .und) :: .v (.one .und) :: .v (.one .und) :: .v (.one .und) :: .v (.one .und) :: .v (.one .und) :: .v (.one .und) :: [], [.cells 24 [.int .i64 v2, .int .i64 v3], .row 3 (.ints .i64 v4)]⟩
def x138_0_0_k0  (y0 : List Int) : St := ⟨.v (.one .und) :: .v (.one .und) :: .v (.one .und) :: .v (.one .und) :: .v (.one .und) :: .v (.one (.row 0)) :: .v (.one .und) :: .v (.one .und) :: .v (.one .und) :: .v (.one .und) :: .v (.one .und) :: .v (.one .und) :: .v (.one .und) :: .v (.one .und) :: .v (.one .und) :: .v (.one .und) :: .v (.one .und) :: .v (.one .und) :: .v (.one .und) :: .v (.one .und) :: .v (.one .und) :: .v (.one .und) :: .v (.one .und) :: .v (.one .und) :: .v (.one .und) :: .v (.one .und) :: .v (.one .und) :: .v (.one .und) :: .v (.one .und) :: .v (.one .und) :: .v (.one .und) :: .v (.one .und) :: .v (.one .und) :: .v (.one .und) :: .v (.one .und) :: .v (.one .und) :: .v (.one .und) :: .v (.one .und) :: .v (.one .und) :: .v (.one .und) :: .v (.one .und) :: .v (.one .und) :: .v (.one .und) :: .v (.one .und) :: .v (.one .und) :: .v (.one .und) :: .v (.one .und) :: .v (.one .und) :: .v (.one .und) :: [], [.row 3 (.ints .i64 y0)]⟩
def h138_0_1 (q0 : Int) (q1 : Int) (v0 : Int) (v1 : Int) (v2 : Int) (v3 : Int) (v4 : List Int) : St := ⟨.v (.one .und) :: .v (.one (.dfn 140 [([.int .i64 q0, .int .i64 q1], 0)])) :: .v (.one (.ptr 0 0)) :: .v (.one .und) :: .v (.one .und) :: .v (.one (.row 1)) :: .v (.one .und) :: .v (.one .und) :: .v (.one .und) :: .v (.one .und) :: .v (.one .und) :: .v (.one .und) :: .v (.one .und) :: .v (.one .und) :: .v (.one .und) :: .v (.one (.int .i64 v0)) :: .v (.one (.int .i64 v1)) :: .v (.one .und) :: .v (.one .und) :: .v (.one .und) :: .v (.one .und) :: .v (.one .und) :: .v (.one .und) :: .v (.one .und) :: .v (.one .und) :: .v (.one .und) :: .v (.one .und) :: .v (.one .und) :: .v (.one .und) :: .v (.one .und) :: .v (.one .und) :: .v (.one .und) :: .v (.one .und) :: .v (.one .und) :: .v (.one .und) :: .v (.one .und) :: .v (.one .und) :: .v (.one .und) :: .v (.one .und) :: .v (.one .und) :: .v (.one .und) :: .v (.one .und) :: .v (.one .und) :: .v (.one .und) :: .v (.one .und) :: .v (.one .und) :: .v (.one .und) :: .v (.one .und) :: .v (.one .und) :: [], [.cells 24 [.int .i64 v2, .int .i64 v3], .row 3 (.ints .i64 v4)]⟩
def x138_0_1_k0 (q0 : Int) (q1 : Int) (y0 : List Int) : St := ⟨.v (.one .und) :: .v (.one .und) :: .v (.one .und) :: .v (.one .und) :: .v (.one .und) :: .v (.one (.row 0)) :: .v (.one .und) :: .v (.one .und) :: .v (.one .und) :: .v (.one .und) :: .v (.one .und) :: .v (.one .und) :: .v (.one .und) :: .v (.one .und) :: .v (.one .und) :: .v (.one .und) :: .v (.one .und) :: .v (.one .und) :: .v (.one .und) :: .v (.one .und) :: .v (.one .und) :: .v (.one .und) :: .v (.one .und) :: .v (.one .und) :: .v (.one .und) :: .v (.one .und) :: .v (.one .und) :: .v (.one .und) :: .v (.one .und) :: .v (.one .und) :: .v (.one .und) :: .v (.one .und) :: .v (.one .und) :: .v (.one .und) :: .v (.one .und) :: .v (.one .und) :: .v (.one .und) :: .v (.one .und) :: .v (.one .und) :: .v (.one .und) :: .v (.one .und) :: .v (.one .und) :: .v (.one .und) :: .v (.one .und) :: .v (.one .und) :: .v (.one .und) :: .v (.one .und) :: .v (.one .und) :: .v (.one .und) :: [], [.row 3 (.ints .i64 y0)]⟩
def h138_1_0  (v0 : Int) (v1 : Int) (v2 : Int) (v3 : Int) (v4 : Int) (v5 : Int) (v6 : Int) (v7 : List Int) : St := ⟨.v (.one .und) :: .v (.one (.fn 139 [])) :: .v (.one (.ptr 0 0)) :: .v (.one .und) :: .v (.one .und) :: .v (.one (.row 1)) :: .v (.one (.int .i64 v0)) :: .v (.one .und) :: .v (.one .und) :: .v (.one .und) :: .v (.one .und) :: .v (.one .und) :: .v (.one .und) :: .v (.one .und) :: .v (.one .und) :: .v (.one (.int .i64 v1)) :: .v (.one (.int .i64 v2)) :: .v (.one .und) :: .v (.one .und) :: .v (.one .und) :: .v (.one (.int .i64 v3)) :: .v (.one (.int .i64 v4)) :: .v (.one .und) :: .v (.one .und) :: .v (.one .und) :: .v (.one .und) :: .v (.one .und) :: .v (.one .und) :: .v (.one .und) :: .v (.one .und) :: .v (.one .und) :: .v (.one .und) :: .v (.one .und) :: .v (.one .und) :: .v (.one .und) :: .v (.one .und) :: .v (.one .und) :: .v (.one .und) :: .v (.one .und) :: .v (.one .und) :: .v (.one .und) :: .v (.one .und) :: .v (.one .und) :: .v (.one .und) :: .v (.one .und) :: .v (.one .und) :: .v (.one .und) :: .v (.one .und) :: .v (.one .und) :: [], [.cells 24 [.int .i64 v5, .int .i64 v6], .row 3 (.ints .i64 v7)]⟩
def x138_1_0_k0  (y0 : Int) (y1 : Int) (y2 : Int) (y3 : Int) (y4 : List Int) : St := ⟨.v (.one .und) :: .v (.one (.fn 139 [])) :: .v (.one (.ptr 0 0)) :: .v (.one .und) :: .v (.one .und) :: .v (.one (.row 1)) :: .v (.one .und) :: .v (.one .und) :: .v (.one .und) :: .v (.one .und) :: .v (.one .und) :: .v (.one .und) :: .v (.one .und) :: .v (.one .und) :: .v (.one .und) :: .v (.one (.int .i64 y0)) :: .v (.one (.int .i64 y1)) :: .v (.one .und) :: .v (.one .und) :: .v (.one .und) :: .v (.one .und) :: .v (.one .und) :: .v (.one .und) :: .v (.one .und) :: .v (.one .und) :: .v (.one .und) :: .v (.one .und) :: .v (.one .und) :: .v (.one .und) :: .v (.one .und) :: .v (.one .und) :: .v (.one .und) :: .v (.one .und) :: .v (.one .und) :: .v (.one .und) :: .v (.one .und) :: .v (.one .und) :: .v (.one .und) :: .v (.one .und) :: .v (.one .und) :: .v (.one .und) :: .v (.one .und) :: .v (.one .und) :: .v (.one .und) :: .v (.one .und) :: .v (.one .und) :: .v (.one .und) :: .v (.one .und) :: .v (.one .und) :: [], [.cells 24 [.int .i64 y2, .int .i64 y3], .row 3 (.ints .i64 y4)]⟩
def h138_1_1 (q0 : Int) (q1 : Int) (v0 : Int) (v1 : Int) (v2 : Int) (v3 : Int) (v4 : Int) (v5 : Int) (v6 : Int) (v7 : List Int) : St := ⟨.v (.one .und) :: .v (.one (.dfn 140 [([.int .i64 q0, .int .i64 q1], 0)])) :: .v (.one (.ptr 0 0)) :: .v (.one .und) :: .v (.one .und) :: .v (.one (.row 1)) :: .v (.one (.int .i64 v0)) :: .v (.one .und) :: .v (.one .und) :: .v (.one .und) :: .v (.one .und) :: .v (.one .und) :: .v (.one .und) :: .v (.one .und) :: .v (.one .und) :: .v (.one (.int .i64 v1)) :: .v (.one (.int .i64 v2)) :: .v (.one .und) :: .v (.one .und) :: .v (.one .und) :: .v (.one (.int .i64 v3)) :: .v (.one (.int .i64 v4)) :: .v (.one .und) :: .v (.one .und) :: .v (.one .und) :: .v (.one .und) :: .v (.one .und) :: .v (.one .und) :: .v (.one .und) :: .v (.one .und) :: .v (.one .und) :: .v (.one .und) :: .v (.one .und) :: .v (.one .und) :: .v (.one .und) :: .v (.one .und) :: .v (.one .und) :: .v (.one .und) :: .v (.one .und) :: .v (.one .und) :: .v (.one .und) :: .v (.one .und) :: .v (.one .und) :: .v (.one .und) :: .v (.one .und) :: .v (.one .und) :: .v (.one .und) :: .v (.one .und) :: .v (.one .und) :: [], [.cells 24 [.int .i64 v5, .int .i64 v6], .row 3 (.ints .i64 v7)]⟩
def x138_1_1_k0 (q0 : Int) (q1 : Int) (y0 : Int) (y1 : Int) (y2 : Int) (y3 : Int) (y4 : List Int) : St := ⟨.v (.one .und) :: .v (.one (.dfn 140 [([.int .i64 q0, .int .i64 q1], 0)])) :: .v (.one (.ptr 0 0)) :: .v (.one .und) :: .v (.one .und) :: .v (.one (.row 1)) :: .v (.one .und) :: .v (.one .und) :: .v (.one .und) :: .v (.one .und) :: .v (.one .und) :: .v (.one .und) :: .v (.one .und) :: .v (.one .und) :: .v (.one .und) :: .v (.one (.int .i64 y0)) :: .v (.one (.int .i64 y1)) :: .v (.one .und) :: .v (.one .und) :: .v (.one .und) :: .v (.one .und) :: .v (.one .und) :: .v (.one .und) :: .v (.one .und) :: .v (.one .und) :: .v (.one .und) :: .v (.one .und) :: .v (.one .und) :: .v (.one .und) :: .v (.one .und) :: .v (.one .und) :: .v (.one .und) :: .v (.one .und) :: .v (.one .und) :: .v (.one .und) :: .v (.one .und) :: .v (.one .und) :: .v (.one .und) :: .v (.one .und) :: .v (.one .und) :: .v (.one .und) :: .v (.one .und) :: .v (.one .und) :: .v (.one .und) :: .v (.one .und) :: .v (.one .und) :: .v (.one .und) :: .v (.one .und) :: .v (.one .und) :: [], [.cells 24 [.int .i64 y2, .int .i64 y3], .row 3 (.ints .i64 y4)]⟩
theorem fl138_0_0 (s : St) : refSt (h138_0_0 0 0 0 0 []) s = h138_0_0 (intS (oneA (vT (nx tund s.tmps 15)))) (intS (oneA (vT (nx tund s.tmps 16)))) (intS (nx .und (cellsB (nx .dead s.blks 0)) 0)) (intS (nx .und (cellsB (nx .dead s.blks 0)) 1)) (rInts (rowB_ (nx .dead s.blks 1))) := by kernel_rfl
theorem fl138_0_1 (s : St) : refSt (h138_0_1 0 0 0 0 0 0 []) s = h138_0_1 (intF (nx .no (nx ([], 0) (dfnS (oneA (vT (nx tund s.tmps 1)))) 0).1 0)) (intF (nx .no (nx ([], 0) (dfnS (oneA (vT (nx tund s.tmps 1)))) 0).1 1)) (intS (oneA (vT (nx tund s.tmps 15)))) (intS (oneA (vT (nx tund s.tmps 16)))) (intS (nx .und (cellsB (nx .dead s.blks 0)) 0)) (intS (nx .und (cellsB (nx .dead s.blks 0)) 1)) (rInts (rowB_ (nx .dead s.blks 1))) := by kernel_rfl
def VLS138_0 {β : Type} (N : Nat) (q_impl_Table_powers_l0 : (a2 : (Int → (Int → Option β) → Option β)) → Nat → Int → Int → Int → Int → List Int → (List Int → Option β) → Option β) (q_impl_BanzhafNumbers_1 : (a0 : Int) → (k : Int → Option β) → Option β) (q_impl_ShapleyNumbers_1 : (a0 : Int) → (c0 : Int) → (c1 : Int) → (k : Int → Option β) → Option β) : LSpec β := fun s K => cond (shpSt (h138_0_0 0 0 0 0 []) s) ((fun (v0 : Int) (v1 : Int) (v2 : Int) (v3 : Int) (v4 : List Int) => q_impl_Table_powers_l0 (fun x0 k => q_impl_BanzhafNumbers_1 x0 k) N v0 v1 v2 v3 v4 (fun y0 => K (.exit 0) (x138_0_0_k0  y0))) (intS (oneA (vT (nx tund s.tmps 15)))) (intS (oneA (vT (nx tund s.tmps 16)))) (intS (nx .und (cellsB (nx .dead s.blks 0)) 0)) (intS (nx .und (cellsB (nx .dead s.blks 0)) 1)) (rInts (rowB_ (nx .dead s.blks 1)))) (cond (shpSt (h138_0_1 0 0 0 0 0 0 []) s) ((fun (q0 : Int) (q1 : Int) (v0 : Int) (v1 : Int) (v2 : Int) (v3 : Int) (v4 : List Int) => q_impl_Table_powers_l0 (fun x0 k => q_impl_ShapleyNumbers_1 x0 q0 q1 k) N v0 v1 v2 v3 v4 (fun y0 => K (.exit 0) (x138_0_1_k0 q0 q1 y0))) (intF (nx .no (nx ([], 0) (dfnS (oneA (vT (nx tund s.tmps 1)))) 0).1 0)) (intF (nx .no (nx ([], 0) (dfnS (oneA (vT (nx tund s.tmps 1)))) 0).1 1)) (intS (oneA (vT (nx tund s.tmps 15)))) (intS (oneA (vT (nx tund s.tmps 16)))) (intS (nx .und (cellsB (nx .dead s.blks 0)) 0)) (intS (nx .und (cellsB (nx .dead s.blks 0)) 1)) (rInts (rowB_ (nx .dead s.blks 1)))) (none))
def LS138_0 {β : Type} (N : Nat) : LSpec β := VLS138_0 N (impl_Table_powers_l0 N) (impl_BanzhafNumbers_1 N) (impl_ShapleyNumbers_1 N)
theorem fl138_1_0 (s : St) : refSt (h138_1_0 0 0 0 0 0 0 0 []) s = h138_1_0 (intS (oneA (vT (nx tund s.tmps 6)))) (intS (oneA (vT (nx tund s.tmps 15)))) (intS (oneA (vT (nx tund s.tmps 16)))) (intS (oneA (vT (nx tund s.tmps 20)))) (intS (oneA (vT (nx tund s.tmps 21)))) (intS (nx .und (cellsB (nx .dead s.blks 0)) 0)) (intS (nx .und (cellsB (nx .dead s.blks 0)) 1)) (rInts (rowB_ (nx .dead s.blks 1))) := by kernel_rfl
theorem fl138_1_1 (s : St) : refSt (h138_1_1 0 0 0 0 0 0 0 0 0 []) s = h138_1_1 (intF (nx .no (nx ([], 0) (dfnS (oneA (vT (nx tund s.tmps 1)))) 0).1 0)) (intF (nx .no (nx ([], 0) (dfnS (oneA (vT (nx tund s.tmps 1)))) 0).1 1)) (intS (oneA (vT (nx tund s.tmps 6)))) (intS (oneA (vT (nx tund s.tmps 15)))) (intS (oneA (vT (nx tund s.tmps 16)))) (intS (oneA (vT (nx tund s.tmps 20)))) (intS (oneA (vT (nx tund s.tmps 21)))) (intS (nx .und (cellsB (nx .dead s.blks 0)) 0)) (intS (nx .und (cellsB (nx .dead s.blks 0)) 1)) (rInts (rowB_ (nx .dead s.blks 1))) := by kernel_rfl
def VLS138_2 {β : Type} (N : Nat) (q_impl_Table_powers_l2 : (a2 : (Int → (Int → Option β) → Option β)) → Nat → Int → Int → Int → Int → Int → Int → Int → List Int → (Int → Int → Int → Int → List Int → Option β) → Option β) (q_impl_BanzhafNumbers_1 : (a0 : Int) → (k : Int → Option β) → Option β) (q_impl_ShapleyNumbers_1 : (a0 : Int) → (c0 : Int) → (c1 : Int) → (k : Int → Option β) → Option β) : LSpec β := fun s K => cond (shpSt (h138_1_0 0 0 0 0 0 0 0 []) s) ((fun (v0 : Int) (v1 : Int) (v2 : Int) (v3 : Int) (v4 : Int) (v5 : Int) (v6 : Int) (v7 : List Int) => q_impl_Table_powers_l2 (fun x0 k => q_impl_BanzhafNumbers_1 x0 k) N v0 v1 v2 v3 v4 v5 v6 v7 (fun y0 y1 y2 y3 y4 => K (.exit 2) (x138_1_0_k0  y0 y1 y2 y3 y4))) (intS (oneA (vT (nx tund s.tmps 6)))) (intS (oneA (vT (nx tund s.tmps 15)))) (intS (oneA (vT (nx tund s.tmps 16)))) (intS (oneA (vT (nx tund s.tmps 20)))) (intS (oneA (vT (nx tund s.tmps 21)))) (intS (nx .und (cellsB (nx .dead s.blks 0)) 0)) (intS (nx .und (cellsB (nx .dead s.blks 0)) 1)) (rInts (rowB_ (nx .dead s.blks 1)))) (cond (shpSt (h138_1_1 0 0 0 0 0 0 0 0 0 []) s) ((fun (q0 : Int) (q1 : Int) (v0 : Int) (v1 : Int) (v2 : Int) (v3 : Int) (v4 : Int) (v5 : Int) (v6 : Int) (v7 : List Int) => q_impl_Table_powers_l2 (fun x0 k => q_impl_ShapleyNumbers_1 x0 q0 q1 k) N v0 v1 v2 v3 v4 v5 v6 v7 (fun y0 y1 y2 y3 y4 => K (.exit 2) (x138_1_1_k0 q0 q1 y0 y1 y2 y3 y4))) (intF (nx .no (nx ([], 0) (dfnS (oneA (vT (nx tund s.tmps 1)))) 0).1 0)) (intF (nx .no (nx ([], 0) (dfnS (oneA (vT (nx tund s.tmps 1)))) 0).1 1)) (intS (oneA (vT (nx tund s.tmps 6)))) (intS (oneA (vT (nx tund s.tmps 15)))) (intS (oneA (vT (nx tund s.tmps 16)))) (intS (oneA (vT (nx tund s.tmps 20)))) (intS (oneA (vT (nx tund s.tmps 21)))) (intS (nx .und (cellsB (nx .dead s.blks 0)) 0)) (intS (nx .und (cellsB (nx .dead s.blks 0)) 1)) (rInts (rowB_ (nx .dead s.blks 1)))) (none))
def LS138_2 {β : Type} (N : Nat) : LSpec β := VLS138_2 N (impl_Table_powers_l2 N) (impl_BanzhafNumbers_1 N) (impl_ShapleyNumbers_1 N)
def VE138 {β : Type} (N : Nat) (q_impl_IsSimpleGame : (a0 : Int) → (a1 : Int) → (k : Bool → Option β) → Option β) (q_impl_Table_size : (a0 : Int) → (a1 : Int) → (k : Int → Option β) → Option β) (q_impl_Table_changes : (a0 : Int) → (a1 : Int) → (a2 : Int) → (a3 : Int) → (k : Bool → Option β) → Option β) (q_impl_ones : (a0 : Int) → (k : Int → Option β) → Option β) (q_impl_BanzhafNumbers_1 : (a0 : Int) → (k : Int → Option β) → Option β) (q_impl_ShapleyNumbers_1 : (a0 : Int) → (c0 : Int) → (c1 : Int) → (k : Int → Option β) → Option β) (q_impl_Table_powers_l0 : (a2 : (Int → (Int → Option β) → Option β)) → Nat → Int → Int → Int → Int → List Int → (List Int → Option β) → Option β) (q_impl_Table_powers_l2 : (a2 : (Int → (Int → Option β) → Option β)) → Nat → Int → Int → Int → Int → Int → Int → Int → List Int → (Int → Int → Int → Int → List Int → Option β) → Option β) : Env β := ⟨[(77, VS77 N q_impl_IsSimpleGame), (125, VS125 N q_impl_Table_size), (193, VS193 N q_impl_Table_changes), (129, VS129 N q_impl_ones), (139, VS139 N q_impl_BanzhafNumbers_1), (140, VS140 N q_impl_ShapleyNumbers_1)], [], [(0, VLS138_0 N q_impl_Table_powers_l0 q_impl_BanzhafNumbers_1 q_impl_ShapleyNumbers_1), (2, VLS138_2 N q_impl_Table_powers_l2 q_impl_BanzhafNumbers_1 q_impl_ShapleyNumbers_1)], [], ⟨[], [], []⟩⟩
def E138 {β : Type} (N : Nat) : Env β := VE138 N (impl_IsSimpleGame N) (impl_Table_size N) (impl_Table_changes N) (impl_ones N) (impl_BanzhafNumbers_1 N) (impl_ShapleyNumbers_1 N) (impl_Table_powers_l0 N) (impl_Table_powers_l2 N)
def BV_impl_Table_powers_l0b {β : Type} (N : Nat) (q_impl_Table_size : (a0 : Int) → (a1 : Int) → (k : Int → Option β) → Option β) (q_impl_Table_powers_l2 : (a2 : (Int → (Int → Option β) → Option β)) → Nat → Int → Int → Int → Int → Int → Int → Int → List Int → (Int → Int → Int → Int → List Int → Option β) → Option β) (a2 : (Int → (Int → Option β) → Option β)) (v0 : Int) (v1 : Int) (v2 : Int) (v3 : Int) (v4 : List Int) (rec_ : Int → Int → Int → Int → List Int → Option β) (k0 : List Int → Option β) : Option β :=
(cond ((decide (v1 < v0)))
(q_impl_Table_size v2 v3 fun r5 =>
q_impl_Table_powers_l2 a2 N v1 v0 v1 r5 0 v2 v3 v4 (fun e9_0 e9_1 e9_2 e9_3 e9_4 =>
rec_ e9_0 ((w64 (e9_1 + 1))) e9_2 e9_3 e9_4))
(k0 v4))
theorem t_impl_Table_powers_l0b {β : Type} (N : Nat) (a2 : (Int → (Int → Option β) → Option β)) (v0 : Int) (v1 : Int) (v2 : Int) (v3 : Int) (v4 : List Int) (rec_ : Int → Int → Int → Int → List Int → Option β) (k0 : List Int → Option β) : impl_Table_powers_l0b N a2 v0 v1 v2 v3 v4 rec_ k0 = BV_impl_Table_powers_l0b N (impl_Table_size N) (impl_Table_powers_l2 N) a2 v0 v1 v2 v3 v4 rec_ k0 := by
  unfold impl_Table_powers_l0b BV_impl_Table_powers_l0b
  rfl
theorem vst138_0_0 {β : Type} (N : Nat) (q_impl_IsSimpleGame : (a0 : Int) → (a1 : Int) → (k : Bool → Option β) → Option β) (q_impl_Table_size : (a0 : Int) → (a1 : Int) → (k : Int → Option β) → Option β) (q_impl_Table_changes : (a0 : Int) → (a1 : Int) → (a2 : Int) → (a3 : Int) → (k : Bool → Option β) → Option β) (q_impl_ones : (a0 : Int) → (k : Int → Option β) → Option β) (q_impl_BanzhafNumbers_1 : (a0 : Int) → (k : Int → Option β) → Option β) (q_impl_ShapleyNumbers_1 : (a0 : Int) → (c0 : Int) → (c1 : Int) → (k : Int → Option β) → Option β) (q_impl_Table_powers_l0 : (a2 : (Int → (Int → Option β) → Option β)) → Nat → Int → Int → Int → Int → List Int → (List Int → Option β) → Option β) (q_impl_Table_powers_l2 : (a2 : (Int → (Int → Option β) → Option β)) → Nat → Int → Int → Int → Int → Int → Int → Int → List Int → (Int → Int → Int → Int → List Int → Option β) → Option β)  (v0 : Int) (v1 : Int) (v2 : Int) (v3 : Int) (v4 : List Int) (rec_ : St → Option β) (K : Exit → St → Option β) :
    ev lay (VE138 N q_impl_IsSimpleGame q_impl_Table_size q_impl_Table_changes q_impl_ones q_impl_BanzhafNumbers_1 q_impl_ShapleyNumbers_1 q_impl_Table_powers_l0 q_impl_Table_powers_l2) (retMask Tryd.f138) (lp Tryd.f138 0).body (lp Tryd.f138 0).ex ((lp Tryd.f138 0).lv (retMask Tryd.f138)) (h138_0_0  v0 v1 v2 v3 v4) (nextR (fun s' => rec_ (s'.tidy ((lp Tryd.f138 0).lv (retMask Tryd.f138)))) K) = BV_impl_Table_powers_l0b N q_impl_Table_size q_impl_Table_powers_l2 (fun x0 k => q_impl_BanzhafNumbers_1 x0 k) v0 v1 v2 v3 v4 (fun v0 v1 v2 v3 v4 => rec_ (h138_0_0  v0 v1 v2 v3 v4)) (fun y0 => K (.exit 0) (x138_0_0_k0  y0)) := by kernel_rfl
theorem st138_0_0 {β : Type} (N : Nat)  (v0 : Int) (v1 : Int) (v2 : Int) (v3 : Int) (v4 : List Int) (rec_ : St → Option β) (K : Exit → St → Option β) :
    ev lay (E138 N) (retMask Tryd.f138) (lp Tryd.f138 0).body (lp Tryd.f138 0).ex ((lp Tryd.f138 0).lv (retMask Tryd.f138)) (h138_0_0  v0 v1 v2 v3 v4) (nextR (fun s' => rec_ (s'.tidy ((lp Tryd.f138 0).lv (retMask Tryd.f138)))) K) = impl_Table_powers_l0b N (fun x0 k => impl_BanzhafNumbers_1 N x0 k) v0 v1 v2 v3 v4 (fun v0 v1 v2 v3 v4 => rec_ (h138_0_0  v0 v1 v2 v3 v4)) (fun y0 => K (.exit 0) (x138_0_0_k0  y0)) := (vst138_0_0 N (impl_IsSimpleGame N) (impl_Table_size N) (impl_Table_changes N) (impl_ones N) (impl_BanzhafNumbers_1 N) (impl_ShapleyNumbers_1 N) (impl_Table_powers_l0 N) (impl_Table_powers_l2 N) v0 v1 v2 v3 v4 rec_ K).trans (t_impl_Table_powers_l0b N (fun x0 k => impl_BanzhafNumbers_1 N x0 k) v0 v1 v2 v3 v4 (fun v0 v1 v2 v3 v4 => rec_ (h138_0_0  v0 v1 v2 v3 v4)) (fun y0 => K (.exit 0) (x138_0_0_k0  y0))).symm
theorem ro138_0_0 {β : Type} (N : Nat)  (K : Exit → St → Option β) : ∀ (F : Nat) (v0 : Int) (v1 : Int) (v2 : Int) (v3 : Int) (v4 : List Int), (lp Tryd.f138 0).rounds lay (E138 N) (retMask Tryd.f138) F (h138_0_0  v0 v1 v2 v3 v4) K = impl_Table_powers_l0 N (fun x0 k => impl_BanzhafNumbers_1 N x0 k) F v0 v1 v2 v3 v4 (fun y0 => K (.exit 0) (x138_0_0_k0  y0)) := by
  intro F
  induction F with
  | zero => intros; rfl
  | succ F ih =>
    intros
    rw [rounds_next]
    refine (st138_0_0 N  _ _ _ _ _ (fun s => (lp Tryd.f138 0).rounds lay (E138 N) (retMask Tryd.f138) F s K) K).trans ?_
    simp only [ih]
    rfl
theorem vst138_0_1 {β : Type} (N : Nat) (q_impl_IsSimpleGame : (a0 : Int) → (a1 : Int) → (k : Bool → Option β) → Option β) (q_impl_Table_size : (a0 : Int) → (a1 : Int) → (k : Int → Option β) → Option β) (q_impl_Table_changes : (a0 : Int) → (a1 : Int) → (a2 : Int) → (a3 : Int) → (k : Bool → Option β) → Option β) (q_impl_ones : (a0 : Int) → (k : Int → Option β) → Option β) (q_impl_BanzhafNumbers_1 : (a0 : Int) → (k : Int → Option β) → Option β) (q_impl_ShapleyNumbers_1 : (a0 : Int) → (c0 : Int) → (c1 : Int) → (k : Int → Option β) → Option β) (q_impl_Table_powers_l0 : (a2 : (Int → (Int → Option β) → Option β)) → Nat → Int → Int → Int → Int → List Int → (List Int → Option β) → Option β) (q_impl_Table_powers_l2 : (a2 : (Int → (Int → Option β) → Option β)) → Nat → Int → Int → Int → Int → Int → Int → Int → List Int → (Int → Int → Int → Int → List Int → Option β) → Option β) (q0 : Int) (q1 : Int) (v0 : Int) (v1 : Int) (v2 : Int) (v3 : Int) (v4 : List Int) (rec_ : St → Option β) (K : Exit → St → Option β) :
    ev lay (VE138 N q_impl_IsSimpleGame q_impl_Table_size q_impl_Table_changes q_impl_ones q_impl_BanzhafNumbers_1 q_impl_ShapleyNumbers_1 q_impl_Table_powers_l0 q_impl_Table_powers_l2) (retMask Tryd.f138) (lp Tryd.f138 0).body (lp Tryd.f138 0).ex ((lp Tryd.f138 0).lv (retMask Tryd.f138)) (h138_0_1 q0 q1 v0 v1 v2 v3 v4) (nextR (fun s' => rec_ (s'.tidy ((lp Tryd.f138 0).lv (retMask Tryd.f138)))) K) = BV_impl_Table_powers_l0b N q_impl_Table_size q_impl_Table_powers_l2 (fun x0 k => q_impl_ShapleyNumbers_1 x0 q0 q1 k) v0 v1 v2 v3 v4 (fun v0 v1 v2 v3 v4 => rec_ (h138_0_1 q0 q1 v0 v1 v2 v3 v4)) (fun y0 => K (.exit 0) (x138_0_1_k0 q0 q1 y0)) := by kernel_rfl
theorem st138_0_1 {β : Type} (N : Nat) (q0 : Int) (q1 : Int) (v0 : Int) (v1 : Int) (v2 : Int) (v3 : Int) (v4 : List Int) (rec_ : St → Option β) (K : Exit → St → Option β) :
    ev lay (E138 N) (retMask Tryd.f138) (lp Tryd.f138 0).body (lp Tryd.f138 0).ex ((lp Tryd.f138 0).lv (retMask Tryd.f138)) (h138_0_1 q0 q1 v0 v1 v2 v3 v4) (nextR (fun s' => rec_ (s'.tidy ((lp Tryd.f138 0).lv (retMask Tryd.f138)))) K) = impl_Table_powers_l0b N (fun x0 k => impl_ShapleyNumbers_1 N x0 q0 q1 k) v0 v1 v2 v3 v4 (fun v0 v1 v2 v3 v4 => rec_ (h138_0_1 q0 q1 v0 v1 v2 v3 v4)) (fun y0 => K (.exit 0) (x138_0_1_k0 q0 q1 y0)) := (vst138_0_1 N (impl_IsSimpleGame N) (impl_Table_size N) (impl_Table_changes N) (impl_ones N) (impl_BanzhafNumbers_1 N) (impl_ShapleyNumbers_1 N) (impl_Table_powers_l0 N) (impl_Table_powers_l2 N) q0 q1 v0 v1 v2 v3 v4 rec_ K).trans (t_impl_Table_powers_l0b N (fun x0 k => impl_ShapleyNumbers_1 N x0 q0 q1 k) v0 v1 v2 v3 v4 (fun v0 v1 v2 v3 v4 => rec_ (h138_0_1 q0 q1 v0 v1 v2 v3 v4)) (fun y0 => K (.exit 0) (x138_0_1_k0 q0 q1 y0))).symm
theorem ro138_0_1 {β : Type} (N : Nat) (q0 : Int) (q1 : Int) (K : Exit → St → Option β) : ∀ (F : Nat) (v0 : Int) (v1 : Int) (v2 : Int) (v3 : Int) (v4 : List Int), (lp Tryd.f138 0).rounds lay (E138 N) (retMask Tryd.f138) F (h138_0_1 q0 q1 v0 v1 v2 v3 v4) K = impl_Table_powers_l0 N (fun x0 k => impl_ShapleyNumbers_1 N x0 q0 q1 k) F v0 v1 v2 v3 v4 (fun y0 => K (.exit 0) (x138_0_1_k0 q0 q1 y0)) := by
  intro F
  induction F with
  | zero => intros; rfl
  | succ F ih =>
    intros
    rw [rounds_next]
    refine (st138_0_1 N q0 q1 _ _ _ _ _ (fun s => (lp Tryd.f138 0).rounds lay (E138 N) (retMask Tryd.f138) F s K) K).trans ?_
    simp only [ih]
    rfl
theorem lk138_0 {β : Type} (N : Nat) : lookL (E138 (β := β) N).loops (lp Tryd.f138 0).id = LS138_0 N := by kernel_rfl
theorem rk138_0 {β : Type} (N : Nat) : RoundsOK lay (E138 (β := β) N) (retMask Tryd.f138) (lp Tryd.f138 0) := by
  intro s K r h
  rw [lk138_0] at h
  unfold LS138_0 VLS138_0 at h
  cases hb : shpSt (h138_0_0 0 0 0 0 []) s with
  | true =>
    rw [hb, cond_true] at h
    exact ⟨N, by rw [← shpSt_ref hb, fl138_0_0 s]; exact (ro138_0_0 N  K N (intS (oneA (vT (nx tund s.tmps 15)))) (intS (oneA (vT (nx tund s.tmps 16)))) (intS (nx .und (cellsB (nx .dead s.blks 0)) 0)) (intS (nx .und (cellsB (nx .dead s.blks 0)) 1)) (rInts (rowB_ (nx .dead s.blks 1)))).trans h⟩
  | false =>
  rw [hb, cond_false] at h
  clear hb
  cases hb : shpSt (h138_0_1 0 0 0 0 0 0 []) s with
  | true =>
    rw [hb, cond_true] at h
    exact ⟨N, by rw [← shpSt_ref hb, fl138_0_1 s]; exact (ro138_0_1 N (intF (nx .no (nx ([], 0) (dfnS (oneA (vT (nx tund s.tmps 1)))) 0).1 0)) (intF (nx .no (nx ([], 0) (dfnS (oneA (vT (nx tund s.tmps 1)))) 0).1 1)) K N (intS (oneA (vT (nx tund s.tmps 15)))) (intS (oneA (vT (nx tund s.tmps 16)))) (intS (nx .und (cellsB (nx .dead s.blks 0)) 0)) (intS (nx .und (cellsB (nx .dead s.blks 0)) 1)) (rInts (rowB_ (nx .dead s.blks 1)))).trans h⟩
  | false =>
  rw [hb, cond_false] at h
  clear hb
  cases h
def BV_impl_Table_powers_l2b {β : Type} (N : Nat) (q_impl_Table_changes : (a0 : Int) → (a1 : Int) → (a2 : Int) → (a3 : Int) → (k : Bool → Option β) → Option β) (q_impl_ones : (a0 : Int) → (k : Int → Option β) → Option β) (a2 : (Int → (Int → Option β) → Option β)) (v0 : Int) (v1 : Int) (v2 : Int) (v3 : Int) (v4 : Int) (v5 : Int) (v6 : Int) (v7 : List Int) (rec_ : Int → Int → Int → Int → Int → Int → Int → List Int → Option β) (k0 : Int → Int → Int → Int → List Int → Option β) : Option β :=
(cond ((decide (v4 < v3)))
((gd ((decide (0 ≤ v0)))
((cond (((bits .and .i64 (shrI .i64 v4 v0) 1) == 0))
((gd ((decide (0 ≤ v0)))
(q_impl_Table_changes v5 v6 v4 ((shlI .i64 1 v0)) fun r6 =>
(cond r6
((gd ((decide (0 ≤ v0)))
((gd ((decide (v0 < (v7.length : Int))))
(q_impl_ones v4 fun r7 =>
a2 r7 fun r8 =>
(gd ((decide (0 ≤ v0)))
((gd ((decide (v0 < (v7.length : Int))))
(rec_ v0 v1 v2 v3 ((w64 (v4 + 1))) v5 v6 ((wr v7 v0 (w64 ((rd 0 v7 v0) + r8)))))))))))))
(rec_ v0 v1 v2 v3 ((w64 (v4 + 1))) v5 v6 v7)))))
(rec_ v0 v1 v2 v3 ((w64 (v4 + 1))) v5 v6 v7)))))
(k0 v1 v2 v5 v6 v7))
theorem t_impl_Table_powers_l2b {β : Type} (N : Nat) (a2 : (Int → (Int → Option β) → Option β)) (v0 : Int) (v1 : Int) (v2 : Int) (v3 : Int) (v4 : Int) (v5 : Int) (v6 : Int) (v7 : List Int) (rec_ : Int → Int → Int → Int → Int → Int → Int → List Int → Option β) (k0 : Int → Int → Int → Int → List Int → Option β) : impl_Table_powers_l2b N a2 v0 v1 v2 v3 v4 v5 v6 v7 rec_ k0 = BV_impl_Table_powers_l2b N (impl_Table_changes N) (impl_ones N) a2 v0 v1 v2 v3 v4 v5 v6 v7 rec_ k0 := by
  unfold impl_Table_powers_l2b BV_impl_Table_powers_l2b
  rfl
theorem vst138_1_0 {β : Type} (N : Nat) (q_impl_IsSimpleGame : (a0 : Int) → (a1 : Int) → (k : Bool → Option β) → Option β) (q_impl_Table_size : (a0 : Int) → (a1 : Int) → (k : Int → Option β) → Option β) (q_impl_Table_changes : (a0 : Int) → (a1 : Int) → (a2 : Int) → (a3 : Int) → (k : Bool → Option β) → Option β) (q_impl_ones : (a0 : Int) → (k : Int → Option β) → Option β) (q_impl_BanzhafNumbers_1 : (a0 : Int) → (k : Int → Option β) → Option β) (q_impl_ShapleyNumbers_1 : (a0 : Int) → (c0 : Int) → (c1 : Int) → (k : Int → Option β) → Option β) (q_impl_Table_powers_l0 : (a2 : (Int → (Int → Option β) → Option β)) → Nat → Int → Int → Int → Int → List Int → (List Int → Option β) → Option β) (q_impl_Table_powers_l2 : (a2 : (Int → (Int → Option β) → Option β)) → Nat → Int → Int → Int → Int → Int → Int → Int → List Int → (Int → Int → Int → Int → List Int → Option β) → Option β)  (v0 : Int) (v1 : Int) (v2 : Int) (v3 : Int) (v4 : Int) (v5 : Int) (v6 : Int) (v7 : List Int) (rec_ : St → Option β) (K : Exit → St → Option β) :
    ev lay (VE138 N q_impl_IsSimpleGame q_impl_Table_size q_impl_Table_changes q_impl_ones q_impl_BanzhafNumbers_1 q_impl_ShapleyNumbers_1 q_impl_Table_powers_l0 q_impl_Table_powers_l2) (retMask Tryd.f138) (lp Tryd.f138 1).body (lp Tryd.f138 1).ex ((lp Tryd.f138 1).lv (retMask Tryd.f138)) (h138_1_0  v0 v1 v2 v3 v4 v5 v6 v7) (nextR (fun s' => rec_ (s'.tidy ((lp Tryd.f138 1).lv (retMask Tryd.f138)))) K) = BV_impl_Table_powers_l2b N q_impl_Table_changes q_impl_ones (fun x0 k => q_impl_BanzhafNumbers_1 x0 k) v0 v1 v2 v3 v4 v5 v6 v7 (fun v0 v1 v2 v3 v4 v5 v6 v7 => rec_ (h138_1_0  v0 v1 v2 v3 v4 v5 v6 v7)) (fun y0 y1 y2 y3 y4 => K (.exit 2) (x138_1_0_k0  y0 y1 y2 y3 y4)) := by kernel_rfl
theorem st138_1_0 {β : Type} (N : Nat)  (v0 : Int) (v1 : Int) (v2 : Int) (v3 : Int) (v4 : Int) (v5 : Int) (v6 : Int) (v7 : List Int) (rec_ : St → Option β) (K : Exit → St → Option β) :
    ev lay (E138 N) (retMask Tryd.f138) (lp Tryd.f138 1).body (lp Tryd.f138 1).ex ((lp Tryd.f138 1).lv (retMask Tryd.f138)) (h138_1_0  v0 v1 v2 v3 v4 v5 v6 v7) (nextR (fun s' => rec_ (s'.tidy ((lp Tryd.f138 1).lv (retMask Tryd.f138)))) K) = impl_Table_powers_l2b N (fun x0 k => impl_BanzhafNumbers_1 N x0 k) v0 v1 v2 v3 v4 v5 v6 v7 (fun v0 v1 v2 v3 v4 v5 v6 v7 => rec_ (h138_1_0  v0 v1 v2 v3 v4 v5 v6 v7)) (fun y0 y1 y2 y3 y4 => K (.exit 2) (x138_1_0_k0  y0 y1 y2 y3 y4)) := (vst138_1_0 N (impl_IsSimpleGame N) (impl_Table_size N) (impl_Table_changes N) (impl_ones N) (impl_BanzhafNumbers_1 N) (impl_ShapleyNumbers_1 N) (impl_Table_powers_l0 N) (impl_Table_powers_l2 N) v0 v1 v2 v3 v4 v5 v6 v7 rec_ K).trans (t_impl_Table_powers_l2b N (fun x0 k => impl_BanzhafNumbers_1 N x0 k) v0 v1 v2 v3 v4 v5 v6 v7 (fun v0 v1 v2 v3 v4 v5 v6 v7 => rec_ (h138_1_0  v0 v1 v2 v3 v4 v5 v6 v7)) (fun y0 y1 y2 y3 y4 => K (.exit 2) (x138_1_0_k0  y0 y1 y2 y3 y4))).symm
theorem ro138_1_0 {β : Type} (N : Nat)  (K : Exit → St → Option β) : ∀ (F : Nat) (v0 : Int) (v1 : Int) (v2 : Int) (v3 : Int) (v4 : Int) (v5 : Int) (v6 : Int) (v7 : List Int), (lp Tryd.f138 1).rounds lay (E138 N) (retMask Tryd.f138) F (h138_1_0  v0 v1 v2 v3 v4 v5 v6 v7) K = impl_Table_powers_l2 N (fun x0 k => impl_BanzhafNumbers_1 N x0 k) F v0 v1 v2 v3 v4 v5 v6 v7 (fun y0 y1 y2 y3 y4 => K (.exit 2) (x138_1_0_k0  y0 y1 y2 y3 y4)) := by
  intro F
  induction F with
  | zero => intros; rfl
  | succ F ih =>
    intros
    rw [rounds_next]
    refine (st138_1_0 N  _ _ _ _ _ _ _ _ (fun s => (lp Tryd.f138 1).rounds lay (E138 N) (retMask Tryd.f138) F s K) K).trans ?_
    simp only [ih]
    rfl
theorem vst138_1_1 {β : Type} (N : Nat) (q_impl_IsSimpleGame : (a0 : Int) → (a1 : Int) → (k : Bool → Option β) → Option β) (q_impl_Table_size : (a0 : Int) → (a1 : Int) → (k : Int → Option β) → Option β) (q_impl_Table_changes : (a0 : Int) → (a1 : Int) → (a2 : Int) → (a3 : Int) → (k : Bool → Option β) → Option β) (q_impl_ones : (a0 : Int) → (k : Int → Option β) → Option β) (q_impl_BanzhafNumbers_1 : (a0 : Int) → (k : Int → Option β) → Option β) (q_impl_ShapleyNumbers_1 : (a0 : Int) → (c0 : Int) → (c1 : Int) → (k : Int → Option β) → Option β) (q_impl_Table_powers_l0 : (a2 : (Int → (Int → Option β) → Option β)) → Nat → Int → Int → Int → Int → List Int → (List Int → Option β) → Option β) (q_impl_Table_powers_l2 : (a2 : (Int → (Int → Option β) → Option β)) → Nat → Int → Int → Int → Int → Int → Int → Int → List Int → (Int → Int → Int → Int → List Int → Option β) → Option β) (q0 : Int) (q1 : Int) (v0 : Int) (v1 : Int) (v2 : Int) (v3 : Int) (v4 : Int) (v5 : Int) (v6 : Int) (v7 : List Int) (rec_ : St → Option β) (K : Exit → St → Option β) :
    ev lay (VE138 N q_impl_IsSimpleGame q_impl_Table_size q_impl_Table_changes q_impl_ones q_impl_BanzhafNumbers_1 q_impl_ShapleyNumbers_1 q_impl_Table_powers_l0 q_impl_Table_powers_l2) (retMask Tryd.f138) (lp Tryd.f138 1).body (lp Tryd.f138 1).ex ((lp Tryd.f138 1).lv (retMask Tryd.f138)) (h138_1_1 q0 q1 v0 v1 v2 v3 v4 v5 v6 v7) (nextR (fun s' => rec_ (s'.tidy ((lp Tryd.f138 1).lv (retMask Tryd.f138)))) K) = BV_impl_Table_powers_l2b N q_impl_Table_changes q_impl_ones (fun x0 k => q_impl_ShapleyNumbers_1 x0 q0 q1 k) v0 v1 v2 v3 v4 v5 v6 v7 (fun v0 v1 v2 v3 v4 v5 v6 v7 => rec_ (h138_1_1 q0 q1 v0 v1 v2 v3 v4 v5 v6 v7)) (fun y0 y1 y2 y3 y4 => K (.exit 2) (x138_1_1_k0 q0 q1 y0 y1 y2 y3 y4)) := by kernel_rfl
theorem st138_1_1 {β : Type} (N : Nat) (q0 : Int) (q1 : Int) (v0 : Int) (v1 : Int) (v2 : Int) (v3 : Int) (v4 : Int) (v5 : Int) (v6 : Int) (v7 : List Int) (rec_ : St → Option β) (K : Exit → St → Option β) :
    ev lay (E138 N) (retMask Tryd.f138) (lp Tryd.f138 1).body (lp Tryd.f138 1).ex ((lp Tryd.f138 1).lv (retMask Tryd.f138)) (h138_1_1 q0 q1 v0 v1 v2 v3 v4 v5 v6 v7) (nextR (fun s' => rec_ (s'.tidy ((lp Tryd.f138 1).lv (retMask Tryd.f138)))) K) = impl_Table_powers_l2b N (fun x0 k => impl_ShapleyNumbers_1 N x0 q0 q1 k) v0 v1 v2 v3 v4 v5 v6 v7 (fun v0 v1 v2 v3 v4 v5 v6 v7 => rec_ (h138_1_1 q0 q1 v0 v1 v2 v3 v4 v5 v6 v7)) (fun y0 y1 y2 y3 y4 => K (.exit 2) (x138_1_1_k0 q0 q1 y0 y1 y2 y3 y4)) := (vst138_1_1 N (impl_IsSimpleGame N) (impl_Table_size N) (impl_Table_changes N) (impl_ones N) (impl_BanzhafNumbers_1 N) (impl_ShapleyNumbers_1 N) (impl_Table_powers_l0 N) (impl_Table_powers_l2 N) q0 q1 v0 v1 v2 v3 v4 v5 v6 v7 rec_ K).trans (t_impl_Table_powers_l2b N (fun x0 k => impl_ShapleyNumbers_1 N x0 q0 q1 k) v0 v1 v2 v3 v4 v5 v6 v7 (fun v0 v1 v2 v3 v4 v5 v6 v7 => rec_ (h138_1_1 q0 q1 v0 v1 v2 v3 v4 v5 v6 v7)) (fun y0 y1 y2 y3 y4 => K (.exit 2) (x138_1_1_k0 q0 q1 y0 y1 y2 y3 y4))).symm
theorem ro138_1_1 {β : Type} (N : Nat) (q0 : Int) (q1 : Int) (K : Exit → St → Option β) : ∀ (F : Nat) (v0 : Int) (v1 : Int) (v2 : Int) (v3 : Int) (v4 : Int) (v5 : Int) (v6 : Int) (v7 : List Int), (lp Tryd.f138 1).rounds lay (E138 N) (retMask Tryd.f138) F (h138_1_1 q0 q1 v0 v1 v2 v3 v4 v5 v6 v7) K = impl_Table_powers_l2 N (fun x0 k => impl_ShapleyNumbers_1 N x0 q0 q1 k) F v0 v1 v2 v3 v4 v5 v6 v7 (fun y0 y1 y2 y3 y4 => K (.exit 2) (x138_1_1_k0 q0 q1 y0 y1 y2 y3 y4)) := by
  intro F
  induction F with
  | zero => intros; rfl
  | succ F ih =>
    intros
    rw [rounds_next]
    refine (st138_1_1 N q0 q1 _ _ _ _ _ _ _ _ (fun s => (lp Tryd.f138 1).rounds lay (E138 N) (retMask Tryd.f138) F s K) K).trans ?_
    simp only [ih]
    rfl
theorem lk138_2 {β : Type} (N : Nat) : lookL (E138 (β := β) N).loops (lp Tryd.f138 1).id = LS138_2 N := by kernel_rfl
theorem rk138_2 {β : Type} (N : Nat) : RoundsOK lay (E138 (β := β) N) (retMask Tryd.f138) (lp Tryd.f138 1) := by
  intro s K r h
  rw [lk138_2] at h
  unfold LS138_2 VLS138_2 at h
  cases hb : shpSt (h138_1_0 0 0 0 0 0 0 0 []) s with
  | true =>
    rw [hb, cond_true] at h
    exact ⟨N, by rw [← shpSt_ref hb, fl138_1_0 s]; exact (ro138_1_0 N  K N (intS (oneA (vT (nx tund s.tmps 6)))) (intS (oneA (vT (nx tund s.tmps 15)))) (intS (oneA (vT (nx tund s.tmps 16)))) (intS (oneA (vT (nx tund s.tmps 20)))) (intS (oneA (vT (nx tund s.tmps 21)))) (intS (nx .und (cellsB (nx .dead s.blks 0)) 0)) (intS (nx .und (cellsB (nx .dead s.blks 0)) 1)) (rInts (rowB_ (nx .dead s.blks 1)))).trans h⟩
  | false =>
  rw [hb, cond_false] at h
  clear hb
  cases hb : shpSt (h138_1_1 0 0 0 0 0 0 0 0 0 []) s with
  | true =>
    rw [hb, cond_true] at h
    exact ⟨N, by rw [← shpSt_ref hb, fl138_1_1 s]; exact (ro138_1_1 N (intF (nx .no (nx ([], 0) (dfnS (oneA (vT (nx tund s.tmps 1)))) 0).1 0)) (intF (nx .no (nx ([], 0) (dfnS (oneA (vT (nx tund s.tmps 1)))) 0).1 1)) K N (intS (oneA (vT (nx tund s.tmps 6)))) (intS (oneA (vT (nx tund s.tmps 15)))) (intS (oneA (vT (nx tund s.tmps 16)))) (intS (oneA (vT (nx tund s.tmps 20)))) (intS (oneA (vT (nx tund s.tmps 21)))) (intS (nx .und (cellsB (nx .dead s.blks 0)) 0)) (intS (nx .und (cellsB (nx .dead s.blks 0)) 1)) (rInts (rowB_ (nx .dead s.blks 1)))).trans h⟩
  | false =>
  rw [hb, cond_false] at h
  clear hb
  cases h
def BV_impl_Table_powers {β : Type} (N : Nat) (q_impl_IsSimpleGame : (a0 : Int) → (a1 : Int) → (k : Bool → Option β) → Option β) (q_impl_Table_powers_l0 : (a2 : (Int → (Int → Option β) → Option β)) → Nat → Int → Int → Int → Int → List Int → (List Int → Option β) → Option β) (a0 : Int) (a1 : Int) (a2 : (Int → (Int → Option β) → Option β)) (k : List Int → Option β) : Option β :=
q_impl_IsSimpleGame a0 a1 fun r4 =>
(cond (!r4)
(k (([] : List Int)))
((gd ((decide (0 ≤ a0)))
((gd ((decide (a0 ≤ a0)))
((gd ((decide (8 * a0 ≤ 281474976710656)))
(q_impl_Table_powers_l0 a2 N ((((List.replicate (Int.toNat a0) (0 : Int))).length : Int)) 0 a0 a1 ((List.replicate (Int.toNat a0) (0 : Int))) (fun e10_0 =>
k e10_0)))))))))
theorem t_impl_Table_powers {β : Type} (N : Nat) (a0 : Int) (a1 : Int) (a2 : (Int → (Int → Option β) → Option β)) (k : List Int → Option β) : impl_Table_powers N a0 a1 a2 k = BV_impl_Table_powers N (impl_IsSimpleGame N) (impl_Table_powers_l0 N) a0 a1 a2 k := by
  unfold impl_Table_powers BV_impl_Table_powers
  rfl
theorem ve138_0 {β : Type} (N : Nat) (q_impl_IsSimpleGame : (a0 : Int) → (a1 : Int) → (k : Bool → Option β) → Option β) (q_impl_Table_size : (a0 : Int) → (a1 : Int) → (k : Int → Option β) → Option β) (q_impl_Table_changes : (a0 : Int) → (a1 : Int) → (a2 : Int) → (a3 : Int) → (k : Bool → Option β) → Option β) (q_impl_ones : (a0 : Int) → (k : Int → Option β) → Option β) (q_impl_BanzhafNumbers_1 : (a0 : Int) → (k : Int → Option β) → Option β) (q_impl_ShapleyNumbers_1 : (a0 : Int) → (c0 : Int) → (c1 : Int) → (k : Int → Option β) → Option β) (q_impl_Table_powers_l0 : (a2 : (Int → (Int → Option β) → Option β)) → Nat → Int → Int → Int → Int → List Int → (List Int → Option β) → Option β) (q_impl_Table_powers_l2 : (a2 : (Int → (Int → Option β) → Option β)) → Nat → Int → Int → Int → Int → Int → Int → Int → List Int → (Int → Int → Int → Int → List Int → Option β) → Option β)  (a0 : Int) (a1 : Int) (K : TV → Option β) : evFn lay (VE138 N q_impl_IsSimpleGame q_impl_Table_size q_impl_Table_changes q_impl_ones q_impl_BanzhafNumbers_1 q_impl_ShapleyNumbers_1 q_impl_Table_powers_l0 q_impl_Table_powers_l2) Tryd.f138 [.v (.agg [.int .i64 a0, .int .i64 a1]), .v (.one (.fn 139 []))] K = BV_impl_Table_powers N q_impl_IsSimpleGame q_impl_Table_powers_l0 a0 a1 (fun x0 k => q_impl_BanzhafNumbers_1 x0 k) (fun z3 => K (.v (.one (.sl 3 (.ints .i64 z3))))) := by kernel_rfl
theorem e138_0 {β : Type} (N : Nat)  (a0 : Int) (a1 : Int) (K : TV → Option β) : evFn lay (E138 N) Tryd.f138 [.v (.agg [.int .i64 a0, .int .i64 a1]), .v (.one (.fn 139 []))] K = impl_Table_powers N a0 a1 (fun x0 k => impl_BanzhafNumbers_1 N x0 k) (fun z3 => K (.v (.one (.sl 3 (.ints .i64 z3))))) := (ve138_0 N (impl_IsSimpleGame N) (impl_Table_size N) (impl_Table_changes N) (impl_ones N) (impl_BanzhafNumbers_1 N) (impl_ShapleyNumbers_1 N) (impl_Table_powers_l0 N) (impl_Table_powers_l2 N) a0 a1 K).trans (t_impl_Table_powers N a0 a1 (fun x0 k => impl_BanzhafNumbers_1 N x0 k) (fun z3 => K (.v (.one (.sl 3 (.ints .i64 z3)))))).symm
theorem ve138_1 {β : Type} (N : Nat) (q_impl_IsSimpleGame : (a0 : Int) → (a1 : Int) → (k : Bool → Option β) → Option β) (q_impl_Table_size : (a0 : Int) → (a1 : Int) → (k : Int → Option β) → Option β) (q_impl_Table_changes : (a0 : Int) → (a1 : Int) → (a2 : Int) → (a3 : Int) → (k : Bool → Option β) → Option β) (q_impl_ones : (a0 : Int) → (k : Int → Option β) → Option β) (q_impl_BanzhafNumbers_1 : (a0 : Int) → (k : Int → Option β) → Option β) (q_impl_ShapleyNumbers_1 : (a0 : Int) → (c0 : Int) → (c1 : Int) → (k : Int → Option β) → Option β) (q_impl_Table_powers_l0 : (a2 : (Int → (Int → Option β) → Option β)) → Nat → Int → Int → Int → Int → List Int → (List Int → Option β) → Option β) (q_impl_Table_powers_l2 : (a2 : (Int → (Int → Option β) → Option β)) → Nat → Int → Int → Int → Int → Int → Int → Int → List Int → (Int → Int → Int → Int → List Int → Option β) → Option β) (q0 : Int) (q1 : Int) (a0 : Int) (a1 : Int) (K : TV → Option β) : evFn lay (VE138 N q_impl_IsSimpleGame q_impl_Table_size q_impl_Table_changes q_impl_ones q_impl_BanzhafNumbers_1 q_impl_ShapleyNumbers_1 q_impl_Table_powers_l0 q_impl_Table_powers_l2) Tryd.f138 [.v (.agg [.int .i64 a0, .int .i64 a1]), .v (.one (.dfn 140 [([.int .i64 q0, .int .i64 q1], 0)]))] K = BV_impl_Table_powers N q_impl_IsSimpleGame q_impl_Table_powers_l0 a0 a1 (fun x0 k => q_impl_ShapleyNumbers_1 x0 q0 q1 k) (fun z3 => K (.v (.one (.sl 3 (.ints .i64 z3))))) := by kernel_rfl
theorem e138_1 {β : Type} (N : Nat) (q0 : Int) (q1 : Int) (a0 : Int) (a1 : Int) (K : TV → Option β) : evFn lay (E138 N) Tryd.f138 [.v (.agg [.int .i64 a0, .int .i64 a1]), .v (.one (.dfn 140 [([.int .i64 q0, .int .i64 q1], 0)]))] K = impl_Table_powers N a0 a1 (fun x0 k => impl_ShapleyNumbers_1 N x0 q0 q1 k) (fun z3 => K (.v (.one (.sl 3 (.ints .i64 z3))))) := (ve138_1 N (impl_IsSimpleGame N) (impl_Table_size N) (impl_Table_changes N) (impl_ones N) (impl_BanzhafNumbers_1 N) (impl_ShapleyNumbers_1 N) (impl_Table_powers_l0 N) (impl_Table_powers_l2 N) q0 q1 a0 a1 K).trans (t_impl_Table_powers N a0 a1 (fun x0 k => impl_ShapleyNumbers_1 N x0 q0 q1 k) (fun z3 => K (.v (.one (.sl 3 (.ints .i64 z3)))))).symm
theorem o138 {β : Type} (N : Nat) : SpecOK (β := β) inv Tryd.prog 138 (S138 N) := by
  refine spec_of lay_ok mixed (E := E138 N) (specs_loops (specs_cons (o77 N) (specs_cons (o125 N) (specs_cons (o193 N) (specs_cons (o129 N) (specs_cons (o139 N) (specs_cons (o140 N) specs_nil))))))) muts_nil gs_nil Tryd.func138 (by kernel_rfl) 2 (by kernel_rfl) ⟨⟨trivial, rk138_0 N⟩, rk138_2 N⟩ fun args K r h => ?_
  unfold S138 VS138 at h
  split at h
  · exact (e138_0 N _ _ _).trans h
  · exact (e138_1 N _ _ _ _ _).trans h
  · cases h
def VS79 {β : Type} (N : Nat) (q_impl_BanzhafNumbers : (a0 : Int) → (a1 : Int) → (k : List Int → Option β) → Option β) : Rv.Spec β := fun args K => match args with
  | [.v (.agg [.int .i64 a0, .int .i64 a1])] => q_impl_BanzhafNumbers a0 a1 (fun z2 => K (.v (.one (.sl 3 (.ints .i64 z2)))))
  | _ => none
def S79 {β : Type} (N : Nat) : Rv.Spec β := VS79 N (impl_BanzhafNumbers N)
def VE79 {β : Type} (N : Nat) (q_impl_Table_powers : (a0 : Int) → (a1 : Int) → (a2 : (Int → (Int → Option β) → Option β)) → (k : List Int → Option β) → Option β) (q_impl_BanzhafNumbers_1 : (a0 : Int) → (k : Int → Option β) → Option β) (q_impl_ShapleyNumbers_1 : (a0 : Int) → (c0 : Int) → (c1 : Int) → (k : Int → Option β) → Option β) : Env β := ⟨[(138, VS138 N q_impl_Table_powers q_impl_BanzhafNumbers_1 q_impl_ShapleyNumbers_1), (139, VS139 N q_impl_BanzhafNumbers_1)], [], [], [], ⟨[], [], []⟩⟩
def E79 {β : Type} (N : Nat) : Env β := VE79 N (impl_Table_powers N) (impl_BanzhafNumbers_1 N) (impl_ShapleyNumbers_1 N)
def BV_impl_BanzhafNumbers {β : Type} (N : Nat) (q_impl_Table_powers : (a0 : Int) → (a1 : Int) → (a2 : (Int → (Int → Option β) → Option β)) → (k : List Int → Option β) → Option β) (q_impl_BanzhafNumbers_1 : (a0 : Int) → (k : Int → Option β) → Option β) (a0 : Int) (a1 : Int) (k : List Int → Option β) : Option β :=
q_impl_Table_powers a0 a1 (fun x0 k => q_impl_BanzhafNumbers_1 x0 k) fun r3 =>
k r3
theorem t_impl_BanzhafNumbers {β : Type} (N : Nat) (a0 : Int) (a1 : Int) (k : List Int → Option β) : impl_BanzhafNumbers N a0 a1 k = BV_impl_BanzhafNumbers N (impl_Table_powers N) (impl_BanzhafNumbers_1 N) a0 a1 k := by
  unfold impl_BanzhafNumbers BV_impl_BanzhafNumbers
  rfl
theorem ve79_0 {β : Type} (N : Nat) (q_impl_Table_powers : (a0 : Int) → (a1 : Int) → (a2 : (Int → (Int → Option β) → Option β)) → (k : List Int → Option β) → Option β) (q_impl_BanzhafNumbers_1 : (a0 : Int) → (k : Int → Option β) → Option β) (q_impl_ShapleyNumbers_1 : (a0 : Int) → (c0 : Int) → (c1 : Int) → (k : Int → Option β) → Option β)  (a0 : Int) (a1 : Int) (K : TV → Option β) : evFn lay (VE79 N q_impl_Table_powers q_impl_BanzhafNumbers_1 q_impl_ShapleyNumbers_1) Tryd.f79 [.v (.agg [.int .i64 a0, .int .i64 a1])] K = BV_impl_BanzhafNumbers N q_impl_Table_powers q_impl_BanzhafNumbers_1 a0 a1 (fun z2 => K (.v (.one (.sl 3 (.ints .i64 z2))))) := by kernel_rfl
theorem e79_0 {β : Type} (N : Nat)  (a0 : Int) (a1 : Int) (K : TV → Option β) : evFn lay (E79 N) Tryd.f79 [.v (.agg [.int .i64 a0, .int .i64 a1])] K = impl_BanzhafNumbers N a0 a1 (fun z2 => K (.v (.one (.sl 3 (.ints .i64 z2))))) := (ve79_0 N (impl_Table_powers N) (impl_BanzhafNumbers_1 N) (impl_ShapleyNumbers_1 N) a0 a1 K).trans (t_impl_BanzhafNumbers N a0 a1 (fun z2 => K (.v (.one (.sl 3 (.ints .i64 z2)))))).symm
theorem o79 {β : Type} (N : Nat) : SpecOK (β := β) inv Tryd.prog 79 (S79 N) := by
  refine spec_of lay_ok mixed (E := E79 N) (specs_loops (specs_cons (o138 N) (specs_cons (o139 N) specs_nil))) muts_nil gs_nil Tryd.func79 (by kernel_rfl) 0 (by kernel_rfl) trivial fun args K r h => ?_
  unfold S79 VS79 at h
  split at h
  · exact (e79_0 N _ _ _).trans h
  · cases h
def VS80 {β : Type} (N : Nat) (q_impl_ShapleyNumbers : (a0 : Int) → (a1 : Int) → (k : List Int → Option β) → Option β) : Rv.Spec β := fun args K => match args with
  | [.v (.agg [.int .i64 a0, .int .i64 a1])] => q_impl_ShapleyNumbers a0 a1 (fun z2 => K (.v (.one (.sl 3 (.ints .i64 z2)))))
  | _ => none
def S80 {β : Type} (N : Nat) : Rv.Spec β := VS80 N (impl_ShapleyNumbers N)
def VE80 {β : Type} (N : Nat) (q_impl_Table_powers : (a0 : Int) → (a1 : Int) → (a2 : (Int → (Int → Option β) → Option β)) → (k : List Int → Option β) → Option β) (q_impl_BanzhafNumbers_1 : (a0 : Int) → (k : Int → Option β) → Option β) (q_impl_ShapleyNumbers_1 : (a0 : Int) → (c0 : Int) → (c1 : Int) → (k : Int → Option β) → Option β) : Env β := ⟨[(138, VS138 N q_impl_Table_powers q_impl_BanzhafNumbers_1 q_impl_ShapleyNumbers_1), (140, VS140 N q_impl_ShapleyNumbers_1)], [], [], [], ⟨[], [], []⟩⟩
def E80 {β : Type} (N : Nat) : Env β := VE80 N (impl_Table_powers N) (impl_BanzhafNumbers_1 N) (impl_ShapleyNumbers_1 N)
def BV_impl_ShapleyNumbers {β : Type} (N : Nat) (q_impl_Table_powers : (a0 : Int) → (a1 : Int) → (a2 : (Int → (Int → Option β) → Option β)) → (k : List Int → Option β) → Option β) (q_impl_ShapleyNumbers_1 : (a0 : Int) → (c0 : Int) → (c1 : Int) → (k : Int → Option β) → Option β) (a0 : Int) (a1 : Int) (k : List Int → Option β) : Option β :=
q_impl_Table_powers a0 a1 (fun x0 k => q_impl_ShapleyNumbers_1 x0 a0 a1 k) fun r3 =>
k r3
theorem t_impl_ShapleyNumbers {β : Type} (N : Nat) (a0 : Int) (a1 : Int) (k : List Int → Option β) : impl_ShapleyNumbers N a0 a1 k = BV_impl_ShapleyNumbers N (impl_Table_powers N) (impl_ShapleyNumbers_1 N) a0 a1 k := by
  unfold impl_ShapleyNumbers BV_impl_ShapleyNumbers
  rfl
theorem ve80_0 {β : Type} (N : Nat) (q_impl_Table_powers : (a0 : Int) → (a1 : Int) → (a2 : (Int → (Int → Option β) → Option β)) → (k : List Int → Option β) → Option β) (q_impl_BanzhafNumbers_1 : (a0 : Int) → (k : Int → Option β) → Option β) (q_impl_ShapleyNumbers_1 : (a0 : Int) → (c0 : Int) → (c1 : Int) → (k : Int → Option β) → Option β)  (a0 : Int) (a1 : Int) (K : TV → Option β) : evFn lay (VE80 N q_impl_Table_powers q_impl_BanzhafNumbers_1 q_impl_ShapleyNumbers_1) Tryd.f80 [.v (.agg [.int .i64 a0, .int .i64 a1])] K = BV_impl_ShapleyNumbers N q_impl_Table_powers q_impl_ShapleyNumbers_1 a0 a1 (fun z2 => K (.v (.one (.sl 3 (.ints .i64 z2))))) := by kernel_rfl
theorem e80_0 {β : Type} (N : Nat)  (a0 : Int) (a1 : Int) (K : TV → Option β) : evFn lay (E80 N) Tryd.f80 [.v (.agg [.int .i64 a0, .int .i64 a1])] K = impl_ShapleyNumbers N a0 a1 (fun z2 => K (.v (.one (.sl 3 (.ints .i64 z2))))) := (ve80_0 N (impl_Table_powers N) (impl_BanzhafNumbers_1 N) (impl_ShapleyNumbers_1 N) a0 a1 K).trans (t_impl_ShapleyNumbers N a0 a1 (fun z2 => K (.v (.one (.sl 3 (.ints .i64 z2)))))).symm
theorem o80 {β : Type} (N : Nat) : SpecOK (β := β) inv Tryd.prog 80 (S80 N) := by
  refine spec_of lay_ok mixed (E := E80 N) (specs_loops (specs_cons (o138 N) (specs_cons (o140 N) specs_nil))) muts_nil gs_nil Tryd.func80 (by kernel_rfl) 0 (by kernel_rfl) trivial fun args K r h => ?_
  unfold S80 VS80 at h
  split at h
  · exact (e80_0 N _ _ _).trans h
  · cases h
def VS81 {β : Type} (N : Nat) (q_impl_VetoPlayers : (a0 : Int) → (a1 : Int) → (k : List Int → Option β) → Option β) : Rv.Spec β := fun args K => match args with
  | [.v (.agg [.int .i64 a0, .int .i64 a1])] => q_impl_VetoPlayers a0 a1 (fun z2 => K (.v (.one (.sl 3 (.ints .i64 z2)))))
  | _ => none
def S81 {β : Type} (N : Nat) : Rv.Spec β := VS81 N (impl_VetoPlayers N)
def h81_0_0  (v0 : Int) (v1 : Int) (v2 : Int) (v3 : Int) (v4 : List Int) : St := ⟨.v (.one .und) :: .v (.one (.ptr 0 0)) :: .v (.one .und) :: .v (.one (.row 1)) :: .v (.one .und) :: .v (.one .und) :: .v (.one .und) :: .v (.one .und) :: .v (.one .und) :: .v (.one (.int .i64 v0)) :: .v (.one (.int .i64 v1)) :: .v (.one .und) :: .v (.one .und) :: .v (.one .und) :: .v (.one .und) :: .v (.one .und) :: .v (.one .und) :: .v (.one .und) :: .v (.one .und) :: .v (.one .und) :: .v (.one .und) :: .v (.one .und) :: .v (.one .und) :: .v (.one .und) :: [], [.cells 24 [.int .i64 v2, .int .i64 v3], .row 3 (.ints .i64 v4)]⟩
def x81_0_0_k0  (y0 : List Int) : St := ⟨.v (.one .und) :: .v (.one .und) :: .v (.one .und) :: .v (.one (.row 0)) :: .v (.one .und) :: .v (.one .und) :: .v (.one .und) :: .v (.one .und) :: .v (.one .und) :: .v (.one .und) :: .v (.one .und) :: .v (.one .und) :: .v (.one .und) :: .v (.one .und) :: .v (.one .und) :: .v (.one .und) :: .v (.one .und) :: .v (.one .und) :: .v (.one .und) :: .v (.one .und) :: .v (.one .und) :: .v (.one .und) :: .v (.one .und) :: .v (.one .und) :: [], [.row 3 (.ints .i64 y0)]⟩
theorem fl81_0_0 (s : St) : refSt (h81_0_0 0 0 0 0 []) s = h81_0_0 (intS (oneA (vT (nx tund s.tmps 9)))) (intS (oneA (vT (nx tund s.tmps 10)))) (intS (nx .und (cellsB (nx .dead s.blks 0)) 0)) (intS (nx .und (cellsB (nx .dead s.blks 0)) 1)) (rInts (rowB_ (nx .dead s.blks 1))) := by kernel_rfl
def VLS81_0 {β : Type} (N : Nat) (q_impl_VetoPlayers_l0 : Nat → Int → Int → Int → Int → List Int → (List Int → Option β) → Option β) : LSpec β := fun s K => cond (shpSt (h81_0_0 0 0 0 0 []) s) ((fun (v0 : Int) (v1 : Int) (v2 : Int) (v3 : Int) (v4 : List Int) => q_impl_VetoPlayers_l0  N v0 v1 v2 v3 v4 (fun y0 => K (.exit 0) (x81_0_0_k0  y0))) (intS (oneA (vT (nx tund s.tmps 9)))) (intS (oneA (vT (nx tund s.tmps 10)))) (intS (nx .und (cellsB (nx .dead s.blks 0)) 0)) (intS (nx .und (cellsB (nx .dead s.blks 0)) 1)) (rInts (rowB_ (nx .dead s.blks 1)))) (none)
def LS81_0 {β : Type} (N : Nat) : LSpec β := VLS81_0 N (impl_VetoPlayers_l0 N)
def VE81 {β : Type} (N : Nat) (q_impl_IsSimpleGame : (a0 : Int) → (a1 : Int) → (k : Bool → Option β) → Option β) (q_impl_Table_restrict : (a0 : Int) → (a1 : Int) → (a2 : Int) → (a3 : Int) → (k : Int → Int → Option β) → Option β) (q_impl_VetoPlayers_l0 : Nat → Int → Int → Int → Int → List Int → (List Int → Option β) → Option β) : Env β := ⟨[(77, VS77 N q_impl_IsSimpleGame), (142, VS142 N q_impl_Table_restrict)], [], [(0, VLS81_0 N q_impl_VetoPlayers_l0)], [], ⟨[], [], []⟩⟩
def E81 {β : Type} (N : Nat) : Env β := VE81 N (impl_IsSimpleGame N) (impl_Table_restrict N) (impl_VetoPlayers_l0 N)
def BV_impl_VetoPlayers_l0b {β : Type} (N : Nat) (q_impl_Table_restrict : (a0 : Int) → (a1 : Int) → (a2 : Int) → (a3 : Int) → (k : Int → Int → Option β) → Option β)  (v0 : Int) (v1 : Int) (v2 : Int) (v3 : Int) (v4 : List Int) (rec_ : Int → Int → Int → Int → List Int → Option β) (k0 : List Int → Option β) : Option β :=
(cond ((decide (v1 < v0)))
(q_impl_Table_restrict v2 v3 v1 0 fun r4 r5 =>
(cond ((r5 == 0))
((gd ((decide ((v4.length + ((([] : List Int) ++ [v1])).length) * 8 ≤ 140737488355328)))
(rec_ v0 ((w64 (v1 + 1))) v2 v3 ((v4 ++ (([] : List Int) ++ [v1]))))))
(rec_ v0 ((w64 (v1 + 1))) v2 v3 v4)))
(k0 v4))
theorem t_impl_VetoPlayers_l0b {β : Type} (N : Nat)  (v0 : Int) (v1 : Int) (v2 : Int) (v3 : Int) (v4 : List Int) (rec_ : Int → Int → Int → Int → List Int → Option β) (k0 : List Int → Option β) : impl_VetoPlayers_l0b N v0 v1 v2 v3 v4 rec_ k0 = BV_impl_VetoPlayers_l0b N (impl_Table_restrict N) v0 v1 v2 v3 v4 rec_ k0 := by
  unfold impl_VetoPlayers_l0b BV_impl_VetoPlayers_l0b
  rfl
theorem vst81_0_0 {β : Type} (N : Nat) (q_impl_IsSimpleGame : (a0 : Int) → (a1 : Int) → (k : Bool → Option β) → Option β) (q_impl_Table_restrict : (a0 : Int) → (a1 : Int) → (a2 : Int) → (a3 : Int) → (k : Int → Int → Option β) → Option β) (q_impl_VetoPlayers_l0 : Nat → Int → Int → Int → Int → List Int → (List Int → Option β) → Option β)  (v0 : Int) (v1 : Int) (v2 : Int) (v3 : Int) (v4 : List Int) (rec_ : St → Option β) (K : Exit → St → Option β) :
    ev lay (VE81 N q_impl_IsSimpleGame q_impl_Table_restrict q_impl_VetoPlayers_l0) (retMask Tryd.f81) (lp Tryd.f81 0).body (lp Tryd.f81 0).ex ((lp Tryd.f81 0).lv (retMask Tryd.f81)) (h81_0_0  v0 v1 v2 v3 v4) (nextR (fun s' => rec_ (s'.tidy ((lp Tryd.f81 0).lv (retMask Tryd.f81)))) K) = BV_impl_VetoPlayers_l0b N q_impl_Table_restrict  v0 v1 v2 v3 v4 (fun v0 v1 v2 v3 v4 => rec_ (h81_0_0  v0 v1 v2 v3 v4)) (fun y0 => K (.exit 0) (x81_0_0_k0  y0)) := by kernel_rfl
theorem st81_0_0 {β : Type} (N : Nat)  (v0 : Int) (v1 : Int) (v2 : Int) (v3 : Int) (v4 : List Int) (rec_ : St → Option β) (K : Exit → St → Option β) :
    ev lay (E81 N) (retMask Tryd.f81) (lp Tryd.f81 0).body (lp Tryd.f81 0).ex ((lp Tryd.f81 0).lv (retMask Tryd.f81)) (h81_0_0  v0 v1 v2 v3 v4) (nextR (fun s' => rec_ (s'.tidy ((lp Tryd.f81 0).lv (retMask Tryd.f81)))) K) = impl_VetoPlayers_l0b N  v0 v1 v2 v3 v4 (fun v0 v1 v2 v3 v4 => rec_ (h81_0_0  v0 v1 v2 v3 v4)) (fun y0 => K (.exit 0) (x81_0_0_k0  y0)) := (vst81_0_0 N (impl_IsSimpleGame N) (impl_Table_restrict N) (impl_VetoPlayers_l0 N) v0 v1 v2 v3 v4 rec_ K).trans (t_impl_VetoPlayers_l0b N  v0 v1 v2 v3 v4 (fun v0 v1 v2 v3 v4 => rec_ (h81_0_0  v0 v1 v2 v3 v4)) (fun y0 => K (.exit 0) (x81_0_0_k0  y0))).symm
theorem ro81_0_0 {β : Type} (N : Nat)  (K : Exit → St → Option β) : ∀ (F : Nat) (v0 : Int) (v1 : Int) (v2 : Int) (v3 : Int) (v4 : List Int), (lp Tryd.f81 0).rounds lay (E81 N) (retMask Tryd.f81) F (h81_0_0  v0 v1 v2 v3 v4) K = impl_VetoPlayers_l0 N  F v0 v1 v2 v3 v4 (fun y0 => K (.exit 0) (x81_0_0_k0  y0)) := by
  intro F
  induction F with
  | zero => intros; rfl
  | succ F ih =>
    intros
    rw [rounds_next]
    refine (st81_0_0 N  _ _ _ _ _ (fun s => (lp Tryd.f81 0).rounds lay (E81 N) (retMask Tryd.f81) F s K) K).trans ?_
    simp only [ih]
    rfl
theorem lk81_0 {β : Type} (N : Nat) : lookL (E81 (β := β) N).loops (lp Tryd.f81 0).id = LS81_0 N := by kernel_rfl
theorem rk81_0 {β : Type} (N : Nat) : RoundsOK lay (E81 (β := β) N) (retMask Tryd.f81) (lp Tryd.f81 0) := by
  intro s K r h
  rw [lk81_0] at h
  unfold LS81_0 VLS81_0 at h
  cases hb : shpSt (h81_0_0 0 0 0 0 []) s with
  | true =>
    rw [hb, cond_true] at h
    exact ⟨N, by rw [← shpSt_ref hb, fl81_0_0 s]; exact (ro81_0_0 N  K N (intS (oneA (vT (nx tund s.tmps 9)))) (intS (oneA (vT (nx tund s.tmps 10)))) (intS (nx .und (cellsB (nx .dead s.blks 0)) 0)) (intS (nx .und (cellsB (nx .dead s.blks 0)) 1)) (rInts (rowB_ (nx .dead s.blks 1)))).trans h⟩
  | false =>
  rw [hb, cond_false] at h
  clear hb
  cases h
def BV_impl_VetoPlayers {β : Type} (N : Nat) (q_impl_IsSimpleGame : (a0 : Int) → (a1 : Int) → (k : Bool → Option β) → Option β) (q_impl_VetoPlayers_l0 : Nat → Int → Int → Int → Int → List Int → (List Int → Option β) → Option β) (a0 : Int) (a1 : Int) (k : List Int → Option β) : Option β :=
q_impl_IsSimpleGame a0 a1 fun r3 =>
(cond (!r3)
(k (([] : List Int)))
(q_impl_VetoPlayers_l0  N a0 0 a0 a1 (([] : List Int)) (fun e6_0 =>
k e6_0)))
theorem t_impl_VetoPlayers {β : Type} (N : Nat) (a0 : Int) (a1 : Int) (k : List Int → Option β) : impl_VetoPlayers N a0 a1 k = BV_impl_VetoPlayers N (impl_IsSimpleGame N) (impl_VetoPlayers_l0 N) a0 a1 k := by
  unfold impl_VetoPlayers BV_impl_VetoPlayers
  rfl
theorem ve81_0 {β : Type} (N : Nat) (q_impl_IsSimpleGame : (a0 : Int) → (a1 : Int) → (k : Bool → Option β) → Option β) (q_impl_Table_restrict : (a0 : Int) → (a1 : Int) → (a2 : Int) → (a3 : Int) → (k : Int → Int → Option β) → Option β) (q_impl_VetoPlayers_l0 : Nat → Int → Int → Int → Int → List Int → (List Int → Option β) → Option β)  (a0 : Int) (a1 : Int) (K : TV → Option β) : evFn lay (VE81 N q_impl_IsSimpleGame q_impl_Table_restrict q_impl_VetoPlayers_l0) Tryd.f81 [.v (.agg [.int .i64 a0, .int .i64 a1])] K = BV_impl_VetoPlayers N q_impl_IsSimpleGame q_impl_VetoPlayers_l0 a0 a1 (fun z2 => K (.v (.one (.sl 3 (.ints .i64 z2))))) := by kernel_rfl
theorem e81_0 {β : Type} (N : Nat)  (a0 : Int) (a1 : Int) (K : TV → Option β) : evFn lay (E81 N) Tryd.f81 [.v (.agg [.int .i64 a0, .int .i64 a1])] K = impl_VetoPlayers N a0 a1 (fun z2 => K (.v (.one (.sl 3 (.ints .i64 z2))))) := (ve81_0 N (impl_IsSimpleGame N) (impl_Table_restrict N) (impl_VetoPlayers_l0 N) a0 a1 K).trans (t_impl_VetoPlayers N a0 a1 (fun z2 => K (.v (.one (.sl 3 (.ints .i64 z2)))))).symm
theorem o81 {β : Type} (N : Nat) : SpecOK (β := β) inv Tryd.prog 81 (S81 N) := by
  refine spec_of lay_ok mixed (E := E81 N) (specs_loops (specs_cons (o77 N) (specs_cons (o142 N) specs_nil))) muts_nil gs_nil Tryd.func81 (by kernel_rfl) 1 (by kernel_rfl) ⟨trivial, rk81_0 N⟩ fun args K r h => ?_
  unfold S81 VS81 at h
  split at h
  · exact (e81_0 N _ _ _).trans h
  · cases h
end Go.Proofs.YtfdggelojmofmaaDoor
