/- The functions that the claims reach answer as their texts do. -/
import Derived.Test.YtdjmbggefcfacaaE0
namespace Go.Proofs.Ytdjmbggefcfacaa
open Go.Rv
set_option maxRecDepth 100000
set_option maxHeartbeats 2000000
set_option linter.unusedVariables false
def S21 {β : Type} (N : Nat) : MSpec β := fun args bl K => match args, bl with
  | [.v (.one (.row 0)), .v (.one (.int .i64 a1))], [.prow 0 3 (.ints .i64 a0)] => laws_markIntS N a0 a1 (fun z3 m0 => K (.v (.one (.int .i64 z3))) [(.ints .i64 m0)])
  | _, _ => none
def h21_0_0  (v0 : Int) (v1 : Int) (v2 : List Int) : St := ⟨.v (.one (.row 0)) :: .v (.one (.int .i64 v0)) :: .v (.one .und) :: .v (.one .und) :: .v (.one .und) :: .v (.one (.int .i64 v1)) :: .v (.one .und) :: .v (.one .und) :: .v (.one .und) :: .v (.one .und) :: .v (.one .und) :: .v (.one .und) :: .v (.one .und) :: .v (.one .und) :: .v (.one .und) :: .v (.one .und) :: .v (.one .und) :: .v (.one .und) :: .v (.one .und) :: [], [.prow 0 3 (.ints .i64 v2)]⟩
def x21_0_0_k0  (y0 : Int) (y1 : List Int) : St := ⟨.v (.one (.row 0)) :: .v (.one (.int .i64 y0)) :: .v (.one .und) :: .v (.one .und) :: .v (.one .und) :: .v (.one .und) :: .v (.one .und) :: .v (.one .und) :: .v (.one .und) :: .v (.one .und) :: .v (.one .und) :: .v (.one .und) :: .v (.one .und) :: .v (.one .und) :: .v (.one .und) :: .v (.one .und) :: .v (.one .und) :: .v (.one .und) :: .v (.one .und) :: [], [.prow 0 3 (.ints .i64 y1)]⟩
def LS21_0 {β : Type} (N : Nat) : LSpec β := fun s K => match s with
  | ⟨.v (.one (.row 0)) :: .v (.one (.int .i64 v0)) :: .v (.one .und) :: .v (.one .und) :: .v (.one .und) :: .v (.one (.int .i64 v1)) :: .v (.one .und) :: .v (.one .und) :: .v (.one .und) :: .v (.one .und) :: .v (.one .und) :: .v (.one .und) :: .v (.one .und) :: .v (.one .und) :: .v (.one .und) :: .v (.one .und) :: .v (.one .und) :: .v (.one .und) :: .v (.one .und) :: [], [.prow 0 3 (.ints .i64 v2)]⟩ => laws_markIntS_l0 N  N v0 v1 v2 (fun y0 y1 => K (.exit 0) (x21_0_0_k0  y0 y1))
  | _ => none
def E21 {β : Type} (N : Nat) : Env β := ⟨[], [], [(0, LS21_0 N)]⟩
theorem st21_0_0 {β : Type} (N : Nat)  (v0 : Int) (v1 : Int) (v2 : List Int) (rec_ : St → Option β) (K : Exit → St → Option β) :
    ev lay (E21 N) (retMaskM Try.f21) (lpM Try.f21 0).body (lpM Try.f21 0).ex ((lpM Try.f21 0).lv (retMaskM Try.f21)) (h21_0_0  v0 v1 v2) (nextR (fun s' => rec_ (s'.tidy ((lpM Try.f21 0).lv (retMaskM Try.f21)))) K) =
      laws_markIntS_l0b N  v0 v1 v2 (fun v0 v1 v2 => rec_ (h21_0_0  v0 v1 v2)) (fun y0 y1 => K (.exit 0) (x21_0_0_k0  y0 y1)) := by kernel_rfl
theorem ro21_0_0 {β : Type} (N : Nat)  (K : Exit → St → Option β) : ∀ (F : Nat) (v0 : Int) (v1 : Int) (v2 : List Int), (lpM Try.f21 0).rounds lay (E21 N) (retMaskM Try.f21) F (h21_0_0  v0 v1 v2) K = laws_markIntS_l0 N  F v0 v1 v2 (fun y0 y1 => K (.exit 0) (x21_0_0_k0  y0 y1)) := by
  intro F
  induction F with
  | zero => intros; rfl
  | succ F ih =>
    intros
    rw [rounds_next]
    refine (st21_0_0 N  _ _ _ (fun s => (lpM Try.f21 0).rounds lay (E21 N) (retMaskM Try.f21) F s K) K).trans ?_
    simp only [ih]
    rfl
theorem lk21_0 {β : Type} (N : Nat) : lookL (E21 (β := β) N).loops (lpM Try.f21 0).id = LS21_0 N := by kernel_rfl
theorem rk21_0 {β : Type} (N : Nat) : RoundsOK lay (E21 (β := β) N) (retMaskM Try.f21) (lpM Try.f21 0) := by
  intro s K r h
  rw [lk21_0] at h
  unfold LS21_0 at h
  split at h
  · exact ⟨N, (ro21_0_0 N  _ N _ _ _).trans h⟩
  · cases h
theorem e21_0 {β : Type} (N : Nat)  (a0 : List Int) (a1 : Int) (K : TV → List Row → Option β) : evFnM lay (E21 N) Try.f21 [.v (.one (.row 0)), .v (.one (.int .i64 a1))] [.prow 0 3 (.ints .i64 a0)] K = laws_markIntS N a0 a1 (fun z3 m0 => K (.v (.one (.int .i64 z3))) [(.ints .i64 m0)]) := by kernel_rfl
theorem o21 {β : Type} (N : Nat) : MutOK (β := β) Try.prog 21 (S21 N) := by
  refine mut_of lay_ok mixed (E := E21 N) (specs_loops specs_nil) muts_nil Try.func21 (by kernel_rfl) 1 (by kernel_rfl) ⟨trivial, rk21_0 N⟩ fun args bl K r h => ?_
  unfold S21 at h
  split at h
  · exact (e21_0 N _ _ _).trans h
  · cases h
def S16 {β : Type} (N : Nat) : MSpec β := fun args bl K => match args, bl with
  | [.v (.agg [.int .i64 a0, .int .i64 a1, .int .i64 a2, .row 0]), .v (.one (.int .i64 a4))], [.prow 0 3 (.ints .i64 a3)] => laws_markKept N a0 a1 a2 a3 a4 (fun z7 m0 => K (.v (.one (.int .i64 z7))) [(.ints .i64 m0)])
  | _, _ => none
def E16 {β : Type} (N : Nat) : Env β := ⟨[], [(21, S21 N)], []⟩
theorem e16_0 {β : Type} (N : Nat)  (a0 : Int) (a1 : Int) (a2 : Int) (a3 : List Int) (a4 : Int) (K : TV → List Row → Option β) : evFnM lay (E16 N) Try.f16 [.v (.agg [.int .i64 a0, .int .i64 a1, .int .i64 a2, .row 0]), .v (.one (.int .i64 a4))] [.prow 0 3 (.ints .i64 a3)] K = laws_markKept N a0 a1 a2 a3 a4 (fun z7 m0 => K (.v (.one (.int .i64 z7))) [(.ints .i64 m0)]) := by kernel_rfl
theorem o16 {β : Type} (N : Nat) : MutOK (β := β) Try.prog 16 (S16 N) := by
  refine mut_of lay_ok mixed (E := E16 N) (specs_loops specs_nil) (muts_cons (o21 N) muts_nil) Try.func16 (by kernel_rfl) 0 (by kernel_rfl) trivial fun args bl K r h => ?_
  unfold S16 at h
  split at h
  · exact (e16_0 N _ _ _ _ _ _).trans h
  · cases h
def S3 {β : Type} (N : Nat) : Rv.Spec β := fun args K => match args with
  | [.v (.agg [.int .i64 a0, .int .i64 a1])] => laws_FnExactNewKept N a0 a1 (fun z29 => K (.v (.one (.bool z29))))
  | _ => none
def E3 {β : Type} (N : Nat) : Env β := ⟨[(13, S13 N), (12, S12 N), (14, S14 N), (15, S15 N), (17, S17 N)], [(16, S16 N)], []⟩
theorem e3_0 {β : Type} (N : Nat)  (a0 : Int) (a1 : Int) (K : TV → Option β) : evFn lay (E3 N) Try.f3 [.v (.agg [.int .i64 a0, .int .i64 a1])] K = laws_FnExactNewKept N a0 a1 (fun z29 => K (.v (.one (.bool z29)))) := by kernel_rfl
theorem o3 {β : Type} (N : Nat) : SpecOK (β := β) Try.prog 3 (S3 N) := by
  refine spec_of lay_ok mixed (E := E3 N) (specs_loops (specs_cons (o13 N) (specs_cons (o12 N) (specs_cons (o14 N) (specs_cons (o15 N) (specs_cons (o17 N) specs_nil)))))) (muts_cons (o16 N) muts_nil) Try.func3 (by kernel_rfl) 0 (by kernel_rfl) trivial fun args K r h => ?_
  unfold S3 at h
  split at h
  · exact (e3_0 N _ _ _).trans h
  · cases h
def S49 {β : Type} (N : Nat) : Rv.Spec β := fun args K => match args with
  | [.v (.one (.int .i64 a0))] => spec_l2Full N a0 (fun z1 => K (.v (.one (.int .i64 z1))))
  | _ => none
def E49 {β : Type} (N : Nat) : Env β := ⟨[], [], []⟩
theorem e49_0 {β : Type} (N : Nat)  (a0 : Int) (K : TV → Option β) : evFn lay (E49 N) Try.f49 [.v (.one (.int .i64 a0))] K = spec_l2Full N a0 (fun z1 => K (.v (.one (.int .i64 z1)))) := by kernel_rfl
theorem o49 {β : Type} (N : Nat) : SpecOK (β := β) Try.prog 49 (S49 N) := by
  refine spec_of lay_ok mixed (E := E49 N) (specs_loops specs_nil) muts_nil Try.func49 (by kernel_rfl) 0 (by kernel_rfl) trivial fun args K r h => ?_
  unfold S49 at h
  split at h
  · exact (e49_0 N _ _).trans h
  · cases h
def S76 {β : Type} (N : Nat) : Rv.Spec β := fun args K => match args with
  | [.v (.agg [.int .i64 a0, .int .i64 a1]), .v (.one (.int .i64 a2)), .v (.one (.int .i64 a3))] => spec_l29Stuck N a0 a1 a2 a3 (fun z5 z6 => K (.v (.agg [.int .i64 z5, .int .i64 z6])))
  | _ => none
def h76_0_0  (v0 : Int) (v1 : Int) (v2 : Int) (v3 : Int) (v4 : Int) (v5 : Int) (v6 : Int) (v7 : Int) : St := ⟨.v (.one .und) :: .v (.one (.int .i64 v0)) :: .v (.one (.int .i64 v1)) :: .v (.one (.ptr 0 0)) :: .v (.one .und) :: .v (.one .und) :: .v (.one (.ptr 1 0)) :: .v (.one (.int .i64 v2)) :: .v (.one (.int .i64 v3)) :: .v (.one .und) :: .v (.one .und) :: .v (.one .und) :: .v (.one .und) :: .v (.one .und) :: .v (.one .und) :: .v (.one .und) :: .v (.one .und) :: .v (.one .und) :: .v (.one .und) :: .v (.one .und) :: .v (.one .und) :: .v (.one .und) :: .v (.one .und) :: .v (.one .und) :: .v (.one .und) :: .v (.one .und) :: .v (.one .und) :: .v (.one .und) :: .v (.one .und) :: .v (.one .und) :: .v (.one .und) :: .v (.one .und) :: .v (.one .und) :: .v (.one .und) :: .v (.one .und) :: .v (.one .und) :: .v (.one .und) :: .v (.one .und) :: .v (.one .und) :: .v (.one .und) :: [], [.cells 24 [.int .i64 v4, .int .i64 v5], .cells 24 [.int .i64 v6, .int .i64 v7]]⟩
def x76_0_0_k0  (y0 : Int) (y1 : Int) (y2 : Int) (y3 : Int) (y4 : Int) : St := ⟨.v (.one .und) :: .v (.one .und) :: .v (.one .und) :: .v (.one (.ptr 0 0)) :: .v (.one .und) :: .v (.one .und) :: .v (.one (.ptr 1 0)) :: .v (.one (.int .i64 y0)) :: .v (.one .und) :: .v (.one .und) :: .v (.one .und) :: .v (.one .und) :: .v (.one .und) :: .v (.one .und) :: .v (.one .und) :: .v (.one .und) :: .v (.one .und) :: .v (.one .und) :: .v (.one .und) :: .v (.one .und) :: .v (.one .und) :: .v (.one .und) :: .v (.one .und) :: .v (.one .und) :: .v (.one .und) :: .v (.one .und) :: .v (.one .und) :: .v (.one .und) :: .v (.one .und) :: .v (.one .und) :: .v (.one .und) :: .v (.one .und) :: .v (.one .und) :: .v (.one .und) :: .v (.one .und) :: .v (.one .und) :: .v (.one .und) :: .v (.one .und) :: .v (.one .und) :: .v (.one .und) :: [], [.cells 24 [.int .i64 y1, .int .i64 y2], .cells 24 [.int .i64 y3, .int .i64 y4]]⟩
def LS76_0 {β : Type} (N : Nat) : LSpec β := fun s K => match s with
  | ⟨.v (.one .und) :: .v (.one (.int .i64 v0)) :: .v (.one (.int .i64 v1)) :: .v (.one (.ptr 0 0)) :: .v (.one .und) :: .v (.one .und) :: .v (.one (.ptr 1 0)) :: .v (.one (.int .i64 v2)) :: .v (.one (.int .i64 v3)) :: .v (.one .und) :: .v (.one .und) :: .v (.one .und) :: .v (.one .und) :: .v (.one .und) :: .v (.one .und) :: .v (.one .und) :: .v (.one .und) :: .v (.one .und) :: .v (.one .und) :: .v (.one .und) :: .v (.one .und) :: .v (.one .und) :: .v (.one .und) :: .v (.one .und) :: .v (.one .und) :: .v (.one .und) :: .v (.one .und) :: .v (.one .und) :: .v (.one .und) :: .v (.one .und) :: .v (.one .und) :: .v (.one .und) :: .v (.one .und) :: .v (.one .und) :: .v (.one .und) :: .v (.one .und) :: .v (.one .und) :: .v (.one .und) :: .v (.one .und) :: .v (.one .und) :: [], [.cells 24 [.int .i64 v4, .int .i64 v5], .cells 24 [.int .i64 v6, .int .i64 v7]]⟩ => spec_l29Stuck_l0 N  N v0 v1 v2 v3 v4 v5 v6 v7 (fun y0 y1 y2 y3 y4 => K (.exit 0) (x76_0_0_k0  y0 y1 y2 y3 y4))
  | _ => none
def E76 {β : Type} (N : Nat) : Env β := ⟨[], [], [(0, LS76_0 N)]⟩
theorem st76_0_0 {β : Type} (N : Nat)  (v0 : Int) (v1 : Int) (v2 : Int) (v3 : Int) (v4 : Int) (v5 : Int) (v6 : Int) (v7 : Int) (rec_ : St → Option β) (K : Exit → St → Option β) :
    ev lay (E76 N) (retMask Try.f76) (lp Try.f76 0).body (lp Try.f76 0).ex ((lp Try.f76 0).lv (retMask Try.f76)) (h76_0_0  v0 v1 v2 v3 v4 v5 v6 v7) (nextR (fun s' => rec_ (s'.tidy ((lp Try.f76 0).lv (retMask Try.f76)))) K) =
      spec_l29Stuck_l0b N  v0 v1 v2 v3 v4 v5 v6 v7 (fun v0 v1 v2 v3 v4 v5 v6 v7 => rec_ (h76_0_0  v0 v1 v2 v3 v4 v5 v6 v7)) (fun y0 y1 y2 y3 y4 => K (.exit 0) (x76_0_0_k0  y0 y1 y2 y3 y4)) := by kernel_rfl
theorem ro76_0_0 {β : Type} (N : Nat)  (K : Exit → St → Option β) : ∀ (F : Nat) (v0 : Int) (v1 : Int) (v2 : Int) (v3 : Int) (v4 : Int) (v5 : Int) (v6 : Int) (v7 : Int), (lp Try.f76 0).rounds lay (E76 N) (retMask Try.f76) F (h76_0_0  v0 v1 v2 v3 v4 v5 v6 v7) K = spec_l29Stuck_l0 N  F v0 v1 v2 v3 v4 v5 v6 v7 (fun y0 y1 y2 y3 y4 => K (.exit 0) (x76_0_0_k0  y0 y1 y2 y3 y4)) := by
  intro F
  induction F with
  | zero => intros; rfl
  | succ F ih =>
    intros
    rw [rounds_next]
    refine (st76_0_0 N  _ _ _ _ _ _ _ _ (fun s => (lp Try.f76 0).rounds lay (E76 N) (retMask Try.f76) F s K) K).trans ?_
    simp only [ih]
    rfl
theorem lk76_0 {β : Type} (N : Nat) : lookL (E76 (β := β) N).loops (lp Try.f76 0).id = LS76_0 N := by kernel_rfl
theorem rk76_0 {β : Type} (N : Nat) : RoundsOK lay (E76 (β := β) N) (retMask Try.f76) (lp Try.f76 0) := by
  intro s K r h
  rw [lk76_0] at h
  unfold LS76_0 at h
  split at h
  · exact ⟨N, (ro76_0_0 N  _ N _ _ _ _ _ _ _ _).trans h⟩
  · cases h
theorem e76_0 {β : Type} (N : Nat)  (a0 : Int) (a1 : Int) (a2 : Int) (a3 : Int) (K : TV → Option β) : evFn lay (E76 N) Try.f76 [.v (.agg [.int .i64 a0, .int .i64 a1]), .v (.one (.int .i64 a2)), .v (.one (.int .i64 a3))] K = spec_l29Stuck N a0 a1 a2 a3 (fun z5 z6 => K (.v (.agg [.int .i64 z5, .int .i64 z6]))) := by kernel_rfl
theorem o76 {β : Type} (N : Nat) : SpecOK (β := β) Try.prog 76 (S76 N) := by
  refine spec_of lay_ok mixed (E := E76 N) (specs_loops specs_nil) muts_nil Try.func76 (by kernel_rfl) 1 (by kernel_rfl) ⟨trivial, rk76_0 N⟩ fun args K r h => ?_
  unfold S76 at h
  split at h
  · exact (e76_0 N _ _ _ _ _).trans h
  · cases h
def S50 {β : Type} (N : Nat) : Rv.Spec β := fun args K => match args with
  | [.v (.agg [.int .i64 a0, .int .i64 a1]), .v (.one (.int .i64 a2))] => spec_l29Shows N a0 a1 a2 (fun z9 => K (.v (.one (.bool z9))))
  | _ => none
def h50_0_0  (v0 : Int) (v1 : Int) (v2 : Int) (v3 : Int) : St := ⟨.v (.one .und) :: .v (.one (.int .i64 v0)) :: .v (.one (.ptr 0 0)) :: .v (.one .und) :: .v (.one .und) :: .v (.one (.int .i64 v1)) :: .v (.one .und) :: .v (.one .und) :: .v (.one .und) :: .v (.one .und) :: .v (.one .und) :: .v (.one .und) :: .v (.one .und) :: .v (.one .und) :: .v (.one .und) :: .v (.one .und) :: .v (.one .und) :: .v (.one .und) :: .v (.one .und) :: .v (.one .und) :: .v (.one .und) :: .v (.one .und) :: .v (.one .und) :: .v (.one .und) :: .v (.one .und) :: .v (.one .und) :: .v (.one .und) :: .v (.one .und) :: .v (.one .und) :: .v (.one .und) :: .v (.one .und) :: .v (.one .und) :: .v (.one .und) :: .v (.one .und) :: [], [.cells 24 [.int .i64 v2, .int .i64 v3]]⟩
def x50_0_0_k0  (y0 : Bool) : St := ⟨.v (.one .und) :: .v (.one .und) :: .v (.one .und) :: .v (.one .und) :: .v (.one (.bool y0)) :: .v (.one .und) :: .v (.one .und) :: .v (.one .und) :: .v (.one .und) :: .v (.one .und) :: .v (.one .und) :: .v (.one .und) :: .v (.one .und) :: .v (.one .und) :: .v (.one .und) :: .v (.one .und) :: .v (.one .und) :: .v (.one .und) :: .v (.one .und) :: .v (.one .und) :: .v (.one .und) :: .v (.one .und) :: .v (.one .und) :: .v (.one .und) :: .v (.one .und) :: .v (.one .und) :: .v (.one .und) :: .v (.one .und) :: .v (.one .und) :: .v (.one .und) :: .v (.one .und) :: .v (.one .und) :: .v (.one .und) :: .v (.one .und) :: [], []⟩
def x50_0_0_k1   : St := ⟨.v (.one .und) :: .v (.one .und) :: .v (.one .und) :: .v (.one .und) :: .v (.one .und) :: .v (.one .und) :: .v (.one .und) :: .v (.one .und) :: .v (.one .und) :: .v (.one .und) :: .v (.one .und) :: .v (.one .und) :: .v (.one .und) :: .v (.one .und) :: .v (.one .und) :: .v (.one .und) :: .v (.one .und) :: .v (.one .und) :: .v (.one .und) :: .v (.one .und) :: .v (.one .und) :: .v (.one .und) :: .v (.one .und) :: .v (.one .und) :: .v (.one .und) :: .v (.one .und) :: .v (.one .und) :: .v (.one .und) :: .v (.one .und) :: .v (.one .und) :: .v (.one .und) :: .v (.one .und) :: .v (.one .und) :: .v (.one .und) :: [], []⟩
def LS50_0 {β : Type} (N : Nat) : LSpec β := fun s K => match s with
  | ⟨.v (.one .und) :: .v (.one (.int .i64 v0)) :: .v (.one (.ptr 0 0)) :: .v (.one .und) :: .v (.one .und) :: .v (.one (.int .i64 v1)) :: .v (.one .und) :: .v (.one .und) :: .v (.one .und) :: .v (.one .und) :: .v (.one .und) :: .v (.one .und) :: .v (.one .und) :: .v (.one .und) :: .v (.one .und) :: .v (.one .und) :: .v (.one .und) :: .v (.one .und) :: .v (.one .und) :: .v (.one .und) :: .v (.one .und) :: .v (.one .und) :: .v (.one .und) :: .v (.one .und) :: .v (.one .und) :: .v (.one .und) :: .v (.one .und) :: .v (.one .und) :: .v (.one .und) :: .v (.one .und) :: .v (.one .und) :: .v (.one .und) :: .v (.one .und) :: .v (.one .und) :: [], [.cells 24 [.int .i64 v2, .int .i64 v3]]⟩ => spec_l29Shows_l0 N  N v0 v1 v2 v3 (fun y0 => K .ret (x50_0_0_k0  y0)) (K (.exit 0) (x50_0_0_k1  ))
  | _ => none
def h50_2_0  (v0 : Int) (v1 : Int) (v2 : Int) (v3 : Int) (v4 : Int) : St := ⟨.v (.one .und) :: .v (.one (.int .i64 v0)) :: .v (.one (.ptr 0 0)) :: .v (.one .und) :: .v (.one .und) :: .v (.one (.int .i64 v1)) :: .v (.one (.int .i64 v2)) :: .v (.one .und) :: .v (.one .und) :: .v (.one .und) :: .v (.one .und) :: .v (.one .und) :: .v (.one .und) :: .v (.one .und) :: .v (.one .und) :: .v (.one .und) :: .v (.one .und) :: .v (.one .und) :: .v (.one .und) :: .v (.one .und) :: .v (.one .und) :: .v (.one .und) :: .v (.one .und) :: .v (.one .und) :: .v (.one .und) :: .v (.one .und) :: .v (.one .und) :: .v (.one .und) :: .v (.one .und) :: .v (.one .und) :: .v (.one .und) :: .v (.one .und) :: .v (.one .und) :: .v (.one .und) :: [], [.cells 24 [.int .i64 v3, .int .i64 v4]]⟩
def x50_2_0_k0  (y0 : Bool) : St := ⟨.v (.one .und) :: .v (.one .und) :: .v (.one .und) :: .v (.one .und) :: .v (.one (.bool y0)) :: .v (.one .und) :: .v (.one .und) :: .v (.one .und) :: .v (.one .und) :: .v (.one .und) :: .v (.one .und) :: .v (.one .und) :: .v (.one .und) :: .v (.one .und) :: .v (.one .und) :: .v (.one .und) :: .v (.one .und) :: .v (.one .und) :: .v (.one .und) :: .v (.one .und) :: .v (.one .und) :: .v (.one .und) :: .v (.one .und) :: .v (.one .und) :: .v (.one .und) :: .v (.one .und) :: .v (.one .und) :: .v (.one .und) :: .v (.one .und) :: .v (.one .und) :: .v (.one .und) :: .v (.one .und) :: .v (.one .und) :: .v (.one .und) :: [], []⟩
def x50_2_0_k1  (y0 : Int) (y1 : Int) (y2 : Int) (y3 : Int) : St := ⟨.v (.one .und) :: .v (.one (.int .i64 y0)) :: .v (.one (.ptr 0 0)) :: .v (.one .und) :: .v (.one .und) :: .v (.one (.int .i64 y1)) :: .v (.one .und) :: .v (.one .und) :: .v (.one .und) :: .v (.one .und) :: .v (.one .und) :: .v (.one .und) :: .v (.one .und) :: .v (.one .und) :: .v (.one .und) :: .v (.one .und) :: .v (.one .und) :: .v (.one .und) :: .v (.one .und) :: .v (.one .und) :: .v (.one .und) :: .v (.one .und) :: .v (.one .und) :: .v (.one .und) :: .v (.one .und) :: .v (.one .und) :: .v (.one .und) :: .v (.one .und) :: .v (.one .und) :: .v (.one .und) :: .v (.one .und) :: .v (.one .und) :: .v (.one .und) :: .v (.one .und) :: [], [.cells 24 [.int .i64 y2, .int .i64 y3]]⟩
def LS50_2 {β : Type} (N : Nat) : LSpec β := fun s K => match s with
  | ⟨.v (.one .und) :: .v (.one (.int .i64 v0)) :: .v (.one (.ptr 0 0)) :: .v (.one .und) :: .v (.one .und) :: .v (.one (.int .i64 v1)) :: .v (.one (.int .i64 v2)) :: .v (.one .und) :: .v (.one .und) :: .v (.one .und) :: .v (.one .und) :: .v (.one .und) :: .v (.one .und) :: .v (.one .und) :: .v (.one .und) :: .v (.one .und) :: .v (.one .und) :: .v (.one .und) :: .v (.one .und) :: .v (.one .und) :: .v (.one .und) :: .v (.one .und) :: .v (.one .und) :: .v (.one .und) :: .v (.one .und) :: .v (.one .und) :: .v (.one .und) :: .v (.one .und) :: .v (.one .und) :: .v (.one .und) :: .v (.one .und) :: .v (.one .und) :: .v (.one .und) :: .v (.one .und) :: [], [.cells 24 [.int .i64 v3, .int .i64 v4]]⟩ => spec_l29Shows_l2 N  N v0 v1 v2 v3 v4 (fun y0 => K .ret (x50_2_0_k0  y0)) (fun y0 y1 y2 y3 => K (.exit 2) (x50_2_0_k1  y0 y1 y2 y3))
  | _ => none
def E50 {β : Type} (N : Nat) : Env β := ⟨[(76, S76 N)], [], [(0, LS50_0 N), (2, LS50_2 N)]⟩
theorem st50_0_0 {β : Type} (N : Nat)  (v0 : Int) (v1 : Int) (v2 : Int) (v3 : Int) (rec_ : St → Option β) (K : Exit → St → Option β) :
    ev lay (E50 N) (retMask Try.f50) (lp Try.f50 0).body (lp Try.f50 0).ex ((lp Try.f50 0).lv (retMask Try.f50)) (h50_0_0  v0 v1 v2 v3) (nextR (fun s' => rec_ (s'.tidy ((lp Try.f50 0).lv (retMask Try.f50)))) K) =
      spec_l29Shows_l0b N  v0 v1 v2 v3 (fun v0 v1 v2 v3 => rec_ (h50_0_0  v0 v1 v2 v3)) (fun y0 => K .ret (x50_0_0_k0  y0)) (K (.exit 0) (x50_0_0_k1  )) := by kernel_rfl
theorem ro50_0_0 {β : Type} (N : Nat)  (K : Exit → St → Option β) : ∀ (F : Nat) (v0 : Int) (v1 : Int) (v2 : Int) (v3 : Int), (lp Try.f50 0).rounds lay (E50 N) (retMask Try.f50) F (h50_0_0  v0 v1 v2 v3) K = spec_l29Shows_l0 N  F v0 v1 v2 v3 (fun y0 => K .ret (x50_0_0_k0  y0)) (K (.exit 0) (x50_0_0_k1  )) := by
  intro F
  induction F with
  | zero => intros; rfl
  | succ F ih =>
    intros
    rw [rounds_next]
    refine (st50_0_0 N  _ _ _ _ (fun s => (lp Try.f50 0).rounds lay (E50 N) (retMask Try.f50) F s K) K).trans ?_
    simp only [ih]
    rfl
theorem lk50_0 {β : Type} (N : Nat) : lookL (E50 (β := β) N).loops (lp Try.f50 0).id = LS50_0 N := by kernel_rfl
theorem rk50_0 {β : Type} (N : Nat) : RoundsOK lay (E50 (β := β) N) (retMask Try.f50) (lp Try.f50 0) := by
  intro s K r h
  rw [lk50_0] at h
  unfold LS50_0 at h
  split at h
  · exact ⟨N, (ro50_0_0 N  _ N _ _ _ _).trans h⟩
  · cases h
theorem st50_2_0 {β : Type} (N : Nat)  (v0 : Int) (v1 : Int) (v2 : Int) (v3 : Int) (v4 : Int) (rec_ : St → Option β) (K : Exit → St → Option β) :
    ev lay (E50 N) (retMask Try.f50) (lp Try.f50 1).body (lp Try.f50 1).ex ((lp Try.f50 1).lv (retMask Try.f50)) (h50_2_0  v0 v1 v2 v3 v4) (nextR (fun s' => rec_ (s'.tidy ((lp Try.f50 1).lv (retMask Try.f50)))) K) =
      spec_l29Shows_l2b N  v0 v1 v2 v3 v4 (fun v0 v1 v2 v3 v4 => rec_ (h50_2_0  v0 v1 v2 v3 v4)) (fun y0 => K .ret (x50_2_0_k0  y0)) (fun y0 y1 y2 y3 => K (.exit 2) (x50_2_0_k1  y0 y1 y2 y3)) := by kernel_rfl
theorem ro50_2_0 {β : Type} (N : Nat)  (K : Exit → St → Option β) : ∀ (F : Nat) (v0 : Int) (v1 : Int) (v2 : Int) (v3 : Int) (v4 : Int), (lp Try.f50 1).rounds lay (E50 N) (retMask Try.f50) F (h50_2_0  v0 v1 v2 v3 v4) K = spec_l29Shows_l2 N  F v0 v1 v2 v3 v4 (fun y0 => K .ret (x50_2_0_k0  y0)) (fun y0 y1 y2 y3 => K (.exit 2) (x50_2_0_k1  y0 y1 y2 y3)) := by
  intro F
  induction F with
  | zero => intros; rfl
  | succ F ih =>
    intros
    rw [rounds_next]
    refine (st50_2_0 N  _ _ _ _ _ (fun s => (lp Try.f50 1).rounds lay (E50 N) (retMask Try.f50) F s K) K).trans ?_
    simp only [ih]
    rfl
theorem lk50_2 {β : Type} (N : Nat) : lookL (E50 (β := β) N).loops (lp Try.f50 1).id = LS50_2 N := by kernel_rfl
theorem rk50_2 {β : Type} (N : Nat) : RoundsOK lay (E50 (β := β) N) (retMask Try.f50) (lp Try.f50 1) := by
  intro s K r h
  rw [lk50_2] at h
  unfold LS50_2 at h
  split at h
  · exact ⟨N, (ro50_2_0 N  _ N _ _ _ _ _).trans h⟩
  · cases h
theorem e50_0 {β : Type} (N : Nat)  (a0 : Int) (a1 : Int) (a2 : Int) (K : TV → Option β) : evFn lay (E50 N) Try.f50 [.v (.agg [.int .i64 a0, .int .i64 a1]), .v (.one (.int .i64 a2))] K = spec_l29Shows N a0 a1 a2 (fun z9 => K (.v (.one (.bool z9)))) := by kernel_rfl
theorem o50 {β : Type} (N : Nat) : SpecOK (β := β) Try.prog 50 (S50 N) := by
  refine spec_of lay_ok mixed (E := E50 N) (specs_loops (specs_cons (o76 N) specs_nil)) muts_nil Try.func50 (by kernel_rfl) 2 (by kernel_rfl) ⟨⟨trivial, rk50_0 N⟩, rk50_2 N⟩ fun args K r h => ?_
  unfold S50 at h
  split at h
  · exact (e50_0 N _ _ _ _).trans h
  · cases h
def S18 {β : Type} (N : Nat) : Rv.Spec β := fun args K => match args with
  | [.v (.agg [.int .i64 a0, .int .i64 a1])] => spec_LeastTestSet N a0 a1 (fun z10 z11 => K (.tup [.one (.sl 3 (.ints .i64 z10)), .one (.bool z11)]))
  | _ => none
def h18_0_0  (v0 : Int) (v1 : Int) (v2 : Int) (v3 : Int) : St := ⟨.v (.one .und) :: .v (.one (.ptr 0 0)) :: .v (.one .und) :: .v (.one .und) :: .v (.one (.int .i64 v0)) :: .v (.one (.int .i64 v1)) :: .v (.one .und) :: .v (.one .und) :: .v (.one .und) :: .v (.one .und) :: .v (.one .und) :: .v (.one .und) :: .v (.one .und) :: .v (.one .und) :: .v (.one .und) :: .v (.one .und) :: .v (.one .und) :: .v (.one .und) :: .v (.one .und) :: .v (.one .und) :: .v (.one .und) :: .v (.one .und) :: .v (.one .und) :: .v (.one .und) :: .v (.one .und) :: .v (.one .und) :: .v (.one .und) :: .v (.one .und) :: .v (.one .und) :: .v (.one .und) :: .v (.one .und) :: .v (.one .und) :: .v (.one .und) :: .v (.one .und) :: .v (.one .und) :: .v (.one .und) :: .v (.one .und) :: .v (.one .und) :: .v (.one .und) :: .v (.one .und) :: .v (.one .und) :: .v (.one .und) :: .v (.one .und) :: .v (.one .und) :: .v (.one .und) :: .v (.one .und) :: .v (.one .und) :: .v (.one .und) :: .v (.one .und) :: .v (.one .und) :: .v (.one .und) :: .v (.one .und) :: .v (.one .und) :: .v (.one .und) :: .v (.one .und) :: .v (.one .und) :: [], [.cells 24 [.int .i64 v2, .int .i64 v3]]⟩
def x18_0_0_k0  (y0 : Int) (y1 : Int) (y2 : Int) : St := ⟨.v (.one .und) :: .v (.one (.ptr 0 0)) :: .v (.one .und) :: .v (.one .und) :: .v (.one (.int .i64 y0)) :: .v (.one .und) :: .v (.one .und) :: .v (.one .und) :: .v (.one .und) :: .v (.one .und) :: .v (.one .und) :: .v (.one .und) :: .v (.one .und) :: .v (.one .und) :: .v (.one .und) :: .v (.one .und) :: .v (.one .und) :: .v (.one .und) :: .v (.one .und) :: .v (.one .und) :: .v (.one .und) :: .v (.one .und) :: .v (.one .und) :: .v (.one .und) :: .v (.one .und) :: .v (.one .und) :: .v (.one .und) :: .v (.one .und) :: .v (.one .und) :: .v (.one .und) :: .v (.one .und) :: .v (.one .und) :: .v (.one .und) :: .v (.one .und) :: .v (.one .und) :: .v (.one .und) :: .v (.one .und) :: .v (.one .und) :: .v (.one .und) :: .v (.one .und) :: .v (.one .und) :: .v (.one .und) :: .v (.one .und) :: .v (.one .und) :: .v (.one .und) :: .v (.one .und) :: .v (.one .und) :: .v (.one .und) :: .v (.one .und) :: .v (.one .und) :: .v (.one .und) :: .v (.one .und) :: .v (.one .und) :: .v (.one .und) :: .v (.one .und) :: .v (.one .und) :: [], [.cells 24 [.int .i64 y1, .int .i64 y2]]⟩
def LS18_0 {β : Type} (N : Nat) : LSpec β := fun s K => match s with
  | ⟨.v (.one .und) :: .v (.one (.ptr 0 0)) :: .v (.one .und) :: .v (.one .und) :: .v (.one (.int .i64 v0)) :: .v (.one (.int .i64 v1)) :: .v (.one .und) :: .v (.one .und) :: .v (.one .und) :: .v (.one .und) :: .v (.one .und) :: .v (.one .und) :: .v (.one .und) :: .v (.one .und) :: .v (.one .und) :: .v (.one .und) :: .v (.one .und) :: .v (.one .und) :: .v (.one .und) :: .v (.one .und) :: .v (.one .und) :: .v (.one .und) :: .v (.one .und) :: .v (.one .und) :: .v (.one .und) :: .v (.one .und) :: .v (.one .und) :: .v (.one .und) :: .v (.one .und) :: .v (.one .und) :: .v (.one .und) :: .v (.one .und) :: .v (.one .und) :: .v (.one .und) :: .v (.one .und) :: .v (.one .und) :: .v (.one .und) :: .v (.one .und) :: .v (.one .und) :: .v (.one .und) :: .v (.one .und) :: .v (.one .und) :: .v (.one .und) :: .v (.one .und) :: .v (.one .und) :: .v (.one .und) :: .v (.one .und) :: .v (.one .und) :: .v (.one .und) :: .v (.one .und) :: .v (.one .und) :: .v (.one .und) :: .v (.one .und) :: .v (.one .und) :: .v (.one .und) :: .v (.one .und) :: [], [.cells 24 [.int .i64 v2, .int .i64 v3]]⟩ => spec_LeastTestSet_l0 N  N v0 v1 v2 v3 (fun y0 y1 y2 => K (.exit 0) (x18_0_0_k0  y0 y1 y2))
  | _ => none
def h18_2_0  (v0 : Int) (v1 : Int) (v2 : Int) (v3 : Int) (v4 : List Int) : St := ⟨.v (.one .und) :: .v (.one (.ptr 0 0)) :: .v (.one .und) :: .v (.one .und) :: .v (.one (.int .i64 v0)) :: .v (.one .und) :: .v (.one (.row 1)) :: .v (.one (.int .i64 v1)) :: .v (.one .und) :: .v (.one .und) :: .v (.one .und) :: .v (.one .und) :: .v (.one .und) :: .v (.one .und) :: .v (.one .und) :: .v (.one .und) :: .v (.one .und) :: .v (.one .und) :: .v (.one .und) :: .v (.one .und) :: .v (.one .und) :: .v (.one .und) :: .v (.one .und) :: .v (.one .und) :: .v (.one .und) :: .v (.one .und) :: .v (.one .und) :: .v (.one .und) :: .v (.one .und) :: .v (.one .und) :: .v (.one .und) :: .v (.one .und) :: .v (.one .und) :: .v (.one .und) :: .v (.one .und) :: .v (.one .und) :: .v (.one .und) :: .v (.one .und) :: .v (.one .und) :: .v (.one .und) :: .v (.one .und) :: .v (.one .und) :: .v (.one .und) :: .v (.one .und) :: .v (.one .und) :: .v (.one .und) :: .v (.one .und) :: .v (.one .und) :: .v (.one .und) :: .v (.one .und) :: .v (.one .und) :: .v (.one .und) :: .v (.one .und) :: .v (.one .und) :: .v (.one .und) :: .v (.one .und) :: [], [.cells 24 [.int .i64 v2, .int .i64 v3], .row 3 (.ints .i64 v4)]⟩
def x18_2_0_k0  (y0 : List Int) : St := ⟨.v (.one .und) :: .v (.one .und) :: .v (.one .und) :: .v (.one .und) :: .v (.one .und) :: .v (.one .und) :: .v (.one (.row 0)) :: .v (.one .und) :: .v (.one .und) :: .v (.one .und) :: .v (.one .und) :: .v (.one .und) :: .v (.one .und) :: .v (.one .und) :: .v (.one .und) :: .v (.one .und) :: .v (.one .und) :: .v (.one .und) :: .v (.one .und) :: .v (.one .und) :: .v (.one .und) :: .v (.one .und) :: .v (.one .und) :: .v (.one .und) :: .v (.one .und) :: .v (.one .und) :: .v (.one .und) :: .v (.one .und) :: .v (.one .und) :: .v (.one .und) :: .v (.one .und) :: .v (.one .und) :: .v (.one .und) :: .v (.one .und) :: .v (.one .und) :: .v (.one .und) :: .v (.one .und) :: .v (.one .und) :: .v (.one .und) :: .v (.one .und) :: .v (.one .und) :: .v (.one .und) :: .v (.one .und) :: .v (.one .und) :: .v (.one .und) :: .v (.one .und) :: .v (.one .und) :: .v (.one .und) :: .v (.one .und) :: .v (.one .und) :: .v (.one .und) :: .v (.one .und) :: .v (.one .und) :: .v (.one .und) :: .v (.one .und) :: .v (.one .und) :: [], [.row 3 (.ints .i64 y0)]⟩
def LS18_2 {β : Type} (N : Nat) : LSpec β := fun s K => match s with
  | ⟨.v (.one .und) :: .v (.one (.ptr 0 0)) :: .v (.one .und) :: .v (.one .und) :: .v (.one (.int .i64 v0)) :: .v (.one .und) :: .v (.one (.row 1)) :: .v (.one (.int .i64 v1)) :: .v (.one .und) :: .v (.one .und) :: .v (.one .und) :: .v (.one .und) :: .v (.one .und) :: .v (.one .und) :: .v (.one .und) :: .v (.one .und) :: .v (.one .und) :: .v (.one .und) :: .v (.one .und) :: .v (.one .und) :: .v (.one .und) :: .v (.one .und) :: .v (.one .und) :: .v (.one .und) :: .v (.one .und) :: .v (.one .und) :: .v (.one .und) :: .v (.one .und) :: .v (.one .und) :: .v (.one .und) :: .v (.one .und) :: .v (.one .und) :: .v (.one .und) :: .v (.one .und) :: .v (.one .und) :: .v (.one .und) :: .v (.one .und) :: .v (.one .und) :: .v (.one .und) :: .v (.one .und) :: .v (.one .und) :: .v (.one .und) :: .v (.one .und) :: .v (.one .und) :: .v (.one .und) :: .v (.one .und) :: .v (.one .und) :: .v (.one .und) :: .v (.one .und) :: .v (.one .und) :: .v (.one .und) :: .v (.one .und) :: .v (.one .und) :: .v (.one .und) :: .v (.one .und) :: .v (.one .und) :: [], [.cells 24 [.int .i64 v2, .int .i64 v3], .row 3 (.ints .i64 v4)]⟩ => spec_LeastTestSet_l2 N  N v0 v1 v2 v3 v4 (fun y0 => K (.exit 2) (x18_2_0_k0  y0))
  | _ => none
def E18 {β : Type} (N : Nat) : Env β := ⟨[(43, S43 N), (49, S49 N), (44, S44 N), (50, S50 N)], [], [(0, LS18_0 N), (2, LS18_2 N)]⟩
theorem st18_0_0 {β : Type} (N : Nat)  (v0 : Int) (v1 : Int) (v2 : Int) (v3 : Int) (rec_ : St → Option β) (K : Exit → St → Option β) :
    ev lay (E18 N) (retMask Try.f18) (lp Try.f18 0).body (lp Try.f18 0).ex ((lp Try.f18 0).lv (retMask Try.f18)) (h18_0_0  v0 v1 v2 v3) (nextR (fun s' => rec_ (s'.tidy ((lp Try.f18 0).lv (retMask Try.f18)))) K) =
      spec_LeastTestSet_l0b N  v0 v1 v2 v3 (fun v0 v1 v2 v3 => rec_ (h18_0_0  v0 v1 v2 v3)) (fun y0 y1 y2 => K (.exit 0) (x18_0_0_k0  y0 y1 y2)) := by kernel_rfl
theorem ro18_0_0 {β : Type} (N : Nat)  (K : Exit → St → Option β) : ∀ (F : Nat) (v0 : Int) (v1 : Int) (v2 : Int) (v3 : Int), (lp Try.f18 0).rounds lay (E18 N) (retMask Try.f18) F (h18_0_0  v0 v1 v2 v3) K = spec_LeastTestSet_l0 N  F v0 v1 v2 v3 (fun y0 y1 y2 => K (.exit 0) (x18_0_0_k0  y0 y1 y2)) := by
  intro F
  induction F with
  | zero => intros; rfl
  | succ F ih =>
    intros
    rw [rounds_next]
    refine (st18_0_0 N  _ _ _ _ (fun s => (lp Try.f18 0).rounds lay (E18 N) (retMask Try.f18) F s K) K).trans ?_
    simp only [ih]
    rfl
theorem lk18_0 {β : Type} (N : Nat) : lookL (E18 (β := β) N).loops (lp Try.f18 0).id = LS18_0 N := by kernel_rfl
theorem rk18_0 {β : Type} (N : Nat) : RoundsOK lay (E18 (β := β) N) (retMask Try.f18) (lp Try.f18 0) := by
  intro s K r h
  rw [lk18_0] at h
  unfold LS18_0 at h
  split at h
  · exact ⟨N, (ro18_0_0 N  _ N _ _ _ _).trans h⟩
  · cases h
theorem st18_2_0 {β : Type} (N : Nat)  (v0 : Int) (v1 : Int) (v2 : Int) (v3 : Int) (v4 : List Int) (rec_ : St → Option β) (K : Exit → St → Option β) :
    ev lay (E18 N) (retMask Try.f18) (lp Try.f18 1).body (lp Try.f18 1).ex ((lp Try.f18 1).lv (retMask Try.f18)) (h18_2_0  v0 v1 v2 v3 v4) (nextR (fun s' => rec_ (s'.tidy ((lp Try.f18 1).lv (retMask Try.f18)))) K) =
      spec_LeastTestSet_l2b N  v0 v1 v2 v3 v4 (fun v0 v1 v2 v3 v4 => rec_ (h18_2_0  v0 v1 v2 v3 v4)) (fun y0 => K (.exit 2) (x18_2_0_k0  y0)) := by kernel_rfl
theorem ro18_2_0 {β : Type} (N : Nat)  (K : Exit → St → Option β) : ∀ (F : Nat) (v0 : Int) (v1 : Int) (v2 : Int) (v3 : Int) (v4 : List Int), (lp Try.f18 1).rounds lay (E18 N) (retMask Try.f18) F (h18_2_0  v0 v1 v2 v3 v4) K = spec_LeastTestSet_l2 N  F v0 v1 v2 v3 v4 (fun y0 => K (.exit 2) (x18_2_0_k0  y0)) := by
  intro F
  induction F with
  | zero => intros; rfl
  | succ F ih =>
    intros
    rw [rounds_next]
    refine (st18_2_0 N  _ _ _ _ _ (fun s => (lp Try.f18 1).rounds lay (E18 N) (retMask Try.f18) F s K) K).trans ?_
    simp only [ih]
    rfl
theorem lk18_2 {β : Type} (N : Nat) : lookL (E18 (β := β) N).loops (lp Try.f18 1).id = LS18_2 N := by kernel_rfl
theorem rk18_2 {β : Type} (N : Nat) : RoundsOK lay (E18 (β := β) N) (retMask Try.f18) (lp Try.f18 1) := by
  intro s K r h
  rw [lk18_2] at h
  unfold LS18_2 at h
  split at h
  · exact ⟨N, (ro18_2_0 N  _ N _ _ _ _ _).trans h⟩
  · cases h
theorem e18_0 {β : Type} (N : Nat)  (a0 : Int) (a1 : Int) (K : TV → Option β) : evFn lay (E18 N) Try.f18 [.v (.agg [.int .i64 a0, .int .i64 a1])] K = spec_LeastTestSet N a0 a1 (fun z10 z11 => K (.tup [.one (.sl 3 (.ints .i64 z10)), .one (.bool z11)])) := by kernel_rfl
theorem o18 {β : Type} (N : Nat) : SpecOK (β := β) Try.prog 18 (S18 N) := by
  refine spec_of lay_ok mixed (E := E18 N) (specs_loops (specs_cons (o43 N) (specs_cons (o49 N) (specs_cons (o44 N) (specs_cons (o50 N) specs_nil))))) muts_nil Try.func18 (by kernel_rfl) 2 (by kernel_rfl) ⟨⟨trivial, rk18_0 N⟩, rk18_2 N⟩ fun args K r h => ?_
  unfold S18 at h
  split at h
  · exact (e18_0 N _ _ _).trans h
  · cases h
def S51 {β : Type} (N : Nat) : Rv.Spec β := fun args K => match args with
  | [.v (.agg [.int .i64 a0, .int .i64 a1]), .v (.one (.int .i64 a2))] => impl_isSmall N a0 a1 a2 (fun z4 => K (.v (.one (.bool z4))))
  | _ => none
def E51 {β : Type} (N : Nat) : Env β := ⟨[(46, S46 N)], [], []⟩
theorem e51_0 {β : Type} (N : Nat)  (a0 : Int) (a1 : Int) (a2 : Int) (K : TV → Option β) : evFn lay (E51 N) Try.f51 [.v (.agg [.int .i64 a0, .int .i64 a1]), .v (.one (.int .i64 a2))] K = impl_isSmall N a0 a1 a2 (fun z4 => K (.v (.one (.bool z4)))) := by kernel_rfl
theorem o51 {β : Type} (N : Nat) : SpecOK (β := β) Try.prog 51 (S51 N) := by
  refine spec_of lay_ok mixed (E := E51 N) (specs_loops (specs_cons (o46 N) specs_nil)) muts_nil Try.func51 (by kernel_rfl) 0 (by kernel_rfl) trivial fun args K r h => ?_
  unfold S51 at h
  split at h
  · exact (e51_0 N _ _ _ _).trans h
  · cases h
def S107 {β : Type} (N : Nat) : Rv.Spec β := fun args K => match args with
  | [.v (.one (.int .i64 a0)), .v (.one (.cref [.int .i64 c0, .int .i64 c1] 0)), .v (.one (.cref [.int .i64 c2] 0)), .v (.one (.cref [.int .i64 c3] 0))] => impl_Table_stuck_1 N a0 c0 c1 c2 c3 (fun z2 => K (.v (.one (.bool z2))))
  | _ => none
def E107 {β : Type} (N : Nat) : Env β := ⟨[(85, S85 N)], [], []⟩
theorem e107_0 {β : Type} (N : Nat)  (a0 : Int) (c0 : Int) (c1 : Int) (c2 : Int) (c3 : Int) (K : TV → Option β) : evFn lay (E107 N) Try.f107 [.v (.one (.int .i64 a0)), .v (.one (.cref [.int .i64 c0, .int .i64 c1] 0)), .v (.one (.cref [.int .i64 c2] 0)), .v (.one (.cref [.int .i64 c3] 0))] K = impl_Table_stuck_1 N a0 c0 c1 c2 c3 (fun z2 => K (.v (.one (.bool z2)))) := by kernel_rfl
theorem o107 {β : Type} (N : Nat) : SpecOK (β := β) Try.prog 107 (S107 N) := by
  refine spec_of lay_ok mixed (E := E107 N) (specs_loops (specs_cons (o85 N) specs_nil)) muts_nil Try.func107 (by kernel_rfl) 0 (by kernel_rfl) trivial fun args K r h => ?_
  unfold S107 at h
  split at h
  · exact (e107_0 N _ _ _ _ _ _).trans h
  · cases h
def S106 {β : Type} (N : Nat) : Rv.Spec β := fun args K => match args with
  | [.v (.one (.int .i64 a0)), .v (.one (.dfn 107 [([.int .i64 q0, .int .i64 q1], 0), ([.int .i64 q2], 0), ([.int .i64 q3], 0)]))] => impl_makeTable N a0 (fun x0 k => impl_Table_stuck_1 N x0 q0 q1 q2 q3 k) (fun z4 z5 => K (.v (.agg [.int .i64 z4, .int .i64 z5])))
  | _ => none
def h106_0_0 (q0 : Int) (q1 : Int) (q2 : Int) (q3 : Int) (v0 : Int) (v1 : Int) (v2 : Int) (v3 : Int) (v4 : Int) (v5 : Int) : St := ⟨.v (.one .und) :: .v (.one (.dfn 107 [([.int .i64 q0, .int .i64 q1], 0), ([.int .i64 q2], 0), ([.int .i64 q3], 0)])) :: .v (.one .und) :: .v (.one .und) :: .v (.one (.ptr 0 0)) :: .v (.one (.ptr 1 0)) :: .v (.one .und) :: .v (.one .und) :: .v (.one .und) :: .v (.one .und) :: .v (.one (.int .i64 v0)) :: .v (.one (.int .i64 v1)) :: .v (.one .und) :: .v (.one .und) :: .v (.one .und) :: .v (.one .und) :: .v (.one .und) :: .v (.one .und) :: .v (.one .und) :: .v (.one .und) :: .v (.one .und) :: .v (.one .und) :: .v (.one .und) :: .v (.one .und) :: .v (.one .und) :: [], [.cells 24 [.int .i64 v2, .int .i64 v3], .cells 24 [.int .i64 v4, .int .i64 v5]]⟩
def x106_0_0_k0 (q0 : Int) (q1 : Int) (q2 : Int) (q3 : Int) (y0 : Int) (y1 : Int) (y2 : Int) (y3 : Int) : St := ⟨.v (.one .und) :: .v (.one .und) :: .v (.one .und) :: .v (.one .und) :: .v (.one (.ptr 0 0)) :: .v (.one (.ptr 1 0)) :: .v (.one .und) :: .v (.one .und) :: .v (.one .und) :: .v (.one .und) :: .v (.one .und) :: .v (.one .und) :: .v (.one .und) :: .v (.one .und) :: .v (.one .und) :: .v (.one .und) :: .v (.one .und) :: .v (.one .und) :: .v (.one .und) :: .v (.one .und) :: .v (.one .und) :: .v (.one .und) :: .v (.one .und) :: .v (.one .und) :: .v (.one .und) :: [], [.cells 24 [.int .i64 y0, .int .i64 y1], .cells 24 [.int .i64 y2, .int .i64 y3]]⟩
def LS106_0 {β : Type} (N : Nat) : LSpec β := fun s K => match s with
  | ⟨.v (.one .und) :: .v (.one (.dfn 107 [([.int .i64 q0, .int .i64 q1], 0), ([.int .i64 q2], 0), ([.int .i64 q3], 0)])) :: .v (.one .und) :: .v (.one .und) :: .v (.one (.ptr 0 0)) :: .v (.one (.ptr 1 0)) :: .v (.one .und) :: .v (.one .und) :: .v (.one .und) :: .v (.one .und) :: .v (.one (.int .i64 v0)) :: .v (.one (.int .i64 v1)) :: .v (.one .und) :: .v (.one .und) :: .v (.one .und) :: .v (.one .und) :: .v (.one .und) :: .v (.one .und) :: .v (.one .und) :: .v (.one .und) :: .v (.one .und) :: .v (.one .und) :: .v (.one .und) :: .v (.one .und) :: .v (.one .und) :: [], [.cells 24 [.int .i64 v2, .int .i64 v3], .cells 24 [.int .i64 v4, .int .i64 v5]]⟩ => impl_makeTable_l0 N (fun x0 k => impl_Table_stuck_1 N x0 q0 q1 q2 q3 k) N v0 v1 v2 v3 v4 v5 (fun y0 y1 y2 y3 => K (.exit 0) (x106_0_0_k0 q0 q1 q2 q3 y0 y1 y2 y3))
  | _ => none
def E106 {β : Type} (N : Nat) : Env β := ⟨[(107, S107 N)], [], [(0, LS106_0 N)]⟩
theorem st106_0_0 {β : Type} (N : Nat) (q0 : Int) (q1 : Int) (q2 : Int) (q3 : Int) (v0 : Int) (v1 : Int) (v2 : Int) (v3 : Int) (v4 : Int) (v5 : Int) (rec_ : St → Option β) (K : Exit → St → Option β) :
    ev lay (E106 N) (retMask Try.f106) (lp Try.f106 0).body (lp Try.f106 0).ex ((lp Try.f106 0).lv (retMask Try.f106)) (h106_0_0 q0 q1 q2 q3 v0 v1 v2 v3 v4 v5) (nextR (fun s' => rec_ (s'.tidy ((lp Try.f106 0).lv (retMask Try.f106)))) K) =
      impl_makeTable_l0b N (fun x0 k => impl_Table_stuck_1 N x0 q0 q1 q2 q3 k) v0 v1 v2 v3 v4 v5 (fun v0 v1 v2 v3 v4 v5 => rec_ (h106_0_0 q0 q1 q2 q3 v0 v1 v2 v3 v4 v5)) (fun y0 y1 y2 y3 => K (.exit 0) (x106_0_0_k0 q0 q1 q2 q3 y0 y1 y2 y3)) := by kernel_rfl
theorem ro106_0_0 {β : Type} (N : Nat) (q0 : Int) (q1 : Int) (q2 : Int) (q3 : Int) (K : Exit → St → Option β) : ∀ (F : Nat) (v0 : Int) (v1 : Int) (v2 : Int) (v3 : Int) (v4 : Int) (v5 : Int), (lp Try.f106 0).rounds lay (E106 N) (retMask Try.f106) F (h106_0_0 q0 q1 q2 q3 v0 v1 v2 v3 v4 v5) K = impl_makeTable_l0 N (fun x0 k => impl_Table_stuck_1 N x0 q0 q1 q2 q3 k) F v0 v1 v2 v3 v4 v5 (fun y0 y1 y2 y3 => K (.exit 0) (x106_0_0_k0 q0 q1 q2 q3 y0 y1 y2 y3)) := by
  intro F
  induction F with
  | zero => intros; rfl
  | succ F ih =>
    intros
    rw [rounds_next]
    refine (st106_0_0 N q0 q1 q2 q3 _ _ _ _ _ _ (fun s => (lp Try.f106 0).rounds lay (E106 N) (retMask Try.f106) F s K) K).trans ?_
    simp only [ih]
    rfl
theorem lk106_0 {β : Type} (N : Nat) : lookL (E106 (β := β) N).loops (lp Try.f106 0).id = LS106_0 N := by kernel_rfl
theorem rk106_0 {β : Type} (N : Nat) : RoundsOK lay (E106 (β := β) N) (retMask Try.f106) (lp Try.f106 0) := by
  intro s K r h
  rw [lk106_0] at h
  unfold LS106_0 at h
  split at h
  · exact ⟨N, (ro106_0_0 N _ _ _ _ _ N _ _ _ _ _ _).trans h⟩
  · cases h
theorem e106_0 {β : Type} (N : Nat) (q0 : Int) (q1 : Int) (q2 : Int) (q3 : Int) (a0 : Int) (K : TV → Option β) : evFn lay (E106 N) Try.f106 [.v (.one (.int .i64 a0)), .v (.one (.dfn 107 [([.int .i64 q0, .int .i64 q1], 0), ([.int .i64 q2], 0), ([.int .i64 q3], 0)]))] K = impl_makeTable N a0 (fun x0 k => impl_Table_stuck_1 N x0 q0 q1 q2 q3 k) (fun z4 z5 => K (.v (.agg [.int .i64 z4, .int .i64 z5]))) := by kernel_rfl
theorem o106 {β : Type} (N : Nat) : SpecOK (β := β) Try.prog 106 (S106 N) := by
  refine spec_of lay_ok mixed (E := E106 N) (specs_loops (specs_cons (o107 N) specs_nil)) muts_nil Try.func106 (by kernel_rfl) 1 (by kernel_rfl) ⟨trivial, rk106_0 N⟩ fun args K r h => ?_
  unfold S106 at h
  split at h
  · exact (e106_0 N _ _ _ _ _ _).trans h
  · cases h
def S97 {β : Type} (N : Nat) : Rv.Spec β := fun args K => match args with
  | [.v (.agg [.int .i64 a0, .int .i64 a1]), .v (.one (.int .i64 a2)), .v (.one (.int .i64 a3))] => impl_Table_stuck N a0 a1 a2 a3 (fun z6 z7 => K (.v (.agg [.int .i64 z6, .int .i64 z7])))
  | _ => none
def E97 {β : Type} (N : Nat) : Env β := ⟨[(106, S106 N), (107, S107 N)], [], []⟩
theorem e97_0 {β : Type} (N : Nat)  (a0 : Int) (a1 : Int) (a2 : Int) (a3 : Int) (K : TV → Option β) : evFn lay (E97 N) Try.f97 [.v (.agg [.int .i64 a0, .int .i64 a1]), .v (.one (.int .i64 a2)), .v (.one (.int .i64 a3))] K = impl_Table_stuck N a0 a1 a2 a3 (fun z6 z7 => K (.v (.agg [.int .i64 z6, .int .i64 z7]))) := by kernel_rfl
theorem o97 {β : Type} (N : Nat) : SpecOK (β := β) Try.prog 97 (S97 N) := by
  refine spec_of lay_ok mixed (E := E97 N) (specs_loops (specs_cons (o106 N) (specs_cons (o107 N) specs_nil))) muts_nil Try.func97 (by kernel_rfl) 0 (by kernel_rfl) trivial fun args K r h => ?_
  unfold S97 at h
  split at h
  · exact (e97_0 N _ _ _ _ _).trans h
  · cases h
def S78 {β : Type} (N : Nat) : Rv.Spec β := fun args K => match args with
  | [.v (.agg [.int .i64 a0, .int .i64 a1]), .v (.one (.int .i64 a2)), .v (.one (.int .i64 a3))] => impl_Table_detecting N a0 a1 a2 a3 (fun z6 => K (.v (.one (.int .i64 z6))))
  | _ => none
def E78 {β : Type} (N : Nat) : Env β := ⟨[(97, S97 N)], [], []⟩
theorem e78_0 {β : Type} (N : Nat)  (a0 : Int) (a1 : Int) (a2 : Int) (a3 : Int) (K : TV → Option β) : evFn lay (E78 N) Try.f78 [.v (.agg [.int .i64 a0, .int .i64 a1]), .v (.one (.int .i64 a2)), .v (.one (.int .i64 a3))] K = impl_Table_detecting N a0 a1 a2 a3 (fun z6 => K (.v (.one (.int .i64 z6)))) := by kernel_rfl
theorem o78 {β : Type} (N : Nat) : SpecOK (β := β) Try.prog 78 (S78 N) := by
  refine spec_of lay_ok mixed (E := E78 N) (specs_loops (specs_cons (o97 N) specs_nil)) muts_nil Try.func78 (by kernel_rfl) 0 (by kernel_rfl) trivial fun args K r h => ?_
  unfold S78 at h
  split at h
  · exact (e78_0 N _ _ _ _ _).trans h
  · cases h
end Go.Proofs.Ytdjmbggefcfacaa
