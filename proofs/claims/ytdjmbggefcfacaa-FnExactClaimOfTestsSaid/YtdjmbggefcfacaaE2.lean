/- The functions that the claims reach answer as their texts do. -/
import Derived.Test.YtdjmbggefcfacaaE1
namespace Go.Proofs.Ytdjmbggefcfacaa
open Go.Rv
set_option maxRecDepth 100000
set_option maxHeartbeats 2000000
set_option linter.unusedVariables false
def S54 {β : Type} (N : Nat) : Rv.Spec β := fun args K => match args with
  | [.v (.agg [.int .i64 a0, .int .i64 a1]), .v (.one (.int .i64 a2))] => impl_Table_tests N a0 a1 a2 (fun z8 => K (.v (.one (.bool z8))))
  | _ => none
def h54_0_0  (v0 : Int) (v1 : Int) (v2 : Int) (v3 : Int) (v4 : Int) : St := ⟨.v (.one .und) :: .v (.one (.int .i64 v0)) :: .v (.one (.ptr 0 0)) :: .v (.one .und) :: .v (.one .und) :: .v (.one .und) :: .v (.one .und) :: .v (.one .und) :: .v (.one .und) :: .v (.one (.int .i64 v1)) :: .v (.one (.int .i64 v2)) :: .v (.one .und) :: .v (.one .und) :: .v (.one .und) :: .v (.one .und) :: .v (.one .und) :: .v (.one .und) :: .v (.one .und) :: .v (.one .und) :: .v (.one .und) :: .v (.one .und) :: .v (.one .und) :: .v (.one .und) :: .v (.one .und) :: .v (.one .und) :: .v (.one .und) :: .v (.one .und) :: .v (.one .und) :: .v (.one .und) :: .v (.one .und) :: [], [.cells 24 [.int .i64 v3, .int .i64 v4]]⟩
def x54_0_0_k0  (y0 : Bool) : St := ⟨.v (.one .und) :: .v (.one .und) :: .v (.one .und) :: .v (.one .und) :: .v (.one (.bool y0)) :: .v (.one .und) :: .v (.one .und) :: .v (.one .und) :: .v (.one .und) :: .v (.one .und) :: .v (.one .und) :: .v (.one .und) :: .v (.one .und) :: .v (.one .und) :: .v (.one .und) :: .v (.one .und) :: .v (.one .und) :: .v (.one .und) :: .v (.one .und) :: .v (.one .und) :: .v (.one .und) :: .v (.one .und) :: .v (.one .und) :: .v (.one .und) :: .v (.one .und) :: .v (.one .und) :: .v (.one .und) :: .v (.one .und) :: .v (.one .und) :: .v (.one .und) :: [], []⟩
def x54_0_0_k1   : St := ⟨.v (.one .und) :: .v (.one .und) :: .v (.one .und) :: .v (.one .und) :: .v (.one .und) :: .v (.one .und) :: .v (.one .und) :: .v (.one .und) :: .v (.one .und) :: .v (.one .und) :: .v (.one .und) :: .v (.one .und) :: .v (.one .und) :: .v (.one .und) :: .v (.one .und) :: .v (.one .und) :: .v (.one .und) :: .v (.one .und) :: .v (.one .und) :: .v (.one .und) :: .v (.one .und) :: .v (.one .und) :: .v (.one .und) :: .v (.one .und) :: .v (.one .und) :: .v (.one .und) :: .v (.one .und) :: .v (.one .und) :: .v (.one .und) :: .v (.one .und) :: [], []⟩
def LS54_0 {β : Type} (N : Nat) : LSpec β := fun s K => match s with
  | ⟨.v (.one .und) :: .v (.one (.int .i64 v0)) :: .v (.one (.ptr 0 0)) :: .v (.one .und) :: .v (.one .und) :: .v (.one .und) :: .v (.one .und) :: .v (.one .und) :: .v (.one .und) :: .v (.one (.int .i64 v1)) :: .v (.one (.int .i64 v2)) :: .v (.one .und) :: .v (.one .und) :: .v (.one .und) :: .v (.one .und) :: .v (.one .und) :: .v (.one .und) :: .v (.one .und) :: .v (.one .und) :: .v (.one .und) :: .v (.one .und) :: .v (.one .und) :: .v (.one .und) :: .v (.one .und) :: .v (.one .und) :: .v (.one .und) :: .v (.one .und) :: .v (.one .und) :: .v (.one .und) :: .v (.one .und) :: [], [.cells 24 [.int .i64 v3, .int .i64 v4]]⟩ => impl_Table_tests_l0 N  N v0 v1 v2 v3 v4 (fun y0 => K .ret (x54_0_0_k0  y0)) (K (.exit 0) (x54_0_0_k1  ))
  | _ => none
def h54_2_0  (v0 : Int) (v1 : Int) (v2 : Int) (v3 : Int) (v4 : Int) (v5 : Int) (v6 : Int) : St := ⟨.v (.one .und) :: .v (.one (.int .i64 v0)) :: .v (.one (.ptr 0 0)) :: .v (.one .und) :: .v (.one .und) :: .v (.one (.int .i64 v1)) :: .v (.one .und) :: .v (.one .und) :: .v (.one .und) :: .v (.one (.int .i64 v2)) :: .v (.one (.int .i64 v3)) :: .v (.one .und) :: .v (.one .und) :: .v (.one (.int .i64 v4)) :: .v (.one .und) :: .v (.one .und) :: .v (.one .und) :: .v (.one .und) :: .v (.one .und) :: .v (.one .und) :: .v (.one .und) :: .v (.one .und) :: .v (.one .und) :: .v (.one .und) :: .v (.one .und) :: .v (.one .und) :: .v (.one .und) :: .v (.one .und) :: .v (.one .und) :: .v (.one .und) :: [], [.cells 24 [.int .i64 v5, .int .i64 v6]]⟩
def x54_2_0_k0  (y0 : Bool) : St := ⟨.v (.one .und) :: .v (.one .und) :: .v (.one .und) :: .v (.one .und) :: .v (.one (.bool y0)) :: .v (.one .und) :: .v (.one .und) :: .v (.one .und) :: .v (.one .und) :: .v (.one .und) :: .v (.one .und) :: .v (.one .und) :: .v (.one .und) :: .v (.one .und) :: .v (.one .und) :: .v (.one .und) :: .v (.one .und) :: .v (.one .und) :: .v (.one .und) :: .v (.one .und) :: .v (.one .und) :: .v (.one .und) :: .v (.one .und) :: .v (.one .und) :: .v (.one .und) :: .v (.one .und) :: .v (.one .und) :: .v (.one .und) :: .v (.one .und) :: .v (.one .und) :: [], []⟩
def x54_2_0_k1  (y0 : Int) (y1 : Int) (y2 : Int) (y3 : Int) (y4 : Int) : St := ⟨.v (.one .und) :: .v (.one (.int .i64 y0)) :: .v (.one (.ptr 0 0)) :: .v (.one .und) :: .v (.one .und) :: .v (.one .und) :: .v (.one .und) :: .v (.one .und) :: .v (.one .und) :: .v (.one (.int .i64 y1)) :: .v (.one (.int .i64 y2)) :: .v (.one .und) :: .v (.one .und) :: .v (.one .und) :: .v (.one .und) :: .v (.one .und) :: .v (.one .und) :: .v (.one .und) :: .v (.one .und) :: .v (.one .und) :: .v (.one .und) :: .v (.one .und) :: .v (.one .und) :: .v (.one .und) :: .v (.one .und) :: .v (.one .und) :: .v (.one .und) :: .v (.one .und) :: .v (.one .und) :: .v (.one .und) :: [], [.cells 24 [.int .i64 y3, .int .i64 y4]]⟩
def LS54_2 {β : Type} (N : Nat) : LSpec β := fun s K => match s with
  | ⟨.v (.one .und) :: .v (.one (.int .i64 v0)) :: .v (.one (.ptr 0 0)) :: .v (.one .und) :: .v (.one .und) :: .v (.one (.int .i64 v1)) :: .v (.one .und) :: .v (.one .und) :: .v (.one .und) :: .v (.one (.int .i64 v2)) :: .v (.one (.int .i64 v3)) :: .v (.one .und) :: .v (.one .und) :: .v (.one (.int .i64 v4)) :: .v (.one .und) :: .v (.one .und) :: .v (.one .und) :: .v (.one .und) :: .v (.one .und) :: .v (.one .und) :: .v (.one .und) :: .v (.one .und) :: .v (.one .und) :: .v (.one .und) :: .v (.one .und) :: .v (.one .und) :: .v (.one .und) :: .v (.one .und) :: .v (.one .und) :: .v (.one .und) :: [], [.cells 24 [.int .i64 v5, .int .i64 v6]]⟩ => impl_Table_tests_l2 N  N v0 v1 v2 v3 v4 v5 v6 (fun y0 => K .ret (x54_2_0_k0  y0)) (fun y0 y1 y2 y3 y4 => K (.exit 2) (x54_2_0_k1  y0 y1 y2 y3 y4))
  | _ => none
def E54 {β : Type} (N : Nat) : Env β := ⟨[(78, S78 N)], [], [(0, LS54_0 N), (2, LS54_2 N)]⟩
theorem st54_0_0 {β : Type} (N : Nat)  (v0 : Int) (v1 : Int) (v2 : Int) (v3 : Int) (v4 : Int) (rec_ : St → Option β) (K : Exit → St → Option β) :
    ev lay (E54 N) (retMask Try.f54) (lp Try.f54 0).body (lp Try.f54 0).ex ((lp Try.f54 0).lv (retMask Try.f54)) (h54_0_0  v0 v1 v2 v3 v4) (nextR (fun s' => rec_ (s'.tidy ((lp Try.f54 0).lv (retMask Try.f54)))) K) =
      impl_Table_tests_l0b N  v0 v1 v2 v3 v4 (fun v0 v1 v2 v3 v4 => rec_ (h54_0_0  v0 v1 v2 v3 v4)) (fun y0 => K .ret (x54_0_0_k0  y0)) (K (.exit 0) (x54_0_0_k1  )) := by kernel_rfl
theorem ro54_0_0 {β : Type} (N : Nat)  (K : Exit → St → Option β) : ∀ (F : Nat) (v0 : Int) (v1 : Int) (v2 : Int) (v3 : Int) (v4 : Int), (lp Try.f54 0).rounds lay (E54 N) (retMask Try.f54) F (h54_0_0  v0 v1 v2 v3 v4) K = impl_Table_tests_l0 N  F v0 v1 v2 v3 v4 (fun y0 => K .ret (x54_0_0_k0  y0)) (K (.exit 0) (x54_0_0_k1  )) := by
  intro F
  induction F with
  | zero => intros; rfl
  | succ F ih =>
    intros
    rw [rounds_next]
    refine (st54_0_0 N  _ _ _ _ _ (fun s => (lp Try.f54 0).rounds lay (E54 N) (retMask Try.f54) F s K) K).trans ?_
    simp only [ih]
    rfl
theorem lk54_0 {β : Type} (N : Nat) : lookL (E54 (β := β) N).loops (lp Try.f54 0).id = LS54_0 N := by kernel_rfl
theorem rk54_0 {β : Type} (N : Nat) : RoundsOK lay (E54 (β := β) N) (retMask Try.f54) (lp Try.f54 0) := by
  intro s K r h
  rw [lk54_0] at h
  unfold LS54_0 at h
  split at h
  · exact ⟨N, (ro54_0_0 N  _ N _ _ _ _ _).trans h⟩
  · cases h
theorem st54_2_0 {β : Type} (N : Nat)  (v0 : Int) (v1 : Int) (v2 : Int) (v3 : Int) (v4 : Int) (v5 : Int) (v6 : Int) (rec_ : St → Option β) (K : Exit → St → Option β) :
    ev lay (E54 N) (retMask Try.f54) (lp Try.f54 1).body (lp Try.f54 1).ex ((lp Try.f54 1).lv (retMask Try.f54)) (h54_2_0  v0 v1 v2 v3 v4 v5 v6) (nextR (fun s' => rec_ (s'.tidy ((lp Try.f54 1).lv (retMask Try.f54)))) K) =
      impl_Table_tests_l2b N  v0 v1 v2 v3 v4 v5 v6 (fun v0 v1 v2 v3 v4 v5 v6 => rec_ (h54_2_0  v0 v1 v2 v3 v4 v5 v6)) (fun y0 => K .ret (x54_2_0_k0  y0)) (fun y0 y1 y2 y3 y4 => K (.exit 2) (x54_2_0_k1  y0 y1 y2 y3 y4)) := by kernel_rfl
theorem ro54_2_0 {β : Type} (N : Nat)  (K : Exit → St → Option β) : ∀ (F : Nat) (v0 : Int) (v1 : Int) (v2 : Int) (v3 : Int) (v4 : Int) (v5 : Int) (v6 : Int), (lp Try.f54 1).rounds lay (E54 N) (retMask Try.f54) F (h54_2_0  v0 v1 v2 v3 v4 v5 v6) K = impl_Table_tests_l2 N  F v0 v1 v2 v3 v4 v5 v6 (fun y0 => K .ret (x54_2_0_k0  y0)) (fun y0 y1 y2 y3 y4 => K (.exit 2) (x54_2_0_k1  y0 y1 y2 y3 y4)) := by
  intro F
  induction F with
  | zero => intros; rfl
  | succ F ih =>
    intros
    rw [rounds_next]
    refine (st54_2_0 N  _ _ _ _ _ _ _ (fun s => (lp Try.f54 1).rounds lay (E54 N) (retMask Try.f54) F s K) K).trans ?_
    simp only [ih]
    rfl
theorem lk54_2 {β : Type} (N : Nat) : lookL (E54 (β := β) N).loops (lp Try.f54 1).id = LS54_2 N := by kernel_rfl
theorem rk54_2 {β : Type} (N : Nat) : RoundsOK lay (E54 (β := β) N) (retMask Try.f54) (lp Try.f54 1) := by
  intro s K r h
  rw [lk54_2] at h
  unfold LS54_2 at h
  split at h
  · exact ⟨N, (ro54_2_0 N  _ N _ _ _ _ _ _ _).trans h⟩
  · cases h
theorem e54_0 {β : Type} (N : Nat)  (a0 : Int) (a1 : Int) (a2 : Int) (K : TV → Option β) : evFn lay (E54 N) Try.f54 [.v (.agg [.int .i64 a0, .int .i64 a1]), .v (.one (.int .i64 a2))] K = impl_Table_tests N a0 a1 a2 (fun z8 => K (.v (.one (.bool z8)))) := by kernel_rfl
theorem o54 {β : Type} (N : Nat) : SpecOK (β := β) Try.prog 54 (S54 N) := by
  refine spec_of lay_ok mixed (E := E54 N) (specs_loops (specs_cons (o78 N) specs_nil)) muts_nil Try.func54 (by kernel_rfl) 2 (by kernel_rfl) ⟨⟨trivial, rk54_0 N⟩, rk54_2 N⟩ fun args K r h => ?_
  unfold S54 at h
  split at h
  · exact (e54_0 N _ _ _ _).trans h
  · cases h
def S55 {β : Type} (N : Nat) : Rv.Spec β := fun args K => match args with
  | [.v (.one (.int .i64 a0))] => impl_elements N a0 (fun z2 => K (.v (.one (.sl 3 (.ints .i64 z2)))))
  | _ => none
def h55_0_0  (v0 : Int) (v1 : Int) (v2 : List Int) : St := ⟨.v (.one (.int .i64 v0)) :: .v (.one .und) :: .v (.one .und) :: .v (.one (.row 0)) :: .v (.one .und) :: .v (.one (.int .i64 v1)) :: .v (.one .und) :: .v (.one .und) :: .v (.one .und) :: .v (.one .und) :: .v (.one .und) :: .v (.one .und) :: .v (.one .und) :: .v (.one .und) :: .v (.one .und) :: .v (.one .und) :: .v (.one .und) :: .v (.one .und) :: .v (.one .und) :: [], [.row 3 (.ints .i64 v2)]⟩
def x55_0_0_k0  (y0 : List Int) : St := ⟨.v (.one .und) :: .v (.one .und) :: .v (.one .und) :: .v (.one (.row 0)) :: .v (.one .und) :: .v (.one .und) :: .v (.one .und) :: .v (.one .und) :: .v (.one .und) :: .v (.one .und) :: .v (.one .und) :: .v (.one .und) :: .v (.one .und) :: .v (.one .und) :: .v (.one .und) :: .v (.one .und) :: .v (.one .und) :: .v (.one .und) :: .v (.one .und) :: [], [.row 3 (.ints .i64 y0)]⟩
def LS55_0 {β : Type} (N : Nat) : LSpec β := fun s K => match s with
  | ⟨.v (.one (.int .i64 v0)) :: .v (.one .und) :: .v (.one .und) :: .v (.one (.row 0)) :: .v (.one .und) :: .v (.one (.int .i64 v1)) :: .v (.one .und) :: .v (.one .und) :: .v (.one .und) :: .v (.one .und) :: .v (.one .und) :: .v (.one .und) :: .v (.one .und) :: .v (.one .und) :: .v (.one .und) :: .v (.one .und) :: .v (.one .und) :: .v (.one .und) :: .v (.one .und) :: [], [.row 3 (.ints .i64 v2)]⟩ => impl_elements_l0 N  N v0 v1 v2 (fun y0 => K (.exit 0) (x55_0_0_k0  y0))
  | _ => none
def E55 {β : Type} (N : Nat) : Env β := ⟨[], [], [(0, LS55_0 N)]⟩
theorem st55_0_0 {β : Type} (N : Nat)  (v0 : Int) (v1 : Int) (v2 : List Int) (rec_ : St → Option β) (K : Exit → St → Option β) :
    ev lay (E55 N) (retMask Try.f55) (lp Try.f55 0).body (lp Try.f55 0).ex ((lp Try.f55 0).lv (retMask Try.f55)) (h55_0_0  v0 v1 v2) (nextR (fun s' => rec_ (s'.tidy ((lp Try.f55 0).lv (retMask Try.f55)))) K) =
      impl_elements_l0b N  v0 v1 v2 (fun v0 v1 v2 => rec_ (h55_0_0  v0 v1 v2)) (fun y0 => K (.exit 0) (x55_0_0_k0  y0)) := by kernel_rfl
theorem ro55_0_0 {β : Type} (N : Nat)  (K : Exit → St → Option β) : ∀ (F : Nat) (v0 : Int) (v1 : Int) (v2 : List Int), (lp Try.f55 0).rounds lay (E55 N) (retMask Try.f55) F (h55_0_0  v0 v1 v2) K = impl_elements_l0 N  F v0 v1 v2 (fun y0 => K (.exit 0) (x55_0_0_k0  y0)) := by
  intro F
  induction F with
  | zero => intros; rfl
  | succ F ih =>
    intros
    rw [rounds_next]
    refine (st55_0_0 N  _ _ _ (fun s => (lp Try.f55 0).rounds lay (E55 N) (retMask Try.f55) F s K) K).trans ?_
    simp only [ih]
    rfl
theorem lk55_0 {β : Type} (N : Nat) : lookL (E55 (β := β) N).loops (lp Try.f55 0).id = LS55_0 N := by kernel_rfl
theorem rk55_0 {β : Type} (N : Nat) : RoundsOK lay (E55 (β := β) N) (retMask Try.f55) (lp Try.f55 0) := by
  intro s K r h
  rw [lk55_0] at h
  unfold LS55_0 at h
  split at h
  · exact ⟨N, (ro55_0_0 N  _ N _ _ _).trans h⟩
  · cases h
theorem e55_0 {β : Type} (N : Nat)  (a0 : Int) (K : TV → Option β) : evFn lay (E55 N) Try.f55 [.v (.one (.int .i64 a0))] K = impl_elements N a0 (fun z2 => K (.v (.one (.sl 3 (.ints .i64 z2))))) := by kernel_rfl
theorem o55 {β : Type} (N : Nat) : SpecOK (β := β) Try.prog 55 (S55 N) := by
  refine spec_of lay_ok mixed (E := E55 N) (specs_loops specs_nil) muts_nil Try.func55 (by kernel_rfl) 1 (by kernel_rfl) ⟨trivial, rk55_0 N⟩ fun args K r h => ?_
  unfold S55 at h
  split at h
  · exact (e55_0 N _ _).trans h
  · cases h
def S19 {β : Type} (N : Nat) : Rv.Spec β := fun args K => match args with
  | [.v (.agg [.int .i64 a0, .int .i64 a1])] => impl_LeastTestSet N a0 a1 (fun z9 z10 => K (.tup [.one (.sl 3 (.ints .i64 z9)), .one (.bool z10)]))
  | _ => none
def h19_0_0  (v0 : Int) (v1 : Int) (v2 : Int) (v3 : Int) (v4 : Int) : St := ⟨.v (.one .und) :: .v (.one (.ptr 0 0)) :: .v (.one .und) :: .v (.one .und) :: .v (.one (.int .i64 v0)) :: .v (.one .und) :: .v (.one .und) :: .v (.one .und) :: .v (.one .und) :: .v (.one .und) :: .v (.one .und) :: .v (.one .und) :: .v (.one .und) :: .v (.one (.int .i64 v1)) :: .v (.one (.int .i64 v2)) :: .v (.one .und) :: .v (.one .und) :: .v (.one .und) :: .v (.one .und) :: .v (.one .und) :: .v (.one .und) :: .v (.one .und) :: .v (.one .und) :: .v (.one .und) :: .v (.one .und) :: .v (.one .und) :: .v (.one .und) :: .v (.one .und) :: .v (.one .und) :: .v (.one .und) :: .v (.one .und) :: [], [.cells 24 [.int .i64 v3, .int .i64 v4]]⟩
def x19_0_0_k0  (y0 : Int) : St := ⟨.v (.one .und) :: .v (.one .und) :: .v (.one .und) :: .v (.one .und) :: .v (.one (.int .i64 y0)) :: .v (.one .und) :: .v (.one .und) :: .v (.one .und) :: .v (.one .und) :: .v (.one .und) :: .v (.one .und) :: .v (.one .und) :: .v (.one .und) :: .v (.one .und) :: .v (.one .und) :: .v (.one .und) :: .v (.one .und) :: .v (.one .und) :: .v (.one .und) :: .v (.one .und) :: .v (.one .und) :: .v (.one .und) :: .v (.one .und) :: .v (.one .und) :: .v (.one .und) :: .v (.one .und) :: .v (.one .und) :: .v (.one .und) :: .v (.one .und) :: .v (.one .und) :: .v (.one .und) :: [], []⟩
def LS19_0 {β : Type} (N : Nat) : LSpec β := fun s K => match s with
  | ⟨.v (.one .und) :: .v (.one (.ptr 0 0)) :: .v (.one .und) :: .v (.one .und) :: .v (.one (.int .i64 v0)) :: .v (.one .und) :: .v (.one .und) :: .v (.one .und) :: .v (.one .und) :: .v (.one .und) :: .v (.one .und) :: .v (.one .und) :: .v (.one .und) :: .v (.one (.int .i64 v1)) :: .v (.one (.int .i64 v2)) :: .v (.one .und) :: .v (.one .und) :: .v (.one .und) :: .v (.one .und) :: .v (.one .und) :: .v (.one .und) :: .v (.one .und) :: .v (.one .und) :: .v (.one .und) :: .v (.one .und) :: .v (.one .und) :: .v (.one .und) :: .v (.one .und) :: .v (.one .und) :: .v (.one .und) :: .v (.one .und) :: [], [.cells 24 [.int .i64 v3, .int .i64 v4]]⟩ => impl_LeastTestSet_l0 N  N v0 v1 v2 v3 v4 (fun y0 => K (.exit 0) (x19_0_0_k0  y0))
  | _ => none
def E19 {β : Type} (N : Nat) : Env β := ⟨[(51, S51 N), (52, S52 N), (53, S53 N), (54, S54 N), (55, S55 N)], [], [(0, LS19_0 N)]⟩
theorem st19_0_0 {β : Type} (N : Nat)  (v0 : Int) (v1 : Int) (v2 : Int) (v3 : Int) (v4 : Int) (rec_ : St → Option β) (K : Exit → St → Option β) :
    ev lay (E19 N) (retMask Try.f19) (lp Try.f19 0).body (lp Try.f19 0).ex ((lp Try.f19 0).lv (retMask Try.f19)) (h19_0_0  v0 v1 v2 v3 v4) (nextR (fun s' => rec_ (s'.tidy ((lp Try.f19 0).lv (retMask Try.f19)))) K) =
      impl_LeastTestSet_l0b N  v0 v1 v2 v3 v4 (fun v0 v1 v2 v3 v4 => rec_ (h19_0_0  v0 v1 v2 v3 v4)) (fun y0 => K (.exit 0) (x19_0_0_k0  y0)) := by kernel_rfl
theorem ro19_0_0 {β : Type} (N : Nat)  (K : Exit → St → Option β) : ∀ (F : Nat) (v0 : Int) (v1 : Int) (v2 : Int) (v3 : Int) (v4 : Int), (lp Try.f19 0).rounds lay (E19 N) (retMask Try.f19) F (h19_0_0  v0 v1 v2 v3 v4) K = impl_LeastTestSet_l0 N  F v0 v1 v2 v3 v4 (fun y0 => K (.exit 0) (x19_0_0_k0  y0)) := by
  intro F
  induction F with
  | zero => intros; rfl
  | succ F ih =>
    intros
    rw [rounds_next]
    refine (st19_0_0 N  _ _ _ _ _ (fun s => (lp Try.f19 0).rounds lay (E19 N) (retMask Try.f19) F s K) K).trans ?_
    simp only [ih]
    rfl
theorem lk19_0 {β : Type} (N : Nat) : lookL (E19 (β := β) N).loops (lp Try.f19 0).id = LS19_0 N := by kernel_rfl
theorem rk19_0 {β : Type} (N : Nat) : RoundsOK lay (E19 (β := β) N) (retMask Try.f19) (lp Try.f19 0) := by
  intro s K r h
  rw [lk19_0] at h
  unfold LS19_0 at h
  split at h
  · exact ⟨N, (ro19_0_0 N  _ N _ _ _ _ _).trans h⟩
  · cases h
theorem e19_0 {β : Type} (N : Nat)  (a0 : Int) (a1 : Int) (K : TV → Option β) : evFn lay (E19 N) Try.f19 [.v (.agg [.int .i64 a0, .int .i64 a1])] K = impl_LeastTestSet N a0 a1 (fun z9 z10 => K (.tup [.one (.sl 3 (.ints .i64 z9)), .one (.bool z10)])) := by kernel_rfl
theorem o19 {β : Type} (N : Nat) : SpecOK (β := β) Try.prog 19 (S19 N) := by
  refine spec_of lay_ok mixed (E := E19 N) (specs_loops (specs_cons (o51 N) (specs_cons (o52 N) (specs_cons (o53 N) (specs_cons (o54 N) (specs_cons (o55 N) specs_nil)))))) muts_nil Try.func19 (by kernel_rfl) 1 (by kernel_rfl) ⟨trivial, rk19_0 N⟩ fun args K r h => ?_
  unfold S19 at h
  split at h
  · exact (e19_0 N _ _ _).trans h
  · cases h
def S4 {β : Type} (N : Nat) : Rv.Spec β := fun args K => match args with
  | [.v (.agg [.int .i64 a0, .int .i64 a1])] => laws_FnExactLeastTestSet N a0 a1 (fun z20 => K (.v (.one (.bool z20))))
  | _ => none
def E4 {β : Type} (N : Nat) : Env β := ⟨[(13, S13 N), (18, S18 N), (19, S19 N), (20, S20 N), (22, S22 N)], [(21, S21 N)], []⟩
theorem e4_0 {β : Type} (N : Nat)  (a0 : Int) (a1 : Int) (K : TV → Option β) : evFn lay (E4 N) Try.f4 [.v (.agg [.int .i64 a0, .int .i64 a1])] K = laws_FnExactLeastTestSet N a0 a1 (fun z20 => K (.v (.one (.bool z20)))) := by kernel_rfl
theorem o4 {β : Type} (N : Nat) : SpecOK (β := β) Try.prog 4 (S4 N) := by
  refine spec_of lay_ok mixed (E := E4 N) (specs_loops (specs_cons (o13 N) (specs_cons (o18 N) (specs_cons (o19 N) (specs_cons (o20 N) (specs_cons (o22 N) specs_nil)))))) (muts_cons (o21 N) muts_nil) Try.func4 (by kernel_rfl) 0 (by kernel_rfl) trivial fun args K r h => ?_
  unfold S4 at h
  split at h
  · exact (e4_0 N _ _ _).trans h
  · cases h
def S56 {β : Type} (N : Nat) : Rv.Spec β := fun args K => match args with
  | [.v (.one (.sl 3 (.ints .i64 a0))), .v (.one (.int .i64 a1))] => laws_szIntS N a0 a1 (fun z2 => K (.v (.one (.int .i64 z2))))
  | _ => none
def E56 {β : Type} (N : Nat) : Env β := ⟨[], [], []⟩
theorem e56_0 {β : Type} (N : Nat)  (a0 : List Int) (a1 : Int) (K : TV → Option β) : evFn lay (E56 N) Try.f56 [.v (.one (.sl 3 (.ints .i64 a0))), .v (.one (.int .i64 a1))] K = laws_szIntS N a0 a1 (fun z2 => K (.v (.one (.int .i64 z2)))) := by kernel_rfl
theorem o56 {β : Type} (N : Nat) : SpecOK (β := β) Try.prog 56 (S56 N) := by
  refine spec_of lay_ok mixed (E := E56 N) (specs_loops specs_nil) muts_nil Try.func56 (by kernel_rfl) 0 (by kernel_rfl) trivial fun args K r h => ?_
  unfold S56 at h
  split at h
  · exact (e56_0 N _ _ _).trans h
  · cases h
def S23 {β : Type} (N : Nat) : Rv.Spec β := fun args K => match args with
  | [.v (.agg [.int .i64 a0, .int .i64 a1, .int .i64 a2, .sl 3 (.ints .i64 a3)]), .v (.one (.int .i64 a4))] => laws_szKept N a0 a1 a2 a3 a4 (fun z6 => K (.v (.one (.int .i64 z6))))
  | _ => none
def E23 {β : Type} (N : Nat) : Env β := ⟨[(56, S56 N)], [], []⟩
theorem e23_0 {β : Type} (N : Nat)  (a0 : Int) (a1 : Int) (a2 : Int) (a3 : List Int) (a4 : Int) (K : TV → Option β) : evFn lay (E23 N) Try.f23 [.v (.agg [.int .i64 a0, .int .i64 a1, .int .i64 a2, .sl 3 (.ints .i64 a3)]), .v (.one (.int .i64 a4))] K = laws_szKept N a0 a1 a2 a3 a4 (fun z6 => K (.v (.one (.int .i64 z6)))) := by kernel_rfl
theorem o23 {β : Type} (N : Nat) : SpecOK (β := β) Try.prog 23 (S23 N) := by
  refine spec_of lay_ok mixed (E := E23 N) (specs_loops (specs_cons (o56 N) specs_nil)) muts_nil Try.func23 (by kernel_rfl) 0 (by kernel_rfl) trivial fun args K r h => ?_
  unfold S23 at h
  split at h
  · exact (e23_0 N _ _ _ _ _ _).trans h
  · cases h
def S35 {β : Type} (N : Nat) : Rv.Spec β := fun args K => match args with
  | [.v (.one (.sl 3 (.ints .i64 a0)))] => laws_toIntS N a0 (fun z2 => K (.v (.one (.sl 3 (.ints .i64 z2)))))
  | _ => none
def h35_0_0  (v0 : List Int) (v1 : Int) (v2 : List Int) : St := ⟨.v (.one (.sl 3 (.ints .i64 v0))) :: .v (.one .und) :: .v (.one .und) :: .v (.one (.row 0)) :: .v (.one (.int .i64 v1)) :: .v (.one .und) :: .v (.one .und) :: .v (.one .und) :: .v (.one .und) :: .v (.one .und) :: .v (.one .und) :: .v (.one .und) :: .v (.one .und) :: .v (.one .und) :: .v (.one .und) :: .v (.one .und) :: .v (.one .und) :: .v (.one .und) :: .v (.one .und) :: .v (.one .und) :: .v (.one .und) :: .v (.one .und) :: [], [.row 3 (.ints .i64 v2)]⟩
def x35_0_0_k0  (y0 : List Int) : St := ⟨.v (.one .und) :: .v (.one .und) :: .v (.one .und) :: .v (.one (.row 0)) :: .v (.one .und) :: .v (.one .und) :: .v (.one .und) :: .v (.one .und) :: .v (.one .und) :: .v (.one .und) :: .v (.one .und) :: .v (.one .und) :: .v (.one .und) :: .v (.one .und) :: .v (.one .und) :: .v (.one .und) :: .v (.one .und) :: .v (.one .und) :: .v (.one .und) :: .v (.one .und) :: .v (.one .und) :: .v (.one .und) :: [], [.row 3 (.ints .i64 y0)]⟩
def LS35_0 {β : Type} (N : Nat) : LSpec β := fun s K => match s with
  | ⟨.v (.one (.sl 3 (.ints .i64 v0))) :: .v (.one .und) :: .v (.one .und) :: .v (.one (.row 0)) :: .v (.one (.int .i64 v1)) :: .v (.one .und) :: .v (.one .und) :: .v (.one .und) :: .v (.one .und) :: .v (.one .und) :: .v (.one .und) :: .v (.one .und) :: .v (.one .und) :: .v (.one .und) :: .v (.one .und) :: .v (.one .und) :: .v (.one .und) :: .v (.one .und) :: .v (.one .und) :: .v (.one .und) :: .v (.one .und) :: .v (.one .und) :: [], [.row 3 (.ints .i64 v2)]⟩ => laws_toIntS_l0 N  N v0 v1 v2 (fun y0 => K (.exit 0) (x35_0_0_k0  y0))
  | _ => none
def E35 {β : Type} (N : Nat) : Env β := ⟨[], [], [(0, LS35_0 N)]⟩
theorem st35_0_0 {β : Type} (N : Nat)  (v0 : List Int) (v1 : Int) (v2 : List Int) (rec_ : St → Option β) (K : Exit → St → Option β) :
    ev lay (E35 N) (retMask Try.f35) (lp Try.f35 0).body (lp Try.f35 0).ex ((lp Try.f35 0).lv (retMask Try.f35)) (h35_0_0  v0 v1 v2) (nextR (fun s' => rec_ (s'.tidy ((lp Try.f35 0).lv (retMask Try.f35)))) K) =
      laws_toIntS_l0b N  v0 v1 v2 (fun v0 v1 v2 => rec_ (h35_0_0  v0 v1 v2)) (fun y0 => K (.exit 0) (x35_0_0_k0  y0)) := by kernel_rfl
theorem ro35_0_0 {β : Type} (N : Nat)  (K : Exit → St → Option β) : ∀ (F : Nat) (v0 : List Int) (v1 : Int) (v2 : List Int), (lp Try.f35 0).rounds lay (E35 N) (retMask Try.f35) F (h35_0_0  v0 v1 v2) K = laws_toIntS_l0 N  F v0 v1 v2 (fun y0 => K (.exit 0) (x35_0_0_k0  y0)) := by
  intro F
  induction F with
  | zero => intros; rfl
  | succ F ih =>
    intros
    rw [rounds_next]
    refine (st35_0_0 N  _ _ _ (fun s => (lp Try.f35 0).rounds lay (E35 N) (retMask Try.f35) F s K) K).trans ?_
    simp only [ih]
    rfl
theorem lk35_0 {β : Type} (N : Nat) : lookL (E35 (β := β) N).loops (lp Try.f35 0).id = LS35_0 N := by kernel_rfl
theorem rk35_0 {β : Type} (N : Nat) : RoundsOK lay (E35 (β := β) N) (retMask Try.f35) (lp Try.f35 0) := by
  intro s K r h
  rw [lk35_0] at h
  unfold LS35_0 at h
  split at h
  · exact ⟨N, (ro35_0_0 N  _ N _ _ _).trans h⟩
  · cases h
theorem e35_0 {β : Type} (N : Nat)  (a0 : List Int) (K : TV → Option β) : evFn lay (E35 N) Try.f35 [.v (.one (.sl 3 (.ints .i64 a0)))] K = laws_toIntS N a0 (fun z2 => K (.v (.one (.sl 3 (.ints .i64 z2))))) := by kernel_rfl
theorem o35 {β : Type} (N : Nat) : SpecOK (β := β) Try.prog 35 (S35 N) := by
  refine spec_of lay_ok mixed (E := E35 N) (specs_loops specs_nil) muts_nil Try.func35 (by kernel_rfl) 1 (by kernel_rfl) ⟨trivial, rk35_0 N⟩ fun args K r h => ?_
  unfold S35 at h
  split at h
  · exact (e35_0 N _ _).trans h
  · cases h
def S25 {β : Type} (N : Nat) : Rv.Spec β := fun args K => match args with
  | [.v (.agg [.int .i64 a0, .int .i64 a1, .int .i64 a2, .sl 3 (.ints .i64 a3)])] => laws_toKept N a0 a1 a2 a3 (fun z7 z8 z9 z10 => K (.v (.agg [.int .i64 z7, .int .i64 z8, .int .i64 z9, .sl 3 (.ints .i64 z10)])))
  | _ => none
def E25 {β : Type} (N : Nat) : Env β := ⟨[(13, S13 N), (35, S35 N)], [], []⟩
theorem e25_0 {β : Type} (N : Nat)  (a0 : Int) (a1 : Int) (a2 : Int) (a3 : List Int) (K : TV → Option β) : evFn lay (E25 N) Try.f25 [.v (.agg [.int .i64 a0, .int .i64 a1, .int .i64 a2, .sl 3 (.ints .i64 a3)])] K = laws_toKept N a0 a1 a2 a3 (fun z7 z8 z9 z10 => K (.v (.agg [.int .i64 z7, .int .i64 z8, .int .i64 z9, .sl 3 (.ints .i64 z10)]))) := by kernel_rfl
theorem o25 {β : Type} (N : Nat) : SpecOK (β := β) Try.prog 25 (S25 N) := by
  refine spec_of lay_ok mixed (E := E25 N) (specs_loops (specs_cons (o13 N) (specs_cons (o35 N) specs_nil))) muts_nil Try.func25 (by kernel_rfl) 0 (by kernel_rfl) trivial fun args K r h => ?_
  unfold S25 at h
  split at h
  · exact (e25_0 N _ _ _ _ _).trans h
  · cases h
def S57 {β : Type} (N : Nat) : Rv.Spec β := fun args K => match args with
  | [.v (.one (.sl 3 (.ints .i64 a0))), .v (.one (.sl 3 (.ints .i64 a1)))] => spec_l30Same N a0 a1 (fun z4 => K (.v (.one (.bool z4))))
  | _ => none
def h57_0_0  (v0 : List Int) (v1 : List Int) (v2 : Int) : St := ⟨.v (.one (.sl 3 (.ints .i64 v0))) :: .v (.one (.sl 3 (.ints .i64 v1))) :: .v (.one .und) :: .v (.one .und) :: .v (.one .und) :: .v (.one (.int .i64 v2)) :: .v (.one .und) :: .v (.one .und) :: .v (.one .und) :: .v (.one .und) :: .v (.one .und) :: .v (.one .und) :: .v (.one .und) :: .v (.one .und) :: .v (.one .und) :: .v (.one .und) :: .v (.one .und) :: .v (.one .und) :: .v (.one .und) :: .v (.one .und) :: .v (.one .und) :: .v (.one .und) :: .v (.one .und) :: .v (.one .und) :: .v (.one .und) :: .v (.one .und) :: [], []⟩
def x57_0_0_k0  (y0 : Bool) : St := ⟨.v (.one .und) :: .v (.one .und) :: .v (.one .und) :: .v (.one .und) :: .v (.one (.bool y0)) :: .v (.one .und) :: .v (.one .und) :: .v (.one .und) :: .v (.one .und) :: .v (.one .und) :: .v (.one .und) :: .v (.one .und) :: .v (.one .und) :: .v (.one .und) :: .v (.one .und) :: .v (.one .und) :: .v (.one .und) :: .v (.one .und) :: .v (.one .und) :: .v (.one .und) :: .v (.one .und) :: .v (.one .und) :: .v (.one .und) :: .v (.one .und) :: .v (.one .und) :: .v (.one .und) :: [], []⟩
def x57_0_0_k1   : St := ⟨.v (.one .und) :: .v (.one .und) :: .v (.one .und) :: .v (.one .und) :: .v (.one .und) :: .v (.one .und) :: .v (.one .und) :: .v (.one .und) :: .v (.one .und) :: .v (.one .und) :: .v (.one .und) :: .v (.one .und) :: .v (.one .und) :: .v (.one .und) :: .v (.one .und) :: .v (.one .und) :: .v (.one .und) :: .v (.one .und) :: .v (.one .und) :: .v (.one .und) :: .v (.one .und) :: .v (.one .und) :: .v (.one .und) :: .v (.one .und) :: .v (.one .und) :: .v (.one .und) :: [], []⟩
def LS57_0 {β : Type} (N : Nat) : LSpec β := fun s K => match s with
  | ⟨.v (.one (.sl 3 (.ints .i64 v0))) :: .v (.one (.sl 3 (.ints .i64 v1))) :: .v (.one .und) :: .v (.one .und) :: .v (.one .und) :: .v (.one (.int .i64 v2)) :: .v (.one .und) :: .v (.one .und) :: .v (.one .und) :: .v (.one .und) :: .v (.one .und) :: .v (.one .und) :: .v (.one .und) :: .v (.one .und) :: .v (.one .und) :: .v (.one .und) :: .v (.one .und) :: .v (.one .und) :: .v (.one .und) :: .v (.one .und) :: .v (.one .und) :: .v (.one .und) :: .v (.one .und) :: .v (.one .und) :: .v (.one .und) :: .v (.one .und) :: [], []⟩ => spec_l30Same_l0 N  N v0 v1 v2 (fun y0 => K .ret (x57_0_0_k0  y0)) (K (.exit 0) (x57_0_0_k1  ))
  | _ => none
def E57 {β : Type} (N : Nat) : Env β := ⟨[], [], [(0, LS57_0 N)]⟩
theorem st57_0_0 {β : Type} (N : Nat)  (v0 : List Int) (v1 : List Int) (v2 : Int) (rec_ : St → Option β) (K : Exit → St → Option β) :
    ev lay (E57 N) (retMask Try.f57) (lp Try.f57 0).body (lp Try.f57 0).ex ((lp Try.f57 0).lv (retMask Try.f57)) (h57_0_0  v0 v1 v2) (nextR (fun s' => rec_ (s'.tidy ((lp Try.f57 0).lv (retMask Try.f57)))) K) =
      spec_l30Same_l0b N  v0 v1 v2 (fun v0 v1 v2 => rec_ (h57_0_0  v0 v1 v2)) (fun y0 => K .ret (x57_0_0_k0  y0)) (K (.exit 0) (x57_0_0_k1  )) := by kernel_rfl
theorem ro57_0_0 {β : Type} (N : Nat)  (K : Exit → St → Option β) : ∀ (F : Nat) (v0 : List Int) (v1 : List Int) (v2 : Int), (lp Try.f57 0).rounds lay (E57 N) (retMask Try.f57) F (h57_0_0  v0 v1 v2) K = spec_l30Same_l0 N  F v0 v1 v2 (fun y0 => K .ret (x57_0_0_k0  y0)) (K (.exit 0) (x57_0_0_k1  )) := by
  intro F
  induction F with
  | zero => intros; rfl
  | succ F ih =>
    intros
    rw [rounds_next]
    refine (st57_0_0 N  _ _ _ (fun s => (lp Try.f57 0).rounds lay (E57 N) (retMask Try.f57) F s K) K).trans ?_
    simp only [ih]
    rfl
theorem lk57_0 {β : Type} (N : Nat) : lookL (E57 (β := β) N).loops (lp Try.f57 0).id = LS57_0 N := by kernel_rfl
theorem rk57_0 {β : Type} (N : Nat) : RoundsOK lay (E57 (β := β) N) (retMask Try.f57) (lp Try.f57 0) := by
  intro s K r h
  rw [lk57_0] at h
  unfold LS57_0 at h
  split at h
  · exact ⟨N, (ro57_0_0 N  _ N _ _ _).trans h⟩
  · cases h
theorem e57_0 {β : Type} (N : Nat)  (a0 : List Int) (a1 : List Int) (K : TV → Option β) : evFn lay (E57 N) Try.f57 [.v (.one (.sl 3 (.ints .i64 a0))), .v (.one (.sl 3 (.ints .i64 a1)))] K = spec_l30Same N a0 a1 (fun z4 => K (.v (.one (.bool z4)))) := by kernel_rfl
theorem o57 {β : Type} (N : Nat) : SpecOK (β := β) Try.prog 57 (S57 N) := by
  refine spec_of lay_ok mixed (E := E57 N) (specs_loops specs_nil) muts_nil Try.func57 (by kernel_rfl) 1 (by kernel_rfl) ⟨trivial, rk57_0 N⟩ fun args K r h => ?_
  unfold S57 at h
  split at h
  · exact (e57_0 N _ _ _).trans h
  · cases h
def S24 {β : Type} (N : Nat) : Rv.Spec β := fun args K => match args with
  | [.v (.agg [.int .i64 a0, .int .i64 a1, .int .i64 a2, .sl 3 (.ints .i64 a3)])] => spec_IsKept N a0 a1 a2 a3 (fun z10 => K (.v (.one (.bool z10))))
  | _ => none
def E24 {β : Type} (N : Nat) : Env β := ⟨[(12, S12 N), (57, S57 N)], [], []⟩
theorem e24_0 {β : Type} (N : Nat)  (a0 : Int) (a1 : Int) (a2 : Int) (a3 : List Int) (K : TV → Option β) : evFn lay (E24 N) Try.f24 [.v (.agg [.int .i64 a0, .int .i64 a1, .int .i64 a2, .sl 3 (.ints .i64 a3)])] K = spec_IsKept N a0 a1 a2 a3 (fun z10 => K (.v (.one (.bool z10)))) := by kernel_rfl
theorem o24 {β : Type} (N : Nat) : SpecOK (β := β) Try.prog 24 (S24 N) := by
  refine spec_of lay_ok mixed (E := E24 N) (specs_loops (specs_cons (o12 N) (specs_cons (o57 N) specs_nil))) muts_nil Try.func24 (by kernel_rfl) 0 (by kernel_rfl) trivial fun args K r h => ?_
  unfold S24 at h
  split at h
  · exact (e24_0 N _ _ _ _ _).trans h
  · cases h
def S79 {β : Type} (N : Nat) : Rv.Spec β := fun args K => match args with
  | [.v (.one (.sl 3 (.ints .i64 a0))), .v (.one (.sl 3 (.ints .i64 a1)))] => slices_Equal_Sint_int N a0 a1 (fun z4 => K (.v (.one (.bool z4))))
  | _ => none
def h79_0_0  (v0 : List Int) (v1 : List Int) (v2 : Int) (v3 : Int) : St := ⟨.v (.one (.sl 3 (.ints .i64 v0))) :: .v (.one (.sl 3 (.ints .i64 v1))) :: .v (.one .und) :: .v (.one .und) :: .v (.one .und) :: .v (.one .und) :: .v (.one .und) :: .v (.one .und) :: .v (.one .und) :: .v (.one .und) :: .v (.one .und) :: .v (.one .und) :: .v (.one (.int .i64 v2)) :: .v (.one (.int .i64 v3)) :: .v (.one .und) :: .v (.one .und) :: .v (.one .und) :: .v (.one .und) :: .v (.one .und) :: .v (.one .und) :: .v (.one .und) :: .v (.one .und) :: .v (.one .und) :: .v (.one .und) :: .v (.one .und) :: .v (.one .und) :: [], []⟩
def x79_0_0_k0  (y0 : Bool) : St := ⟨.v (.one .und) :: .v (.one .und) :: .v (.one .und) :: .v (.one .und) :: .v (.one (.bool y0)) :: .v (.one .und) :: .v (.one .und) :: .v (.one .und) :: .v (.one .und) :: .v (.one .und) :: .v (.one .und) :: .v (.one .und) :: .v (.one .und) :: .v (.one .und) :: .v (.one .und) :: .v (.one .und) :: .v (.one .und) :: .v (.one .und) :: .v (.one .und) :: .v (.one .und) :: .v (.one .und) :: .v (.one .und) :: .v (.one .und) :: .v (.one .und) :: .v (.one .und) :: .v (.one .und) :: [], []⟩
def x79_0_0_k1   : St := ⟨.v (.one .und) :: .v (.one .und) :: .v (.one .und) :: .v (.one .und) :: .v (.one .und) :: .v (.one .und) :: .v (.one .und) :: .v (.one .und) :: .v (.one .und) :: .v (.one .und) :: .v (.one .und) :: .v (.one .und) :: .v (.one .und) :: .v (.one .und) :: .v (.one .und) :: .v (.one .und) :: .v (.one .und) :: .v (.one .und) :: .v (.one .und) :: .v (.one .und) :: .v (.one .und) :: .v (.one .und) :: .v (.one .und) :: .v (.one .und) :: .v (.one .und) :: .v (.one .und) :: [], []⟩
def LS79_0 {β : Type} (N : Nat) : LSpec β := fun s K => match s with
  | ⟨.v (.one (.sl 3 (.ints .i64 v0))) :: .v (.one (.sl 3 (.ints .i64 v1))) :: .v (.one .und) :: .v (.one .und) :: .v (.one .und) :: .v (.one .und) :: .v (.one .und) :: .v (.one .und) :: .v (.one .und) :: .v (.one .und) :: .v (.one .und) :: .v (.one .und) :: .v (.one (.int .i64 v2)) :: .v (.one (.int .i64 v3)) :: .v (.one .und) :: .v (.one .und) :: .v (.one .und) :: .v (.one .und) :: .v (.one .und) :: .v (.one .und) :: .v (.one .und) :: .v (.one .und) :: .v (.one .und) :: .v (.one .und) :: .v (.one .und) :: .v (.one .und) :: [], []⟩ => slices_Equal_Sint_int_l0 N  N v0 v1 v2 v3 (fun y0 => K .ret (x79_0_0_k0  y0)) (K (.exit 0) (x79_0_0_k1  ))
  | _ => none
def E79 {β : Type} (N : Nat) : Env β := ⟨[], [], [(0, LS79_0 N)]⟩
theorem st79_0_0 {β : Type} (N : Nat)  (v0 : List Int) (v1 : List Int) (v2 : Int) (v3 : Int) (rec_ : St → Option β) (K : Exit → St → Option β) :
    ev lay (E79 N) (retMask Try.f79) (lp Try.f79 0).body (lp Try.f79 0).ex ((lp Try.f79 0).lv (retMask Try.f79)) (h79_0_0  v0 v1 v2 v3) (nextR (fun s' => rec_ (s'.tidy ((lp Try.f79 0).lv (retMask Try.f79)))) K) =
      slices_Equal_Sint_int_l0b N  v0 v1 v2 v3 (fun v0 v1 v2 v3 => rec_ (h79_0_0  v0 v1 v2 v3)) (fun y0 => K .ret (x79_0_0_k0  y0)) (K (.exit 0) (x79_0_0_k1  )) := by kernel_rfl
theorem ro79_0_0 {β : Type} (N : Nat)  (K : Exit → St → Option β) : ∀ (F : Nat) (v0 : List Int) (v1 : List Int) (v2 : Int) (v3 : Int), (lp Try.f79 0).rounds lay (E79 N) (retMask Try.f79) F (h79_0_0  v0 v1 v2 v3) K = slices_Equal_Sint_int_l0 N  F v0 v1 v2 v3 (fun y0 => K .ret (x79_0_0_k0  y0)) (K (.exit 0) (x79_0_0_k1  )) := by
  intro F
  induction F with
  | zero => intros; rfl
  | succ F ih =>
    intros
    rw [rounds_next]
    refine (st79_0_0 N  _ _ _ _ (fun s => (lp Try.f79 0).rounds lay (E79 N) (retMask Try.f79) F s K) K).trans ?_
    simp only [ih]
    rfl
theorem lk79_0 {β : Type} (N : Nat) : lookL (E79 (β := β) N).loops (lp Try.f79 0).id = LS79_0 N := by kernel_rfl
theorem rk79_0 {β : Type} (N : Nat) : RoundsOK lay (E79 (β := β) N) (retMask Try.f79) (lp Try.f79 0) := by
  intro s K r h
  rw [lk79_0] at h
  unfold LS79_0 at h
  split at h
  · exact ⟨N, (ro79_0_0 N  _ N _ _ _ _).trans h⟩
  · cases h
theorem e79_0 {β : Type} (N : Nat)  (a0 : List Int) (a1 : List Int) (K : TV → Option β) : evFn lay (E79 N) Try.f79 [.v (.one (.sl 3 (.ints .i64 a0))), .v (.one (.sl 3 (.ints .i64 a1)))] K = slices_Equal_Sint_int N a0 a1 (fun z4 => K (.v (.one (.bool z4)))) := by kernel_rfl
theorem o79 {β : Type} (N : Nat) : SpecOK (β := β) Try.prog 79 (S79 N) := by
  refine spec_of lay_ok mixed (E := E79 N) (specs_loops specs_nil) muts_nil Try.func79 (by kernel_rfl) 1 (by kernel_rfl) ⟨trivial, rk79_0 N⟩ fun args K r h => ?_
  unfold S79 at h
  split at h
  · exact (e79_0 N _ _ _).trans h
  · cases h
def S58 {β : Type} (N : Nat) : Rv.Spec β := fun args K => match args with
  | [.v (.agg [.int .i64 a0, .int .i64 a1, .int .i64 a2, .sl 3 (.ints .i64 a3)]), .v (.agg [.int .i64 a4, .int .i64 a5, .int .i64 a6, .sl 3 (.ints .i64 a7)])] => impl_EqualKept N a0 a1 a2 a3 a4 a5 a6 a7 (fun z9 => K (.v (.one (.bool z9))))
  | _ => none
def E58 {β : Type} (N : Nat) : Env β := ⟨[(79, S79 N)], [], []⟩
theorem e58_0 {β : Type} (N : Nat)  (a0 : Int) (a1 : Int) (a2 : Int) (a3 : List Int) (a4 : Int) (a5 : Int) (a6 : Int) (a7 : List Int) (K : TV → Option β) : evFn lay (E58 N) Try.f58 [.v (.agg [.int .i64 a0, .int .i64 a1, .int .i64 a2, .sl 3 (.ints .i64 a3)]), .v (.agg [.int .i64 a4, .int .i64 a5, .int .i64 a6, .sl 3 (.ints .i64 a7)])] K = impl_EqualKept N a0 a1 a2 a3 a4 a5 a6 a7 (fun z9 => K (.v (.one (.bool z9)))) := by kernel_rfl
theorem o58 {β : Type} (N : Nat) : SpecOK (β := β) Try.prog 58 (S58 N) := by
  refine spec_of lay_ok mixed (E := E58 N) (specs_loops (specs_cons (o79 N) specs_nil)) muts_nil Try.func58 (by kernel_rfl) 0 (by kernel_rfl) trivial fun args K r h => ?_
  unfold S58 at h
  split at h
  · exact (e58_0 N _ _ _ _ _ _ _ _ _).trans h
  · cases h
def S26 {β : Type} (N : Nat) : Rv.Spec β := fun args K => match args with
  | [.v (.agg [.int .i64 a0, .int .i64 a1, .int .i64 a2, .sl 3 (.ints .i64 a3)])] => impl_IsKept N a0 a1 a2 a3 (fun z10 => K (.v (.one (.bool z10))))
  | _ => none
def E26 {β : Type} (N : Nat) : Env β := ⟨[(46, S46 N), (47, S47 N), (58, S58 N)], [], []⟩
theorem e26_0 {β : Type} (N : Nat)  (a0 : Int) (a1 : Int) (a2 : Int) (a3 : List Int) (K : TV → Option β) : evFn lay (E26 N) Try.f26 [.v (.agg [.int .i64 a0, .int .i64 a1, .int .i64 a2, .sl 3 (.ints .i64 a3)])] K = impl_IsKept N a0 a1 a2 a3 (fun z10 => K (.v (.one (.bool z10)))) := by kernel_rfl
theorem o26 {β : Type} (N : Nat) : SpecOK (β := β) Try.prog 26 (S26 N) := by
  refine spec_of lay_ok mixed (E := E26 N) (specs_loops (specs_cons (o46 N) (specs_cons (o47 N) (specs_cons (o58 N) specs_nil)))) muts_nil Try.func26 (by kernel_rfl) 0 (by kernel_rfl) trivial fun args K r h => ?_
  unfold S26 at h
  split at h
  · exact (e26_0 N _ _ _ _ _).trans h
  · cases h
def S5 {β : Type} (N : Nat) : Rv.Spec β := fun args K => match args with
  | [.v (.agg [.int .i64 a0, .int .i64 a1, .int .i64 a2, .sl 3 (.ints .i64 a3)])] => laws_FnExactIsKept N a0 a1 a2 a3 (fun z20 => K (.v (.one (.bool z20))))
  | _ => none
def E5 {β : Type} (N : Nat) : Env β := ⟨[(23, S23 N), (25, S25 N), (24, S24 N), (26, S26 N), (15, S15 N)], [], []⟩
theorem e5_0 {β : Type} (N : Nat)  (a0 : Int) (a1 : Int) (a2 : Int) (a3 : List Int) (K : TV → Option β) : evFn lay (E5 N) Try.f5 [.v (.agg [.int .i64 a0, .int .i64 a1, .int .i64 a2, .sl 3 (.ints .i64 a3)])] K = laws_FnExactIsKept N a0 a1 a2 a3 (fun z20 => K (.v (.one (.bool z20)))) := by kernel_rfl
theorem o5 {β : Type} (N : Nat) : SpecOK (β := β) Try.prog 5 (S5 N) := by
  refine spec_of lay_ok mixed (E := E5 N) (specs_loops (specs_cons (o23 N) (specs_cons (o25 N) (specs_cons (o24 N) (specs_cons (o26 N) (specs_cons (o15 N) specs_nil)))))) muts_nil Try.func5 (by kernel_rfl) 0 (by kernel_rfl) trivial fun args K r h => ?_
  unfold S5 at h
  split at h
  · exact (e5_0 N _ _ _ _ _).trans h
  · cases h
def S27 {β : Type} (N : Nat) : Rv.Spec β := fun args K => match args with
  | [.v (.agg [.int .i64 a0, .int .i64 a1])] => spec_ClaimOfTests N a0 a1 (fun z4 z5 z6 z7 z8 z9 z10 z11 => K (.tup [.agg [.int .i64 z4, .int .i64 z5, .int .i64 z6, .int .i64 z7, .int .i64 z8, .str z9, .sl 3 (.ints .i64 z10)], .one (.bool z11)]))
  | _ => none
def E27 {β : Type} (N : Nat) : Env β := ⟨[(18, S18 N)], [], []⟩
theorem e27_0 {β : Type} (N : Nat)  (a0 : Int) (a1 : Int) (K : TV → Option β) : evFn lay (E27 N) Try.f27 [.v (.agg [.int .i64 a0, .int .i64 a1])] K = spec_ClaimOfTests N a0 a1 (fun z4 z5 z6 z7 z8 z9 z10 z11 => K (.tup [.agg [.int .i64 z4, .int .i64 z5, .int .i64 z6, .int .i64 z7, .int .i64 z8, .str z9, .sl 3 (.ints .i64 z10)], .one (.bool z11)])) := by kernel_rfl
theorem o27 {β : Type} (N : Nat) : SpecOK (β := β) Try.prog 27 (S27 N) := by
  refine spec_of lay_ok mixed (E := E27 N) (specs_loops (specs_cons (o18 N) specs_nil)) muts_nil Try.func27 (by kernel_rfl) 0 (by kernel_rfl) trivial fun args K r h => ?_
  unfold S27 at h
  split at h
  · exact (e27_0 N _ _ _).trans h
  · cases h
def S28 {β : Type} (N : Nat) : Rv.Spec β := fun args K => match args with
  | [.v (.agg [.int .i64 a0, .int .i64 a1])] => impl_ClaimOfTests N a0 a1 (fun z4 z5 z6 z7 z8 z9 z10 z11 => K (.tup [.agg [.int .i64 z4, .int .i64 z5, .int .i64 z6, .int .i64 z7, .int .i64 z8, .str z9, .sl 3 (.ints .i64 z10)], .one (.bool z11)]))
  | _ => none
def E28 {β : Type} (N : Nat) : Env β := ⟨[(19, S19 N)], [], []⟩
theorem e28_0 {β : Type} (N : Nat)  (a0 : Int) (a1 : Int) (K : TV → Option β) : evFn lay (E28 N) Try.f28 [.v (.agg [.int .i64 a0, .int .i64 a1])] K = impl_ClaimOfTests N a0 a1 (fun z4 z5 z6 z7 z8 z9 z10 z11 => K (.tup [.agg [.int .i64 z4, .int .i64 z5, .int .i64 z6, .int .i64 z7, .int .i64 z8, .str z9, .sl 3 (.ints .i64 z10)], .one (.bool z11)])) := by kernel_rfl
theorem o28 {β : Type} (N : Nat) : SpecOK (β := β) Try.prog 28 (S28 N) := by
  refine spec_of lay_ok mixed (E := E28 N) (specs_loops (specs_cons (o19 N) specs_nil)) muts_nil Try.func28 (by kernel_rfl) 0 (by kernel_rfl) trivial fun args K r h => ?_
  unfold S28 at h
  split at h
  · exact (e28_0 N _ _ _).trans h
  · cases h
def S29 {β : Type} (N : Nat) : Rv.Spec β := fun args K => match args with
  | [.v (.agg [.int .i64 a0, .int .i64 a1, .int .i64 a2, .int .i64 a3, .int .i64 a4, .str a5, .sl 3 (.ints .i64 a6)]), .v (.agg [.int .i64 a7, .int .i64 a8, .int .i64 a9, .int .i64 a10, .int .i64 a11, .str a12, .sl 3 (.ints .i64 a13)])] => laws_eqClaim N a0 a1 a2 a3 a4 a5 a6 a7 a8 a9 a10 a11 a12 a13 (fun z16 => K (.v (.one (.bool z16))))
  | _ => none
def E29 {β : Type} (N : Nat) : Env β := ⟨[(48, S48 N), (20, S20 N)], [], []⟩
theorem e29_0 {β : Type} (N : Nat)  (a0 : Int) (a1 : Int) (a2 : Int) (a3 : Int) (a4 : Int) (a5 : ByteArray) (a6 : List Int) (a7 : Int) (a8 : Int) (a9 : Int) (a10 : Int) (a11 : Int) (a12 : ByteArray) (a13 : List Int) (K : TV → Option β) : evFn lay (E29 N) Try.f29 [.v (.agg [.int .i64 a0, .int .i64 a1, .int .i64 a2, .int .i64 a3, .int .i64 a4, .str a5, .sl 3 (.ints .i64 a6)]), .v (.agg [.int .i64 a7, .int .i64 a8, .int .i64 a9, .int .i64 a10, .int .i64 a11, .str a12, .sl 3 (.ints .i64 a13)])] K = laws_eqClaim N a0 a1 a2 a3 a4 a5 a6 a7 a8 a9 a10 a11 a12 a13 (fun z16 => K (.v (.one (.bool z16)))) := by kernel_rfl
theorem o29 {β : Type} (N : Nat) : SpecOK (β := β) Try.prog 29 (S29 N) := by
  refine spec_of lay_ok mixed (E := E29 N) (specs_loops (specs_cons (o48 N) (specs_cons (o20 N) specs_nil))) muts_nil Try.func29 (by kernel_rfl) 0 (by kernel_rfl) trivial fun args K r h => ?_
  unfold S29 at h
  split at h
  · exact (e29_0 N _ _ _ _ _ _ _ _ _ _ _ _ _ _ _).trans h
  · cases h
def S31 {β : Type} (N : Nat) : Rv.Spec β := fun args K => match args with
  | [.v (.agg [.int .i64 a0, .int .i64 a1, .int .i64 a2, .int .i64 a3, .int .i64 a4, .str a5, .sl 3 (.ints .i64 a6)]), .v (.one (.int .i64 a7))] => laws_heldClaim N a0 a1 a2 a3 a4 a5 a6 a7 (fun z9 => K (.v (.one (.int .i64 z9))))
  | _ => none
def E31 {β : Type} (N : Nat) : Env β := ⟨[(22, S22 N)], [], []⟩
theorem e31_0 {β : Type} (N : Nat)  (a0 : Int) (a1 : Int) (a2 : Int) (a3 : Int) (a4 : Int) (a5 : ByteArray) (a6 : List Int) (a7 : Int) (K : TV → Option β) : evFn lay (E31 N) Try.f31 [.v (.agg [.int .i64 a0, .int .i64 a1, .int .i64 a2, .int .i64 a3, .int .i64 a4, .str a5, .sl 3 (.ints .i64 a6)]), .v (.one (.int .i64 a7))] K = laws_heldClaim N a0 a1 a2 a3 a4 a5 a6 a7 (fun z9 => K (.v (.one (.int .i64 z9)))) := by kernel_rfl
theorem o31 {β : Type} (N : Nat) : SpecOK (β := β) Try.prog 31 (S31 N) := by
  refine spec_of lay_ok mixed (E := E31 N) (specs_loops (specs_cons (o22 N) specs_nil)) muts_nil Try.func31 (by kernel_rfl) 0 (by kernel_rfl) trivial fun args K r h => ?_
  unfold S31 at h
  split at h
  · exact (e31_0 N _ _ _ _ _ _ _ _ _).trans h
  · cases h
end Go.Proofs.Ytdjmbggefcfacaa
