/- The functions that the claims reach answer as their texts do. -/
import Derived.Test.YtpiipfkopncbeaaT0
import Derived.Test.YtpiipfkopncbeaaProg
import Derived.KernelRfl
namespace Go.Proofs.Ytpiipfkopncbeaa
open Go.Rv
set_option maxRecDepth 100000
set_option linter.unusedVariables false
def lay : Lay := [(2, .int .i64),
  (3, .int .i64),
  (4, .bool),
  (5, .int .u8),
  (9, .string),
  (12, .int .u64),
  (21, .int .i32),
  (24, .slice 9),
  (29, .struct [⟨0, 1, false⟩, ⟨1, 1, false⟩] [3, 3] 16 true),
  (30, .struct [⟨0, 1, false⟩, ⟨1, 1, false⟩] [3, 3] 16 true),
  (31, .struct [⟨0, 1, false⟩, ⟨1, 1, false⟩] [3, 3] 16 true),
  (39, .slice 3),
  (44, .struct [⟨0, 2, true⟩, ⟨2, 1, false⟩, ⟨3, 1, false⟩] [3, 3, 3, 39] 48 false),
  (45, .struct [⟨0, 2, true⟩, ⟨2, 1, false⟩, ⟨3, 1, false⟩] [3, 3, 3, 39] 48 false),
  (48, .struct [⟨0, 2, true⟩, ⟨2, 1, false⟩, ⟨3, 1, false⟩] [3, 3, 3, 39] 48 false),
  (49, .struct [⟨0, 2, true⟩, ⟨2, 1, false⟩, ⟨3, 1, false⟩] [3, 3, 3, 39] 48 false),
  (57, .struct [⟨0, 1, false⟩, ⟨1, 2, true⟩, ⟨3, 1, false⟩, ⟨4, 1, false⟩, ⟨5, 1, false⟩, ⟨6, 1, false⟩] [3, 3, 3, 3, 3, 9, 39] 80 false),
  (58, .struct [⟨0, 1, false⟩, ⟨1, 2, true⟩, ⟨3, 1, false⟩, ⟨4, 1, false⟩, ⟨5, 1, false⟩, ⟨6, 1, false⟩] [3, 3, 3, 3, 3, 9, 39] 80 false),
  (61, .struct [⟨0, 1, false⟩, ⟨1, 2, true⟩, ⟨3, 1, false⟩, ⟨4, 1, false⟩, ⟨5, 1, false⟩, ⟨6, 1, false⟩] [3, 3, 3, 3, 3, 9, 39] 80 false),
  (62, .struct [⟨0, 1, false⟩, ⟨1, 2, true⟩, ⟨3, 1, false⟩, ⟨4, 1, false⟩, ⟨5, 1, false⟩, ⟨6, 1, false⟩] [3, 3, 3, 3, 3, 9, 39] 80 false),
  (81, .slice 5),
  (82, .int .u64),
  (88, .int .u64),
  (96, .int .u32),
  (100, .pointer 5)]

theorem lay_ok : LayOK Try.prog lay := layOK_of (by decide +kernel)
theorem mixed : Try.prog.follows .mixedOrders = true := by kernel_rfl
def S27 {β : Type} (N : Nat) : Rv.Spec β := fun args K => match args with
  | [.v (.agg [.int .i64 a0, .int .i64 a1])] => laws_toTable N a0 a1 (fun z2 z3 => K (.v (.agg [.int .i64 z2, .int .i64 z3])))
  | _ => none
def E27 {β : Type} (N : Nat) : Env β := ⟨[], [], []⟩
theorem e27_0 {β : Type} (N : Nat)  (a0 : Int) (a1 : Int) (K : TV → Option β) : evFn lay (E27 N) Try.f27 [.v (.agg [.int .i64 a0, .int .i64 a1])] K = laws_toTable N a0 a1 (fun z2 z3 => K (.v (.agg [.int .i64 z2, .int .i64 z3]))) := by kernel_rfl
theorem o27 {β : Type} (N : Nat) : SpecOK (β := β) Try.prog 27 (S27 N) := by
  refine spec_of lay_ok mixed (E := E27 N) (specs_loops specs_nil) muts_nil Try.func27 (by kernel_rfl) 0 (by kernel_rfl) trivial fun args K r h => ?_
  unfold S27 at h
  split at h
  · exact (e27_0 N _ _ _).trans h
  · cases h
def S56 {β : Type} (N : Nat) : Rv.Spec β := fun args K => match args with
  | [.v (.one (.int .i64 a0)), .v (.one (.int .i64 a1)), .v (.one (.int .i64 a2))] => spec_l1In N a0 a1 a2 (fun z3 => K (.v (.one (.bool z3))))
  | _ => none
def E56 {β : Type} (N : Nat) : Env β := ⟨[], [], []⟩
theorem e56_0 {β : Type} (N : Nat)  (a0 : Int) (a1 : Int) (a2 : Int) (K : TV → Option β) : evFn lay (E56 N) Try.f56 [.v (.one (.int .i64 a0)), .v (.one (.int .i64 a1)), .v (.one (.int .i64 a2))] K = spec_l1In N a0 a1 a2 (fun z3 => K (.v (.one (.bool z3)))) := by kernel_rfl
theorem o56 {β : Type} (N : Nat) : SpecOK (β := β) Try.prog 56 (S56 N) := by
  refine spec_of lay_ok mixed (E := E56 N) (specs_loops specs_nil) muts_nil Try.func56 (by kernel_rfl) 0 (by kernel_rfl) trivial fun args K r h => ?_
  unfold S56 at h
  split at h
  · exact (e56_0 N _ _ _ _).trans h
  · cases h
def S58 {β : Type} (N : Nat) : Rv.Spec β := fun args K => match args with
  | [.v (.agg [.int .i64 a0, .int .i64 a1])] => spec_IsTable N a0 a1 (fun z4 => K (.v (.one (.bool z4))))
  | _ => none
def E58 {β : Type} (N : Nat) : Env β := ⟨[(56, S56 N)], [], []⟩
theorem e58_0 {β : Type} (N : Nat)  (a0 : Int) (a1 : Int) (K : TV → Option β) : evFn lay (E58 N) Try.f58 [.v (.agg [.int .i64 a0, .int .i64 a1])] K = spec_IsTable N a0 a1 (fun z4 => K (.v (.one (.bool z4)))) := by kernel_rfl
theorem o58 {β : Type} (N : Nat) : SpecOK (β := β) Try.prog 58 (S58 N) := by
  refine spec_of lay_ok mixed (E := E58 N) (specs_loops (specs_cons (o56 N) specs_nil)) muts_nil Try.func58 (by kernel_rfl) 0 (by kernel_rfl) trivial fun args K r h => ?_
  unfold S58 at h
  split at h
  · exact (e58_0 N _ _ _).trans h
  · cases h
def S59 {β : Type} (N : Nat) : Rv.Spec β := fun args K => match args with
  | [.v (.agg [.int .i64 a0, .int .i64 a1]), .v (.one (.int .i64 a2)), .v (.one (.int .i64 a3))] => spec_l29Stuck N a0 a1 a2 a3 (fun z5 z6 => K (.v (.agg [.int .i64 z5, .int .i64 z6])))
  | _ => none
def h59_0_0  (v0 : Int) (v1 : Int) (v2 : Int) (v3 : Int) (v4 : Int) (v5 : Int) (v6 : Int) (v7 : Int) : St := ⟨.v (.one .und) :: .v (.one (.int .i64 v0)) :: .v (.one (.int .i64 v1)) :: .v (.one (.ptr 0 0)) :: .v (.one .und) :: .v (.one .und) :: .v (.one (.ptr 1 0)) :: .v (.one (.int .i64 v2)) :: .v (.one (.int .i64 v3)) :: .v (.one .und) :: .v (.one .und) :: .v (.one .und) :: .v (.one .und) :: .v (.one .und) :: .v (.one .und) :: .v (.one .und) :: .v (.one .und) :: .v (.one .und) :: .v (.one .und) :: .v (.one .und) :: .v (.one .und) :: .v (.one .und) :: .v (.one .und) :: .v (.one .und) :: .v (.one .und) :: .v (.one .und) :: .v (.one .und) :: .v (.one .und) :: .v (.one .und) :: .v (.one .und) :: .v (.one .und) :: .v (.one .und) :: .v (.one .und) :: .v (.one .und) :: .v (.one .und) :: .v (.one .und) :: .v (.one .und) :: .v (.one .und) :: .v (.one .und) :: .v (.one .und) :: [], [.cells 31 [.int .i64 v4, .int .i64 v5], .cells 31 [.int .i64 v6, .int .i64 v7]]⟩
def x59_0_0_k0  (y0 : Int) (y1 : Int) (y2 : Int) (y3 : Int) (y4 : Int) : St := ⟨.v (.one .und) :: .v (.one .und) :: .v (.one .und) :: .v (.one (.ptr 0 0)) :: .v (.one .und) :: .v (.one .und) :: .v (.one (.ptr 1 0)) :: .v (.one (.int .i64 y0)) :: .v (.one .und) :: .v (.one .und) :: .v (.one .und) :: .v (.one .und) :: .v (.one .und) :: .v (.one .und) :: .v (.one .und) :: .v (.one .und) :: .v (.one .und) :: .v (.one .und) :: .v (.one .und) :: .v (.one .und) :: .v (.one .und) :: .v (.one .und) :: .v (.one .und) :: .v (.one .und) :: .v (.one .und) :: .v (.one .und) :: .v (.one .und) :: .v (.one .und) :: .v (.one .und) :: .v (.one .und) :: .v (.one .und) :: .v (.one .und) :: .v (.one .und) :: .v (.one .und) :: .v (.one .und) :: .v (.one .und) :: .v (.one .und) :: .v (.one .und) :: .v (.one .und) :: .v (.one .und) :: [], [.cells 31 [.int .i64 y1, .int .i64 y2], .cells 31 [.int .i64 y3, .int .i64 y4]]⟩
def LS59_0 {β : Type} (N : Nat) : LSpec β := fun s K => match s with
  | ⟨.v (.one .und) :: .v (.one (.int .i64 v0)) :: .v (.one (.int .i64 v1)) :: .v (.one (.ptr 0 0)) :: .v (.one .und) :: .v (.one .und) :: .v (.one (.ptr 1 0)) :: .v (.one (.int .i64 v2)) :: .v (.one (.int .i64 v3)) :: .v (.one .und) :: .v (.one .und) :: .v (.one .und) :: .v (.one .und) :: .v (.one .und) :: .v (.one .und) :: .v (.one .und) :: .v (.one .und) :: .v (.one .und) :: .v (.one .und) :: .v (.one .und) :: .v (.one .und) :: .v (.one .und) :: .v (.one .und) :: .v (.one .und) :: .v (.one .und) :: .v (.one .und) :: .v (.one .und) :: .v (.one .und) :: .v (.one .und) :: .v (.one .und) :: .v (.one .und) :: .v (.one .und) :: .v (.one .und) :: .v (.one .und) :: .v (.one .und) :: .v (.one .und) :: .v (.one .und) :: .v (.one .und) :: .v (.one .und) :: .v (.one .und) :: [], [.cells 31 [.int .i64 v4, .int .i64 v5], .cells 31 [.int .i64 v6, .int .i64 v7]]⟩ => spec_l29Stuck_l0 N  N v0 v1 v2 v3 v4 v5 v6 v7 (fun y0 y1 y2 y3 y4 => K (.exit 0) (x59_0_0_k0  y0 y1 y2 y3 y4))
  | _ => none
def E59 {β : Type} (N : Nat) : Env β := ⟨[], [], [(0, LS59_0 N)]⟩
theorem st59_0_0 {β : Type} (N : Nat)  (v0 : Int) (v1 : Int) (v2 : Int) (v3 : Int) (v4 : Int) (v5 : Int) (v6 : Int) (v7 : Int) (rec_ : St → Option β) (K : Exit → St → Option β) :
    ev lay (E59 N) (retMask Try.f59) (lp Try.f59 0).body (lp Try.f59 0).ex ((lp Try.f59 0).lv (retMask Try.f59)) (h59_0_0  v0 v1 v2 v3 v4 v5 v6 v7) (nextR (fun s' => rec_ (s'.tidy ((lp Try.f59 0).lv (retMask Try.f59)))) K) =
      spec_l29Stuck_l0b N  v0 v1 v2 v3 v4 v5 v6 v7 (fun v0 v1 v2 v3 v4 v5 v6 v7 => rec_ (h59_0_0  v0 v1 v2 v3 v4 v5 v6 v7)) (fun y0 y1 y2 y3 y4 => K (.exit 0) (x59_0_0_k0  y0 y1 y2 y3 y4)) := by kernel_rfl
theorem ro59_0_0 {β : Type} (N : Nat)  (K : Exit → St → Option β) : ∀ (F : Nat) (v0 : Int) (v1 : Int) (v2 : Int) (v3 : Int) (v4 : Int) (v5 : Int) (v6 : Int) (v7 : Int), (lp Try.f59 0).rounds lay (E59 N) (retMask Try.f59) F (h59_0_0  v0 v1 v2 v3 v4 v5 v6 v7) K = spec_l29Stuck_l0 N  F v0 v1 v2 v3 v4 v5 v6 v7 (fun y0 y1 y2 y3 y4 => K (.exit 0) (x59_0_0_k0  y0 y1 y2 y3 y4)) := by
  intro F
  induction F with
  | zero => intros; rfl
  | succ F ih =>
    intros
    rw [rounds_next]
    refine (st59_0_0 N  _ _ _ _ _ _ _ _ (fun s => (lp Try.f59 0).rounds lay (E59 N) (retMask Try.f59) F s K) K).trans ?_
    simp only [ih]
    rfl
theorem lk59_0 {β : Type} (N : Nat) : lookL (E59 (β := β) N).loops (lp Try.f59 0).id = LS59_0 N := by kernel_rfl
theorem rk59_0 {β : Type} (N : Nat) : RoundsOK lay (E59 (β := β) N) (retMask Try.f59) (lp Try.f59 0) := by
  intro s K r h
  rw [lk59_0] at h
  unfold LS59_0 at h
  split at h
  · exact ⟨N, (ro59_0_0 N  _ N _ _ _ _ _ _ _ _).trans h⟩
  · cases h
theorem e59_0 {β : Type} (N : Nat)  (a0 : Int) (a1 : Int) (a2 : Int) (a3 : Int) (K : TV → Option β) : evFn lay (E59 N) Try.f59 [.v (.agg [.int .i64 a0, .int .i64 a1]), .v (.one (.int .i64 a2)), .v (.one (.int .i64 a3))] K = spec_l29Stuck N a0 a1 a2 a3 (fun z5 z6 => K (.v (.agg [.int .i64 z5, .int .i64 z6]))) := by kernel_rfl
theorem o59 {β : Type} (N : Nat) : SpecOK (β := β) Try.prog 59 (S59 N) := by
  refine spec_of lay_ok mixed (E := E59 N) (specs_loops specs_nil) muts_nil Try.func59 (by kernel_rfl) 1 (by kernel_rfl) ⟨trivial, rk59_0 N⟩ fun args K r h => ?_
  unfold S59 at h
  split at h
  · exact (e59_0 N _ _ _ _ _).trans h
  · cases h
def S26 {β : Type} (N : Nat) : Rv.Spec β := fun args K => match args with
  | [.v (.agg [.int .i64 a0, .int .i64 a1]), .v (.one (.int .i64 a2)), .v (.one (.int .i64 a3))] => spec_StuckTable N a0 a1 a2 a3 (fun z9 z10 z11 => K (.tup [.agg [.int .i64 z9, .int .i64 z10], .one (.bool z11)]))
  | _ => none
def E26 {β : Type} (N : Nat) : Env β := ⟨[(58, S58 N), (56, S56 N), (59, S59 N)], [], []⟩
theorem e26_0 {β : Type} (N : Nat)  (a0 : Int) (a1 : Int) (a2 : Int) (a3 : Int) (K : TV → Option β) : evFn lay (E26 N) Try.f26 [.v (.agg [.int .i64 a0, .int .i64 a1]), .v (.one (.int .i64 a2)), .v (.one (.int .i64 a3))] K = spec_StuckTable N a0 a1 a2 a3 (fun z9 z10 z11 => K (.tup [.agg [.int .i64 z9, .int .i64 z10], .one (.bool z11)])) := by kernel_rfl
theorem o26 {β : Type} (N : Nat) : SpecOK (β := β) Try.prog 26 (S26 N) := by
  refine spec_of lay_ok mixed (E := E26 N) (specs_loops (specs_cons (o58 N) (specs_cons (o56 N) (specs_cons (o59 N) specs_nil)))) muts_nil Try.func26 (by kernel_rfl) 0 (by kernel_rfl) trivial fun args K r h => ?_
  unfold S26 at h
  split at h
  · exact (e26_0 N _ _ _ _ _).trans h
  · cases h
def S84 {β : Type} (N : Nat) : Rv.Spec β := fun args K => match args with
  | [.v (.one (.int .i64 a0))] => impl_isBits N a0 (fun z1 => K (.v (.one (.bool z1))))
  | _ => none
def E84 {β : Type} (N : Nat) : Env β := ⟨[], [], []⟩
theorem e84_0 {β : Type} (N : Nat)  (a0 : Int) (K : TV → Option β) : evFn lay (E84 N) Try.f84 [.v (.one (.int .i64 a0))] K = impl_isBits N a0 (fun z1 => K (.v (.one (.bool z1)))) := by kernel_rfl
theorem o84 {β : Type} (N : Nat) : SpecOK (β := β) Try.prog 84 (S84 N) := by
  refine spec_of lay_ok mixed (E := E84 N) (specs_loops specs_nil) muts_nil Try.func84 (by kernel_rfl) 0 (by kernel_rfl) trivial fun args K r h => ?_
  unfold S84 at h
  split at h
  · exact (e84_0 N _ _).trans h
  · cases h
def S85 {β : Type} (N : Nat) : Rv.Spec β := fun args K => match args with
  | [.v (.agg [.int .i64 a0, .int .i64 a1])] => impl_Table_size N a0 a1 (fun z2 => K (.v (.one (.int .i64 z2))))
  | _ => none
def E85 {β : Type} (N : Nat) : Env β := ⟨[], [], []⟩
theorem e85_0 {β : Type} (N : Nat)  (a0 : Int) (a1 : Int) (K : TV → Option β) : evFn lay (E85 N) Try.f85 [.v (.agg [.int .i64 a0, .int .i64 a1])] K = impl_Table_size N a0 a1 (fun z2 => K (.v (.one (.int .i64 z2)))) := by kernel_rfl
theorem o85 {β : Type} (N : Nat) : SpecOK (β := β) Try.prog 85 (S85 N) := by
  refine spec_of lay_ok mixed (E := E85 N) (specs_loops specs_nil) muts_nil Try.func85 (by kernel_rfl) 0 (by kernel_rfl) trivial fun args K r h => ?_
  unfold S85 at h
  split at h
  · exact (e85_0 N _ _ _).trans h
  · cases h
def S64 {β : Type} (N : Nat) : Rv.Spec β := fun args K => match args with
  | [.v (.agg [.int .i64 a0, .int .i64 a1])] => impl_IsTable N a0 a1 (fun z4 => K (.v (.one (.bool z4))))
  | _ => none
def E64 {β : Type} (N : Nat) : Env β := ⟨[(84, S84 N), (85, S85 N)], [], []⟩
theorem e64_0 {β : Type} (N : Nat)  (a0 : Int) (a1 : Int) (K : TV → Option β) : evFn lay (E64 N) Try.f64 [.v (.agg [.int .i64 a0, .int .i64 a1])] K = impl_IsTable N a0 a1 (fun z4 => K (.v (.one (.bool z4)))) := by kernel_rfl
theorem o64 {β : Type} (N : Nat) : SpecOK (β := β) Try.prog 64 (S64 N) := by
  refine spec_of lay_ok mixed (E := E64 N) (specs_loops (specs_cons (o84 N) (specs_cons (o85 N) specs_nil))) muts_nil Try.func64 (by kernel_rfl) 0 (by kernel_rfl) trivial fun args K r h => ?_
  unfold S64 at h
  split at h
  · exact (e64_0 N _ _ _).trans h
  · cases h
def S60 {β : Type} (N : Nat) : Rv.Spec β := fun args K => match args with
  | [.v (.agg [.int .i64 a0, .int .i64 a1]), .v (.one (.int .i64 a2))] => impl_hasVariable N a0 a1 a2 (fun z4 => K (.v (.one (.bool z4))))
  | _ => none
def E60 {β : Type} (N : Nat) : Env β := ⟨[(64, S64 N)], [], []⟩
theorem e60_0 {β : Type} (N : Nat)  (a0 : Int) (a1 : Int) (a2 : Int) (K : TV → Option β) : evFn lay (E60 N) Try.f60 [.v (.agg [.int .i64 a0, .int .i64 a1]), .v (.one (.int .i64 a2))] K = impl_hasVariable N a0 a1 a2 (fun z4 => K (.v (.one (.bool z4)))) := by kernel_rfl
theorem o60 {β : Type} (N : Nat) : SpecOK (β := β) Try.prog 60 (S60 N) := by
  refine spec_of lay_ok mixed (E := E60 N) (specs_loops (specs_cons (o64 N) specs_nil)) muts_nil Try.func60 (by kernel_rfl) 0 (by kernel_rfl) trivial fun args K r h => ?_
  unfold S60 at h
  split at h
  · exact (e60_0 N _ _ _ _).trans h
  · cases h
def S61 {β : Type} (N : Nat) : Rv.Spec β := fun args K => match args with
  | [.v (.one (.int .i64 a0))] => impl_isBit N a0 (fun z1 => K (.v (.one (.bool z1))))
  | _ => none
def E61 {β : Type} (N : Nat) : Env β := ⟨[], [], []⟩
theorem e61_0 {β : Type} (N : Nat)  (a0 : Int) (K : TV → Option β) : evFn lay (E61 N) Try.f61 [.v (.one (.int .i64 a0))] K = impl_isBit N a0 (fun z1 => K (.v (.one (.bool z1)))) := by kernel_rfl
theorem o61 {β : Type} (N : Nat) : SpecOK (β := β) Try.prog 61 (S61 N) := by
  refine spec_of lay_ok mixed (E := E61 N) (specs_loops specs_nil) muts_nil Try.func61 (by kernel_rfl) 0 (by kernel_rfl) trivial fun args K r h => ?_
  unfold S61 at h
  split at h
  · exact (e61_0 N _ _).trans h
  · cases h
def S82 {β : Type} (N : Nat) : Rv.Spec β := fun args K => match args with
  | [.v (.agg [.int .i64 a0, .int .i64 a1]), .v (.one (.int .i64 a2))] => impl_Table_at N a0 a1 a2 (fun z3 => K (.v (.one (.int .i64 z3))))
  | _ => none
def E82 {β : Type} (N : Nat) : Env β := ⟨[], [], []⟩
theorem e82_0 {β : Type} (N : Nat)  (a0 : Int) (a1 : Int) (a2 : Int) (K : TV → Option β) : evFn lay (E82 N) Try.f82 [.v (.agg [.int .i64 a0, .int .i64 a1]), .v (.one (.int .i64 a2))] K = impl_Table_at N a0 a1 a2 (fun z3 => K (.v (.one (.int .i64 z3)))) := by kernel_rfl
theorem o82 {β : Type} (N : Nat) : SpecOK (β := β) Try.prog 82 (S82 N) := by
  refine spec_of lay_ok mixed (E := E82 N) (specs_loops specs_nil) muts_nil Try.func82 (by kernel_rfl) 0 (by kernel_rfl) trivial fun args K r h => ?_
  unfold S82 at h
  split at h
  · exact (e82_0 N _ _ _ _).trans h
  · cases h
def S81 {β : Type} (N : Nat) : Rv.Spec β := fun args K => match args with
  | [.v (.one (.int .i64 a0)), .v (.one (.cref [.int .i64 c0, .int .i64 c1] 0)), .v (.one (.cref [.int .i64 c2] 0)), .v (.one (.cref [.int .i64 c3] 0))] => impl_Table_stuck_1 N a0 c0 c1 c2 c3 (fun z2 => K (.v (.one (.bool z2))))
  | _ => none
def E81 {β : Type} (N : Nat) : Env β := ⟨[(82, S82 N)], [], []⟩
theorem e81_0 {β : Type} (N : Nat)  (a0 : Int) (c0 : Int) (c1 : Int) (c2 : Int) (c3 : Int) (K : TV → Option β) : evFn lay (E81 N) Try.f81 [.v (.one (.int .i64 a0)), .v (.one (.cref [.int .i64 c0, .int .i64 c1] 0)), .v (.one (.cref [.int .i64 c2] 0)), .v (.one (.cref [.int .i64 c3] 0))] K = impl_Table_stuck_1 N a0 c0 c1 c2 c3 (fun z2 => K (.v (.one (.bool z2)))) := by kernel_rfl
theorem o81 {β : Type} (N : Nat) : SpecOK (β := β) Try.prog 81 (S81 N) := by
  refine spec_of lay_ok mixed (E := E81 N) (specs_loops (specs_cons (o82 N) specs_nil)) muts_nil Try.func81 (by kernel_rfl) 0 (by kernel_rfl) trivial fun args K r h => ?_
  unfold S81 at h
  split at h
  · exact (e81_0 N _ _ _ _ _ _).trans h
  · cases h
def S80 {β : Type} (N : Nat) : Rv.Spec β := fun args K => match args with
  | [.v (.one (.int .i64 a0)), .v (.one (.dfn 81 [([.int .i64 q0, .int .i64 q1], 0), ([.int .i64 q2], 0), ([.int .i64 q3], 0)]))] => impl_makeTable N a0 (fun x0 k => impl_Table_stuck_1 N x0 q0 q1 q2 q3 k) (fun z4 z5 => K (.v (.agg [.int .i64 z4, .int .i64 z5])))
  | _ => none
def h80_0_0 (q0 : Int) (q1 : Int) (q2 : Int) (q3 : Int) (v0 : Int) (v1 : Int) (v2 : Int) (v3 : Int) (v4 : Int) (v5 : Int) : St := ⟨.v (.one .und) :: .v (.one (.dfn 81 [([.int .i64 q0, .int .i64 q1], 0), ([.int .i64 q2], 0), ([.int .i64 q3], 0)])) :: .v (.one .und) :: .v (.one .und) :: .v (.one (.ptr 0 0)) :: .v (.one (.ptr 1 0)) :: .v (.one .und) :: .v (.one .und) :: .v (.one .und) :: .v (.one .und) :: .v (.one (.int .i64 v0)) :: .v (.one (.int .i64 v1)) :: .v (.one .und) :: .v (.one .und) :: .v (.one .und) :: .v (.one .und) :: .v (.one .und) :: .v (.one .und) :: .v (.one .und) :: .v (.one .und) :: .v (.one .und) :: .v (.one .und) :: .v (.one .und) :: .v (.one .und) :: .v (.one .und) :: [], [.cells 31 [.int .i64 v2, .int .i64 v3], .cells 31 [.int .i64 v4, .int .i64 v5]]⟩
def x80_0_0_k0 (q0 : Int) (q1 : Int) (q2 : Int) (q3 : Int) (y0 : Int) (y1 : Int) (y2 : Int) (y3 : Int) : St := ⟨.v (.one .und) :: .v (.one .und) :: .v (.one .und) :: .v (.one .und) :: .v (.one (.ptr 0 0)) :: .v (.one (.ptr 1 0)) :: .v (.one .und) :: .v (.one .und) :: .v (.one .und) :: .v (.one .und) :: .v (.one .und) :: .v (.one .und) :: .v (.one .und) :: .v (.one .und) :: .v (.one .und) :: .v (.one .und) :: .v (.one .und) :: .v (.one .und) :: .v (.one .und) :: .v (.one .und) :: .v (.one .und) :: .v (.one .und) :: .v (.one .und) :: .v (.one .und) :: .v (.one .und) :: [], [.cells 31 [.int .i64 y0, .int .i64 y1], .cells 31 [.int .i64 y2, .int .i64 y3]]⟩
def LS80_0 {β : Type} (N : Nat) : LSpec β := fun s K => match s with
  | ⟨.v (.one .und) :: .v (.one (.dfn 81 [([.int .i64 q0, .int .i64 q1], 0), ([.int .i64 q2], 0), ([.int .i64 q3], 0)])) :: .v (.one .und) :: .v (.one .und) :: .v (.one (.ptr 0 0)) :: .v (.one (.ptr 1 0)) :: .v (.one .und) :: .v (.one .und) :: .v (.one .und) :: .v (.one .und) :: .v (.one (.int .i64 v0)) :: .v (.one (.int .i64 v1)) :: .v (.one .und) :: .v (.one .und) :: .v (.one .und) :: .v (.one .und) :: .v (.one .und) :: .v (.one .und) :: .v (.one .und) :: .v (.one .und) :: .v (.one .und) :: .v (.one .und) :: .v (.one .und) :: .v (.one .und) :: .v (.one .und) :: [], [.cells 31 [.int .i64 v2, .int .i64 v3], .cells 31 [.int .i64 v4, .int .i64 v5]]⟩ => impl_makeTable_l0 N (fun x0 k => impl_Table_stuck_1 N x0 q0 q1 q2 q3 k) N v0 v1 v2 v3 v4 v5 (fun y0 y1 y2 y3 => K (.exit 0) (x80_0_0_k0 q0 q1 q2 q3 y0 y1 y2 y3))
  | _ => none
def E80 {β : Type} (N : Nat) : Env β := ⟨[(81, S81 N)], [], [(0, LS80_0 N)]⟩
theorem st80_0_0 {β : Type} (N : Nat) (q0 : Int) (q1 : Int) (q2 : Int) (q3 : Int) (v0 : Int) (v1 : Int) (v2 : Int) (v3 : Int) (v4 : Int) (v5 : Int) (rec_ : St → Option β) (K : Exit → St → Option β) :
    ev lay (E80 N) (retMask Try.f80) (lp Try.f80 0).body (lp Try.f80 0).ex ((lp Try.f80 0).lv (retMask Try.f80)) (h80_0_0 q0 q1 q2 q3 v0 v1 v2 v3 v4 v5) (nextR (fun s' => rec_ (s'.tidy ((lp Try.f80 0).lv (retMask Try.f80)))) K) =
      impl_makeTable_l0b N (fun x0 k => impl_Table_stuck_1 N x0 q0 q1 q2 q3 k) v0 v1 v2 v3 v4 v5 (fun v0 v1 v2 v3 v4 v5 => rec_ (h80_0_0 q0 q1 q2 q3 v0 v1 v2 v3 v4 v5)) (fun y0 y1 y2 y3 => K (.exit 0) (x80_0_0_k0 q0 q1 q2 q3 y0 y1 y2 y3)) := by kernel_rfl
theorem ro80_0_0 {β : Type} (N : Nat) (q0 : Int) (q1 : Int) (q2 : Int) (q3 : Int) (K : Exit → St → Option β) : ∀ (F : Nat) (v0 : Int) (v1 : Int) (v2 : Int) (v3 : Int) (v4 : Int) (v5 : Int), (lp Try.f80 0).rounds lay (E80 N) (retMask Try.f80) F (h80_0_0 q0 q1 q2 q3 v0 v1 v2 v3 v4 v5) K = impl_makeTable_l0 N (fun x0 k => impl_Table_stuck_1 N x0 q0 q1 q2 q3 k) F v0 v1 v2 v3 v4 v5 (fun y0 y1 y2 y3 => K (.exit 0) (x80_0_0_k0 q0 q1 q2 q3 y0 y1 y2 y3)) := by
  intro F
  induction F with
  | zero => intros; rfl
  | succ F ih =>
    intros
    rw [rounds_next]
    refine (st80_0_0 N q0 q1 q2 q3 _ _ _ _ _ _ (fun s => (lp Try.f80 0).rounds lay (E80 N) (retMask Try.f80) F s K) K).trans ?_
    simp only [ih]
    rfl
theorem lk80_0 {β : Type} (N : Nat) : lookL (E80 (β := β) N).loops (lp Try.f80 0).id = LS80_0 N := by kernel_rfl
theorem rk80_0 {β : Type} (N : Nat) : RoundsOK lay (E80 (β := β) N) (retMask Try.f80) (lp Try.f80 0) := by
  intro s K r h
  rw [lk80_0] at h
  unfold LS80_0 at h
  split at h
  · exact ⟨N, (ro80_0_0 N _ _ _ _ _ N _ _ _ _ _ _).trans h⟩
  · cases h
theorem e80_0 {β : Type} (N : Nat) (q0 : Int) (q1 : Int) (q2 : Int) (q3 : Int) (a0 : Int) (K : TV → Option β) : evFn lay (E80 N) Try.f80 [.v (.one (.int .i64 a0)), .v (.one (.dfn 81 [([.int .i64 q0, .int .i64 q1], 0), ([.int .i64 q2], 0), ([.int .i64 q3], 0)]))] K = impl_makeTable N a0 (fun x0 k => impl_Table_stuck_1 N x0 q0 q1 q2 q3 k) (fun z4 z5 => K (.v (.agg [.int .i64 z4, .int .i64 z5]))) := by kernel_rfl
theorem o80 {β : Type} (N : Nat) : SpecOK (β := β) Try.prog 80 (S80 N) := by
  refine spec_of lay_ok mixed (E := E80 N) (specs_loops (specs_cons (o81 N) specs_nil)) muts_nil Try.func80 (by kernel_rfl) 1 (by kernel_rfl) ⟨trivial, rk80_0 N⟩ fun args K r h => ?_
  unfold S80 at h
  split at h
  · exact (e80_0 N _ _ _ _ _ _).trans h
  · cases h
def S62 {β : Type} (N : Nat) : Rv.Spec β := fun args K => match args with
  | [.v (.agg [.int .i64 a0, .int .i64 a1]), .v (.one (.int .i64 a2)), .v (.one (.int .i64 a3))] => impl_Table_stuck N a0 a1 a2 a3 (fun z6 z7 => K (.v (.agg [.int .i64 z6, .int .i64 z7])))
  | _ => none
def E62 {β : Type} (N : Nat) : Env β := ⟨[(80, S80 N), (81, S81 N)], [], []⟩
theorem e62_0 {β : Type} (N : Nat)  (a0 : Int) (a1 : Int) (a2 : Int) (a3 : Int) (K : TV → Option β) : evFn lay (E62 N) Try.f62 [.v (.agg [.int .i64 a0, .int .i64 a1]), .v (.one (.int .i64 a2)), .v (.one (.int .i64 a3))] K = impl_Table_stuck N a0 a1 a2 a3 (fun z6 z7 => K (.v (.agg [.int .i64 z6, .int .i64 z7]))) := by kernel_rfl
theorem o62 {β : Type} (N : Nat) : SpecOK (β := β) Try.prog 62 (S62 N) := by
  refine spec_of lay_ok mixed (E := E62 N) (specs_loops (specs_cons (o80 N) (specs_cons (o81 N) specs_nil))) muts_nil Try.func62 (by kernel_rfl) 0 (by kernel_rfl) trivial fun args K r h => ?_
  unfold S62 at h
  split at h
  · exact (e62_0 N _ _ _ _ _).trans h
  · cases h
def S28 {β : Type} (N : Nat) : Rv.Spec β := fun args K => match args with
  | [.v (.agg [.int .i64 a0, .int .i64 a1]), .v (.one (.int .i64 a2)), .v (.one (.int .i64 a3))] => impl_StuckTable N a0 a1 a2 a3 (fun z8 z9 z10 => K (.tup [.agg [.int .i64 z8, .int .i64 z9], .one (.bool z10)]))
  | _ => none
def E28 {β : Type} (N : Nat) : Env β := ⟨[(60, S60 N), (61, S61 N), (62, S62 N)], [], []⟩
theorem e28_0 {β : Type} (N : Nat)  (a0 : Int) (a1 : Int) (a2 : Int) (a3 : Int) (K : TV → Option β) : evFn lay (E28 N) Try.f28 [.v (.agg [.int .i64 a0, .int .i64 a1]), .v (.one (.int .i64 a2)), .v (.one (.int .i64 a3))] K = impl_StuckTable N a0 a1 a2 a3 (fun z8 z9 z10 => K (.tup [.agg [.int .i64 z8, .int .i64 z9], .one (.bool z10)])) := by kernel_rfl
theorem o28 {β : Type} (N : Nat) : SpecOK (β := β) Try.prog 28 (S28 N) := by
  refine spec_of lay_ok mixed (E := E28 N) (specs_loops (specs_cons (o60 N) (specs_cons (o61 N) (specs_cons (o62 N) specs_nil)))) muts_nil Try.func28 (by kernel_rfl) 0 (by kernel_rfl) trivial fun args K r h => ?_
  unfold S28 at h
  split at h
  · exact (e28_0 N _ _ _ _ _).trans h
  · cases h
def S29 {β : Type} (N : Nat) : Rv.Spec β := fun args K => match args with
  | [.v (.agg [.int .i64 a0, .int .i64 a1]), .v (.agg [.int .i64 a2, .int .i64 a3])] => laws_eqTable N a0 a1 a2 a3 (fun z4 => K (.v (.one (.bool z4))))
  | _ => none
def E29 {β : Type} (N : Nat) : Env β := ⟨[], [], []⟩
theorem e29_0 {β : Type} (N : Nat)  (a0 : Int) (a1 : Int) (a2 : Int) (a3 : Int) (K : TV → Option β) : evFn lay (E29 N) Try.f29 [.v (.agg [.int .i64 a0, .int .i64 a1]), .v (.agg [.int .i64 a2, .int .i64 a3])] K = laws_eqTable N a0 a1 a2 a3 (fun z4 => K (.v (.one (.bool z4)))) := by kernel_rfl
theorem o29 {β : Type} (N : Nat) : SpecOK (β := β) Try.prog 29 (S29 N) := by
  refine spec_of lay_ok mixed (E := E29 N) (specs_loops specs_nil) muts_nil Try.func29 (by kernel_rfl) 0 (by kernel_rfl) trivial fun args K r h => ?_
  unfold S29 at h
  split at h
  · exact (e29_0 N _ _ _ _ _).trans h
  · cases h
def S7 {β : Type} (N : Nat) : Rv.Spec β := fun args K => match args with
  | [.v (.agg [.int .i64 a0, .int .i64 a1]), .v (.one (.int .i64 a2)), .v (.one (.int .i64 a3))] => laws_FnExactStuckTable N a0 a1 a2 a3 (fun z15 => K (.v (.one (.bool z15))))
  | _ => none
def E7 {β : Type} (N : Nat) : Env β := ⟨[(27, S27 N), (26, S26 N), (28, S28 N), (29, S29 N)], [], []⟩
theorem e7_0 {β : Type} (N : Nat)  (a0 : Int) (a1 : Int) (a2 : Int) (a3 : Int) (K : TV → Option β) : evFn lay (E7 N) Try.f7 [.v (.agg [.int .i64 a0, .int .i64 a1]), .v (.one (.int .i64 a2)), .v (.one (.int .i64 a3))] K = laws_FnExactStuckTable N a0 a1 a2 a3 (fun z15 => K (.v (.one (.bool z15)))) := by kernel_rfl
theorem o7 {β : Type} (N : Nat) : SpecOK (β := β) Try.prog 7 (S7 N) := by
  refine spec_of lay_ok mixed (E := E7 N) (specs_loops (specs_cons (o27 N) (specs_cons (o26 N) (specs_cons (o28 N) (specs_cons (o29 N) specs_nil))))) muts_nil Try.func7 (by kernel_rfl) 0 (by kernel_rfl) trivial fun args K r h => ?_
  unfold S7 at h
  split at h
  · exact (e7_0 N _ _ _ _ _).trans h
  · cases h
def S92 {β : Type} (N : Nat) : Rv.Spec β := fun args K => match args with
  | [.v (.one (.int .i64 a0)), .v (.one (.int .i64 a1)), .v (.one (.int .i64 a2))] => spec_l3Insert N a0 a1 a2 (fun z3 => K (.v (.one (.int .i64 z3))))
  | _ => none
def E92 {β : Type} (N : Nat) : Env β := ⟨[], [], []⟩
theorem e92_0 {β : Type} (N : Nat)  (a0 : Int) (a1 : Int) (a2 : Int) (K : TV → Option β) : evFn lay (E92 N) Try.f92 [.v (.one (.int .i64 a0)), .v (.one (.int .i64 a1)), .v (.one (.int .i64 a2))] K = spec_l3Insert N a0 a1 a2 (fun z3 => K (.v (.one (.int .i64 z3)))) := by kernel_rfl
theorem o92 {β : Type} (N : Nat) : SpecOK (β := β) Try.prog 92 (S92 N) := by
  refine spec_of lay_ok mixed (E := E92 N) (specs_loops specs_nil) muts_nil Try.func92 (by kernel_rfl) 0 (by kernel_rfl) trivial fun args K r h => ?_
  unfold S92 at h
  split at h
  · exact (e92_0 N _ _ _ _).trans h
  · cases h
def S89 {β : Type} (N : Nat) : Rv.Spec β := fun args K => match args with
  | [.v (.agg [.int .i64 a0, .int .i64 a1]), .v (.one (.int .i64 a2)), .v (.one (.int .i64 a3))] => spec_l3Restrict N a0 a1 a2 a3 (fun z6 z7 => K (.v (.agg [.int .i64 z6, .int .i64 z7])))
  | _ => none
def h89_0_0  (v0 : Int) (v1 : Int) (v2 : Int) (v3 : Int) (v4 : Int) (v5 : Int) (v6 : Int) (v7 : Int) : St := ⟨.v (.one .und) :: .v (.one (.int .i64 v0)) :: .v (.one (.int .i64 v1)) :: .v (.one (.ptr 0 0)) :: .v (.one .und) :: .v (.one .und) :: .v (.one (.ptr 1 0)) :: .v (.one (.int .i64 v2)) :: .v (.one (.int .i64 v3)) :: .v (.one .und) :: .v (.one .und) :: .v (.one .und) :: .v (.one .und) :: .v (.one .und) :: .v (.one .und) :: .v (.one .und) :: .v (.one .und) :: .v (.one .und) :: .v (.one .und) :: .v (.one .und) :: .v (.one .und) :: .v (.one .und) :: .v (.one .und) :: .v (.one .und) :: .v (.one .und) :: .v (.one .und) :: .v (.one .und) :: .v (.one .und) :: .v (.one .und) :: .v (.one .und) :: .v (.one .und) :: .v (.one .und) :: .v (.one .und) :: .v (.one .und) :: [], [.cells 31 [.int .i64 v4, .int .i64 v5], .cells 31 [.int .i64 v6, .int .i64 v7]]⟩
def x89_0_0_k0  (y0 : Int) (y1 : Int) (y2 : Int) (y3 : Int) (y4 : Int) : St := ⟨.v (.one .und) :: .v (.one .und) :: .v (.one .und) :: .v (.one (.ptr 0 0)) :: .v (.one .und) :: .v (.one .und) :: .v (.one (.ptr 1 0)) :: .v (.one (.int .i64 y0)) :: .v (.one .und) :: .v (.one .und) :: .v (.one .und) :: .v (.one .und) :: .v (.one .und) :: .v (.one .und) :: .v (.one .und) :: .v (.one .und) :: .v (.one .und) :: .v (.one .und) :: .v (.one .und) :: .v (.one .und) :: .v (.one .und) :: .v (.one .und) :: .v (.one .und) :: .v (.one .und) :: .v (.one .und) :: .v (.one .und) :: .v (.one .und) :: .v (.one .und) :: .v (.one .und) :: .v (.one .und) :: .v (.one .und) :: .v (.one .und) :: .v (.one .und) :: .v (.one .und) :: [], [.cells 31 [.int .i64 y1, .int .i64 y2], .cells 31 [.int .i64 y3, .int .i64 y4]]⟩
def LS89_0 {β : Type} (N : Nat) : LSpec β := fun s K => match s with
  | ⟨.v (.one .und) :: .v (.one (.int .i64 v0)) :: .v (.one (.int .i64 v1)) :: .v (.one (.ptr 0 0)) :: .v (.one .und) :: .v (.one .und) :: .v (.one (.ptr 1 0)) :: .v (.one (.int .i64 v2)) :: .v (.one (.int .i64 v3)) :: .v (.one .und) :: .v (.one .und) :: .v (.one .und) :: .v (.one .und) :: .v (.one .und) :: .v (.one .und) :: .v (.one .und) :: .v (.one .und) :: .v (.one .und) :: .v (.one .und) :: .v (.one .und) :: .v (.one .und) :: .v (.one .und) :: .v (.one .und) :: .v (.one .und) :: .v (.one .und) :: .v (.one .und) :: .v (.one .und) :: .v (.one .und) :: .v (.one .und) :: .v (.one .und) :: .v (.one .und) :: .v (.one .und) :: .v (.one .und) :: .v (.one .und) :: [], [.cells 31 [.int .i64 v4, .int .i64 v5], .cells 31 [.int .i64 v6, .int .i64 v7]]⟩ => spec_l3Restrict_l0 N  N v0 v1 v2 v3 v4 v5 v6 v7 (fun y0 y1 y2 y3 y4 => K (.exit 0) (x89_0_0_k0  y0 y1 y2 y3 y4))
  | _ => none
def E89 {β : Type} (N : Nat) : Env β := ⟨[(92, S92 N)], [], [(0, LS89_0 N)]⟩
theorem st89_0_0 {β : Type} (N : Nat)  (v0 : Int) (v1 : Int) (v2 : Int) (v3 : Int) (v4 : Int) (v5 : Int) (v6 : Int) (v7 : Int) (rec_ : St → Option β) (K : Exit → St → Option β) :
    ev lay (E89 N) (retMask Try.f89) (lp Try.f89 0).body (lp Try.f89 0).ex ((lp Try.f89 0).lv (retMask Try.f89)) (h89_0_0  v0 v1 v2 v3 v4 v5 v6 v7) (nextR (fun s' => rec_ (s'.tidy ((lp Try.f89 0).lv (retMask Try.f89)))) K) =
      spec_l3Restrict_l0b N  v0 v1 v2 v3 v4 v5 v6 v7 (fun v0 v1 v2 v3 v4 v5 v6 v7 => rec_ (h89_0_0  v0 v1 v2 v3 v4 v5 v6 v7)) (fun y0 y1 y2 y3 y4 => K (.exit 0) (x89_0_0_k0  y0 y1 y2 y3 y4)) := by kernel_rfl
theorem ro89_0_0 {β : Type} (N : Nat)  (K : Exit → St → Option β) : ∀ (F : Nat) (v0 : Int) (v1 : Int) (v2 : Int) (v3 : Int) (v4 : Int) (v5 : Int) (v6 : Int) (v7 : Int), (lp Try.f89 0).rounds lay (E89 N) (retMask Try.f89) F (h89_0_0  v0 v1 v2 v3 v4 v5 v6 v7) K = spec_l3Restrict_l0 N  F v0 v1 v2 v3 v4 v5 v6 v7 (fun y0 y1 y2 y3 y4 => K (.exit 0) (x89_0_0_k0  y0 y1 y2 y3 y4)) := by
  intro F
  induction F with
  | zero => intros; rfl
  | succ F ih =>
    intros
    rw [rounds_next]
    refine (st89_0_0 N  _ _ _ _ _ _ _ _ (fun s => (lp Try.f89 0).rounds lay (E89 N) (retMask Try.f89) F s K) K).trans ?_
    simp only [ih]
    rfl
theorem lk89_0 {β : Type} (N : Nat) : lookL (E89 (β := β) N).loops (lp Try.f89 0).id = LS89_0 N := by kernel_rfl
theorem rk89_0 {β : Type} (N : Nat) : RoundsOK lay (E89 (β := β) N) (retMask Try.f89) (lp Try.f89 0) := by
  intro s K r h
  rw [lk89_0] at h
  unfold LS89_0 at h
  split at h
  · exact ⟨N, (ro89_0_0 N  _ N _ _ _ _ _ _ _ _).trans h⟩
  · cases h
theorem e89_0 {β : Type} (N : Nat)  (a0 : Int) (a1 : Int) (a2 : Int) (a3 : Int) (K : TV → Option β) : evFn lay (E89 N) Try.f89 [.v (.agg [.int .i64 a0, .int .i64 a1]), .v (.one (.int .i64 a2)), .v (.one (.int .i64 a3))] K = spec_l3Restrict N a0 a1 a2 a3 (fun z6 z7 => K (.v (.agg [.int .i64 z6, .int .i64 z7]))) := by kernel_rfl
theorem o89 {β : Type} (N : Nat) : SpecOK (β := β) Try.prog 89 (S89 N) := by
  refine spec_of lay_ok mixed (E := E89 N) (specs_loops (specs_cons (o92 N) specs_nil)) muts_nil Try.func89 (by kernel_rfl) 1 (by kernel_rfl) ⟨trivial, rk89_0 N⟩ fun args K r h => ?_
  unfold S89 at h
  split at h
  · exact (e89_0 N _ _ _ _ _).trans h
  · cases h
def S83 {β : Type} (N : Nat) : Rv.Spec β := fun args K => match args with
  | [.v (.agg [.int .i64 a0, .int .i64 a1]), .v (.one (.int .i64 a2))] => spec_l3Depends N a0 a1 a2 (fun z7 => K (.v (.one (.bool z7))))
  | _ => none
def E83 {β : Type} (N : Nat) : Env β := ⟨[(89, S89 N)], [], []⟩
theorem e83_0 {β : Type} (N : Nat)  (a0 : Int) (a1 : Int) (a2 : Int) (K : TV → Option β) : evFn lay (E83 N) Try.f83 [.v (.agg [.int .i64 a0, .int .i64 a1]), .v (.one (.int .i64 a2))] K = spec_l3Depends N a0 a1 a2 (fun z7 => K (.v (.one (.bool z7)))) := by kernel_rfl
theorem o83 {β : Type} (N : Nat) : SpecOK (β := β) Try.prog 83 (S83 N) := by
  refine spec_of lay_ok mixed (E := E83 N) (specs_loops (specs_cons (o89 N) specs_nil)) muts_nil Try.func83 (by kernel_rfl) 0 (by kernel_rfl) trivial fun args K r h => ?_
  unfold S83 at h
  split at h
  · exact (e83_0 N _ _ _ _).trans h
  · cases h
def S63 {β : Type} (N : Nat) : Rv.Spec β := fun args K => match args with
  | [.v (.agg [.int .i64 a0, .int .i64 a1])] => spec_VariablesOf N a0 a1 (fun z5 => K (.v (.one (.sl 3 (.ints .i64 z5)))))
  | _ => none
def h63_0_0  (v0 : Int) (v1 : Int) (v2 : Int) (v3 : List Int) : St := ⟨.v (.one .und) :: .v (.one (.ptr 0 0)) :: .v (.one .und) :: .v (.one (.row 1)) :: .v (.one (.int .i64 v0)) :: .v (.one .und) :: .v (.one .und) :: .v (.one .und) :: .v (.one .und) :: .v (.one .und) :: .v (.one .und) :: .v (.one .und) :: .v (.one .und) :: .v (.one .und) :: .v (.one .und) :: .v (.one .und) :: .v (.one .und) :: .v (.one .und) :: .v (.one .und) :: .v (.one .und) :: .v (.one .und) :: .v (.one .und) :: .v (.one .und) :: .v (.one .und) :: [], [.cells 31 [.int .i64 v1, .int .i64 v2], .row 3 (.ints .i64 v3)]⟩
def x63_0_0_k0  (y0 : List Int) : St := ⟨.v (.one .und) :: .v (.one .und) :: .v (.one .und) :: .v (.one (.row 0)) :: .v (.one .und) :: .v (.one .und) :: .v (.one .und) :: .v (.one .und) :: .v (.one .und) :: .v (.one .und) :: .v (.one .und) :: .v (.one .und) :: .v (.one .und) :: .v (.one .und) :: .v (.one .und) :: .v (.one .und) :: .v (.one .und) :: .v (.one .und) :: .v (.one .und) :: .v (.one .und) :: .v (.one .und) :: .v (.one .und) :: .v (.one .und) :: .v (.one .und) :: [], [.row 3 (.ints .i64 y0)]⟩
def LS63_0 {β : Type} (N : Nat) : LSpec β := fun s K => match s with
  | ⟨.v (.one .und) :: .v (.one (.ptr 0 0)) :: .v (.one .und) :: .v (.one (.row 1)) :: .v (.one (.int .i64 v0)) :: .v (.one .und) :: .v (.one .und) :: .v (.one .und) :: .v (.one .und) :: .v (.one .und) :: .v (.one .und) :: .v (.one .und) :: .v (.one .und) :: .v (.one .und) :: .v (.one .und) :: .v (.one .und) :: .v (.one .und) :: .v (.one .und) :: .v (.one .und) :: .v (.one .und) :: .v (.one .und) :: .v (.one .und) :: .v (.one .und) :: .v (.one .und) :: [], [.cells 31 [.int .i64 v1, .int .i64 v2], .row 3 (.ints .i64 v3)]⟩ => spec_VariablesOf_l0 N  N v0 v1 v2 v3 (fun y0 => K (.exit 0) (x63_0_0_k0  y0))
  | _ => none
def E63 {β : Type} (N : Nat) : Env β := ⟨[(58, S58 N), (83, S83 N)], [], [(0, LS63_0 N)]⟩
theorem st63_0_0 {β : Type} (N : Nat)  (v0 : Int) (v1 : Int) (v2 : Int) (v3 : List Int) (rec_ : St → Option β) (K : Exit → St → Option β) :
    ev lay (E63 N) (retMask Try.f63) (lp Try.f63 0).body (lp Try.f63 0).ex ((lp Try.f63 0).lv (retMask Try.f63)) (h63_0_0  v0 v1 v2 v3) (nextR (fun s' => rec_ (s'.tidy ((lp Try.f63 0).lv (retMask Try.f63)))) K) =
      spec_VariablesOf_l0b N  v0 v1 v2 v3 (fun v0 v1 v2 v3 => rec_ (h63_0_0  v0 v1 v2 v3)) (fun y0 => K (.exit 0) (x63_0_0_k0  y0)) := by kernel_rfl
theorem ro63_0_0 {β : Type} (N : Nat)  (K : Exit → St → Option β) : ∀ (F : Nat) (v0 : Int) (v1 : Int) (v2 : Int) (v3 : List Int), (lp Try.f63 0).rounds lay (E63 N) (retMask Try.f63) F (h63_0_0  v0 v1 v2 v3) K = spec_VariablesOf_l0 N  F v0 v1 v2 v3 (fun y0 => K (.exit 0) (x63_0_0_k0  y0)) := by
  intro F
  induction F with
  | zero => intros; rfl
  | succ F ih =>
    intros
    rw [rounds_next]
    refine (st63_0_0 N  _ _ _ _ (fun s => (lp Try.f63 0).rounds lay (E63 N) (retMask Try.f63) F s K) K).trans ?_
    simp only [ih]
    rfl
theorem lk63_0 {β : Type} (N : Nat) : lookL (E63 (β := β) N).loops (lp Try.f63 0).id = LS63_0 N := by kernel_rfl
theorem rk63_0 {β : Type} (N : Nat) : RoundsOK lay (E63 (β := β) N) (retMask Try.f63) (lp Try.f63 0) := by
  intro s K r h
  rw [lk63_0] at h
  unfold LS63_0 at h
  split at h
  · exact ⟨N, (ro63_0_0 N  _ N _ _ _ _).trans h⟩
  · cases h
theorem e63_0 {β : Type} (N : Nat)  (a0 : Int) (a1 : Int) (K : TV → Option β) : evFn lay (E63 N) Try.f63 [.v (.agg [.int .i64 a0, .int .i64 a1])] K = spec_VariablesOf N a0 a1 (fun z5 => K (.v (.one (.sl 3 (.ints .i64 z5))))) := by kernel_rfl
theorem o63 {β : Type} (N : Nat) : SpecOK (β := β) Try.prog 63 (S63 N) := by
  refine spec_of lay_ok mixed (E := E63 N) (specs_loops (specs_cons (o58 N) (specs_cons (o83 N) specs_nil))) muts_nil Try.func63 (by kernel_rfl) 1 (by kernel_rfl) ⟨trivial, rk63_0 N⟩ fun args K r h => ?_
  unfold S63 at h
  split at h
  · exact (e63_0 N _ _ _).trans h
  · cases h
def S30 {β : Type} (N : Nat) : Rv.Spec β := fun args K => match args with
  | [.v (.agg [.int .i64 a0, .int .i64 a1])] => spec_CountDetectable N a0 a1 (fun z4 => K (.v (.one (.int .i64 z4))))
  | _ => none
def E30 {β : Type} (N : Nat) : Env β := ⟨[(58, S58 N), (63, S63 N)], [], []⟩
theorem e30_0 {β : Type} (N : Nat)  (a0 : Int) (a1 : Int) (K : TV → Option β) : evFn lay (E30 N) Try.f30 [.v (.agg [.int .i64 a0, .int .i64 a1])] K = spec_CountDetectable N a0 a1 (fun z4 => K (.v (.one (.int .i64 z4)))) := by kernel_rfl
theorem o30 {β : Type} (N : Nat) : SpecOK (β := β) Try.prog 30 (S30 N) := by
  refine spec_of lay_ok mixed (E := E30 N) (specs_loops (specs_cons (o58 N) (specs_cons (o63 N) specs_nil))) muts_nil Try.func30 (by kernel_rfl) 0 (by kernel_rfl) trivial fun args K r h => ?_
  unfold S30 at h
  split at h
  · exact (e30_0 N _ _ _).trans h
  · cases h
def S65 {β : Type} (N : Nat) : Rv.Spec β := fun args K => match args with
  | [.v (.agg [.int .i64 a0, .int .i64 a1]), .v (.one (.int .i64 a2)), .v (.one (.int .i64 a3))] => impl_Table_detecting N a0 a1 a2 a3 (fun z6 => K (.v (.one (.int .i64 z6))))
  | _ => none
def E65 {β : Type} (N : Nat) : Env β := ⟨[(62, S62 N)], [], []⟩
theorem e65_0 {β : Type} (N : Nat)  (a0 : Int) (a1 : Int) (a2 : Int) (a3 : Int) (K : TV → Option β) : evFn lay (E65 N) Try.f65 [.v (.agg [.int .i64 a0, .int .i64 a1]), .v (.one (.int .i64 a2)), .v (.one (.int .i64 a3))] K = impl_Table_detecting N a0 a1 a2 a3 (fun z6 => K (.v (.one (.int .i64 z6)))) := by kernel_rfl
theorem o65 {β : Type} (N : Nat) : SpecOK (β := β) Try.prog 65 (S65 N) := by
  refine spec_of lay_ok mixed (E := E65 N) (specs_loops (specs_cons (o62 N) specs_nil)) muts_nil Try.func65 (by kernel_rfl) 0 (by kernel_rfl) trivial fun args K r h => ?_
  unfold S65 at h
  split at h
  · exact (e65_0 N _ _ _ _ _).trans h
  · cases h
def S31 {β : Type} (N : Nat) : Rv.Spec β := fun args K => match args with
  | [.v (.agg [.int .i64 a0, .int .i64 a1])] => impl_CountDetectable N a0 a1 (fun z6 => K (.v (.one (.int .i64 z6))))
  | _ => none
def h31_0_0  (v0 : Int) (v1 : Int) (v2 : Int) (v3 : Int) (v4 : Int) : St := ⟨.v (.one .und) :: .v (.one (.ptr 0 0)) :: .v (.one .und) :: .v (.one (.int .i64 v0)) :: .v (.one .und) :: .v (.one .und) :: .v (.one .und) :: .v (.one .und) :: .v (.one .und) :: .v (.one .und) :: .v (.one (.int .i64 v1)) :: .v (.one (.int .i64 v2)) :: .v (.one .und) :: .v (.one .und) :: .v (.one .und) :: .v (.one .und) :: .v (.one .und) :: .v (.one .und) :: .v (.one .und) :: .v (.one .und) :: .v (.one .und) :: .v (.one .und) :: .v (.one .und) :: .v (.one .und) :: .v (.one .und) :: .v (.one .und) :: .v (.one .und) :: [], [.cells 31 [.int .i64 v3, .int .i64 v4]]⟩
def x31_0_0_k0  (y0 : Int) : St := ⟨.v (.one .und) :: .v (.one .und) :: .v (.one .und) :: .v (.one (.int .i64 y0)) :: .v (.one .und) :: .v (.one .und) :: .v (.one .und) :: .v (.one .und) :: .v (.one .und) :: .v (.one .und) :: .v (.one .und) :: .v (.one .und) :: .v (.one .und) :: .v (.one .und) :: .v (.one .und) :: .v (.one .und) :: .v (.one .und) :: .v (.one .und) :: .v (.one .und) :: .v (.one .und) :: .v (.one .und) :: .v (.one .und) :: .v (.one .und) :: .v (.one .und) :: .v (.one .und) :: .v (.one .und) :: .v (.one .und) :: [], []⟩
def LS31_0 {β : Type} (N : Nat) : LSpec β := fun s K => match s with
  | ⟨.v (.one .und) :: .v (.one (.ptr 0 0)) :: .v (.one .und) :: .v (.one (.int .i64 v0)) :: .v (.one .und) :: .v (.one .und) :: .v (.one .und) :: .v (.one .und) :: .v (.one .und) :: .v (.one .und) :: .v (.one (.int .i64 v1)) :: .v (.one (.int .i64 v2)) :: .v (.one .und) :: .v (.one .und) :: .v (.one .und) :: .v (.one .und) :: .v (.one .und) :: .v (.one .und) :: .v (.one .und) :: .v (.one .und) :: .v (.one .und) :: .v (.one .und) :: .v (.one .und) :: .v (.one .und) :: .v (.one .und) :: .v (.one .und) :: .v (.one .und) :: [], [.cells 31 [.int .i64 v3, .int .i64 v4]]⟩ => impl_CountDetectable_l0 N  N v0 v1 v2 v3 v4 (fun y0 => K (.exit 0) (x31_0_0_k0  y0))
  | _ => none
def h31_2_0  (v0 : Int) (v1 : Int) (v2 : Int) (v3 : Int) (v4 : Int) (v5 : Int) (v6 : Int) : St := ⟨.v (.one .und) :: .v (.one (.ptr 0 0)) :: .v (.one .und) :: .v (.one (.int .i64 v0)) :: .v (.one (.int .i64 v1)) :: .v (.one .und) :: .v (.one .und) :: .v (.one .und) :: .v (.one .und) :: .v (.one .und) :: .v (.one (.int .i64 v2)) :: .v (.one (.int .i64 v3)) :: .v (.one .und) :: .v (.one .und) :: .v (.one (.int .i64 v4)) :: .v (.one .und) :: .v (.one .und) :: .v (.one .und) :: .v (.one .und) :: .v (.one .und) :: .v (.one .und) :: .v (.one .und) :: .v (.one .und) :: .v (.one .und) :: .v (.one .und) :: .v (.one .und) :: .v (.one .und) :: [], [.cells 31 [.int .i64 v5, .int .i64 v6]]⟩
def x31_2_0_k0  (y0 : Int) (y1 : Int) (y2 : Int) (y3 : Int) (y4 : Int) : St := ⟨.v (.one .und) :: .v (.one (.ptr 0 0)) :: .v (.one .und) :: .v (.one (.int .i64 y0)) :: .v (.one .und) :: .v (.one .und) :: .v (.one .und) :: .v (.one .und) :: .v (.one .und) :: .v (.one .und) :: .v (.one (.int .i64 y1)) :: .v (.one (.int .i64 y2)) :: .v (.one .und) :: .v (.one .und) :: .v (.one .und) :: .v (.one .und) :: .v (.one .und) :: .v (.one .und) :: .v (.one .und) :: .v (.one .und) :: .v (.one .und) :: .v (.one .und) :: .v (.one .und) :: .v (.one .und) :: .v (.one .und) :: .v (.one .und) :: .v (.one .und) :: [], [.cells 31 [.int .i64 y3, .int .i64 y4]]⟩
def LS31_2 {β : Type} (N : Nat) : LSpec β := fun s K => match s with
  | ⟨.v (.one .und) :: .v (.one (.ptr 0 0)) :: .v (.one .und) :: .v (.one (.int .i64 v0)) :: .v (.one (.int .i64 v1)) :: .v (.one .und) :: .v (.one .und) :: .v (.one .und) :: .v (.one .und) :: .v (.one .und) :: .v (.one (.int .i64 v2)) :: .v (.one (.int .i64 v3)) :: .v (.one .und) :: .v (.one .und) :: .v (.one (.int .i64 v4)) :: .v (.one .und) :: .v (.one .und) :: .v (.one .und) :: .v (.one .und) :: .v (.one .und) :: .v (.one .und) :: .v (.one .und) :: .v (.one .und) :: .v (.one .und) :: .v (.one .und) :: .v (.one .und) :: .v (.one .und) :: [], [.cells 31 [.int .i64 v5, .int .i64 v6]]⟩ => impl_CountDetectable_l2 N  N v0 v1 v2 v3 v4 v5 v6 (fun y0 y1 y2 y3 y4 => K (.exit 2) (x31_2_0_k0  y0 y1 y2 y3 y4))
  | _ => none
def E31 {β : Type} (N : Nat) : Env β := ⟨[(64, S64 N), (65, S65 N)], [], [(0, LS31_0 N), (2, LS31_2 N)]⟩
theorem st31_0_0 {β : Type} (N : Nat)  (v0 : Int) (v1 : Int) (v2 : Int) (v3 : Int) (v4 : Int) (rec_ : St → Option β) (K : Exit → St → Option β) :
    ev lay (E31 N) (retMask Try.f31) (lp Try.f31 0).body (lp Try.f31 0).ex ((lp Try.f31 0).lv (retMask Try.f31)) (h31_0_0  v0 v1 v2 v3 v4) (nextR (fun s' => rec_ (s'.tidy ((lp Try.f31 0).lv (retMask Try.f31)))) K) =
      impl_CountDetectable_l0b N  v0 v1 v2 v3 v4 (fun v0 v1 v2 v3 v4 => rec_ (h31_0_0  v0 v1 v2 v3 v4)) (fun y0 => K (.exit 0) (x31_0_0_k0  y0)) := by kernel_rfl
theorem ro31_0_0 {β : Type} (N : Nat)  (K : Exit → St → Option β) : ∀ (F : Nat) (v0 : Int) (v1 : Int) (v2 : Int) (v3 : Int) (v4 : Int), (lp Try.f31 0).rounds lay (E31 N) (retMask Try.f31) F (h31_0_0  v0 v1 v2 v3 v4) K = impl_CountDetectable_l0 N  F v0 v1 v2 v3 v4 (fun y0 => K (.exit 0) (x31_0_0_k0  y0)) := by
  intro F
  induction F with
  | zero => intros; rfl
  | succ F ih =>
    intros
    rw [rounds_next]
    refine (st31_0_0 N  _ _ _ _ _ (fun s => (lp Try.f31 0).rounds lay (E31 N) (retMask Try.f31) F s K) K).trans ?_
    simp only [ih]
    rfl
theorem lk31_0 {β : Type} (N : Nat) : lookL (E31 (β := β) N).loops (lp Try.f31 0).id = LS31_0 N := by kernel_rfl
theorem rk31_0 {β : Type} (N : Nat) : RoundsOK lay (E31 (β := β) N) (retMask Try.f31) (lp Try.f31 0) := by
  intro s K r h
  rw [lk31_0] at h
  unfold LS31_0 at h
  split at h
  · exact ⟨N, (ro31_0_0 N  _ N _ _ _ _ _).trans h⟩
  · cases h
theorem st31_2_0 {β : Type} (N : Nat)  (v0 : Int) (v1 : Int) (v2 : Int) (v3 : Int) (v4 : Int) (v5 : Int) (v6 : Int) (rec_ : St → Option β) (K : Exit → St → Option β) :
    ev lay (E31 N) (retMask Try.f31) (lp Try.f31 1).body (lp Try.f31 1).ex ((lp Try.f31 1).lv (retMask Try.f31)) (h31_2_0  v0 v1 v2 v3 v4 v5 v6) (nextR (fun s' => rec_ (s'.tidy ((lp Try.f31 1).lv (retMask Try.f31)))) K) =
      impl_CountDetectable_l2b N  v0 v1 v2 v3 v4 v5 v6 (fun v0 v1 v2 v3 v4 v5 v6 => rec_ (h31_2_0  v0 v1 v2 v3 v4 v5 v6)) (fun y0 y1 y2 y3 y4 => K (.exit 2) (x31_2_0_k0  y0 y1 y2 y3 y4)) := by kernel_rfl
theorem ro31_2_0 {β : Type} (N : Nat)  (K : Exit → St → Option β) : ∀ (F : Nat) (v0 : Int) (v1 : Int) (v2 : Int) (v3 : Int) (v4 : Int) (v5 : Int) (v6 : Int), (lp Try.f31 1).rounds lay (E31 N) (retMask Try.f31) F (h31_2_0  v0 v1 v2 v3 v4 v5 v6) K = impl_CountDetectable_l2 N  F v0 v1 v2 v3 v4 v5 v6 (fun y0 y1 y2 y3 y4 => K (.exit 2) (x31_2_0_k0  y0 y1 y2 y3 y4)) := by
  intro F
  induction F with
  | zero => intros; rfl
  | succ F ih =>
    intros
    rw [rounds_next]
    refine (st31_2_0 N  _ _ _ _ _ _ _ (fun s => (lp Try.f31 1).rounds lay (E31 N) (retMask Try.f31) F s K) K).trans ?_
    simp only [ih]
    rfl
theorem lk31_2 {β : Type} (N : Nat) : lookL (E31 (β := β) N).loops (lp Try.f31 1).id = LS31_2 N := by kernel_rfl
theorem rk31_2 {β : Type} (N : Nat) : RoundsOK lay (E31 (β := β) N) (retMask Try.f31) (lp Try.f31 1) := by
  intro s K r h
  rw [lk31_2] at h
  unfold LS31_2 at h
  split at h
  · exact ⟨N, (ro31_2_0 N  _ N _ _ _ _ _ _ _).trans h⟩
  · cases h
theorem e31_0 {β : Type} (N : Nat)  (a0 : Int) (a1 : Int) (K : TV → Option β) : evFn lay (E31 N) Try.f31 [.v (.agg [.int .i64 a0, .int .i64 a1])] K = impl_CountDetectable N a0 a1 (fun z6 => K (.v (.one (.int .i64 z6)))) := by kernel_rfl
theorem o31 {β : Type} (N : Nat) : SpecOK (β := β) Try.prog 31 (S31 N) := by
  refine spec_of lay_ok mixed (E := E31 N) (specs_loops (specs_cons (o64 N) (specs_cons (o65 N) specs_nil))) muts_nil Try.func31 (by kernel_rfl) 2 (by kernel_rfl) ⟨⟨trivial, rk31_0 N⟩, rk31_2 N⟩ fun args K r h => ?_
  unfold S31 at h
  split at h
  · exact (e31_0 N _ _ _).trans h
  · cases h
def S8 {β : Type} (N : Nat) : Rv.Spec β := fun args K => match args with
  | [.v (.agg [.int .i64 a0, .int .i64 a1])] => laws_FnExactCountDetectable N a0 a1 (fun z8 => K (.v (.one (.bool z8))))
  | _ => none
def E8 {β : Type} (N : Nat) : Env β := ⟨[(27, S27 N), (30, S30 N), (31, S31 N)], [], []⟩
theorem e8_0 {β : Type} (N : Nat)  (a0 : Int) (a1 : Int) (K : TV → Option β) : evFn lay (E8 N) Try.f8 [.v (.agg [.int .i64 a0, .int .i64 a1])] K = laws_FnExactCountDetectable N a0 a1 (fun z8 => K (.v (.one (.bool z8)))) := by kernel_rfl
theorem o8 {β : Type} (N : Nat) : SpecOK (β := β) Try.prog 8 (S8 N) := by
  refine spec_of lay_ok mixed (E := E8 N) (specs_loops (specs_cons (o27 N) (specs_cons (o30 N) (specs_cons (o31 N) specs_nil)))) muts_nil Try.func8 (by kernel_rfl) 0 (by kernel_rfl) trivial fun args K r h => ?_
  unfold S8 at h
  split at h
  · exact (e8_0 N _ _ _).trans h
  · cases h
def S66 {β : Type} (N : Nat) : Rv.Spec β := fun args K => match args with
  | [.v (.agg [.int .i64 a0, .int .i64 a1]), .v (.one (.int .i64 a2))] => spec_l9In N a0 a1 a2 (fun z5 => K (.v (.one (.bool z5))))
  | _ => none
def E66 {β : Type} (N : Nat) : Env β := ⟨[(58, S58 N), (56, S56 N)], [], []⟩
theorem e66_0 {β : Type} (N : Nat)  (a0 : Int) (a1 : Int) (a2 : Int) (K : TV → Option β) : evFn lay (E66 N) Try.f66 [.v (.agg [.int .i64 a0, .int .i64 a1]), .v (.one (.int .i64 a2))] K = spec_l9In N a0 a1 a2 (fun z5 => K (.v (.one (.bool z5)))) := by kernel_rfl
theorem o66 {β : Type} (N : Nat) : SpecOK (β := β) Try.prog 66 (S66 N) := by
  refine spec_of lay_ok mixed (E := E66 N) (specs_loops (specs_cons (o58 N) (specs_cons (o56 N) specs_nil))) muts_nil Try.func66 (by kernel_rfl) 0 (by kernel_rfl) trivial fun args K r h => ?_
  unfold S66 at h
  split at h
  · exact (e66_0 N _ _ _ _).trans h
  · cases h
def S32 {β : Type} (N : Nat) : Rv.Spec β := fun args K => match args with
  | [.v (.agg [.int .i64 a0, .int .i64 a1]), .v (.one (.int .i64 a2))] => spec_DetectedBy N a0 a1 a2 (fun z8 => K (.v (.one (.sl 3 (.ints .i64 z8)))))
  | _ => none
def h32_0_0  (v0 : Int) (v1 : Int) (v2 : Int) (v3 : Int) (v4 : List Int) : St := ⟨.v (.one .und) :: .v (.one (.int .i64 v0)) :: .v (.one (.ptr 0 0)) :: .v (.one .und) :: .v (.one .und) :: .v (.one (.row 1)) :: .v (.one (.int .i64 v1)) :: .v (.one .und) :: .v (.one .und) :: .v (.one .und) :: .v (.one .und) :: .v (.one .und) :: .v (.one .und) :: .v (.one .und) :: .v (.one .und) :: .v (.one .und) :: .v (.one .und) :: .v (.one .und) :: .v (.one .und) :: .v (.one .und) :: .v (.one .und) :: .v (.one .und) :: .v (.one .und) :: .v (.one .und) :: .v (.one .und) :: .v (.one .und) :: .v (.one .und) :: .v (.one .und) :: .v (.one .und) :: .v (.one .und) :: .v (.one .und) :: .v (.one .und) :: .v (.one .und) :: .v (.one .und) :: .v (.one .und) :: .v (.one .und) :: .v (.one .und) :: .v (.one .und) :: .v (.one .und) :: .v (.one .und) :: .v (.one .und) :: .v (.one .und) :: .v (.one .und) :: .v (.one .und) :: .v (.one .und) :: .v (.one .und) :: .v (.one .und) :: .v (.one .und) :: [], [.cells 31 [.int .i64 v2, .int .i64 v3], .row 3 (.ints .i64 v4)]⟩
def x32_0_0_k0  (y0 : List Int) : St := ⟨.v (.one .und) :: .v (.one .und) :: .v (.one .und) :: .v (.one .und) :: .v (.one .und) :: .v (.one (.row 0)) :: .v (.one .und) :: .v (.one .und) :: .v (.one .und) :: .v (.one .und) :: .v (.one .und) :: .v (.one .und) :: .v (.one .und) :: .v (.one .und) :: .v (.one .und) :: .v (.one .und) :: .v (.one .und) :: .v (.one .und) :: .v (.one .und) :: .v (.one .und) :: .v (.one .und) :: .v (.one .und) :: .v (.one .und) :: .v (.one .und) :: .v (.one .und) :: .v (.one .und) :: .v (.one .und) :: .v (.one .und) :: .v (.one .und) :: .v (.one .und) :: .v (.one .und) :: .v (.one .und) :: .v (.one .und) :: .v (.one .und) :: .v (.one .und) :: .v (.one .und) :: .v (.one .und) :: .v (.one .und) :: .v (.one .und) :: .v (.one .und) :: .v (.one .und) :: .v (.one .und) :: .v (.one .und) :: .v (.one .und) :: .v (.one .und) :: .v (.one .und) :: .v (.one .und) :: .v (.one .und) :: [], [.row 3 (.ints .i64 y0)]⟩
def LS32_0 {β : Type} (N : Nat) : LSpec β := fun s K => match s with
  | ⟨.v (.one .und) :: .v (.one (.int .i64 v0)) :: .v (.one (.ptr 0 0)) :: .v (.one .und) :: .v (.one .und) :: .v (.one (.row 1)) :: .v (.one (.int .i64 v1)) :: .v (.one .und) :: .v (.one .und) :: .v (.one .und) :: .v (.one .und) :: .v (.one .und) :: .v (.one .und) :: .v (.one .und) :: .v (.one .und) :: .v (.one .und) :: .v (.one .und) :: .v (.one .und) :: .v (.one .und) :: .v (.one .und) :: .v (.one .und) :: .v (.one .und) :: .v (.one .und) :: .v (.one .und) :: .v (.one .und) :: .v (.one .und) :: .v (.one .und) :: .v (.one .und) :: .v (.one .und) :: .v (.one .und) :: .v (.one .und) :: .v (.one .und) :: .v (.one .und) :: .v (.one .und) :: .v (.one .und) :: .v (.one .und) :: .v (.one .und) :: .v (.one .und) :: .v (.one .und) :: .v (.one .und) :: .v (.one .und) :: .v (.one .und) :: .v (.one .und) :: .v (.one .und) :: .v (.one .und) :: .v (.one .und) :: .v (.one .und) :: .v (.one .und) :: [], [.cells 31 [.int .i64 v2, .int .i64 v3], .row 3 (.ints .i64 v4)]⟩ => spec_DetectedBy_l0 N  N v0 v1 v2 v3 v4 (fun y0 => K (.exit 0) (x32_0_0_k0  y0))
  | _ => none
def h32_2_0  (v0 : Int) (v1 : Int) (v2 : Int) (v3 : Int) (v4 : Int) (v5 : List Int) : St := ⟨.v (.one .und) :: .v (.one (.int .i64 v0)) :: .v (.one (.ptr 0 0)) :: .v (.one .und) :: .v (.one .und) :: .v (.one (.row 1)) :: .v (.one (.int .i64 v1)) :: .v (.one (.int .i64 v2)) :: .v (.one .und) :: .v (.one .und) :: .v (.one .und) :: .v (.one .und) :: .v (.one .und) :: .v (.one .und) :: .v (.one .und) :: .v (.one .und) :: .v (.one .und) :: .v (.one .und) :: .v (.one .und) :: .v (.one .und) :: .v (.one .und) :: .v (.one .und) :: .v (.one .und) :: .v (.one .und) :: .v (.one .und) :: .v (.one .und) :: .v (.one .und) :: .v (.one .und) :: .v (.one .und) :: .v (.one .und) :: .v (.one .und) :: .v (.one .und) :: .v (.one .und) :: .v (.one .und) :: .v (.one .und) :: .v (.one .und) :: .v (.one .und) :: .v (.one .und) :: .v (.one .und) :: .v (.one .und) :: .v (.one .und) :: .v (.one .und) :: .v (.one .und) :: .v (.one .und) :: .v (.one .und) :: .v (.one .und) :: .v (.one .und) :: .v (.one .und) :: [], [.cells 31 [.int .i64 v3, .int .i64 v4], .row 3 (.ints .i64 v5)]⟩
def x32_2_0_k0  (y0 : Int) (y1 : Int) (y2 : Int) (y3 : Int) (y4 : List Int) : St := ⟨.v (.one .und) :: .v (.one (.int .i64 y0)) :: .v (.one (.ptr 0 0)) :: .v (.one .und) :: .v (.one .und) :: .v (.one (.row 1)) :: .v (.one (.int .i64 y1)) :: .v (.one .und) :: .v (.one .und) :: .v (.one .und) :: .v (.one .und) :: .v (.one .und) :: .v (.one .und) :: .v (.one .und) :: .v (.one .und) :: .v (.one .und) :: .v (.one .und) :: .v (.one .und) :: .v (.one .und) :: .v (.one .und) :: .v (.one .und) :: .v (.one .und) :: .v (.one .und) :: .v (.one .und) :: .v (.one .und) :: .v (.one .und) :: .v (.one .und) :: .v (.one .und) :: .v (.one .und) :: .v (.one .und) :: .v (.one .und) :: .v (.one .und) :: .v (.one .und) :: .v (.one .und) :: .v (.one .und) :: .v (.one .und) :: .v (.one .und) :: .v (.one .und) :: .v (.one .und) :: .v (.one .und) :: .v (.one .und) :: .v (.one .und) :: .v (.one .und) :: .v (.one .und) :: .v (.one .und) :: .v (.one .und) :: .v (.one .und) :: .v (.one .und) :: [], [.cells 31 [.int .i64 y2, .int .i64 y3], .row 3 (.ints .i64 y4)]⟩
def LS32_2 {β : Type} (N : Nat) : LSpec β := fun s K => match s with
  | ⟨.v (.one .und) :: .v (.one (.int .i64 v0)) :: .v (.one (.ptr 0 0)) :: .v (.one .und) :: .v (.one .und) :: .v (.one (.row 1)) :: .v (.one (.int .i64 v1)) :: .v (.one (.int .i64 v2)) :: .v (.one .und) :: .v (.one .und) :: .v (.one .und) :: .v (.one .und) :: .v (.one .und) :: .v (.one .und) :: .v (.one .und) :: .v (.one .und) :: .v (.one .und) :: .v (.one .und) :: .v (.one .und) :: .v (.one .und) :: .v (.one .und) :: .v (.one .und) :: .v (.one .und) :: .v (.one .und) :: .v (.one .und) :: .v (.one .und) :: .v (.one .und) :: .v (.one .und) :: .v (.one .und) :: .v (.one .und) :: .v (.one .und) :: .v (.one .und) :: .v (.one .und) :: .v (.one .und) :: .v (.one .und) :: .v (.one .und) :: .v (.one .und) :: .v (.one .und) :: .v (.one .und) :: .v (.one .und) :: .v (.one .und) :: .v (.one .und) :: .v (.one .und) :: .v (.one .und) :: .v (.one .und) :: .v (.one .und) :: .v (.one .und) :: .v (.one .und) :: [], [.cells 31 [.int .i64 v3, .int .i64 v4], .row 3 (.ints .i64 v5)]⟩ => spec_DetectedBy_l2 N  N v0 v1 v2 v3 v4 v5 (fun y0 y1 y2 y3 y4 => K (.exit 2) (x32_2_0_k0  y0 y1 y2 y3 y4))
  | _ => none
def E32 {β : Type} (N : Nat) : Env β := ⟨[(66, S66 N), (59, S59 N)], [], [(0, LS32_0 N), (2, LS32_2 N)]⟩
theorem st32_0_0 {β : Type} (N : Nat)  (v0 : Int) (v1 : Int) (v2 : Int) (v3 : Int) (v4 : List Int) (rec_ : St → Option β) (K : Exit → St → Option β) :
    ev lay (E32 N) (retMask Try.f32) (lp Try.f32 0).body (lp Try.f32 0).ex ((lp Try.f32 0).lv (retMask Try.f32)) (h32_0_0  v0 v1 v2 v3 v4) (nextR (fun s' => rec_ (s'.tidy ((lp Try.f32 0).lv (retMask Try.f32)))) K) =
      spec_DetectedBy_l0b N  v0 v1 v2 v3 v4 (fun v0 v1 v2 v3 v4 => rec_ (h32_0_0  v0 v1 v2 v3 v4)) (fun y0 => K (.exit 0) (x32_0_0_k0  y0)) := by kernel_rfl
theorem ro32_0_0 {β : Type} (N : Nat)  (K : Exit → St → Option β) : ∀ (F : Nat) (v0 : Int) (v1 : Int) (v2 : Int) (v3 : Int) (v4 : List Int), (lp Try.f32 0).rounds lay (E32 N) (retMask Try.f32) F (h32_0_0  v0 v1 v2 v3 v4) K = spec_DetectedBy_l0 N  F v0 v1 v2 v3 v4 (fun y0 => K (.exit 0) (x32_0_0_k0  y0)) := by
  intro F
  induction F with
  | zero => intros; rfl
  | succ F ih =>
    intros
    rw [rounds_next]
    refine (st32_0_0 N  _ _ _ _ _ (fun s => (lp Try.f32 0).rounds lay (E32 N) (retMask Try.f32) F s K) K).trans ?_
    simp only [ih]
    rfl
theorem lk32_0 {β : Type} (N : Nat) : lookL (E32 (β := β) N).loops (lp Try.f32 0).id = LS32_0 N := by kernel_rfl
theorem rk32_0 {β : Type} (N : Nat) : RoundsOK lay (E32 (β := β) N) (retMask Try.f32) (lp Try.f32 0) := by
  intro s K r h
  rw [lk32_0] at h
  unfold LS32_0 at h
  split at h
  · exact ⟨N, (ro32_0_0 N  _ N _ _ _ _ _).trans h⟩
  · cases h
theorem st32_2_0 {β : Type} (N : Nat)  (v0 : Int) (v1 : Int) (v2 : Int) (v3 : Int) (v4 : Int) (v5 : List Int) (rec_ : St → Option β) (K : Exit → St → Option β) :
    ev lay (E32 N) (retMask Try.f32) (lp Try.f32 1).body (lp Try.f32 1).ex ((lp Try.f32 1).lv (retMask Try.f32)) (h32_2_0  v0 v1 v2 v3 v4 v5) (nextR (fun s' => rec_ (s'.tidy ((lp Try.f32 1).lv (retMask Try.f32)))) K) =
      spec_DetectedBy_l2b N  v0 v1 v2 v3 v4 v5 (fun v0 v1 v2 v3 v4 v5 => rec_ (h32_2_0  v0 v1 v2 v3 v4 v5)) (fun y0 y1 y2 y3 y4 => K (.exit 2) (x32_2_0_k0  y0 y1 y2 y3 y4)) := by kernel_rfl
theorem ro32_2_0 {β : Type} (N : Nat)  (K : Exit → St → Option β) : ∀ (F : Nat) (v0 : Int) (v1 : Int) (v2 : Int) (v3 : Int) (v4 : Int) (v5 : List Int), (lp Try.f32 1).rounds lay (E32 N) (retMask Try.f32) F (h32_2_0  v0 v1 v2 v3 v4 v5) K = spec_DetectedBy_l2 N  F v0 v1 v2 v3 v4 v5 (fun y0 y1 y2 y3 y4 => K (.exit 2) (x32_2_0_k0  y0 y1 y2 y3 y4)) := by
  intro F
  induction F with
  | zero => intros; rfl
  | succ F ih =>
    intros
    rw [rounds_next]
    refine (st32_2_0 N  _ _ _ _ _ _ (fun s => (lp Try.f32 1).rounds lay (E32 N) (retMask Try.f32) F s K) K).trans ?_
    simp only [ih]
    rfl
theorem lk32_2 {β : Type} (N : Nat) : lookL (E32 (β := β) N).loops (lp Try.f32 1).id = LS32_2 N := by kernel_rfl
theorem rk32_2 {β : Type} (N : Nat) : RoundsOK lay (E32 (β := β) N) (retMask Try.f32) (lp Try.f32 1) := by
  intro s K r h
  rw [lk32_2] at h
  unfold LS32_2 at h
  split at h
  · exact ⟨N, (ro32_2_0 N  _ N _ _ _ _ _ _).trans h⟩
  · cases h
theorem e32_0 {β : Type} (N : Nat)  (a0 : Int) (a1 : Int) (a2 : Int) (K : TV → Option β) : evFn lay (E32 N) Try.f32 [.v (.agg [.int .i64 a0, .int .i64 a1]), .v (.one (.int .i64 a2))] K = spec_DetectedBy N a0 a1 a2 (fun z8 => K (.v (.one (.sl 3 (.ints .i64 z8))))) := by kernel_rfl
theorem o32 {β : Type} (N : Nat) : SpecOK (β := β) Try.prog 32 (S32 N) := by
  refine spec_of lay_ok mixed (E := E32 N) (specs_loops (specs_cons (o66 N) (specs_cons (o59 N) specs_nil))) muts_nil Try.func32 (by kernel_rfl) 2 (by kernel_rfl) ⟨⟨trivial, rk32_0 N⟩, rk32_2 N⟩ fun args K r h => ?_
  unfold S32 at h
  split at h
  · exact (e32_0 N _ _ _ _).trans h
  · cases h
def S75 {β : Type} (N : Nat) : Rv.Spec β := fun args K => match args with
  | [.v (.one (.int .i64 a0)), .v (.one (.int .i64 a1))] => impl_isInput N a0 a1 (fun z2 => K (.v (.one (.bool z2))))
  | _ => none
def E75 {β : Type} (N : Nat) : Env β := ⟨[], [], []⟩
theorem e75_0 {β : Type} (N : Nat)  (a0 : Int) (a1 : Int) (K : TV → Option β) : evFn lay (E75 N) Try.f75 [.v (.one (.int .i64 a0)), .v (.one (.int .i64 a1))] K = impl_isInput N a0 a1 (fun z2 => K (.v (.one (.bool z2)))) := by kernel_rfl
theorem o75 {β : Type} (N : Nat) : SpecOK (β := β) Try.prog 75 (S75 N) := by
  refine spec_of lay_ok mixed (E := E75 N) (specs_loops specs_nil) muts_nil Try.func75 (by kernel_rfl) 0 (by kernel_rfl) trivial fun args K r h => ?_
  unfold S75 at h
  split at h
  · exact (e75_0 N _ _ _).trans h
  · cases h
def S67 {β : Type} (N : Nat) : Rv.Spec β := fun args K => match args with
  | [.v (.agg [.int .i64 a0, .int .i64 a1]), .v (.one (.int .i64 a2))] => impl_hasInput N a0 a1 a2 (fun z5 => K (.v (.one (.bool z5))))
  | _ => none
def E67 {β : Type} (N : Nat) : Env β := ⟨[(64, S64 N), (75, S75 N)], [], []⟩
theorem e67_0 {β : Type} (N : Nat)  (a0 : Int) (a1 : Int) (a2 : Int) (K : TV → Option β) : evFn lay (E67 N) Try.f67 [.v (.agg [.int .i64 a0, .int .i64 a1]), .v (.one (.int .i64 a2))] K = impl_hasInput N a0 a1 a2 (fun z5 => K (.v (.one (.bool z5)))) := by kernel_rfl
theorem o67 {β : Type} (N : Nat) : SpecOK (β := β) Try.prog 67 (S67 N) := by
  refine spec_of lay_ok mixed (E := E67 N) (specs_loops (specs_cons (o64 N) (specs_cons (o75 N) specs_nil))) muts_nil Try.func67 (by kernel_rfl) 0 (by kernel_rfl) trivial fun args K r h => ?_
  unfold S67 at h
  split at h
  · exact (e67_0 N _ _ _ _).trans h
  · cases h
def S33 {β : Type} (N : Nat) : Rv.Spec β := fun args K => match args with
  | [.v (.agg [.int .i64 a0, .int .i64 a1]), .v (.one (.int .i64 a2))] => impl_DetectedBy N a0 a1 a2 (fun z7 => K (.v (.one (.sl 3 (.ints .i64 z7)))))
  | _ => none
def h33_0_0  (v0 : Int) (v1 : Int) (v2 : Int) (v3 : Int) (v4 : Int) (v5 : List Int) : St := ⟨.v (.one .und) :: .v (.one (.int .i64 v0)) :: .v (.one (.ptr 0 0)) :: .v (.one .und) :: .v (.one .und) :: .v (.one (.row 1)) :: .v (.one .und) :: .v (.one .und) :: .v (.one .und) :: .v (.one .und) :: .v (.one .und) :: .v (.one .und) :: .v (.one .und) :: .v (.one (.int .i64 v1)) :: .v (.one (.int .i64 v2)) :: .v (.one .und) :: .v (.one .und) :: .v (.one .und) :: .v (.one .und) :: .v (.one .und) :: .v (.one .und) :: .v (.one .und) :: .v (.one .und) :: .v (.one .und) :: .v (.one .und) :: .v (.one .und) :: .v (.one .und) :: .v (.one .und) :: .v (.one .und) :: .v (.one .und) :: .v (.one .und) :: .v (.one .und) :: .v (.one .und) :: .v (.one .und) :: .v (.one .und) :: .v (.one .und) :: .v (.one .und) :: .v (.one .und) :: [], [.cells 31 [.int .i64 v3, .int .i64 v4], .row 3 (.ints .i64 v5)]⟩
def x33_0_0_k0  (y0 : List Int) : St := ⟨.v (.one .und) :: .v (.one .und) :: .v (.one .und) :: .v (.one .und) :: .v (.one .und) :: .v (.one (.row 0)) :: .v (.one .und) :: .v (.one .und) :: .v (.one .und) :: .v (.one .und) :: .v (.one .und) :: .v (.one .und) :: .v (.one .und) :: .v (.one .und) :: .v (.one .und) :: .v (.one .und) :: .v (.one .und) :: .v (.one .und) :: .v (.one .und) :: .v (.one .und) :: .v (.one .und) :: .v (.one .und) :: .v (.one .und) :: .v (.one .und) :: .v (.one .und) :: .v (.one .und) :: .v (.one .und) :: .v (.one .und) :: .v (.one .und) :: .v (.one .und) :: .v (.one .und) :: .v (.one .und) :: .v (.one .und) :: .v (.one .und) :: .v (.one .und) :: .v (.one .und) :: .v (.one .und) :: .v (.one .und) :: [], [.row 3 (.ints .i64 y0)]⟩
def LS33_0 {β : Type} (N : Nat) : LSpec β := fun s K => match s with
  | ⟨.v (.one .und) :: .v (.one (.int .i64 v0)) :: .v (.one (.ptr 0 0)) :: .v (.one .und) :: .v (.one .und) :: .v (.one (.row 1)) :: .v (.one .und) :: .v (.one .und) :: .v (.one .und) :: .v (.one .und) :: .v (.one .und) :: .v (.one .und) :: .v (.one .und) :: .v (.one (.int .i64 v1)) :: .v (.one (.int .i64 v2)) :: .v (.one .und) :: .v (.one .und) :: .v (.one .und) :: .v (.one .und) :: .v (.one .und) :: .v (.one .und) :: .v (.one .und) :: .v (.one .und) :: .v (.one .und) :: .v (.one .und) :: .v (.one .und) :: .v (.one .und) :: .v (.one .und) :: .v (.one .und) :: .v (.one .und) :: .v (.one .und) :: .v (.one .und) :: .v (.one .und) :: .v (.one .und) :: .v (.one .und) :: .v (.one .und) :: .v (.one .und) :: .v (.one .und) :: [], [.cells 31 [.int .i64 v3, .int .i64 v4], .row 3 (.ints .i64 v5)]⟩ => impl_DetectedBy_l0 N  N v0 v1 v2 v3 v4 v5 (fun y0 => K (.exit 0) (x33_0_0_k0  y0))
  | _ => none
def h33_2_0  (v0 : Int) (v1 : Int) (v2 : Int) (v3 : Int) (v4 : Int) (v5 : Int) (v6 : Int) (v7 : List Int) : St := ⟨.v (.one .und) :: .v (.one (.int .i64 v0)) :: .v (.one (.ptr 0 0)) :: .v (.one .und) :: .v (.one .und) :: .v (.one (.row 1)) :: .v (.one (.int .i64 v1)) :: .v (.one .und) :: .v (.one .und) :: .v (.one .und) :: .v (.one .und) :: .v (.one .und) :: .v (.one .und) :: .v (.one (.int .i64 v2)) :: .v (.one (.int .i64 v3)) :: .v (.one .und) :: .v (.one .und) :: .v (.one (.int .i64 v4)) :: .v (.one .und) :: .v (.one .und) :: .v (.one .und) :: .v (.one .und) :: .v (.one .und) :: .v (.one .und) :: .v (.one .und) :: .v (.one .und) :: .v (.one .und) :: .v (.one .und) :: .v (.one .und) :: .v (.one .und) :: .v (.one .und) :: .v (.one .und) :: .v (.one .und) :: .v (.one .und) :: .v (.one .und) :: .v (.one .und) :: .v (.one .und) :: .v (.one .und) :: [], [.cells 31 [.int .i64 v5, .int .i64 v6], .row 3 (.ints .i64 v7)]⟩
def x33_2_0_k0  (y0 : Int) (y1 : Int) (y2 : Int) (y3 : Int) (y4 : Int) (y5 : List Int) : St := ⟨.v (.one .und) :: .v (.one (.int .i64 y0)) :: .v (.one (.ptr 0 0)) :: .v (.one .und) :: .v (.one .und) :: .v (.one (.row 1)) :: .v (.one .und) :: .v (.one .und) :: .v (.one .und) :: .v (.one .und) :: .v (.one .und) :: .v (.one .und) :: .v (.one .und) :: .v (.one (.int .i64 y1)) :: .v (.one (.int .i64 y2)) :: .v (.one .und) :: .v (.one .und) :: .v (.one .und) :: .v (.one .und) :: .v (.one .und) :: .v (.one .und) :: .v (.one .und) :: .v (.one .und) :: .v (.one .und) :: .v (.one .und) :: .v (.one .und) :: .v (.one .und) :: .v (.one .und) :: .v (.one .und) :: .v (.one .und) :: .v (.one .und) :: .v (.one .und) :: .v (.one .und) :: .v (.one .und) :: .v (.one .und) :: .v (.one .und) :: .v (.one .und) :: .v (.one .und) :: [], [.cells 31 [.int .i64 y3, .int .i64 y4], .row 3 (.ints .i64 y5)]⟩
def LS33_2 {β : Type} (N : Nat) : LSpec β := fun s K => match s with
  | ⟨.v (.one .und) :: .v (.one (.int .i64 v0)) :: .v (.one (.ptr 0 0)) :: .v (.one .und) :: .v (.one .und) :: .v (.one (.row 1)) :: .v (.one (.int .i64 v1)) :: .v (.one .und) :: .v (.one .und) :: .v (.one .und) :: .v (.one .und) :: .v (.one .und) :: .v (.one .und) :: .v (.one (.int .i64 v2)) :: .v (.one (.int .i64 v3)) :: .v (.one .und) :: .v (.one .und) :: .v (.one (.int .i64 v4)) :: .v (.one .und) :: .v (.one .und) :: .v (.one .und) :: .v (.one .und) :: .v (.one .und) :: .v (.one .und) :: .v (.one .und) :: .v (.one .und) :: .v (.one .und) :: .v (.one .und) :: .v (.one .und) :: .v (.one .und) :: .v (.one .und) :: .v (.one .und) :: .v (.one .und) :: .v (.one .und) :: .v (.one .und) :: .v (.one .und) :: .v (.one .und) :: .v (.one .und) :: [], [.cells 31 [.int .i64 v5, .int .i64 v6], .row 3 (.ints .i64 v7)]⟩ => impl_DetectedBy_l2 N  N v0 v1 v2 v3 v4 v5 v6 v7 (fun y0 y1 y2 y3 y4 y5 => K (.exit 2) (x33_2_0_k0  y0 y1 y2 y3 y4 y5))
  | _ => none
def E33 {β : Type} (N : Nat) : Env β := ⟨[(67, S67 N), (65, S65 N)], [], [(0, LS33_0 N), (2, LS33_2 N)]⟩
theorem st33_0_0 {β : Type} (N : Nat)  (v0 : Int) (v1 : Int) (v2 : Int) (v3 : Int) (v4 : Int) (v5 : List Int) (rec_ : St → Option β) (K : Exit → St → Option β) :
    ev lay (E33 N) (retMask Try.f33) (lp Try.f33 0).body (lp Try.f33 0).ex ((lp Try.f33 0).lv (retMask Try.f33)) (h33_0_0  v0 v1 v2 v3 v4 v5) (nextR (fun s' => rec_ (s'.tidy ((lp Try.f33 0).lv (retMask Try.f33)))) K) =
      impl_DetectedBy_l0b N  v0 v1 v2 v3 v4 v5 (fun v0 v1 v2 v3 v4 v5 => rec_ (h33_0_0  v0 v1 v2 v3 v4 v5)) (fun y0 => K (.exit 0) (x33_0_0_k0  y0)) := by kernel_rfl
theorem ro33_0_0 {β : Type} (N : Nat)  (K : Exit → St → Option β) : ∀ (F : Nat) (v0 : Int) (v1 : Int) (v2 : Int) (v3 : Int) (v4 : Int) (v5 : List Int), (lp Try.f33 0).rounds lay (E33 N) (retMask Try.f33) F (h33_0_0  v0 v1 v2 v3 v4 v5) K = impl_DetectedBy_l0 N  F v0 v1 v2 v3 v4 v5 (fun y0 => K (.exit 0) (x33_0_0_k0  y0)) := by
  intro F
  induction F with
  | zero => intros; rfl
  | succ F ih =>
    intros
    rw [rounds_next]
    refine (st33_0_0 N  _ _ _ _ _ _ (fun s => (lp Try.f33 0).rounds lay (E33 N) (retMask Try.f33) F s K) K).trans ?_
    simp only [ih]
    rfl
theorem lk33_0 {β : Type} (N : Nat) : lookL (E33 (β := β) N).loops (lp Try.f33 0).id = LS33_0 N := by kernel_rfl
theorem rk33_0 {β : Type} (N : Nat) : RoundsOK lay (E33 (β := β) N) (retMask Try.f33) (lp Try.f33 0) := by
  intro s K r h
  rw [lk33_0] at h
  unfold LS33_0 at h
  split at h
  · exact ⟨N, (ro33_0_0 N  _ N _ _ _ _ _ _).trans h⟩
  · cases h
theorem st33_2_0 {β : Type} (N : Nat)  (v0 : Int) (v1 : Int) (v2 : Int) (v3 : Int) (v4 : Int) (v5 : Int) (v6 : Int) (v7 : List Int) (rec_ : St → Option β) (K : Exit → St → Option β) :
    ev lay (E33 N) (retMask Try.f33) (lp Try.f33 1).body (lp Try.f33 1).ex ((lp Try.f33 1).lv (retMask Try.f33)) (h33_2_0  v0 v1 v2 v3 v4 v5 v6 v7) (nextR (fun s' => rec_ (s'.tidy ((lp Try.f33 1).lv (retMask Try.f33)))) K) =
      impl_DetectedBy_l2b N  v0 v1 v2 v3 v4 v5 v6 v7 (fun v0 v1 v2 v3 v4 v5 v6 v7 => rec_ (h33_2_0  v0 v1 v2 v3 v4 v5 v6 v7)) (fun y0 y1 y2 y3 y4 y5 => K (.exit 2) (x33_2_0_k0  y0 y1 y2 y3 y4 y5)) := by kernel_rfl
theorem ro33_2_0 {β : Type} (N : Nat)  (K : Exit → St → Option β) : ∀ (F : Nat) (v0 : Int) (v1 : Int) (v2 : Int) (v3 : Int) (v4 : Int) (v5 : Int) (v6 : Int) (v7 : List Int), (lp Try.f33 1).rounds lay (E33 N) (retMask Try.f33) F (h33_2_0  v0 v1 v2 v3 v4 v5 v6 v7) K = impl_DetectedBy_l2 N  F v0 v1 v2 v3 v4 v5 v6 v7 (fun y0 y1 y2 y3 y4 y5 => K (.exit 2) (x33_2_0_k0  y0 y1 y2 y3 y4 y5)) := by
  intro F
  induction F with
  | zero => intros; rfl
  | succ F ih =>
    intros
    rw [rounds_next]
    refine (st33_2_0 N  _ _ _ _ _ _ _ _ (fun s => (lp Try.f33 1).rounds lay (E33 N) (retMask Try.f33) F s K) K).trans ?_
    simp only [ih]
    rfl
theorem lk33_2 {β : Type} (N : Nat) : lookL (E33 (β := β) N).loops (lp Try.f33 1).id = LS33_2 N := by kernel_rfl
theorem rk33_2 {β : Type} (N : Nat) : RoundsOK lay (E33 (β := β) N) (retMask Try.f33) (lp Try.f33 1) := by
  intro s K r h
  rw [lk33_2] at h
  unfold LS33_2 at h
  split at h
  · exact ⟨N, (ro33_2_0 N  _ N _ _ _ _ _ _ _ _).trans h⟩
  · cases h
theorem e33_0 {β : Type} (N : Nat)  (a0 : Int) (a1 : Int) (a2 : Int) (K : TV → Option β) : evFn lay (E33 N) Try.f33 [.v (.agg [.int .i64 a0, .int .i64 a1]), .v (.one (.int .i64 a2))] K = impl_DetectedBy N a0 a1 a2 (fun z7 => K (.v (.one (.sl 3 (.ints .i64 z7))))) := by kernel_rfl
theorem o33 {β : Type} (N : Nat) : SpecOK (β := β) Try.prog 33 (S33 N) := by
  refine spec_of lay_ok mixed (E := E33 N) (specs_loops (specs_cons (o67 N) (specs_cons (o65 N) specs_nil))) muts_nil Try.func33 (by kernel_rfl) 2 (by kernel_rfl) ⟨⟨trivial, rk33_0 N⟩, rk33_2 N⟩ fun args K r h => ?_
  unfold S33 at h
  split at h
  · exact (e33_0 N _ _ _ _).trans h
  · cases h
def S34 {β : Type} (N : Nat) : Rv.Spec β := fun args K => match args with
  | [.v (.one (.sl 3 (.ints .i64 a0))), .v (.one (.sl 3 (.ints .i64 a1)))] => laws_eqIntS N a0 a1 (fun z4 => K (.v (.one (.bool z4))))
  | _ => none
def h34_0_0  (v0 : List Int) (v1 : List Int) (v2 : Int) : St := ⟨.v (.one (.sl 3 (.ints .i64 v0))) :: .v (.one (.sl 3 (.ints .i64 v1))) :: .v (.one .und) :: .v (.one .und) :: .v (.one .und) :: .v (.one (.int .i64 v2)) :: .v (.one .und) :: .v (.one .und) :: .v (.one .und) :: .v (.one .und) :: .v (.one .und) :: .v (.one .und) :: .v (.one .und) :: .v (.one .und) :: .v (.one .und) :: .v (.one .und) :: .v (.one .und) :: .v (.one .und) :: .v (.one .und) :: .v (.one .und) :: .v (.one .und) :: .v (.one .und) :: .v (.one .und) :: .v (.one .und) :: .v (.one .und) :: .v (.one .und) :: [], []⟩
def x34_0_0_k0  (y0 : Bool) : St := ⟨.v (.one .und) :: .v (.one .und) :: .v (.one .und) :: .v (.one .und) :: .v (.one (.bool y0)) :: .v (.one .und) :: .v (.one .und) :: .v (.one .und) :: .v (.one .und) :: .v (.one .und) :: .v (.one .und) :: .v (.one .und) :: .v (.one .und) :: .v (.one .und) :: .v (.one .und) :: .v (.one .und) :: .v (.one .und) :: .v (.one .und) :: .v (.one .und) :: .v (.one .und) :: .v (.one .und) :: .v (.one .und) :: .v (.one .und) :: .v (.one .und) :: .v (.one .und) :: .v (.one .und) :: [], []⟩
def x34_0_0_k1   : St := ⟨.v (.one .und) :: .v (.one .und) :: .v (.one .und) :: .v (.one .und) :: .v (.one .und) :: .v (.one .und) :: .v (.one .und) :: .v (.one .und) :: .v (.one .und) :: .v (.one .und) :: .v (.one .und) :: .v (.one .und) :: .v (.one .und) :: .v (.one .und) :: .v (.one .und) :: .v (.one .und) :: .v (.one .und) :: .v (.one .und) :: .v (.one .und) :: .v (.one .und) :: .v (.one .und) :: .v (.one .und) :: .v (.one .und) :: .v (.one .und) :: .v (.one .und) :: .v (.one .und) :: [], []⟩
def LS34_0 {β : Type} (N : Nat) : LSpec β := fun s K => match s with
  | ⟨.v (.one (.sl 3 (.ints .i64 v0))) :: .v (.one (.sl 3 (.ints .i64 v1))) :: .v (.one .und) :: .v (.one .und) :: .v (.one .und) :: .v (.one (.int .i64 v2)) :: .v (.one .und) :: .v (.one .und) :: .v (.one .und) :: .v (.one .und) :: .v (.one .und) :: .v (.one .und) :: .v (.one .und) :: .v (.one .und) :: .v (.one .und) :: .v (.one .und) :: .v (.one .und) :: .v (.one .und) :: .v (.one .und) :: .v (.one .und) :: .v (.one .und) :: .v (.one .und) :: .v (.one .und) :: .v (.one .und) :: .v (.one .und) :: .v (.one .und) :: [], []⟩ => laws_eqIntS_l0 N  N v0 v1 v2 (fun y0 => K .ret (x34_0_0_k0  y0)) (K (.exit 0) (x34_0_0_k1  ))
  | _ => none
def E34 {β : Type} (N : Nat) : Env β := ⟨[], [], [(0, LS34_0 N)]⟩
theorem st34_0_0 {β : Type} (N : Nat)  (v0 : List Int) (v1 : List Int) (v2 : Int) (rec_ : St → Option β) (K : Exit → St → Option β) :
    ev lay (E34 N) (retMask Try.f34) (lp Try.f34 0).body (lp Try.f34 0).ex ((lp Try.f34 0).lv (retMask Try.f34)) (h34_0_0  v0 v1 v2) (nextR (fun s' => rec_ (s'.tidy ((lp Try.f34 0).lv (retMask Try.f34)))) K) =
      laws_eqIntS_l0b N  v0 v1 v2 (fun v0 v1 v2 => rec_ (h34_0_0  v0 v1 v2)) (fun y0 => K .ret (x34_0_0_k0  y0)) (K (.exit 0) (x34_0_0_k1  )) := by kernel_rfl
theorem ro34_0_0 {β : Type} (N : Nat)  (K : Exit → St → Option β) : ∀ (F : Nat) (v0 : List Int) (v1 : List Int) (v2 : Int), (lp Try.f34 0).rounds lay (E34 N) (retMask Try.f34) F (h34_0_0  v0 v1 v2) K = laws_eqIntS_l0 N  F v0 v1 v2 (fun y0 => K .ret (x34_0_0_k0  y0)) (K (.exit 0) (x34_0_0_k1  )) := by
  intro F
  induction F with
  | zero => intros; rfl
  | succ F ih =>
    intros
    rw [rounds_next]
    refine (st34_0_0 N  _ _ _ (fun s => (lp Try.f34 0).rounds lay (E34 N) (retMask Try.f34) F s K) K).trans ?_
    simp only [ih]
    rfl
theorem lk34_0 {β : Type} (N : Nat) : lookL (E34 (β := β) N).loops (lp Try.f34 0).id = LS34_0 N := by kernel_rfl
theorem rk34_0 {β : Type} (N : Nat) : RoundsOK lay (E34 (β := β) N) (retMask Try.f34) (lp Try.f34 0) := by
  intro s K r h
  rw [lk34_0] at h
  unfold LS34_0 at h
  split at h
  · exact ⟨N, (ro34_0_0 N  _ N _ _ _).trans h⟩
  · cases h
theorem e34_0 {β : Type} (N : Nat)  (a0 : List Int) (a1 : List Int) (K : TV → Option β) : evFn lay (E34 N) Try.f34 [.v (.one (.sl 3 (.ints .i64 a0))), .v (.one (.sl 3 (.ints .i64 a1)))] K = laws_eqIntS N a0 a1 (fun z4 => K (.v (.one (.bool z4)))) := by kernel_rfl
theorem o34 {β : Type} (N : Nat) : SpecOK (β := β) Try.prog 34 (S34 N) := by
  refine spec_of lay_ok mixed (E := E34 N) (specs_loops specs_nil) muts_nil Try.func34 (by kernel_rfl) 1 (by kernel_rfl) ⟨trivial, rk34_0 N⟩ fun args K r h => ?_
  unfold S34 at h
  split at h
  · exact (e34_0 N _ _ _).trans h
  · cases h
def S36 {β : Type} (N : Nat) : Rv.Spec β := fun args K => match args with
  | [.v (.one (.sl 3 (.ints .i64 a0))), .v (.one (.int .i64 a1))] => laws_heldIntS N a0 a1 (fun z4 => K (.v (.one (.int .i64 z4))))
  | _ => none
def h36_0_0  (v0 : List Int) (v1 : Int) (v2 : Int) : St := ⟨.v (.one (.sl 3 (.ints .i64 v0))) :: .v (.one (.int .i64 v1)) :: .v (.one .und) :: .v (.one .und) :: .v (.one .und) :: .v (.one (.int .i64 v2)) :: .v (.one .und) :: .v (.one .und) :: .v (.one .und) :: .v (.one .und) :: .v (.one .und) :: .v (.one .und) :: .v (.one .und) :: .v (.one .und) :: .v (.one .und) :: .v (.one .und) :: .v (.one .und) :: .v (.one .und) :: .v (.one .und) :: .v (.one .und) :: .v (.one .und) :: [], []⟩
def x36_0_0_k0  (y0 : Int) : St := ⟨.v (.one .und) :: .v (.one .und) :: .v (.one .und) :: .v (.one .und) :: .v (.one (.int .i64 y0)) :: .v (.one .und) :: .v (.one .und) :: .v (.one .und) :: .v (.one .und) :: .v (.one .und) :: .v (.one .und) :: .v (.one .und) :: .v (.one .und) :: .v (.one .und) :: .v (.one .und) :: .v (.one .und) :: .v (.one .und) :: .v (.one .und) :: .v (.one .und) :: .v (.one .und) :: .v (.one .und) :: [], []⟩
def x36_0_0_k1  (y0 : Int) : St := ⟨.v (.one .und) :: .v (.one (.int .i64 y0)) :: .v (.one .und) :: .v (.one .und) :: .v (.one .und) :: .v (.one .und) :: .v (.one .und) :: .v (.one .und) :: .v (.one .und) :: .v (.one .und) :: .v (.one .und) :: .v (.one .und) :: .v (.one .und) :: .v (.one .und) :: .v (.one .und) :: .v (.one .und) :: .v (.one .und) :: .v (.one .und) :: .v (.one .und) :: .v (.one .und) :: .v (.one .und) :: [], []⟩
def LS36_0 {β : Type} (N : Nat) : LSpec β := fun s K => match s with
  | ⟨.v (.one (.sl 3 (.ints .i64 v0))) :: .v (.one (.int .i64 v1)) :: .v (.one .und) :: .v (.one .und) :: .v (.one .und) :: .v (.one (.int .i64 v2)) :: .v (.one .und) :: .v (.one .und) :: .v (.one .und) :: .v (.one .und) :: .v (.one .und) :: .v (.one .und) :: .v (.one .und) :: .v (.one .und) :: .v (.one .und) :: .v (.one .und) :: .v (.one .und) :: .v (.one .und) :: .v (.one .und) :: .v (.one .und) :: .v (.one .und) :: [], []⟩ => laws_heldIntS_l0 N  N v0 v1 v2 (fun y0 => K .ret (x36_0_0_k0  y0)) (fun y0 => K (.exit 0) (x36_0_0_k1  y0))
  | _ => none
def E36 {β : Type} (N : Nat) : Env β := ⟨[], [], [(0, LS36_0 N)]⟩
theorem st36_0_0 {β : Type} (N : Nat)  (v0 : List Int) (v1 : Int) (v2 : Int) (rec_ : St → Option β) (K : Exit → St → Option β) :
    ev lay (E36 N) (retMask Try.f36) (lp Try.f36 0).body (lp Try.f36 0).ex ((lp Try.f36 0).lv (retMask Try.f36)) (h36_0_0  v0 v1 v2) (nextR (fun s' => rec_ (s'.tidy ((lp Try.f36 0).lv (retMask Try.f36)))) K) =
      laws_heldIntS_l0b N  v0 v1 v2 (fun v0 v1 v2 => rec_ (h36_0_0  v0 v1 v2)) (fun y0 => K .ret (x36_0_0_k0  y0)) (fun y0 => K (.exit 0) (x36_0_0_k1  y0)) := by kernel_rfl
theorem ro36_0_0 {β : Type} (N : Nat)  (K : Exit → St → Option β) : ∀ (F : Nat) (v0 : List Int) (v1 : Int) (v2 : Int), (lp Try.f36 0).rounds lay (E36 N) (retMask Try.f36) F (h36_0_0  v0 v1 v2) K = laws_heldIntS_l0 N  F v0 v1 v2 (fun y0 => K .ret (x36_0_0_k0  y0)) (fun y0 => K (.exit 0) (x36_0_0_k1  y0)) := by
  intro F
  induction F with
  | zero => intros; rfl
  | succ F ih =>
    intros
    rw [rounds_next]
    refine (st36_0_0 N  _ _ _ (fun s => (lp Try.f36 0).rounds lay (E36 N) (retMask Try.f36) F s K) K).trans ?_
    simp only [ih]
    rfl
theorem lk36_0 {β : Type} (N : Nat) : lookL (E36 (β := β) N).loops (lp Try.f36 0).id = LS36_0 N := by kernel_rfl
theorem rk36_0 {β : Type} (N : Nat) : RoundsOK lay (E36 (β := β) N) (retMask Try.f36) (lp Try.f36 0) := by
  intro s K r h
  rw [lk36_0] at h
  unfold LS36_0 at h
  split at h
  · exact ⟨N, (ro36_0_0 N  _ N _ _ _).trans h⟩
  · cases h
theorem e36_0 {β : Type} (N : Nat)  (a0 : List Int) (a1 : Int) (K : TV → Option β) : evFn lay (E36 N) Try.f36 [.v (.one (.sl 3 (.ints .i64 a0))), .v (.one (.int .i64 a1))] K = laws_heldIntS N a0 a1 (fun z4 => K (.v (.one (.int .i64 z4)))) := by kernel_rfl
theorem o36 {β : Type} (N : Nat) : SpecOK (β := β) Try.prog 36 (S36 N) := by
  refine spec_of lay_ok mixed (E := E36 N) (specs_loops specs_nil) muts_nil Try.func36 (by kernel_rfl) 1 (by kernel_rfl) ⟨trivial, rk36_0 N⟩ fun args K r h => ?_
  unfold S36 at h
  split at h
  · exact (e36_0 N _ _ _).trans h
  · cases h
def S35 {β : Type} (N : Nat) : MSpec β := fun args bl K => match args, bl with
  | [.v (.one (.row 0)), .v (.one (.int .i64 a1))], [.prow 0 3 (.ints .i64 a0)] => laws_markIntS N a0 a1 (fun z3 m0 => K (.v (.one (.int .i64 z3))) [(.ints .i64 m0)])
  | _, _ => none
def h35_0_0  (v0 : Int) (v1 : Int) (v2 : List Int) : St := ⟨.v (.one (.row 0)) :: .v (.one (.int .i64 v0)) :: .v (.one .und) :: .v (.one .und) :: .v (.one .und) :: .v (.one (.int .i64 v1)) :: .v (.one .und) :: .v (.one .und) :: .v (.one .und) :: .v (.one .und) :: .v (.one .und) :: .v (.one .und) :: .v (.one .und) :: .v (.one .und) :: .v (.one .und) :: .v (.one .und) :: .v (.one .und) :: .v (.one .und) :: .v (.one .und) :: [], [.prow 0 3 (.ints .i64 v2)]⟩
def x35_0_0_k0  (y0 : Int) (y1 : List Int) : St := ⟨.v (.one (.row 0)) :: .v (.one (.int .i64 y0)) :: .v (.one .und) :: .v (.one .und) :: .v (.one .und) :: .v (.one .und) :: .v (.one .und) :: .v (.one .und) :: .v (.one .und) :: .v (.one .und) :: .v (.one .und) :: .v (.one .und) :: .v (.one .und) :: .v (.one .und) :: .v (.one .und) :: .v (.one .und) :: .v (.one .und) :: .v (.one .und) :: .v (.one .und) :: [], [.prow 0 3 (.ints .i64 y1)]⟩
def LS35_0 {β : Type} (N : Nat) : LSpec β := fun s K => match s with
  | ⟨.v (.one (.row 0)) :: .v (.one (.int .i64 v0)) :: .v (.one .und) :: .v (.one .und) :: .v (.one .und) :: .v (.one (.int .i64 v1)) :: .v (.one .und) :: .v (.one .und) :: .v (.one .und) :: .v (.one .und) :: .v (.one .und) :: .v (.one .und) :: .v (.one .und) :: .v (.one .und) :: .v (.one .und) :: .v (.one .und) :: .v (.one .und) :: .v (.one .und) :: .v (.one .und) :: [], [.prow 0 3 (.ints .i64 v2)]⟩ => laws_markIntS_l0 N  N v0 v1 v2 (fun y0 y1 => K (.exit 0) (x35_0_0_k0  y0 y1))
  | _ => none
def E35 {β : Type} (N : Nat) : Env β := ⟨[], [], [(0, LS35_0 N)]⟩
theorem st35_0_0 {β : Type} (N : Nat)  (v0 : Int) (v1 : Int) (v2 : List Int) (rec_ : St → Option β) (K : Exit → St → Option β) :
    ev lay (E35 N) (retMaskM Try.f35) (lpM Try.f35 0).body (lpM Try.f35 0).ex ((lpM Try.f35 0).lv (retMaskM Try.f35)) (h35_0_0  v0 v1 v2) (nextR (fun s' => rec_ (s'.tidy ((lpM Try.f35 0).lv (retMaskM Try.f35)))) K) =
      laws_markIntS_l0b N  v0 v1 v2 (fun v0 v1 v2 => rec_ (h35_0_0  v0 v1 v2)) (fun y0 y1 => K (.exit 0) (x35_0_0_k0  y0 y1)) := by kernel_rfl
theorem ro35_0_0 {β : Type} (N : Nat)  (K : Exit → St → Option β) : ∀ (F : Nat) (v0 : Int) (v1 : Int) (v2 : List Int), (lpM Try.f35 0).rounds lay (E35 N) (retMaskM Try.f35) F (h35_0_0  v0 v1 v2) K = laws_markIntS_l0 N  F v0 v1 v2 (fun y0 y1 => K (.exit 0) (x35_0_0_k0  y0 y1)) := by
  intro F
  induction F with
  | zero => intros; rfl
  | succ F ih =>
    intros
    rw [rounds_next]
    refine (st35_0_0 N  _ _ _ (fun s => (lpM Try.f35 0).rounds lay (E35 N) (retMaskM Try.f35) F s K) K).trans ?_
    simp only [ih]
    rfl
theorem lk35_0 {β : Type} (N : Nat) : lookL (E35 (β := β) N).loops (lpM Try.f35 0).id = LS35_0 N := by kernel_rfl
theorem rk35_0 {β : Type} (N : Nat) : RoundsOK lay (E35 (β := β) N) (retMaskM Try.f35) (lpM Try.f35 0) := by
  intro s K r h
  rw [lk35_0] at h
  unfold LS35_0 at h
  split at h
  · exact ⟨N, (ro35_0_0 N  _ N _ _ _).trans h⟩
  · cases h
theorem e35_0 {β : Type} (N : Nat)  (a0 : List Int) (a1 : Int) (K : TV → List Row → Option β) : evFnM lay (E35 N) Try.f35 [.v (.one (.row 0)), .v (.one (.int .i64 a1))] [.prow 0 3 (.ints .i64 a0)] K = laws_markIntS N a0 a1 (fun z3 m0 => K (.v (.one (.int .i64 z3))) [(.ints .i64 m0)]) := by kernel_rfl
theorem o35 {β : Type} (N : Nat) : MutOK (β := β) Try.prog 35 (S35 N) := by
  refine mut_of lay_ok mixed (E := E35 N) (specs_loops specs_nil) muts_nil Try.func35 (by kernel_rfl) 1 (by kernel_rfl) ⟨trivial, rk35_0 N⟩ fun args bl K r h => ?_
  unfold S35 at h
  split at h
  · exact (e35_0 N _ _ _).trans h
  · cases h
def S9 {β : Type} (N : Nat) : Rv.Spec β := fun args K => match args with
  | [.v (.agg [.int .i64 a0, .int .i64 a1]), .v (.one (.int .i64 a2))] => laws_FnExactDetectedBy N a0 a1 a2 (fun z18 => K (.v (.one (.bool z18))))
  | _ => none
def E9 {β : Type} (N : Nat) : Env β := ⟨[(27, S27 N), (32, S32 N), (33, S33 N), (34, S34 N), (36, S36 N)], [(35, S35 N)], []⟩
theorem e9_0 {β : Type} (N : Nat)  (a0 : Int) (a1 : Int) (a2 : Int) (K : TV → Option β) : evFn lay (E9 N) Try.f9 [.v (.agg [.int .i64 a0, .int .i64 a1]), .v (.one (.int .i64 a2))] K = laws_FnExactDetectedBy N a0 a1 a2 (fun z18 => K (.v (.one (.bool z18)))) := by kernel_rfl
theorem o9 {β : Type} (N : Nat) : SpecOK (β := β) Try.prog 9 (S9 N) := by
  refine spec_of lay_ok mixed (E := E9 N) (specs_loops (specs_cons (o27 N) (specs_cons (o32 N) (specs_cons (o33 N) (specs_cons (o34 N) (specs_cons (o36 N) specs_nil)))))) (muts_cons (o35 N) muts_nil) Try.func9 (by kernel_rfl) 0 (by kernel_rfl) trivial fun args K r h => ?_
  unfold S9 at h
  split at h
  · exact (e9_0 N _ _ _ _).trans h
  · cases h
def S68 {β : Type} (N : Nat) : Rv.Spec β := fun args K => match args with
  | [.v (.one (.sl 3 (.ints .i64 a0))), .v (.one (.int .i64 a1))] => laws_szIntS N a0 a1 (fun z2 => K (.v (.one (.int .i64 z2))))
  | _ => none
def E68 {β : Type} (N : Nat) : Env β := ⟨[], [], []⟩
theorem e68_0 {β : Type} (N : Nat)  (a0 : List Int) (a1 : Int) (K : TV → Option β) : evFn lay (E68 N) Try.f68 [.v (.one (.sl 3 (.ints .i64 a0))), .v (.one (.int .i64 a1))] K = laws_szIntS N a0 a1 (fun z2 => K (.v (.one (.int .i64 z2)))) := by kernel_rfl
theorem o68 {β : Type} (N : Nat) : SpecOK (β := β) Try.prog 68 (S68 N) := by
  refine spec_of lay_ok mixed (E := E68 N) (specs_loops specs_nil) muts_nil Try.func68 (by kernel_rfl) 0 (by kernel_rfl) trivial fun args K r h => ?_
  unfold S68 at h
  split at h
  · exact (e68_0 N _ _ _).trans h
  · cases h
def S37 {β : Type} (N : Nat) : Rv.Spec β := fun args K => match args with
  | [.v (.agg [.int .i64 a0, .int .i64 a1, .int .i64 a2, .sl 3 (.ints .i64 a3)]), .v (.one (.int .i64 a4))] => laws_szKept N a0 a1 a2 a3 a4 (fun z6 => K (.v (.one (.int .i64 z6))))
  | _ => none
def E37 {β : Type} (N : Nat) : Env β := ⟨[(68, S68 N)], [], []⟩
theorem e37_0 {β : Type} (N : Nat)  (a0 : Int) (a1 : Int) (a2 : Int) (a3 : List Int) (a4 : Int) (K : TV → Option β) : evFn lay (E37 N) Try.f37 [.v (.agg [.int .i64 a0, .int .i64 a1, .int .i64 a2, .sl 3 (.ints .i64 a3)]), .v (.one (.int .i64 a4))] K = laws_szKept N a0 a1 a2 a3 a4 (fun z6 => K (.v (.one (.int .i64 z6)))) := by kernel_rfl
theorem o37 {β : Type} (N : Nat) : SpecOK (β := β) Try.prog 37 (S37 N) := by
  refine spec_of lay_ok mixed (E := E37 N) (specs_loops (specs_cons (o68 N) specs_nil)) muts_nil Try.func37 (by kernel_rfl) 0 (by kernel_rfl) trivial fun args K r h => ?_
  unfold S37 at h
  split at h
  · exact (e37_0 N _ _ _ _ _ _).trans h
  · cases h
def S45 {β : Type} (N : Nat) : Rv.Spec β := fun args K => match args with
  | [.v (.one (.sl 3 (.ints .i64 a0)))] => laws_toIntS N a0 (fun z2 => K (.v (.one (.sl 3 (.ints .i64 z2)))))
  | _ => none
def h45_0_0  (v0 : List Int) (v1 : Int) (v2 : List Int) : St := ⟨.v (.one (.sl 3 (.ints .i64 v0))) :: .v (.one .und) :: .v (.one .und) :: .v (.one (.row 0)) :: .v (.one (.int .i64 v1)) :: .v (.one .und) :: .v (.one .und) :: .v (.one .und) :: .v (.one .und) :: .v (.one .und) :: .v (.one .und) :: .v (.one .und) :: .v (.one .und) :: .v (.one .und) :: .v (.one .und) :: .v (.one .und) :: .v (.one .und) :: .v (.one .und) :: .v (.one .und) :: .v (.one .und) :: .v (.one .und) :: .v (.one .und) :: [], [.row 3 (.ints .i64 v2)]⟩
def x45_0_0_k0  (y0 : List Int) : St := ⟨.v (.one .und) :: .v (.one .und) :: .v (.one .und) :: .v (.one (.row 0)) :: .v (.one .und) :: .v (.one .und) :: .v (.one .und) :: .v (.one .und) :: .v (.one .und) :: .v (.one .und) :: .v (.one .und) :: .v (.one .und) :: .v (.one .und) :: .v (.one .und) :: .v (.one .und) :: .v (.one .und) :: .v (.one .und) :: .v (.one .und) :: .v (.one .und) :: .v (.one .und) :: .v (.one .und) :: .v (.one .und) :: [], [.row 3 (.ints .i64 y0)]⟩
def LS45_0 {β : Type} (N : Nat) : LSpec β := fun s K => match s with
  | ⟨.v (.one (.sl 3 (.ints .i64 v0))) :: .v (.one .und) :: .v (.one .und) :: .v (.one (.row 0)) :: .v (.one (.int .i64 v1)) :: .v (.one .und) :: .v (.one .und) :: .v (.one .und) :: .v (.one .und) :: .v (.one .und) :: .v (.one .und) :: .v (.one .und) :: .v (.one .und) :: .v (.one .und) :: .v (.one .und) :: .v (.one .und) :: .v (.one .und) :: .v (.one .und) :: .v (.one .und) :: .v (.one .und) :: .v (.one .und) :: .v (.one .und) :: [], [.row 3 (.ints .i64 v2)]⟩ => laws_toIntS_l0 N  N v0 v1 v2 (fun y0 => K (.exit 0) (x45_0_0_k0  y0))
  | _ => none
def E45 {β : Type} (N : Nat) : Env β := ⟨[], [], [(0, LS45_0 N)]⟩
theorem st45_0_0 {β : Type} (N : Nat)  (v0 : List Int) (v1 : Int) (v2 : List Int) (rec_ : St → Option β) (K : Exit → St → Option β) :
    ev lay (E45 N) (retMask Try.f45) (lp Try.f45 0).body (lp Try.f45 0).ex ((lp Try.f45 0).lv (retMask Try.f45)) (h45_0_0  v0 v1 v2) (nextR (fun s' => rec_ (s'.tidy ((lp Try.f45 0).lv (retMask Try.f45)))) K) =
      laws_toIntS_l0b N  v0 v1 v2 (fun v0 v1 v2 => rec_ (h45_0_0  v0 v1 v2)) (fun y0 => K (.exit 0) (x45_0_0_k0  y0)) := by kernel_rfl
theorem ro45_0_0 {β : Type} (N : Nat)  (K : Exit → St → Option β) : ∀ (F : Nat) (v0 : List Int) (v1 : Int) (v2 : List Int), (lp Try.f45 0).rounds lay (E45 N) (retMask Try.f45) F (h45_0_0  v0 v1 v2) K = laws_toIntS_l0 N  F v0 v1 v2 (fun y0 => K (.exit 0) (x45_0_0_k0  y0)) := by
  intro F
  induction F with
  | zero => intros; rfl
  | succ F ih =>
    intros
    rw [rounds_next]
    refine (st45_0_0 N  _ _ _ (fun s => (lp Try.f45 0).rounds lay (E45 N) (retMask Try.f45) F s K) K).trans ?_
    simp only [ih]
    rfl
theorem lk45_0 {β : Type} (N : Nat) : lookL (E45 (β := β) N).loops (lp Try.f45 0).id = LS45_0 N := by kernel_rfl
theorem rk45_0 {β : Type} (N : Nat) : RoundsOK lay (E45 (β := β) N) (retMask Try.f45) (lp Try.f45 0) := by
  intro s K r h
  rw [lk45_0] at h
  unfold LS45_0 at h
  split at h
  · exact ⟨N, (ro45_0_0 N  _ N _ _ _).trans h⟩
  · cases h
theorem e45_0 {β : Type} (N : Nat)  (a0 : List Int) (K : TV → Option β) : evFn lay (E45 N) Try.f45 [.v (.one (.sl 3 (.ints .i64 a0)))] K = laws_toIntS N a0 (fun z2 => K (.v (.one (.sl 3 (.ints .i64 z2))))) := by kernel_rfl
theorem o45 {β : Type} (N : Nat) : SpecOK (β := β) Try.prog 45 (S45 N) := by
  refine spec_of lay_ok mixed (E := E45 N) (specs_loops specs_nil) muts_nil Try.func45 (by kernel_rfl) 1 (by kernel_rfl) ⟨trivial, rk45_0 N⟩ fun args K r h => ?_
  unfold S45 at h
  split at h
  · exact (e45_0 N _ _).trans h
  · cases h
def S39 {β : Type} (N : Nat) : Rv.Spec β := fun args K => match args with
  | [.v (.agg [.int .i64 a0, .int .i64 a1, .int .i64 a2, .sl 3 (.ints .i64 a3)])] => laws_toKept N a0 a1 a2 a3 (fun z7 z8 z9 z10 => K (.v (.agg [.int .i64 z7, .int .i64 z8, .int .i64 z9, .sl 3 (.ints .i64 z10)])))
  | _ => none
def E39 {β : Type} (N : Nat) : Env β := ⟨[(27, S27 N), (45, S45 N)], [], []⟩
theorem e39_0 {β : Type} (N : Nat)  (a0 : Int) (a1 : Int) (a2 : Int) (a3 : List Int) (K : TV → Option β) : evFn lay (E39 N) Try.f39 [.v (.agg [.int .i64 a0, .int .i64 a1, .int .i64 a2, .sl 3 (.ints .i64 a3)])] K = laws_toKept N a0 a1 a2 a3 (fun z7 z8 z9 z10 => K (.v (.agg [.int .i64 z7, .int .i64 z8, .int .i64 z9, .sl 3 (.ints .i64 z10)]))) := by kernel_rfl
theorem o39 {β : Type} (N : Nat) : SpecOK (β := β) Try.prog 39 (S39 N) := by
  refine spec_of lay_ok mixed (E := E39 N) (specs_loops (specs_cons (o27 N) (specs_cons (o45 N) specs_nil))) muts_nil Try.func39 (by kernel_rfl) 0 (by kernel_rfl) trivial fun args K r h => ?_
  unfold S39 at h
  split at h
  · exact (e39_0 N _ _ _ _ _).trans h
  · cases h
def S69 {β : Type} (N : Nat) : Rv.Spec β := fun args K => match args with
  | [.v (.one (.sl 3 (.ints .i64 a0))), .v (.one (.sl 3 (.ints .i64 a1)))] => spec_l30Same N a0 a1 (fun z4 => K (.v (.one (.bool z4))))
  | _ => none
def h69_0_0  (v0 : List Int) (v1 : List Int) (v2 : Int) : St := ⟨.v (.one (.sl 3 (.ints .i64 v0))) :: .v (.one (.sl 3 (.ints .i64 v1))) :: .v (.one .und) :: .v (.one .und) :: .v (.one .und) :: .v (.one (.int .i64 v2)) :: .v (.one .und) :: .v (.one .und) :: .v (.one .und) :: .v (.one .und) :: .v (.one .und) :: .v (.one .und) :: .v (.one .und) :: .v (.one .und) :: .v (.one .und) :: .v (.one .und) :: .v (.one .und) :: .v (.one .und) :: .v (.one .und) :: .v (.one .und) :: .v (.one .und) :: .v (.one .und) :: .v (.one .und) :: .v (.one .und) :: .v (.one .und) :: .v (.one .und) :: [], []⟩
def x69_0_0_k0  (y0 : Bool) : St := ⟨.v (.one .und) :: .v (.one .und) :: .v (.one .und) :: .v (.one .und) :: .v (.one (.bool y0)) :: .v (.one .und) :: .v (.one .und) :: .v (.one .und) :: .v (.one .und) :: .v (.one .und) :: .v (.one .und) :: .v (.one .und) :: .v (.one .und) :: .v (.one .und) :: .v (.one .und) :: .v (.one .und) :: .v (.one .und) :: .v (.one .und) :: .v (.one .und) :: .v (.one .und) :: .v (.one .und) :: .v (.one .und) :: .v (.one .und) :: .v (.one .und) :: .v (.one .und) :: .v (.one .und) :: [], []⟩
def x69_0_0_k1   : St := ⟨.v (.one .und) :: .v (.one .und) :: .v (.one .und) :: .v (.one .und) :: .v (.one .und) :: .v (.one .und) :: .v (.one .und) :: .v (.one .und) :: .v (.one .und) :: .v (.one .und) :: .v (.one .und) :: .v (.one .und) :: .v (.one .und) :: .v (.one .und) :: .v (.one .und) :: .v (.one .und) :: .v (.one .und) :: .v (.one .und) :: .v (.one .und) :: .v (.one .und) :: .v (.one .und) :: .v (.one .und) :: .v (.one .und) :: .v (.one .und) :: .v (.one .und) :: .v (.one .und) :: [], []⟩
def LS69_0 {β : Type} (N : Nat) : LSpec β := fun s K => match s with
  | ⟨.v (.one (.sl 3 (.ints .i64 v0))) :: .v (.one (.sl 3 (.ints .i64 v1))) :: .v (.one .und) :: .v (.one .und) :: .v (.one .und) :: .v (.one (.int .i64 v2)) :: .v (.one .und) :: .v (.one .und) :: .v (.one .und) :: .v (.one .und) :: .v (.one .und) :: .v (.one .und) :: .v (.one .und) :: .v (.one .und) :: .v (.one .und) :: .v (.one .und) :: .v (.one .und) :: .v (.one .und) :: .v (.one .und) :: .v (.one .und) :: .v (.one .und) :: .v (.one .und) :: .v (.one .und) :: .v (.one .und) :: .v (.one .und) :: .v (.one .und) :: [], []⟩ => spec_l30Same_l0 N  N v0 v1 v2 (fun y0 => K .ret (x69_0_0_k0  y0)) (K (.exit 0) (x69_0_0_k1  ))
  | _ => none
def E69 {β : Type} (N : Nat) : Env β := ⟨[], [], [(0, LS69_0 N)]⟩
theorem st69_0_0 {β : Type} (N : Nat)  (v0 : List Int) (v1 : List Int) (v2 : Int) (rec_ : St → Option β) (K : Exit → St → Option β) :
    ev lay (E69 N) (retMask Try.f69) (lp Try.f69 0).body (lp Try.f69 0).ex ((lp Try.f69 0).lv (retMask Try.f69)) (h69_0_0  v0 v1 v2) (nextR (fun s' => rec_ (s'.tidy ((lp Try.f69 0).lv (retMask Try.f69)))) K) =
      spec_l30Same_l0b N  v0 v1 v2 (fun v0 v1 v2 => rec_ (h69_0_0  v0 v1 v2)) (fun y0 => K .ret (x69_0_0_k0  y0)) (K (.exit 0) (x69_0_0_k1  )) := by kernel_rfl
theorem ro69_0_0 {β : Type} (N : Nat)  (K : Exit → St → Option β) : ∀ (F : Nat) (v0 : List Int) (v1 : List Int) (v2 : Int), (lp Try.f69 0).rounds lay (E69 N) (retMask Try.f69) F (h69_0_0  v0 v1 v2) K = spec_l30Same_l0 N  F v0 v1 v2 (fun y0 => K .ret (x69_0_0_k0  y0)) (K (.exit 0) (x69_0_0_k1  )) := by
  intro F
  induction F with
  | zero => intros; rfl
  | succ F ih =>
    intros
    rw [rounds_next]
    refine (st69_0_0 N  _ _ _ (fun s => (lp Try.f69 0).rounds lay (E69 N) (retMask Try.f69) F s K) K).trans ?_
    simp only [ih]
    rfl
theorem lk69_0 {β : Type} (N : Nat) : lookL (E69 (β := β) N).loops (lp Try.f69 0).id = LS69_0 N := by kernel_rfl
theorem rk69_0 {β : Type} (N : Nat) : RoundsOK lay (E69 (β := β) N) (retMask Try.f69) (lp Try.f69 0) := by
  intro s K r h
  rw [lk69_0] at h
  unfold LS69_0 at h
  split at h
  · exact ⟨N, (ro69_0_0 N  _ N _ _ _).trans h⟩
  · cases h
theorem e69_0 {β : Type} (N : Nat)  (a0 : List Int) (a1 : List Int) (K : TV → Option β) : evFn lay (E69 N) Try.f69 [.v (.one (.sl 3 (.ints .i64 a0))), .v (.one (.sl 3 (.ints .i64 a1)))] K = spec_l30Same N a0 a1 (fun z4 => K (.v (.one (.bool z4)))) := by kernel_rfl
theorem o69 {β : Type} (N : Nat) : SpecOK (β := β) Try.prog 69 (S69 N) := by
  refine spec_of lay_ok mixed (E := E69 N) (specs_loops specs_nil) muts_nil Try.func69 (by kernel_rfl) 1 (by kernel_rfl) ⟨trivial, rk69_0 N⟩ fun args K r h => ?_
  unfold S69 at h
  split at h
  · exact (e69_0 N _ _ _).trans h
  · cases h
def S38 {β : Type} (N : Nat) : Rv.Spec β := fun args K => match args with
  | [.v (.agg [.int .i64 a0, .int .i64 a1, .int .i64 a2, .sl 3 (.ints .i64 a3)]), .v (.agg [.int .i64 a4, .int .i64 a5, .int .i64 a6, .sl 3 (.ints .i64 a7)])] => spec_EqualKept N a0 a1 a2 a3 a4 a5 a6 a7 (fun z9 => K (.v (.one (.bool z9))))
  | _ => none
def E38 {β : Type} (N : Nat) : Env β := ⟨[(69, S69 N)], [], []⟩
theorem e38_0 {β : Type} (N : Nat)  (a0 : Int) (a1 : Int) (a2 : Int) (a3 : List Int) (a4 : Int) (a5 : Int) (a6 : Int) (a7 : List Int) (K : TV → Option β) : evFn lay (E38 N) Try.f38 [.v (.agg [.int .i64 a0, .int .i64 a1, .int .i64 a2, .sl 3 (.ints .i64 a3)]), .v (.agg [.int .i64 a4, .int .i64 a5, .int .i64 a6, .sl 3 (.ints .i64 a7)])] K = spec_EqualKept N a0 a1 a2 a3 a4 a5 a6 a7 (fun z9 => K (.v (.one (.bool z9)))) := by kernel_rfl
theorem o38 {β : Type} (N : Nat) : SpecOK (β := β) Try.prog 38 (S38 N) := by
  refine spec_of lay_ok mixed (E := E38 N) (specs_loops (specs_cons (o69 N) specs_nil)) muts_nil Try.func38 (by kernel_rfl) 0 (by kernel_rfl) trivial fun args K r h => ?_
  unfold S38 at h
  split at h
  · exact (e38_0 N _ _ _ _ _ _ _ _ _).trans h
  · cases h
def S70 {β : Type} (N : Nat) : Rv.Spec β := fun args K => match args with
  | [.v (.one (.sl 3 (.ints .i64 a0))), .v (.one (.sl 3 (.ints .i64 a1)))] => slices_Equal_Sint_int N a0 a1 (fun z4 => K (.v (.one (.bool z4))))
  | _ => none
def h70_0_0  (v0 : List Int) (v1 : List Int) (v2 : Int) (v3 : Int) : St := ⟨.v (.one (.sl 3 (.ints .i64 v0))) :: .v (.one (.sl 3 (.ints .i64 v1))) :: .v (.one .und) :: .v (.one .und) :: .v (.one .und) :: .v (.one .und) :: .v (.one .und) :: .v (.one .und) :: .v (.one .und) :: .v (.one .und) :: .v (.one .und) :: .v (.one .und) :: .v (.one (.int .i64 v2)) :: .v (.one (.int .i64 v3)) :: .v (.one .und) :: .v (.one .und) :: .v (.one .und) :: .v (.one .und) :: .v (.one .und) :: .v (.one .und) :: .v (.one .und) :: .v (.one .und) :: .v (.one .und) :: .v (.one .und) :: .v (.one .und) :: .v (.one .und) :: [], []⟩
def x70_0_0_k0  (y0 : Bool) : St := ⟨.v (.one .und) :: .v (.one .und) :: .v (.one .und) :: .v (.one .und) :: .v (.one (.bool y0)) :: .v (.one .und) :: .v (.one .und) :: .v (.one .und) :: .v (.one .und) :: .v (.one .und) :: .v (.one .und) :: .v (.one .und) :: .v (.one .und) :: .v (.one .und) :: .v (.one .und) :: .v (.one .und) :: .v (.one .und) :: .v (.one .und) :: .v (.one .und) :: .v (.one .und) :: .v (.one .und) :: .v (.one .und) :: .v (.one .und) :: .v (.one .und) :: .v (.one .und) :: .v (.one .und) :: [], []⟩
def x70_0_0_k1   : St := ⟨.v (.one .und) :: .v (.one .und) :: .v (.one .und) :: .v (.one .und) :: .v (.one .und) :: .v (.one .und) :: .v (.one .und) :: .v (.one .und) :: .v (.one .und) :: .v (.one .und) :: .v (.one .und) :: .v (.one .und) :: .v (.one .und) :: .v (.one .und) :: .v (.one .und) :: .v (.one .und) :: .v (.one .und) :: .v (.one .und) :: .v (.one .und) :: .v (.one .und) :: .v (.one .und) :: .v (.one .und) :: .v (.one .und) :: .v (.one .und) :: .v (.one .und) :: .v (.one .und) :: [], []⟩
def LS70_0 {β : Type} (N : Nat) : LSpec β := fun s K => match s with
  | ⟨.v (.one (.sl 3 (.ints .i64 v0))) :: .v (.one (.sl 3 (.ints .i64 v1))) :: .v (.one .und) :: .v (.one .und) :: .v (.one .und) :: .v (.one .und) :: .v (.one .und) :: .v (.one .und) :: .v (.one .und) :: .v (.one .und) :: .v (.one .und) :: .v (.one .und) :: .v (.one (.int .i64 v2)) :: .v (.one (.int .i64 v3)) :: .v (.one .und) :: .v (.one .und) :: .v (.one .und) :: .v (.one .und) :: .v (.one .und) :: .v (.one .und) :: .v (.one .und) :: .v (.one .und) :: .v (.one .und) :: .v (.one .und) :: .v (.one .und) :: .v (.one .und) :: [], []⟩ => slices_Equal_Sint_int_l0 N  N v0 v1 v2 v3 (fun y0 => K .ret (x70_0_0_k0  y0)) (K (.exit 0) (x70_0_0_k1  ))
  | _ => none
def E70 {β : Type} (N : Nat) : Env β := ⟨[], [], [(0, LS70_0 N)]⟩
theorem st70_0_0 {β : Type} (N : Nat)  (v0 : List Int) (v1 : List Int) (v2 : Int) (v3 : Int) (rec_ : St → Option β) (K : Exit → St → Option β) :
    ev lay (E70 N) (retMask Try.f70) (lp Try.f70 0).body (lp Try.f70 0).ex ((lp Try.f70 0).lv (retMask Try.f70)) (h70_0_0  v0 v1 v2 v3) (nextR (fun s' => rec_ (s'.tidy ((lp Try.f70 0).lv (retMask Try.f70)))) K) =
      slices_Equal_Sint_int_l0b N  v0 v1 v2 v3 (fun v0 v1 v2 v3 => rec_ (h70_0_0  v0 v1 v2 v3)) (fun y0 => K .ret (x70_0_0_k0  y0)) (K (.exit 0) (x70_0_0_k1  )) := by kernel_rfl
theorem ro70_0_0 {β : Type} (N : Nat)  (K : Exit → St → Option β) : ∀ (F : Nat) (v0 : List Int) (v1 : List Int) (v2 : Int) (v3 : Int), (lp Try.f70 0).rounds lay (E70 N) (retMask Try.f70) F (h70_0_0  v0 v1 v2 v3) K = slices_Equal_Sint_int_l0 N  F v0 v1 v2 v3 (fun y0 => K .ret (x70_0_0_k0  y0)) (K (.exit 0) (x70_0_0_k1  )) := by
  intro F
  induction F with
  | zero => intros; rfl
  | succ F ih =>
    intros
    rw [rounds_next]
    refine (st70_0_0 N  _ _ _ _ (fun s => (lp Try.f70 0).rounds lay (E70 N) (retMask Try.f70) F s K) K).trans ?_
    simp only [ih]
    rfl
theorem lk70_0 {β : Type} (N : Nat) : lookL (E70 (β := β) N).loops (lp Try.f70 0).id = LS70_0 N := by kernel_rfl
theorem rk70_0 {β : Type} (N : Nat) : RoundsOK lay (E70 (β := β) N) (retMask Try.f70) (lp Try.f70 0) := by
  intro s K r h
  rw [lk70_0] at h
  unfold LS70_0 at h
  split at h
  · exact ⟨N, (ro70_0_0 N  _ N _ _ _ _).trans h⟩
  · cases h
theorem e70_0 {β : Type} (N : Nat)  (a0 : List Int) (a1 : List Int) (K : TV → Option β) : evFn lay (E70 N) Try.f70 [.v (.one (.sl 3 (.ints .i64 a0))), .v (.one (.sl 3 (.ints .i64 a1)))] K = slices_Equal_Sint_int N a0 a1 (fun z4 => K (.v (.one (.bool z4)))) := by kernel_rfl
theorem o70 {β : Type} (N : Nat) : SpecOK (β := β) Try.prog 70 (S70 N) := by
  refine spec_of lay_ok mixed (E := E70 N) (specs_loops specs_nil) muts_nil Try.func70 (by kernel_rfl) 1 (by kernel_rfl) ⟨trivial, rk70_0 N⟩ fun args K r h => ?_
  unfold S70 at h
  split at h
  · exact (e70_0 N _ _ _).trans h
  · cases h
def S40 {β : Type} (N : Nat) : Rv.Spec β := fun args K => match args with
  | [.v (.agg [.int .i64 a0, .int .i64 a1, .int .i64 a2, .sl 3 (.ints .i64 a3)]), .v (.agg [.int .i64 a4, .int .i64 a5, .int .i64 a6, .sl 3 (.ints .i64 a7)])] => impl_EqualKept N a0 a1 a2 a3 a4 a5 a6 a7 (fun z9 => K (.v (.one (.bool z9))))
  | _ => none
def E40 {β : Type} (N : Nat) : Env β := ⟨[(70, S70 N)], [], []⟩
theorem e40_0 {β : Type} (N : Nat)  (a0 : Int) (a1 : Int) (a2 : Int) (a3 : List Int) (a4 : Int) (a5 : Int) (a6 : Int) (a7 : List Int) (K : TV → Option β) : evFn lay (E40 N) Try.f40 [.v (.agg [.int .i64 a0, .int .i64 a1, .int .i64 a2, .sl 3 (.ints .i64 a3)]), .v (.agg [.int .i64 a4, .int .i64 a5, .int .i64 a6, .sl 3 (.ints .i64 a7)])] K = impl_EqualKept N a0 a1 a2 a3 a4 a5 a6 a7 (fun z9 => K (.v (.one (.bool z9)))) := by kernel_rfl
theorem o40 {β : Type} (N : Nat) : SpecOK (β := β) Try.prog 40 (S40 N) := by
  refine spec_of lay_ok mixed (E := E40 N) (specs_loops (specs_cons (o70 N) specs_nil)) muts_nil Try.func40 (by kernel_rfl) 0 (by kernel_rfl) trivial fun args K r h => ?_
  unfold S40 at h
  split at h
  · exact (e40_0 N _ _ _ _ _ _ _ _ _).trans h
  · cases h
def S41 {β : Type} (N : Nat) : Rv.Spec β := fun args K => match args with
  | [.v (.agg [.int .i64 a0, .int .i64 a1, .int .i64 a2, .sl 3 (.ints .i64 a3)]), .v (.agg [.int .i64 a4, .int .i64 a5, .int .i64 a6, .sl 3 (.ints .i64 a7)])] => laws_eqKept N a0 a1 a2 a3 a4 a5 a6 a7 (fun z10 => K (.v (.one (.bool z10))))
  | _ => none
def E41 {β : Type} (N : Nat) : Env β := ⟨[(29, S29 N), (34, S34 N)], [], []⟩
theorem e41_0 {β : Type} (N : Nat)  (a0 : Int) (a1 : Int) (a2 : Int) (a3 : List Int) (a4 : Int) (a5 : Int) (a6 : Int) (a7 : List Int) (K : TV → Option β) : evFn lay (E41 N) Try.f41 [.v (.agg [.int .i64 a0, .int .i64 a1, .int .i64 a2, .sl 3 (.ints .i64 a3)]), .v (.agg [.int .i64 a4, .int .i64 a5, .int .i64 a6, .sl 3 (.ints .i64 a7)])] K = laws_eqKept N a0 a1 a2 a3 a4 a5 a6 a7 (fun z10 => K (.v (.one (.bool z10)))) := by kernel_rfl
theorem o41 {β : Type} (N : Nat) : SpecOK (β := β) Try.prog 41 (S41 N) := by
  refine spec_of lay_ok mixed (E := E41 N) (specs_loops (specs_cons (o29 N) (specs_cons (o34 N) specs_nil))) muts_nil Try.func41 (by kernel_rfl) 0 (by kernel_rfl) trivial fun args K r h => ?_
  unfold S41 at h
  split at h
  · exact (e41_0 N _ _ _ _ _ _ _ _ _).trans h
  · cases h
def S10 {β : Type} (N : Nat) : Rv.Spec β := fun args K => match args with
  | [.v (.agg [.int .i64 a0, .int .i64 a1, .int .i64 a2, .sl 3 (.ints .i64 a3)]), .v (.agg [.int .i64 a4, .int .i64 a5, .int .i64 a6, .sl 3 (.ints .i64 a7)])] => laws_FnExactEqualKept N a0 a1 a2 a3 a4 a5 a6 a7 (fun z38 => K (.v (.one (.bool z38))))
  | _ => none
def E10 {β : Type} (N : Nat) : Env β := ⟨[(37, S37 N), (39, S39 N), (38, S38 N), (40, S40 N), (41, S41 N)], [], []⟩
theorem e10_0 {β : Type} (N : Nat)  (a0 : Int) (a1 : Int) (a2 : Int) (a3 : List Int) (a4 : Int) (a5 : Int) (a6 : Int) (a7 : List Int) (K : TV → Option β) : evFn lay (E10 N) Try.f10 [.v (.agg [.int .i64 a0, .int .i64 a1, .int .i64 a2, .sl 3 (.ints .i64 a3)]), .v (.agg [.int .i64 a4, .int .i64 a5, .int .i64 a6, .sl 3 (.ints .i64 a7)])] K = laws_FnExactEqualKept N a0 a1 a2 a3 a4 a5 a6 a7 (fun z38 => K (.v (.one (.bool z38)))) := by kernel_rfl
theorem o10 {β : Type} (N : Nat) : SpecOK (β := β) Try.prog 10 (S10 N) := by
  refine spec_of lay_ok mixed (E := E10 N) (specs_loops (specs_cons (o37 N) (specs_cons (o39 N) (specs_cons (o38 N) (specs_cons (o40 N) (specs_cons (o41 N) specs_nil)))))) muts_nil Try.func10 (by kernel_rfl) 0 (by kernel_rfl) trivial fun args K r h => ?_
  unfold S10 at h
  split at h
  · exact (e10_0 N _ _ _ _ _ _ _ _ _).trans h
  · cases h
def S42 {β : Type} (N : Nat) : Rv.Spec β := fun args K => match args with
  | [.v (.agg [.int .i64 a0, .int .i64 a1]), .v (.one (.int .i64 a2)), .v (.one (.int .i64 a3))] => spec_DetectingInputs N a0 a1 a2 a3 (fun z8 z9 => K (.tup [.one (.sl 3 (.ints .i64 z8)), .one (.bool z9)]))
  | _ => none
def h42_0_0  (v0 : Bool) (v1 : Int) (v2 : Int) (v3 : Int) (v4 : List Int) (v5 : Int) (v6 : Int) : St := ⟨.v (.one .und) :: .v (.one .und) :: .v (.one .und) :: .v (.one (.ptr 0 0)) :: .v (.one .und) :: .v (.one .und) :: .v (.one .und) :: .v (.one .und) :: .v (.one (.row 1)) :: .v (.one (.ptr 2 0)) :: .v (.one (.bool v0)) :: .v (.one (.int .i64 v1)) :: .v (.one .und) :: .v (.one .und) :: .v (.one .und) :: .v (.one .und) :: .v (.one .und) :: .v (.one .und) :: .v (.one .und) :: .v (.one .und) :: .v (.one .und) :: .v (.one .und) :: .v (.one .und) :: .v (.one .und) :: .v (.one .und) :: .v (.one .und) :: .v (.one .und) :: .v (.one .und) :: .v (.one .und) :: .v (.one .und) :: .v (.one .und) :: .v (.one .und) :: .v (.one .und) :: .v (.one .und) :: .v (.one .und) :: .v (.one .und) :: .v (.one .und) :: .v (.one .und) :: .v (.one .und) :: .v (.one .und) :: .v (.one .und) :: .v (.one .und) :: .v (.one .und) :: .v (.one .und) :: .v (.one .und) :: .v (.one .und) :: .v (.one .und) :: [], [.cells 31 [.int .i64 v2, .int .i64 v3], .row 3 (.ints .i64 v4), .cells 31 [.int .i64 v5, .int .i64 v6]]⟩
def x42_0_0_k0  (y0 : Bool) (y1 : List Int) : St := ⟨.v (.one .und) :: .v (.one .und) :: .v (.one .und) :: .v (.one .und) :: .v (.one .und) :: .v (.one .und) :: .v (.one .und) :: .v (.one .und) :: .v (.one (.row 0)) :: .v (.one .und) :: .v (.one (.bool y0)) :: .v (.one .und) :: .v (.one .und) :: .v (.one .und) :: .v (.one .und) :: .v (.one .und) :: .v (.one .und) :: .v (.one .und) :: .v (.one .und) :: .v (.one .und) :: .v (.one .und) :: .v (.one .und) :: .v (.one .und) :: .v (.one .und) :: .v (.one .und) :: .v (.one .und) :: .v (.one .und) :: .v (.one .und) :: .v (.one .und) :: .v (.one .und) :: .v (.one .und) :: .v (.one .und) :: .v (.one .und) :: .v (.one .und) :: .v (.one .und) :: .v (.one .und) :: .v (.one .und) :: .v (.one .und) :: .v (.one .und) :: .v (.one .und) :: .v (.one .und) :: .v (.one .und) :: .v (.one .und) :: .v (.one .und) :: .v (.one .und) :: .v (.one .und) :: .v (.one .und) :: [], [.row 3 (.ints .i64 y1)]⟩
def LS42_0 {β : Type} (N : Nat) : LSpec β := fun s K => match s with
  | ⟨.v (.one .und) :: .v (.one .und) :: .v (.one .und) :: .v (.one (.ptr 0 0)) :: .v (.one .und) :: .v (.one .und) :: .v (.one .und) :: .v (.one .und) :: .v (.one (.row 1)) :: .v (.one (.ptr 2 0)) :: .v (.one (.bool v0)) :: .v (.one (.int .i64 v1)) :: .v (.one .und) :: .v (.one .und) :: .v (.one .und) :: .v (.one .und) :: .v (.one .und) :: .v (.one .und) :: .v (.one .und) :: .v (.one .und) :: .v (.one .und) :: .v (.one .und) :: .v (.one .und) :: .v (.one .und) :: .v (.one .und) :: .v (.one .und) :: .v (.one .und) :: .v (.one .und) :: .v (.one .und) :: .v (.one .und) :: .v (.one .und) :: .v (.one .und) :: .v (.one .und) :: .v (.one .und) :: .v (.one .und) :: .v (.one .und) :: .v (.one .und) :: .v (.one .und) :: .v (.one .und) :: .v (.one .und) :: .v (.one .und) :: .v (.one .und) :: .v (.one .und) :: .v (.one .und) :: .v (.one .und) :: .v (.one .und) :: .v (.one .und) :: [], [.cells 31 [.int .i64 v2, .int .i64 v3], .row 3 (.ints .i64 v4), .cells 31 [.int .i64 v5, .int .i64 v6]]⟩ => spec_DetectingInputs_l0 N  N v0 v1 v2 v3 v4 v5 v6 (fun y0 y1 => K (.exit 0) (x42_0_0_k0  y0 y1))
  | _ => none
def E42 {β : Type} (N : Nat) : Env β := ⟨[(26, S26 N)], [], [(0, LS42_0 N)]⟩
theorem st42_0_0 {β : Type} (N : Nat)  (v0 : Bool) (v1 : Int) (v2 : Int) (v3 : Int) (v4 : List Int) (v5 : Int) (v6 : Int) (rec_ : St → Option β) (K : Exit → St → Option β) :
    ev lay (E42 N) (retMask Try.f42) (lp Try.f42 0).body (lp Try.f42 0).ex ((lp Try.f42 0).lv (retMask Try.f42)) (h42_0_0  v0 v1 v2 v3 v4 v5 v6) (nextR (fun s' => rec_ (s'.tidy ((lp Try.f42 0).lv (retMask Try.f42)))) K) =
      spec_DetectingInputs_l0b N  v0 v1 v2 v3 v4 v5 v6 (fun v0 v1 v2 v3 v4 v5 v6 => rec_ (h42_0_0  v0 v1 v2 v3 v4 v5 v6)) (fun y0 y1 => K (.exit 0) (x42_0_0_k0  y0 y1)) := by kernel_rfl
theorem ro42_0_0 {β : Type} (N : Nat)  (K : Exit → St → Option β) : ∀ (F : Nat) (v0 : Bool) (v1 : Int) (v2 : Int) (v3 : Int) (v4 : List Int) (v5 : Int) (v6 : Int), (lp Try.f42 0).rounds lay (E42 N) (retMask Try.f42) F (h42_0_0  v0 v1 v2 v3 v4 v5 v6) K = spec_DetectingInputs_l0 N  F v0 v1 v2 v3 v4 v5 v6 (fun y0 y1 => K (.exit 0) (x42_0_0_k0  y0 y1)) := by
  intro F
  induction F with
  | zero => intros; rfl
  | succ F ih =>
    intros
    rw [rounds_next]
    refine (st42_0_0 N  _ _ _ _ _ _ _ (fun s => (lp Try.f42 0).rounds lay (E42 N) (retMask Try.f42) F s K) K).trans ?_
    simp only [ih]
    rfl
theorem lk42_0 {β : Type} (N : Nat) : lookL (E42 (β := β) N).loops (lp Try.f42 0).id = LS42_0 N := by kernel_rfl
theorem rk42_0 {β : Type} (N : Nat) : RoundsOK lay (E42 (β := β) N) (retMask Try.f42) (lp Try.f42 0) := by
  intro s K r h
  rw [lk42_0] at h
  unfold LS42_0 at h
  split at h
  · exact ⟨N, (ro42_0_0 N  _ N _ _ _ _ _ _ _).trans h⟩
  · cases h
theorem e42_0 {β : Type} (N : Nat)  (a0 : Int) (a1 : Int) (a2 : Int) (a3 : Int) (K : TV → Option β) : evFn lay (E42 N) Try.f42 [.v (.agg [.int .i64 a0, .int .i64 a1]), .v (.one (.int .i64 a2)), .v (.one (.int .i64 a3))] K = spec_DetectingInputs N a0 a1 a2 a3 (fun z8 z9 => K (.tup [.one (.sl 3 (.ints .i64 z8)), .one (.bool z9)])) := by kernel_rfl
theorem o42 {β : Type} (N : Nat) : SpecOK (β := β) Try.prog 42 (S42 N) := by
  refine spec_of lay_ok mixed (E := E42 N) (specs_loops (specs_cons (o26 N) specs_nil)) muts_nil Try.func42 (by kernel_rfl) 1 (by kernel_rfl) ⟨trivial, rk42_0 N⟩ fun args K r h => ?_
  unfold S42 at h
  split at h
  · exact (e42_0 N _ _ _ _ _).trans h
  · cases h
def S71 {β : Type} (N : Nat) : Rv.Spec β := fun args K => match args with
  | [.v (.one (.int .i64 a0))] => impl_elements N a0 (fun z2 => K (.v (.one (.sl 3 (.ints .i64 z2)))))
  | _ => none
def h71_0_0  (v0 : Int) (v1 : Int) (v2 : List Int) : St := ⟨.v (.one (.int .i64 v0)) :: .v (.one .und) :: .v (.one .und) :: .v (.one (.row 0)) :: .v (.one .und) :: .v (.one (.int .i64 v1)) :: .v (.one .und) :: .v (.one .und) :: .v (.one .und) :: .v (.one .und) :: .v (.one .und) :: .v (.one .und) :: .v (.one .und) :: .v (.one .und) :: .v (.one .und) :: .v (.one .und) :: .v (.one .und) :: .v (.one .und) :: .v (.one .und) :: [], [.row 3 (.ints .i64 v2)]⟩
def x71_0_0_k0  (y0 : List Int) : St := ⟨.v (.one .und) :: .v (.one .und) :: .v (.one .und) :: .v (.one (.row 0)) :: .v (.one .und) :: .v (.one .und) :: .v (.one .und) :: .v (.one .und) :: .v (.one .und) :: .v (.one .und) :: .v (.one .und) :: .v (.one .und) :: .v (.one .und) :: .v (.one .und) :: .v (.one .und) :: .v (.one .und) :: .v (.one .und) :: .v (.one .und) :: .v (.one .und) :: [], [.row 3 (.ints .i64 y0)]⟩
def LS71_0 {β : Type} (N : Nat) : LSpec β := fun s K => match s with
  | ⟨.v (.one (.int .i64 v0)) :: .v (.one .und) :: .v (.one .und) :: .v (.one (.row 0)) :: .v (.one .und) :: .v (.one (.int .i64 v1)) :: .v (.one .und) :: .v (.one .und) :: .v (.one .und) :: .v (.one .und) :: .v (.one .und) :: .v (.one .und) :: .v (.one .und) :: .v (.one .und) :: .v (.one .und) :: .v (.one .und) :: .v (.one .und) :: .v (.one .und) :: .v (.one .und) :: [], [.row 3 (.ints .i64 v2)]⟩ => impl_elements_l0 N  N v0 v1 v2 (fun y0 => K (.exit 0) (x71_0_0_k0  y0))
  | _ => none
def E71 {β : Type} (N : Nat) : Env β := ⟨[], [], [(0, LS71_0 N)]⟩
theorem st71_0_0 {β : Type} (N : Nat)  (v0 : Int) (v1 : Int) (v2 : List Int) (rec_ : St → Option β) (K : Exit → St → Option β) :
    ev lay (E71 N) (retMask Try.f71) (lp Try.f71 0).body (lp Try.f71 0).ex ((lp Try.f71 0).lv (retMask Try.f71)) (h71_0_0  v0 v1 v2) (nextR (fun s' => rec_ (s'.tidy ((lp Try.f71 0).lv (retMask Try.f71)))) K) =
      impl_elements_l0b N  v0 v1 v2 (fun v0 v1 v2 => rec_ (h71_0_0  v0 v1 v2)) (fun y0 => K (.exit 0) (x71_0_0_k0  y0)) := by kernel_rfl
theorem ro71_0_0 {β : Type} (N : Nat)  (K : Exit → St → Option β) : ∀ (F : Nat) (v0 : Int) (v1 : Int) (v2 : List Int), (lp Try.f71 0).rounds lay (E71 N) (retMask Try.f71) F (h71_0_0  v0 v1 v2) K = impl_elements_l0 N  F v0 v1 v2 (fun y0 => K (.exit 0) (x71_0_0_k0  y0)) := by
  intro F
  induction F with
  | zero => intros; rfl
  | succ F ih =>
    intros
    rw [rounds_next]
    refine (st71_0_0 N  _ _ _ (fun s => (lp Try.f71 0).rounds lay (E71 N) (retMask Try.f71) F s K) K).trans ?_
    simp only [ih]
    rfl
theorem lk71_0 {β : Type} (N : Nat) : lookL (E71 (β := β) N).loops (lp Try.f71 0).id = LS71_0 N := by kernel_rfl
theorem rk71_0 {β : Type} (N : Nat) : RoundsOK lay (E71 (β := β) N) (retMask Try.f71) (lp Try.f71 0) := by
  intro s K r h
  rw [lk71_0] at h
  unfold LS71_0 at h
  split at h
  · exact ⟨N, (ro71_0_0 N  _ N _ _ _).trans h⟩
  · cases h
theorem e71_0 {β : Type} (N : Nat)  (a0 : Int) (K : TV → Option β) : evFn lay (E71 N) Try.f71 [.v (.one (.int .i64 a0))] K = impl_elements N a0 (fun z2 => K (.v (.one (.sl 3 (.ints .i64 z2))))) := by kernel_rfl
theorem o71 {β : Type} (N : Nat) : SpecOK (β := β) Try.prog 71 (S71 N) := by
  refine spec_of lay_ok mixed (E := E71 N) (specs_loops specs_nil) muts_nil Try.func71 (by kernel_rfl) 1 (by kernel_rfl) ⟨trivial, rk71_0 N⟩ fun args K r h => ?_
  unfold S71 at h
  split at h
  · exact (e71_0 N _ _).trans h
  · cases h
def S43 {β : Type} (N : Nat) : Rv.Spec β := fun args K => match args with
  | [.v (.agg [.int .i64 a0, .int .i64 a1]), .v (.one (.int .i64 a2)), .v (.one (.int .i64 a3))] => impl_DetectingInputs N a0 a1 a2 a3 (fun z8 z9 => K (.tup [.one (.sl 3 (.ints .i64 z8)), .one (.bool z9)]))
  | _ => none
def E43 {β : Type} (N : Nat) : Env β := ⟨[(60, S60 N), (61, S61 N), (65, S65 N), (71, S71 N)], [], []⟩
theorem e43_0 {β : Type} (N : Nat)  (a0 : Int) (a1 : Int) (a2 : Int) (a3 : Int) (K : TV → Option β) : evFn lay (E43 N) Try.f43 [.v (.agg [.int .i64 a0, .int .i64 a1]), .v (.one (.int .i64 a2)), .v (.one (.int .i64 a3))] K = impl_DetectingInputs N a0 a1 a2 a3 (fun z8 z9 => K (.tup [.one (.sl 3 (.ints .i64 z8)), .one (.bool z9)])) := by kernel_rfl
theorem o43 {β : Type} (N : Nat) : SpecOK (β := β) Try.prog 43 (S43 N) := by
  refine spec_of lay_ok mixed (E := E43 N) (specs_loops (specs_cons (o60 N) (specs_cons (o61 N) (specs_cons (o65 N) (specs_cons (o71 N) specs_nil))))) muts_nil Try.func43 (by kernel_rfl) 0 (by kernel_rfl) trivial fun args K r h => ?_
  unfold S43 at h
  split at h
  · exact (e43_0 N _ _ _ _ _).trans h
  · cases h
def S11 {β : Type} (N : Nat) : Rv.Spec β := fun args K => match args with
  | [.v (.agg [.int .i64 a0, .int .i64 a1]), .v (.one (.int .i64 a2)), .v (.one (.int .i64 a3))] => laws_FnExactDetectingInputs N a0 a1 a2 a3 (fun z22 => K (.v (.one (.bool z22))))
  | _ => none
def E11 {β : Type} (N : Nat) : Env β := ⟨[(27, S27 N), (42, S42 N), (43, S43 N), (34, S34 N), (36, S36 N)], [(35, S35 N)], []⟩
theorem e11_0 {β : Type} (N : Nat)  (a0 : Int) (a1 : Int) (a2 : Int) (a3 : Int) (K : TV → Option β) : evFn lay (E11 N) Try.f11 [.v (.agg [.int .i64 a0, .int .i64 a1]), .v (.one (.int .i64 a2)), .v (.one (.int .i64 a3))] K = laws_FnExactDetectingInputs N a0 a1 a2 a3 (fun z22 => K (.v (.one (.bool z22)))) := by kernel_rfl
theorem o11 {β : Type} (N : Nat) : SpecOK (β := β) Try.prog 11 (S11 N) := by
  refine spec_of lay_ok mixed (E := E11 N) (specs_loops (specs_cons (o27 N) (specs_cons (o42 N) (specs_cons (o43 N) (specs_cons (o34 N) (specs_cons (o36 N) specs_nil)))))) (muts_cons (o35 N) muts_nil) Try.func11 (by kernel_rfl) 0 (by kernel_rfl) trivial fun args K r h => ?_
  unfold S11 at h
  split at h
  · exact (e11_0 N _ _ _ _ _).trans h
  · cases h
def S72 {β : Type} (N : Nat) : Rv.Spec β := fun args K => match args with
  | [.v (.agg [.int .i64 a0, .int .i64 a1]), .v (.one (.int .i64 a2))] => spec_l29Shows N a0 a1 a2 (fun z9 => K (.v (.one (.bool z9))))
  | _ => none
def h72_0_0  (v0 : Int) (v1 : Int) (v2 : Int) (v3 : Int) : St := ⟨.v (.one .und) :: .v (.one (.int .i64 v0)) :: .v (.one (.ptr 0 0)) :: .v (.one .und) :: .v (.one .und) :: .v (.one (.int .i64 v1)) :: .v (.one .und) :: .v (.one .und) :: .v (.one .und) :: .v (.one .und) :: .v (.one .und) :: .v (.one .und) :: .v (.one .und) :: .v (.one .und) :: .v (.one .und) :: .v (.one .und) :: .v (.one .und) :: .v (.one .und) :: .v (.one .und) :: .v (.one .und) :: .v (.one .und) :: .v (.one .und) :: .v (.one .und) :: .v (.one .und) :: .v (.one .und) :: .v (.one .und) :: .v (.one .und) :: .v (.one .und) :: .v (.one .und) :: .v (.one .und) :: .v (.one .und) :: .v (.one .und) :: .v (.one .und) :: .v (.one .und) :: [], [.cells 31 [.int .i64 v2, .int .i64 v3]]⟩
def x72_0_0_k0  (y0 : Bool) : St := ⟨.v (.one .und) :: .v (.one .und) :: .v (.one .und) :: .v (.one .und) :: .v (.one (.bool y0)) :: .v (.one .und) :: .v (.one .und) :: .v (.one .und) :: .v (.one .und) :: .v (.one .und) :: .v (.one .und) :: .v (.one .und) :: .v (.one .und) :: .v (.one .und) :: .v (.one .und) :: .v (.one .und) :: .v (.one .und) :: .v (.one .und) :: .v (.one .und) :: .v (.one .und) :: .v (.one .und) :: .v (.one .und) :: .v (.one .und) :: .v (.one .und) :: .v (.one .und) :: .v (.one .und) :: .v (.one .und) :: .v (.one .und) :: .v (.one .und) :: .v (.one .und) :: .v (.one .und) :: .v (.one .und) :: .v (.one .und) :: .v (.one .und) :: [], []⟩
def x72_0_0_k1   : St := ⟨.v (.one .und) :: .v (.one .und) :: .v (.one .und) :: .v (.one .und) :: .v (.one .und) :: .v (.one .und) :: .v (.one .und) :: .v (.one .und) :: .v (.one .und) :: .v (.one .und) :: .v (.one .und) :: .v (.one .und) :: .v (.one .und) :: .v (.one .und) :: .v (.one .und) :: .v (.one .und) :: .v (.one .und) :: .v (.one .und) :: .v (.one .und) :: .v (.one .und) :: .v (.one .und) :: .v (.one .und) :: .v (.one .und) :: .v (.one .und) :: .v (.one .und) :: .v (.one .und) :: .v (.one .und) :: .v (.one .und) :: .v (.one .und) :: .v (.one .und) :: .v (.one .und) :: .v (.one .und) :: .v (.one .und) :: .v (.one .und) :: [], []⟩
def LS72_0 {β : Type} (N : Nat) : LSpec β := fun s K => match s with
  | ⟨.v (.one .und) :: .v (.one (.int .i64 v0)) :: .v (.one (.ptr 0 0)) :: .v (.one .und) :: .v (.one .und) :: .v (.one (.int .i64 v1)) :: .v (.one .und) :: .v (.one .und) :: .v (.one .und) :: .v (.one .und) :: .v (.one .und) :: .v (.one .und) :: .v (.one .und) :: .v (.one .und) :: .v (.one .und) :: .v (.one .und) :: .v (.one .und) :: .v (.one .und) :: .v (.one .und) :: .v (.one .und) :: .v (.one .und) :: .v (.one .und) :: .v (.one .und) :: .v (.one .und) :: .v (.one .und) :: .v (.one .und) :: .v (.one .und) :: .v (.one .und) :: .v (.one .und) :: .v (.one .und) :: .v (.one .und) :: .v (.one .und) :: .v (.one .und) :: .v (.one .und) :: [], [.cells 31 [.int .i64 v2, .int .i64 v3]]⟩ => spec_l29Shows_l0 N  N v0 v1 v2 v3 (fun y0 => K .ret (x72_0_0_k0  y0)) (K (.exit 0) (x72_0_0_k1  ))
  | _ => none
def h72_2_0  (v0 : Int) (v1 : Int) (v2 : Int) (v3 : Int) (v4 : Int) : St := ⟨.v (.one .und) :: .v (.one (.int .i64 v0)) :: .v (.one (.ptr 0 0)) :: .v (.one .und) :: .v (.one .und) :: .v (.one (.int .i64 v1)) :: .v (.one (.int .i64 v2)) :: .v (.one .und) :: .v (.one .und) :: .v (.one .und) :: .v (.one .und) :: .v (.one .und) :: .v (.one .und) :: .v (.one .und) :: .v (.one .und) :: .v (.one .und) :: .v (.one .und) :: .v (.one .und) :: .v (.one .und) :: .v (.one .und) :: .v (.one .und) :: .v (.one .und) :: .v (.one .und) :: .v (.one .und) :: .v (.one .und) :: .v (.one .und) :: .v (.one .und) :: .v (.one .und) :: .v (.one .und) :: .v (.one .und) :: .v (.one .und) :: .v (.one .und) :: .v (.one .und) :: .v (.one .und) :: [], [.cells 31 [.int .i64 v3, .int .i64 v4]]⟩
def x72_2_0_k0  (y0 : Bool) : St := ⟨.v (.one .und) :: .v (.one .und) :: .v (.one .und) :: .v (.one .und) :: .v (.one (.bool y0)) :: .v (.one .und) :: .v (.one .und) :: .v (.one .und) :: .v (.one .und) :: .v (.one .und) :: .v (.one .und) :: .v (.one .und) :: .v (.one .und) :: .v (.one .und) :: .v (.one .und) :: .v (.one .und) :: .v (.one .und) :: .v (.one .und) :: .v (.one .und) :: .v (.one .und) :: .v (.one .und) :: .v (.one .und) :: .v (.one .und) :: .v (.one .und) :: .v (.one .und) :: .v (.one .und) :: .v (.one .und) :: .v (.one .und) :: .v (.one .und) :: .v (.one .und) :: .v (.one .und) :: .v (.one .und) :: .v (.one .und) :: .v (.one .und) :: [], []⟩
def x72_2_0_k1  (y0 : Int) (y1 : Int) (y2 : Int) (y3 : Int) : St := ⟨.v (.one .und) :: .v (.one (.int .i64 y0)) :: .v (.one (.ptr 0 0)) :: .v (.one .und) :: .v (.one .und) :: .v (.one (.int .i64 y1)) :: .v (.one .und) :: .v (.one .und) :: .v (.one .und) :: .v (.one .und) :: .v (.one .und) :: .v (.one .und) :: .v (.one .und) :: .v (.one .und) :: .v (.one .und) :: .v (.one .und) :: .v (.one .und) :: .v (.one .und) :: .v (.one .und) :: .v (.one .und) :: .v (.one .und) :: .v (.one .und) :: .v (.one .und) :: .v (.one .und) :: .v (.one .und) :: .v (.one .und) :: .v (.one .und) :: .v (.one .und) :: .v (.one .und) :: .v (.one .und) :: .v (.one .und) :: .v (.one .und) :: .v (.one .und) :: .v (.one .und) :: [], [.cells 31 [.int .i64 y2, .int .i64 y3]]⟩
def LS72_2 {β : Type} (N : Nat) : LSpec β := fun s K => match s with
  | ⟨.v (.one .und) :: .v (.one (.int .i64 v0)) :: .v (.one (.ptr 0 0)) :: .v (.one .und) :: .v (.one .und) :: .v (.one (.int .i64 v1)) :: .v (.one (.int .i64 v2)) :: .v (.one .und) :: .v (.one .und) :: .v (.one .und) :: .v (.one .und) :: .v (.one .und) :: .v (.one .und) :: .v (.one .und) :: .v (.one .und) :: .v (.one .und) :: .v (.one .und) :: .v (.one .und) :: .v (.one .und) :: .v (.one .und) :: .v (.one .und) :: .v (.one .und) :: .v (.one .und) :: .v (.one .und) :: .v (.one .und) :: .v (.one .und) :: .v (.one .und) :: .v (.one .und) :: .v (.one .und) :: .v (.one .und) :: .v (.one .und) :: .v (.one .und) :: .v (.one .und) :: .v (.one .und) :: [], [.cells 31 [.int .i64 v3, .int .i64 v4]]⟩ => spec_l29Shows_l2 N  N v0 v1 v2 v3 v4 (fun y0 => K .ret (x72_2_0_k0  y0)) (fun y0 y1 y2 y3 => K (.exit 2) (x72_2_0_k1  y0 y1 y2 y3))
  | _ => none
def E72 {β : Type} (N : Nat) : Env β := ⟨[(59, S59 N)], [], [(0, LS72_0 N), (2, LS72_2 N)]⟩
theorem st72_0_0 {β : Type} (N : Nat)  (v0 : Int) (v1 : Int) (v2 : Int) (v3 : Int) (rec_ : St → Option β) (K : Exit → St → Option β) :
    ev lay (E72 N) (retMask Try.f72) (lp Try.f72 0).body (lp Try.f72 0).ex ((lp Try.f72 0).lv (retMask Try.f72)) (h72_0_0  v0 v1 v2 v3) (nextR (fun s' => rec_ (s'.tidy ((lp Try.f72 0).lv (retMask Try.f72)))) K) =
      spec_l29Shows_l0b N  v0 v1 v2 v3 (fun v0 v1 v2 v3 => rec_ (h72_0_0  v0 v1 v2 v3)) (fun y0 => K .ret (x72_0_0_k0  y0)) (K (.exit 0) (x72_0_0_k1  )) := by kernel_rfl
theorem ro72_0_0 {β : Type} (N : Nat)  (K : Exit → St → Option β) : ∀ (F : Nat) (v0 : Int) (v1 : Int) (v2 : Int) (v3 : Int), (lp Try.f72 0).rounds lay (E72 N) (retMask Try.f72) F (h72_0_0  v0 v1 v2 v3) K = spec_l29Shows_l0 N  F v0 v1 v2 v3 (fun y0 => K .ret (x72_0_0_k0  y0)) (K (.exit 0) (x72_0_0_k1  )) := by
  intro F
  induction F with
  | zero => intros; rfl
  | succ F ih =>
    intros
    rw [rounds_next]
    refine (st72_0_0 N  _ _ _ _ (fun s => (lp Try.f72 0).rounds lay (E72 N) (retMask Try.f72) F s K) K).trans ?_
    simp only [ih]
    rfl
theorem lk72_0 {β : Type} (N : Nat) : lookL (E72 (β := β) N).loops (lp Try.f72 0).id = LS72_0 N := by kernel_rfl
theorem rk72_0 {β : Type} (N : Nat) : RoundsOK lay (E72 (β := β) N) (retMask Try.f72) (lp Try.f72 0) := by
  intro s K r h
  rw [lk72_0] at h
  unfold LS72_0 at h
  split at h
  · exact ⟨N, (ro72_0_0 N  _ N _ _ _ _).trans h⟩
  · cases h
theorem st72_2_0 {β : Type} (N : Nat)  (v0 : Int) (v1 : Int) (v2 : Int) (v3 : Int) (v4 : Int) (rec_ : St → Option β) (K : Exit → St → Option β) :
    ev lay (E72 N) (retMask Try.f72) (lp Try.f72 1).body (lp Try.f72 1).ex ((lp Try.f72 1).lv (retMask Try.f72)) (h72_2_0  v0 v1 v2 v3 v4) (nextR (fun s' => rec_ (s'.tidy ((lp Try.f72 1).lv (retMask Try.f72)))) K) =
      spec_l29Shows_l2b N  v0 v1 v2 v3 v4 (fun v0 v1 v2 v3 v4 => rec_ (h72_2_0  v0 v1 v2 v3 v4)) (fun y0 => K .ret (x72_2_0_k0  y0)) (fun y0 y1 y2 y3 => K (.exit 2) (x72_2_0_k1  y0 y1 y2 y3)) := by kernel_rfl
theorem ro72_2_0 {β : Type} (N : Nat)  (K : Exit → St → Option β) : ∀ (F : Nat) (v0 : Int) (v1 : Int) (v2 : Int) (v3 : Int) (v4 : Int), (lp Try.f72 1).rounds lay (E72 N) (retMask Try.f72) F (h72_2_0  v0 v1 v2 v3 v4) K = spec_l29Shows_l2 N  F v0 v1 v2 v3 v4 (fun y0 => K .ret (x72_2_0_k0  y0)) (fun y0 y1 y2 y3 => K (.exit 2) (x72_2_0_k1  y0 y1 y2 y3)) := by
  intro F
  induction F with
  | zero => intros; rfl
  | succ F ih =>
    intros
    rw [rounds_next]
    refine (st72_2_0 N  _ _ _ _ _ (fun s => (lp Try.f72 1).rounds lay (E72 N) (retMask Try.f72) F s K) K).trans ?_
    simp only [ih]
    rfl
theorem lk72_2 {β : Type} (N : Nat) : lookL (E72 (β := β) N).loops (lp Try.f72 1).id = LS72_2 N := by kernel_rfl
theorem rk72_2 {β : Type} (N : Nat) : RoundsOK lay (E72 (β := β) N) (retMask Try.f72) (lp Try.f72 1) := by
  intro s K r h
  rw [lk72_2] at h
  unfold LS72_2 at h
  split at h
  · exact ⟨N, (ro72_2_0 N  _ N _ _ _ _ _).trans h⟩
  · cases h
theorem e72_0 {β : Type} (N : Nat)  (a0 : Int) (a1 : Int) (a2 : Int) (K : TV → Option β) : evFn lay (E72 N) Try.f72 [.v (.agg [.int .i64 a0, .int .i64 a1]), .v (.one (.int .i64 a2))] K = spec_l29Shows N a0 a1 a2 (fun z9 => K (.v (.one (.bool z9)))) := by kernel_rfl
theorem o72 {β : Type} (N : Nat) : SpecOK (β := β) Try.prog 72 (S72 N) := by
  refine spec_of lay_ok mixed (E := E72 N) (specs_loops (specs_cons (o59 N) specs_nil)) muts_nil Try.func72 (by kernel_rfl) 2 (by kernel_rfl) ⟨⟨trivial, rk72_0 N⟩, rk72_2 N⟩ fun args K r h => ?_
  unfold S72 at h
  split at h
  · exact (e72_0 N _ _ _ _).trans h
  · cases h
def S44 {β : Type} (N : Nat) : Rv.Spec β := fun args K => match args with
  | [.v (.agg [.int .i64 a0, .int .i64 a1]), .v (.one (.sl 3 (.ints .i64 a2)))] => spec_IsTestSet N a0 a1 a2 (fun z8 => K (.v (.one (.bool z8))))
  | _ => none
def h44_0_0  (v0 : List Int) (v1 : Int) (v2 : Int) (v3 : Int) (v4 : Int) : St := ⟨.v (.one .und) :: .v (.one (.sl 3 (.ints .i64 v0))) :: .v (.one (.ptr 0 0)) :: .v (.one .und) :: .v (.one .und) :: .v (.one (.int .i64 v1)) :: .v (.one (.int .i64 v2)) :: .v (.one .und) :: .v (.one .und) :: .v (.one .und) :: .v (.one .und) :: .v (.one .und) :: .v (.one .und) :: .v (.one .und) :: .v (.one .und) :: .v (.one .und) :: .v (.one .und) :: .v (.one .und) :: .v (.one .und) :: .v (.one .und) :: .v (.one .und) :: .v (.one .und) :: .v (.one .und) :: .v (.one .und) :: .v (.one .und) :: .v (.one .und) :: .v (.one .und) :: .v (.one .und) :: .v (.one .und) :: .v (.one .und) :: .v (.one .und) :: .v (.one .und) :: .v (.one .und) :: .v (.one .und) :: [], [.cells 31 [.int .i64 v3, .int .i64 v4]]⟩
def x44_0_0_k0  (y0 : Bool) : St := ⟨.v (.one .und) :: .v (.one .und) :: .v (.one .und) :: .v (.one .und) :: .v (.one (.bool y0)) :: .v (.one .und) :: .v (.one .und) :: .v (.one .und) :: .v (.one .und) :: .v (.one .und) :: .v (.one .und) :: .v (.one .und) :: .v (.one .und) :: .v (.one .und) :: .v (.one .und) :: .v (.one .und) :: .v (.one .und) :: .v (.one .und) :: .v (.one .und) :: .v (.one .und) :: .v (.one .und) :: .v (.one .und) :: .v (.one .und) :: .v (.one .und) :: .v (.one .und) :: .v (.one .und) :: .v (.one .und) :: .v (.one .und) :: .v (.one .und) :: .v (.one .und) :: .v (.one .und) :: .v (.one .und) :: .v (.one .und) :: .v (.one .und) :: [], []⟩
def x44_0_0_k1  (y0 : Int) (y1 : Int) (y2 : Int) : St := ⟨.v (.one .und) :: .v (.one .und) :: .v (.one (.ptr 0 0)) :: .v (.one .und) :: .v (.one .und) :: .v (.one (.int .i64 y0)) :: .v (.one .und) :: .v (.one .und) :: .v (.one .und) :: .v (.one .und) :: .v (.one .und) :: .v (.one .und) :: .v (.one .und) :: .v (.one .und) :: .v (.one .und) :: .v (.one .und) :: .v (.one .und) :: .v (.one .und) :: .v (.one .und) :: .v (.one .und) :: .v (.one .und) :: .v (.one .und) :: .v (.one .und) :: .v (.one .und) :: .v (.one .und) :: .v (.one .und) :: .v (.one .und) :: .v (.one .und) :: .v (.one .und) :: .v (.one .und) :: .v (.one .und) :: .v (.one .und) :: .v (.one .und) :: .v (.one .und) :: [], [.cells 31 [.int .i64 y1, .int .i64 y2]]⟩
def LS44_0 {β : Type} (N : Nat) : LSpec β := fun s K => match s with
  | ⟨.v (.one .und) :: .v (.one (.sl 3 (.ints .i64 v0))) :: .v (.one (.ptr 0 0)) :: .v (.one .und) :: .v (.one .und) :: .v (.one (.int .i64 v1)) :: .v (.one (.int .i64 v2)) :: .v (.one .und) :: .v (.one .und) :: .v (.one .und) :: .v (.one .und) :: .v (.one .und) :: .v (.one .und) :: .v (.one .und) :: .v (.one .und) :: .v (.one .und) :: .v (.one .und) :: .v (.one .und) :: .v (.one .und) :: .v (.one .und) :: .v (.one .und) :: .v (.one .und) :: .v (.one .und) :: .v (.one .und) :: .v (.one .und) :: .v (.one .und) :: .v (.one .und) :: .v (.one .und) :: .v (.one .und) :: .v (.one .und) :: .v (.one .und) :: .v (.one .und) :: .v (.one .und) :: .v (.one .und) :: [], [.cells 31 [.int .i64 v3, .int .i64 v4]]⟩ => spec_IsTestSet_l0 N  N v0 v1 v2 v3 v4 (fun y0 => K .ret (x44_0_0_k0  y0)) (fun y0 y1 y2 => K (.exit 0) (x44_0_0_k1  y0 y1 y2))
  | _ => none
def E44 {β : Type} (N : Nat) : Env β := ⟨[(66, S66 N), (58, S58 N), (72, S72 N)], [], [(0, LS44_0 N)]⟩
theorem st44_0_0 {β : Type} (N : Nat)  (v0 : List Int) (v1 : Int) (v2 : Int) (v3 : Int) (v4 : Int) (rec_ : St → Option β) (K : Exit → St → Option β) :
    ev lay (E44 N) (retMask Try.f44) (lp Try.f44 0).body (lp Try.f44 0).ex ((lp Try.f44 0).lv (retMask Try.f44)) (h44_0_0  v0 v1 v2 v3 v4) (nextR (fun s' => rec_ (s'.tidy ((lp Try.f44 0).lv (retMask Try.f44)))) K) =
      spec_IsTestSet_l0b N  v0 v1 v2 v3 v4 (fun v0 v1 v2 v3 v4 => rec_ (h44_0_0  v0 v1 v2 v3 v4)) (fun y0 => K .ret (x44_0_0_k0  y0)) (fun y0 y1 y2 => K (.exit 0) (x44_0_0_k1  y0 y1 y2)) := by kernel_rfl
theorem ro44_0_0 {β : Type} (N : Nat)  (K : Exit → St → Option β) : ∀ (F : Nat) (v0 : List Int) (v1 : Int) (v2 : Int) (v3 : Int) (v4 : Int), (lp Try.f44 0).rounds lay (E44 N) (retMask Try.f44) F (h44_0_0  v0 v1 v2 v3 v4) K = spec_IsTestSet_l0 N  F v0 v1 v2 v3 v4 (fun y0 => K .ret (x44_0_0_k0  y0)) (fun y0 y1 y2 => K (.exit 0) (x44_0_0_k1  y0 y1 y2)) := by
  intro F
  induction F with
  | zero => intros; rfl
  | succ F ih =>
    intros
    rw [rounds_next]
    refine (st44_0_0 N  _ _ _ _ _ (fun s => (lp Try.f44 0).rounds lay (E44 N) (retMask Try.f44) F s K) K).trans ?_
    simp only [ih]
    rfl
theorem lk44_0 {β : Type} (N : Nat) : lookL (E44 (β := β) N).loops (lp Try.f44 0).id = LS44_0 N := by kernel_rfl
theorem rk44_0 {β : Type} (N : Nat) : RoundsOK lay (E44 (β := β) N) (retMask Try.f44) (lp Try.f44 0) := by
  intro s K r h
  rw [lk44_0] at h
  unfold LS44_0 at h
  split at h
  · exact ⟨N, (ro44_0_0 N  _ N _ _ _ _ _).trans h⟩
  · cases h
theorem e44_0 {β : Type} (N : Nat)  (a0 : Int) (a1 : Int) (a2 : List Int) (K : TV → Option β) : evFn lay (E44 N) Try.f44 [.v (.agg [.int .i64 a0, .int .i64 a1]), .v (.one (.sl 3 (.ints .i64 a2)))] K = spec_IsTestSet N a0 a1 a2 (fun z8 => K (.v (.one (.bool z8)))) := by kernel_rfl
theorem o44 {β : Type} (N : Nat) : SpecOK (β := β) Try.prog 44 (S44 N) := by
  refine spec_of lay_ok mixed (E := E44 N) (specs_loops (specs_cons (o66 N) (specs_cons (o58 N) (specs_cons (o72 N) specs_nil)))) muts_nil Try.func44 (by kernel_rfl) 1 (by kernel_rfl) ⟨trivial, rk44_0 N⟩ fun args K r h => ?_
  unfold S44 at h
  split at h
  · exact (e44_0 N _ _ _ _).trans h
  · cases h
def S74 {β : Type} (N : Nat) : Rv.Spec β := fun args K => match args with
  | [.v (.one (.int .i64 a0)), .v (.one (.cref [.int .i64 c0, .int .i64 c1] 0))] => impl_IsTestSet_1 N a0 c0 c1 (fun z2 => K (.v (.one (.bool z2))))
  | _ => none
def E74 {β : Type} (N : Nat) : Env β := ⟨[(75, S75 N)], [], []⟩
theorem e74_0 {β : Type} (N : Nat)  (a0 : Int) (c0 : Int) (c1 : Int) (K : TV → Option β) : evFn lay (E74 N) Try.f74 [.v (.one (.int .i64 a0)), .v (.one (.cref [.int .i64 c0, .int .i64 c1] 0))] K = impl_IsTestSet_1 N a0 c0 c1 (fun z2 => K (.v (.one (.bool z2)))) := by kernel_rfl
theorem o74 {β : Type} (N : Nat) : SpecOK (β := β) Try.prog 74 (S74 N) := by
  refine spec_of lay_ok mixed (E := E74 N) (specs_loops (specs_cons (o75 N) specs_nil)) muts_nil Try.func74 (by kernel_rfl) 0 (by kernel_rfl) trivial fun args K r h => ?_
  unfold S74 at h
  split at h
  · exact (e74_0 N _ _ _ _).trans h
  · cases h
def S86 {β : Type} (N : Nat) : Rv.Spec β := fun args K => match args with
  | [.v (.one (.sl 3 (.ints .i64 a0))), .v (.one (.dfn 74 [([.int .i64 q0, .int .i64 q1], 0)]))] => slices_IndexFunc_Sint_int N a0 (fun x0 k => impl_IsTestSet_1 N x0 q0 q1 k) (fun z5 => K (.v (.one (.int .i64 z5))))
  | _ => none
def h86_0_0 (q0 : Int) (q1 : Int) (v0 : List Int) (v1 : Int) (v2 : Int) : St := ⟨.v (.one (.sl 3 (.ints .i64 v0))) :: .v (.one (.dfn 74 [([.int .i64 q0, .int .i64 q1], 0)])) :: .v (.one .und) :: .v (.one .und) :: .v (.one .und) :: .v (.one .und) :: .v (.one .und) :: .v (.one (.int .i64 v1)) :: .v (.one (.int .i64 v2)) :: .v (.one .und) :: .v (.one .und) :: .v (.one .und) :: .v (.one .und) :: .v (.one .und) :: .v (.one .und) :: .v (.one .und) :: .v (.one .und) :: .v (.one .und) :: .v (.one .und) :: [], []⟩
def x86_0_0_k0 (q0 : Int) (q1 : Int) (y0 : Int) : St := ⟨.v (.one .und) :: .v (.one .und) :: .v (.one .und) :: .v (.one .und) :: .v (.one (.int .i64 y0)) :: .v (.one .und) :: .v (.one .und) :: .v (.one .und) :: .v (.one .und) :: .v (.one .und) :: .v (.one .und) :: .v (.one .und) :: .v (.one .und) :: .v (.one .und) :: .v (.one .und) :: .v (.one .und) :: .v (.one .und) :: .v (.one .und) :: .v (.one .und) :: [], []⟩
def x86_0_0_k1 (q0 : Int) (q1 : Int)  : St := ⟨.v (.one .und) :: .v (.one .und) :: .v (.one .und) :: .v (.one .und) :: .v (.one .und) :: .v (.one .und) :: .v (.one .und) :: .v (.one .und) :: .v (.one .und) :: .v (.one .und) :: .v (.one .und) :: .v (.one .und) :: .v (.one .und) :: .v (.one .und) :: .v (.one .und) :: .v (.one .und) :: .v (.one .und) :: .v (.one .und) :: .v (.one .und) :: [], []⟩
def LS86_0 {β : Type} (N : Nat) : LSpec β := fun s K => match s with
  | ⟨.v (.one (.sl 3 (.ints .i64 v0))) :: .v (.one (.dfn 74 [([.int .i64 q0, .int .i64 q1], 0)])) :: .v (.one .und) :: .v (.one .und) :: .v (.one .und) :: .v (.one .und) :: .v (.one .und) :: .v (.one (.int .i64 v1)) :: .v (.one (.int .i64 v2)) :: .v (.one .und) :: .v (.one .und) :: .v (.one .und) :: .v (.one .und) :: .v (.one .und) :: .v (.one .und) :: .v (.one .und) :: .v (.one .und) :: .v (.one .und) :: .v (.one .und) :: [], []⟩ => slices_IndexFunc_Sint_int_l0 N (fun x0 k => impl_IsTestSet_1 N x0 q0 q1 k) N v0 v1 v2 (fun y0 => K .ret (x86_0_0_k0 q0 q1 y0)) (K (.exit 0) (x86_0_0_k1 q0 q1 ))
  | _ => none
def E86 {β : Type} (N : Nat) : Env β := ⟨[(74, S74 N)], [], [(0, LS86_0 N)]⟩
theorem st86_0_0 {β : Type} (N : Nat) (q0 : Int) (q1 : Int) (v0 : List Int) (v1 : Int) (v2 : Int) (rec_ : St → Option β) (K : Exit → St → Option β) :
    ev lay (E86 N) (retMask Try.f86) (lp Try.f86 0).body (lp Try.f86 0).ex ((lp Try.f86 0).lv (retMask Try.f86)) (h86_0_0 q0 q1 v0 v1 v2) (nextR (fun s' => rec_ (s'.tidy ((lp Try.f86 0).lv (retMask Try.f86)))) K) =
      slices_IndexFunc_Sint_int_l0b N (fun x0 k => impl_IsTestSet_1 N x0 q0 q1 k) v0 v1 v2 (fun v0 v1 v2 => rec_ (h86_0_0 q0 q1 v0 v1 v2)) (fun y0 => K .ret (x86_0_0_k0 q0 q1 y0)) (K (.exit 0) (x86_0_0_k1 q0 q1 )) := by kernel_rfl
theorem ro86_0_0 {β : Type} (N : Nat) (q0 : Int) (q1 : Int) (K : Exit → St → Option β) : ∀ (F : Nat) (v0 : List Int) (v1 : Int) (v2 : Int), (lp Try.f86 0).rounds lay (E86 N) (retMask Try.f86) F (h86_0_0 q0 q1 v0 v1 v2) K = slices_IndexFunc_Sint_int_l0 N (fun x0 k => impl_IsTestSet_1 N x0 q0 q1 k) F v0 v1 v2 (fun y0 => K .ret (x86_0_0_k0 q0 q1 y0)) (K (.exit 0) (x86_0_0_k1 q0 q1 )) := by
  intro F
  induction F with
  | zero => intros; rfl
  | succ F ih =>
    intros
    rw [rounds_next]
    refine (st86_0_0 N q0 q1 _ _ _ (fun s => (lp Try.f86 0).rounds lay (E86 N) (retMask Try.f86) F s K) K).trans ?_
    simp only [ih]
    rfl
theorem lk86_0 {β : Type} (N : Nat) : lookL (E86 (β := β) N).loops (lp Try.f86 0).id = LS86_0 N := by kernel_rfl
theorem rk86_0 {β : Type} (N : Nat) : RoundsOK lay (E86 (β := β) N) (retMask Try.f86) (lp Try.f86 0) := by
  intro s K r h
  rw [lk86_0] at h
  unfold LS86_0 at h
  split at h
  · exact ⟨N, (ro86_0_0 N _ _ _ N _ _ _).trans h⟩
  · cases h
theorem e86_0 {β : Type} (N : Nat) (q0 : Int) (q1 : Int) (a0 : List Int) (K : TV → Option β) : evFn lay (E86 N) Try.f86 [.v (.one (.sl 3 (.ints .i64 a0))), .v (.one (.dfn 74 [([.int .i64 q0, .int .i64 q1], 0)]))] K = slices_IndexFunc_Sint_int N a0 (fun x0 k => impl_IsTestSet_1 N x0 q0 q1 k) (fun z5 => K (.v (.one (.int .i64 z5)))) := by kernel_rfl
theorem o86 {β : Type} (N : Nat) : SpecOK (β := β) Try.prog 86 (S86 N) := by
  refine spec_of lay_ok mixed (E := E86 N) (specs_loops (specs_cons (o74 N) specs_nil)) muts_nil Try.func86 (by kernel_rfl) 1 (by kernel_rfl) ⟨trivial, rk86_0 N⟩ fun args K r h => ?_
  unfold S86 at h
  split at h
  · exact (e86_0 N _ _ _ _).trans h
  · cases h
def S73 {β : Type} (N : Nat) : Rv.Spec β := fun args K => match args with
  | [.v (.one (.sl 3 (.ints .i64 a0))), .v (.one (.dfn 74 [([.int .i64 q0, .int .i64 q1], 0)]))] => slices_ContainsFunc_Sint_int N a0 (fun x0 k => impl_IsTestSet_1 N x0 q0 q1 k) (fun z3 => K (.v (.one (.bool z3))))
  | _ => none
def E73 {β : Type} (N : Nat) : Env β := ⟨[(86, S86 N), (74, S74 N)], [], []⟩
theorem e73_0 {β : Type} (N : Nat) (q0 : Int) (q1 : Int) (a0 : List Int) (K : TV → Option β) : evFn lay (E73 N) Try.f73 [.v (.one (.sl 3 (.ints .i64 a0))), .v (.one (.dfn 74 [([.int .i64 q0, .int .i64 q1], 0)]))] K = slices_ContainsFunc_Sint_int N a0 (fun x0 k => impl_IsTestSet_1 N x0 q0 q1 k) (fun z3 => K (.v (.one (.bool z3)))) := by kernel_rfl
theorem o73 {β : Type} (N : Nat) : SpecOK (β := β) Try.prog 73 (S73 N) := by
  refine spec_of lay_ok mixed (E := E73 N) (specs_loops (specs_cons (o86 N) (specs_cons (o74 N) specs_nil))) muts_nil Try.func73 (by kernel_rfl) 0 (by kernel_rfl) trivial fun args K r h => ?_
  unfold S73 at h
  split at h
  · exact (e73_0 N _ _ _ _).trans h
  · cases h
def S76 {β : Type} (N : Nat) : Rv.Spec β := fun args K => match args with
  | [.v (.agg [.int .i64 a0, .int .i64 a1]), .v (.one (.int .i64 a2))] => impl_Table_tests N a0 a1 a2 (fun z8 => K (.v (.one (.bool z8))))
  | _ => none
def h76_0_0  (v0 : Int) (v1 : Int) (v2 : Int) (v3 : Int) (v4 : Int) : St := ⟨.v (.one .und) :: .v (.one (.int .i64 v0)) :: .v (.one (.ptr 0 0)) :: .v (.one .und) :: .v (.one .und) :: .v (.one .und) :: .v (.one .und) :: .v (.one .und) :: .v (.one .und) :: .v (.one (.int .i64 v1)) :: .v (.one (.int .i64 v2)) :: .v (.one .und) :: .v (.one .und) :: .v (.one .und) :: .v (.one .und) :: .v (.one .und) :: .v (.one .und) :: .v (.one .und) :: .v (.one .und) :: .v (.one .und) :: .v (.one .und) :: .v (.one .und) :: .v (.one .und) :: .v (.one .und) :: .v (.one .und) :: .v (.one .und) :: .v (.one .und) :: .v (.one .und) :: .v (.one .und) :: .v (.one .und) :: [], [.cells 31 [.int .i64 v3, .int .i64 v4]]⟩
def x76_0_0_k0  (y0 : Bool) : St := ⟨.v (.one .und) :: .v (.one .und) :: .v (.one .und) :: .v (.one .und) :: .v (.one (.bool y0)) :: .v (.one .und) :: .v (.one .und) :: .v (.one .und) :: .v (.one .und) :: .v (.one .und) :: .v (.one .und) :: .v (.one .und) :: .v (.one .und) :: .v (.one .und) :: .v (.one .und) :: .v (.one .und) :: .v (.one .und) :: .v (.one .und) :: .v (.one .und) :: .v (.one .und) :: .v (.one .und) :: .v (.one .und) :: .v (.one .und) :: .v (.one .und) :: .v (.one .und) :: .v (.one .und) :: .v (.one .und) :: .v (.one .und) :: .v (.one .und) :: .v (.one .und) :: [], []⟩
def x76_0_0_k1   : St := ⟨.v (.one .und) :: .v (.one .und) :: .v (.one .und) :: .v (.one .und) :: .v (.one .und) :: .v (.one .und) :: .v (.one .und) :: .v (.one .und) :: .v (.one .und) :: .v (.one .und) :: .v (.one .und) :: .v (.one .und) :: .v (.one .und) :: .v (.one .und) :: .v (.one .und) :: .v (.one .und) :: .v (.one .und) :: .v (.one .und) :: .v (.one .und) :: .v (.one .und) :: .v (.one .und) :: .v (.one .und) :: .v (.one .und) :: .v (.one .und) :: .v (.one .und) :: .v (.one .und) :: .v (.one .und) :: .v (.one .und) :: .v (.one .und) :: .v (.one .und) :: [], []⟩
def LS76_0 {β : Type} (N : Nat) : LSpec β := fun s K => match s with
  | ⟨.v (.one .und) :: .v (.one (.int .i64 v0)) :: .v (.one (.ptr 0 0)) :: .v (.one .und) :: .v (.one .und) :: .v (.one .und) :: .v (.one .und) :: .v (.one .und) :: .v (.one .und) :: .v (.one (.int .i64 v1)) :: .v (.one (.int .i64 v2)) :: .v (.one .und) :: .v (.one .und) :: .v (.one .und) :: .v (.one .und) :: .v (.one .und) :: .v (.one .und) :: .v (.one .und) :: .v (.one .und) :: .v (.one .und) :: .v (.one .und) :: .v (.one .und) :: .v (.one .und) :: .v (.one .und) :: .v (.one .und) :: .v (.one .und) :: .v (.one .und) :: .v (.one .und) :: .v (.one .und) :: .v (.one .und) :: [], [.cells 31 [.int .i64 v3, .int .i64 v4]]⟩ => impl_Table_tests_l0 N  N v0 v1 v2 v3 v4 (fun y0 => K .ret (x76_0_0_k0  y0)) (K (.exit 0) (x76_0_0_k1  ))
  | _ => none
def h76_2_0  (v0 : Int) (v1 : Int) (v2 : Int) (v3 : Int) (v4 : Int) (v5 : Int) (v6 : Int) : St := ⟨.v (.one .und) :: .v (.one (.int .i64 v0)) :: .v (.one (.ptr 0 0)) :: .v (.one .und) :: .v (.one .und) :: .v (.one (.int .i64 v1)) :: .v (.one .und) :: .v (.one .und) :: .v (.one .und) :: .v (.one (.int .i64 v2)) :: .v (.one (.int .i64 v3)) :: .v (.one .und) :: .v (.one .und) :: .v (.one (.int .i64 v4)) :: .v (.one .und) :: .v (.one .und) :: .v (.one .und) :: .v (.one .und) :: .v (.one .und) :: .v (.one .und) :: .v (.one .und) :: .v (.one .und) :: .v (.one .und) :: .v (.one .und) :: .v (.one .und) :: .v (.one .und) :: .v (.one .und) :: .v (.one .und) :: .v (.one .und) :: .v (.one .und) :: [], [.cells 31 [.int .i64 v5, .int .i64 v6]]⟩
def x76_2_0_k0  (y0 : Bool) : St := ⟨.v (.one .und) :: .v (.one .und) :: .v (.one .und) :: .v (.one .und) :: .v (.one (.bool y0)) :: .v (.one .und) :: .v (.one .und) :: .v (.one .und) :: .v (.one .und) :: .v (.one .und) :: .v (.one .und) :: .v (.one .und) :: .v (.one .und) :: .v (.one .und) :: .v (.one .und) :: .v (.one .und) :: .v (.one .und) :: .v (.one .und) :: .v (.one .und) :: .v (.one .und) :: .v (.one .und) :: .v (.one .und) :: .v (.one .und) :: .v (.one .und) :: .v (.one .und) :: .v (.one .und) :: .v (.one .und) :: .v (.one .und) :: .v (.one .und) :: .v (.one .und) :: [], []⟩
def x76_2_0_k1  (y0 : Int) (y1 : Int) (y2 : Int) (y3 : Int) (y4 : Int) : St := ⟨.v (.one .und) :: .v (.one (.int .i64 y0)) :: .v (.one (.ptr 0 0)) :: .v (.one .und) :: .v (.one .und) :: .v (.one .und) :: .v (.one .und) :: .v (.one .und) :: .v (.one .und) :: .v (.one (.int .i64 y1)) :: .v (.one (.int .i64 y2)) :: .v (.one .und) :: .v (.one .und) :: .v (.one .und) :: .v (.one .und) :: .v (.one .und) :: .v (.one .und) :: .v (.one .und) :: .v (.one .und) :: .v (.one .und) :: .v (.one .und) :: .v (.one .und) :: .v (.one .und) :: .v (.one .und) :: .v (.one .und) :: .v (.one .und) :: .v (.one .und) :: .v (.one .und) :: .v (.one .und) :: .v (.one .und) :: [], [.cells 31 [.int .i64 y3, .int .i64 y4]]⟩
def LS76_2 {β : Type} (N : Nat) : LSpec β := fun s K => match s with
  | ⟨.v (.one .und) :: .v (.one (.int .i64 v0)) :: .v (.one (.ptr 0 0)) :: .v (.one .und) :: .v (.one .und) :: .v (.one (.int .i64 v1)) :: .v (.one .und) :: .v (.one .und) :: .v (.one .und) :: .v (.one (.int .i64 v2)) :: .v (.one (.int .i64 v3)) :: .v (.one .und) :: .v (.one .und) :: .v (.one (.int .i64 v4)) :: .v (.one .und) :: .v (.one .und) :: .v (.one .und) :: .v (.one .und) :: .v (.one .und) :: .v (.one .und) :: .v (.one .und) :: .v (.one .und) :: .v (.one .und) :: .v (.one .und) :: .v (.one .und) :: .v (.one .und) :: .v (.one .und) :: .v (.one .und) :: .v (.one .und) :: .v (.one .und) :: [], [.cells 31 [.int .i64 v5, .int .i64 v6]]⟩ => impl_Table_tests_l2 N  N v0 v1 v2 v3 v4 v5 v6 (fun y0 => K .ret (x76_2_0_k0  y0)) (fun y0 y1 y2 y3 y4 => K (.exit 2) (x76_2_0_k1  y0 y1 y2 y3 y4))
  | _ => none
def E76 {β : Type} (N : Nat) : Env β := ⟨[(65, S65 N)], [], [(0, LS76_0 N), (2, LS76_2 N)]⟩
theorem st76_0_0 {β : Type} (N : Nat)  (v0 : Int) (v1 : Int) (v2 : Int) (v3 : Int) (v4 : Int) (rec_ : St → Option β) (K : Exit → St → Option β) :
    ev lay (E76 N) (retMask Try.f76) (lp Try.f76 0).body (lp Try.f76 0).ex ((lp Try.f76 0).lv (retMask Try.f76)) (h76_0_0  v0 v1 v2 v3 v4) (nextR (fun s' => rec_ (s'.tidy ((lp Try.f76 0).lv (retMask Try.f76)))) K) =
      impl_Table_tests_l0b N  v0 v1 v2 v3 v4 (fun v0 v1 v2 v3 v4 => rec_ (h76_0_0  v0 v1 v2 v3 v4)) (fun y0 => K .ret (x76_0_0_k0  y0)) (K (.exit 0) (x76_0_0_k1  )) := by kernel_rfl
theorem ro76_0_0 {β : Type} (N : Nat)  (K : Exit → St → Option β) : ∀ (F : Nat) (v0 : Int) (v1 : Int) (v2 : Int) (v3 : Int) (v4 : Int), (lp Try.f76 0).rounds lay (E76 N) (retMask Try.f76) F (h76_0_0  v0 v1 v2 v3 v4) K = impl_Table_tests_l0 N  F v0 v1 v2 v3 v4 (fun y0 => K .ret (x76_0_0_k0  y0)) (K (.exit 0) (x76_0_0_k1  )) := by
  intro F
  induction F with
  | zero => intros; rfl
  | succ F ih =>
    intros
    rw [rounds_next]
    refine (st76_0_0 N  _ _ _ _ _ (fun s => (lp Try.f76 0).rounds lay (E76 N) (retMask Try.f76) F s K) K).trans ?_
    simp only [ih]
    rfl
theorem lk76_0 {β : Type} (N : Nat) : lookL (E76 (β := β) N).loops (lp Try.f76 0).id = LS76_0 N := by kernel_rfl
theorem rk76_0 {β : Type} (N : Nat) : RoundsOK lay (E76 (β := β) N) (retMask Try.f76) (lp Try.f76 0) := by
  intro s K r h
  rw [lk76_0] at h
  unfold LS76_0 at h
  split at h
  · exact ⟨N, (ro76_0_0 N  _ N _ _ _ _ _).trans h⟩
  · cases h
theorem st76_2_0 {β : Type} (N : Nat)  (v0 : Int) (v1 : Int) (v2 : Int) (v3 : Int) (v4 : Int) (v5 : Int) (v6 : Int) (rec_ : St → Option β) (K : Exit → St → Option β) :
    ev lay (E76 N) (retMask Try.f76) (lp Try.f76 1).body (lp Try.f76 1).ex ((lp Try.f76 1).lv (retMask Try.f76)) (h76_2_0  v0 v1 v2 v3 v4 v5 v6) (nextR (fun s' => rec_ (s'.tidy ((lp Try.f76 1).lv (retMask Try.f76)))) K) =
      impl_Table_tests_l2b N  v0 v1 v2 v3 v4 v5 v6 (fun v0 v1 v2 v3 v4 v5 v6 => rec_ (h76_2_0  v0 v1 v2 v3 v4 v5 v6)) (fun y0 => K .ret (x76_2_0_k0  y0)) (fun y0 y1 y2 y3 y4 => K (.exit 2) (x76_2_0_k1  y0 y1 y2 y3 y4)) := by kernel_rfl
theorem ro76_2_0 {β : Type} (N : Nat)  (K : Exit → St → Option β) : ∀ (F : Nat) (v0 : Int) (v1 : Int) (v2 : Int) (v3 : Int) (v4 : Int) (v5 : Int) (v6 : Int), (lp Try.f76 1).rounds lay (E76 N) (retMask Try.f76) F (h76_2_0  v0 v1 v2 v3 v4 v5 v6) K = impl_Table_tests_l2 N  F v0 v1 v2 v3 v4 v5 v6 (fun y0 => K .ret (x76_2_0_k0  y0)) (fun y0 y1 y2 y3 y4 => K (.exit 2) (x76_2_0_k1  y0 y1 y2 y3 y4)) := by
  intro F
  induction F with
  | zero => intros; rfl
  | succ F ih =>
    intros
    rw [rounds_next]
    refine (st76_2_0 N  _ _ _ _ _ _ _ (fun s => (lp Try.f76 1).rounds lay (E76 N) (retMask Try.f76) F s K) K).trans ?_
    simp only [ih]
    rfl
theorem lk76_2 {β : Type} (N : Nat) : lookL (E76 (β := β) N).loops (lp Try.f76 1).id = LS76_2 N := by kernel_rfl
theorem rk76_2 {β : Type} (N : Nat) : RoundsOK lay (E76 (β := β) N) (retMask Try.f76) (lp Try.f76 1) := by
  intro s K r h
  rw [lk76_2] at h
  unfold LS76_2 at h
  split at h
  · exact ⟨N, (ro76_2_0 N  _ N _ _ _ _ _ _ _).trans h⟩
  · cases h
theorem e76_0 {β : Type} (N : Nat)  (a0 : Int) (a1 : Int) (a2 : Int) (K : TV → Option β) : evFn lay (E76 N) Try.f76 [.v (.agg [.int .i64 a0, .int .i64 a1]), .v (.one (.int .i64 a2))] K = impl_Table_tests N a0 a1 a2 (fun z8 => K (.v (.one (.bool z8)))) := by kernel_rfl
theorem o76 {β : Type} (N : Nat) : SpecOK (β := β) Try.prog 76 (S76 N) := by
  refine spec_of lay_ok mixed (E := E76 N) (specs_loops (specs_cons (o65 N) specs_nil)) muts_nil Try.func76 (by kernel_rfl) 2 (by kernel_rfl) ⟨⟨trivial, rk76_0 N⟩, rk76_2 N⟩ fun args K r h => ?_
  unfold S76 at h
  split at h
  · exact (e76_0 N _ _ _ _).trans h
  · cases h
def S46 {β : Type} (N : Nat) : Rv.Spec β := fun args K => match args with
  | [.v (.agg [.int .i64 a0, .int .i64 a1]), .v (.one (.sl 3 (.ints .i64 a2)))] => impl_IsTestSet N a0 a1 a2 (fun z7 => K (.v (.one (.bool z7))))
  | _ => none
def h46_0_0  (v0 : Int) (v1 : List Int) (v2 : Int) (v3 : Int) (v4 : Int) (v5 : Int) : St := ⟨.v (.one .und) :: .v (.one .und) :: .v (.one (.ptr 0 0)) :: .v (.one .und) :: .v (.one .und) :: .v (.one (.int .i64 v0)) :: .v (.one .und) :: .v (.one .und) :: .v (.one .und) :: .v (.one .und) :: .v (.one .und) :: .v (.one .und) :: .v (.one .und) :: .v (.one .und) :: .v (.one .und) :: .v (.one .und) :: .v (.one (.sl 3 (.ints .i64 v1))) :: .v (.one (.int .i64 v2)) :: .v (.one (.int .i64 v3)) :: .v (.one .und) :: .v (.one .und) :: .v (.one .und) :: .v (.one .und) :: .v (.one .und) :: .v (.one .und) :: .v (.one .und) :: .v (.one .und) :: .v (.one .und) :: .v (.one .und) :: .v (.one .und) :: [], [.cells 31 [.int .i64 v4, .int .i64 v5]]⟩
def x46_0_0_k0  (y0 : Int) (y1 : Int) (y2 : Int) : St := ⟨.v (.one .und) :: .v (.one .und) :: .v (.one (.ptr 0 0)) :: .v (.one .und) :: .v (.one .und) :: .v (.one (.int .i64 y0)) :: .v (.one .und) :: .v (.one .und) :: .v (.one .und) :: .v (.one .und) :: .v (.one .und) :: .v (.one .und) :: .v (.one .und) :: .v (.one .und) :: .v (.one .und) :: .v (.one .und) :: .v (.one .und) :: .v (.one .und) :: .v (.one .und) :: .v (.one .und) :: .v (.one .und) :: .v (.one .und) :: .v (.one .und) :: .v (.one .und) :: .v (.one .und) :: .v (.one .und) :: .v (.one .und) :: .v (.one .und) :: .v (.one .und) :: .v (.one .und) :: [], [.cells 31 [.int .i64 y1, .int .i64 y2]]⟩
def LS46_0 {β : Type} (N : Nat) : LSpec β := fun s K => match s with
  | ⟨.v (.one .und) :: .v (.one .und) :: .v (.one (.ptr 0 0)) :: .v (.one .und) :: .v (.one .und) :: .v (.one (.int .i64 v0)) :: .v (.one .und) :: .v (.one .und) :: .v (.one .und) :: .v (.one .und) :: .v (.one .und) :: .v (.one .und) :: .v (.one .und) :: .v (.one .und) :: .v (.one .und) :: .v (.one .und) :: .v (.one (.sl 3 (.ints .i64 v1))) :: .v (.one (.int .i64 v2)) :: .v (.one (.int .i64 v3)) :: .v (.one .und) :: .v (.one .und) :: .v (.one .und) :: .v (.one .und) :: .v (.one .und) :: .v (.one .und) :: .v (.one .und) :: .v (.one .und) :: .v (.one .und) :: .v (.one .und) :: .v (.one .und) :: [], [.cells 31 [.int .i64 v4, .int .i64 v5]]⟩ => impl_IsTestSet_l0 N  N v0 v1 v2 v3 v4 v5 (fun y0 y1 y2 => K (.exit 0) (x46_0_0_k0  y0 y1 y2))
  | _ => none
def E46 {β : Type} (N : Nat) : Env β := ⟨[(64, S64 N), (73, S73 N), (74, S74 N), (76, S76 N)], [], [(0, LS46_0 N)]⟩
theorem st46_0_0 {β : Type} (N : Nat)  (v0 : Int) (v1 : List Int) (v2 : Int) (v3 : Int) (v4 : Int) (v5 : Int) (rec_ : St → Option β) (K : Exit → St → Option β) :
    ev lay (E46 N) (retMask Try.f46) (lp Try.f46 0).body (lp Try.f46 0).ex ((lp Try.f46 0).lv (retMask Try.f46)) (h46_0_0  v0 v1 v2 v3 v4 v5) (nextR (fun s' => rec_ (s'.tidy ((lp Try.f46 0).lv (retMask Try.f46)))) K) =
      impl_IsTestSet_l0b N  v0 v1 v2 v3 v4 v5 (fun v0 v1 v2 v3 v4 v5 => rec_ (h46_0_0  v0 v1 v2 v3 v4 v5)) (fun y0 y1 y2 => K (.exit 0) (x46_0_0_k0  y0 y1 y2)) := by kernel_rfl
theorem ro46_0_0 {β : Type} (N : Nat)  (K : Exit → St → Option β) : ∀ (F : Nat) (v0 : Int) (v1 : List Int) (v2 : Int) (v3 : Int) (v4 : Int) (v5 : Int), (lp Try.f46 0).rounds lay (E46 N) (retMask Try.f46) F (h46_0_0  v0 v1 v2 v3 v4 v5) K = impl_IsTestSet_l0 N  F v0 v1 v2 v3 v4 v5 (fun y0 y1 y2 => K (.exit 0) (x46_0_0_k0  y0 y1 y2)) := by
  intro F
  induction F with
  | zero => intros; rfl
  | succ F ih =>
    intros
    rw [rounds_next]
    refine (st46_0_0 N  _ _ _ _ _ _ (fun s => (lp Try.f46 0).rounds lay (E46 N) (retMask Try.f46) F s K) K).trans ?_
    simp only [ih]
    rfl
theorem lk46_0 {β : Type} (N : Nat) : lookL (E46 (β := β) N).loops (lp Try.f46 0).id = LS46_0 N := by kernel_rfl
theorem rk46_0 {β : Type} (N : Nat) : RoundsOK lay (E46 (β := β) N) (retMask Try.f46) (lp Try.f46 0) := by
  intro s K r h
  rw [lk46_0] at h
  unfold LS46_0 at h
  split at h
  · exact ⟨N, (ro46_0_0 N  _ N _ _ _ _ _ _).trans h⟩
  · cases h
theorem e46_0 {β : Type} (N : Nat)  (a0 : Int) (a1 : Int) (a2 : List Int) (K : TV → Option β) : evFn lay (E46 N) Try.f46 [.v (.agg [.int .i64 a0, .int .i64 a1]), .v (.one (.sl 3 (.ints .i64 a2)))] K = impl_IsTestSet N a0 a1 a2 (fun z7 => K (.v (.one (.bool z7)))) := by kernel_rfl
theorem o46 {β : Type} (N : Nat) : SpecOK (β := β) Try.prog 46 (S46 N) := by
  refine spec_of lay_ok mixed (E := E46 N) (specs_loops (specs_cons (o64 N) (specs_cons (o73 N) (specs_cons (o74 N) (specs_cons (o76 N) specs_nil))))) muts_nil Try.func46 (by kernel_rfl) 1 (by kernel_rfl) ⟨trivial, rk46_0 N⟩ fun args K r h => ?_
  unfold S46 at h
  split at h
  · exact (e46_0 N _ _ _ _).trans h
  · cases h
def S12 {β : Type} (N : Nat) : Rv.Spec β := fun args K => match args with
  | [.v (.agg [.int .i64 a0, .int .i64 a1]), .v (.one (.sl 3 (.ints .i64 a2)))] => laws_FnExactIsTestSet N a0 a1 a2 (fun z13 => K (.v (.one (.bool z13))))
  | _ => none
def E12 {β : Type} (N : Nat) : Env β := ⟨[(27, S27 N), (45, S45 N), (44, S44 N), (46, S46 N), (34, S34 N)], [], []⟩
theorem e12_0 {β : Type} (N : Nat)  (a0 : Int) (a1 : Int) (a2 : List Int) (K : TV → Option β) : evFn lay (E12 N) Try.f12 [.v (.agg [.int .i64 a0, .int .i64 a1]), .v (.one (.sl 3 (.ints .i64 a2)))] K = laws_FnExactIsTestSet N a0 a1 a2 (fun z13 => K (.v (.one (.bool z13)))) := by kernel_rfl
theorem o12 {β : Type} (N : Nat) : SpecOK (β := β) Try.prog 12 (S12 N) := by
  refine spec_of lay_ok mixed (E := E12 N) (specs_loops (specs_cons (o27 N) (specs_cons (o45 N) (specs_cons (o44 N) (specs_cons (o46 N) (specs_cons (o34 N) specs_nil)))))) muts_nil Try.func12 (by kernel_rfl) 0 (by kernel_rfl) trivial fun args K r h => ?_
  unfold S12 at h
  split at h
  · exact (e12_0 N _ _ _ _).trans h
  · cases h
def S47 {β : Type} (N : Nat) : Rv.Spec β := fun args K => match args with
  | [.v (.agg [.int .i64 a0, .int .i64 a1, .int .i64 a2, .int .i64 a3, .int .i64 a4, .str a5, .sl 3 (.ints .i64 a6)]), .v (.one (.int .i64 a7))] => laws_szClaim N a0 a1 a2 a3 a4 a5 a6 a7 (fun z9 => K (.v (.one (.int .i64 z9))))
  | _ => none
def E47 {β : Type} (N : Nat) : Env β := ⟨[(68, S68 N)], [], []⟩
theorem e47_0 {β : Type} (N : Nat)  (a0 : Int) (a1 : Int) (a2 : Int) (a3 : Int) (a4 : Int) (a5 : ByteArray) (a6 : List Int) (a7 : Int) (K : TV → Option β) : evFn lay (E47 N) Try.f47 [.v (.agg [.int .i64 a0, .int .i64 a1, .int .i64 a2, .int .i64 a3, .int .i64 a4, .str a5, .sl 3 (.ints .i64 a6)]), .v (.one (.int .i64 a7))] K = laws_szClaim N a0 a1 a2 a3 a4 a5 a6 a7 (fun z9 => K (.v (.one (.int .i64 z9)))) := by kernel_rfl
theorem o47 {β : Type} (N : Nat) : SpecOK (β := β) Try.prog 47 (S47 N) := by
  refine spec_of lay_ok mixed (E := E47 N) (specs_loops (specs_cons (o68 N) specs_nil)) muts_nil Try.func47 (by kernel_rfl) 0 (by kernel_rfl) trivial fun args K r h => ?_
  unfold S47 at h
  split at h
  · exact (e47_0 N _ _ _ _ _ _ _ _ _).trans h
  · cases h
def S49 {β : Type} (N : Nat) : Rv.Spec β := fun args K => match args with
  | [.v (.agg [.int .i64 a0, .int .i64 a1, .int .i64 a2, .int .i64 a3, .int .i64 a4, .str a5, .sl 3 (.ints .i64 a6)])] => laws_toClaim N a0 a1 a2 a3 a4 a5 a6 (fun z10 z11 z12 z13 z14 z15 z16 => K (.v (.agg [.int .i64 z10, .int .i64 z11, .int .i64 z12, .int .i64 z13, .int .i64 z14, .str z15, .sl 3 (.ints .i64 z16)])))
  | _ => none
def E49 {β : Type} (N : Nat) : Env β := ⟨[(27, S27 N), (45, S45 N)], [], []⟩
theorem e49_0 {β : Type} (N : Nat)  (a0 : Int) (a1 : Int) (a2 : Int) (a3 : Int) (a4 : Int) (a5 : ByteArray) (a6 : List Int) (K : TV → Option β) : evFn lay (E49 N) Try.f49 [.v (.agg [.int .i64 a0, .int .i64 a1, .int .i64 a2, .int .i64 a3, .int .i64 a4, .str a5, .sl 3 (.ints .i64 a6)])] K = laws_toClaim N a0 a1 a2 a3 a4 a5 a6 (fun z10 z11 z12 z13 z14 z15 z16 => K (.v (.agg [.int .i64 z10, .int .i64 z11, .int .i64 z12, .int .i64 z13, .int .i64 z14, .str z15, .sl 3 (.ints .i64 z16)]))) := by kernel_rfl
theorem o49 {β : Type} (N : Nat) : SpecOK (β := β) Try.prog 49 (S49 N) := by
  refine spec_of lay_ok mixed (E := E49 N) (specs_loops (specs_cons (o27 N) (specs_cons (o45 N) specs_nil))) muts_nil Try.func49 (by kernel_rfl) 0 (by kernel_rfl) trivial fun args K r h => ?_
  unfold S49 at h
  split at h
  · exact (e49_0 N _ _ _ _ _ _ _ _).trans h
  · cases h
def S48 {β : Type} (N : Nat) : Rv.Spec β := fun args K => match args with
  | [.v (.agg [.int .i64 a0, .int .i64 a1, .int .i64 a2, .int .i64 a3, .int .i64 a4, .str a5, .sl 3 (.ints .i64 a6)]), .v (.agg [.int .i64 a7, .int .i64 a8, .int .i64 a9, .int .i64 a10, .int .i64 a11, .str a12, .sl 3 (.ints .i64 a13)])] => spec_EqualClaims N a0 a1 a2 a3 a4 a5 a6 a7 a8 a9 a10 a11 a12 a13 (fun z15 => K (.v (.one (.bool z15))))
  | _ => none
def E48 {β : Type} (N : Nat) : Env β := ⟨[(69, S69 N)], [], []⟩
theorem e48_0 {β : Type} (N : Nat)  (a0 : Int) (a1 : Int) (a2 : Int) (a3 : Int) (a4 : Int) (a5 : ByteArray) (a6 : List Int) (a7 : Int) (a8 : Int) (a9 : Int) (a10 : Int) (a11 : Int) (a12 : ByteArray) (a13 : List Int) (K : TV → Option β) : evFn lay (E48 N) Try.f48 [.v (.agg [.int .i64 a0, .int .i64 a1, .int .i64 a2, .int .i64 a3, .int .i64 a4, .str a5, .sl 3 (.ints .i64 a6)]), .v (.agg [.int .i64 a7, .int .i64 a8, .int .i64 a9, .int .i64 a10, .int .i64 a11, .str a12, .sl 3 (.ints .i64 a13)])] K = spec_EqualClaims N a0 a1 a2 a3 a4 a5 a6 a7 a8 a9 a10 a11 a12 a13 (fun z15 => K (.v (.one (.bool z15)))) := by kernel_rfl
theorem o48 {β : Type} (N : Nat) : SpecOK (β := β) Try.prog 48 (S48 N) := by
  refine spec_of lay_ok mixed (E := E48 N) (specs_loops (specs_cons (o69 N) specs_nil)) muts_nil Try.func48 (by kernel_rfl) 0 (by kernel_rfl) trivial fun args K r h => ?_
  unfold S48 at h
  split at h
  · exact (e48_0 N _ _ _ _ _ _ _ _ _ _ _ _ _ _ _).trans h
  · cases h
def S50 {β : Type} (N : Nat) : Rv.Spec β := fun args K => match args with
  | [.v (.agg [.int .i64 a0, .int .i64 a1, .int .i64 a2, .int .i64 a3, .int .i64 a4, .str a5, .sl 3 (.ints .i64 a6)]), .v (.agg [.int .i64 a7, .int .i64 a8, .int .i64 a9, .int .i64 a10, .int .i64 a11, .str a12, .sl 3 (.ints .i64 a13)])] => impl_EqualClaims N a0 a1 a2 a3 a4 a5 a6 a7 a8 a9 a10 a11 a12 a13 (fun z15 => K (.v (.one (.bool z15))))
  | _ => none
def E50 {β : Type} (N : Nat) : Env β := ⟨[(70, S70 N)], [], []⟩
theorem e50_0 {β : Type} (N : Nat)  (a0 : Int) (a1 : Int) (a2 : Int) (a3 : Int) (a4 : Int) (a5 : ByteArray) (a6 : List Int) (a7 : Int) (a8 : Int) (a9 : Int) (a10 : Int) (a11 : Int) (a12 : ByteArray) (a13 : List Int) (K : TV → Option β) : evFn lay (E50 N) Try.f50 [.v (.agg [.int .i64 a0, .int .i64 a1, .int .i64 a2, .int .i64 a3, .int .i64 a4, .str a5, .sl 3 (.ints .i64 a6)]), .v (.agg [.int .i64 a7, .int .i64 a8, .int .i64 a9, .int .i64 a10, .int .i64 a11, .str a12, .sl 3 (.ints .i64 a13)])] K = impl_EqualClaims N a0 a1 a2 a3 a4 a5 a6 a7 a8 a9 a10 a11 a12 a13 (fun z15 => K (.v (.one (.bool z15)))) := by kernel_rfl
theorem o50 {β : Type} (N : Nat) : SpecOK (β := β) Try.prog 50 (S50 N) := by
  refine spec_of lay_ok mixed (E := E50 N) (specs_loops (specs_cons (o70 N) specs_nil)) muts_nil Try.func50 (by kernel_rfl) 0 (by kernel_rfl) trivial fun args K r h => ?_
  unfold S50 at h
  split at h
  · exact (e50_0 N _ _ _ _ _ _ _ _ _ _ _ _ _ _ _).trans h
  · cases h
def S51 {β : Type} (N : Nat) : Rv.Spec β := fun args K => match args with
  | [.v (.agg [.int .i64 a0, .int .i64 a1, .int .i64 a2, .int .i64 a3, .int .i64 a4, .str a5, .sl 3 (.ints .i64 a6)]), .v (.agg [.int .i64 a7, .int .i64 a8, .int .i64 a9, .int .i64 a10, .int .i64 a11, .str a12, .sl 3 (.ints .i64 a13)])] => laws_eqClaim N a0 a1 a2 a3 a4 a5 a6 a7 a8 a9 a10 a11 a12 a13 (fun z16 => K (.v (.one (.bool z16))))
  | _ => none
def E51 {β : Type} (N : Nat) : Env β := ⟨[(29, S29 N), (34, S34 N)], [], []⟩
theorem e51_0 {β : Type} (N : Nat)  (a0 : Int) (a1 : Int) (a2 : Int) (a3 : Int) (a4 : Int) (a5 : ByteArray) (a6 : List Int) (a7 : Int) (a8 : Int) (a9 : Int) (a10 : Int) (a11 : Int) (a12 : ByteArray) (a13 : List Int) (K : TV → Option β) : evFn lay (E51 N) Try.f51 [.v (.agg [.int .i64 a0, .int .i64 a1, .int .i64 a2, .int .i64 a3, .int .i64 a4, .str a5, .sl 3 (.ints .i64 a6)]), .v (.agg [.int .i64 a7, .int .i64 a8, .int .i64 a9, .int .i64 a10, .int .i64 a11, .str a12, .sl 3 (.ints .i64 a13)])] K = laws_eqClaim N a0 a1 a2 a3 a4 a5 a6 a7 a8 a9 a10 a11 a12 a13 (fun z16 => K (.v (.one (.bool z16)))) := by kernel_rfl
theorem o51 {β : Type} (N : Nat) : SpecOK (β := β) Try.prog 51 (S51 N) := by
  refine spec_of lay_ok mixed (E := E51 N) (specs_loops (specs_cons (o29 N) (specs_cons (o34 N) specs_nil))) muts_nil Try.func51 (by kernel_rfl) 0 (by kernel_rfl) trivial fun args K r h => ?_
  unfold S51 at h
  split at h
  · exact (e51_0 N _ _ _ _ _ _ _ _ _ _ _ _ _ _ _).trans h
  · cases h
def S13 {β : Type} (N : Nat) : Rv.Spec β := fun args K => match args with
  | [.v (.agg [.int .i64 a0, .int .i64 a1, .int .i64 a2, .int .i64 a3, .int .i64 a4, .str a5, .sl 3 (.ints .i64 a6)]), .v (.agg [.int .i64 a7, .int .i64 a8, .int .i64 a9, .int .i64 a10, .int .i64 a11, .str a12, .sl 3 (.ints .i64 a13)])] => laws_FnExactEqualClaims N a0 a1 a2 a3 a4 a5 a6 a7 a8 a9 a10 a11 a12 a13 (fun z62 => K (.v (.one (.bool z62))))
  | _ => none
def E13 {β : Type} (N : Nat) : Env β := ⟨[(47, S47 N), (49, S49 N), (48, S48 N), (50, S50 N), (51, S51 N)], [], []⟩
theorem e13_0 {β : Type} (N : Nat)  (a0 : Int) (a1 : Int) (a2 : Int) (a3 : Int) (a4 : Int) (a5 : ByteArray) (a6 : List Int) (a7 : Int) (a8 : Int) (a9 : Int) (a10 : Int) (a11 : Int) (a12 : ByteArray) (a13 : List Int) (K : TV → Option β) : evFn lay (E13 N) Try.f13 [.v (.agg [.int .i64 a0, .int .i64 a1, .int .i64 a2, .int .i64 a3, .int .i64 a4, .str a5, .sl 3 (.ints .i64 a6)]), .v (.agg [.int .i64 a7, .int .i64 a8, .int .i64 a9, .int .i64 a10, .int .i64 a11, .str a12, .sl 3 (.ints .i64 a13)])] K = laws_FnExactEqualClaims N a0 a1 a2 a3 a4 a5 a6 a7 a8 a9 a10 a11 a12 a13 (fun z62 => K (.v (.one (.bool z62)))) := by kernel_rfl
theorem o13 {β : Type} (N : Nat) : SpecOK (β := β) Try.prog 13 (S13 N) := by
  refine spec_of lay_ok mixed (E := E13 N) (specs_loops (specs_cons (o47 N) (specs_cons (o49 N) (specs_cons (o48 N) (specs_cons (o50 N) (specs_cons (o51 N) specs_nil)))))) muts_nil Try.func13 (by kernel_rfl) 0 (by kernel_rfl) trivial fun args K r h => ?_
  unfold S13 at h
  split at h
  · exact (e13_0 N _ _ _ _ _ _ _ _ _ _ _ _ _ _ _).trans h
  · cases h
end Go.Proofs.Ytpiipfkopncbeaa
