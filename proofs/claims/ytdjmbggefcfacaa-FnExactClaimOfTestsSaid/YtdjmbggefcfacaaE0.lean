/- The functions that the claims reach answer as their texts do. -/
import Derived.Test.YtdjmbggefcfacaaT0
import Derived.Test.YtdjmbggefcfacaaProg
import Derived.KernelRfl
namespace Go.Proofs.Ytdjmbggefcfacaa
open Go.Rv
set_option maxRecDepth 100000
set_option maxHeartbeats 2000000
set_option linter.unusedVariables false
def lay : Lay := [(2, .int .i64),
  (3, .int .i64),
  (4, .bool),
  (5, .int .u8),
  (9, .string),
  (12, .int .u64),
  (21, .int .i32),
  (22, .struct [⟨0, 1, false⟩, ⟨1, 1, false⟩] [3, 3] 16 true),
  (23, .struct [⟨0, 1, false⟩, ⟨1, 1, false⟩] [3, 3] 16 true),
  (24, .struct [⟨0, 1, false⟩, ⟨1, 1, false⟩] [3, 3] 16 true),
  (25, .slice 3),
  (26, .struct [⟨0, 2, true⟩, ⟨2, 1, false⟩, ⟨3, 1, false⟩] [3, 3, 3, 25] 48 false),
  (27, .struct [⟨0, 2, true⟩, ⟨2, 1, false⟩, ⟨3, 1, false⟩] [3, 3, 3, 25] 48 false),
  (38, .struct [⟨0, 2, true⟩, ⟨2, 1, false⟩, ⟨3, 1, false⟩] [3, 3, 3, 25] 48 false),
  (39, .struct [⟨0, 2, true⟩, ⟨2, 1, false⟩, ⟨3, 1, false⟩] [3, 3, 3, 25] 48 false),
  (44, .struct [⟨0, 1, false⟩, ⟨1, 2, true⟩, ⟨3, 1, false⟩, ⟨4, 1, false⟩, ⟨5, 1, false⟩, ⟨6, 1, false⟩] [3, 3, 3, 3, 3, 9, 25] 80 false),
  (45, .struct [⟨0, 1, false⟩, ⟨1, 2, true⟩, ⟨3, 1, false⟩, ⟨4, 1, false⟩, ⟨5, 1, false⟩, ⟨6, 1, false⟩] [3, 3, 3, 3, 3, 9, 25] 80 false),
  (72, .pointer 94),
  (78, .int .u64),
  (82, .int .u64),
  (93, .struct [⟨0, 1, false⟩, ⟨1, 1, false⟩, ⟨2, 1, false⟩] [5, 72, 72] 24 false),
  (94, .struct [⟨0, 1, false⟩, ⟨1, 1, false⟩, ⟨2, 1, false⟩] [5, 72, 72] 24 false),
  (98, .slice 5),
  (99, .slice 25),
  (103, .slice 127),
  (110, .slice 4),
  (111, .pointer 114),
  (113, .struct [⟨0, 1, false⟩, ⟨1, 1, false⟩, ⟨2, 1, false⟩] [25, 103, 112] 56 false),
  (114, .struct [⟨0, 1, false⟩, ⟨1, 1, false⟩, ⟨2, 1, false⟩] [25, 103, 112] 56 false),
  (117, .int .u32),
  (126, .struct [⟨0, 1, false⟩, ⟨1, 1, false⟩, ⟨2, 1, false⟩] [3, 3, 3] 24 true),
  (127, .struct [⟨0, 1, false⟩, ⟨1, 1, false⟩, ⟨2, 1, false⟩] [3, 3, 3] 24 true),
  (139, .pointer 5)]

theorem lay_ok : LayOK Try.prog lay := layOK_of (by decide +kernel)
theorem mixed : Try.prog.follows .mixedOrders = true := by kernel_rfl
def S13 {β : Type} (N : Nat) : Rv.Spec β := fun args K => match args with
  | [.v (.agg [.int .i64 a0, .int .i64 a1])] => laws_toTable N a0 a1 (fun z2 z3 => K (.v (.agg [.int .i64 z2, .int .i64 z3])))
  | _ => none
def E13 {β : Type} (N : Nat) : Env β := ⟨[], [], []⟩
theorem e13_0 {β : Type} (N : Nat)  (a0 : Int) (a1 : Int) (K : TV → Option β) : evFn lay (E13 N) Try.f13 [.v (.agg [.int .i64 a0, .int .i64 a1])] K = laws_toTable N a0 a1 (fun z2 z3 => K (.v (.agg [.int .i64 z2, .int .i64 z3]))) := by kernel_rfl
theorem o13 {β : Type} (N : Nat) : SpecOK (β := β) Try.prog 13 (S13 N) := by
  refine spec_of lay_ok mixed (E := E13 N) (specs_loops specs_nil) muts_nil Try.func13 (by kernel_rfl) 0 (by kernel_rfl) trivial fun args K r h => ?_
  unfold S13 at h
  split at h
  · exact (e13_0 N _ _ _).trans h
  · cases h
def S73 {β : Type} (N : Nat) : Rv.Spec β := fun args K => match args with
  | [.v (.one (.int .i64 a0)), .v (.one (.int .i64 a1)), .v (.one (.int .i64 a2))] => spec_l1In N a0 a1 a2 (fun z3 => K (.v (.one (.bool z3))))
  | _ => none
def E73 {β : Type} (N : Nat) : Env β := ⟨[], [], []⟩
theorem e73_0 {β : Type} (N : Nat)  (a0 : Int) (a1 : Int) (a2 : Int) (K : TV → Option β) : evFn lay (E73 N) Try.f73 [.v (.one (.int .i64 a0)), .v (.one (.int .i64 a1)), .v (.one (.int .i64 a2))] K = spec_l1In N a0 a1 a2 (fun z3 => K (.v (.one (.bool z3)))) := by kernel_rfl
theorem o73 {β : Type} (N : Nat) : SpecOK (β := β) Try.prog 73 (S73 N) := by
  refine spec_of lay_ok mixed (E := E73 N) (specs_loops specs_nil) muts_nil Try.func73 (by kernel_rfl) 0 (by kernel_rfl) trivial fun args K r h => ?_
  unfold S73 at h
  split at h
  · exact (e73_0 N _ _ _ _).trans h
  · cases h
def S43 {β : Type} (N : Nat) : Rv.Spec β := fun args K => match args with
  | [.v (.agg [.int .i64 a0, .int .i64 a1])] => spec_IsTable N a0 a1 (fun z4 => K (.v (.one (.bool z4))))
  | _ => none
def E43 {β : Type} (N : Nat) : Env β := ⟨[(73, S73 N)], [], []⟩
theorem e43_0 {β : Type} (N : Nat)  (a0 : Int) (a1 : Int) (K : TV → Option β) : evFn lay (E43 N) Try.f43 [.v (.agg [.int .i64 a0, .int .i64 a1])] K = spec_IsTable N a0 a1 (fun z4 => K (.v (.one (.bool z4)))) := by kernel_rfl
theorem o43 {β : Type} (N : Nat) : SpecOK (β := β) Try.prog 43 (S43 N) := by
  refine spec_of lay_ok mixed (E := E43 N) (specs_loops (specs_cons (o73 N) specs_nil)) muts_nil Try.func43 (by kernel_rfl) 0 (by kernel_rfl) trivial fun args K r h => ?_
  unfold S43 at h
  split at h
  · exact (e43_0 N _ _ _).trans h
  · cases h
def S44 {β : Type} (N : Nat) : Rv.Spec β := fun args K => match args with
  | [.v (.one (.int .i64 a0))] => spec_l2Count N a0 (fun z2 => K (.v (.one (.int .i64 z2))))
  | _ => none
def h44_0_0  (v0 : Int) (v1 : Int) : St := ⟨.v (.one .und) :: .v (.one .und) :: .v (.one .und) :: .v (.one (.int .i64 v0)) :: .v (.one (.int .i64 v1)) :: .v (.one .und) :: .v (.one .und) :: .v (.one .und) :: .v (.one .und) :: .v (.one .und) :: .v (.one .und) :: .v (.one .und) :: .v (.one .und) :: .v (.one .und) :: .v (.one .und) :: [], []⟩
def x44_0_0_k0  (y0 : Int) : St := ⟨.v (.one .und) :: .v (.one .und) :: .v (.one .und) :: .v (.one (.int .i64 y0)) :: .v (.one .und) :: .v (.one .und) :: .v (.one .und) :: .v (.one .und) :: .v (.one .und) :: .v (.one .und) :: .v (.one .und) :: .v (.one .und) :: .v (.one .und) :: .v (.one .und) :: .v (.one .und) :: [], []⟩
def LS44_0 {β : Type} (N : Nat) : LSpec β := fun s K => match s with
  | ⟨.v (.one .und) :: .v (.one .und) :: .v (.one .und) :: .v (.one (.int .i64 v0)) :: .v (.one (.int .i64 v1)) :: .v (.one .und) :: .v (.one .und) :: .v (.one .und) :: .v (.one .und) :: .v (.one .und) :: .v (.one .und) :: .v (.one .und) :: .v (.one .und) :: .v (.one .und) :: .v (.one .und) :: [], []⟩ => spec_l2Count_l0 N  N v0 v1 (fun y0 => K (.exit 0) (x44_0_0_k0  y0))
  | _ => none
def E44 {β : Type} (N : Nat) : Env β := ⟨[], [], [(0, LS44_0 N)]⟩
theorem st44_0_0 {β : Type} (N : Nat)  (v0 : Int) (v1 : Int) (rec_ : St → Option β) (K : Exit → St → Option β) :
    ev lay (E44 N) (retMask Try.f44) (lp Try.f44 0).body (lp Try.f44 0).ex ((lp Try.f44 0).lv (retMask Try.f44)) (h44_0_0  v0 v1) (nextR (fun s' => rec_ (s'.tidy ((lp Try.f44 0).lv (retMask Try.f44)))) K) =
      spec_l2Count_l0b N  v0 v1 (fun v0 v1 => rec_ (h44_0_0  v0 v1)) (fun y0 => K (.exit 0) (x44_0_0_k0  y0)) := by kernel_rfl
theorem ro44_0_0 {β : Type} (N : Nat)  (K : Exit → St → Option β) : ∀ (F : Nat) (v0 : Int) (v1 : Int), (lp Try.f44 0).rounds lay (E44 N) (retMask Try.f44) F (h44_0_0  v0 v1) K = spec_l2Count_l0 N  F v0 v1 (fun y0 => K (.exit 0) (x44_0_0_k0  y0)) := by
  intro F
  induction F with
  | zero => intros; rfl
  | succ F ih =>
    intros
    rw [rounds_next]
    refine (st44_0_0 N  _ _ (fun s => (lp Try.f44 0).rounds lay (E44 N) (retMask Try.f44) F s K) K).trans ?_
    simp only [ih]
    rfl
theorem lk44_0 {β : Type} (N : Nat) : lookL (E44 (β := β) N).loops (lp Try.f44 0).id = LS44_0 N := by kernel_rfl
theorem rk44_0 {β : Type} (N : Nat) : RoundsOK lay (E44 (β := β) N) (retMask Try.f44) (lp Try.f44 0) := by
  intro s K r h
  rw [lk44_0] at h
  unfold LS44_0 at h
  split at h
  · exact ⟨N, (ro44_0_0 N  _ N _ _).trans h⟩
  · cases h
theorem e44_0 {β : Type} (N : Nat)  (a0 : Int) (K : TV → Option β) : evFn lay (E44 N) Try.f44 [.v (.one (.int .i64 a0))] K = spec_l2Count N a0 (fun z2 => K (.v (.one (.int .i64 z2)))) := by kernel_rfl
theorem o44 {β : Type} (N : Nat) : SpecOK (β := β) Try.prog 44 (S44 N) := by
  refine spec_of lay_ok mixed (E := E44 N) (specs_loops specs_nil) muts_nil Try.func44 (by kernel_rfl) 1 (by kernel_rfl) ⟨trivial, rk44_0 N⟩ fun args K r h => ?_
  unfold S44 at h
  split at h
  · exact (e44_0 N _ _).trans h
  · cases h
def S45 {β : Type} (N : Nat) : Rv.Spec β := fun args K => match args with
  | [.v (.agg [.int .i64 a0, .int .i64 a1]), .v (.one (.int .i64 a2))] => spec_InfluenceOf N a0 a1 a2 (fun z6 => K (.v (.one (.int .i64 z6))))
  | _ => none
def h45_0_0  (v0 : Int) (v1 : Int) (v2 : Int) (v3 : Int) (v4 : Int) : St := ⟨.v (.one .und) :: .v (.one (.int .i64 v0)) :: .v (.one (.ptr 0 0)) :: .v (.one .und) :: .v (.one .und) :: .v (.one (.int .i64 v1)) :: .v (.one (.int .i64 v2)) :: .v (.one .und) :: .v (.one .und) :: .v (.one .und) :: .v (.one .und) :: .v (.one .und) :: .v (.one .und) :: .v (.one .und) :: .v (.one .und) :: .v (.one .und) :: .v (.one .und) :: .v (.one .und) :: .v (.one .und) :: .v (.one .und) :: .v (.one .und) :: .v (.one .und) :: .v (.one .und) :: .v (.one .und) :: .v (.one .und) :: .v (.one .und) :: .v (.one .und) :: .v (.one .und) :: .v (.one .und) :: .v (.one .und) :: .v (.one .und) :: .v (.one .und) :: .v (.one .und) :: .v (.one .und) :: .v (.one .und) :: .v (.one .und) :: .v (.one .und) :: .v (.one .und) :: .v (.one .und) :: .v (.one .und) :: .v (.one .und) :: [], [.cells 24 [.int .i64 v3, .int .i64 v4]]⟩
def x45_0_0_k0  (y0 : Int) : St := ⟨.v (.one .und) :: .v (.one .und) :: .v (.one .und) :: .v (.one .und) :: .v (.one .und) :: .v (.one (.int .i64 y0)) :: .v (.one .und) :: .v (.one .und) :: .v (.one .und) :: .v (.one .und) :: .v (.one .und) :: .v (.one .und) :: .v (.one .und) :: .v (.one .und) :: .v (.one .und) :: .v (.one .und) :: .v (.one .und) :: .v (.one .und) :: .v (.one .und) :: .v (.one .und) :: .v (.one .und) :: .v (.one .und) :: .v (.one .und) :: .v (.one .und) :: .v (.one .und) :: .v (.one .und) :: .v (.one .und) :: .v (.one .und) :: .v (.one .und) :: .v (.one .und) :: .v (.one .und) :: .v (.one .und) :: .v (.one .und) :: .v (.one .und) :: .v (.one .und) :: .v (.one .und) :: .v (.one .und) :: .v (.one .und) :: .v (.one .und) :: .v (.one .und) :: .v (.one .und) :: [], []⟩
def LS45_0 {β : Type} (N : Nat) : LSpec β := fun s K => match s with
  | ⟨.v (.one .und) :: .v (.one (.int .i64 v0)) :: .v (.one (.ptr 0 0)) :: .v (.one .und) :: .v (.one .und) :: .v (.one (.int .i64 v1)) :: .v (.one (.int .i64 v2)) :: .v (.one .und) :: .v (.one .und) :: .v (.one .und) :: .v (.one .und) :: .v (.one .und) :: .v (.one .und) :: .v (.one .und) :: .v (.one .und) :: .v (.one .und) :: .v (.one .und) :: .v (.one .und) :: .v (.one .und) :: .v (.one .und) :: .v (.one .und) :: .v (.one .und) :: .v (.one .und) :: .v (.one .und) :: .v (.one .und) :: .v (.one .und) :: .v (.one .und) :: .v (.one .und) :: .v (.one .und) :: .v (.one .und) :: .v (.one .und) :: .v (.one .und) :: .v (.one .und) :: .v (.one .und) :: .v (.one .und) :: .v (.one .und) :: .v (.one .und) :: .v (.one .und) :: .v (.one .und) :: .v (.one .und) :: .v (.one .und) :: [], [.cells 24 [.int .i64 v3, .int .i64 v4]]⟩ => spec_InfluenceOf_l0 N  N v0 v1 v2 v3 v4 (fun y0 => K (.exit 0) (x45_0_0_k0  y0))
  | _ => none
def E45 {β : Type} (N : Nat) : Env β := ⟨[(43, S43 N), (73, S73 N)], [], [(0, LS45_0 N)]⟩
theorem st45_0_0 {β : Type} (N : Nat)  (v0 : Int) (v1 : Int) (v2 : Int) (v3 : Int) (v4 : Int) (rec_ : St → Option β) (K : Exit → St → Option β) :
    ev lay (E45 N) (retMask Try.f45) (lp Try.f45 0).body (lp Try.f45 0).ex ((lp Try.f45 0).lv (retMask Try.f45)) (h45_0_0  v0 v1 v2 v3 v4) (nextR (fun s' => rec_ (s'.tidy ((lp Try.f45 0).lv (retMask Try.f45)))) K) =
      spec_InfluenceOf_l0b N  v0 v1 v2 v3 v4 (fun v0 v1 v2 v3 v4 => rec_ (h45_0_0  v0 v1 v2 v3 v4)) (fun y0 => K (.exit 0) (x45_0_0_k0  y0)) := by kernel_rfl
theorem ro45_0_0 {β : Type} (N : Nat)  (K : Exit → St → Option β) : ∀ (F : Nat) (v0 : Int) (v1 : Int) (v2 : Int) (v3 : Int) (v4 : Int), (lp Try.f45 0).rounds lay (E45 N) (retMask Try.f45) F (h45_0_0  v0 v1 v2 v3 v4) K = spec_InfluenceOf_l0 N  F v0 v1 v2 v3 v4 (fun y0 => K (.exit 0) (x45_0_0_k0  y0)) := by
  intro F
  induction F with
  | zero => intros; rfl
  | succ F ih =>
    intros
    rw [rounds_next]
    refine (st45_0_0 N  _ _ _ _ _ (fun s => (lp Try.f45 0).rounds lay (E45 N) (retMask Try.f45) F s K) K).trans ?_
    simp only [ih]
    rfl
theorem lk45_0 {β : Type} (N : Nat) : lookL (E45 (β := β) N).loops (lp Try.f45 0).id = LS45_0 N := by kernel_rfl
theorem rk45_0 {β : Type} (N : Nat) : RoundsOK lay (E45 (β := β) N) (retMask Try.f45) (lp Try.f45 0) := by
  intro s K r h
  rw [lk45_0] at h
  unfold LS45_0 at h
  split at h
  · exact ⟨N, (ro45_0_0 N  _ N _ _ _ _ _).trans h⟩
  · cases h
theorem e45_0 {β : Type} (N : Nat)  (a0 : Int) (a1 : Int) (a2 : Int) (K : TV → Option β) : evFn lay (E45 N) Try.f45 [.v (.agg [.int .i64 a0, .int .i64 a1]), .v (.one (.int .i64 a2))] K = spec_InfluenceOf N a0 a1 a2 (fun z6 => K (.v (.one (.int .i64 z6)))) := by kernel_rfl
theorem o45 {β : Type} (N : Nat) : SpecOK (β := β) Try.prog 45 (S45 N) := by
  refine spec_of lay_ok mixed (E := E45 N) (specs_loops (specs_cons (o43 N) (specs_cons (o73 N) specs_nil))) muts_nil Try.func45 (by kernel_rfl) 1 (by kernel_rfl) ⟨trivial, rk45_0 N⟩ fun args K r h => ?_
  unfold S45 at h
  split at h
  · exact (e45_0 N _ _ _ _).trans h
  · cases h
def S12 {β : Type} (N : Nat) : Rv.Spec β := fun args K => match args with
  | [.v (.agg [.int .i64 a0, .int .i64 a1])] => spec_NewKept N a0 a1 (fun z6 z7 z8 z9 z10 => K (.tup [.agg [.int .i64 z6, .int .i64 z7, .int .i64 z8, .sl 3 (.ints .i64 z9)], .one (.bool z10)]))
  | _ => none
def h12_0_0  (v0 : Int) (v1 : Int) (v2 : Int) (v3 : Int) (v4 : Int) (v5 : Int) (v6 : Int) (v7 : Int) (v8 : Int) (v9 : List Int) (v10 : List Int) : St := ⟨.v (.one .und) :: .v (.one (.ptr 0 0)) :: .v (.one (.ptr 1 0)) :: .v (.one .und) :: .v (.one (.ptr 2 0)) :: .v (.one (.int .i64 v0)) :: .v (.one .und) :: .v (.one .und) :: .v (.one .und) :: .v (.one .und) :: .v (.one .und) :: .v (.one .und) :: .v (.one .und) :: .v (.one .und) :: .v (.one .und) :: .v (.one .und) :: .v (.one .und) :: .v (.one .und) :: .v (.one .und) :: .v (.one .und) :: .v (.one .und) :: .v (.one .und) :: .v (.one .und) :: .v (.one .und) :: .v (.one .und) :: .v (.one .und) :: .v (.one .und) :: .v (.one .und) :: .v (.one .und) :: .v (.one .und) :: .v (.one .und) :: [], [.cells 24 [.int .i64 v1, .int .i64 v2], .cells 27 [.int .i64 v3, .int .i64 v4, .int .i64 v5, .row 3], .cells 27 [.int .i64 v6, .int .i64 v7, .int .i64 v8, .row 4], .row 3 (.ints .i64 v9), .row 3 (.ints .i64 v10)]⟩
def x12_0_0_k0  (y0 : Int) (y1 : Int) (y2 : Int) (y3 : Int) (y4 : Int) (y5 : Int) (y6 : List Int) (y7 : List Int) : St := ⟨.v (.one .und) :: .v (.one .und) :: .v (.one (.ptr 0 0)) :: .v (.one .und) :: .v (.one (.ptr 1 0)) :: .v (.one .und) :: .v (.one .und) :: .v (.one .und) :: .v (.one .und) :: .v (.one .und) :: .v (.one .und) :: .v (.one .und) :: .v (.one .und) :: .v (.one .und) :: .v (.one .und) :: .v (.one .und) :: .v (.one .und) :: .v (.one .und) :: .v (.one .und) :: .v (.one .und) :: .v (.one .und) :: .v (.one .und) :: .v (.one .und) :: .v (.one .und) :: .v (.one .und) :: .v (.one .und) :: .v (.one .und) :: .v (.one .und) :: .v (.one .und) :: .v (.one .und) :: .v (.one .und) :: [], [.cells 27 [.int .i64 y0, .int .i64 y1, .int .i64 y2, .row 2], .cells 27 [.int .i64 y3, .int .i64 y4, .int .i64 y5, .row 3], .row 3 (.ints .i64 y6), .row 3 (.ints .i64 y7)]⟩
def LS12_0 {β : Type} (N : Nat) : LSpec β := fun s K => match s with
  | ⟨.v (.one .und) :: .v (.one (.ptr 0 0)) :: .v (.one (.ptr 1 0)) :: .v (.one .und) :: .v (.one (.ptr 2 0)) :: .v (.one (.int .i64 v0)) :: .v (.one .und) :: .v (.one .und) :: .v (.one .und) :: .v (.one .und) :: .v (.one .und) :: .v (.one .und) :: .v (.one .und) :: .v (.one .und) :: .v (.one .und) :: .v (.one .und) :: .v (.one .und) :: .v (.one .und) :: .v (.one .und) :: .v (.one .und) :: .v (.one .und) :: .v (.one .und) :: .v (.one .und) :: .v (.one .und) :: .v (.one .und) :: .v (.one .und) :: .v (.one .und) :: .v (.one .und) :: .v (.one .und) :: .v (.one .und) :: .v (.one .und) :: [], [.cells 24 [.int .i64 v1, .int .i64 v2], .cells 27 [.int .i64 v3, .int .i64 v4, .int .i64 v5, .row 3], .cells 27 [.int .i64 v6, .int .i64 v7, .int .i64 v8, .row 4], .row 3 (.ints .i64 v9), .row 3 (.ints .i64 v10)]⟩ => spec_NewKept_l0 N  N v0 v1 v2 v3 v4 v5 v6 v7 v8 v9 v10 (fun y0 y1 y2 y3 y4 y5 y6 y7 => K (.exit 0) (x12_0_0_k0  y0 y1 y2 y3 y4 y5 y6 y7))
  | _ => none
def E12 {β : Type} (N : Nat) : Env β := ⟨[(43, S43 N), (44, S44 N), (45, S45 N)], [], [(0, LS12_0 N)]⟩
theorem st12_0_0 {β : Type} (N : Nat)  (v0 : Int) (v1 : Int) (v2 : Int) (v3 : Int) (v4 : Int) (v5 : Int) (v6 : Int) (v7 : Int) (v8 : Int) (v9 : List Int) (v10 : List Int) (rec_ : St → Option β) (K : Exit → St → Option β) :
    ev lay (E12 N) (retMask Try.f12) (lp Try.f12 0).body (lp Try.f12 0).ex ((lp Try.f12 0).lv (retMask Try.f12)) (h12_0_0  v0 v1 v2 v3 v4 v5 v6 v7 v8 v9 v10) (nextR (fun s' => rec_ (s'.tidy ((lp Try.f12 0).lv (retMask Try.f12)))) K) =
      spec_NewKept_l0b N  v0 v1 v2 v3 v4 v5 v6 v7 v8 v9 v10 (fun v0 v1 v2 v3 v4 v5 v6 v7 v8 v9 v10 => rec_ (h12_0_0  v0 v1 v2 v3 v4 v5 v6 v7 v8 v9 v10)) (fun y0 y1 y2 y3 y4 y5 y6 y7 => K (.exit 0) (x12_0_0_k0  y0 y1 y2 y3 y4 y5 y6 y7)) := by kernel_rfl
theorem ro12_0_0 {β : Type} (N : Nat)  (K : Exit → St → Option β) : ∀ (F : Nat) (v0 : Int) (v1 : Int) (v2 : Int) (v3 : Int) (v4 : Int) (v5 : Int) (v6 : Int) (v7 : Int) (v8 : Int) (v9 : List Int) (v10 : List Int), (lp Try.f12 0).rounds lay (E12 N) (retMask Try.f12) F (h12_0_0  v0 v1 v2 v3 v4 v5 v6 v7 v8 v9 v10) K = spec_NewKept_l0 N  F v0 v1 v2 v3 v4 v5 v6 v7 v8 v9 v10 (fun y0 y1 y2 y3 y4 y5 y6 y7 => K (.exit 0) (x12_0_0_k0  y0 y1 y2 y3 y4 y5 y6 y7)) := by
  intro F
  induction F with
  | zero => intros; rfl
  | succ F ih =>
    intros
    rw [rounds_next]
    refine (st12_0_0 N  _ _ _ _ _ _ _ _ _ _ _ (fun s => (lp Try.f12 0).rounds lay (E12 N) (retMask Try.f12) F s K) K).trans ?_
    simp only [ih]
    rfl
theorem lk12_0 {β : Type} (N : Nat) : lookL (E12 (β := β) N).loops (lp Try.f12 0).id = LS12_0 N := by kernel_rfl
theorem rk12_0 {β : Type} (N : Nat) : RoundsOK lay (E12 (β := β) N) (retMask Try.f12) (lp Try.f12 0) := by
  intro s K r h
  rw [lk12_0] at h
  unfold LS12_0 at h
  split at h
  · exact ⟨N, (ro12_0_0 N  _ N _ _ _ _ _ _ _ _ _ _ _).trans h⟩
  · cases h
theorem e12_0 {β : Type} (N : Nat)  (a0 : Int) (a1 : Int) (K : TV → Option β) : evFn lay (E12 N) Try.f12 [.v (.agg [.int .i64 a0, .int .i64 a1])] K = spec_NewKept N a0 a1 (fun z6 z7 z8 z9 z10 => K (.tup [.agg [.int .i64 z6, .int .i64 z7, .int .i64 z8, .sl 3 (.ints .i64 z9)], .one (.bool z10)])) := by kernel_rfl
theorem o12 {β : Type} (N : Nat) : SpecOK (β := β) Try.prog 12 (S12 N) := by
  refine spec_of lay_ok mixed (E := E12 N) (specs_loops (specs_cons (o43 N) (specs_cons (o44 N) (specs_cons (o45 N) specs_nil)))) muts_nil Try.func12 (by kernel_rfl) 1 (by kernel_rfl) ⟨trivial, rk12_0 N⟩ fun args K r h => ?_
  unfold S12 at h
  split at h
  · exact (e12_0 N _ _ _).trans h
  · cases h
def S74 {β : Type} (N : Nat) : Rv.Spec β := fun args K => match args with
  | [.v (.one (.int .i64 a0))] => impl_isBits N a0 (fun z1 => K (.v (.one (.bool z1))))
  | _ => none
def E74 {β : Type} (N : Nat) : Env β := ⟨[], [], []⟩
theorem e74_0 {β : Type} (N : Nat)  (a0 : Int) (K : TV → Option β) : evFn lay (E74 N) Try.f74 [.v (.one (.int .i64 a0))] K = impl_isBits N a0 (fun z1 => K (.v (.one (.bool z1)))) := by kernel_rfl
theorem o74 {β : Type} (N : Nat) : SpecOK (β := β) Try.prog 74 (S74 N) := by
  refine spec_of lay_ok mixed (E := E74 N) (specs_loops specs_nil) muts_nil Try.func74 (by kernel_rfl) 0 (by kernel_rfl) trivial fun args K r h => ?_
  unfold S74 at h
  split at h
  · exact (e74_0 N _ _).trans h
  · cases h
def S52 {β : Type} (N : Nat) : Rv.Spec β := fun args K => match args with
  | [.v (.agg [.int .i64 a0, .int .i64 a1])] => impl_Table_size N a0 a1 (fun z2 => K (.v (.one (.int .i64 z2))))
  | _ => none
def E52 {β : Type} (N : Nat) : Env β := ⟨[], [], []⟩
theorem e52_0 {β : Type} (N : Nat)  (a0 : Int) (a1 : Int) (K : TV → Option β) : evFn lay (E52 N) Try.f52 [.v (.agg [.int .i64 a0, .int .i64 a1])] K = impl_Table_size N a0 a1 (fun z2 => K (.v (.one (.int .i64 z2)))) := by kernel_rfl
theorem o52 {β : Type} (N : Nat) : SpecOK (β := β) Try.prog 52 (S52 N) := by
  refine spec_of lay_ok mixed (E := E52 N) (specs_loops specs_nil) muts_nil Try.func52 (by kernel_rfl) 0 (by kernel_rfl) trivial fun args K r h => ?_
  unfold S52 at h
  split at h
  · exact (e52_0 N _ _ _).trans h
  · cases h
def S46 {β : Type} (N : Nat) : Rv.Spec β := fun args K => match args with
  | [.v (.agg [.int .i64 a0, .int .i64 a1])] => impl_IsTable N a0 a1 (fun z4 => K (.v (.one (.bool z4))))
  | _ => none
def E46 {β : Type} (N : Nat) : Env β := ⟨[(74, S74 N), (52, S52 N)], [], []⟩
theorem e46_0 {β : Type} (N : Nat)  (a0 : Int) (a1 : Int) (K : TV → Option β) : evFn lay (E46 N) Try.f46 [.v (.agg [.int .i64 a0, .int .i64 a1])] K = impl_IsTable N a0 a1 (fun z4 => K (.v (.one (.bool z4)))) := by kernel_rfl
theorem o46 {β : Type} (N : Nat) : SpecOK (β := β) Try.prog 46 (S46 N) := by
  refine spec_of lay_ok mixed (E := E46 N) (specs_loops (specs_cons (o74 N) (specs_cons (o52 N) specs_nil))) muts_nil Try.func46 (by kernel_rfl) 0 (by kernel_rfl) trivial fun args K r h => ?_
  unfold S46 at h
  split at h
  · exact (e46_0 N _ _ _).trans h
  · cases h
def S77 {β : Type} (N : Nat) : Rv.Spec β := fun args K => match args with
  | [.v (.one (.int .u64 a0))] => math_bits_OnesCount64 N a0 (fun z1 => K (.v (.one (.int .i64 z1))))
  | _ => none
def E77 {β : Type} (N : Nat) : Env β := ⟨[], [], []⟩
theorem e77_0 {β : Type} (N : Nat)  (a0 : Int) (K : TV → Option β) : evFn lay (E77 N) Try.f77 [.v (.one (.int .u64 a0))] K = math_bits_OnesCount64 N a0 (fun z1 => K (.v (.one (.int .i64 z1)))) := by kernel_rfl
theorem o77 {β : Type} (N : Nat) : SpecOK (β := β) Try.prog 77 (S77 N) := by
  refine spec_of lay_ok mixed (E := E77 N) (specs_loops specs_nil) muts_nil Try.func77 (by kernel_rfl) 0 (by kernel_rfl) trivial fun args K r h => ?_
  unfold S77 at h
  split at h
  · exact (e77_0 N _ _).trans h
  · cases h
def S53 {β : Type} (N : Nat) : Rv.Spec β := fun args K => match args with
  | [.v (.one (.int .i64 a0))] => impl_ones N a0 (fun z2 => K (.v (.one (.int .i64 z2))))
  | _ => none
def E53 {β : Type} (N : Nat) : Env β := ⟨[(77, S77 N)], [], []⟩
theorem e53_0 {β : Type} (N : Nat)  (a0 : Int) (K : TV → Option β) : evFn lay (E53 N) Try.f53 [.v (.one (.int .i64 a0))] K = impl_ones N a0 (fun z2 => K (.v (.one (.int .i64 z2)))) := by kernel_rfl
theorem o53 {β : Type} (N : Nat) : SpecOK (β := β) Try.prog 53 (S53 N) := by
  refine spec_of lay_ok mixed (E := E53 N) (specs_loops (specs_cons (o77 N) specs_nil)) muts_nil Try.func53 (by kernel_rfl) 0 (by kernel_rfl) trivial fun args K r h => ?_
  unfold S53 at h
  split at h
  · exact (e53_0 N _ _).trans h
  · cases h
def S85 {β : Type} (N : Nat) : Rv.Spec β := fun args K => match args with
  | [.v (.agg [.int .i64 a0, .int .i64 a1]), .v (.one (.int .i64 a2))] => impl_Table_at N a0 a1 a2 (fun z3 => K (.v (.one (.int .i64 z3))))
  | _ => none
def E85 {β : Type} (N : Nat) : Env β := ⟨[], [], []⟩
theorem e85_0 {β : Type} (N : Nat)  (a0 : Int) (a1 : Int) (a2 : Int) (K : TV → Option β) : evFn lay (E85 N) Try.f85 [.v (.agg [.int .i64 a0, .int .i64 a1]), .v (.one (.int .i64 a2))] K = impl_Table_at N a0 a1 a2 (fun z3 => K (.v (.one (.int .i64 z3)))) := by kernel_rfl
theorem o85 {β : Type} (N : Nat) : SpecOK (β := β) Try.prog 85 (S85 N) := by
  refine spec_of lay_ok mixed (E := E85 N) (specs_loops specs_nil) muts_nil Try.func85 (by kernel_rfl) 0 (by kernel_rfl) trivial fun args K r h => ?_
  unfold S85 at h
  split at h
  · exact (e85_0 N _ _ _ _).trans h
  · cases h
def S105 {β : Type} (N : Nat) : Rv.Spec β := fun args K => match args with
  | [.v (.agg [.int .i64 a0, .int .i64 a1]), .v (.one (.int .i64 a2)), .v (.one (.int .i64 a3))] => impl_Table_changes N a0 a1 a2 a3 (fun z6 => K (.v (.one (.bool z6))))
  | _ => none
def E105 {β : Type} (N : Nat) : Env β := ⟨[(85, S85 N)], [], []⟩
theorem e105_0 {β : Type} (N : Nat)  (a0 : Int) (a1 : Int) (a2 : Int) (a3 : Int) (K : TV → Option β) : evFn lay (E105 N) Try.f105 [.v (.agg [.int .i64 a0, .int .i64 a1]), .v (.one (.int .i64 a2)), .v (.one (.int .i64 a3))] K = impl_Table_changes N a0 a1 a2 a3 (fun z6 => K (.v (.one (.bool z6)))) := by kernel_rfl
theorem o105 {β : Type} (N : Nat) : SpecOK (β := β) Try.prog 105 (S105 N) := by
  refine spec_of lay_ok mixed (E := E105 N) (specs_loops (specs_cons (o85 N) specs_nil)) muts_nil Try.func105 (by kernel_rfl) 0 (by kernel_rfl) trivial fun args K r h => ?_
  unfold S105 at h
  split at h
  · exact (e105_0 N _ _ _ _ _).trans h
  · cases h
def S96 {β : Type} (N : Nat) : Rv.Spec β := fun args K => match args with
  | [.v (.agg [.int .i64 a0, .int .i64 a1]), .v (.one (.int .i64 a2))] => impl_Table_influence N a0 a1 a2 (fun z6 => K (.v (.one (.int .i64 z6))))
  | _ => none
def h96_0_0  (v0 : Int) (v1 : Int) (v2 : Int) (v3 : Int) (v4 : Int) (v5 : Int) : St := ⟨.v (.one .und) :: .v (.one (.int .i64 v0)) :: .v (.one (.ptr 0 0)) :: .v (.one .und) :: .v (.one .und) :: .v (.one (.int .i64 v1)) :: .v (.one .und) :: .v (.one .und) :: .v (.one (.int .i64 v2)) :: .v (.one (.int .i64 v3)) :: .v (.one .und) :: .v (.one .und) :: .v (.one .und) :: .v (.one .und) :: .v (.one .und) :: .v (.one .und) :: .v (.one .und) :: .v (.one .und) :: .v (.one .und) :: .v (.one .und) :: .v (.one .und) :: [], [.cells 24 [.int .i64 v4, .int .i64 v5]]⟩
def x96_0_0_k0  (y0 : Int) : St := ⟨.v (.one .und) :: .v (.one .und) :: .v (.one .und) :: .v (.one .und) :: .v (.one .und) :: .v (.one (.int .i64 y0)) :: .v (.one .und) :: .v (.one .und) :: .v (.one .und) :: .v (.one .und) :: .v (.one .und) :: .v (.one .und) :: .v (.one .und) :: .v (.one .und) :: .v (.one .und) :: .v (.one .und) :: .v (.one .und) :: .v (.one .und) :: .v (.one .und) :: .v (.one .und) :: .v (.one .und) :: [], []⟩
def LS96_0 {β : Type} (N : Nat) : LSpec β := fun s K => match s with
  | ⟨.v (.one .und) :: .v (.one (.int .i64 v0)) :: .v (.one (.ptr 0 0)) :: .v (.one .und) :: .v (.one .und) :: .v (.one (.int .i64 v1)) :: .v (.one .und) :: .v (.one .und) :: .v (.one (.int .i64 v2)) :: .v (.one (.int .i64 v3)) :: .v (.one .und) :: .v (.one .und) :: .v (.one .und) :: .v (.one .und) :: .v (.one .und) :: .v (.one .und) :: .v (.one .und) :: .v (.one .und) :: .v (.one .und) :: .v (.one .und) :: .v (.one .und) :: [], [.cells 24 [.int .i64 v4, .int .i64 v5]]⟩ => impl_Table_influence_l0 N  N v0 v1 v2 v3 v4 v5 (fun y0 => K (.exit 0) (x96_0_0_k0  y0))
  | _ => none
def E96 {β : Type} (N : Nat) : Env β := ⟨[(52, S52 N), (105, S105 N)], [], [(0, LS96_0 N)]⟩
theorem st96_0_0 {β : Type} (N : Nat)  (v0 : Int) (v1 : Int) (v2 : Int) (v3 : Int) (v4 : Int) (v5 : Int) (rec_ : St → Option β) (K : Exit → St → Option β) :
    ev lay (E96 N) (retMask Try.f96) (lp Try.f96 0).body (lp Try.f96 0).ex ((lp Try.f96 0).lv (retMask Try.f96)) (h96_0_0  v0 v1 v2 v3 v4 v5) (nextR (fun s' => rec_ (s'.tidy ((lp Try.f96 0).lv (retMask Try.f96)))) K) =
      impl_Table_influence_l0b N  v0 v1 v2 v3 v4 v5 (fun v0 v1 v2 v3 v4 v5 => rec_ (h96_0_0  v0 v1 v2 v3 v4 v5)) (fun y0 => K (.exit 0) (x96_0_0_k0  y0)) := by kernel_rfl
theorem ro96_0_0 {β : Type} (N : Nat)  (K : Exit → St → Option β) : ∀ (F : Nat) (v0 : Int) (v1 : Int) (v2 : Int) (v3 : Int) (v4 : Int) (v5 : Int), (lp Try.f96 0).rounds lay (E96 N) (retMask Try.f96) F (h96_0_0  v0 v1 v2 v3 v4 v5) K = impl_Table_influence_l0 N  F v0 v1 v2 v3 v4 v5 (fun y0 => K (.exit 0) (x96_0_0_k0  y0)) := by
  intro F
  induction F with
  | zero => intros; rfl
  | succ F ih =>
    intros
    rw [rounds_next]
    refine (st96_0_0 N  _ _ _ _ _ _ (fun s => (lp Try.f96 0).rounds lay (E96 N) (retMask Try.f96) F s K) K).trans ?_
    simp only [ih]
    rfl
theorem lk96_0 {β : Type} (N : Nat) : lookL (E96 (β := β) N).loops (lp Try.f96 0).id = LS96_0 N := by kernel_rfl
theorem rk96_0 {β : Type} (N : Nat) : RoundsOK lay (E96 (β := β) N) (retMask Try.f96) (lp Try.f96 0) := by
  intro s K r h
  rw [lk96_0] at h
  unfold LS96_0 at h
  split at h
  · exact ⟨N, (ro96_0_0 N  _ N _ _ _ _ _ _).trans h⟩
  · cases h
theorem e96_0 {β : Type} (N : Nat)  (a0 : Int) (a1 : Int) (a2 : Int) (K : TV → Option β) : evFn lay (E96 N) Try.f96 [.v (.agg [.int .i64 a0, .int .i64 a1]), .v (.one (.int .i64 a2))] K = impl_Table_influence N a0 a1 a2 (fun z6 => K (.v (.one (.int .i64 z6)))) := by kernel_rfl
theorem o96 {β : Type} (N : Nat) : SpecOK (β := β) Try.prog 96 (S96 N) := by
  refine spec_of lay_ok mixed (E := E96 N) (specs_loops (specs_cons (o52 N) (specs_cons (o105 N) specs_nil))) muts_nil Try.func96 (by kernel_rfl) 1 (by kernel_rfl) ⟨trivial, rk96_0 N⟩ fun args K r h => ?_
  unfold S96 at h
  split at h
  · exact (e96_0 N _ _ _ _).trans h
  · cases h
def S75 {β : Type} (N : Nat) : Rv.Spec β := fun args K => match args with
  | [.v (.agg [.int .i64 a0, .int .i64 a1])] => impl_Table_influences N a0 a1 (fun z4 => K (.v (.one (.sl 3 (.ints .i64 z4)))))
  | _ => none
def h75_0_0  (v0 : Int) (v1 : Int) (v2 : Int) (v3 : Int) (v4 : List Int) : St := ⟨.v (.one .und) :: .v (.one (.ptr 0 0)) :: .v (.one .und) :: .v (.one (.row 1)) :: .v (.one .und) :: .v (.one .und) :: .v (.one .und) :: .v (.one .und) :: .v (.one .und) :: .v (.one (.int .i64 v0)) :: .v (.one (.int .i64 v1)) :: .v (.one .und) :: .v (.one .und) :: .v (.one .und) :: .v (.one .und) :: .v (.one .und) :: .v (.one .und) :: .v (.one .und) :: .v (.one .und) :: .v (.one .und) :: .v (.one .und) :: [], [.cells 24 [.int .i64 v2, .int .i64 v3], .row 3 (.ints .i64 v4)]⟩
def x75_0_0_k0  (y0 : List Int) : St := ⟨.v (.one .und) :: .v (.one .und) :: .v (.one .und) :: .v (.one (.row 0)) :: .v (.one .und) :: .v (.one .und) :: .v (.one .und) :: .v (.one .und) :: .v (.one .und) :: .v (.one .und) :: .v (.one .und) :: .v (.one .und) :: .v (.one .und) :: .v (.one .und) :: .v (.one .und) :: .v (.one .und) :: .v (.one .und) :: .v (.one .und) :: .v (.one .und) :: .v (.one .und) :: .v (.one .und) :: [], [.row 3 (.ints .i64 y0)]⟩
def LS75_0 {β : Type} (N : Nat) : LSpec β := fun s K => match s with
  | ⟨.v (.one .und) :: .v (.one (.ptr 0 0)) :: .v (.one .und) :: .v (.one (.row 1)) :: .v (.one .und) :: .v (.one .und) :: .v (.one .und) :: .v (.one .und) :: .v (.one .und) :: .v (.one (.int .i64 v0)) :: .v (.one (.int .i64 v1)) :: .v (.one .und) :: .v (.one .und) :: .v (.one .und) :: .v (.one .und) :: .v (.one .und) :: .v (.one .und) :: .v (.one .und) :: .v (.one .und) :: .v (.one .und) :: .v (.one .und) :: [], [.cells 24 [.int .i64 v2, .int .i64 v3], .row 3 (.ints .i64 v4)]⟩ => impl_Table_influences_l0 N  N v0 v1 v2 v3 v4 (fun y0 => K (.exit 0) (x75_0_0_k0  y0))
  | _ => none
def E75 {β : Type} (N : Nat) : Env β := ⟨[(96, S96 N)], [], [(0, LS75_0 N)]⟩
theorem st75_0_0 {β : Type} (N : Nat)  (v0 : Int) (v1 : Int) (v2 : Int) (v3 : Int) (v4 : List Int) (rec_ : St → Option β) (K : Exit → St → Option β) :
    ev lay (E75 N) (retMask Try.f75) (lp Try.f75 0).body (lp Try.f75 0).ex ((lp Try.f75 0).lv (retMask Try.f75)) (h75_0_0  v0 v1 v2 v3 v4) (nextR (fun s' => rec_ (s'.tidy ((lp Try.f75 0).lv (retMask Try.f75)))) K) =
      impl_Table_influences_l0b N  v0 v1 v2 v3 v4 (fun v0 v1 v2 v3 v4 => rec_ (h75_0_0  v0 v1 v2 v3 v4)) (fun y0 => K (.exit 0) (x75_0_0_k0  y0)) := by kernel_rfl
theorem ro75_0_0 {β : Type} (N : Nat)  (K : Exit → St → Option β) : ∀ (F : Nat) (v0 : Int) (v1 : Int) (v2 : Int) (v3 : Int) (v4 : List Int), (lp Try.f75 0).rounds lay (E75 N) (retMask Try.f75) F (h75_0_0  v0 v1 v2 v3 v4) K = impl_Table_influences_l0 N  F v0 v1 v2 v3 v4 (fun y0 => K (.exit 0) (x75_0_0_k0  y0)) := by
  intro F
  induction F with
  | zero => intros; rfl
  | succ F ih =>
    intros
    rw [rounds_next]
    refine (st75_0_0 N  _ _ _ _ _ (fun s => (lp Try.f75 0).rounds lay (E75 N) (retMask Try.f75) F s K) K).trans ?_
    simp only [ih]
    rfl
theorem lk75_0 {β : Type} (N : Nat) : lookL (E75 (β := β) N).loops (lp Try.f75 0).id = LS75_0 N := by kernel_rfl
theorem rk75_0 {β : Type} (N : Nat) : RoundsOK lay (E75 (β := β) N) (retMask Try.f75) (lp Try.f75 0) := by
  intro s K r h
  rw [lk75_0] at h
  unfold LS75_0 at h
  split at h
  · exact ⟨N, (ro75_0_0 N  _ N _ _ _ _ _).trans h⟩
  · cases h
theorem e75_0 {β : Type} (N : Nat)  (a0 : Int) (a1 : Int) (K : TV → Option β) : evFn lay (E75 N) Try.f75 [.v (.agg [.int .i64 a0, .int .i64 a1])] K = impl_Table_influences N a0 a1 (fun z4 => K (.v (.one (.sl 3 (.ints .i64 z4))))) := by kernel_rfl
theorem o75 {β : Type} (N : Nat) : SpecOK (β := β) Try.prog 75 (S75 N) := by
  refine spec_of lay_ok mixed (E := E75 N) (specs_loops (specs_cons (o96 N) specs_nil)) muts_nil Try.func75 (by kernel_rfl) 1 (by kernel_rfl) ⟨trivial, rk75_0 N⟩ fun args K r h => ?_
  unfold S75 at h
  split at h
  · exact (e75_0 N _ _ _).trans h
  · cases h
def S47 {β : Type} (N : Nat) : Rv.Spec β := fun args K => match args with
  | [.v (.agg [.int .i64 a0, .int .i64 a1])] => impl_Table_kept N a0 a1 (fun z4 z5 z6 z7 => K (.v (.agg [.int .i64 z4, .int .i64 z5, .int .i64 z6, .sl 3 (.ints .i64 z7)])))
  | _ => none
def E47 {β : Type} (N : Nat) : Env β := ⟨[(53, S53 N), (75, S75 N)], [], []⟩
theorem e47_0 {β : Type} (N : Nat)  (a0 : Int) (a1 : Int) (K : TV → Option β) : evFn lay (E47 N) Try.f47 [.v (.agg [.int .i64 a0, .int .i64 a1])] K = impl_Table_kept N a0 a1 (fun z4 z5 z6 z7 => K (.v (.agg [.int .i64 z4, .int .i64 z5, .int .i64 z6, .sl 3 (.ints .i64 z7)]))) := by kernel_rfl
theorem o47 {β : Type} (N : Nat) : SpecOK (β := β) Try.prog 47 (S47 N) := by
  refine spec_of lay_ok mixed (E := E47 N) (specs_loops (specs_cons (o53 N) (specs_cons (o75 N) specs_nil))) muts_nil Try.func47 (by kernel_rfl) 0 (by kernel_rfl) trivial fun args K r h => ?_
  unfold S47 at h
  split at h
  · exact (e47_0 N _ _ _).trans h
  · cases h
def S14 {β : Type} (N : Nat) : Rv.Spec β := fun args K => match args with
  | [.v (.agg [.int .i64 a0, .int .i64 a1])] => impl_NewKept N a0 a1 (fun z7 z8 z9 z10 z11 => K (.tup [.agg [.int .i64 z7, .int .i64 z8, .int .i64 z9, .sl 3 (.ints .i64 z10)], .one (.bool z11)]))
  | _ => none
def E14 {β : Type} (N : Nat) : Env β := ⟨[(46, S46 N), (47, S47 N)], [], []⟩
theorem e14_0 {β : Type} (N : Nat)  (a0 : Int) (a1 : Int) (K : TV → Option β) : evFn lay (E14 N) Try.f14 [.v (.agg [.int .i64 a0, .int .i64 a1])] K = impl_NewKept N a0 a1 (fun z7 z8 z9 z10 z11 => K (.tup [.agg [.int .i64 z7, .int .i64 z8, .int .i64 z9, .sl 3 (.ints .i64 z10)], .one (.bool z11)])) := by kernel_rfl
theorem o14 {β : Type} (N : Nat) : SpecOK (β := β) Try.prog 14 (S14 N) := by
  refine spec_of lay_ok mixed (E := E14 N) (specs_loops (specs_cons (o46 N) (specs_cons (o47 N) specs_nil))) muts_nil Try.func14 (by kernel_rfl) 0 (by kernel_rfl) trivial fun args K r h => ?_
  unfold S14 at h
  split at h
  · exact (e14_0 N _ _ _).trans h
  · cases h
def S48 {β : Type} (N : Nat) : Rv.Spec β := fun args K => match args with
  | [.v (.agg [.int .i64 a0, .int .i64 a1]), .v (.agg [.int .i64 a2, .int .i64 a3])] => laws_eqTable N a0 a1 a2 a3 (fun z4 => K (.v (.one (.bool z4))))
  | _ => none
def E48 {β : Type} (N : Nat) : Env β := ⟨[], [], []⟩
theorem e48_0 {β : Type} (N : Nat)  (a0 : Int) (a1 : Int) (a2 : Int) (a3 : Int) (K : TV → Option β) : evFn lay (E48 N) Try.f48 [.v (.agg [.int .i64 a0, .int .i64 a1]), .v (.agg [.int .i64 a2, .int .i64 a3])] K = laws_eqTable N a0 a1 a2 a3 (fun z4 => K (.v (.one (.bool z4)))) := by kernel_rfl
theorem o48 {β : Type} (N : Nat) : SpecOK (β := β) Try.prog 48 (S48 N) := by
  refine spec_of lay_ok mixed (E := E48 N) (specs_loops specs_nil) muts_nil Try.func48 (by kernel_rfl) 0 (by kernel_rfl) trivial fun args K r h => ?_
  unfold S48 at h
  split at h
  · exact (e48_0 N _ _ _ _ _).trans h
  · cases h
def S20 {β : Type} (N : Nat) : Rv.Spec β := fun args K => match args with
  | [.v (.one (.sl 3 (.ints .i64 a0))), .v (.one (.sl 3 (.ints .i64 a1)))] => laws_eqIntS N a0 a1 (fun z4 => K (.v (.one (.bool z4))))
  | _ => none
def h20_0_0  (v0 : List Int) (v1 : List Int) (v2 : Int) : St := ⟨.v (.one (.sl 3 (.ints .i64 v0))) :: .v (.one (.sl 3 (.ints .i64 v1))) :: .v (.one .und) :: .v (.one .und) :: .v (.one .und) :: .v (.one (.int .i64 v2)) :: .v (.one .und) :: .v (.one .und) :: .v (.one .und) :: .v (.one .und) :: .v (.one .und) :: .v (.one .und) :: .v (.one .und) :: .v (.one .und) :: .v (.one .und) :: .v (.one .und) :: .v (.one .und) :: .v (.one .und) :: .v (.one .und) :: .v (.one .und) :: .v (.one .und) :: .v (.one .und) :: .v (.one .und) :: .v (.one .und) :: .v (.one .und) :: .v (.one .und) :: [], []⟩
def x20_0_0_k0  (y0 : Bool) : St := ⟨.v (.one .und) :: .v (.one .und) :: .v (.one .und) :: .v (.one .und) :: .v (.one (.bool y0)) :: .v (.one .und) :: .v (.one .und) :: .v (.one .und) :: .v (.one .und) :: .v (.one .und) :: .v (.one .und) :: .v (.one .und) :: .v (.one .und) :: .v (.one .und) :: .v (.one .und) :: .v (.one .und) :: .v (.one .und) :: .v (.one .und) :: .v (.one .und) :: .v (.one .und) :: .v (.one .und) :: .v (.one .und) :: .v (.one .und) :: .v (.one .und) :: .v (.one .und) :: .v (.one .und) :: [], []⟩
def x20_0_0_k1   : St := ⟨.v (.one .und) :: .v (.one .und) :: .v (.one .und) :: .v (.one .und) :: .v (.one .und) :: .v (.one .und) :: .v (.one .und) :: .v (.one .und) :: .v (.one .und) :: .v (.one .und) :: .v (.one .und) :: .v (.one .und) :: .v (.one .und) :: .v (.one .und) :: .v (.one .und) :: .v (.one .und) :: .v (.one .und) :: .v (.one .und) :: .v (.one .und) :: .v (.one .und) :: .v (.one .und) :: .v (.one .und) :: .v (.one .und) :: .v (.one .und) :: .v (.one .und) :: .v (.one .und) :: [], []⟩
def LS20_0 {β : Type} (N : Nat) : LSpec β := fun s K => match s with
  | ⟨.v (.one (.sl 3 (.ints .i64 v0))) :: .v (.one (.sl 3 (.ints .i64 v1))) :: .v (.one .und) :: .v (.one .und) :: .v (.one .und) :: .v (.one (.int .i64 v2)) :: .v (.one .und) :: .v (.one .und) :: .v (.one .und) :: .v (.one .und) :: .v (.one .und) :: .v (.one .und) :: .v (.one .und) :: .v (.one .und) :: .v (.one .und) :: .v (.one .und) :: .v (.one .und) :: .v (.one .und) :: .v (.one .und) :: .v (.one .und) :: .v (.one .und) :: .v (.one .und) :: .v (.one .und) :: .v (.one .und) :: .v (.one .und) :: .v (.one .und) :: [], []⟩ => laws_eqIntS_l0 N  N v0 v1 v2 (fun y0 => K .ret (x20_0_0_k0  y0)) (K (.exit 0) (x20_0_0_k1  ))
  | _ => none
def E20 {β : Type} (N : Nat) : Env β := ⟨[], [], [(0, LS20_0 N)]⟩
theorem st20_0_0 {β : Type} (N : Nat)  (v0 : List Int) (v1 : List Int) (v2 : Int) (rec_ : St → Option β) (K : Exit → St → Option β) :
    ev lay (E20 N) (retMask Try.f20) (lp Try.f20 0).body (lp Try.f20 0).ex ((lp Try.f20 0).lv (retMask Try.f20)) (h20_0_0  v0 v1 v2) (nextR (fun s' => rec_ (s'.tidy ((lp Try.f20 0).lv (retMask Try.f20)))) K) =
      laws_eqIntS_l0b N  v0 v1 v2 (fun v0 v1 v2 => rec_ (h20_0_0  v0 v1 v2)) (fun y0 => K .ret (x20_0_0_k0  y0)) (K (.exit 0) (x20_0_0_k1  )) := by kernel_rfl
theorem ro20_0_0 {β : Type} (N : Nat)  (K : Exit → St → Option β) : ∀ (F : Nat) (v0 : List Int) (v1 : List Int) (v2 : Int), (lp Try.f20 0).rounds lay (E20 N) (retMask Try.f20) F (h20_0_0  v0 v1 v2) K = laws_eqIntS_l0 N  F v0 v1 v2 (fun y0 => K .ret (x20_0_0_k0  y0)) (K (.exit 0) (x20_0_0_k1  )) := by
  intro F
  induction F with
  | zero => intros; rfl
  | succ F ih =>
    intros
    rw [rounds_next]
    refine (st20_0_0 N  _ _ _ (fun s => (lp Try.f20 0).rounds lay (E20 N) (retMask Try.f20) F s K) K).trans ?_
    simp only [ih]
    rfl
theorem lk20_0 {β : Type} (N : Nat) : lookL (E20 (β := β) N).loops (lp Try.f20 0).id = LS20_0 N := by kernel_rfl
theorem rk20_0 {β : Type} (N : Nat) : RoundsOK lay (E20 (β := β) N) (retMask Try.f20) (lp Try.f20 0) := by
  intro s K r h
  rw [lk20_0] at h
  unfold LS20_0 at h
  split at h
  · exact ⟨N, (ro20_0_0 N  _ N _ _ _).trans h⟩
  · cases h
theorem e20_0 {β : Type} (N : Nat)  (a0 : List Int) (a1 : List Int) (K : TV → Option β) : evFn lay (E20 N) Try.f20 [.v (.one (.sl 3 (.ints .i64 a0))), .v (.one (.sl 3 (.ints .i64 a1)))] K = laws_eqIntS N a0 a1 (fun z4 => K (.v (.one (.bool z4)))) := by kernel_rfl
theorem o20 {β : Type} (N : Nat) : SpecOK (β := β) Try.prog 20 (S20 N) := by
  refine spec_of lay_ok mixed (E := E20 N) (specs_loops specs_nil) muts_nil Try.func20 (by kernel_rfl) 1 (by kernel_rfl) ⟨trivial, rk20_0 N⟩ fun args K r h => ?_
  unfold S20 at h
  split at h
  · exact (e20_0 N _ _ _).trans h
  · cases h
def S15 {β : Type} (N : Nat) : Rv.Spec β := fun args K => match args with
  | [.v (.agg [.int .i64 a0, .int .i64 a1, .int .i64 a2, .sl 3 (.ints .i64 a3)]), .v (.agg [.int .i64 a4, .int .i64 a5, .int .i64 a6, .sl 3 (.ints .i64 a7)])] => laws_eqKept N a0 a1 a2 a3 a4 a5 a6 a7 (fun z10 => K (.v (.one (.bool z10))))
  | _ => none
def E15 {β : Type} (N : Nat) : Env β := ⟨[(48, S48 N), (20, S20 N)], [], []⟩
theorem e15_0 {β : Type} (N : Nat)  (a0 : Int) (a1 : Int) (a2 : Int) (a3 : List Int) (a4 : Int) (a5 : Int) (a6 : Int) (a7 : List Int) (K : TV → Option β) : evFn lay (E15 N) Try.f15 [.v (.agg [.int .i64 a0, .int .i64 a1, .int .i64 a2, .sl 3 (.ints .i64 a3)]), .v (.agg [.int .i64 a4, .int .i64 a5, .int .i64 a6, .sl 3 (.ints .i64 a7)])] K = laws_eqKept N a0 a1 a2 a3 a4 a5 a6 a7 (fun z10 => K (.v (.one (.bool z10)))) := by kernel_rfl
theorem o15 {β : Type} (N : Nat) : SpecOK (β := β) Try.prog 15 (S15 N) := by
  refine spec_of lay_ok mixed (E := E15 N) (specs_loops (specs_cons (o48 N) (specs_cons (o20 N) specs_nil))) muts_nil Try.func15 (by kernel_rfl) 0 (by kernel_rfl) trivial fun args K r h => ?_
  unfold S15 at h
  split at h
  · exact (e15_0 N _ _ _ _ _ _ _ _ _).trans h
  · cases h
def S22 {β : Type} (N : Nat) : Rv.Spec β := fun args K => match args with
  | [.v (.one (.sl 3 (.ints .i64 a0))), .v (.one (.int .i64 a1))] => laws_heldIntS N a0 a1 (fun z4 => K (.v (.one (.int .i64 z4))))
  | _ => none
def h22_0_0  (v0 : List Int) (v1 : Int) (v2 : Int) : St := ⟨.v (.one (.sl 3 (.ints .i64 v0))) :: .v (.one (.int .i64 v1)) :: .v (.one .und) :: .v (.one .und) :: .v (.one .und) :: .v (.one (.int .i64 v2)) :: .v (.one .und) :: .v (.one .und) :: .v (.one .und) :: .v (.one .und) :: .v (.one .und) :: .v (.one .und) :: .v (.one .und) :: .v (.one .und) :: .v (.one .und) :: .v (.one .und) :: .v (.one .und) :: .v (.one .und) :: .v (.one .und) :: .v (.one .und) :: .v (.one .und) :: [], []⟩
def x22_0_0_k0  (y0 : Int) : St := ⟨.v (.one .und) :: .v (.one .und) :: .v (.one .und) :: .v (.one .und) :: .v (.one (.int .i64 y0)) :: .v (.one .und) :: .v (.one .und) :: .v (.one .und) :: .v (.one .und) :: .v (.one .und) :: .v (.one .und) :: .v (.one .und) :: .v (.one .und) :: .v (.one .und) :: .v (.one .und) :: .v (.one .und) :: .v (.one .und) :: .v (.one .und) :: .v (.one .und) :: .v (.one .und) :: .v (.one .und) :: [], []⟩
def x22_0_0_k1  (y0 : Int) : St := ⟨.v (.one .und) :: .v (.one (.int .i64 y0)) :: .v (.one .und) :: .v (.one .und) :: .v (.one .und) :: .v (.one .und) :: .v (.one .und) :: .v (.one .und) :: .v (.one .und) :: .v (.one .und) :: .v (.one .und) :: .v (.one .und) :: .v (.one .und) :: .v (.one .und) :: .v (.one .und) :: .v (.one .und) :: .v (.one .und) :: .v (.one .und) :: .v (.one .und) :: .v (.one .und) :: .v (.one .und) :: [], []⟩
def LS22_0 {β : Type} (N : Nat) : LSpec β := fun s K => match s with
  | ⟨.v (.one (.sl 3 (.ints .i64 v0))) :: .v (.one (.int .i64 v1)) :: .v (.one .und) :: .v (.one .und) :: .v (.one .und) :: .v (.one (.int .i64 v2)) :: .v (.one .und) :: .v (.one .und) :: .v (.one .und) :: .v (.one .und) :: .v (.one .und) :: .v (.one .und) :: .v (.one .und) :: .v (.one .und) :: .v (.one .und) :: .v (.one .und) :: .v (.one .und) :: .v (.one .und) :: .v (.one .und) :: .v (.one .und) :: .v (.one .und) :: [], []⟩ => laws_heldIntS_l0 N  N v0 v1 v2 (fun y0 => K .ret (x22_0_0_k0  y0)) (fun y0 => K (.exit 0) (x22_0_0_k1  y0))
  | _ => none
def E22 {β : Type} (N : Nat) : Env β := ⟨[], [], [(0, LS22_0 N)]⟩
theorem st22_0_0 {β : Type} (N : Nat)  (v0 : List Int) (v1 : Int) (v2 : Int) (rec_ : St → Option β) (K : Exit → St → Option β) :
    ev lay (E22 N) (retMask Try.f22) (lp Try.f22 0).body (lp Try.f22 0).ex ((lp Try.f22 0).lv (retMask Try.f22)) (h22_0_0  v0 v1 v2) (nextR (fun s' => rec_ (s'.tidy ((lp Try.f22 0).lv (retMask Try.f22)))) K) =
      laws_heldIntS_l0b N  v0 v1 v2 (fun v0 v1 v2 => rec_ (h22_0_0  v0 v1 v2)) (fun y0 => K .ret (x22_0_0_k0  y0)) (fun y0 => K (.exit 0) (x22_0_0_k1  y0)) := by kernel_rfl
theorem ro22_0_0 {β : Type} (N : Nat)  (K : Exit → St → Option β) : ∀ (F : Nat) (v0 : List Int) (v1 : Int) (v2 : Int), (lp Try.f22 0).rounds lay (E22 N) (retMask Try.f22) F (h22_0_0  v0 v1 v2) K = laws_heldIntS_l0 N  F v0 v1 v2 (fun y0 => K .ret (x22_0_0_k0  y0)) (fun y0 => K (.exit 0) (x22_0_0_k1  y0)) := by
  intro F
  induction F with
  | zero => intros; rfl
  | succ F ih =>
    intros
    rw [rounds_next]
    refine (st22_0_0 N  _ _ _ (fun s => (lp Try.f22 0).rounds lay (E22 N) (retMask Try.f22) F s K) K).trans ?_
    simp only [ih]
    rfl
theorem lk22_0 {β : Type} (N : Nat) : lookL (E22 (β := β) N).loops (lp Try.f22 0).id = LS22_0 N := by kernel_rfl
theorem rk22_0 {β : Type} (N : Nat) : RoundsOK lay (E22 (β := β) N) (retMask Try.f22) (lp Try.f22 0) := by
  intro s K r h
  rw [lk22_0] at h
  unfold LS22_0 at h
  split at h
  · exact ⟨N, (ro22_0_0 N  _ N _ _ _).trans h⟩
  · cases h
theorem e22_0 {β : Type} (N : Nat)  (a0 : List Int) (a1 : Int) (K : TV → Option β) : evFn lay (E22 N) Try.f22 [.v (.one (.sl 3 (.ints .i64 a0))), .v (.one (.int .i64 a1))] K = laws_heldIntS N a0 a1 (fun z4 => K (.v (.one (.int .i64 z4)))) := by kernel_rfl
theorem o22 {β : Type} (N : Nat) : SpecOK (β := β) Try.prog 22 (S22 N) := by
  refine spec_of lay_ok mixed (E := E22 N) (specs_loops specs_nil) muts_nil Try.func22 (by kernel_rfl) 1 (by kernel_rfl) ⟨trivial, rk22_0 N⟩ fun args K r h => ?_
  unfold S22 at h
  split at h
  · exact (e22_0 N _ _ _).trans h
  · cases h
def S17 {β : Type} (N : Nat) : Rv.Spec β := fun args K => match args with
  | [.v (.agg [.int .i64 a0, .int .i64 a1, .int .i64 a2, .sl 3 (.ints .i64 a3)]), .v (.one (.int .i64 a4))] => laws_heldKept N a0 a1 a2 a3 a4 (fun z6 => K (.v (.one (.int .i64 z6))))
  | _ => none
def E17 {β : Type} (N : Nat) : Env β := ⟨[(22, S22 N)], [], []⟩
theorem e17_0 {β : Type} (N : Nat)  (a0 : Int) (a1 : Int) (a2 : Int) (a3 : List Int) (a4 : Int) (K : TV → Option β) : evFn lay (E17 N) Try.f17 [.v (.agg [.int .i64 a0, .int .i64 a1, .int .i64 a2, .sl 3 (.ints .i64 a3)]), .v (.one (.int .i64 a4))] K = laws_heldKept N a0 a1 a2 a3 a4 (fun z6 => K (.v (.one (.int .i64 z6)))) := by kernel_rfl
theorem o17 {β : Type} (N : Nat) : SpecOK (β := β) Try.prog 17 (S17 N) := by
  refine spec_of lay_ok mixed (E := E17 N) (specs_loops (specs_cons (o22 N) specs_nil)) muts_nil Try.func17 (by kernel_rfl) 0 (by kernel_rfl) trivial fun args K r h => ?_
  unfold S17 at h
  split at h
  · exact (e17_0 N _ _ _ _ _ _).trans h
  · cases h
end Go.Proofs.Ytdjmbggefcfacaa
