/- The functions that the claims reach answer as their texts do. -/
import Derived.Test.YtdkjnadhgdneaaaDoorT0
import Derived.Test.YtdkjnadhgdneaaaDoorProg
import Derived.KernelRfl
namespace Go.Proofs.YtdkjnadhgdneaaaDoor
open Go.Rv
set_option maxRecDepth 100000
set_option maxHeartbeats 2000000
set_option linter.unusedVariables false
def lay : Lay := [(2, .int .i64),
  (3, .int .i64),
  (4, .bool),
  (5, .int .u8),
  (9, .string),
  (12, .int .u64),
  (21, .int .i32),
  (22, .struct [⟨0, 1, false⟩, ⟨1, 1, false⟩] [3, 3] 16 true),
  (23, .struct [⟨0, 1, false⟩, ⟨1, 1, false⟩] [3, 3] 16 true),
  (26, .struct [⟨0, 1, false⟩, ⟨1, 1, false⟩] [3, 3] 16 true),
  (29, .slice 3),
  (30, .struct [⟨0, 1, false⟩, ⟨1, 2, true⟩, ⟨3, 1, false⟩, ⟨4, 1, false⟩, ⟨5, 1, false⟩, ⟨6, 1, false⟩] [3, 3, 3, 3, 3, 9, 29] 80 false),
  (31, .struct [⟨0, 1, false⟩, ⟨1, 2, true⟩, ⟨3, 1, false⟩, ⟨4, 1, false⟩, ⟨5, 1, false⟩, ⟨6, 1, false⟩] [3, 3, 3, 3, 3, 9, 29] 80 false),
  (42, .int .u64),
  (44, .pointer 62),
  (45, .struct [⟨0, 1, false⟩, ⟨1, 1, false⟩] [3, 3] 16 true),
  (46, .struct [⟨0, 1, false⟩, ⟨1, 1, false⟩] [3, 3] 16 true),
  (60, .map 46 3),
  (61, .struct [⟨0, 2, true⟩, ⟨2, 1, false⟩, ⟨3, 1, false⟩] [3, 3, 3, 60] 32 false),
  (62, .struct [⟨0, 2, true⟩, ⟨2, 1, false⟩, ⟨3, 1, false⟩] [3, 3, 3, 60] 32 false),
  (64, .slice 5),
  (70, .pointer 87),
  (73, .struct [⟨0, 1, false⟩, ⟨1, 1, false⟩] [3, 3] 16 true),
  (74, .struct [⟨0, 1, false⟩, ⟨1, 1, false⟩] [3, 3] 16 true),
  (75, .pointer 94),
  (85, .map 74 3),
  (86, .struct [⟨0, 2, true⟩, ⟨2, 1, false⟩, ⟨3, 1, false⟩] [3, 3, 85, 85] 32 false),
  (87, .struct [⟨0, 2, true⟩, ⟨2, 1, false⟩, ⟨3, 1, false⟩] [3, 3, 85, 85] 32 false),
  (93, .struct [⟨0, 1, false⟩, ⟨1, 1, false⟩, ⟨2, 1, false⟩] [5, 75, 75] 24 false),
  (94, .struct [⟨0, 1, false⟩, ⟨1, 1, false⟩, ⟨2, 1, false⟩] [5, 75, 75] 24 false),
  (96, .array 2 4),
  (100, .int .u64),
  (107, .int .u32),
  (122, .pointer 5)]

theorem lay_ok : LayOK Tryd.prog lay := layOK_of (by decide +kernel)
theorem mixed : Tryd.prog.follows .mixedOrders = true := by kernel_rfl
def VS7 {β : Type} (N : Nat) (q_laws_toTable : (a0 : Int) → (a1 : Int) → (k : Int → Int → Option β) → Option β) : Rv.Spec β := fun args K => match args with
  | [.v (.agg [.int .i64 a0, .int .i64 a1])] => q_laws_toTable a0 a1 (fun z2 z3 => K (.v (.agg [.int .i64 z2, .int .i64 z3])))
  | _ => none
def S7 {β : Type} (N : Nat) : Rv.Spec β := VS7 N (laws_toTable N)
def VE7 {β : Type} (N : Nat) : Env β := ⟨[], [], [], []⟩
def E7 {β : Type} (N : Nat) : Env β := VE7 N
def BV_laws_toTable {β : Type} (N : Nat) (a0 : Int) (a1 : Int) (k : Int → Int → Option β) : Option β :=
k a0 a1
theorem t_laws_toTable {β : Type} (N : Nat) (a0 : Int) (a1 : Int) (k : Int → Int → Option β) : laws_toTable N a0 a1 k = BV_laws_toTable N a0 a1 k := by
  unfold laws_toTable BV_laws_toTable
  rfl
theorem ve7_0 {β : Type} (N : Nat)  (a0 : Int) (a1 : Int) (K : TV → Option β) : evFn lay (VE7 N) Tryd.f7 [.v (.agg [.int .i64 a0, .int .i64 a1])] K = BV_laws_toTable N a0 a1 (fun z2 z3 => K (.v (.agg [.int .i64 z2, .int .i64 z3]))) := by kernel_rfl
theorem e7_0 {β : Type} (N : Nat)  (a0 : Int) (a1 : Int) (K : TV → Option β) : evFn lay (E7 N) Tryd.f7 [.v (.agg [.int .i64 a0, .int .i64 a1])] K = laws_toTable N a0 a1 (fun z2 z3 => K (.v (.agg [.int .i64 z2, .int .i64 z3]))) := (ve7_0 N a0 a1 K).trans (t_laws_toTable N a0 a1 (fun z2 z3 => K (.v (.agg [.int .i64 z2, .int .i64 z3])))).symm
theorem o7 {β : Type} (N : Nat) : SpecOK (β := β) Tryd.prog 7 (S7 N) := by
  refine spec_of lay_ok mixed (E := E7 N) (specs_loops specs_nil) muts_nil gs_nil Tryd.func7 (by kernel_rfl) 0 (by kernel_rfl) trivial fun args K r h => ?_
  unfold S7 VS7 at h
  split at h
  · exact (e7_0 N _ _ _).trans h
  · cases h
def VS32 {β : Type} (N : Nat) (q_spec_l1In : (a0 : Int) → (a1 : Int) → (a2 : Int) → (k : Bool → Option β) → Option β) : Rv.Spec β := fun args K => match args with
  | [.v (.one (.int .i64 a0)), .v (.one (.int .i64 a1)), .v (.one (.int .i64 a2))] => q_spec_l1In a0 a1 a2 (fun z3 => K (.v (.one (.bool z3))))
  | _ => none
def S32 {β : Type} (N : Nat) : Rv.Spec β := VS32 N (spec_l1In N)
def VE32 {β : Type} (N : Nat) : Env β := ⟨[], [], [], []⟩
def E32 {β : Type} (N : Nat) : Env β := VE32 N
def BV_spec_l1In {β : Type} (N : Nat) (a0 : Int) (a1 : Int) (a2 : Int) (k : Bool → Option β) : Option β :=
(cond ((decide (a0 ≥ a1)))
(k ((decide (a0 ≤ a2))))
(k false))
theorem t_spec_l1In {β : Type} (N : Nat) (a0 : Int) (a1 : Int) (a2 : Int) (k : Bool → Option β) : spec_l1In N a0 a1 a2 k = BV_spec_l1In N a0 a1 a2 k := by
  unfold spec_l1In BV_spec_l1In
  rfl
theorem ve32_0 {β : Type} (N : Nat)  (a0 : Int) (a1 : Int) (a2 : Int) (K : TV → Option β) : evFn lay (VE32 N) Tryd.f32 [.v (.one (.int .i64 a0)), .v (.one (.int .i64 a1)), .v (.one (.int .i64 a2))] K = BV_spec_l1In N a0 a1 a2 (fun z3 => K (.v (.one (.bool z3)))) := by kernel_rfl
theorem e32_0 {β : Type} (N : Nat)  (a0 : Int) (a1 : Int) (a2 : Int) (K : TV → Option β) : evFn lay (E32 N) Tryd.f32 [.v (.one (.int .i64 a0)), .v (.one (.int .i64 a1)), .v (.one (.int .i64 a2))] K = spec_l1In N a0 a1 a2 (fun z3 => K (.v (.one (.bool z3)))) := (ve32_0 N a0 a1 a2 K).trans (t_spec_l1In N a0 a1 a2 (fun z3 => K (.v (.one (.bool z3))))).symm
theorem o32 {β : Type} (N : Nat) : SpecOK (β := β) Tryd.prog 32 (S32 N) := by
  refine spec_of lay_ok mixed (E := E32 N) (specs_loops specs_nil) muts_nil gs_nil Tryd.func32 (by kernel_rfl) 0 (by kernel_rfl) trivial fun args K r h => ?_
  unfold S32 VS32 at h
  split at h
  · exact (e32_0 N _ _ _ _).trans h
  · cases h
def VS31 {β : Type} (N : Nat) (q_spec_IsTable : (a0 : Int) → (a1 : Int) → (k : Bool → Option β) → Option β) : Rv.Spec β := fun args K => match args with
  | [.v (.agg [.int .i64 a0, .int .i64 a1])] => q_spec_IsTable a0 a1 (fun z2 => K (.v (.one (.bool z2))))
  | _ => none
def S31 {β : Type} (N : Nat) : Rv.Spec β := VS31 N (spec_IsTable N)
def VE31 {β : Type} (N : Nat) (q_spec_l1In : (a0 : Int) → (a1 : Int) → (a2 : Int) → (k : Bool → Option β) → Option β) : Env β := ⟨[(32, VS32 N q_spec_l1In)], [], [], []⟩
def E31 {β : Type} (N : Nat) : Env β := VE31 N (spec_l1In N)
def BV_spec_IsTable {β : Type} (N : Nat) (q_spec_l1In : (a0 : Int) → (a1 : Int) → (a2 : Int) → (k : Bool → Option β) → Option β) (a0 : Int) (a1 : Int) (k : Bool → Option β) : Option β :=
q_spec_l1In a0 0 5 fun r3 =>
(cond r3
((gd ((decide (0 ≤ a0)))
((gd ((decide (0 ≤ (shlI .u64 1 a0))))
(q_spec_l1In a1 0 ((w64 ((shlI .i64 1 (shlI .u64 1 a0)) - 1))) fun r4 =>
k r4)))))
(k false))
theorem t_spec_IsTable {β : Type} (N : Nat) (a0 : Int) (a1 : Int) (k : Bool → Option β) : spec_IsTable N a0 a1 k = BV_spec_IsTable N (spec_l1In N) a0 a1 k := by
  unfold spec_IsTable BV_spec_IsTable
  rfl
theorem ve31_0 {β : Type} (N : Nat) (q_spec_l1In : (a0 : Int) → (a1 : Int) → (a2 : Int) → (k : Bool → Option β) → Option β)  (a0 : Int) (a1 : Int) (K : TV → Option β) : evFn lay (VE31 N q_spec_l1In) Tryd.f31 [.v (.agg [.int .i64 a0, .int .i64 a1])] K = BV_spec_IsTable N q_spec_l1In a0 a1 (fun z2 => K (.v (.one (.bool z2)))) := by kernel_rfl
theorem e31_0 {β : Type} (N : Nat)  (a0 : Int) (a1 : Int) (K : TV → Option β) : evFn lay (E31 N) Tryd.f31 [.v (.agg [.int .i64 a0, .int .i64 a1])] K = spec_IsTable N a0 a1 (fun z2 => K (.v (.one (.bool z2)))) := (ve31_0 N (spec_l1In N) a0 a1 K).trans (t_spec_IsTable N a0 a1 (fun z2 => K (.v (.one (.bool z2))))).symm
theorem o31 {β : Type} (N : Nat) : SpecOK (β := β) Tryd.prog 31 (S31 N) := by
  refine spec_of lay_ok mixed (E := E31 N) (specs_loops (specs_cons (o32 N) specs_nil)) muts_nil gs_nil Tryd.func31 (by kernel_rfl) 0 (by kernel_rfl) trivial fun args K r h => ?_
  unfold S31 VS31 at h
  split at h
  · exact (e31_0 N _ _ _).trans h
  · cases h
def VS16 {β : Type} (N : Nat) (q_spec_l21Fine : (a0 : Int) → (a1 : Int) → (a2 : Int) → (k : Bool → Option β) → Option β) : Rv.Spec β := fun args K => match args with
  | [.v (.agg [.int .i64 a0, .int .i64 a1]), .v (.one (.int .i64 a2))] => q_spec_l21Fine a0 a1 a2 (fun z3 => K (.v (.one (.bool z3))))
  | _ => none
def S16 {β : Type} (N : Nat) : Rv.Spec β := VS16 N (spec_l21Fine N)
def VE16 {β : Type} (N : Nat) (q_spec_IsTable : (a0 : Int) → (a1 : Int) → (k : Bool → Option β) → Option β) (q_spec_l1In : (a0 : Int) → (a1 : Int) → (a2 : Int) → (k : Bool → Option β) → Option β) : Env β := ⟨[(31, VS31 N q_spec_IsTable), (32, VS32 N q_spec_l1In)], [], [], []⟩
def E16 {β : Type} (N : Nat) : Env β := VE16 N (spec_IsTable N) (spec_l1In N)
def BV_spec_l21Fine {β : Type} (N : Nat) (q_spec_IsTable : (a0 : Int) → (a1 : Int) → (k : Bool → Option β) → Option β) (q_spec_l1In : (a0 : Int) → (a1 : Int) → (a2 : Int) → (k : Bool → Option β) → Option β) (a0 : Int) (a1 : Int) (a2 : Int) (k : Bool → Option β) : Option β :=
q_spec_IsTable a0 a1 fun r4 =>
(cond r4
(q_spec_l1In a2 0 2 fun r5 =>
(cond r5
(q_spec_l1In ((w64 (a0 - a2))) 0 2 fun r6 =>
k r6)
(k false)))
(k false))
theorem t_spec_l21Fine {β : Type} (N : Nat) (a0 : Int) (a1 : Int) (a2 : Int) (k : Bool → Option β) : spec_l21Fine N a0 a1 a2 k = BV_spec_l21Fine N (spec_IsTable N) (spec_l1In N) a0 a1 a2 k := by
  unfold spec_l21Fine BV_spec_l21Fine
  rfl
theorem ve16_0 {β : Type} (N : Nat) (q_spec_IsTable : (a0 : Int) → (a1 : Int) → (k : Bool → Option β) → Option β) (q_spec_l1In : (a0 : Int) → (a1 : Int) → (a2 : Int) → (k : Bool → Option β) → Option β)  (a0 : Int) (a1 : Int) (a2 : Int) (K : TV → Option β) : evFn lay (VE16 N q_spec_IsTable q_spec_l1In) Tryd.f16 [.v (.agg [.int .i64 a0, .int .i64 a1]), .v (.one (.int .i64 a2))] K = BV_spec_l21Fine N q_spec_IsTable q_spec_l1In a0 a1 a2 (fun z3 => K (.v (.one (.bool z3)))) := by kernel_rfl
theorem e16_0 {β : Type} (N : Nat)  (a0 : Int) (a1 : Int) (a2 : Int) (K : TV → Option β) : evFn lay (E16 N) Tryd.f16 [.v (.agg [.int .i64 a0, .int .i64 a1]), .v (.one (.int .i64 a2))] K = spec_l21Fine N a0 a1 a2 (fun z3 => K (.v (.one (.bool z3)))) := (ve16_0 N (spec_IsTable N) (spec_l1In N) a0 a1 a2 K).trans (t_spec_l21Fine N a0 a1 a2 (fun z3 => K (.v (.one (.bool z3))))).symm
theorem o16 {β : Type} (N : Nat) : SpecOK (β := β) Tryd.prog 16 (S16 N) := by
  refine spec_of lay_ok mixed (E := E16 N) (specs_loops (specs_cons (o31 N) (specs_cons (o32 N) specs_nil))) muts_nil gs_nil Tryd.func16 (by kernel_rfl) 0 (by kernel_rfl) trivial fun args K r h => ?_
  unfold S16 VS16 at h
  split at h
  · exact (e16_0 N _ _ _ _).trans h
  · cases h
def VS17 {β : Type} (N : Nat) (q_spec_MatrixOf : (a0 : Int) → (a1 : Int) → (a2 : Int) → (k : List Int → Bool → Option β) → Option β) : Rv.Spec β := fun args K => match args with
  | [.v (.agg [.int .i64 a0, .int .i64 a1]), .v (.one (.int .i64 a2))] => q_spec_MatrixOf a0 a1 a2 (fun z3 z4 => K (.tup [.one (.sl 3 (.ints .i64 z3)), .one (.bool z4)]))
  | _ => none
def S17 {β : Type} (N : Nat) : Rv.Spec β := VS17 N (spec_MatrixOf N)
def h17_0_0  (v0 : Int) (v1 : Int) (v2 : Int) (v3 : Int) (v4 : List Int) : St := ⟨.v (.one .und) :: .v (.one (.int .i64 v0)) :: .v (.one (.ptr 0 0)) :: .v (.one .und) :: .v (.one .und) :: .v (.one .und) :: .v (.one (.row 1)) :: .v (.one (.int .i64 v1)) :: .v (.one .und) :: .v (.one .und) :: .v (.one .und) :: .v (.one .und) :: .v (.one .und) :: .v (.one .und) :: .v (.one .und) :: .v (.one .und) :: .v (.one .und) :: .v (.one .und) :: .v (.one .und) :: .v (.one .und) :: .v (.one .und) :: .v (.one .und) :: .v (.one .und) :: .v (.one .und) :: .v (.one .und) :: .v (.one .und) :: .v (.one .und) :: .v (.one .und) :: .v (.one .und) :: .v (.one .und) :: .v (.one .und) :: .v (.one .und) :: .v (.one .und) :: .v (.one .und) :: .v (.one .und) :: .v (.one .und) :: .v (.one .und) :: .v (.one .und) :: .v (.one .und) :: .v (.one .und) :: .v (.one .und) :: .v (.one .und) :: .v (.one .und) :: .v (.one .und) :: .v (.one .und) :: .v (.one .und) :: .v (.one .und) :: .v (.one .und) :: .v (.one .und) :: .v (.one .und) :: .v (.one .und) :: .v (.one .und) :: .v (.one .und) :: .v (.one .und) :: .v (.one .und) :: [], [.cells 26 [.int .i64 v2, .int .i64 v3], .row 3 (.ints .i64 v4)]⟩
def x17_0_0_k0  (y0 : List Int) : St := ⟨.v (.one .und) :: .v (.one .und) :: .v (.one .und) :: .v (.one .und) :: .v (.one .und) :: .v (.one .und) :: .v (.one (.row 0)) :: .v (.one .und) :: .v (.one .und) :: .v (.one .und) :: .v (.one .und) :: .v (.one .und) :: .v (.one .und) :: .v (.one .und) :: .v (.one .und) :: .v (.one .und) :: .v (.one .und) :: .v (.one .und) :: .v (.one .und) :: .v (.one .und) :: .v (.one .und) :: .v (.one .und) :: .v (.one .und) :: .v (.one .und) :: .v (.one .und) :: .v (.one .und) :: .v (.one .und) :: .v (.one .und) :: .v (.one .und) :: .v (.one .und) :: .v (.one .und) :: .v (.one .und) :: .v (.one .und) :: .v (.one .und) :: .v (.one .und) :: .v (.one .und) :: .v (.one .und) :: .v (.one .und) :: .v (.one .und) :: .v (.one .und) :: .v (.one .und) :: .v (.one .und) :: .v (.one .und) :: .v (.one .und) :: .v (.one .und) :: .v (.one .und) :: .v (.one .und) :: .v (.one .und) :: .v (.one .und) :: .v (.one .und) :: .v (.one .und) :: .v (.one .und) :: .v (.one .und) :: .v (.one .und) :: .v (.one .und) :: [], [.row 3 (.ints .i64 y0)]⟩
def h17_1_0  (v0 : Int) (v1 : Int) (v2 : Int) (v3 : Int) (v4 : Int) (v5 : Int) (v6 : List Int) : St := ⟨.v (.one .und) :: .v (.one (.int .i64 v0)) :: .v (.one (.ptr 0 0)) :: .v (.one .und) :: .v (.one .und) :: .v (.one .und) :: .v (.one (.row 1)) :: .v (.one (.int .i64 v1)) :: .v (.one (.int .i64 v2)) :: .v (.one (.int .i64 v3)) :: .v (.one .und) :: .v (.one .und) :: .v (.one .und) :: .v (.one .und) :: .v (.one .und) :: .v (.one .und) :: .v (.one .und) :: .v (.one .und) :: .v (.one .und) :: .v (.one .und) :: .v (.one .und) :: .v (.one .und) :: .v (.one .und) :: .v (.one .und) :: .v (.one .und) :: .v (.one .und) :: .v (.one .und) :: .v (.one .und) :: .v (.one .und) :: .v (.one .und) :: .v (.one .und) :: .v (.one .und) :: .v (.one .und) :: .v (.one .und) :: .v (.one .und) :: .v (.one .und) :: .v (.one .und) :: .v (.one .und) :: .v (.one .und) :: .v (.one .und) :: .v (.one .und) :: .v (.one .und) :: .v (.one .und) :: .v (.one .und) :: .v (.one .und) :: .v (.one .und) :: .v (.one .und) :: .v (.one .und) :: .v (.one .und) :: .v (.one .und) :: .v (.one .und) :: .v (.one .und) :: .v (.one .und) :: .v (.one .und) :: .v (.one .und) :: [], [.cells 26 [.int .i64 v4, .int .i64 v5], .row 3 (.ints .i64 v6)]⟩
def x17_1_0_k0  (y0 : Int) (y1 : Int) (y2 : Int) (y3 : Int) (y4 : Int) (y5 : List Int) : St := ⟨.v (.one .und) :: .v (.one (.int .i64 y0)) :: .v (.one (.ptr 0 0)) :: .v (.one .und) :: .v (.one .und) :: .v (.one .und) :: .v (.one (.row 1)) :: .v (.one (.int .i64 y1)) :: .v (.one (.int .i64 y2)) :: .v (.one .und) :: .v (.one .und) :: .v (.one .und) :: .v (.one .und) :: .v (.one .und) :: .v (.one .und) :: .v (.one .und) :: .v (.one .und) :: .v (.one .und) :: .v (.one .und) :: .v (.one .und) :: .v (.one .und) :: .v (.one .und) :: .v (.one .und) :: .v (.one .und) :: .v (.one .und) :: .v (.one .und) :: .v (.one .und) :: .v (.one .und) :: .v (.one .und) :: .v (.one .und) :: .v (.one .und) :: .v (.one .und) :: .v (.one .und) :: .v (.one .und) :: .v (.one .und) :: .v (.one .und) :: .v (.one .und) :: .v (.one .und) :: .v (.one .und) :: .v (.one .und) :: .v (.one .und) :: .v (.one .und) :: .v (.one .und) :: .v (.one .und) :: .v (.one .und) :: .v (.one .und) :: .v (.one .und) :: .v (.one .und) :: .v (.one .und) :: .v (.one .und) :: .v (.one .und) :: .v (.one .und) :: .v (.one .und) :: .v (.one .und) :: .v (.one .und) :: [], [.cells 26 [.int .i64 y3, .int .i64 y4], .row 3 (.ints .i64 y5)]⟩
theorem fl17_0_0 (s : St) : refSt (h17_0_0 0 0 0 0 []) s = h17_0_0 (intS (oneA (vT (nx tund s.tmps 1)))) (intS (oneA (vT (nx tund s.tmps 7)))) (intS (nx .und (cellsB (nx .dead s.blks 0)) 0)) (intS (nx .und (cellsB (nx .dead s.blks 0)) 1)) (rInts (rowB_ (nx .dead s.blks 1))) := by kernel_rfl
def VLS17_0 {β : Type} (N : Nat) (q_spec_MatrixOf_l0 : Nat → Int → Int → Int → Int → List Int → (List Int → Option β) → Option β) : LSpec β := fun s K => cond (shpSt (h17_0_0 0 0 0 0 []) s) ((fun (v0 : Int) (v1 : Int) (v2 : Int) (v3 : Int) (v4 : List Int) => q_spec_MatrixOf_l0  N v0 v1 v2 v3 v4 (fun y0 => K (.exit 0) (x17_0_0_k0  y0))) (intS (oneA (vT (nx tund s.tmps 1)))) (intS (oneA (vT (nx tund s.tmps 7)))) (intS (nx .und (cellsB (nx .dead s.blks 0)) 0)) (intS (nx .und (cellsB (nx .dead s.blks 0)) 1)) (rInts (rowB_ (nx .dead s.blks 1)))) (none)
def LS17_0 {β : Type} (N : Nat) : LSpec β := VLS17_0 N (spec_MatrixOf_l0 N)
theorem fl17_1_0 (s : St) : refSt (h17_1_0 0 0 0 0 0 0 []) s = h17_1_0 (intS (oneA (vT (nx tund s.tmps 1)))) (intS (oneA (vT (nx tund s.tmps 7)))) (intS (oneA (vT (nx tund s.tmps 8)))) (intS (oneA (vT (nx tund s.tmps 9)))) (intS (nx .und (cellsB (nx .dead s.blks 0)) 0)) (intS (nx .und (cellsB (nx .dead s.blks 0)) 1)) (rInts (rowB_ (nx .dead s.blks 1))) := by kernel_rfl
def VLS17_2 {β : Type} (N : Nat) (q_spec_MatrixOf_l2 : Nat → Int → Int → Int → Int → Int → Int → List Int → (Int → Int → Int → Int → Int → List Int → Option β) → Option β) : LSpec β := fun s K => cond (shpSt (h17_1_0 0 0 0 0 0 0 []) s) ((fun (v0 : Int) (v1 : Int) (v2 : Int) (v3 : Int) (v4 : Int) (v5 : Int) (v6 : List Int) => q_spec_MatrixOf_l2  N v0 v1 v2 v3 v4 v5 v6 (fun y0 y1 y2 y3 y4 y5 => K (.exit 2) (x17_1_0_k0  y0 y1 y2 y3 y4 y5))) (intS (oneA (vT (nx tund s.tmps 1)))) (intS (oneA (vT (nx tund s.tmps 7)))) (intS (oneA (vT (nx tund s.tmps 8)))) (intS (oneA (vT (nx tund s.tmps 9)))) (intS (nx .und (cellsB (nx .dead s.blks 0)) 0)) (intS (nx .und (cellsB (nx .dead s.blks 0)) 1)) (rInts (rowB_ (nx .dead s.blks 1)))) (none)
def LS17_2 {β : Type} (N : Nat) : LSpec β := VLS17_2 N (spec_MatrixOf_l2 N)
def VE17 {β : Type} (N : Nat) (q_spec_IsTable : (a0 : Int) → (a1 : Int) → (k : Bool → Option β) → Option β) (q_spec_l1In : (a0 : Int) → (a1 : Int) → (a2 : Int) → (k : Bool → Option β) → Option β) (q_spec_MatrixOf_l0 : Nat → Int → Int → Int → Int → List Int → (List Int → Option β) → Option β) (q_spec_MatrixOf_l2 : Nat → Int → Int → Int → Int → Int → Int → List Int → (Int → Int → Int → Int → Int → List Int → Option β) → Option β) : Env β := ⟨[(31, VS31 N q_spec_IsTable), (32, VS32 N q_spec_l1In)], [], [(0, VLS17_0 N q_spec_MatrixOf_l0), (2, VLS17_2 N q_spec_MatrixOf_l2)], []⟩
def E17 {β : Type} (N : Nat) : Env β := VE17 N (spec_IsTable N) (spec_l1In N) (spec_MatrixOf_l0 N) (spec_MatrixOf_l2 N)
def BV_spec_MatrixOf_l0b {β : Type} (N : Nat) (q_spec_MatrixOf_l2 : Nat → Int → Int → Int → Int → Int → Int → List Int → (Int → Int → Int → Int → Int → List Int → Option β) → Option β)  (v0 : Int) (v1 : Int) (v2 : Int) (v3 : Int) (v4 : List Int) (rec_ : Int → Int → Int → Int → List Int → Option β) (k0 : List Int → Option β) : Option β :=
(gd ((decide (0 ≤ v0)))
((cond ((decide (v1 < (shlI .i64 1 v0))))
(q_spec_MatrixOf_l2  N v0 v1 0 0 v2 v3 v4 (fun e7_0 e7_1 e7_2 e7_3 e7_4 e7_5 =>
(gd ((decide ((e7_5.length + ((([] : List Int) ++ [e7_2])).length) * 8 ≤ 140737488355328)))
(rec_ e7_0 ((w64 (e7_1 + 1))) e7_3 e7_4 ((e7_5 ++ (([] : List Int) ++ [e7_2])))))))
(k0 v4))))
theorem t_spec_MatrixOf_l0b {β : Type} (N : Nat)  (v0 : Int) (v1 : Int) (v2 : Int) (v3 : Int) (v4 : List Int) (rec_ : Int → Int → Int → Int → List Int → Option β) (k0 : List Int → Option β) : spec_MatrixOf_l0b N v0 v1 v2 v3 v4 rec_ k0 = BV_spec_MatrixOf_l0b N (spec_MatrixOf_l2 N) v0 v1 v2 v3 v4 rec_ k0 := by
  unfold spec_MatrixOf_l0b BV_spec_MatrixOf_l0b
  rfl
theorem vst17_0_0 {β : Type} (N : Nat) (q_spec_IsTable : (a0 : Int) → (a1 : Int) → (k : Bool → Option β) → Option β) (q_spec_l1In : (a0 : Int) → (a1 : Int) → (a2 : Int) → (k : Bool → Option β) → Option β) (q_spec_MatrixOf_l0 : Nat → Int → Int → Int → Int → List Int → (List Int → Option β) → Option β) (q_spec_MatrixOf_l2 : Nat → Int → Int → Int → Int → Int → Int → List Int → (Int → Int → Int → Int → Int → List Int → Option β) → Option β)  (v0 : Int) (v1 : Int) (v2 : Int) (v3 : Int) (v4 : List Int) (rec_ : St → Option β) (K : Exit → St → Option β) :
    ev lay (VE17 N q_spec_IsTable q_spec_l1In q_spec_MatrixOf_l0 q_spec_MatrixOf_l2) (retMask Tryd.f17) (lp Tryd.f17 0).body (lp Tryd.f17 0).ex ((lp Tryd.f17 0).lv (retMask Tryd.f17)) (h17_0_0  v0 v1 v2 v3 v4) (nextR (fun s' => rec_ (s'.tidy ((lp Tryd.f17 0).lv (retMask Tryd.f17)))) K) = BV_spec_MatrixOf_l0b N q_spec_MatrixOf_l2  v0 v1 v2 v3 v4 (fun v0 v1 v2 v3 v4 => rec_ (h17_0_0  v0 v1 v2 v3 v4)) (fun y0 => K (.exit 0) (x17_0_0_k0  y0)) := by kernel_rfl
theorem st17_0_0 {β : Type} (N : Nat)  (v0 : Int) (v1 : Int) (v2 : Int) (v3 : Int) (v4 : List Int) (rec_ : St → Option β) (K : Exit → St → Option β) :
    ev lay (E17 N) (retMask Tryd.f17) (lp Tryd.f17 0).body (lp Tryd.f17 0).ex ((lp Tryd.f17 0).lv (retMask Tryd.f17)) (h17_0_0  v0 v1 v2 v3 v4) (nextR (fun s' => rec_ (s'.tidy ((lp Tryd.f17 0).lv (retMask Tryd.f17)))) K) = spec_MatrixOf_l0b N  v0 v1 v2 v3 v4 (fun v0 v1 v2 v3 v4 => rec_ (h17_0_0  v0 v1 v2 v3 v4)) (fun y0 => K (.exit 0) (x17_0_0_k0  y0)) := (vst17_0_0 N (spec_IsTable N) (spec_l1In N) (spec_MatrixOf_l0 N) (spec_MatrixOf_l2 N) v0 v1 v2 v3 v4 rec_ K).trans (t_spec_MatrixOf_l0b N  v0 v1 v2 v3 v4 (fun v0 v1 v2 v3 v4 => rec_ (h17_0_0  v0 v1 v2 v3 v4)) (fun y0 => K (.exit 0) (x17_0_0_k0  y0))).symm
theorem ro17_0_0 {β : Type} (N : Nat)  (K : Exit → St → Option β) : ∀ (F : Nat) (v0 : Int) (v1 : Int) (v2 : Int) (v3 : Int) (v4 : List Int), (lp Tryd.f17 0).rounds lay (E17 N) (retMask Tryd.f17) F (h17_0_0  v0 v1 v2 v3 v4) K = spec_MatrixOf_l0 N  F v0 v1 v2 v3 v4 (fun y0 => K (.exit 0) (x17_0_0_k0  y0)) := by
  intro F
  induction F with
  | zero => intros; rfl
  | succ F ih =>
    intros
    rw [rounds_next]
    refine (st17_0_0 N  _ _ _ _ _ (fun s => (lp Tryd.f17 0).rounds lay (E17 N) (retMask Tryd.f17) F s K) K).trans ?_
    simp only [ih]
    rfl
theorem lk17_0 {β : Type} (N : Nat) : lookL (E17 (β := β) N).loops (lp Tryd.f17 0).id = LS17_0 N := by kernel_rfl
theorem rk17_0 {β : Type} (N : Nat) : RoundsOK lay (E17 (β := β) N) (retMask Tryd.f17) (lp Tryd.f17 0) := by
  intro s K r h
  rw [lk17_0] at h
  unfold LS17_0 VLS17_0 at h
  cases hb : shpSt (h17_0_0 0 0 0 0 []) s with
  | true =>
    rw [hb, cond_true] at h
    exact ⟨N, by rw [← shpSt_ref hb, fl17_0_0 s]; exact (ro17_0_0 N  K N (intS (oneA (vT (nx tund s.tmps 1)))) (intS (oneA (vT (nx tund s.tmps 7)))) (intS (nx .und (cellsB (nx .dead s.blks 0)) 0)) (intS (nx .und (cellsB (nx .dead s.blks 0)) 1)) (rInts (rowB_ (nx .dead s.blks 1)))).trans h⟩
  | false =>
  rw [hb, cond_false] at h
  clear hb
  cases h
def BV_spec_MatrixOf_l2b {β : Type} (N : Nat)  (v0 : Int) (v1 : Int) (v2 : Int) (v3 : Int) (v4 : Int) (v5 : Int) (v6 : List Int) (rec_ : Int → Int → Int → Int → Int → Int → List Int → Option β) (k0 : Int → Int → Int → Int → Int → List Int → Option β) : Option β :=
(gd ((decide (0 ≤ (w64 (v4 - v0)))))
((cond ((decide (v3 < (shlI .i64 1 (w64 (v4 - v0))))))
((gd ((decide (0 ≤ v0)))
((gd ((decide (0 ≤ (bits .or .i64 v1 (shlI .i64 v3 v0)))))
((gd ((decide (0 ≤ v3)))
(rec_ v0 v1 ((bits .or .i64 v2 (shlI .i64 (bits .and .i64 (shrI .i64 v5 (bits .or .i64 v1 (shlI .i64 v3 v0))) 1) v3))) ((w64 (v3 + 1))) v4 v5 v6)))))))
(k0 v0 v1 v2 v4 v5 v6))))
theorem t_spec_MatrixOf_l2b {β : Type} (N : Nat)  (v0 : Int) (v1 : Int) (v2 : Int) (v3 : Int) (v4 : Int) (v5 : Int) (v6 : List Int) (rec_ : Int → Int → Int → Int → Int → Int → List Int → Option β) (k0 : Int → Int → Int → Int → Int → List Int → Option β) : spec_MatrixOf_l2b N v0 v1 v2 v3 v4 v5 v6 rec_ k0 = BV_spec_MatrixOf_l2b N v0 v1 v2 v3 v4 v5 v6 rec_ k0 := by
  unfold spec_MatrixOf_l2b BV_spec_MatrixOf_l2b
  rfl
theorem vst17_1_0 {β : Type} (N : Nat) (q_spec_IsTable : (a0 : Int) → (a1 : Int) → (k : Bool → Option β) → Option β) (q_spec_l1In : (a0 : Int) → (a1 : Int) → (a2 : Int) → (k : Bool → Option β) → Option β) (q_spec_MatrixOf_l0 : Nat → Int → Int → Int → Int → List Int → (List Int → Option β) → Option β) (q_spec_MatrixOf_l2 : Nat → Int → Int → Int → Int → Int → Int → List Int → (Int → Int → Int → Int → Int → List Int → Option β) → Option β)  (v0 : Int) (v1 : Int) (v2 : Int) (v3 : Int) (v4 : Int) (v5 : Int) (v6 : List Int) (rec_ : St → Option β) (K : Exit → St → Option β) :
    ev lay (VE17 N q_spec_IsTable q_spec_l1In q_spec_MatrixOf_l0 q_spec_MatrixOf_l2) (retMask Tryd.f17) (lp Tryd.f17 1).body (lp Tryd.f17 1).ex ((lp Tryd.f17 1).lv (retMask Tryd.f17)) (h17_1_0  v0 v1 v2 v3 v4 v5 v6) (nextR (fun s' => rec_ (s'.tidy ((lp Tryd.f17 1).lv (retMask Tryd.f17)))) K) = BV_spec_MatrixOf_l2b N  v0 v1 v2 v3 v4 v5 v6 (fun v0 v1 v2 v3 v4 v5 v6 => rec_ (h17_1_0  v0 v1 v2 v3 v4 v5 v6)) (fun y0 y1 y2 y3 y4 y5 => K (.exit 2) (x17_1_0_k0  y0 y1 y2 y3 y4 y5)) := by kernel_rfl
theorem st17_1_0 {β : Type} (N : Nat)  (v0 : Int) (v1 : Int) (v2 : Int) (v3 : Int) (v4 : Int) (v5 : Int) (v6 : List Int) (rec_ : St → Option β) (K : Exit → St → Option β) :
    ev lay (E17 N) (retMask Tryd.f17) (lp Tryd.f17 1).body (lp Tryd.f17 1).ex ((lp Tryd.f17 1).lv (retMask Tryd.f17)) (h17_1_0  v0 v1 v2 v3 v4 v5 v6) (nextR (fun s' => rec_ (s'.tidy ((lp Tryd.f17 1).lv (retMask Tryd.f17)))) K) = spec_MatrixOf_l2b N  v0 v1 v2 v3 v4 v5 v6 (fun v0 v1 v2 v3 v4 v5 v6 => rec_ (h17_1_0  v0 v1 v2 v3 v4 v5 v6)) (fun y0 y1 y2 y3 y4 y5 => K (.exit 2) (x17_1_0_k0  y0 y1 y2 y3 y4 y5)) := (vst17_1_0 N (spec_IsTable N) (spec_l1In N) (spec_MatrixOf_l0 N) (spec_MatrixOf_l2 N) v0 v1 v2 v3 v4 v5 v6 rec_ K).trans (t_spec_MatrixOf_l2b N  v0 v1 v2 v3 v4 v5 v6 (fun v0 v1 v2 v3 v4 v5 v6 => rec_ (h17_1_0  v0 v1 v2 v3 v4 v5 v6)) (fun y0 y1 y2 y3 y4 y5 => K (.exit 2) (x17_1_0_k0  y0 y1 y2 y3 y4 y5))).symm
theorem ro17_1_0 {β : Type} (N : Nat)  (K : Exit → St → Option β) : ∀ (F : Nat) (v0 : Int) (v1 : Int) (v2 : Int) (v3 : Int) (v4 : Int) (v5 : Int) (v6 : List Int), (lp Tryd.f17 1).rounds lay (E17 N) (retMask Tryd.f17) F (h17_1_0  v0 v1 v2 v3 v4 v5 v6) K = spec_MatrixOf_l2 N  F v0 v1 v2 v3 v4 v5 v6 (fun y0 y1 y2 y3 y4 y5 => K (.exit 2) (x17_1_0_k0  y0 y1 y2 y3 y4 y5)) := by
  intro F
  induction F with
  | zero => intros; rfl
  | succ F ih =>
    intros
    rw [rounds_next]
    refine (st17_1_0 N  _ _ _ _ _ _ _ (fun s => (lp Tryd.f17 1).rounds lay (E17 N) (retMask Tryd.f17) F s K) K).trans ?_
    simp only [ih]
    rfl
theorem lk17_2 {β : Type} (N : Nat) : lookL (E17 (β := β) N).loops (lp Tryd.f17 1).id = LS17_2 N := by kernel_rfl
theorem rk17_2 {β : Type} (N : Nat) : RoundsOK lay (E17 (β := β) N) (retMask Tryd.f17) (lp Tryd.f17 1) := by
  intro s K r h
  rw [lk17_2] at h
  unfold LS17_2 VLS17_2 at h
  cases hb : shpSt (h17_1_0 0 0 0 0 0 0 []) s with
  | true =>
    rw [hb, cond_true] at h
    exact ⟨N, by rw [← shpSt_ref hb, fl17_1_0 s]; exact (ro17_1_0 N  K N (intS (oneA (vT (nx tund s.tmps 1)))) (intS (oneA (vT (nx tund s.tmps 7)))) (intS (oneA (vT (nx tund s.tmps 8)))) (intS (oneA (vT (nx tund s.tmps 9)))) (intS (nx .und (cellsB (nx .dead s.blks 0)) 0)) (intS (nx .und (cellsB (nx .dead s.blks 0)) 1)) (rInts (rowB_ (nx .dead s.blks 1)))).trans h⟩
  | false =>
  rw [hb, cond_false] at h
  clear hb
  cases h
def BV_spec_MatrixOf {β : Type} (N : Nat) (q_spec_IsTable : (a0 : Int) → (a1 : Int) → (k : Bool → Option β) → Option β) (q_spec_l1In : (a0 : Int) → (a1 : Int) → (a2 : Int) → (k : Bool → Option β) → Option β) (q_spec_MatrixOf_l0 : Nat → Int → Int → Int → Int → List Int → (List Int → Option β) → Option β) (a0 : Int) (a1 : Int) (a2 : Int) (k : List Int → Bool → Option β) : Option β :=
q_spec_IsTable a0 a1 fun r5 =>
(cond (!r5)
(k (([] : List Int)) false)
(q_spec_l1In a2 0 a0 fun r6 =>
(cond (!r6)
(k (([] : List Int)) false)
(q_spec_MatrixOf_l0  N a2 0 a0 a1 (([] : List Int)) (fun e8_0 =>
k e8_0 true)))))
theorem t_spec_MatrixOf {β : Type} (N : Nat) (a0 : Int) (a1 : Int) (a2 : Int) (k : List Int → Bool → Option β) : spec_MatrixOf N a0 a1 a2 k = BV_spec_MatrixOf N (spec_IsTable N) (spec_l1In N) (spec_MatrixOf_l0 N) a0 a1 a2 k := by
  unfold spec_MatrixOf BV_spec_MatrixOf
  rfl
theorem ve17_0 {β : Type} (N : Nat) (q_spec_IsTable : (a0 : Int) → (a1 : Int) → (k : Bool → Option β) → Option β) (q_spec_l1In : (a0 : Int) → (a1 : Int) → (a2 : Int) → (k : Bool → Option β) → Option β) (q_spec_MatrixOf_l0 : Nat → Int → Int → Int → Int → List Int → (List Int → Option β) → Option β) (q_spec_MatrixOf_l2 : Nat → Int → Int → Int → Int → Int → Int → List Int → (Int → Int → Int → Int → Int → List Int → Option β) → Option β)  (a0 : Int) (a1 : Int) (a2 : Int) (K : TV → Option β) : evFn lay (VE17 N q_spec_IsTable q_spec_l1In q_spec_MatrixOf_l0 q_spec_MatrixOf_l2) Tryd.f17 [.v (.agg [.int .i64 a0, .int .i64 a1]), .v (.one (.int .i64 a2))] K = BV_spec_MatrixOf N q_spec_IsTable q_spec_l1In q_spec_MatrixOf_l0 a0 a1 a2 (fun z3 z4 => K (.tup [.one (.sl 3 (.ints .i64 z3)), .one (.bool z4)])) := by kernel_rfl
theorem e17_0 {β : Type} (N : Nat)  (a0 : Int) (a1 : Int) (a2 : Int) (K : TV → Option β) : evFn lay (E17 N) Tryd.f17 [.v (.agg [.int .i64 a0, .int .i64 a1]), .v (.one (.int .i64 a2))] K = spec_MatrixOf N a0 a1 a2 (fun z3 z4 => K (.tup [.one (.sl 3 (.ints .i64 z3)), .one (.bool z4)])) := (ve17_0 N (spec_IsTable N) (spec_l1In N) (spec_MatrixOf_l0 N) (spec_MatrixOf_l2 N) a0 a1 a2 K).trans (t_spec_MatrixOf N a0 a1 a2 (fun z3 z4 => K (.tup [.one (.sl 3 (.ints .i64 z3)), .one (.bool z4)]))).symm
theorem o17 {β : Type} (N : Nat) : SpecOK (β := β) Tryd.prog 17 (S17 N) := by
  refine spec_of lay_ok mixed (E := E17 N) (specs_loops (specs_cons (o31 N) (specs_cons (o32 N) specs_nil))) muts_nil gs_nil Tryd.func17 (by kernel_rfl) 2 (by kernel_rfl) ⟨⟨trivial, rk17_0 N⟩, rk17_2 N⟩ fun args K r h => ?_
  unfold S17 VS17 at h
  split at h
  · exact (e17_0 N _ _ _ _).trans h
  · cases h
def VS33 {β : Type} (N : Nat) (q_spec_l21One : (a0 : List Int) → (a1 : Int) → (a2 : Int) → (k : Int → Option β) → Option β) : Rv.Spec β := fun args K => match args with
  | [.v (.one (.sl 3 (.ints .i64 a0))), .v (.one (.int .i64 a1)), .v (.one (.int .i64 a2))] => q_spec_l21One a0 a1 a2 (fun z3 => K (.v (.one (.int .i64 z3))))
  | _ => none
def S33 {β : Type} (N : Nat) : Rv.Spec β := VS33 N (spec_l21One N)
def h33_0_0  (v0 : List Int) (v1 : Int) (v2 : Int) (v3 : Int) (v4 : Int) : St := ⟨.v (.one (.sl 3 (.ints .i64 v0))) :: .v (.one (.int .i64 v1)) :: .v (.one (.int .i64 v2)) :: .v (.one .und) :: .v (.one .und) :: .v (.one .und) :: .v (.one .und) :: .v (.one (.int .i64 v3)) :: .v (.one (.int .i64 v4)) :: .v (.one .und) :: .v (.one .und) :: .v (.one .und) :: .v (.one .und) :: .v (.one .und) :: .v (.one .und) :: .v (.one .und) :: .v (.one .und) :: .v (.one .und) :: .v (.one .und) :: .v (.one .und) :: .v (.one .und) :: .v (.one .und) :: .v (.one .und) :: .v (.one .und) :: .v (.one .und) :: .v (.one .und) :: .v (.one .und) :: .v (.one .und) :: .v (.one .und) :: .v (.one .und) :: .v (.one .und) :: .v (.one .und) :: .v (.one .und) :: .v (.one .und) :: .v (.one .und) :: .v (.one .und) :: .v (.one .und) :: .v (.one .und) :: .v (.one .und) :: .v (.one .und) :: .v (.one .und) :: .v (.one .und) :: .v (.one .und) :: .v (.one .und) :: .v (.one .und) :: .v (.one .und) :: .v (.one .und) :: .v (.one .und) :: .v (.one .und) :: [], []⟩
def x33_0_0_k0  (y0 : Int) : St := ⟨.v (.one .und) :: .v (.one .und) :: .v (.one .und) :: .v (.one .und) :: .v (.one .und) :: .v (.one .und) :: .v (.one (.int .i64 y0)) :: .v (.one .und) :: .v (.one .und) :: .v (.one .und) :: .v (.one .und) :: .v (.one .und) :: .v (.one .und) :: .v (.one .und) :: .v (.one .und) :: .v (.one .und) :: .v (.one .und) :: .v (.one .und) :: .v (.one .und) :: .v (.one .und) :: .v (.one .und) :: .v (.one .und) :: .v (.one .und) :: .v (.one .und) :: .v (.one .und) :: .v (.one .und) :: .v (.one .und) :: .v (.one .und) :: .v (.one .und) :: .v (.one .und) :: .v (.one .und) :: .v (.one .und) :: .v (.one .und) :: .v (.one .und) :: .v (.one .und) :: .v (.one .und) :: .v (.one .und) :: .v (.one .und) :: .v (.one .und) :: .v (.one .und) :: .v (.one .und) :: .v (.one .und) :: .v (.one .und) :: .v (.one .und) :: .v (.one .und) :: .v (.one .und) :: .v (.one .und) :: .v (.one .und) :: .v (.one .und) :: [], []⟩
def x33_0_0_k1  (y0 : Int) : St := ⟨.v (.one .und) :: .v (.one .und) :: .v (.one .und) :: .v (.one .und) :: .v (.one .und) :: .v (.one .und) :: .v (.one .und) :: .v (.one (.int .i64 y0)) :: .v (.one .und) :: .v (.one .und) :: .v (.one .und) :: .v (.one .und) :: .v (.one .und) :: .v (.one .und) :: .v (.one .und) :: .v (.one .und) :: .v (.one .und) :: .v (.one .und) :: .v (.one .und) :: .v (.one .und) :: .v (.one .und) :: .v (.one .und) :: .v (.one .und) :: .v (.one .und) :: .v (.one .und) :: .v (.one .und) :: .v (.one .und) :: .v (.one .und) :: .v (.one .und) :: .v (.one .und) :: .v (.one .und) :: .v (.one .und) :: .v (.one .und) :: .v (.one .und) :: .v (.one .und) :: .v (.one .und) :: .v (.one .und) :: .v (.one .und) :: .v (.one .und) :: .v (.one .und) :: .v (.one .und) :: .v (.one .und) :: .v (.one .und) :: .v (.one .und) :: .v (.one .und) :: .v (.one .und) :: .v (.one .und) :: .v (.one .und) :: .v (.one .und) :: [], []⟩
def h33_1_0  (v0 : List Int) (v1 : Int) (v2 : Int) (v3 : Int) (v4 : Int) (v5 : Int) : St := ⟨.v (.one (.sl 3 (.ints .i64 v0))) :: .v (.one (.int .i64 v1)) :: .v (.one (.int .i64 v2)) :: .v (.one .und) :: .v (.one .und) :: .v (.one .und) :: .v (.one .und) :: .v (.one (.int .i64 v3)) :: .v (.one (.int .i64 v4)) :: .v (.one (.int .i64 v5)) :: .v (.one .und) :: .v (.one .und) :: .v (.one .und) :: .v (.one .und) :: .v (.one .und) :: .v (.one .und) :: .v (.one .und) :: .v (.one .und) :: .v (.one .und) :: .v (.one .und) :: .v (.one .und) :: .v (.one .und) :: .v (.one .und) :: .v (.one .und) :: .v (.one .und) :: .v (.one .und) :: .v (.one .und) :: .v (.one .und) :: .v (.one .und) :: .v (.one .und) :: .v (.one .und) :: .v (.one .und) :: .v (.one .und) :: .v (.one .und) :: .v (.one .und) :: .v (.one .und) :: .v (.one .und) :: .v (.one .und) :: .v (.one .und) :: .v (.one .und) :: .v (.one .und) :: .v (.one .und) :: .v (.one .und) :: .v (.one .und) :: .v (.one .und) :: .v (.one .und) :: .v (.one .und) :: .v (.one .und) :: .v (.one .und) :: [], []⟩
def x33_1_0_k0  (y0 : Int) : St := ⟨.v (.one .und) :: .v (.one .und) :: .v (.one .und) :: .v (.one .und) :: .v (.one .und) :: .v (.one .und) :: .v (.one (.int .i64 y0)) :: .v (.one .und) :: .v (.one .und) :: .v (.one .und) :: .v (.one .und) :: .v (.one .und) :: .v (.one .und) :: .v (.one .und) :: .v (.one .und) :: .v (.one .und) :: .v (.one .und) :: .v (.one .und) :: .v (.one .und) :: .v (.one .und) :: .v (.one .und) :: .v (.one .und) :: .v (.one .und) :: .v (.one .und) :: .v (.one .und) :: .v (.one .und) :: .v (.one .und) :: .v (.one .und) :: .v (.one .und) :: .v (.one .und) :: .v (.one .und) :: .v (.one .und) :: .v (.one .und) :: .v (.one .und) :: .v (.one .und) :: .v (.one .und) :: .v (.one .und) :: .v (.one .und) :: .v (.one .und) :: .v (.one .und) :: .v (.one .und) :: .v (.one .und) :: .v (.one .und) :: .v (.one .und) :: .v (.one .und) :: .v (.one .und) :: .v (.one .und) :: .v (.one .und) :: .v (.one .und) :: [], []⟩
def x33_1_0_k1  (y0 : List Int) (y1 : Int) (y2 : Int) (y3 : Int) (y4 : Int) : St := ⟨.v (.one (.sl 3 (.ints .i64 y0))) :: .v (.one (.int .i64 y1)) :: .v (.one (.int .i64 y2)) :: .v (.one .und) :: .v (.one .und) :: .v (.one .und) :: .v (.one .und) :: .v (.one (.int .i64 y3)) :: .v (.one (.int .i64 y4)) :: .v (.one .und) :: .v (.one .und) :: .v (.one .und) :: .v (.one .und) :: .v (.one .und) :: .v (.one .und) :: .v (.one .und) :: .v (.one .und) :: .v (.one .und) :: .v (.one .und) :: .v (.one .und) :: .v (.one .und) :: .v (.one .und) :: .v (.one .und) :: .v (.one .und) :: .v (.one .und) :: .v (.one .und) :: .v (.one .und) :: .v (.one .und) :: .v (.one .und) :: .v (.one .und) :: .v (.one .und) :: .v (.one .und) :: .v (.one .und) :: .v (.one .und) :: .v (.one .und) :: .v (.one .und) :: .v (.one .und) :: .v (.one .und) :: .v (.one .und) :: .v (.one .und) :: .v (.one .und) :: .v (.one .und) :: .v (.one .und) :: .v (.one .und) :: .v (.one .und) :: .v (.one .und) :: .v (.one .und) :: .v (.one .und) :: .v (.one .und) :: [], []⟩
theorem fl33_0_0 (s : St) : refSt (h33_0_0 [] 0 0 0 0) s = h33_0_0 (rInts (rowV (oneA (vT (nx tund s.tmps 0))))) (intS (oneA (vT (nx tund s.tmps 1)))) (intS (oneA (vT (nx tund s.tmps 2)))) (intS (oneA (vT (nx tund s.tmps 7)))) (intS (oneA (vT (nx tund s.tmps 8)))) := by kernel_rfl
def VLS33_0 {β : Type} (N : Nat) (q_spec_l21One_l0 : Nat → List Int → Int → Int → Int → Int → (Int → Option β) → (Int → Option β) → Option β) : LSpec β := fun s K => cond (shpSt (h33_0_0 [] 0 0 0 0) s) ((fun (v0 : List Int) (v1 : Int) (v2 : Int) (v3 : Int) (v4 : Int) => q_spec_l21One_l0  N v0 v1 v2 v3 v4 (fun y0 => K .ret (x33_0_0_k0  y0)) (fun y0 => K (.exit 0) (x33_0_0_k1  y0))) (rInts (rowV (oneA (vT (nx tund s.tmps 0))))) (intS (oneA (vT (nx tund s.tmps 1)))) (intS (oneA (vT (nx tund s.tmps 2)))) (intS (oneA (vT (nx tund s.tmps 7)))) (intS (oneA (vT (nx tund s.tmps 8))))) (none)
def LS33_0 {β : Type} (N : Nat) : LSpec β := VLS33_0 N (spec_l21One_l0 N)
theorem fl33_1_0 (s : St) : refSt (h33_1_0 [] 0 0 0 0 0) s = h33_1_0 (rInts (rowV (oneA (vT (nx tund s.tmps 0))))) (intS (oneA (vT (nx tund s.tmps 1)))) (intS (oneA (vT (nx tund s.tmps 2)))) (intS (oneA (vT (nx tund s.tmps 7)))) (intS (oneA (vT (nx tund s.tmps 8)))) (intS (oneA (vT (nx tund s.tmps 9)))) := by kernel_rfl
def VLS33_2 {β : Type} (N : Nat) (q_spec_l21One_l2 : Nat → List Int → Int → Int → Int → Int → Int → (Int → Option β) → (List Int → Int → Int → Int → Int → Option β) → Option β) : LSpec β := fun s K => cond (shpSt (h33_1_0 [] 0 0 0 0 0) s) ((fun (v0 : List Int) (v1 : Int) (v2 : Int) (v3 : Int) (v4 : Int) (v5 : Int) => q_spec_l21One_l2  N v0 v1 v2 v3 v4 v5 (fun y0 => K .ret (x33_1_0_k0  y0)) (fun y0 y1 y2 y3 y4 => K (.exit 2) (x33_1_0_k1  y0 y1 y2 y3 y4))) (rInts (rowV (oneA (vT (nx tund s.tmps 0))))) (intS (oneA (vT (nx tund s.tmps 1)))) (intS (oneA (vT (nx tund s.tmps 2)))) (intS (oneA (vT (nx tund s.tmps 7)))) (intS (oneA (vT (nx tund s.tmps 8)))) (intS (oneA (vT (nx tund s.tmps 9))))) (none)
def LS33_2 {β : Type} (N : Nat) : LSpec β := VLS33_2 N (spec_l21One_l2 N)
def VE33 {β : Type} (N : Nat) (q_spec_l21One_l0 : Nat → List Int → Int → Int → Int → Int → (Int → Option β) → (Int → Option β) → Option β) (q_spec_l21One_l2 : Nat → List Int → Int → Int → Int → Int → Int → (Int → Option β) → (List Int → Int → Int → Int → Int → Option β) → Option β) : Env β := ⟨[], [], [(0, VLS33_0 N q_spec_l21One_l0), (2, VLS33_2 N q_spec_l21One_l2)], []⟩
def E33 {β : Type} (N : Nat) : Env β := VE33 N (spec_l21One_l0 N) (spec_l21One_l2 N)
def BV_spec_l21One_l0b {β : Type} (N : Nat) (q_spec_l21One_l2 : Nat → List Int → Int → Int → Int → Int → Int → (Int → Option β) → (List Int → Int → Int → Int → Int → Option β) → Option β)  (v0 : List Int) (v1 : Int) (v2 : Int) (v3 : Int) (v4 : Int) (rec_ : List Int → Int → Int → Int → Int → Option β) (k0 : Int → Option β) (k1 : Int → Option β) : Option β :=
(cond ((decide (v4 < (v0.length : Int))))
((gd ((decide (0 ≤ v4)))
((cond (((bits .and .i64 (shrI .i64 v1 v4) 1) == 0))
(rec_ v0 v1 v2 v3 ((w64 (v4 + 1))))
(q_spec_l21One_l2  N v0 v1 v2 v3 v4 0 (fun e4_0 =>
k0 e4_0) (fun e5_0 e5_1 e5_2 e5_3 e5_4 =>
rec_ e5_0 e5_1 e5_2 e5_3 ((w64 (e5_4 + 1)))))))))
(k1 v3))
theorem t_spec_l21One_l0b {β : Type} (N : Nat)  (v0 : List Int) (v1 : Int) (v2 : Int) (v3 : Int) (v4 : Int) (rec_ : List Int → Int → Int → Int → Int → Option β) (k0 : Int → Option β) (k1 : Int → Option β) : spec_l21One_l0b N v0 v1 v2 v3 v4 rec_ k0 k1 = BV_spec_l21One_l0b N (spec_l21One_l2 N) v0 v1 v2 v3 v4 rec_ k0 k1 := by
  unfold spec_l21One_l0b BV_spec_l21One_l0b
  rfl
theorem vst33_0_0 {β : Type} (N : Nat) (q_spec_l21One_l0 : Nat → List Int → Int → Int → Int → Int → (Int → Option β) → (Int → Option β) → Option β) (q_spec_l21One_l2 : Nat → List Int → Int → Int → Int → Int → Int → (Int → Option β) → (List Int → Int → Int → Int → Int → Option β) → Option β)  (v0 : List Int) (v1 : Int) (v2 : Int) (v3 : Int) (v4 : Int) (rec_ : St → Option β) (K : Exit → St → Option β) :
    ev lay (VE33 N q_spec_l21One_l0 q_spec_l21One_l2) (retMask Tryd.f33) (lp Tryd.f33 0).body (lp Tryd.f33 0).ex ((lp Tryd.f33 0).lv (retMask Tryd.f33)) (h33_0_0  v0 v1 v2 v3 v4) (nextR (fun s' => rec_ (s'.tidy ((lp Tryd.f33 0).lv (retMask Tryd.f33)))) K) = BV_spec_l21One_l0b N q_spec_l21One_l2  v0 v1 v2 v3 v4 (fun v0 v1 v2 v3 v4 => rec_ (h33_0_0  v0 v1 v2 v3 v4)) (fun y0 => K .ret (x33_0_0_k0  y0)) (fun y0 => K (.exit 0) (x33_0_0_k1  y0)) := by kernel_rfl
theorem st33_0_0 {β : Type} (N : Nat)  (v0 : List Int) (v1 : Int) (v2 : Int) (v3 : Int) (v4 : Int) (rec_ : St → Option β) (K : Exit → St → Option β) :
    ev lay (E33 N) (retMask Tryd.f33) (lp Tryd.f33 0).body (lp Tryd.f33 0).ex ((lp Tryd.f33 0).lv (retMask Tryd.f33)) (h33_0_0  v0 v1 v2 v3 v4) (nextR (fun s' => rec_ (s'.tidy ((lp Tryd.f33 0).lv (retMask Tryd.f33)))) K) = spec_l21One_l0b N  v0 v1 v2 v3 v4 (fun v0 v1 v2 v3 v4 => rec_ (h33_0_0  v0 v1 v2 v3 v4)) (fun y0 => K .ret (x33_0_0_k0  y0)) (fun y0 => K (.exit 0) (x33_0_0_k1  y0)) := (vst33_0_0 N (spec_l21One_l0 N) (spec_l21One_l2 N) v0 v1 v2 v3 v4 rec_ K).trans (t_spec_l21One_l0b N  v0 v1 v2 v3 v4 (fun v0 v1 v2 v3 v4 => rec_ (h33_0_0  v0 v1 v2 v3 v4)) (fun y0 => K .ret (x33_0_0_k0  y0)) (fun y0 => K (.exit 0) (x33_0_0_k1  y0))).symm
theorem ro33_0_0 {β : Type} (N : Nat)  (K : Exit → St → Option β) : ∀ (F : Nat) (v0 : List Int) (v1 : Int) (v2 : Int) (v3 : Int) (v4 : Int), (lp Tryd.f33 0).rounds lay (E33 N) (retMask Tryd.f33) F (h33_0_0  v0 v1 v2 v3 v4) K = spec_l21One_l0 N  F v0 v1 v2 v3 v4 (fun y0 => K .ret (x33_0_0_k0  y0)) (fun y0 => K (.exit 0) (x33_0_0_k1  y0)) := by
  intro F
  induction F with
  | zero => intros; rfl
  | succ F ih =>
    intros
    rw [rounds_next]
    refine (st33_0_0 N  _ _ _ _ _ (fun s => (lp Tryd.f33 0).rounds lay (E33 N) (retMask Tryd.f33) F s K) K).trans ?_
    simp only [ih]
    rfl
theorem lk33_0 {β : Type} (N : Nat) : lookL (E33 (β := β) N).loops (lp Tryd.f33 0).id = LS33_0 N := by kernel_rfl
theorem rk33_0 {β : Type} (N : Nat) : RoundsOK lay (E33 (β := β) N) (retMask Tryd.f33) (lp Tryd.f33 0) := by
  intro s K r h
  rw [lk33_0] at h
  unfold LS33_0 VLS33_0 at h
  cases hb : shpSt (h33_0_0 [] 0 0 0 0) s with
  | true =>
    rw [hb, cond_true] at h
    exact ⟨N, by rw [← shpSt_ref hb, fl33_0_0 s]; exact (ro33_0_0 N  K N (rInts (rowV (oneA (vT (nx tund s.tmps 0))))) (intS (oneA (vT (nx tund s.tmps 1)))) (intS (oneA (vT (nx tund s.tmps 2)))) (intS (oneA (vT (nx tund s.tmps 7)))) (intS (oneA (vT (nx tund s.tmps 8))))).trans h⟩
  | false =>
  rw [hb, cond_false] at h
  clear hb
  cases h
def BV_spec_l21One_l2b {β : Type} (N : Nat)  (v0 : List Int) (v1 : Int) (v2 : Int) (v3 : Int) (v4 : Int) (v5 : Int) (rec_ : List Int → Int → Int → Int → Int → Int → Option β) (k0 : Int → Option β) (k1 : List Int → Int → Int → Int → Int → Option β) : Option β :=
(gd ((decide (0 ≤ v5)))
((cond ((decide ((shrI .i64 v2 v5) > 0)))
((gd ((decide (0 ≤ v5)))
((cond (((bits .and .i64 (shrI .i64 v2 v5) 1) == 0))
(rec_ v0 v1 v2 v3 v4 ((w64 (v5 + 1))))
((gd ((decide (0 ≤ v4)))
((gd ((decide (v4 < (v0.length : Int))))
((gd ((decide (0 ≤ v5)))
((cond ((decide (v3 ≥ 0)))
((cond (((bits .and .i64 (shrI .i64 (rd 0 v0 v4) v5) 1) != v3))
(k0 2)
(rec_ v0 v1 v2 ((bits .and .i64 (shrI .i64 (rd 0 v0 v4) v5) 1)) v4 ((w64 (v5 + 1))))))
(rec_ v0 v1 v2 ((bits .and .i64 (shrI .i64 (rd 0 v0 v4) v5) 1)) v4 ((w64 (v5 + 1))))))))))))))))
(k1 v0 v1 v2 v3 v4))))
theorem t_spec_l21One_l2b {β : Type} (N : Nat)  (v0 : List Int) (v1 : Int) (v2 : Int) (v3 : Int) (v4 : Int) (v5 : Int) (rec_ : List Int → Int → Int → Int → Int → Int → Option β) (k0 : Int → Option β) (k1 : List Int → Int → Int → Int → Int → Option β) : spec_l21One_l2b N v0 v1 v2 v3 v4 v5 rec_ k0 k1 = BV_spec_l21One_l2b N v0 v1 v2 v3 v4 v5 rec_ k0 k1 := by
  unfold spec_l21One_l2b BV_spec_l21One_l2b
  rfl
theorem vst33_1_0 {β : Type} (N : Nat) (q_spec_l21One_l0 : Nat → List Int → Int → Int → Int → Int → (Int → Option β) → (Int → Option β) → Option β) (q_spec_l21One_l2 : Nat → List Int → Int → Int → Int → Int → Int → (Int → Option β) → (List Int → Int → Int → Int → Int → Option β) → Option β)  (v0 : List Int) (v1 : Int) (v2 : Int) (v3 : Int) (v4 : Int) (v5 : Int) (rec_ : St → Option β) (K : Exit → St → Option β) :
    ev lay (VE33 N q_spec_l21One_l0 q_spec_l21One_l2) (retMask Tryd.f33) (lp Tryd.f33 1).body (lp Tryd.f33 1).ex ((lp Tryd.f33 1).lv (retMask Tryd.f33)) (h33_1_0  v0 v1 v2 v3 v4 v5) (nextR (fun s' => rec_ (s'.tidy ((lp Tryd.f33 1).lv (retMask Tryd.f33)))) K) = BV_spec_l21One_l2b N  v0 v1 v2 v3 v4 v5 (fun v0 v1 v2 v3 v4 v5 => rec_ (h33_1_0  v0 v1 v2 v3 v4 v5)) (fun y0 => K .ret (x33_1_0_k0  y0)) (fun y0 y1 y2 y3 y4 => K (.exit 2) (x33_1_0_k1  y0 y1 y2 y3 y4)) := by kernel_rfl
theorem st33_1_0 {β : Type} (N : Nat)  (v0 : List Int) (v1 : Int) (v2 : Int) (v3 : Int) (v4 : Int) (v5 : Int) (rec_ : St → Option β) (K : Exit → St → Option β) :
    ev lay (E33 N) (retMask Tryd.f33) (lp Tryd.f33 1).body (lp Tryd.f33 1).ex ((lp Tryd.f33 1).lv (retMask Tryd.f33)) (h33_1_0  v0 v1 v2 v3 v4 v5) (nextR (fun s' => rec_ (s'.tidy ((lp Tryd.f33 1).lv (retMask Tryd.f33)))) K) = spec_l21One_l2b N  v0 v1 v2 v3 v4 v5 (fun v0 v1 v2 v3 v4 v5 => rec_ (h33_1_0  v0 v1 v2 v3 v4 v5)) (fun y0 => K .ret (x33_1_0_k0  y0)) (fun y0 y1 y2 y3 y4 => K (.exit 2) (x33_1_0_k1  y0 y1 y2 y3 y4)) := (vst33_1_0 N (spec_l21One_l0 N) (spec_l21One_l2 N) v0 v1 v2 v3 v4 v5 rec_ K).trans (t_spec_l21One_l2b N  v0 v1 v2 v3 v4 v5 (fun v0 v1 v2 v3 v4 v5 => rec_ (h33_1_0  v0 v1 v2 v3 v4 v5)) (fun y0 => K .ret (x33_1_0_k0  y0)) (fun y0 y1 y2 y3 y4 => K (.exit 2) (x33_1_0_k1  y0 y1 y2 y3 y4))).symm
theorem ro33_1_0 {β : Type} (N : Nat)  (K : Exit → St → Option β) : ∀ (F : Nat) (v0 : List Int) (v1 : Int) (v2 : Int) (v3 : Int) (v4 : Int) (v5 : Int), (lp Tryd.f33 1).rounds lay (E33 N) (retMask Tryd.f33) F (h33_1_0  v0 v1 v2 v3 v4 v5) K = spec_l21One_l2 N  F v0 v1 v2 v3 v4 v5 (fun y0 => K .ret (x33_1_0_k0  y0)) (fun y0 y1 y2 y3 y4 => K (.exit 2) (x33_1_0_k1  y0 y1 y2 y3 y4)) := by
  intro F
  induction F with
  | zero => intros; rfl
  | succ F ih =>
    intros
    rw [rounds_next]
    refine (st33_1_0 N  _ _ _ _ _ _ (fun s => (lp Tryd.f33 1).rounds lay (E33 N) (retMask Tryd.f33) F s K) K).trans ?_
    simp only [ih]
    rfl
theorem lk33_2 {β : Type} (N : Nat) : lookL (E33 (β := β) N).loops (lp Tryd.f33 1).id = LS33_2 N := by kernel_rfl
theorem rk33_2 {β : Type} (N : Nat) : RoundsOK lay (E33 (β := β) N) (retMask Tryd.f33) (lp Tryd.f33 1) := by
  intro s K r h
  rw [lk33_2] at h
  unfold LS33_2 VLS33_2 at h
  cases hb : shpSt (h33_1_0 [] 0 0 0 0 0) s with
  | true =>
    rw [hb, cond_true] at h
    exact ⟨N, by rw [← shpSt_ref hb, fl33_1_0 s]; exact (ro33_1_0 N  K N (rInts (rowV (oneA (vT (nx tund s.tmps 0))))) (intS (oneA (vT (nx tund s.tmps 1)))) (intS (oneA (vT (nx tund s.tmps 2)))) (intS (oneA (vT (nx tund s.tmps 7)))) (intS (oneA (vT (nx tund s.tmps 8)))) (intS (oneA (vT (nx tund s.tmps 9))))).trans h⟩
  | false =>
  rw [hb, cond_false] at h
  clear hb
  cases h
def BV_spec_l21One {β : Type} (N : Nat) (q_spec_l21One_l0 : Nat → List Int → Int → Int → Int → Int → (Int → Option β) → (Int → Option β) → Option β) (a0 : List Int) (a1 : Int) (a2 : Int) (k : Int → Option β) : Option β :=
q_spec_l21One_l0  N a0 a1 a2 (-1) 0 (fun e6_0 =>
k e6_0) (fun e7_0 =>
k e7_0)
theorem t_spec_l21One {β : Type} (N : Nat) (a0 : List Int) (a1 : Int) (a2 : Int) (k : Int → Option β) : spec_l21One N a0 a1 a2 k = BV_spec_l21One N (spec_l21One_l0 N) a0 a1 a2 k := by
  unfold spec_l21One BV_spec_l21One
  rfl
theorem ve33_0 {β : Type} (N : Nat) (q_spec_l21One_l0 : Nat → List Int → Int → Int → Int → Int → (Int → Option β) → (Int → Option β) → Option β) (q_spec_l21One_l2 : Nat → List Int → Int → Int → Int → Int → Int → (Int → Option β) → (List Int → Int → Int → Int → Int → Option β) → Option β)  (a0 : List Int) (a1 : Int) (a2 : Int) (K : TV → Option β) : evFn lay (VE33 N q_spec_l21One_l0 q_spec_l21One_l2) Tryd.f33 [.v (.one (.sl 3 (.ints .i64 a0))), .v (.one (.int .i64 a1)), .v (.one (.int .i64 a2))] K = BV_spec_l21One N q_spec_l21One_l0 a0 a1 a2 (fun z3 => K (.v (.one (.int .i64 z3)))) := by kernel_rfl
theorem e33_0 {β : Type} (N : Nat)  (a0 : List Int) (a1 : Int) (a2 : Int) (K : TV → Option β) : evFn lay (E33 N) Tryd.f33 [.v (.one (.sl 3 (.ints .i64 a0))), .v (.one (.int .i64 a1)), .v (.one (.int .i64 a2))] K = spec_l21One N a0 a1 a2 (fun z3 => K (.v (.one (.int .i64 z3)))) := (ve33_0 N (spec_l21One_l0 N) (spec_l21One_l2 N) a0 a1 a2 K).trans (t_spec_l21One N a0 a1 a2 (fun z3 => K (.v (.one (.int .i64 z3))))).symm
theorem o33 {β : Type} (N : Nat) : SpecOK (β := β) Tryd.prog 33 (S33 N) := by
  refine spec_of lay_ok mixed (E := E33 N) (specs_loops specs_nil) muts_nil gs_nil Tryd.func33 (by kernel_rfl) 2 (by kernel_rfl) ⟨⟨trivial, rk33_0 N⟩, rk33_2 N⟩ fun args K r h => ?_
  unfold S33 VS33 at h
  split at h
  · exact (e33_0 N _ _ _ _).trans h
  · cases h
end Go.Proofs.YtdkjnadhgdneaaaDoor
