/- The functions that the claims reach answer as their texts do. -/
import Derived.Test.YtfdggelojmofmaaT0
import Derived.Test.YtfdggelojmofmaaProg
import Derived.KernelRfl
namespace Go.Proofs.Ytfdggelojmofmaa
open Go.Rv
set_option maxRecDepth 100000
set_option maxHeartbeats 2000000
set_option linter.unusedVariables false
def lay : Lay := [(1, .func),
  (2, .int .i64),
  (3, .int .i64),
  (4, .bool),
  (5, .int .u8),
  (9, .string),
  (12, .int .u64),
  (21, .int .i32),
  (25, .struct [⟨0, 1, false⟩, ⟨1, 1, false⟩] [3, 3] 16 true),
  (26, .struct [⟨0, 1, false⟩, ⟨1, 1, false⟩] [3, 3] 16 true),
  (27, .struct [⟨0, 1, false⟩, ⟨1, 1, false⟩] [3, 3] 16 true),
  (28, .slice 3),
  (29, .struct [⟨0, 1, false⟩, ⟨1, 2, true⟩, ⟨3, 1, false⟩, ⟨4, 1, false⟩, ⟨5, 1, false⟩, ⟨6, 1, false⟩] [3, 3, 3, 3, 3, 9, 28] 80 false),
  (30, .struct [⟨0, 1, false⟩, ⟨1, 2, true⟩, ⟨3, 1, false⟩, ⟨4, 1, false⟩, ⟨5, 1, false⟩, ⟨6, 1, false⟩] [3, 3, 3, 3, 3, 9, 28] 80 false),
  (37, .slice 9),
  (42, .slice 5),
  (54, .pointer 90),
  (71, .pointer 110),
  (89, .struct [⟨0, 1, false⟩, ⟨1, 1, false⟩, ⟨2, 1, false⟩] [5, 54, 54] 24 false),
  (90, .struct [⟨0, 1, false⟩, ⟨1, 1, false⟩, ⟨2, 1, false⟩] [5, 54, 54] 24 false),
  (99, .int .u64),
  (103, .slice 28),
  (107, .slice 160),
  (109, .struct [⟨0, 1, false⟩, ⟨1, 1, false⟩, ⟨2, 1, false⟩] [42, 3, 3] 40 false),
  (110, .struct [⟨0, 1, false⟩, ⟨1, 1, false⟩, ⟨2, 1, false⟩] [42, 3, 3] 40 false),
  (125, .slice 4),
  (126, .pointer 129),
  (127, .map 27 3),
  (128, .struct [⟨0, 1, false⟩, ⟨1, 1, false⟩, ⟨2, 1, false⟩] [28, 107, 127] 56 false),
  (129, .struct [⟨0, 1, false⟩, ⟨1, 1, false⟩, ⟨2, 1, false⟩] [28, 107, 127] 56 false),
  (138, .int .u32),
  (141, .int .u64),
  (146, .pointer 168),
  (149, .struct [⟨0, 1, false⟩, ⟨1, 1, false⟩] [3, 3] 16 true),
  (150, .struct [⟨0, 1, false⟩, ⟨1, 1, false⟩] [3, 3] 16 true),
  (159, .struct [⟨0, 1, false⟩, ⟨1, 1, false⟩, ⟨2, 1, false⟩] [3, 3, 3] 24 true),
  (160, .struct [⟨0, 1, false⟩, ⟨1, 1, false⟩, ⟨2, 1, false⟩] [3, 3, 3] 24 true),
  (162, .pointer 134),
  (166, .map 150 3),
  (167, .struct [⟨0, 2, true⟩, ⟨2, 1, false⟩, ⟨3, 1, false⟩] [3, 3, 166, 166] 32 false),
  (168, .struct [⟨0, 2, true⟩, ⟨2, 1, false⟩, ⟨3, 1, false⟩] [3, 3, 166, 166] 32 false),
  (172, .array 2 4),
  (181, .pointer 5)]

theorem lay_ok : LayOK Try.prog lay := layOK_of (by decide +kernel)
theorem mixed : Try.prog.follows .mixedOrders = true := by kernel_rfl
def inv : World → Prop := fun _ => True
def VS11 {β : Type} (N : Nat) (q_laws_toTable : (a0 : Int) → (a1 : Int) → (k : Int → Int → Option β) → Option β) : Rv.Spec β := fun args K => match args with
  | [.v (.agg [.int .i64 a0, .int .i64 a1])] => q_laws_toTable a0 a1 (fun z2 z3 => K (.v (.agg [.int .i64 z2, .int .i64 z3])))
  | _ => none
def S11 {β : Type} (N : Nat) : Rv.Spec β := VS11 N (laws_toTable N)
def VE11 {β : Type} (N : Nat) : Env β := ⟨[], [], [], [], ⟨[], [], [106], [147, 148, 186]⟩⟩
def E11 {β : Type} (N : Nat) : Env β := VE11 N
def BV_laws_toTable {β : Type} (N : Nat) (a0 : Int) (a1 : Int) (k : Int → Int → Option β) : Option β :=
k a0 a1
theorem t_laws_toTable {β : Type} (N : Nat) (a0 : Int) (a1 : Int) (k : Int → Int → Option β) : laws_toTable N a0 a1 k = BV_laws_toTable N a0 a1 k := by
  unfold laws_toTable BV_laws_toTable
  rfl
theorem ve11_0 {β : Type} (N : Nat)  (a0 : Int) (a1 : Int) (K : TV → Option β) : evFn lay (VE11 N) Try.f11 [.v (.agg [.int .i64 a0, .int .i64 a1])] K = BV_laws_toTable N a0 a1 (fun z2 z3 => K (.v (.agg [.int .i64 z2, .int .i64 z3]))) := by kernel_rfl
theorem e11_0 {β : Type} (N : Nat)  (a0 : Int) (a1 : Int) (K : TV → Option β) : evFn lay (E11 N) Try.f11 [.v (.agg [.int .i64 a0, .int .i64 a1])] K = laws_toTable N a0 a1 (fun z2 z3 => K (.v (.agg [.int .i64 z2, .int .i64 z3]))) := (ve11_0 N a0 a1 K).trans (t_laws_toTable N a0 a1 (fun z2 z3 => K (.v (.agg [.int .i64 z2, .int .i64 z3])))).symm
theorem o11 {β : Type} (N : Nat) : SpecOK (β := β) inv Try.prog 11 (S11 N) := by
  refine spec_of lay_ok mixed (E := E11 N) (specs_loops specs_nil) muts_nil gs_nil Try.func11 (by kernel_rfl) 0 (by kernel_rfl) trivial fun args K r h => ?_
  unfold S11 VS11 at h
  split at h
  · exact (e11_0 N _ _ _).trans h
  · cases h
def VS73 {β : Type} (N : Nat) (q_spec_l1In : (a0 : Int) → (a1 : Int) → (a2 : Int) → (k : Bool → Option β) → Option β) : Rv.Spec β := fun args K => match args with
  | [.v (.one (.int .i64 a0)), .v (.one (.int .i64 a1)), .v (.one (.int .i64 a2))] => q_spec_l1In a0 a1 a2 (fun z3 => K (.v (.one (.bool z3))))
  | _ => none
def S73 {β : Type} (N : Nat) : Rv.Spec β := VS73 N (spec_l1In N)
def VE73 {β : Type} (N : Nat) : Env β := ⟨[], [], [], [], ⟨[], [], [106], [147, 148, 186]⟩⟩
def E73 {β : Type} (N : Nat) : Env β := VE73 N
def BV_spec_l1In {β : Type} (N : Nat) (a0 : Int) (a1 : Int) (a2 : Int) (k : Bool → Option β) : Option β :=
(cond ((decide (a0 ≥ a1)))
(k ((decide (a0 ≤ a2))))
(k false))
theorem t_spec_l1In {β : Type} (N : Nat) (a0 : Int) (a1 : Int) (a2 : Int) (k : Bool → Option β) : spec_l1In N a0 a1 a2 k = BV_spec_l1In N a0 a1 a2 k := by
  unfold spec_l1In BV_spec_l1In
  rfl
theorem ve73_0 {β : Type} (N : Nat)  (a0 : Int) (a1 : Int) (a2 : Int) (K : TV → Option β) : evFn lay (VE73 N) Try.f73 [.v (.one (.int .i64 a0)), .v (.one (.int .i64 a1)), .v (.one (.int .i64 a2))] K = BV_spec_l1In N a0 a1 a2 (fun z3 => K (.v (.one (.bool z3)))) := by kernel_rfl
theorem e73_0 {β : Type} (N : Nat)  (a0 : Int) (a1 : Int) (a2 : Int) (K : TV → Option β) : evFn lay (E73 N) Try.f73 [.v (.one (.int .i64 a0)), .v (.one (.int .i64 a1)), .v (.one (.int .i64 a2))] K = spec_l1In N a0 a1 a2 (fun z3 => K (.v (.one (.bool z3)))) := (ve73_0 N a0 a1 a2 K).trans (t_spec_l1In N a0 a1 a2 (fun z3 => K (.v (.one (.bool z3))))).symm
theorem o73 {β : Type} (N : Nat) : SpecOK (β := β) inv Try.prog 73 (S73 N) := by
  refine spec_of lay_ok mixed (E := E73 N) (specs_loops specs_nil) muts_nil gs_nil Try.func73 (by kernel_rfl) 0 (by kernel_rfl) trivial fun args K r h => ?_
  unfold S73 VS73 at h
  split at h
  · exact (e73_0 N _ _ _ _).trans h
  · cases h
def VS58 {β : Type} (N : Nat) (q_spec_IsTable : (a0 : Int) → (a1 : Int) → (k : Bool → Option β) → Option β) : Rv.Spec β := fun args K => match args with
  | [.v (.agg [.int .i64 a0, .int .i64 a1])] => q_spec_IsTable a0 a1 (fun z2 => K (.v (.one (.bool z2))))
  | _ => none
def S58 {β : Type} (N : Nat) : Rv.Spec β := VS58 N (spec_IsTable N)
def VE58 {β : Type} (N : Nat) (q_spec_l1In : (a0 : Int) → (a1 : Int) → (a2 : Int) → (k : Bool → Option β) → Option β) : Env β := ⟨[(73, VS73 N q_spec_l1In)], [], [], [], ⟨[], [], [106], [147, 148, 186]⟩⟩
def E58 {β : Type} (N : Nat) : Env β := VE58 N (spec_l1In N)
def BV_spec_IsTable {β : Type} (N : Nat) (q_spec_l1In : (a0 : Int) → (a1 : Int) → (a2 : Int) → (k : Bool → Option β) → Option β) (a0 : Int) (a1 : Int) (k : Bool → Option β) : Option β :=
q_spec_l1In a0 0 5 fun r3 =>
(cond r3
((gd ((decide (0 ≤ a0)))
((gd ((decide (0 ≤ (shlI .u64 1 a0))))
(q_spec_l1In a1 0 ((w64 ((shlI .i64 1 (shlI .u64 1 a0)) - 1))) fun r4 =>
k r4)))))
(k false))
theorem t_spec_IsTable {β : Type} (N : Nat) (a0 : Int) (a1 : Int) (k : Bool → Option β) : spec_IsTable N a0 a1 k = BV_spec_IsTable N (spec_l1In N) a0 a1 k := by
  unfold spec_IsTable BV_spec_IsTable
  rfl
theorem ve58_0 {β : Type} (N : Nat) (q_spec_l1In : (a0 : Int) → (a1 : Int) → (a2 : Int) → (k : Bool → Option β) → Option β)  (a0 : Int) (a1 : Int) (K : TV → Option β) : evFn lay (VE58 N q_spec_l1In) Try.f58 [.v (.agg [.int .i64 a0, .int .i64 a1])] K = BV_spec_IsTable N q_spec_l1In a0 a1 (fun z2 => K (.v (.one (.bool z2)))) := by kernel_rfl
theorem e58_0 {β : Type} (N : Nat)  (a0 : Int) (a1 : Int) (K : TV → Option β) : evFn lay (E58 N) Try.f58 [.v (.agg [.int .i64 a0, .int .i64 a1])] K = spec_IsTable N a0 a1 (fun z2 => K (.v (.one (.bool z2)))) := (ve58_0 N (spec_l1In N) a0 a1 K).trans (t_spec_IsTable N a0 a1 (fun z2 => K (.v (.one (.bool z2))))).symm
theorem o58 {β : Type} (N : Nat) : SpecOK (β := β) inv Try.prog 58 (S58 N) := by
  refine spec_of lay_ok mixed (E := E58 N) (specs_loops (specs_cons (o73 N) specs_nil)) muts_nil gs_nil Try.func58 (by kernel_rfl) 0 (by kernel_rfl) trivial fun args K r h => ?_
  unfold S58 VS58 at h
  split at h
  · exact (e58_0 N _ _ _).trans h
  · cases h
def VSF106 {β : Type} (N : Nat) (q_spec_l4Perms_f : Nat → Int → List Int → (List (List Int) → Option β) → Option β) (G : Nat) : Rv.Spec β := fun args K => match args with
  | [.v (.one (.int .i64 a0)), .v (.one (.fsl 3 (.ints .i64 a1)))] => q_spec_l4Perms_f G a0 a1 (fun z2 => K (.v (.one (.sl 28 (.lists 3 z2)))))
  | _ => none
def SF106 {β : Type} (N : Nat) (G : Nat) : Rv.Spec β := VSF106 N (spec_l4Perms_f N) G
def VS106 {β : Type} (N : Nat) (q_spec_l4Perms_f : Nat → Int → List Int → (List (List Int) → Option β) → Option β) : Rv.Spec β := VSF106 N q_spec_l4Perms_f N
def S106 {β : Type} (N : Nat) : Rv.Spec β := SF106 N N
def h106_0_0  (v0 : Int) (v1 : List Int) (v2 : Int) (v3 : List (List Int)) : St := ⟨.v (.one (.int .i64 v0)) :: .v (.one (.fsl 3 (.ints .i64 v1))) :: .v (.one .und) :: .v (.one .und) :: .v (.one .und) :: .v (.one (.row 0)) :: .v (.one (.int .i64 v2)) :: .v (.one .und) :: .v (.one .und) :: .v (.one .und) :: .v (.one .und) :: .v (.one .und) :: .v (.one .und) :: .v (.one .und) :: .v (.one .und) :: .v (.one .und) :: .v (.one .und) :: .v (.one .und) :: .v (.one .und) :: .v (.one .und) :: .v (.one .und) :: .v (.one .und) :: .v (.one .und) :: .v (.one .und) :: .v (.one .und) :: .v (.one .und) :: .v (.one .und) :: .v (.one .und) :: .v (.one .und) :: .v (.one .und) :: .v (.one .und) :: .v (.one .und) :: .v (.one .und) :: .v (.one .und) :: .v (.one .und) :: .v (.one .und) :: .v (.one .und) :: .v (.one .und) :: .v (.one .und) :: .v (.one .und) :: .v (.one .und) :: .v (.one .und) :: .v (.one .und) :: .v (.one .und) :: .v (.one .und) :: .v (.one .und) :: .v (.one .und) :: .v (.one .und) :: .v (.one .und) :: [], [.row 28 (.lists 3 v3)]⟩
def x106_0_0_k0  (y0 : List (List Int)) : St := ⟨.v (.one .und) :: .v (.one .und) :: .v (.one .und) :: .v (.one .und) :: .v (.one .und) :: .v (.one (.row 0)) :: .v (.one .und) :: .v (.one .und) :: .v (.one .und) :: .v (.one .und) :: .v (.one .und) :: .v (.one .und) :: .v (.one .und) :: .v (.one .und) :: .v (.one .und) :: .v (.one .und) :: .v (.one .und) :: .v (.one .und) :: .v (.one .und) :: .v (.one .und) :: .v (.one .und) :: .v (.one .und) :: .v (.one .und) :: .v (.one .und) :: .v (.one .und) :: .v (.one .und) :: .v (.one .und) :: .v (.one .und) :: .v (.one .und) :: .v (.one .und) :: .v (.one .und) :: .v (.one .und) :: .v (.one .und) :: .v (.one .und) :: .v (.one .und) :: .v (.one .und) :: .v (.one .und) :: .v (.one .und) :: .v (.one .und) :: .v (.one .und) :: .v (.one .und) :: .v (.one .und) :: .v (.one .und) :: .v (.one .und) :: .v (.one .und) :: .v (.one .und) :: .v (.one .und) :: .v (.one .und) :: .v (.one .und) :: [], [.row 28 (.lists 3 y0)]⟩
def h106_1_0  (v0 : Int) (v1 : List Int) (v2 : Int) (v3 : Bool) (v4 : Int) (v5 : List (List Int)) : St := ⟨.v (.one (.int .i64 v0)) :: .v (.one (.fsl 3 (.ints .i64 v1))) :: .v (.one .und) :: .v (.one .und) :: .v (.one .und) :: .v (.one (.row 0)) :: .v (.one (.int .i64 v2)) :: .v (.one (.bool v3)) :: .v (.one (.int .i64 v4)) :: .v (.one .und) :: .v (.one .und) :: .v (.one .und) :: .v (.one .und) :: .v (.one .und) :: .v (.one .und) :: .v (.one .und) :: .v (.one .und) :: .v (.one .und) :: .v (.one .und) :: .v (.one .und) :: .v (.one .und) :: .v (.one .und) :: .v (.one .und) :: .v (.one .und) :: .v (.one .und) :: .v (.one .und) :: .v (.one .und) :: .v (.one .und) :: .v (.one .und) :: .v (.one .und) :: .v (.one .und) :: .v (.one .und) :: .v (.one .und) :: .v (.one .und) :: .v (.one .und) :: .v (.one .und) :: .v (.one .und) :: .v (.one .und) :: .v (.one .und) :: .v (.one .und) :: .v (.one .und) :: .v (.one .und) :: .v (.one .und) :: .v (.one .und) :: .v (.one .und) :: .v (.one .und) :: .v (.one .und) :: .v (.one .und) :: .v (.one .und) :: [], [.row 28 (.lists 3 v5)]⟩
def x106_1_0_k0  (y0 : Int) (y1 : List Int) (y2 : Int) (y3 : Bool) (y4 : List (List Int)) : St := ⟨.v (.one (.int .i64 y0)) :: .v (.one (.fsl 3 (.ints .i64 y1))) :: .v (.one .und) :: .v (.one .und) :: .v (.one .und) :: .v (.one (.row 0)) :: .v (.one (.int .i64 y2)) :: .v (.one (.bool y3)) :: .v (.one .und) :: .v (.one .und) :: .v (.one .und) :: .v (.one .und) :: .v (.one .und) :: .v (.one .und) :: .v (.one .und) :: .v (.one .und) :: .v (.one .und) :: .v (.one .und) :: .v (.one .und) :: .v (.one .und) :: .v (.one .und) :: .v (.one .und) :: .v (.one .und) :: .v (.one .und) :: .v (.one .und) :: .v (.one .und) :: .v (.one .und) :: .v (.one .und) :: .v (.one .und) :: .v (.one .und) :: .v (.one .und) :: .v (.one .und) :: .v (.one .und) :: .v (.one .und) :: .v (.one .und) :: .v (.one .und) :: .v (.one .und) :: .v (.one .und) :: .v (.one .und) :: .v (.one .und) :: .v (.one .und) :: .v (.one .und) :: .v (.one .und) :: .v (.one .und) :: .v (.one .und) :: .v (.one .und) :: .v (.one .und) :: .v (.one .und) :: .v (.one .und) :: [], [.row 28 (.lists 3 y4)]⟩
theorem fl106_0_0 (s : St) : refSt (h106_0_0 0 [] 0 []) s = h106_0_0 (intS (oneA (vT (nx tund s.tmps 0)))) (rInts (rowV (oneA (vT (nx tund s.tmps 1))))) (intS (oneA (vT (nx tund s.tmps 6)))) (rLists (rowB_ (nx .dead s.blks 0))) := by kernel_rfl
def VLS106_0 {β : Type} (N : Nat) (q_spec_l4Perms_l0 : (self : Int → List Int → (List (List Int) → Option β) → Option β) → Nat → Int → List Int → Int → List (List Int) → (List (List Int) → Option β) → Option β) (q_spec_l4Perms_f : Nat → Int → List Int → (List (List Int) → Option β) → Option β) (G : Nat) : LSpec β := fun s K => cond (shpSt (h106_0_0 0 [] 0 []) s) ((fun (v0 : Int) (v1 : List Int) (v2 : Int) (v3 : List (List Int)) => q_spec_l4Perms_l0 (q_spec_l4Perms_f G)  N v0 v1 v2 v3 (fun y0 => K (.exit 0) (x106_0_0_k0  y0))) (intS (oneA (vT (nx tund s.tmps 0)))) (rInts (rowV (oneA (vT (nx tund s.tmps 1))))) (intS (oneA (vT (nx tund s.tmps 6)))) (rLists (rowB_ (nx .dead s.blks 0)))) (none)
def LS106_0 {β : Type} (N : Nat) (G : Nat) : LSpec β := VLS106_0 N (spec_l4Perms_l0 N) (spec_l4Perms_f N) G
theorem fl106_1_0 (s : St) : refSt (h106_1_0 0 [] 0 false 0 []) s = h106_1_0 (intS (oneA (vT (nx tund s.tmps 0)))) (rInts (rowV (oneA (vT (nx tund s.tmps 1))))) (intS (oneA (vT (nx tund s.tmps 6)))) (boolS (oneA (vT (nx tund s.tmps 7)))) (intS (oneA (vT (nx tund s.tmps 8)))) (rLists (rowB_ (nx .dead s.blks 0))) := by kernel_rfl
def VLS106_2 {β : Type} (N : Nat) (q_spec_l4Perms_l2 : Nat → Int → List Int → Int → Bool → Int → List (List Int) → (Int → List Int → Int → Bool → List (List Int) → Option β) → Option β) (G : Nat) : LSpec β := fun s K => cond (shpSt (h106_1_0 0 [] 0 false 0 []) s) ((fun (v0 : Int) (v1 : List Int) (v2 : Int) (v3 : Bool) (v4 : Int) (v5 : List (List Int)) => q_spec_l4Perms_l2  N v0 v1 v2 v3 v4 v5 (fun y0 y1 y2 y3 y4 => K (.exit 2) (x106_1_0_k0  y0 y1 y2 y3 y4))) (intS (oneA (vT (nx tund s.tmps 0)))) (rInts (rowV (oneA (vT (nx tund s.tmps 1))))) (intS (oneA (vT (nx tund s.tmps 6)))) (boolS (oneA (vT (nx tund s.tmps 7)))) (intS (oneA (vT (nx tund s.tmps 8)))) (rLists (rowB_ (nx .dead s.blks 0)))) (none)
def LS106_2 {β : Type} (N : Nat) (G : Nat) : LSpec β := VLS106_2 N (spec_l4Perms_l2 N) G
def VE106 {β : Type} (N : Nat) (q_spec_l4Perms_f : Nat → Int → List Int → (List (List Int) → Option β) → Option β) (q_spec_l4Perms_l0 : (self : Int → List Int → (List (List Int) → Option β) → Option β) → Nat → Int → List Int → Int → List (List Int) → (List (List Int) → Option β) → Option β) (q_spec_l4Perms_l2 : Nat → Int → List Int → Int → Bool → Int → List (List Int) → (Int → List Int → Int → Bool → List (List Int) → Option β) → Option β) (G : Nat) : Env β := ⟨[(106, VSF106 N q_spec_l4Perms_f G)], [], [(0, VLS106_0 N q_spec_l4Perms_l0 q_spec_l4Perms_f G), (2, VLS106_2 N q_spec_l4Perms_l2 G)], [], ⟨[], [], [106], [147, 148, 186]⟩⟩
def E106 {β : Type} (N : Nat) (G : Nat) : Env β := VE106 N (spec_l4Perms_f N) (spec_l4Perms_l0 N) (spec_l4Perms_l2 N) G
def BV_spec_l4Perms_l0b {β : Type} (N : Nat) (q_spec_l4Perms_l2 : Nat → Int → List Int → Int → Bool → Int → List (List Int) → (Int → List Int → Int → Bool → List (List Int) → Option β) → Option β) (self : Int → List Int → (List (List Int) → Option β) → Option β)  (v0 : Int) (v1 : List Int) (v2 : Int) (v3 : List (List Int)) (rec_ : Int → List Int → Int → List (List Int) → Option β) (k0 : List (List Int) → Option β) : Option β :=
(cond ((decide (v2 < v0)))
(q_spec_l4Perms_l2  N v0 v1 v2 false 0 v3 (fun e3_0 e3_1 e3_2 e3_3 e3_4 =>
(cond (!e3_3)
((gd ((decide (((([] : List Int)).length + e3_1.length) * 8 ≤ 140737488355328)))
((gd ((decide ((((([] : List Int) ++ e3_1)).length + ((([] : List Int) ++ [e3_2])).length) * 8 ≤ 140737488355328)))
(self e3_0 (((([] : List Int) ++ e3_1) ++ (([] : List Int) ++ [e3_2]))) fun r4 =>
(gd ((decide ((e3_4.length + r4.length) * 24 ≤ 140737488355328)))
(rec_ e3_0 e3_1 ((w64 (e3_2 + 1))) ((e3_4 ++ r4)))))))))
(rec_ e3_0 e3_1 ((w64 (e3_2 + 1))) e3_4))))
(k0 v3))
theorem t_spec_l4Perms_l0b {β : Type} (N : Nat) (self : Int → List Int → (List (List Int) → Option β) → Option β)  (v0 : Int) (v1 : List Int) (v2 : Int) (v3 : List (List Int)) (rec_ : Int → List Int → Int → List (List Int) → Option β) (k0 : List (List Int) → Option β) : spec_l4Perms_l0b N self v0 v1 v2 v3 rec_ k0 = BV_spec_l4Perms_l0b N (spec_l4Perms_l2 N) self v0 v1 v2 v3 rec_ k0 := by
  unfold spec_l4Perms_l0b BV_spec_l4Perms_l0b
  rfl
theorem vst106_0_0 {β : Type} (N : Nat) (q_spec_l4Perms_f : Nat → Int → List Int → (List (List Int) → Option β) → Option β) (q_spec_l4Perms_l0 : (self : Int → List Int → (List (List Int) → Option β) → Option β) → Nat → Int → List Int → Int → List (List Int) → (List (List Int) → Option β) → Option β) (q_spec_l4Perms_l2 : Nat → Int → List Int → Int → Bool → Int → List (List Int) → (Int → List Int → Int → Bool → List (List Int) → Option β) → Option β) (G : Nat)  (v0 : Int) (v1 : List Int) (v2 : Int) (v3 : List (List Int)) (rec_ : St → Option β) (K : Exit → St → Option β) :
    ev lay (VE106 N q_spec_l4Perms_f q_spec_l4Perms_l0 q_spec_l4Perms_l2 G) (retMask Try.f106) (lp Try.f106 0).body (lp Try.f106 0).ex ((lp Try.f106 0).lv (retMask Try.f106)) (h106_0_0  v0 v1 v2 v3) (nextR (fun s' => rec_ (s'.tidy ((lp Try.f106 0).lv (retMask Try.f106)))) K) = BV_spec_l4Perms_l0b N q_spec_l4Perms_l2 (q_spec_l4Perms_f G)  v0 v1 v2 v3 (fun v0 v1 v2 v3 => rec_ (h106_0_0  v0 v1 v2 v3)) (fun y0 => K (.exit 0) (x106_0_0_k0  y0)) := by kernel_rfl
theorem st106_0_0 {β : Type} (N : Nat) (G : Nat)  (v0 : Int) (v1 : List Int) (v2 : Int) (v3 : List (List Int)) (rec_ : St → Option β) (K : Exit → St → Option β) :
    ev lay (E106 N G) (retMask Try.f106) (lp Try.f106 0).body (lp Try.f106 0).ex ((lp Try.f106 0).lv (retMask Try.f106)) (h106_0_0  v0 v1 v2 v3) (nextR (fun s' => rec_ (s'.tidy ((lp Try.f106 0).lv (retMask Try.f106)))) K) = spec_l4Perms_l0b N (spec_l4Perms_f N G)  v0 v1 v2 v3 (fun v0 v1 v2 v3 => rec_ (h106_0_0  v0 v1 v2 v3)) (fun y0 => K (.exit 0) (x106_0_0_k0  y0)) := (vst106_0_0 N (spec_l4Perms_f N) (spec_l4Perms_l0 N) (spec_l4Perms_l2 N) G v0 v1 v2 v3 rec_ K).trans (t_spec_l4Perms_l0b N (spec_l4Perms_f N G)  v0 v1 v2 v3 (fun v0 v1 v2 v3 => rec_ (h106_0_0  v0 v1 v2 v3)) (fun y0 => K (.exit 0) (x106_0_0_k0  y0))).symm
theorem ro106_0_0 {β : Type} (N : Nat) (G : Nat)  (K : Exit → St → Option β) : ∀ (F : Nat) (v0 : Int) (v1 : List Int) (v2 : Int) (v3 : List (List Int)), (lp Try.f106 0).rounds lay (E106 N G) (retMask Try.f106) F (h106_0_0  v0 v1 v2 v3) K = spec_l4Perms_l0 N (spec_l4Perms_f N G)  F v0 v1 v2 v3 (fun y0 => K (.exit 0) (x106_0_0_k0  y0)) := by
  intro F
  induction F with
  | zero => intros; rfl
  | succ F ih =>
    intros
    rw [rounds_next]
    refine (st106_0_0 N G  _ _ _ _ (fun s => (lp Try.f106 0).rounds lay (E106 N G) (retMask Try.f106) F s K) K).trans ?_
    simp only [ih]
    rfl
theorem lk106_0 {β : Type} (N : Nat) (G : Nat) : lookL (E106 (β := β) N G).loops (lp Try.f106 0).id = LS106_0 N G := by kernel_rfl
theorem rk106_0 {β : Type} (N : Nat) (G : Nat) : RoundsOK lay (E106 (β := β) N G) (retMask Try.f106) (lp Try.f106 0) := by
  intro s K r h
  rw [lk106_0] at h
  unfold LS106_0 VLS106_0 at h
  cases hb : shpSt (h106_0_0 0 [] 0 []) s with
  | true =>
    rw [hb, cond_true] at h
    exact ⟨N, by rw [← shpSt_ref hb, fl106_0_0 s]; exact (ro106_0_0 N G  K N (intS (oneA (vT (nx tund s.tmps 0)))) (rInts (rowV (oneA (vT (nx tund s.tmps 1))))) (intS (oneA (vT (nx tund s.tmps 6)))) (rLists (rowB_ (nx .dead s.blks 0)))).trans h⟩
  | false =>
  rw [hb, cond_false] at h
  clear hb
  cases h
def BV_spec_l4Perms_l2b {β : Type} (N : Nat)  (v0 : Int) (v1 : List Int) (v2 : Int) (v3 : Bool) (v4 : Int) (v5 : List (List Int)) (rec_ : Int → List Int → Int → Bool → Int → List (List Int) → Option β) (k0 : Int → List Int → Int → Bool → List (List Int) → Option β) : Option β :=
(cond ((decide (v4 < (v1.length : Int))))
((cond v3
(rec_ v0 v1 v2 true ((w64 (v4 + 1))) v5)
((gd ((decide (0 ≤ v4)))
((gd ((decide (v4 < (v1.length : Int))))
(rec_ v0 v1 v2 (((rd 0 v1 v4) == v2)) ((w64 (v4 + 1))) v5)))))))
(k0 v0 v1 v2 v3 v5))
theorem t_spec_l4Perms_l2b {β : Type} (N : Nat)  (v0 : Int) (v1 : List Int) (v2 : Int) (v3 : Bool) (v4 : Int) (v5 : List (List Int)) (rec_ : Int → List Int → Int → Bool → Int → List (List Int) → Option β) (k0 : Int → List Int → Int → Bool → List (List Int) → Option β) : spec_l4Perms_l2b N v0 v1 v2 v3 v4 v5 rec_ k0 = BV_spec_l4Perms_l2b N v0 v1 v2 v3 v4 v5 rec_ k0 := by
  unfold spec_l4Perms_l2b BV_spec_l4Perms_l2b
  rfl
theorem vst106_1_0 {β : Type} (N : Nat) (q_spec_l4Perms_f : Nat → Int → List Int → (List (List Int) → Option β) → Option β) (q_spec_l4Perms_l0 : (self : Int → List Int → (List (List Int) → Option β) → Option β) → Nat → Int → List Int → Int → List (List Int) → (List (List Int) → Option β) → Option β) (q_spec_l4Perms_l2 : Nat → Int → List Int → Int → Bool → Int → List (List Int) → (Int → List Int → Int → Bool → List (List Int) → Option β) → Option β) (G : Nat)  (v0 : Int) (v1 : List Int) (v2 : Int) (v3 : Bool) (v4 : Int) (v5 : List (List Int)) (rec_ : St → Option β) (K : Exit → St → Option β) :
    ev lay (VE106 N q_spec_l4Perms_f q_spec_l4Perms_l0 q_spec_l4Perms_l2 G) (retMask Try.f106) (lp Try.f106 1).body (lp Try.f106 1).ex ((lp Try.f106 1).lv (retMask Try.f106)) (h106_1_0  v0 v1 v2 v3 v4 v5) (nextR (fun s' => rec_ (s'.tidy ((lp Try.f106 1).lv (retMask Try.f106)))) K) = BV_spec_l4Perms_l2b N  v0 v1 v2 v3 v4 v5 (fun v0 v1 v2 v3 v4 v5 => rec_ (h106_1_0  v0 v1 v2 v3 v4 v5)) (fun y0 y1 y2 y3 y4 => K (.exit 2) (x106_1_0_k0  y0 y1 y2 y3 y4)) := by kernel_rfl
theorem st106_1_0 {β : Type} (N : Nat) (G : Nat)  (v0 : Int) (v1 : List Int) (v2 : Int) (v3 : Bool) (v4 : Int) (v5 : List (List Int)) (rec_ : St → Option β) (K : Exit → St → Option β) :
    ev lay (E106 N G) (retMask Try.f106) (lp Try.f106 1).body (lp Try.f106 1).ex ((lp Try.f106 1).lv (retMask Try.f106)) (h106_1_0  v0 v1 v2 v3 v4 v5) (nextR (fun s' => rec_ (s'.tidy ((lp Try.f106 1).lv (retMask Try.f106)))) K) = spec_l4Perms_l2b N  v0 v1 v2 v3 v4 v5 (fun v0 v1 v2 v3 v4 v5 => rec_ (h106_1_0  v0 v1 v2 v3 v4 v5)) (fun y0 y1 y2 y3 y4 => K (.exit 2) (x106_1_0_k0  y0 y1 y2 y3 y4)) := (vst106_1_0 N (spec_l4Perms_f N) (spec_l4Perms_l0 N) (spec_l4Perms_l2 N) G v0 v1 v2 v3 v4 v5 rec_ K).trans (t_spec_l4Perms_l2b N  v0 v1 v2 v3 v4 v5 (fun v0 v1 v2 v3 v4 v5 => rec_ (h106_1_0  v0 v1 v2 v3 v4 v5)) (fun y0 y1 y2 y3 y4 => K (.exit 2) (x106_1_0_k0  y0 y1 y2 y3 y4))).symm
theorem ro106_1_0 {β : Type} (N : Nat) (G : Nat)  (K : Exit → St → Option β) : ∀ (F : Nat) (v0 : Int) (v1 : List Int) (v2 : Int) (v3 : Bool) (v4 : Int) (v5 : List (List Int)), (lp Try.f106 1).rounds lay (E106 N G) (retMask Try.f106) F (h106_1_0  v0 v1 v2 v3 v4 v5) K = spec_l4Perms_l2 N  F v0 v1 v2 v3 v4 v5 (fun y0 y1 y2 y3 y4 => K (.exit 2) (x106_1_0_k0  y0 y1 y2 y3 y4)) := by
  intro F
  induction F with
  | zero => intros; rfl
  | succ F ih =>
    intros
    rw [rounds_next]
    refine (st106_1_0 N G  _ _ _ _ _ _ (fun s => (lp Try.f106 1).rounds lay (E106 N G) (retMask Try.f106) F s K) K).trans ?_
    simp only [ih]
    rfl
theorem lk106_2 {β : Type} (N : Nat) (G : Nat) : lookL (E106 (β := β) N G).loops (lp Try.f106 1).id = LS106_2 N G := by kernel_rfl
theorem rk106_2 {β : Type} (N : Nat) (G : Nat) : RoundsOK lay (E106 (β := β) N G) (retMask Try.f106) (lp Try.f106 1) := by
  intro s K r h
  rw [lk106_2] at h
  unfold LS106_2 VLS106_2 at h
  cases hb : shpSt (h106_1_0 0 [] 0 false 0 []) s with
  | true =>
    rw [hb, cond_true] at h
    exact ⟨N, by rw [← shpSt_ref hb, fl106_1_0 s]; exact (ro106_1_0 N G  K N (intS (oneA (vT (nx tund s.tmps 0)))) (rInts (rowV (oneA (vT (nx tund s.tmps 1))))) (intS (oneA (vT (nx tund s.tmps 6)))) (boolS (oneA (vT (nx tund s.tmps 7)))) (intS (oneA (vT (nx tund s.tmps 8)))) (rLists (rowB_ (nx .dead s.blks 0)))).trans h⟩
  | false =>
  rw [hb, cond_false] at h
  clear hb
  cases h
def BV_spec_l4Perms_b {β : Type} (N : Nat) (q_spec_l4Perms_l0 : (self : Int → List Int → (List (List Int) → Option β) → Option β) → Nat → Int → List Int → Int → List (List Int) → (List (List Int) → Option β) → Option β) (self : Int → List Int → (List (List Int) → Option β) → Option β) (a0 : Int) (a1 : List Int) (k : List (List Int) → Option β) : Option β :=
(cond (((a1.length : Int) == a0))
(k ((([] : List (List Int)) ++ [a1])))
(q_spec_l4Perms_l0 self  N a0 a1 0 (([] : List (List Int))) (fun e5_0 =>
k e5_0)))
theorem t_spec_l4Perms_b {β : Type} (N : Nat) (self : Int → List Int → (List (List Int) → Option β) → Option β) (a0 : Int) (a1 : List Int) (k : List (List Int) → Option β) : spec_l4Perms_b N self a0 a1 k = BV_spec_l4Perms_b N (spec_l4Perms_l0 N) self a0 a1 k := by
  unfold spec_l4Perms_b BV_spec_l4Perms_b
  rfl
theorem ve106_0 {β : Type} (N : Nat) (q_spec_l4Perms_f : Nat → Int → List Int → (List (List Int) → Option β) → Option β) (q_spec_l4Perms_l0 : (self : Int → List Int → (List (List Int) → Option β) → Option β) → Nat → Int → List Int → Int → List (List Int) → (List (List Int) → Option β) → Option β) (q_spec_l4Perms_l2 : Nat → Int → List Int → Int → Bool → Int → List (List Int) → (Int → List Int → Int → Bool → List (List Int) → Option β) → Option β) (G : Nat)  (a0 : Int) (a1 : List Int) (K : TV → Option β) : evFn lay (VE106 N q_spec_l4Perms_f q_spec_l4Perms_l0 q_spec_l4Perms_l2 G) Try.f106 [.v (.one (.int .i64 a0)), .v (.one (.fsl 3 (.ints .i64 a1)))] K = BV_spec_l4Perms_b N q_spec_l4Perms_l0 (q_spec_l4Perms_f G) a0 a1 (fun z2 => K (.v (.one (.sl 28 (.lists 3 z2))))) := by kernel_rfl
theorem e106_0 {β : Type} (N : Nat) (G : Nat)  (a0 : Int) (a1 : List Int) (K : TV → Option β) : evFn lay (E106 N G) Try.f106 [.v (.one (.int .i64 a0)), .v (.one (.fsl 3 (.ints .i64 a1)))] K = spec_l4Perms_f N (G + 1) a0 a1 (fun z2 => K (.v (.one (.sl 28 (.lists 3 z2))))) := (ve106_0 N (spec_l4Perms_f N) (spec_l4Perms_l0 N) (spec_l4Perms_l2 N) G a0 a1 K).trans (t_spec_l4Perms_b N (spec_l4Perms_f N G) a0 a1 (fun z2 => K (.v (.one (.sl 28 (.lists 3 z2)))))).symm
theorem z106 {β : Type} (N : Nat) : ∀ args K r, SF106 (β := β) N 0 args K = some r → (none : Option β) = some r := by
  intro args K r h
  unfold SF106 VSF106 at h
  split at h <;> exact h
theorem of106 {β : Type} (N : Nat) : ∀ G, SpecOK (β := β) inv Try.prog 106 (SF106 N G) := by
  intro G
  induction G with
  | zero => exact s_zero Try.func106 (by kernel_rfl) (z106 N)
  | succ G ih =>
    refine spec_of lay_ok mixed (E := E106 N G) (specs_loops (specs_cons ih specs_nil)) muts_nil gs_nil Try.func106 (by kernel_rfl) 2 (by kernel_rfl) ⟨⟨trivial, rk106_0 N G⟩, rk106_2 N G⟩ fun args K r h => ?_
    unfold SF106 VSF106 at h
    split at h
    · exact (e106_0 N G _ _ _).trans h
    · cases h
theorem o106 {β : Type} (N : Nat) : SpecOK (β := β) inv Try.prog 106 (S106 N) := of106 N N
def VS184 {β : Type} (N : Nat) (q_spec_l3Perm : (a0 : List Int) → (a1 : Int) → (k : Bool → Option β) → Option β) : Rv.Spec β := fun args K => match args with
  | [.v (.one (.sl 3 (.ints .i64 a0))), .v (.one (.int .i64 a1))] => q_spec_l3Perm a0 a1 (fun z2 => K (.v (.one (.bool z2))))
  | _ => none
def S184 {β : Type} (N : Nat) : Rv.Spec β := VS184 N (spec_l3Perm N)
def h184_0_0  (v0 : List Int) (v1 : Int) (v2 : Int) : St := ⟨.v (.one (.sl 3 (.ints .i64 v0))) :: .v (.one (.int .i64 v1)) :: .v (.one .und) :: .v (.one .und) :: .v (.one .und) :: .v (.one (.int .i64 v2)) :: .v (.one .und) :: .v (.one .und) :: .v (.one .und) :: .v (.one .und) :: .v (.one .und) :: .v (.one .und) :: .v (.one .und) :: .v (.one .und) :: .v (.one .und) :: .v (.one .und) :: .v (.one .und) :: .v (.one .und) :: .v (.one .und) :: .v (.one .und) :: .v (.one .und) :: .v (.one .und) :: .v (.one .und) :: .v (.one .und) :: .v (.one .und) :: .v (.one .und) :: .v (.one .und) :: .v (.one .und) :: .v (.one .und) :: .v (.one .und) :: .v (.one .und) :: .v (.one .und) :: .v (.one .und) :: .v (.one .und) :: .v (.one .und) :: .v (.one .und) :: .v (.one .und) :: .v (.one .und) :: .v (.one .und) :: [], []⟩
def x184_0_0_k0  (y0 : Bool) : St := ⟨.v (.one .und) :: .v (.one .und) :: .v (.one .und) :: .v (.one .und) :: .v (.one (.bool y0)) :: .v (.one .und) :: .v (.one .und) :: .v (.one .und) :: .v (.one .und) :: .v (.one .und) :: .v (.one .und) :: .v (.one .und) :: .v (.one .und) :: .v (.one .und) :: .v (.one .und) :: .v (.one .und) :: .v (.one .und) :: .v (.one .und) :: .v (.one .und) :: .v (.one .und) :: .v (.one .und) :: .v (.one .und) :: .v (.one .und) :: .v (.one .und) :: .v (.one .und) :: .v (.one .und) :: .v (.one .und) :: .v (.one .und) :: .v (.one .und) :: .v (.one .und) :: .v (.one .und) :: .v (.one .und) :: .v (.one .und) :: .v (.one .und) :: .v (.one .und) :: .v (.one .und) :: .v (.one .und) :: .v (.one .und) :: .v (.one .und) :: [], []⟩
def x184_0_0_k1  (y0 : List Int) (y1 : Int) : St := ⟨.v (.one (.sl 3 (.ints .i64 y0))) :: .v (.one (.int .i64 y1)) :: .v (.one .und) :: .v (.one .und) :: .v (.one .und) :: .v (.one .und) :: .v (.one .und) :: .v (.one .und) :: .v (.one .und) :: .v (.one .und) :: .v (.one .und) :: .v (.one .und) :: .v (.one .und) :: .v (.one .und) :: .v (.one .und) :: .v (.one .und) :: .v (.one .und) :: .v (.one .und) :: .v (.one .und) :: .v (.one .und) :: .v (.one .und) :: .v (.one .und) :: .v (.one .und) :: .v (.one .und) :: .v (.one .und) :: .v (.one .und) :: .v (.one .und) :: .v (.one .und) :: .v (.one .und) :: .v (.one .und) :: .v (.one .und) :: .v (.one .und) :: .v (.one .und) :: .v (.one .und) :: .v (.one .und) :: .v (.one .und) :: .v (.one .und) :: .v (.one .und) :: .v (.one .und) :: [], []⟩
def h184_1_0  (v0 : List Int) (v1 : Int) (v2 : Int) (v3 : Int) : St := ⟨.v (.one (.sl 3 (.ints .i64 v0))) :: .v (.one (.int .i64 v1)) :: .v (.one .und) :: .v (.one .und) :: .v (.one .und) :: .v (.one (.int .i64 v2)) :: .v (.one (.int .i64 v3)) :: .v (.one .und) :: .v (.one .und) :: .v (.one .und) :: .v (.one .und) :: .v (.one .und) :: .v (.one .und) :: .v (.one .und) :: .v (.one .und) :: .v (.one .und) :: .v (.one .und) :: .v (.one .und) :: .v (.one .und) :: .v (.one .und) :: .v (.one .und) :: .v (.one .und) :: .v (.one .und) :: .v (.one .und) :: .v (.one .und) :: .v (.one .und) :: .v (.one .und) :: .v (.one .und) :: .v (.one .und) :: .v (.one .und) :: .v (.one .und) :: .v (.one .und) :: .v (.one .und) :: .v (.one .und) :: .v (.one .und) :: .v (.one .und) :: .v (.one .und) :: .v (.one .und) :: .v (.one .und) :: [], []⟩
def x184_1_0_k0  (y0 : Bool) : St := ⟨.v (.one .und) :: .v (.one .und) :: .v (.one .und) :: .v (.one .und) :: .v (.one (.bool y0)) :: .v (.one .und) :: .v (.one .und) :: .v (.one .und) :: .v (.one .und) :: .v (.one .und) :: .v (.one .und) :: .v (.one .und) :: .v (.one .und) :: .v (.one .und) :: .v (.one .und) :: .v (.one .und) :: .v (.one .und) :: .v (.one .und) :: .v (.one .und) :: .v (.one .und) :: .v (.one .und) :: .v (.one .und) :: .v (.one .und) :: .v (.one .und) :: .v (.one .und) :: .v (.one .und) :: .v (.one .und) :: .v (.one .und) :: .v (.one .und) :: .v (.one .und) :: .v (.one .und) :: .v (.one .und) :: .v (.one .und) :: .v (.one .und) :: .v (.one .und) :: .v (.one .und) :: .v (.one .und) :: .v (.one .und) :: .v (.one .und) :: [], []⟩
def x184_1_0_k1  (y0 : List Int) (y1 : Int) (y2 : Int) : St := ⟨.v (.one (.sl 3 (.ints .i64 y0))) :: .v (.one (.int .i64 y1)) :: .v (.one .und) :: .v (.one .und) :: .v (.one .und) :: .v (.one (.int .i64 y2)) :: .v (.one .und) :: .v (.one .und) :: .v (.one .und) :: .v (.one .und) :: .v (.one .und) :: .v (.one .und) :: .v (.one .und) :: .v (.one .und) :: .v (.one .und) :: .v (.one .und) :: .v (.one .und) :: .v (.one .und) :: .v (.one .und) :: .v (.one .und) :: .v (.one .und) :: .v (.one .und) :: .v (.one .und) :: .v (.one .und) :: .v (.one .und) :: .v (.one .und) :: .v (.one .und) :: .v (.one .und) :: .v (.one .und) :: .v (.one .und) :: .v (.one .und) :: .v (.one .und) :: .v (.one .und) :: .v (.one .und) :: .v (.one .und) :: .v (.one .und) :: .v (.one .und) :: .v (.one .und) :: .v (.one .und) :: [], []⟩
theorem fl184_0_0 (s : St) : refSt (h184_0_0 [] 0 0) s = h184_0_0 (rInts (rowV (oneA (vT (nx tund s.tmps 0))))) (intS (oneA (vT (nx tund s.tmps 1)))) (intS (oneA (vT (nx tund s.tmps 5)))) := by kernel_rfl
def VLS184_0 {β : Type} (N : Nat) (q_spec_l3Perm_l0 : Nat → List Int → Int → Int → (Bool → Option β) → (List Int → Int → Option β) → Option β) : LSpec β := fun s K => cond (shpSt (h184_0_0 [] 0 0) s) ((fun (v0 : List Int) (v1 : Int) (v2 : Int) => q_spec_l3Perm_l0  N v0 v1 v2 (fun y0 => K .ret (x184_0_0_k0  y0)) (fun y0 y1 => K (.exit 0) (x184_0_0_k1  y0 y1))) (rInts (rowV (oneA (vT (nx tund s.tmps 0))))) (intS (oneA (vT (nx tund s.tmps 1)))) (intS (oneA (vT (nx tund s.tmps 5))))) (none)
def LS184_0 {β : Type} (N : Nat) : LSpec β := VLS184_0 N (spec_l3Perm_l0 N)
theorem fl184_1_0 (s : St) : refSt (h184_1_0 [] 0 0 0) s = h184_1_0 (rInts (rowV (oneA (vT (nx tund s.tmps 0))))) (intS (oneA (vT (nx tund s.tmps 1)))) (intS (oneA (vT (nx tund s.tmps 5)))) (intS (oneA (vT (nx tund s.tmps 6)))) := by kernel_rfl
def VLS184_2 {β : Type} (N : Nat) (q_spec_l3Perm_l2 : Nat → List Int → Int → Int → Int → (Bool → Option β) → (List Int → Int → Int → Option β) → Option β) : LSpec β := fun s K => cond (shpSt (h184_1_0 [] 0 0 0) s) ((fun (v0 : List Int) (v1 : Int) (v2 : Int) (v3 : Int) => q_spec_l3Perm_l2  N v0 v1 v2 v3 (fun y0 => K .ret (x184_1_0_k0  y0)) (fun y0 y1 y2 => K (.exit 2) (x184_1_0_k1  y0 y1 y2))) (rInts (rowV (oneA (vT (nx tund s.tmps 0))))) (intS (oneA (vT (nx tund s.tmps 1)))) (intS (oneA (vT (nx tund s.tmps 5)))) (intS (oneA (vT (nx tund s.tmps 6))))) (none)
def LS184_2 {β : Type} (N : Nat) : LSpec β := VLS184_2 N (spec_l3Perm_l2 N)
def VE184 {β : Type} (N : Nat) (q_spec_l1In : (a0 : Int) → (a1 : Int) → (a2 : Int) → (k : Bool → Option β) → Option β) (q_spec_l3Perm_l0 : Nat → List Int → Int → Int → (Bool → Option β) → (List Int → Int → Option β) → Option β) (q_spec_l3Perm_l2 : Nat → List Int → Int → Int → Int → (Bool → Option β) → (List Int → Int → Int → Option β) → Option β) : Env β := ⟨[(73, VS73 N q_spec_l1In)], [], [(0, VLS184_0 N q_spec_l3Perm_l0), (2, VLS184_2 N q_spec_l3Perm_l2)], [], ⟨[], [], [106], [147, 148, 186]⟩⟩
def E184 {β : Type} (N : Nat) : Env β := VE184 N (spec_l1In N) (spec_l3Perm_l0 N) (spec_l3Perm_l2 N)
def BV_spec_l3Perm_l0b {β : Type} (N : Nat) (q_spec_l1In : (a0 : Int) → (a1 : Int) → (a2 : Int) → (k : Bool → Option β) → Option β) (q_spec_l3Perm_l2 : Nat → List Int → Int → Int → Int → (Bool → Option β) → (List Int → Int → Int → Option β) → Option β)  (v0 : List Int) (v1 : Int) (v2 : Int) (rec_ : List Int → Int → Int → Option β) (k0 : Bool → Option β) (k1 : List Int → Int → Option β) : Option β :=
(cond ((decide (v2 < (v0.length : Int))))
((gd ((decide (0 ≤ v2)))
((gd ((decide (v2 < (v0.length : Int))))
(q_spec_l1In ((rd 0 v0 v2)) 0 ((w64 (v1 - 1))) fun r3 =>
(cond (!r3)
(k0 false)
(q_spec_l3Perm_l2  N v0 v1 v2 0 (fun e4_0 =>
k0 e4_0) (fun e5_0 e5_1 e5_2 =>
rec_ e5_0 e5_1 ((w64 (e5_2 + 1)))))))))))
(k1 v0 v1))
theorem t_spec_l3Perm_l0b {β : Type} (N : Nat)  (v0 : List Int) (v1 : Int) (v2 : Int) (rec_ : List Int → Int → Int → Option β) (k0 : Bool → Option β) (k1 : List Int → Int → Option β) : spec_l3Perm_l0b N v0 v1 v2 rec_ k0 k1 = BV_spec_l3Perm_l0b N (spec_l1In N) (spec_l3Perm_l2 N) v0 v1 v2 rec_ k0 k1 := by
  unfold spec_l3Perm_l0b BV_spec_l3Perm_l0b
  rfl
theorem vst184_0_0 {β : Type} (N : Nat) (q_spec_l1In : (a0 : Int) → (a1 : Int) → (a2 : Int) → (k : Bool → Option β) → Option β) (q_spec_l3Perm_l0 : Nat → List Int → Int → Int → (Bool → Option β) → (List Int → Int → Option β) → Option β) (q_spec_l3Perm_l2 : Nat → List Int → Int → Int → Int → (Bool → Option β) → (List Int → Int → Int → Option β) → Option β)  (v0 : List Int) (v1 : Int) (v2 : Int) (rec_ : St → Option β) (K : Exit → St → Option β) :
    ev lay (VE184 N q_spec_l1In q_spec_l3Perm_l0 q_spec_l3Perm_l2) (retMask Try.f184) (lp Try.f184 0).body (lp Try.f184 0).ex ((lp Try.f184 0).lv (retMask Try.f184)) (h184_0_0  v0 v1 v2) (nextR (fun s' => rec_ (s'.tidy ((lp Try.f184 0).lv (retMask Try.f184)))) K) = BV_spec_l3Perm_l0b N q_spec_l1In q_spec_l3Perm_l2  v0 v1 v2 (fun v0 v1 v2 => rec_ (h184_0_0  v0 v1 v2)) (fun y0 => K .ret (x184_0_0_k0  y0)) (fun y0 y1 => K (.exit 0) (x184_0_0_k1  y0 y1)) := by kernel_rfl
theorem st184_0_0 {β : Type} (N : Nat)  (v0 : List Int) (v1 : Int) (v2 : Int) (rec_ : St → Option β) (K : Exit → St → Option β) :
    ev lay (E184 N) (retMask Try.f184) (lp Try.f184 0).body (lp Try.f184 0).ex ((lp Try.f184 0).lv (retMask Try.f184)) (h184_0_0  v0 v1 v2) (nextR (fun s' => rec_ (s'.tidy ((lp Try.f184 0).lv (retMask Try.f184)))) K) = spec_l3Perm_l0b N  v0 v1 v2 (fun v0 v1 v2 => rec_ (h184_0_0  v0 v1 v2)) (fun y0 => K .ret (x184_0_0_k0  y0)) (fun y0 y1 => K (.exit 0) (x184_0_0_k1  y0 y1)) := (vst184_0_0 N (spec_l1In N) (spec_l3Perm_l0 N) (spec_l3Perm_l2 N) v0 v1 v2 rec_ K).trans (t_spec_l3Perm_l0b N  v0 v1 v2 (fun v0 v1 v2 => rec_ (h184_0_0  v0 v1 v2)) (fun y0 => K .ret (x184_0_0_k0  y0)) (fun y0 y1 => K (.exit 0) (x184_0_0_k1  y0 y1))).symm
theorem ro184_0_0 {β : Type} (N : Nat)  (K : Exit → St → Option β) : ∀ (F : Nat) (v0 : List Int) (v1 : Int) (v2 : Int), (lp Try.f184 0).rounds lay (E184 N) (retMask Try.f184) F (h184_0_0  v0 v1 v2) K = spec_l3Perm_l0 N  F v0 v1 v2 (fun y0 => K .ret (x184_0_0_k0  y0)) (fun y0 y1 => K (.exit 0) (x184_0_0_k1  y0 y1)) := by
  intro F
  induction F with
  | zero => intros; rfl
  | succ F ih =>
    intros
    rw [rounds_next]
    refine (st184_0_0 N  _ _ _ (fun s => (lp Try.f184 0).rounds lay (E184 N) (retMask Try.f184) F s K) K).trans ?_
    simp only [ih]
    rfl
theorem lk184_0 {β : Type} (N : Nat) : lookL (E184 (β := β) N).loops (lp Try.f184 0).id = LS184_0 N := by kernel_rfl
theorem rk184_0 {β : Type} (N : Nat) : RoundsOK lay (E184 (β := β) N) (retMask Try.f184) (lp Try.f184 0) := by
  intro s K r h
  rw [lk184_0] at h
  unfold LS184_0 VLS184_0 at h
  cases hb : shpSt (h184_0_0 [] 0 0) s with
  | true =>
    rw [hb, cond_true] at h
    exact ⟨N, by rw [← shpSt_ref hb, fl184_0_0 s]; exact (ro184_0_0 N  K N (rInts (rowV (oneA (vT (nx tund s.tmps 0))))) (intS (oneA (vT (nx tund s.tmps 1)))) (intS (oneA (vT (nx tund s.tmps 5))))).trans h⟩
  | false =>
  rw [hb, cond_false] at h
  clear hb
  cases h
def BV_spec_l3Perm_l2b {β : Type} (N : Nat)  (v0 : List Int) (v1 : Int) (v2 : Int) (v3 : Int) (rec_ : List Int → Int → Int → Int → Option β) (k0 : Bool → Option β) (k1 : List Int → Int → Int → Option β) : Option β :=
(cond ((decide (v3 < v2)))
((gd ((decide (0 ≤ v3)))
((gd ((decide (v3 < (v0.length : Int))))
((gd ((decide (0 ≤ v2)))
((gd ((decide (v2 < (v0.length : Int))))
((cond (((rd 0 v0 v3) == (rd 0 v0 v2)))
(k0 false)
(rec_ v0 v1 v2 ((w64 (v3 + 1))))))))))))))
(k1 v0 v1 v2))
theorem t_spec_l3Perm_l2b {β : Type} (N : Nat)  (v0 : List Int) (v1 : Int) (v2 : Int) (v3 : Int) (rec_ : List Int → Int → Int → Int → Option β) (k0 : Bool → Option β) (k1 : List Int → Int → Int → Option β) : spec_l3Perm_l2b N v0 v1 v2 v3 rec_ k0 k1 = BV_spec_l3Perm_l2b N v0 v1 v2 v3 rec_ k0 k1 := by
  unfold spec_l3Perm_l2b BV_spec_l3Perm_l2b
  rfl
theorem vst184_1_0 {β : Type} (N : Nat) (q_spec_l1In : (a0 : Int) → (a1 : Int) → (a2 : Int) → (k : Bool → Option β) → Option β) (q_spec_l3Perm_l0 : Nat → List Int → Int → Int → (Bool → Option β) → (List Int → Int → Option β) → Option β) (q_spec_l3Perm_l2 : Nat → List Int → Int → Int → Int → (Bool → Option β) → (List Int → Int → Int → Option β) → Option β)  (v0 : List Int) (v1 : Int) (v2 : Int) (v3 : Int) (rec_ : St → Option β) (K : Exit → St → Option β) :
    ev lay (VE184 N q_spec_l1In q_spec_l3Perm_l0 q_spec_l3Perm_l2) (retMask Try.f184) (lp Try.f184 1).body (lp Try.f184 1).ex ((lp Try.f184 1).lv (retMask Try.f184)) (h184_1_0  v0 v1 v2 v3) (nextR (fun s' => rec_ (s'.tidy ((lp Try.f184 1).lv (retMask Try.f184)))) K) = BV_spec_l3Perm_l2b N  v0 v1 v2 v3 (fun v0 v1 v2 v3 => rec_ (h184_1_0  v0 v1 v2 v3)) (fun y0 => K .ret (x184_1_0_k0  y0)) (fun y0 y1 y2 => K (.exit 2) (x184_1_0_k1  y0 y1 y2)) := by kernel_rfl
theorem st184_1_0 {β : Type} (N : Nat)  (v0 : List Int) (v1 : Int) (v2 : Int) (v3 : Int) (rec_ : St → Option β) (K : Exit → St → Option β) :
    ev lay (E184 N) (retMask Try.f184) (lp Try.f184 1).body (lp Try.f184 1).ex ((lp Try.f184 1).lv (retMask Try.f184)) (h184_1_0  v0 v1 v2 v3) (nextR (fun s' => rec_ (s'.tidy ((lp Try.f184 1).lv (retMask Try.f184)))) K) = spec_l3Perm_l2b N  v0 v1 v2 v3 (fun v0 v1 v2 v3 => rec_ (h184_1_0  v0 v1 v2 v3)) (fun y0 => K .ret (x184_1_0_k0  y0)) (fun y0 y1 y2 => K (.exit 2) (x184_1_0_k1  y0 y1 y2)) := (vst184_1_0 N (spec_l1In N) (spec_l3Perm_l0 N) (spec_l3Perm_l2 N) v0 v1 v2 v3 rec_ K).trans (t_spec_l3Perm_l2b N  v0 v1 v2 v3 (fun v0 v1 v2 v3 => rec_ (h184_1_0  v0 v1 v2 v3)) (fun y0 => K .ret (x184_1_0_k0  y0)) (fun y0 y1 y2 => K (.exit 2) (x184_1_0_k1  y0 y1 y2))).symm
theorem ro184_1_0 {β : Type} (N : Nat)  (K : Exit → St → Option β) : ∀ (F : Nat) (v0 : List Int) (v1 : Int) (v2 : Int) (v3 : Int), (lp Try.f184 1).rounds lay (E184 N) (retMask Try.f184) F (h184_1_0  v0 v1 v2 v3) K = spec_l3Perm_l2 N  F v0 v1 v2 v3 (fun y0 => K .ret (x184_1_0_k0  y0)) (fun y0 y1 y2 => K (.exit 2) (x184_1_0_k1  y0 y1 y2)) := by
  intro F
  induction F with
  | zero => intros; rfl
  | succ F ih =>
    intros
    rw [rounds_next]
    refine (st184_1_0 N  _ _ _ _ (fun s => (lp Try.f184 1).rounds lay (E184 N) (retMask Try.f184) F s K) K).trans ?_
    simp only [ih]
    rfl
theorem lk184_2 {β : Type} (N : Nat) : lookL (E184 (β := β) N).loops (lp Try.f184 1).id = LS184_2 N := by kernel_rfl
theorem rk184_2 {β : Type} (N : Nat) : RoundsOK lay (E184 (β := β) N) (retMask Try.f184) (lp Try.f184 1) := by
  intro s K r h
  rw [lk184_2] at h
  unfold LS184_2 VLS184_2 at h
  cases hb : shpSt (h184_1_0 [] 0 0 0) s with
  | true =>
    rw [hb, cond_true] at h
    exact ⟨N, by rw [← shpSt_ref hb, fl184_1_0 s]; exact (ro184_1_0 N  K N (rInts (rowV (oneA (vT (nx tund s.tmps 0))))) (intS (oneA (vT (nx tund s.tmps 1)))) (intS (oneA (vT (nx tund s.tmps 5)))) (intS (oneA (vT (nx tund s.tmps 6))))).trans h⟩
  | false =>
  rw [hb, cond_false] at h
  clear hb
  cases h
def BV_spec_l3Perm {β : Type} (N : Nat) (q_spec_l3Perm_l0 : Nat → List Int → Int → Int → (Bool → Option β) → (List Int → Int → Option β) → Option β) (a0 : List Int) (a1 : Int) (k : Bool → Option β) : Option β :=
q_spec_l3Perm_l0  N a0 a1 0 (fun e6_0 =>
k e6_0) (fun e7_0 e7_1 =>
k (((e7_0.length : Int) == e7_1)))
theorem t_spec_l3Perm {β : Type} (N : Nat) (a0 : List Int) (a1 : Int) (k : Bool → Option β) : spec_l3Perm N a0 a1 k = BV_spec_l3Perm N (spec_l3Perm_l0 N) a0 a1 k := by
  unfold spec_l3Perm BV_spec_l3Perm
  rfl
theorem ve184_0 {β : Type} (N : Nat) (q_spec_l1In : (a0 : Int) → (a1 : Int) → (a2 : Int) → (k : Bool → Option β) → Option β) (q_spec_l3Perm_l0 : Nat → List Int → Int → Int → (Bool → Option β) → (List Int → Int → Option β) → Option β) (q_spec_l3Perm_l2 : Nat → List Int → Int → Int → Int → (Bool → Option β) → (List Int → Int → Int → Option β) → Option β)  (a0 : List Int) (a1 : Int) (K : TV → Option β) : evFn lay (VE184 N q_spec_l1In q_spec_l3Perm_l0 q_spec_l3Perm_l2) Try.f184 [.v (.one (.sl 3 (.ints .i64 a0))), .v (.one (.int .i64 a1))] K = BV_spec_l3Perm N q_spec_l3Perm_l0 a0 a1 (fun z2 => K (.v (.one (.bool z2)))) := by kernel_rfl
theorem e184_0 {β : Type} (N : Nat)  (a0 : List Int) (a1 : Int) (K : TV → Option β) : evFn lay (E184 N) Try.f184 [.v (.one (.sl 3 (.ints .i64 a0))), .v (.one (.int .i64 a1))] K = spec_l3Perm N a0 a1 (fun z2 => K (.v (.one (.bool z2)))) := (ve184_0 N (spec_l1In N) (spec_l3Perm_l0 N) (spec_l3Perm_l2 N) a0 a1 K).trans (t_spec_l3Perm N a0 a1 (fun z2 => K (.v (.one (.bool z2))))).symm
theorem o184 {β : Type} (N : Nat) : SpecOK (β := β) inv Try.prog 184 (S184 N) := by
  refine spec_of lay_ok mixed (E := E184 N) (specs_loops (specs_cons (o73 N) specs_nil)) muts_nil gs_nil Try.func184 (by kernel_rfl) 2 (by kernel_rfl) ⟨⟨trivial, rk184_0 N⟩, rk184_2 N⟩ fun args K r h => ?_
  unfold S184 VS184 at h
  split at h
  · exact (e184_0 N _ _ _).trans h
  · cases h
def VS80 {β : Type} (N : Nat) (q_spec_l2Full : (a0 : Int) → (k : Int → Option β) → Option β) : Rv.Spec β := fun args K => match args with
  | [.v (.one (.int .i64 a0))] => q_spec_l2Full a0 (fun z1 => K (.v (.one (.int .i64 z1))))
  | _ => none
def S80 {β : Type} (N : Nat) : Rv.Spec β := VS80 N (spec_l2Full N)
def VE80 {β : Type} (N : Nat) : Env β := ⟨[], [], [], [], ⟨[], [], [106], [147, 148, 186]⟩⟩
def E80 {β : Type} (N : Nat) : Env β := VE80 N
def BV_spec_l2Full {β : Type} (N : Nat) (a0 : Int) (k : Int → Option β) : Option β :=
(gd ((decide (0 ≤ a0)))
((gd ((decide (0 ≤ (shlI .u64 1 a0))))
(k ((w64 ((shlI .i64 1 (shlI .u64 1 a0)) - 1)))))))
theorem t_spec_l2Full {β : Type} (N : Nat) (a0 : Int) (k : Int → Option β) : spec_l2Full N a0 k = BV_spec_l2Full N a0 k := by
  unfold spec_l2Full BV_spec_l2Full
  rfl
theorem ve80_0 {β : Type} (N : Nat)  (a0 : Int) (K : TV → Option β) : evFn lay (VE80 N) Try.f80 [.v (.one (.int .i64 a0))] K = BV_spec_l2Full N a0 (fun z1 => K (.v (.one (.int .i64 z1)))) := by kernel_rfl
theorem e80_0 {β : Type} (N : Nat)  (a0 : Int) (K : TV → Option β) : evFn lay (E80 N) Try.f80 [.v (.one (.int .i64 a0))] K = spec_l2Full N a0 (fun z1 => K (.v (.one (.int .i64 z1)))) := (ve80_0 N a0 K).trans (t_spec_l2Full N a0 (fun z1 => K (.v (.one (.int .i64 z1))))).symm
theorem o80 {β : Type} (N : Nat) : SpecOK (β := β) inv Try.prog 80 (S80 N) := by
  refine spec_of lay_ok mixed (E := E80 N) (specs_loops specs_nil) muts_nil gs_nil Try.func80 (by kernel_rfl) 0 (by kernel_rfl) trivial fun args K r h => ?_
  unfold S80 VS80 at h
  split at h
  · exact (e80_0 N _ _).trans h
  · cases h
def VS185 {β : Type} (N : Nat) (q_spec_IsConstant : (a0 : Int) → (a1 : Int) → (k : Bool → Option β) → Option β) : Rv.Spec β := fun args K => match args with
  | [.v (.agg [.int .i64 a0, .int .i64 a1])] => q_spec_IsConstant a0 a1 (fun z2 => K (.v (.one (.bool z2))))
  | _ => none
def S185 {β : Type} (N : Nat) : Rv.Spec β := VS185 N (spec_IsConstant N)
def VE185 {β : Type} (N : Nat) (q_spec_IsTable : (a0 : Int) → (a1 : Int) → (k : Bool → Option β) → Option β) (q_spec_l2Full : (a0 : Int) → (k : Int → Option β) → Option β) : Env β := ⟨[(58, VS58 N q_spec_IsTable), (80, VS80 N q_spec_l2Full)], [], [], [], ⟨[], [], [106], [147, 148, 186]⟩⟩
def E185 {β : Type} (N : Nat) : Env β := VE185 N (spec_IsTable N) (spec_l2Full N)
def BV_spec_IsConstant {β : Type} (N : Nat) (q_spec_IsTable : (a0 : Int) → (a1 : Int) → (k : Bool → Option β) → Option β) (q_spec_l2Full : (a0 : Int) → (k : Int → Option β) → Option β) (a0 : Int) (a1 : Int) (k : Bool → Option β) : Option β :=
q_spec_IsTable a0 a1 fun r3 =>
(cond r3
((cond ((a1 == 0))
(k true)
(q_spec_l2Full a0 fun r4 =>
k ((a1 == r4)))))
(k false))
theorem t_spec_IsConstant {β : Type} (N : Nat) (a0 : Int) (a1 : Int) (k : Bool → Option β) : spec_IsConstant N a0 a1 k = BV_spec_IsConstant N (spec_IsTable N) (spec_l2Full N) a0 a1 k := by
  unfold spec_IsConstant BV_spec_IsConstant
  rfl
theorem ve185_0 {β : Type} (N : Nat) (q_spec_IsTable : (a0 : Int) → (a1 : Int) → (k : Bool → Option β) → Option β) (q_spec_l2Full : (a0 : Int) → (k : Int → Option β) → Option β)  (a0 : Int) (a1 : Int) (K : TV → Option β) : evFn lay (VE185 N q_spec_IsTable q_spec_l2Full) Try.f185 [.v (.agg [.int .i64 a0, .int .i64 a1])] K = BV_spec_IsConstant N q_spec_IsTable q_spec_l2Full a0 a1 (fun z2 => K (.v (.one (.bool z2)))) := by kernel_rfl
theorem e185_0 {β : Type} (N : Nat)  (a0 : Int) (a1 : Int) (K : TV → Option β) : evFn lay (E185 N) Try.f185 [.v (.agg [.int .i64 a0, .int .i64 a1])] K = spec_IsConstant N a0 a1 (fun z2 => K (.v (.one (.bool z2)))) := (ve185_0 N (spec_IsTable N) (spec_l2Full N) a0 a1 K).trans (t_spec_IsConstant N a0 a1 (fun z2 => K (.v (.one (.bool z2))))).symm
theorem o185 {β : Type} (N : Nat) : SpecOK (β := β) inv Try.prog 185 (S185 N) := by
  refine spec_of lay_ok mixed (E := E185 N) (specs_loops (specs_cons (o58 N) (specs_cons (o80 N) specs_nil))) muts_nil gs_nil Try.func185 (by kernel_rfl) 0 (by kernel_rfl) trivial fun args K r h => ?_
  unfold S185 VS185 at h
  split at h
  · exact (e185_0 N _ _ _).trans h
  · cases h
def VS199 {β : Type} (N : Nat) (q_spec_l3Cube : (a0 : Int) → (a1 : Int) → (a2 : Int) → (a3 : Int) → (k : Int → Option β) → Option β) : Rv.Spec β := fun args K => match args with
  | [.v (.agg [.int .i64 a0, .int .i64 a1]), .v (.one (.int .i64 a2)), .v (.one (.int .i64 a3))] => q_spec_l3Cube a0 a1 a2 a3 (fun z4 => K (.v (.one (.int .i64 z4))))
  | _ => none
def S199 {β : Type} (N : Nat) : Rv.Spec β := VS199 N (spec_l3Cube N)
def h199_0_0  (v0 : Int) (v1 : Int) (v2 : Int) (v3 : Int) (v4 : Int) (v5 : Int) : St := ⟨.v (.one .und) :: .v (.one (.int .i64 v0)) :: .v (.one (.int .i64 v1)) :: .v (.one (.ptr 0 0)) :: .v (.one .und) :: .v (.one .und) :: .v (.one .und) :: .v (.one (.int .i64 v2)) :: .v (.one (.int .i64 v3)) :: .v (.one .und) :: .v (.one .und) :: .v (.one .und) :: .v (.one .und) :: .v (.one .und) :: .v (.one .und) :: .v (.one .und) :: .v (.one .und) :: .v (.one .und) :: .v (.one .und) :: .v (.one .und) :: .v (.one .und) :: .v (.one .und) :: .v (.one .und) :: .v (.one .und) :: .v (.one .und) :: .v (.one .und) :: .v (.one .und) :: .v (.one .und) :: .v (.one .und) :: .v (.one .und) :: .v (.one .und) :: .v (.one .und) :: .v (.one .und) :: .v (.one .und) :: .v (.one .und) :: .v (.one .und) :: [], [.cells 27 [.int .i64 v4, .int .i64 v5]]⟩
def x199_0_0_k0  (y0 : Int) : St := ⟨.v (.one .und) :: .v (.one .und) :: .v (.one .und) :: .v (.one .und) :: .v (.one .und) :: .v (.one .und) :: .v (.one (.int .i64 y0)) :: .v (.one .und) :: .v (.one .und) :: .v (.one .und) :: .v (.one .und) :: .v (.one .und) :: .v (.one .und) :: .v (.one .und) :: .v (.one .und) :: .v (.one .und) :: .v (.one .und) :: .v (.one .und) :: .v (.one .und) :: .v (.one .und) :: .v (.one .und) :: .v (.one .und) :: .v (.one .und) :: .v (.one .und) :: .v (.one .und) :: .v (.one .und) :: .v (.one .und) :: .v (.one .und) :: .v (.one .und) :: .v (.one .und) :: .v (.one .und) :: .v (.one .und) :: .v (.one .und) :: .v (.one .und) :: .v (.one .und) :: .v (.one .und) :: [], []⟩
def x199_0_0_k1  (y0 : Int) : St := ⟨.v (.one .und) :: .v (.one .und) :: .v (.one .und) :: .v (.one .und) :: .v (.one .und) :: .v (.one .und) :: .v (.one .und) :: .v (.one (.int .i64 y0)) :: .v (.one .und) :: .v (.one .und) :: .v (.one .und) :: .v (.one .und) :: .v (.one .und) :: .v (.one .und) :: .v (.one .und) :: .v (.one .und) :: .v (.one .und) :: .v (.one .und) :: .v (.one .und) :: .v (.one .und) :: .v (.one .und) :: .v (.one .und) :: .v (.one .und) :: .v (.one .und) :: .v (.one .und) :: .v (.one .und) :: .v (.one .und) :: .v (.one .und) :: .v (.one .und) :: .v (.one .und) :: .v (.one .und) :: .v (.one .und) :: .v (.one .und) :: .v (.one .und) :: .v (.one .und) :: .v (.one .und) :: [], []⟩
theorem fl199_0_0 (s : St) : refSt (h199_0_0 0 0 0 0 0 0) s = h199_0_0 (intS (oneA (vT (nx tund s.tmps 1)))) (intS (oneA (vT (nx tund s.tmps 2)))) (intS (oneA (vT (nx tund s.tmps 7)))) (intS (oneA (vT (nx tund s.tmps 8)))) (intS (nx .und (cellsB (nx .dead s.blks 0)) 0)) (intS (nx .und (cellsB (nx .dead s.blks 0)) 1)) := by kernel_rfl
def VLS199_0 {β : Type} (N : Nat) (q_spec_l3Cube_l0 : Nat → Int → Int → Int → Int → Int → Int → (Int → Option β) → (Int → Option β) → Option β) : LSpec β := fun s K => cond (shpSt (h199_0_0 0 0 0 0 0 0) s) ((fun (v0 : Int) (v1 : Int) (v2 : Int) (v3 : Int) (v4 : Int) (v5 : Int) => q_spec_l3Cube_l0  N v0 v1 v2 v3 v4 v5 (fun y0 => K .ret (x199_0_0_k0  y0)) (fun y0 => K (.exit 0) (x199_0_0_k1  y0))) (intS (oneA (vT (nx tund s.tmps 1)))) (intS (oneA (vT (nx tund s.tmps 2)))) (intS (oneA (vT (nx tund s.tmps 7)))) (intS (oneA (vT (nx tund s.tmps 8)))) (intS (nx .und (cellsB (nx .dead s.blks 0)) 0)) (intS (nx .und (cellsB (nx .dead s.blks 0)) 1))) (none)
def LS199_0 {β : Type} (N : Nat) : LSpec β := VLS199_0 N (spec_l3Cube_l0 N)
def VE199 {β : Type} (N : Nat) (q_spec_l3Cube_l0 : Nat → Int → Int → Int → Int → Int → Int → (Int → Option β) → (Int → Option β) → Option β) : Env β := ⟨[], [], [(0, VLS199_0 N q_spec_l3Cube_l0)], [], ⟨[], [], [106], [147, 148, 186]⟩⟩
def E199 {β : Type} (N : Nat) : Env β := VE199 N (spec_l3Cube_l0 N)
def BV_spec_l3Cube_l0b {β : Type} (N : Nat)  (v0 : Int) (v1 : Int) (v2 : Int) (v3 : Int) (v4 : Int) (v5 : Int) (rec_ : Int → Int → Int → Int → Int → Int → Option β) (k0 : Int → Option β) (k1 : Int → Option β) : Option β :=
(gd ((decide (0 ≤ v4)))
((cond ((decide (v3 < (shlI .i64 1 v4))))
((cond (((bits .and .i64 v3 v0) != v1))
(rec_ v0 v1 v2 ((w64 (v3 + 1))) v4 v5)
((gd ((decide (0 ≤ v3)))
((cond ((decide (v2 ≥ 0)))
((cond ((v2 != (bits .and .i64 (shrI .i64 v5 v3) 1)))
(k0 2)
(rec_ v0 v1 ((bits .and .i64 (shrI .i64 v5 v3) 1)) ((w64 (v3 + 1))) v4 v5)))
(rec_ v0 v1 ((bits .and .i64 (shrI .i64 v5 v3) 1)) ((w64 (v3 + 1))) v4 v5)))))))
(k1 v2))))
theorem t_spec_l3Cube_l0b {β : Type} (N : Nat)  (v0 : Int) (v1 : Int) (v2 : Int) (v3 : Int) (v4 : Int) (v5 : Int) (rec_ : Int → Int → Int → Int → Int → Int → Option β) (k0 : Int → Option β) (k1 : Int → Option β) : spec_l3Cube_l0b N v0 v1 v2 v3 v4 v5 rec_ k0 k1 = BV_spec_l3Cube_l0b N v0 v1 v2 v3 v4 v5 rec_ k0 k1 := by
  unfold spec_l3Cube_l0b BV_spec_l3Cube_l0b
  rfl
theorem vst199_0_0 {β : Type} (N : Nat) (q_spec_l3Cube_l0 : Nat → Int → Int → Int → Int → Int → Int → (Int → Option β) → (Int → Option β) → Option β)  (v0 : Int) (v1 : Int) (v2 : Int) (v3 : Int) (v4 : Int) (v5 : Int) (rec_ : St → Option β) (K : Exit → St → Option β) :
    ev lay (VE199 N q_spec_l3Cube_l0) (retMask Try.f199) (lp Try.f199 0).body (lp Try.f199 0).ex ((lp Try.f199 0).lv (retMask Try.f199)) (h199_0_0  v0 v1 v2 v3 v4 v5) (nextR (fun s' => rec_ (s'.tidy ((lp Try.f199 0).lv (retMask Try.f199)))) K) = BV_spec_l3Cube_l0b N  v0 v1 v2 v3 v4 v5 (fun v0 v1 v2 v3 v4 v5 => rec_ (h199_0_0  v0 v1 v2 v3 v4 v5)) (fun y0 => K .ret (x199_0_0_k0  y0)) (fun y0 => K (.exit 0) (x199_0_0_k1  y0)) := by kernel_rfl
theorem st199_0_0 {β : Type} (N : Nat)  (v0 : Int) (v1 : Int) (v2 : Int) (v3 : Int) (v4 : Int) (v5 : Int) (rec_ : St → Option β) (K : Exit → St → Option β) :
    ev lay (E199 N) (retMask Try.f199) (lp Try.f199 0).body (lp Try.f199 0).ex ((lp Try.f199 0).lv (retMask Try.f199)) (h199_0_0  v0 v1 v2 v3 v4 v5) (nextR (fun s' => rec_ (s'.tidy ((lp Try.f199 0).lv (retMask Try.f199)))) K) = spec_l3Cube_l0b N  v0 v1 v2 v3 v4 v5 (fun v0 v1 v2 v3 v4 v5 => rec_ (h199_0_0  v0 v1 v2 v3 v4 v5)) (fun y0 => K .ret (x199_0_0_k0  y0)) (fun y0 => K (.exit 0) (x199_0_0_k1  y0)) := (vst199_0_0 N (spec_l3Cube_l0 N) v0 v1 v2 v3 v4 v5 rec_ K).trans (t_spec_l3Cube_l0b N  v0 v1 v2 v3 v4 v5 (fun v0 v1 v2 v3 v4 v5 => rec_ (h199_0_0  v0 v1 v2 v3 v4 v5)) (fun y0 => K .ret (x199_0_0_k0  y0)) (fun y0 => K (.exit 0) (x199_0_0_k1  y0))).symm
theorem ro199_0_0 {β : Type} (N : Nat)  (K : Exit → St → Option β) : ∀ (F : Nat) (v0 : Int) (v1 : Int) (v2 : Int) (v3 : Int) (v4 : Int) (v5 : Int), (lp Try.f199 0).rounds lay (E199 N) (retMask Try.f199) F (h199_0_0  v0 v1 v2 v3 v4 v5) K = spec_l3Cube_l0 N  F v0 v1 v2 v3 v4 v5 (fun y0 => K .ret (x199_0_0_k0  y0)) (fun y0 => K (.exit 0) (x199_0_0_k1  y0)) := by
  intro F
  induction F with
  | zero => intros; rfl
  | succ F ih =>
    intros
    rw [rounds_next]
    refine (st199_0_0 N  _ _ _ _ _ _ (fun s => (lp Try.f199 0).rounds lay (E199 N) (retMask Try.f199) F s K) K).trans ?_
    simp only [ih]
    rfl
theorem lk199_0 {β : Type} (N : Nat) : lookL (E199 (β := β) N).loops (lp Try.f199 0).id = LS199_0 N := by kernel_rfl
theorem rk199_0 {β : Type} (N : Nat) : RoundsOK lay (E199 (β := β) N) (retMask Try.f199) (lp Try.f199 0) := by
  intro s K r h
  rw [lk199_0] at h
  unfold LS199_0 VLS199_0 at h
  cases hb : shpSt (h199_0_0 0 0 0 0 0 0) s with
  | true =>
    rw [hb, cond_true] at h
    exact ⟨N, by rw [← shpSt_ref hb, fl199_0_0 s]; exact (ro199_0_0 N  K N (intS (oneA (vT (nx tund s.tmps 1)))) (intS (oneA (vT (nx tund s.tmps 2)))) (intS (oneA (vT (nx tund s.tmps 7)))) (intS (oneA (vT (nx tund s.tmps 8)))) (intS (nx .und (cellsB (nx .dead s.blks 0)) 0)) (intS (nx .und (cellsB (nx .dead s.blks 0)) 1))).trans h⟩
  | false =>
  rw [hb, cond_false] at h
  clear hb
  cases h
def BV_spec_l3Cube {β : Type} (N : Nat) (q_spec_l3Cube_l0 : Nat → Int → Int → Int → Int → Int → Int → (Int → Option β) → (Int → Option β) → Option β) (a0 : Int) (a1 : Int) (a2 : Int) (a3 : Int) (k : Int → Option β) : Option β :=
q_spec_l3Cube_l0  N a2 a3 (-1) 0 a0 a1 (fun e5_0 =>
k e5_0) (fun e6_0 =>
k e6_0)
theorem t_spec_l3Cube {β : Type} (N : Nat) (a0 : Int) (a1 : Int) (a2 : Int) (a3 : Int) (k : Int → Option β) : spec_l3Cube N a0 a1 a2 a3 k = BV_spec_l3Cube N (spec_l3Cube_l0 N) a0 a1 a2 a3 k := by
  unfold spec_l3Cube BV_spec_l3Cube
  rfl
theorem ve199_0 {β : Type} (N : Nat) (q_spec_l3Cube_l0 : Nat → Int → Int → Int → Int → Int → Int → (Int → Option β) → (Int → Option β) → Option β)  (a0 : Int) (a1 : Int) (a2 : Int) (a3 : Int) (K : TV → Option β) : evFn lay (VE199 N q_spec_l3Cube_l0) Try.f199 [.v (.agg [.int .i64 a0, .int .i64 a1]), .v (.one (.int .i64 a2)), .v (.one (.int .i64 a3))] K = BV_spec_l3Cube N q_spec_l3Cube_l0 a0 a1 a2 a3 (fun z4 => K (.v (.one (.int .i64 z4)))) := by kernel_rfl
theorem e199_0 {β : Type} (N : Nat)  (a0 : Int) (a1 : Int) (a2 : Int) (a3 : Int) (K : TV → Option β) : evFn lay (E199 N) Try.f199 [.v (.agg [.int .i64 a0, .int .i64 a1]), .v (.one (.int .i64 a2)), .v (.one (.int .i64 a3))] K = spec_l3Cube N a0 a1 a2 a3 (fun z4 => K (.v (.one (.int .i64 z4)))) := (ve199_0 N (spec_l3Cube_l0 N) a0 a1 a2 a3 K).trans (t_spec_l3Cube N a0 a1 a2 a3 (fun z4 => K (.v (.one (.int .i64 z4))))).symm
theorem o199 {β : Type} (N : Nat) : SpecOK (β := β) inv Try.prog 199 (S199 N) := by
  refine spec_of lay_ok mixed (E := E199 N) (specs_loops specs_nil) muts_nil gs_nil Try.func199 (by kernel_rfl) 1 (by kernel_rfl) ⟨trivial, rk199_0 N⟩ fun args K r h => ?_
  unfold S199 VS199 at h
  split at h
  · exact (e199_0 N _ _ _ _ _).trans h
  · cases h
def VS207 {β : Type} (N : Nat) (q_spec_l19Word : (a0 : Int) → (a1 : Int) → (a2 : Int) → (a3 : Int) → (k : Int → Option β) → Option β) : Rv.Spec β := fun args K => match args with
  | [.v (.agg [.int .i64 a0, .int .i64 a1]), .v (.one (.int .i64 a2)), .v (.one (.int .i64 a3))] => q_spec_l19Word a0 a1 a2 a3 (fun z4 => K (.v (.one (.int .i64 z4))))
  | _ => none
def S207 {β : Type} (N : Nat) : Rv.Spec β := VS207 N (spec_l19Word N)
def h207_0_0  (v0 : Int) (v1 : Int) (v2 : Int) (v3 : Int) (v4 : Int) (v5 : Int) : St := ⟨.v (.one .und) :: .v (.one (.int .i64 v0)) :: .v (.one (.int .i64 v1)) :: .v (.one (.ptr 0 0)) :: .v (.one .und) :: .v (.one .und) :: .v (.one .und) :: .v (.one (.int .i64 v2)) :: .v (.one (.int .i64 v3)) :: .v (.one .und) :: .v (.one .und) :: .v (.one .und) :: .v (.one .und) :: .v (.one .und) :: .v (.one .und) :: .v (.one .und) :: .v (.one .und) :: .v (.one .und) :: .v (.one .und) :: .v (.one .und) :: .v (.one .und) :: .v (.one .und) :: .v (.one .und) :: .v (.one .und) :: .v (.one .und) :: .v (.one .und) :: .v (.one .und) :: .v (.one .und) :: .v (.one .und) :: .v (.one .und) :: .v (.one .und) :: .v (.one .und) :: .v (.one .und) :: .v (.one .und) :: [], [.cells 27 [.int .i64 v4, .int .i64 v5]]⟩
def x207_0_0_k0  (y0 : Int) : St := ⟨.v (.one .und) :: .v (.one .und) :: .v (.one .und) :: .v (.one .und) :: .v (.one .und) :: .v (.one .und) :: .v (.one .und) :: .v (.one (.int .i64 y0)) :: .v (.one .und) :: .v (.one .und) :: .v (.one .und) :: .v (.one .und) :: .v (.one .und) :: .v (.one .und) :: .v (.one .und) :: .v (.one .und) :: .v (.one .und) :: .v (.one .und) :: .v (.one .und) :: .v (.one .und) :: .v (.one .und) :: .v (.one .und) :: .v (.one .und) :: .v (.one .und) :: .v (.one .und) :: .v (.one .und) :: .v (.one .und) :: .v (.one .und) :: .v (.one .und) :: .v (.one .und) :: .v (.one .und) :: .v (.one .und) :: .v (.one .und) :: .v (.one .und) :: [], []⟩
theorem fl207_0_0 (s : St) : refSt (h207_0_0 0 0 0 0 0 0) s = h207_0_0 (intS (oneA (vT (nx tund s.tmps 1)))) (intS (oneA (vT (nx tund s.tmps 2)))) (intS (oneA (vT (nx tund s.tmps 7)))) (intS (oneA (vT (nx tund s.tmps 8)))) (intS (nx .und (cellsB (nx .dead s.blks 0)) 0)) (intS (nx .und (cellsB (nx .dead s.blks 0)) 1)) := by kernel_rfl
def VLS207_0 {β : Type} (N : Nat) (q_spec_l19Word_l0 : Nat → Int → Int → Int → Int → Int → Int → (Int → Option β) → Option β) : LSpec β := fun s K => cond (shpSt (h207_0_0 0 0 0 0 0 0) s) ((fun (v0 : Int) (v1 : Int) (v2 : Int) (v3 : Int) (v4 : Int) (v5 : Int) => q_spec_l19Word_l0  N v0 v1 v2 v3 v4 v5 (fun y0 => K (.exit 0) (x207_0_0_k0  y0))) (intS (oneA (vT (nx tund s.tmps 1)))) (intS (oneA (vT (nx tund s.tmps 2)))) (intS (oneA (vT (nx tund s.tmps 7)))) (intS (oneA (vT (nx tund s.tmps 8)))) (intS (nx .und (cellsB (nx .dead s.blks 0)) 0)) (intS (nx .und (cellsB (nx .dead s.blks 0)) 1))) (none)
def LS207_0 {β : Type} (N : Nat) : LSpec β := VLS207_0 N (spec_l19Word_l0 N)
def VE207 {β : Type} (N : Nat) (q_spec_l19Word_l0 : Nat → Int → Int → Int → Int → Int → Int → (Int → Option β) → Option β) : Env β := ⟨[], [], [(0, VLS207_0 N q_spec_l19Word_l0)], [], ⟨[], [], [106], [147, 148, 186]⟩⟩
def E207 {β : Type} (N : Nat) : Env β := VE207 N (spec_l19Word_l0 N)
def BV_spec_l19Word_l0b {β : Type} (N : Nat)  (v0 : Int) (v1 : Int) (v2 : Int) (v3 : Int) (v4 : Int) (v5 : Int) (rec_ : Int → Int → Int → Int → Int → Int → Option β) (k0 : Int → Option β) : Option β :=
(gd ((decide (0 ≤ v4)))
((cond ((decide (v3 < (shlI .i64 1 v4))))
((gd ((decide (0 ≤ (w64 ((w64 (v3 - (bits .and .i64 v3 v0))) + v1)))))
((gd ((decide (0 ≤ v3)))
(rec_ v0 v1 ((bits .or .i64 v2 (shlI .i64 (bits .and .i64 (shrI .i64 v5 (w64 ((w64 (v3 - (bits .and .i64 v3 v0))) + v1))) 1) v3))) ((w64 (v3 + 1))) v4 v5)))))
(k0 v2))))
theorem t_spec_l19Word_l0b {β : Type} (N : Nat)  (v0 : Int) (v1 : Int) (v2 : Int) (v3 : Int) (v4 : Int) (v5 : Int) (rec_ : Int → Int → Int → Int → Int → Int → Option β) (k0 : Int → Option β) : spec_l19Word_l0b N v0 v1 v2 v3 v4 v5 rec_ k0 = BV_spec_l19Word_l0b N v0 v1 v2 v3 v4 v5 rec_ k0 := by
  unfold spec_l19Word_l0b BV_spec_l19Word_l0b
  rfl
theorem vst207_0_0 {β : Type} (N : Nat) (q_spec_l19Word_l0 : Nat → Int → Int → Int → Int → Int → Int → (Int → Option β) → Option β)  (v0 : Int) (v1 : Int) (v2 : Int) (v3 : Int) (v4 : Int) (v5 : Int) (rec_ : St → Option β) (K : Exit → St → Option β) :
    ev lay (VE207 N q_spec_l19Word_l0) (retMask Try.f207) (lp Try.f207 0).body (lp Try.f207 0).ex ((lp Try.f207 0).lv (retMask Try.f207)) (h207_0_0  v0 v1 v2 v3 v4 v5) (nextR (fun s' => rec_ (s'.tidy ((lp Try.f207 0).lv (retMask Try.f207)))) K) = BV_spec_l19Word_l0b N  v0 v1 v2 v3 v4 v5 (fun v0 v1 v2 v3 v4 v5 => rec_ (h207_0_0  v0 v1 v2 v3 v4 v5)) (fun y0 => K (.exit 0) (x207_0_0_k0  y0)) := by kernel_rfl
theorem st207_0_0 {β : Type} (N : Nat)  (v0 : Int) (v1 : Int) (v2 : Int) (v3 : Int) (v4 : Int) (v5 : Int) (rec_ : St → Option β) (K : Exit → St → Option β) :
    ev lay (E207 N) (retMask Try.f207) (lp Try.f207 0).body (lp Try.f207 0).ex ((lp Try.f207 0).lv (retMask Try.f207)) (h207_0_0  v0 v1 v2 v3 v4 v5) (nextR (fun s' => rec_ (s'.tidy ((lp Try.f207 0).lv (retMask Try.f207)))) K) = spec_l19Word_l0b N  v0 v1 v2 v3 v4 v5 (fun v0 v1 v2 v3 v4 v5 => rec_ (h207_0_0  v0 v1 v2 v3 v4 v5)) (fun y0 => K (.exit 0) (x207_0_0_k0  y0)) := (vst207_0_0 N (spec_l19Word_l0 N) v0 v1 v2 v3 v4 v5 rec_ K).trans (t_spec_l19Word_l0b N  v0 v1 v2 v3 v4 v5 (fun v0 v1 v2 v3 v4 v5 => rec_ (h207_0_0  v0 v1 v2 v3 v4 v5)) (fun y0 => K (.exit 0) (x207_0_0_k0  y0))).symm
theorem ro207_0_0 {β : Type} (N : Nat)  (K : Exit → St → Option β) : ∀ (F : Nat) (v0 : Int) (v1 : Int) (v2 : Int) (v3 : Int) (v4 : Int) (v5 : Int), (lp Try.f207 0).rounds lay (E207 N) (retMask Try.f207) F (h207_0_0  v0 v1 v2 v3 v4 v5) K = spec_l19Word_l0 N  F v0 v1 v2 v3 v4 v5 (fun y0 => K (.exit 0) (x207_0_0_k0  y0)) := by
  intro F
  induction F with
  | zero => intros; rfl
  | succ F ih =>
    intros
    rw [rounds_next]
    refine (st207_0_0 N  _ _ _ _ _ _ (fun s => (lp Try.f207 0).rounds lay (E207 N) (retMask Try.f207) F s K) K).trans ?_
    simp only [ih]
    rfl
theorem lk207_0 {β : Type} (N : Nat) : lookL (E207 (β := β) N).loops (lp Try.f207 0).id = LS207_0 N := by kernel_rfl
theorem rk207_0 {β : Type} (N : Nat) : RoundsOK lay (E207 (β := β) N) (retMask Try.f207) (lp Try.f207 0) := by
  intro s K r h
  rw [lk207_0] at h
  unfold LS207_0 VLS207_0 at h
  cases hb : shpSt (h207_0_0 0 0 0 0 0 0) s with
  | true =>
    rw [hb, cond_true] at h
    exact ⟨N, by rw [← shpSt_ref hb, fl207_0_0 s]; exact (ro207_0_0 N  K N (intS (oneA (vT (nx tund s.tmps 1)))) (intS (oneA (vT (nx tund s.tmps 2)))) (intS (oneA (vT (nx tund s.tmps 7)))) (intS (oneA (vT (nx tund s.tmps 8)))) (intS (nx .und (cellsB (nx .dead s.blks 0)) 0)) (intS (nx .und (cellsB (nx .dead s.blks 0)) 1))).trans h⟩
  | false =>
  rw [hb, cond_false] at h
  clear hb
  cases h
def BV_spec_l19Word {β : Type} (N : Nat) (q_spec_l19Word_l0 : Nat → Int → Int → Int → Int → Int → Int → (Int → Option β) → Option β) (a0 : Int) (a1 : Int) (a2 : Int) (a3 : Int) (k : Int → Option β) : Option β :=
q_spec_l19Word_l0  N a2 a3 0 0 a0 a1 (fun e5_0 =>
k e5_0)
theorem t_spec_l19Word {β : Type} (N : Nat) (a0 : Int) (a1 : Int) (a2 : Int) (a3 : Int) (k : Int → Option β) : spec_l19Word N a0 a1 a2 a3 k = BV_spec_l19Word N (spec_l19Word_l0 N) a0 a1 a2 a3 k := by
  unfold spec_l19Word BV_spec_l19Word
  rfl
theorem ve207_0 {β : Type} (N : Nat) (q_spec_l19Word_l0 : Nat → Int → Int → Int → Int → Int → Int → (Int → Option β) → Option β)  (a0 : Int) (a1 : Int) (a2 : Int) (a3 : Int) (K : TV → Option β) : evFn lay (VE207 N q_spec_l19Word_l0) Try.f207 [.v (.agg [.int .i64 a0, .int .i64 a1]), .v (.one (.int .i64 a2)), .v (.one (.int .i64 a3))] K = BV_spec_l19Word N q_spec_l19Word_l0 a0 a1 a2 a3 (fun z4 => K (.v (.one (.int .i64 z4)))) := by kernel_rfl
theorem e207_0 {β : Type} (N : Nat)  (a0 : Int) (a1 : Int) (a2 : Int) (a3 : Int) (K : TV → Option β) : evFn lay (E207 N) Try.f207 [.v (.agg [.int .i64 a0, .int .i64 a1]), .v (.one (.int .i64 a2)), .v (.one (.int .i64 a3))] K = spec_l19Word N a0 a1 a2 a3 (fun z4 => K (.v (.one (.int .i64 z4)))) := (ve207_0 N (spec_l19Word_l0 N) a0 a1 a2 a3 K).trans (t_spec_l19Word N a0 a1 a2 a3 (fun z4 => K (.v (.one (.int .i64 z4))))).symm
theorem o207 {β : Type} (N : Nat) : SpecOK (β := β) inv Try.prog 207 (S207 N) := by
  refine spec_of lay_ok mixed (E := E207 N) (specs_loops specs_nil) muts_nil gs_nil Try.func207 (by kernel_rfl) 1 (by kernel_rfl) ⟨trivial, rk207_0 N⟩ fun args K r h => ?_
  unfold S207 VS207 at h
  split at h
  · exact (e207_0 N _ _ _ _ _).trans h
  · cases h
end Go.Proofs.Ytfdggelojmofmaa
