/- The functions that the claims reach answer as their texts do. -/
import Derived.Test.YtfdggelojmofmaaDoorT0
import Derived.Test.YtfdggelojmofmaaDoorProg
import Derived.KernelRfl
import Derived.Test.YtfdggelojmofmaaDoorShelf
namespace Go.Proofs.YtfdggelojmofmaaDoor
open Go.Rv
set_option maxRecDepth 100000
set_option maxHeartbeats 2000000
set_option linter.unusedVariables false
def lay : Lay := [(1, .func),
  (2, .int .i64),
  (3, .int .i64),
  (4, .bool),
  (5, .int .u8),
  (9, .string),
  (12, .int .u64),
  (21, .int .i32),
  (22, .struct [⟨0, 1, false⟩, ⟨1, 1, false⟩] [3, 3] 16 true),
  (23, .struct [⟨0, 1, false⟩, ⟨1, 1, false⟩] [3, 3] 16 true),
  (24, .struct [⟨0, 1, false⟩, ⟨1, 1, false⟩] [3, 3] 16 true),
  (25, .slice 3),
  (26, .struct [⟨0, 1, false⟩, ⟨1, 2, true⟩, ⟨3, 1, false⟩, ⟨4, 1, false⟩, ⟨5, 1, false⟩, ⟨6, 1, false⟩] [3, 3, 3, 3, 3, 9, 25] 80 false),
  (27, .struct [⟨0, 1, false⟩, ⟨1, 2, true⟩, ⟨3, 1, false⟩, ⟨4, 1, false⟩, ⟨5, 1, false⟩, ⟨6, 1, false⟩] [3, 3, 3, 3, 3, 9, 25] 80 false),
  (34, .slice 52),
  (51, .struct [⟨0, 1, false⟩, ⟨1, 1, false⟩] [3, 3] 16 true),
  (52, .struct [⟨0, 1, false⟩, ⟨1, 1, false⟩] [3, 3] 16 true),
  (57, .slice 9),
  (64, .struct [⟨0, 1, false⟩] [57] 24 false),
  (65, .struct [⟨0, 1, false⟩] [57] 24 false),
  (73, .slice 120),
  (90, .pointer 156),
  (93, .struct [⟨0, 1, false⟩, ⟨1, 1, false⟩] [3, 3] 16 true),
  (94, .struct [⟨0, 1, false⟩, ⟨1, 1, false⟩] [3, 3] 16 true),
  (95, .pointer 162),
  (103, .int .u64),
  (105, .slice 5),
  (106, .pointer 65),
  (113, .slice 25),
  (119, .struct [⟨0, 1, false⟩, ⟨1, 1, false⟩, ⟨2, 1, false⟩] [3, 3, 3] 24 true),
  (120, .struct [⟨0, 1, false⟩, ⟨1, 1, false⟩, ⟨2, 1, false⟩] [3, 3, 3] 24 true),
  (122, .pointer 125),
  (123, .map 24 3),
  (124, .struct [⟨0, 1, false⟩, ⟨1, 1, false⟩, ⟨2, 1, false⟩] [25, 73, 123] 56 false),
  (125, .struct [⟨0, 1, false⟩, ⟨1, 1, false⟩, ⟨2, 1, false⟩] [25, 73, 123] 56 false),
  (129, .pointer 131),
  (130, .struct [⟨0, 2, true⟩, ⟨2, 1, false⟩, ⟨3, 1, false⟩, ⟨4, 1, false⟩] [3, 3, 3, 3, 25] 56 false),
  (131, .struct [⟨0, 2, true⟩, ⟨2, 1, false⟩, ⟨3, 1, false⟩, ⟨4, 1, false⟩] [3, 3, 3, 3, 25] 56 false),
  (134, .map 3 3),
  (136, .int .u64),
  (138, .map 3 4),
  (139, .pointer 187),
  (140, .struct [⟨0, 1, false⟩, ⟨1, 1, false⟩] [3, 3] 16 true),
  (141, .struct [⟨0, 1, false⟩, ⟨1, 1, false⟩] [3, 3] 16 true),
  (154, .map 94 3),
  (155, .struct [⟨0, 2, true⟩, ⟨2, 1, false⟩, ⟨3, 1, false⟩] [3, 3, 154, 154] 32 false),
  (156, .struct [⟨0, 2, true⟩, ⟨2, 1, false⟩, ⟨3, 1, false⟩] [3, 3, 154, 154] 32 false),
  (161, .struct [⟨0, 1, false⟩, ⟨1, 1, false⟩, ⟨2, 1, false⟩] [5, 95, 95] 24 false),
  (162, .struct [⟨0, 1, false⟩, ⟨1, 1, false⟩, ⟨2, 1, false⟩] [5, 95, 95] 24 false),
  (167, .pointer 169),
  (168, .struct [⟨0, 1, false⟩, ⟨1, 1, false⟩] [167, 105] 32 false),
  (169, .struct [⟨0, 1, false⟩, ⟨1, 1, false⟩] [167, 105] 32 false),
  (179, .slice 4),
  (185, .map 141 3),
  (186, .struct [⟨0, 2, true⟩, ⟨2, 1, false⟩, ⟨3, 1, false⟩] [3, 3, 3, 185] 32 false),
  (187, .struct [⟨0, 2, true⟩, ⟨2, 1, false⟩, ⟨3, 1, false⟩] [3, 3, 3, 185] 32 false),
  (192, .array 2 4),
  (197, .pointer 5),
  (199, .int .u32),
  (212, .struct [⟨0, 1, false⟩, ⟨1, 1, false⟩] [5, 5] 2 true),
  (213, .struct [⟨0, 1, false⟩, ⟨1, 1, false⟩] [5, 5] 2 true)]

theorem lay_ok : LayOK Tryd.prog lay := layOK_of (by decide +kernel)
theorem mixed : Tryd.prog.follows .mixedOrders = true := by kernel_rfl
def inv : World → Prop := tabInv Tryd.prog
def S126 {β : Type} (N : Nat) : Rv.Spec β := joinSpec N
theorem o126 {β : Type} (N : Nat) : SpecOK (β := β) inv Tryd.prog 126 (S126 N) := join_ok Tryd.func126 (by kernel_rfl) Tryd.strings_Join_none Tryd.strings_Join N
def S130 {β : Type} (N : Nat) : Rv.Spec β := itoaSpec N
theorem o130 {β : Type} (N : Nat) : SpecOK (β := β) inv Tryd.prog 130 (S130 N) := itoa_ok Tryd.func130 (by kernel_rfl) Tryd.strconv_Itoa N
def VS11 {β : Type} (N : Nat) (q_laws_toTable : (a0 : Int) → (a1 : Int) → (k : Int → Int → Option β) → Option β) : Rv.Spec β := fun args K => match args with
  | [.v (.agg [.int .i64 a0, .int .i64 a1])] => q_laws_toTable a0 a1 (fun z2 z3 => K (.v (.agg [.int .i64 z2, .int .i64 z3])))
  | _ => none
def S11 {β : Type} (N : Nat) : Rv.Spec β := VS11 N (laws_toTable N)
def VE11 {β : Type} (N : Nat) : Env β := ⟨[], [], [], [], ⟨[], [], [145], [149, 152, 199]⟩⟩
def E11 {β : Type} (N : Nat) : Env β := VE11 N
def BV_laws_toTable {β : Type} (N : Nat) (a0 : Int) (a1 : Int) (k : Int → Int → Option β) : Option β :=
k a0 a1
theorem t_laws_toTable {β : Type} (N : Nat) (a0 : Int) (a1 : Int) (k : Int → Int → Option β) : laws_toTable N a0 a1 k = BV_laws_toTable N a0 a1 k := by
  unfold laws_toTable BV_laws_toTable
  rfl
theorem ve11_0 {β : Type} (N : Nat)  (a0 : Int) (a1 : Int) (K : TV → Option β) : evFn lay (VE11 N) Tryd.f11 [.v (.agg [.int .i64 a0, .int .i64 a1])] K = BV_laws_toTable N a0 a1 (fun z2 z3 => K (.v (.agg [.int .i64 z2, .int .i64 z3]))) := by kernel_rfl
theorem e11_0 {β : Type} (N : Nat)  (a0 : Int) (a1 : Int) (K : TV → Option β) : evFn lay (E11 N) Tryd.f11 [.v (.agg [.int .i64 a0, .int .i64 a1])] K = laws_toTable N a0 a1 (fun z2 z3 => K (.v (.agg [.int .i64 z2, .int .i64 z3]))) := (ve11_0 N a0 a1 K).trans (t_laws_toTable N a0 a1 (fun z2 z3 => K (.v (.agg [.int .i64 z2, .int .i64 z3])))).symm
theorem o11 {β : Type} (N : Nat) : SpecOK (β := β) inv Tryd.prog 11 (S11 N) := by
  refine spec_of lay_ok mixed (E := E11 N) (specs_loops specs_nil) muts_nil gs_nil Tryd.func11 (by kernel_rfl) 0 (by kernel_rfl) trivial fun args K r h => ?_
  unfold S11 VS11 at h
  split at h
  · exact (e11_0 N _ _ _).trans h
  · cases h
def VS43 {β : Type} (N : Nat) (q_spec_l1In : (a0 : Int) → (a1 : Int) → (a2 : Int) → (k : Bool → Option β) → Option β) : Rv.Spec β := fun args K => match args with
  | [.v (.one (.int .i64 a0)), .v (.one (.int .i64 a1)), .v (.one (.int .i64 a2))] => q_spec_l1In a0 a1 a2 (fun z3 => K (.v (.one (.bool z3))))
  | _ => none
def S43 {β : Type} (N : Nat) : Rv.Spec β := VS43 N (spec_l1In N)
def VE43 {β : Type} (N : Nat) : Env β := ⟨[], [], [], [], ⟨[], [], [145], [149, 152, 199]⟩⟩
def E43 {β : Type} (N : Nat) : Env β := VE43 N
def BV_spec_l1In {β : Type} (N : Nat) (a0 : Int) (a1 : Int) (a2 : Int) (k : Bool → Option β) : Option β :=
(cond ((decide (a0 ≥ a1)))
(k ((decide (a0 ≤ a2))))
(k false))
theorem t_spec_l1In {β : Type} (N : Nat) (a0 : Int) (a1 : Int) (a2 : Int) (k : Bool → Option β) : spec_l1In N a0 a1 a2 k = BV_spec_l1In N a0 a1 a2 k := by
  unfold spec_l1In BV_spec_l1In
  rfl
theorem ve43_0 {β : Type} (N : Nat)  (a0 : Int) (a1 : Int) (a2 : Int) (K : TV → Option β) : evFn lay (VE43 N) Tryd.f43 [.v (.one (.int .i64 a0)), .v (.one (.int .i64 a1)), .v (.one (.int .i64 a2))] K = BV_spec_l1In N a0 a1 a2 (fun z3 => K (.v (.one (.bool z3)))) := by kernel_rfl
theorem e43_0 {β : Type} (N : Nat)  (a0 : Int) (a1 : Int) (a2 : Int) (K : TV → Option β) : evFn lay (E43 N) Tryd.f43 [.v (.one (.int .i64 a0)), .v (.one (.int .i64 a1)), .v (.one (.int .i64 a2))] K = spec_l1In N a0 a1 a2 (fun z3 => K (.v (.one (.bool z3)))) := (ve43_0 N a0 a1 a2 K).trans (t_spec_l1In N a0 a1 a2 (fun z3 => K (.v (.one (.bool z3))))).symm
theorem o43 {β : Type} (N : Nat) : SpecOK (β := β) inv Tryd.prog 43 (S43 N) := by
  refine spec_of lay_ok mixed (E := E43 N) (specs_loops specs_nil) muts_nil gs_nil Tryd.func43 (by kernel_rfl) 0 (by kernel_rfl) trivial fun args K r h => ?_
  unfold S43 VS43 at h
  split at h
  · exact (e43_0 N _ _ _ _).trans h
  · cases h
def VS51 {β : Type} (N : Nat) (q_spec_IsTable : (a0 : Int) → (a1 : Int) → (k : Bool → Option β) → Option β) : Rv.Spec β := fun args K => match args with
  | [.v (.agg [.int .i64 a0, .int .i64 a1])] => q_spec_IsTable a0 a1 (fun z2 => K (.v (.one (.bool z2))))
  | _ => none
def S51 {β : Type} (N : Nat) : Rv.Spec β := VS51 N (spec_IsTable N)
def VE51 {β : Type} (N : Nat) (q_spec_l1In : (a0 : Int) → (a1 : Int) → (a2 : Int) → (k : Bool → Option β) → Option β) : Env β := ⟨[(43, VS43 N q_spec_l1In)], [], [], [], ⟨[], [], [145], [149, 152, 199]⟩⟩
def E51 {β : Type} (N : Nat) : Env β := VE51 N (spec_l1In N)
def BV_spec_IsTable {β : Type} (N : Nat) (q_spec_l1In : (a0 : Int) → (a1 : Int) → (a2 : Int) → (k : Bool → Option β) → Option β) (a0 : Int) (a1 : Int) (k : Bool → Option β) : Option β :=
q_spec_l1In a0 0 5 fun r3 =>
(cond r3
((gd ((decide (0 ≤ a0)))
((gd ((decide (0 ≤ (shlI .u64 1 a0))))
(q_spec_l1In a1 0 ((w64 ((shlI .i64 1 (shlI .u64 1 a0)) - 1))) fun r4 =>
k r4)))))
(k false))
theorem t_spec_IsTable {β : Type} (N : Nat) (a0 : Int) (a1 : Int) (k : Bool → Option β) : spec_IsTable N a0 a1 k = BV_spec_IsTable N (spec_l1In N) a0 a1 k := by
  unfold spec_IsTable BV_spec_IsTable
  rfl
theorem ve51_0 {β : Type} (N : Nat) (q_spec_l1In : (a0 : Int) → (a1 : Int) → (a2 : Int) → (k : Bool → Option β) → Option β)  (a0 : Int) (a1 : Int) (K : TV → Option β) : evFn lay (VE51 N q_spec_l1In) Tryd.f51 [.v (.agg [.int .i64 a0, .int .i64 a1])] K = BV_spec_IsTable N q_spec_l1In a0 a1 (fun z2 => K (.v (.one (.bool z2)))) := by kernel_rfl
theorem e51_0 {β : Type} (N : Nat)  (a0 : Int) (a1 : Int) (K : TV → Option β) : evFn lay (E51 N) Tryd.f51 [.v (.agg [.int .i64 a0, .int .i64 a1])] K = spec_IsTable N a0 a1 (fun z2 => K (.v (.one (.bool z2)))) := (ve51_0 N (spec_l1In N) a0 a1 K).trans (t_spec_IsTable N a0 a1 (fun z2 => K (.v (.one (.bool z2))))).symm
theorem o51 {β : Type} (N : Nat) : SpecOK (β := β) inv Tryd.prog 51 (S51 N) := by
  refine spec_of lay_ok mixed (E := E51 N) (specs_loops (specs_cons (o43 N) specs_nil)) muts_nil gs_nil Tryd.func51 (by kernel_rfl) 0 (by kernel_rfl) trivial fun args K r h => ?_
  unfold S51 VS51 at h
  split at h
  · exact (e51_0 N _ _ _).trans h
  · cases h
def VSF145 {β : Type} (N : Nat) (q_spec_l4Perms_f : Nat → Int → List Int → (List (List Int) → Option β) → Option β) (G : Nat) : Rv.Spec β := fun args K => match args with
  | [.v (.one (.int .i64 a0)), .v (.one (.fsl 3 (.ints .i64 a1)))] => q_spec_l4Perms_f G a0 a1 (fun z2 => K (.v (.one (.sl 25 (.lists 3 z2)))))
  | _ => none
def SF145 {β : Type} (N : Nat) (G : Nat) : Rv.Spec β := VSF145 N (spec_l4Perms_f N) G
def VS145 {β : Type} (N : Nat) (q_spec_l4Perms_f : Nat → Int → List Int → (List (List Int) → Option β) → Option β) : Rv.Spec β := VSF145 N q_spec_l4Perms_f N
def S145 {β : Type} (N : Nat) : Rv.Spec β := SF145 N N
def h145_0_0  (v0 : Int) (v1 : List Int) (v2 : Int) (v3 : List (List Int)) : St := ⟨.v (.one (.int .i64 v0)) :: .v (.one (.fsl 3 (.ints .i64 v1))) :: .v (.one .und) :: .v (.one .und) :: .v (.one .und) :: .v (.one (.row 0)) :: .v (.one (.int .i64 v2)) :: .v (.one .und) :: .v (.one .und) :: .v (.one .und) :: .v (.one .und) :: .v (.one .und) :: .v (.one .und) :: .v (.one .und) :: .v (.one .und) :: .v (.one .und) :: .v (.one .und) :: .v (.one .und) :: .v (.one .und) :: .v (.one .und) :: .v (.one .und) :: .v (.one .und) :: .v (.one .und) :: .v (.one .und) :: .v (.one .und) :: .v (.one .und) :: .v (.one .und) :: .v (.one .und) :: .v (.one .und) :: .v (.one .und) :: .v (.one .und) :: .v (.one .und) :: .v (.one .und) :: .v (.one .und) :: .v (.one .und) :: .v (.one .und) :: .v (.one .und) :: .v (.one .und) :: .v (.one .und) :: .v (.one .und) :: .v (.one .und) :: .v (.one .und) :: .v (.one .und) :: .v (.one .und) :: .v (.one .und) :: .v (.one .und) :: .v (.one .und) :: .v (.one .und) :: .v (.one .und) :: [], [.row 25 (.lists 3 v3)]⟩
def x145_0_0_k0  (y0 : List (List Int)) : St := ⟨.v (.one .und) :: .v (.one .und) :: .v (.one .und) :: .v (.one .und) :: .v (.one .und) :: .v (.one (.row 0)) :: .v (.one .und) :: .v (.one .und) :: .v (.one .und) :: .v (.one .und) :: .v (.one .und) :: .v (.one .und) :: .v (.one .und) :: .v (.one .und) :: .v (.one .und) :: .v (.one .und) :: .v (.one .und) :: .v (.one .und) :: .v (.one .und) :: .v (.one .und) :: .v (.one .und) :: .v (.one .und) :: .v (.one .und) :: .v (.one .und) :: .v (.one .und) :: .v (.one .und) :: .v (.one .und) :: .v (.one .und) :: .v (.one .und) :: .v (.one .und) :: .v (.one .und) :: .v (.one .und) :: .v (.one .und) :: .v (.one .und) :: .v (.one .und) :: .v (.one .und) :: .v (.one .und) :: .v (.one .und) :: .v (.one .und) :: .v (.one .und) :: .v (.one .und) :: .v (.one .und) :: .v (.one .und) :: .v (.one .und) :: .v (.one .und) :: .v (.one .und) :: .v (.one .und) :: .v (.one .und) :: .v (.one .und) :: [], [.row 25 (.lists 3 y0)]⟩
def h145_1_0  (v0 : Int) (v1 : List Int) (v2 : Int) (v3 : Bool) (v4 : Int) (v5 : List (List Int)) : St := ⟨.v (.one (.int .i64 v0)) :: .v (.one (.fsl 3 (.ints .i64 v1))) :: .v (.one .und) :: .v (.one .und) :: .v (.one .und) :: .v (.one (.row 0)) :: .v (.one (.int .i64 v2)) :: .v (.one (.bool v3)) :: .v (.one (.int .i64 v4)) :: .v (.one .und) :: .v (.one .und) :: .v (.one .und) :: .v (.one .und) :: .v (.one .und) :: .v (.one .und) :: .v (.one .und) :: .v (.one .und) :: .v (.one .und) :: .v (.one .und) :: .v (.one .und) :: .v (.one .und) :: .v (.one .und) :: .v (.one .und) :: .v (.one .und) :: .v (.one .und) :: .v (.one .und) :: .v (.one .und) :: .v (.one .und) :: .v (.one .und) :: .v (.one .und) :: .v (.one .und) :: .v (.one .und) :: .v (.one .und) :: .v (.one .und) :: .v (.one .und) :: .v (.one .und) :: .v (.one .und) :: .v (.one .und) :: .v (.one .und) :: .v (.one .und) :: .v (.one .und) :: .v (.one .und) :: .v (.one .und) :: .v (.one .und) :: .v (.one .und) :: .v (.one .und) :: .v (.one .und) :: .v (.one .und) :: .v (.one .und) :: [], [.row 25 (.lists 3 v5)]⟩
def x145_1_0_k0  (y0 : Int) (y1 : List Int) (y2 : Int) (y3 : Bool) (y4 : List (List Int)) : St := ⟨.v (.one (.int .i64 y0)) :: .v (.one (.fsl 3 (.ints .i64 y1))) :: .v (.one .und) :: .v (.one .und) :: .v (.one .und) :: .v (.one (.row 0)) :: .v (.one (.int .i64 y2)) :: .v (.one (.bool y3)) :: .v (.one .und) :: .v (.one .und) :: .v (.one .und) :: .v (.one .und) :: .v (.one .und) :: .v (.one .und) :: .v (.one .und) :: .v (.one .und) :: .v (.one .und) :: .v (.one .und) :: .v (.one .und) :: .v (.one .und) :: .v (.one .und) :: .v (.one .und) :: .v (.one .und) :: .v (.one .und) :: .v (.one .und) :: .v (.one .und) :: .v (.one .und) :: .v (.one .und) :: .v (.one .und) :: .v (.one .und) :: .v (.one .und) :: .v (.one .und) :: .v (.one .und) :: .v (.one .und) :: .v (.one .und) :: .v (.one .und) :: .v (.one .und) :: .v (.one .und) :: .v (.one .und) :: .v (.one .und) :: .v (.one .und) :: .v (.one .und) :: .v (.one .und) :: .v (.one .und) :: .v (.one .und) :: .v (.one .und) :: .v (.one .und) :: .v (.one .und) :: .v (.one .und) :: [], [.row 25 (.lists 3 y4)]⟩
theorem fl145_0_0 (s : St) : refSt (h145_0_0 0 [] 0 []) s = h145_0_0 (intS (oneA (vT (nx tund s.tmps 0)))) (rInts (rowV (oneA (vT (nx tund s.tmps 1))))) (intS (oneA (vT (nx tund s.tmps 6)))) (rLists (rowB_ (nx .dead s.blks 0))) := by kernel_rfl
def VLS145_0 {β : Type} (N : Nat) (q_spec_l4Perms_l0 : (self : Int → List Int → (List (List Int) → Option β) → Option β) → Nat → Int → List Int → Int → List (List Int) → (List (List Int) → Option β) → Option β) (q_spec_l4Perms_f : Nat → Int → List Int → (List (List Int) → Option β) → Option β) (G : Nat) : LSpec β := fun s K => cond (shpSt (h145_0_0 0 [] 0 []) s) ((fun (v0 : Int) (v1 : List Int) (v2 : Int) (v3 : List (List Int)) => q_spec_l4Perms_l0 (q_spec_l4Perms_f G)  N v0 v1 v2 v3 (fun y0 => K (.exit 0) (x145_0_0_k0  y0))) (intS (oneA (vT (nx tund s.tmps 0)))) (rInts (rowV (oneA (vT (nx tund s.tmps 1))))) (intS (oneA (vT (nx tund s.tmps 6)))) (rLists (rowB_ (nx .dead s.blks 0)))) (none)
def LS145_0 {β : Type} (N : Nat) (G : Nat) : LSpec β := VLS145_0 N (spec_l4Perms_l0 N) (spec_l4Perms_f N) G
theorem fl145_1_0 (s : St) : refSt (h145_1_0 0 [] 0 false 0 []) s = h145_1_0 (intS (oneA (vT (nx tund s.tmps 0)))) (rInts (rowV (oneA (vT (nx tund s.tmps 1))))) (intS (oneA (vT (nx tund s.tmps 6)))) (boolS (oneA (vT (nx tund s.tmps 7)))) (intS (oneA (vT (nx tund s.tmps 8)))) (rLists (rowB_ (nx .dead s.blks 0))) := by kernel_rfl
def VLS145_2 {β : Type} (N : Nat) (q_spec_l4Perms_l2 : Nat → Int → List Int → Int → Bool → Int → List (List Int) → (Int → List Int → Int → Bool → List (List Int) → Option β) → Option β) (G : Nat) : LSpec β := fun s K => cond (shpSt (h145_1_0 0 [] 0 false 0 []) s) ((fun (v0 : Int) (v1 : List Int) (v2 : Int) (v3 : Bool) (v4 : Int) (v5 : List (List Int)) => q_spec_l4Perms_l2  N v0 v1 v2 v3 v4 v5 (fun y0 y1 y2 y3 y4 => K (.exit 2) (x145_1_0_k0  y0 y1 y2 y3 y4))) (intS (oneA (vT (nx tund s.tmps 0)))) (rInts (rowV (oneA (vT (nx tund s.tmps 1))))) (intS (oneA (vT (nx tund s.tmps 6)))) (boolS (oneA (vT (nx tund s.tmps 7)))) (intS (oneA (vT (nx tund s.tmps 8)))) (rLists (rowB_ (nx .dead s.blks 0)))) (none)
def LS145_2 {β : Type} (N : Nat) (G : Nat) : LSpec β := VLS145_2 N (spec_l4Perms_l2 N) G
def VE145 {β : Type} (N : Nat) (q_spec_l4Perms_f : Nat → Int → List Int → (List (List Int) → Option β) → Option β) (q_spec_l4Perms_l0 : (self : Int → List Int → (List (List Int) → Option β) → Option β) → Nat → Int → List Int → Int → List (List Int) → (List (List Int) → Option β) → Option β) (q_spec_l4Perms_l2 : Nat → Int → List Int → Int → Bool → Int → List (List Int) → (Int → List Int → Int → Bool → List (List Int) → Option β) → Option β) (G : Nat) : Env β := ⟨[(145, VSF145 N q_spec_l4Perms_f G)], [], [(0, VLS145_0 N q_spec_l4Perms_l0 q_spec_l4Perms_f G), (2, VLS145_2 N q_spec_l4Perms_l2 G)], [], ⟨[], [], [145], [149, 152, 199]⟩⟩
def E145 {β : Type} (N : Nat) (G : Nat) : Env β := VE145 N (spec_l4Perms_f N) (spec_l4Perms_l0 N) (spec_l4Perms_l2 N) G
def BV_spec_l4Perms_l0b {β : Type} (N : Nat) (q_spec_l4Perms_l2 : Nat → Int → List Int → Int → Bool → Int → List (List Int) → (Int → List Int → Int → Bool → List (List Int) → Option β) → Option β) (self : Int → List Int → (List (List Int) → Option β) → Option β)  (v0 : Int) (v1 : List Int) (v2 : Int) (v3 : List (List Int)) (rec_ : Int → List Int → Int → List (List Int) → Option β) (k0 : List (List Int) → Option β) : Option β :=
(cond ((decide (v2 < v0)))
(q_spec_l4Perms_l2  N v0 v1 v2 false 0 v3 (fun e3_0 e3_1 e3_2 e3_3 e3_4 =>
(cond (!e3_3)
((gd ((decide (((([] : List Int)).length + e3_1.length) * 8 ≤ 140737488355328)))
((gd ((decide ((((([] : List Int) ++ e3_1)).length + ((([] : List Int) ++ [e3_2])).length) * 8 ≤ 140737488355328)))
(self e3_0 (((([] : List Int) ++ e3_1) ++ (([] : List Int) ++ [e3_2]))) fun r4 =>
(gd ((decide ((e3_4.length + r4.length) * 24 ≤ 140737488355328)))
(rec_ e3_0 e3_1 ((w64 (e3_2 + 1))) ((e3_4 ++ r4)))))))))
(rec_ e3_0 e3_1 ((w64 (e3_2 + 1))) e3_4))))
(k0 v3))
theorem t_spec_l4Perms_l0b {β : Type} (N : Nat) (self : Int → List Int → (List (List Int) → Option β) → Option β)  (v0 : Int) (v1 : List Int) (v2 : Int) (v3 : List (List Int)) (rec_ : Int → List Int → Int → List (List Int) → Option β) (k0 : List (List Int) → Option β) : spec_l4Perms_l0b N self v0 v1 v2 v3 rec_ k0 = BV_spec_l4Perms_l0b N (spec_l4Perms_l2 N) self v0 v1 v2 v3 rec_ k0 := by
  unfold spec_l4Perms_l0b BV_spec_l4Perms_l0b
  rfl
theorem vst145_0_0 {β : Type} (N : Nat) (q_spec_l4Perms_f : Nat → Int → List Int → (List (List Int) → Option β) → Option β) (q_spec_l4Perms_l0 : (self : Int → List Int → (List (List Int) → Option β) → Option β) → Nat → Int → List Int → Int → List (List Int) → (List (List Int) → Option β) → Option β) (q_spec_l4Perms_l2 : Nat → Int → List Int → Int → Bool → Int → List (List Int) → (Int → List Int → Int → Bool → List (List Int) → Option β) → Option β) (G : Nat)  (v0 : Int) (v1 : List Int) (v2 : Int) (v3 : List (List Int)) (rec_ : St → Option β) (K : Exit → St → Option β) :
    ev lay (VE145 N q_spec_l4Perms_f q_spec_l4Perms_l0 q_spec_l4Perms_l2 G) (retMask Tryd.f145) (lp Tryd.f145 0).body (lp Tryd.f145 0).ex ((lp Tryd.f145 0).lv (retMask Tryd.f145)) (h145_0_0  v0 v1 v2 v3) (nextR (fun s' => rec_ (s'.tidy ((lp Tryd.f145 0).lv (retMask Tryd.f145)))) K) = BV_spec_l4Perms_l0b N q_spec_l4Perms_l2 (q_spec_l4Perms_f G)  v0 v1 v2 v3 (fun v0 v1 v2 v3 => rec_ (h145_0_0  v0 v1 v2 v3)) (fun y0 => K (.exit 0) (x145_0_0_k0  y0)) := by kernel_rfl
theorem st145_0_0 {β : Type} (N : Nat) (G : Nat)  (v0 : Int) (v1 : List Int) (v2 : Int) (v3 : List (List Int)) (rec_ : St → Option β) (K : Exit → St → Option β) :
    ev lay (E145 N G) (retMask Tryd.f145) (lp Tryd.f145 0).body (lp Tryd.f145 0).ex ((lp Tryd.f145 0).lv (retMask Tryd.f145)) (h145_0_0  v0 v1 v2 v3) (nextR (fun s' => rec_ (s'.tidy ((lp Tryd.f145 0).lv (retMask Tryd.f145)))) K) = spec_l4Perms_l0b N (spec_l4Perms_f N G)  v0 v1 v2 v3 (fun v0 v1 v2 v3 => rec_ (h145_0_0  v0 v1 v2 v3)) (fun y0 => K (.exit 0) (x145_0_0_k0  y0)) := (vst145_0_0 N (spec_l4Perms_f N) (spec_l4Perms_l0 N) (spec_l4Perms_l2 N) G v0 v1 v2 v3 rec_ K).trans (t_spec_l4Perms_l0b N (spec_l4Perms_f N G)  v0 v1 v2 v3 (fun v0 v1 v2 v3 => rec_ (h145_0_0  v0 v1 v2 v3)) (fun y0 => K (.exit 0) (x145_0_0_k0  y0))).symm
theorem ro145_0_0 {β : Type} (N : Nat) (G : Nat)  (K : Exit → St → Option β) : ∀ (F : Nat) (v0 : Int) (v1 : List Int) (v2 : Int) (v3 : List (List Int)), (lp Tryd.f145 0).rounds lay (E145 N G) (retMask Tryd.f145) F (h145_0_0  v0 v1 v2 v3) K = spec_l4Perms_l0 N (spec_l4Perms_f N G)  F v0 v1 v2 v3 (fun y0 => K (.exit 0) (x145_0_0_k0  y0)) := by
  intro F
  induction F with
  | zero => intros; rfl
  | succ F ih =>
    intros
    rw [rounds_next]
    refine (st145_0_0 N G  _ _ _ _ (fun s => (lp Tryd.f145 0).rounds lay (E145 N G) (retMask Tryd.f145) F s K) K).trans ?_
    simp only [ih]
    rfl
theorem lk145_0 {β : Type} (N : Nat) (G : Nat) : lookL (E145 (β := β) N G).loops (lp Tryd.f145 0).id = LS145_0 N G := by kernel_rfl
theorem rk145_0 {β : Type} (N : Nat) (G : Nat) : RoundsOK lay (E145 (β := β) N G) (retMask Tryd.f145) (lp Tryd.f145 0) := by
  intro s K r h
  rw [lk145_0] at h
  unfold LS145_0 VLS145_0 at h
  cases hb : shpSt (h145_0_0 0 [] 0 []) s with
  | true =>
    rw [hb, cond_true] at h
    exact ⟨N, by rw [← shpSt_ref hb, fl145_0_0 s]; exact (ro145_0_0 N G  K N (intS (oneA (vT (nx tund s.tmps 0)))) (rInts (rowV (oneA (vT (nx tund s.tmps 1))))) (intS (oneA (vT (nx tund s.tmps 6)))) (rLists (rowB_ (nx .dead s.blks 0)))).trans h⟩
  | false =>
  rw [hb, cond_false] at h
  clear hb
  cases h
def BV_spec_l4Perms_l2b {β : Type} (N : Nat)  (v0 : Int) (v1 : List Int) (v2 : Int) (v3 : Bool) (v4 : Int) (v5 : List (List Int)) (rec_ : Int → List Int → Int → Bool → Int → List (List Int) → Option β) (k0 : Int → List Int → Int → Bool → List (List Int) → Option β) : Option β :=
(cond ((decide (v4 < (v1.length : Int))))
((cond v3
(rec_ v0 v1 v2 true ((w64 (v4 + 1))) v5)
((gd ((decide (0 ≤ v4)))
((gd ((decide (v4 < (v1.length : Int))))
(rec_ v0 v1 v2 (((rd 0 v1 v4) == v2)) ((w64 (v4 + 1))) v5)))))))
(k0 v0 v1 v2 v3 v5))
theorem t_spec_l4Perms_l2b {β : Type} (N : Nat)  (v0 : Int) (v1 : List Int) (v2 : Int) (v3 : Bool) (v4 : Int) (v5 : List (List Int)) (rec_ : Int → List Int → Int → Bool → Int → List (List Int) → Option β) (k0 : Int → List Int → Int → Bool → List (List Int) → Option β) : spec_l4Perms_l2b N v0 v1 v2 v3 v4 v5 rec_ k0 = BV_spec_l4Perms_l2b N v0 v1 v2 v3 v4 v5 rec_ k0 := by
  unfold spec_l4Perms_l2b BV_spec_l4Perms_l2b
  rfl
theorem vst145_1_0 {β : Type} (N : Nat) (q_spec_l4Perms_f : Nat → Int → List Int → (List (List Int) → Option β) → Option β) (q_spec_l4Perms_l0 : (self : Int → List Int → (List (List Int) → Option β) → Option β) → Nat → Int → List Int → Int → List (List Int) → (List (List Int) → Option β) → Option β) (q_spec_l4Perms_l2 : Nat → Int → List Int → Int → Bool → Int → List (List Int) → (Int → List Int → Int → Bool → List (List Int) → Option β) → Option β) (G : Nat)  (v0 : Int) (v1 : List Int) (v2 : Int) (v3 : Bool) (v4 : Int) (v5 : List (List Int)) (rec_ : St → Option β) (K : Exit → St → Option β) :
    ev lay (VE145 N q_spec_l4Perms_f q_spec_l4Perms_l0 q_spec_l4Perms_l2 G) (retMask Tryd.f145) (lp Tryd.f145 1).body (lp Tryd.f145 1).ex ((lp Tryd.f145 1).lv (retMask Tryd.f145)) (h145_1_0  v0 v1 v2 v3 v4 v5) (nextR (fun s' => rec_ (s'.tidy ((lp Tryd.f145 1).lv (retMask Tryd.f145)))) K) = BV_spec_l4Perms_l2b N  v0 v1 v2 v3 v4 v5 (fun v0 v1 v2 v3 v4 v5 => rec_ (h145_1_0  v0 v1 v2 v3 v4 v5)) (fun y0 y1 y2 y3 y4 => K (.exit 2) (x145_1_0_k0  y0 y1 y2 y3 y4)) := by kernel_rfl
theorem st145_1_0 {β : Type} (N : Nat) (G : Nat)  (v0 : Int) (v1 : List Int) (v2 : Int) (v3 : Bool) (v4 : Int) (v5 : List (List Int)) (rec_ : St → Option β) (K : Exit → St → Option β) :
    ev lay (E145 N G) (retMask Tryd.f145) (lp Tryd.f145 1).body (lp Tryd.f145 1).ex ((lp Tryd.f145 1).lv (retMask Tryd.f145)) (h145_1_0  v0 v1 v2 v3 v4 v5) (nextR (fun s' => rec_ (s'.tidy ((lp Tryd.f145 1).lv (retMask Tryd.f145)))) K) = spec_l4Perms_l2b N  v0 v1 v2 v3 v4 v5 (fun v0 v1 v2 v3 v4 v5 => rec_ (h145_1_0  v0 v1 v2 v3 v4 v5)) (fun y0 y1 y2 y3 y4 => K (.exit 2) (x145_1_0_k0  y0 y1 y2 y3 y4)) := (vst145_1_0 N (spec_l4Perms_f N) (spec_l4Perms_l0 N) (spec_l4Perms_l2 N) G v0 v1 v2 v3 v4 v5 rec_ K).trans (t_spec_l4Perms_l2b N  v0 v1 v2 v3 v4 v5 (fun v0 v1 v2 v3 v4 v5 => rec_ (h145_1_0  v0 v1 v2 v3 v4 v5)) (fun y0 y1 y2 y3 y4 => K (.exit 2) (x145_1_0_k0  y0 y1 y2 y3 y4))).symm
theorem ro145_1_0 {β : Type} (N : Nat) (G : Nat)  (K : Exit → St → Option β) : ∀ (F : Nat) (v0 : Int) (v1 : List Int) (v2 : Int) (v3 : Bool) (v4 : Int) (v5 : List (List Int)), (lp Tryd.f145 1).rounds lay (E145 N G) (retMask Tryd.f145) F (h145_1_0  v0 v1 v2 v3 v4 v5) K = spec_l4Perms_l2 N  F v0 v1 v2 v3 v4 v5 (fun y0 y1 y2 y3 y4 => K (.exit 2) (x145_1_0_k0  y0 y1 y2 y3 y4)) := by
  intro F
  induction F with
  | zero => intros; rfl
  | succ F ih =>
    intros
    rw [rounds_next]
    refine (st145_1_0 N G  _ _ _ _ _ _ (fun s => (lp Tryd.f145 1).rounds lay (E145 N G) (retMask Tryd.f145) F s K) K).trans ?_
    simp only [ih]
    rfl
theorem lk145_2 {β : Type} (N : Nat) (G : Nat) : lookL (E145 (β := β) N G).loops (lp Tryd.f145 1).id = LS145_2 N G := by kernel_rfl
theorem rk145_2 {β : Type} (N : Nat) (G : Nat) : RoundsOK lay (E145 (β := β) N G) (retMask Tryd.f145) (lp Tryd.f145 1) := by
  intro s K r h
  rw [lk145_2] at h
  unfold LS145_2 VLS145_2 at h
  cases hb : shpSt (h145_1_0 0 [] 0 false 0 []) s with
  | true =>
    rw [hb, cond_true] at h
    exact ⟨N, by rw [← shpSt_ref hb, fl145_1_0 s]; exact (ro145_1_0 N G  K N (intS (oneA (vT (nx tund s.tmps 0)))) (rInts (rowV (oneA (vT (nx tund s.tmps 1))))) (intS (oneA (vT (nx tund s.tmps 6)))) (boolS (oneA (vT (nx tund s.tmps 7)))) (intS (oneA (vT (nx tund s.tmps 8)))) (rLists (rowB_ (nx .dead s.blks 0)))).trans h⟩
  | false =>
  rw [hb, cond_false] at h
  clear hb
  cases h
def BV_spec_l4Perms_b {β : Type} (N : Nat) (q_spec_l4Perms_l0 : (self : Int → List Int → (List (List Int) → Option β) → Option β) → Nat → Int → List Int → Int → List (List Int) → (List (List Int) → Option β) → Option β) (self : Int → List Int → (List (List Int) → Option β) → Option β) (a0 : Int) (a1 : List Int) (k : List (List Int) → Option β) : Option β :=
(cond (((a1.length : Int) == a0))
(k ((([] : List (List Int)) ++ [a1])))
(q_spec_l4Perms_l0 self  N a0 a1 0 (([] : List (List Int))) (fun e5_0 =>
k e5_0)))
theorem t_spec_l4Perms_b {β : Type} (N : Nat) (self : Int → List Int → (List (List Int) → Option β) → Option β) (a0 : Int) (a1 : List Int) (k : List (List Int) → Option β) : spec_l4Perms_b N self a0 a1 k = BV_spec_l4Perms_b N (spec_l4Perms_l0 N) self a0 a1 k := by
  unfold spec_l4Perms_b BV_spec_l4Perms_b
  rfl
theorem ve145_0 {β : Type} (N : Nat) (q_spec_l4Perms_f : Nat → Int → List Int → (List (List Int) → Option β) → Option β) (q_spec_l4Perms_l0 : (self : Int → List Int → (List (List Int) → Option β) → Option β) → Nat → Int → List Int → Int → List (List Int) → (List (List Int) → Option β) → Option β) (q_spec_l4Perms_l2 : Nat → Int → List Int → Int → Bool → Int → List (List Int) → (Int → List Int → Int → Bool → List (List Int) → Option β) → Option β) (G : Nat)  (a0 : Int) (a1 : List Int) (K : TV → Option β) : evFn lay (VE145 N q_spec_l4Perms_f q_spec_l4Perms_l0 q_spec_l4Perms_l2 G) Tryd.f145 [.v (.one (.int .i64 a0)), .v (.one (.fsl 3 (.ints .i64 a1)))] K = BV_spec_l4Perms_b N q_spec_l4Perms_l0 (q_spec_l4Perms_f G) a0 a1 (fun z2 => K (.v (.one (.sl 25 (.lists 3 z2))))) := by kernel_rfl
theorem e145_0 {β : Type} (N : Nat) (G : Nat)  (a0 : Int) (a1 : List Int) (K : TV → Option β) : evFn lay (E145 N G) Tryd.f145 [.v (.one (.int .i64 a0)), .v (.one (.fsl 3 (.ints .i64 a1)))] K = spec_l4Perms_f N (G + 1) a0 a1 (fun z2 => K (.v (.one (.sl 25 (.lists 3 z2))))) := (ve145_0 N (spec_l4Perms_f N) (spec_l4Perms_l0 N) (spec_l4Perms_l2 N) G a0 a1 K).trans (t_spec_l4Perms_b N (spec_l4Perms_f N G) a0 a1 (fun z2 => K (.v (.one (.sl 25 (.lists 3 z2)))))).symm
theorem z145 {β : Type} (N : Nat) : ∀ args K r, SF145 (β := β) N 0 args K = some r → (none : Option β) = some r := by
  intro args K r h
  unfold SF145 VSF145 at h
  split at h <;> exact h
theorem of145 {β : Type} (N : Nat) : ∀ G, SpecOK (β := β) inv Tryd.prog 145 (SF145 N G) := by
  intro G
  induction G with
  | zero => exact s_zero Tryd.func145 (by kernel_rfl) (z145 N)
  | succ G ih =>
    refine spec_of lay_ok mixed (E := E145 N G) (specs_loops (specs_cons ih specs_nil)) muts_nil gs_nil Tryd.func145 (by kernel_rfl) 2 (by kernel_rfl) ⟨⟨trivial, rk145_0 N G⟩, rk145_2 N G⟩ fun args K r h => ?_
    unfold SF145 VSF145 at h
    split at h
    · exact (e145_0 N G _ _ _).trans h
    · cases h
theorem o145 {β : Type} (N : Nat) : SpecOK (β := β) inv Tryd.prog 145 (S145 N) := of145 N N
def VS147 {β : Type} (N : Nat) (q_spec_l3Perm : (a0 : List Int) → (a1 : Int) → (k : Bool → Option β) → Option β) : Rv.Spec β := fun args K => match args with
  | [.v (.one (.sl 3 (.ints .i64 a0))), .v (.one (.int .i64 a1))] => q_spec_l3Perm a0 a1 (fun z2 => K (.v (.one (.bool z2))))
  | _ => none
def S147 {β : Type} (N : Nat) : Rv.Spec β := VS147 N (spec_l3Perm N)
def h147_0_0  (v0 : List Int) (v1 : Int) (v2 : Int) : St := ⟨.v (.one (.sl 3 (.ints .i64 v0))) :: .v (.one (.int .i64 v1)) :: .v (.one .und) :: .v (.one .und) :: .v (.one .und) :: .v (.one (.int .i64 v2)) :: .v (.one .und) :: .v (.one .und) :: .v (.one .und) :: .v (.one .und) :: .v (.one .und) :: .v (.one .und) :: .v (.one .und) :: .v (.one .und) :: .v (.one .und) :: .v (.one .und) :: .v (.one .und) :: .v (.one .und) :: .v (.one .und) :: .v (.one .und) :: .v (.one .und) :: .v (.one .und) :: .v (.one .und) :: .v (.one .und) :: .v (.one .und) :: .v (.one .und) :: .v (.one .und) :: .v (.one .und) :: .v (.one .und) :: .v (.one .und) :: .v (.one .und) :: .v (.one .und) :: .v (.one .und) :: .v (.one .und) :: .v (.one .und) :: .v (.one .und) :: .v (.one .und) :: .v (.one .und) :: .v (.one .und) :: [], []⟩
def x147_0_0_k0  (y0 : Bool) : St := ⟨.v (.one .und) :: .v (.one .und) :: .v (.one .und) :: .v (.one .und) :: .v (.one (.bool y0)) :: .v (.one .und) :: .v (.one .und) :: .v (.one .und) :: .v (.one .und) :: .v (.one .und) :: .v (.one .und) :: .v (.one .und) :: .v (.one .und) :: .v (.one .und) :: .v (.one .und) :: .v (.one .und) :: .v (.one .und) :: .v (.one .und) :: .v (.one .und) :: .v (.one .und) :: .v (.one .und) :: .v (.one .und) :: .v (.one .und) :: .v (.one .und) :: .v (.one .und) :: .v (.one .und) :: .v (.one .und) :: .v (.one .und) :: .v (.one .und) :: .v (.one .und) :: .v (.one .und) :: .v (.one .und) :: .v (.one .und) :: .v (.one .und) :: .v (.one .und) :: .v (.one .und) :: .v (.one .und) :: .v (.one .und) :: .v (.one .und) :: [], []⟩
def x147_0_0_k1  (y0 : List Int) (y1 : Int) : St := ⟨.v (.one (.sl 3 (.ints .i64 y0))) :: .v (.one (.int .i64 y1)) :: .v (.one .und) :: .v (.one .und) :: .v (.one .und) :: .v (.one .und) :: .v (.one .und) :: .v (.one .und) :: .v (.one .und) :: .v (.one .und) :: .v (.one .und) :: .v (.one .und) :: .v (.one .und) :: .v (.one .und) :: .v (.one .und) :: .v (.one .und) :: .v (.one .und) :: .v (.one .und) :: .v (.one .und) :: .v (.one .und) :: .v (.one .und) :: .v (.one .und) :: .v (.one .und) :: .v (.one .und) :: .v (.one .und) :: .v (.one .und) :: .v (.one .und) :: .v (.one .und) :: .v (.one .und) :: .v (.one .und) :: .v (.one .und) :: .v (.one .und) :: .v (.one .und) :: .v (.one .und) :: .v (.one .und) :: .v (.one .und) :: .v (.one .und) :: .v (.one .und) :: .v (.one .und) :: [], []⟩
def h147_1_0  (v0 : List Int) (v1 : Int) (v2 : Int) (v3 : Int) : St := ⟨.v (.one (.sl 3 (.ints .i64 v0))) :: .v (.one (.int .i64 v1)) :: .v (.one .und) :: .v (.one .und) :: .v (.one .und) :: .v (.one (.int .i64 v2)) :: .v (.one (.int .i64 v3)) :: .v (.one .und) :: .v (.one .und) :: .v (.one .und) :: .v (.one .und) :: .v (.one .und) :: .v (.one .und) :: .v (.one .und) :: .v (.one .und) :: .v (.one .und) :: .v (.one .und) :: .v (.one .und) :: .v (.one .und) :: .v (.one .und) :: .v (.one .und) :: .v (.one .und) :: .v (.one .und) :: .v (.one .und) :: .v (.one .und) :: .v (.one .und) :: .v (.one .und) :: .v (.one .und) :: .v (.one .und) :: .v (.one .und) :: .v (.one .und) :: .v (.one .und) :: .v (.one .und) :: .v (.one .und) :: .v (.one .und) :: .v (.one .und) :: .v (.one .und) :: .v (.one .und) :: .v (.one .und) :: [], []⟩
def x147_1_0_k0  (y0 : Bool) : St := ⟨.v (.one .und) :: .v (.one .und) :: .v (.one .und) :: .v (.one .und) :: .v (.one (.bool y0)) :: .v (.one .und) :: .v (.one .und) :: .v (.one .und) :: .v (.one .und) :: .v (.one .und) :: .v (.one .und) :: .v (.one .und) :: .v (.one .und) :: .v (.one .und) :: .v (.one .und) :: .v (.one .und) :: .v (.one .und) :: .v (.one .und) :: .v (.one .und) :: .v (.one .und) :: .v (.one .und) :: .v (.one .und) :: .v (.one .und) :: .v (.one .und) :: .v (.one .und) :: .v (.one .und) :: .v (.one .und) :: .v (.one .und) :: .v (.one .und) :: .v (.one .und) :: .v (.one .und) :: .v (.one .und) :: .v (.one .und) :: .v (.one .und) :: .v (.one .und) :: .v (.one .und) :: .v (.one .und) :: .v (.one .und) :: .v (.one .und) :: [], []⟩
def x147_1_0_k1  (y0 : List Int) (y1 : Int) (y2 : Int) : St := ⟨.v (.one (.sl 3 (.ints .i64 y0))) :: .v (.one (.int .i64 y1)) :: .v (.one .und) :: .v (.one .und) :: .v (.one .und) :: .v (.one (.int .i64 y2)) :: .v (.one .und) :: .v (.one .und) :: .v (.one .und) :: .v (.one .und) :: .v (.one .und) :: .v (.one .und) :: .v (.one .und) :: .v (.one .und) :: .v (.one .und) :: .v (.one .und) :: .v (.one .und) :: .v (.one .und) :: .v (.one .und) :: .v (.one .und) :: .v (.one .und) :: .v (.one .und) :: .v (.one .und) :: .v (.one .und) :: .v (.one .und) :: .v (.one .und) :: .v (.one .und) :: .v (.one .und) :: .v (.one .und) :: .v (.one .und) :: .v (.one .und) :: .v (.one .und) :: .v (.one .und) :: .v (.one .und) :: .v (.one .und) :: .v (.one .und) :: .v (.one .und) :: .v (.one .und) :: .v (.one .und) :: [], []⟩
theorem fl147_0_0 (s : St) : refSt (h147_0_0 [] 0 0) s = h147_0_0 (rInts (rowV (oneA (vT (nx tund s.tmps 0))))) (intS (oneA (vT (nx tund s.tmps 1)))) (intS (oneA (vT (nx tund s.tmps 5)))) := by kernel_rfl
def VLS147_0 {β : Type} (N : Nat) (q_spec_l3Perm_l0 : Nat → List Int → Int → Int → (Bool → Option β) → (List Int → Int → Option β) → Option β) : LSpec β := fun s K => cond (shpSt (h147_0_0 [] 0 0) s) ((fun (v0 : List Int) (v1 : Int) (v2 : Int) => q_spec_l3Perm_l0  N v0 v1 v2 (fun y0 => K .ret (x147_0_0_k0  y0)) (fun y0 y1 => K (.exit 0) (x147_0_0_k1  y0 y1))) (rInts (rowV (oneA (vT (nx tund s.tmps 0))))) (intS (oneA (vT (nx tund s.tmps 1)))) (intS (oneA (vT (nx tund s.tmps 5))))) (none)
def LS147_0 {β : Type} (N : Nat) : LSpec β := VLS147_0 N (spec_l3Perm_l0 N)
theorem fl147_1_0 (s : St) : refSt (h147_1_0 [] 0 0 0) s = h147_1_0 (rInts (rowV (oneA (vT (nx tund s.tmps 0))))) (intS (oneA (vT (nx tund s.tmps 1)))) (intS (oneA (vT (nx tund s.tmps 5)))) (intS (oneA (vT (nx tund s.tmps 6)))) := by kernel_rfl
def VLS147_2 {β : Type} (N : Nat) (q_spec_l3Perm_l2 : Nat → List Int → Int → Int → Int → (Bool → Option β) → (List Int → Int → Int → Option β) → Option β) : LSpec β := fun s K => cond (shpSt (h147_1_0 [] 0 0 0) s) ((fun (v0 : List Int) (v1 : Int) (v2 : Int) (v3 : Int) => q_spec_l3Perm_l2  N v0 v1 v2 v3 (fun y0 => K .ret (x147_1_0_k0  y0)) (fun y0 y1 y2 => K (.exit 2) (x147_1_0_k1  y0 y1 y2))) (rInts (rowV (oneA (vT (nx tund s.tmps 0))))) (intS (oneA (vT (nx tund s.tmps 1)))) (intS (oneA (vT (nx tund s.tmps 5)))) (intS (oneA (vT (nx tund s.tmps 6))))) (none)
def LS147_2 {β : Type} (N : Nat) : LSpec β := VLS147_2 N (spec_l3Perm_l2 N)
def VE147 {β : Type} (N : Nat) (q_spec_l1In : (a0 : Int) → (a1 : Int) → (a2 : Int) → (k : Bool → Option β) → Option β) (q_spec_l3Perm_l0 : Nat → List Int → Int → Int → (Bool → Option β) → (List Int → Int → Option β) → Option β) (q_spec_l3Perm_l2 : Nat → List Int → Int → Int → Int → (Bool → Option β) → (List Int → Int → Int → Option β) → Option β) : Env β := ⟨[(43, VS43 N q_spec_l1In)], [], [(0, VLS147_0 N q_spec_l3Perm_l0), (2, VLS147_2 N q_spec_l3Perm_l2)], [], ⟨[], [], [145], [149, 152, 199]⟩⟩
def E147 {β : Type} (N : Nat) : Env β := VE147 N (spec_l1In N) (spec_l3Perm_l0 N) (spec_l3Perm_l2 N)
def BV_spec_l3Perm_l0b {β : Type} (N : Nat) (q_spec_l1In : (a0 : Int) → (a1 : Int) → (a2 : Int) → (k : Bool → Option β) → Option β) (q_spec_l3Perm_l2 : Nat → List Int → Int → Int → Int → (Bool → Option β) → (List Int → Int → Int → Option β) → Option β)  (v0 : List Int) (v1 : Int) (v2 : Int) (rec_ : List Int → Int → Int → Option β) (k0 : Bool → Option β) (k1 : List Int → Int → Option β) : Option β :=
(cond ((decide (v2 < (v0.length : Int))))
((gd ((decide (0 ≤ v2)))
((gd ((decide (v2 < (v0.length : Int))))
(q_spec_l1In ((rd 0 v0 v2)) 0 ((w64 (v1 - 1))) fun r3 =>
(cond (!r3)
(k0 false)
(q_spec_l3Perm_l2  N v0 v1 v2 0 (fun e4_0 =>
k0 e4_0) (fun e5_0 e5_1 e5_2 =>
rec_ e5_0 e5_1 ((w64 (e5_2 + 1)))))))))))
(k1 v0 v1))
theorem t_spec_l3Perm_l0b {β : Type} (N : Nat)  (v0 : List Int) (v1 : Int) (v2 : Int) (rec_ : List Int → Int → Int → Option β) (k0 : Bool → Option β) (k1 : List Int → Int → Option β) : spec_l3Perm_l0b N v0 v1 v2 rec_ k0 k1 = BV_spec_l3Perm_l0b N (spec_l1In N) (spec_l3Perm_l2 N) v0 v1 v2 rec_ k0 k1 := by
  unfold spec_l3Perm_l0b BV_spec_l3Perm_l0b
  rfl
theorem vst147_0_0 {β : Type} (N : Nat) (q_spec_l1In : (a0 : Int) → (a1 : Int) → (a2 : Int) → (k : Bool → Option β) → Option β) (q_spec_l3Perm_l0 : Nat → List Int → Int → Int → (Bool → Option β) → (List Int → Int → Option β) → Option β) (q_spec_l3Perm_l2 : Nat → List Int → Int → Int → Int → (Bool → Option β) → (List Int → Int → Int → Option β) → Option β)  (v0 : List Int) (v1 : Int) (v2 : Int) (rec_ : St → Option β) (K : Exit → St → Option β) :
    ev lay (VE147 N q_spec_l1In q_spec_l3Perm_l0 q_spec_l3Perm_l2) (retMask Tryd.f147) (lp Tryd.f147 0).body (lp Tryd.f147 0).ex ((lp Tryd.f147 0).lv (retMask Tryd.f147)) (h147_0_0  v0 v1 v2) (nextR (fun s' => rec_ (s'.tidy ((lp Tryd.f147 0).lv (retMask Tryd.f147)))) K) = BV_spec_l3Perm_l0b N q_spec_l1In q_spec_l3Perm_l2  v0 v1 v2 (fun v0 v1 v2 => rec_ (h147_0_0  v0 v1 v2)) (fun y0 => K .ret (x147_0_0_k0  y0)) (fun y0 y1 => K (.exit 0) (x147_0_0_k1  y0 y1)) := by kernel_rfl
theorem st147_0_0 {β : Type} (N : Nat)  (v0 : List Int) (v1 : Int) (v2 : Int) (rec_ : St → Option β) (K : Exit → St → Option β) :
    ev lay (E147 N) (retMask Tryd.f147) (lp Tryd.f147 0).body (lp Tryd.f147 0).ex ((lp Tryd.f147 0).lv (retMask Tryd.f147)) (h147_0_0  v0 v1 v2) (nextR (fun s' => rec_ (s'.tidy ((lp Tryd.f147 0).lv (retMask Tryd.f147)))) K) = spec_l3Perm_l0b N  v0 v1 v2 (fun v0 v1 v2 => rec_ (h147_0_0  v0 v1 v2)) (fun y0 => K .ret (x147_0_0_k0  y0)) (fun y0 y1 => K (.exit 0) (x147_0_0_k1  y0 y1)) := (vst147_0_0 N (spec_l1In N) (spec_l3Perm_l0 N) (spec_l3Perm_l2 N) v0 v1 v2 rec_ K).trans (t_spec_l3Perm_l0b N  v0 v1 v2 (fun v0 v1 v2 => rec_ (h147_0_0  v0 v1 v2)) (fun y0 => K .ret (x147_0_0_k0  y0)) (fun y0 y1 => K (.exit 0) (x147_0_0_k1  y0 y1))).symm
theorem ro147_0_0 {β : Type} (N : Nat)  (K : Exit → St → Option β) : ∀ (F : Nat) (v0 : List Int) (v1 : Int) (v2 : Int), (lp Tryd.f147 0).rounds lay (E147 N) (retMask Tryd.f147) F (h147_0_0  v0 v1 v2) K = spec_l3Perm_l0 N  F v0 v1 v2 (fun y0 => K .ret (x147_0_0_k0  y0)) (fun y0 y1 => K (.exit 0) (x147_0_0_k1  y0 y1)) := by
  intro F
  induction F with
  | zero => intros; rfl
  | succ F ih =>
    intros
    rw [rounds_next]
    refine (st147_0_0 N  _ _ _ (fun s => (lp Tryd.f147 0).rounds lay (E147 N) (retMask Tryd.f147) F s K) K).trans ?_
    simp only [ih]
    rfl
theorem lk147_0 {β : Type} (N : Nat) : lookL (E147 (β := β) N).loops (lp Tryd.f147 0).id = LS147_0 N := by kernel_rfl
theorem rk147_0 {β : Type} (N : Nat) : RoundsOK lay (E147 (β := β) N) (retMask Tryd.f147) (lp Tryd.f147 0) := by
  intro s K r h
  rw [lk147_0] at h
  unfold LS147_0 VLS147_0 at h
  cases hb : shpSt (h147_0_0 [] 0 0) s with
  | true =>
    rw [hb, cond_true] at h
    exact ⟨N, by rw [← shpSt_ref hb, fl147_0_0 s]; exact (ro147_0_0 N  K N (rInts (rowV (oneA (vT (nx tund s.tmps 0))))) (intS (oneA (vT (nx tund s.tmps 1)))) (intS (oneA (vT (nx tund s.tmps 5))))).trans h⟩
  | false =>
  rw [hb, cond_false] at h
  clear hb
  cases h
def BV_spec_l3Perm_l2b {β : Type} (N : Nat)  (v0 : List Int) (v1 : Int) (v2 : Int) (v3 : Int) (rec_ : List Int → Int → Int → Int → Option β) (k0 : Bool → Option β) (k1 : List Int → Int → Int → Option β) : Option β :=
(cond ((decide (v3 < v2)))
((gd ((decide (0 ≤ v3)))
((gd ((decide (v3 < (v0.length : Int))))
((gd ((decide (0 ≤ v2)))
((gd ((decide (v2 < (v0.length : Int))))
((cond (((rd 0 v0 v3) == (rd 0 v0 v2)))
(k0 false)
(rec_ v0 v1 v2 ((w64 (v3 + 1))))))))))))))
(k1 v0 v1 v2))
theorem t_spec_l3Perm_l2b {β : Type} (N : Nat)  (v0 : List Int) (v1 : Int) (v2 : Int) (v3 : Int) (rec_ : List Int → Int → Int → Int → Option β) (k0 : Bool → Option β) (k1 : List Int → Int → Int → Option β) : spec_l3Perm_l2b N v0 v1 v2 v3 rec_ k0 k1 = BV_spec_l3Perm_l2b N v0 v1 v2 v3 rec_ k0 k1 := by
  unfold spec_l3Perm_l2b BV_spec_l3Perm_l2b
  rfl
theorem vst147_1_0 {β : Type} (N : Nat) (q_spec_l1In : (a0 : Int) → (a1 : Int) → (a2 : Int) → (k : Bool → Option β) → Option β) (q_spec_l3Perm_l0 : Nat → List Int → Int → Int → (Bool → Option β) → (List Int → Int → Option β) → Option β) (q_spec_l3Perm_l2 : Nat → List Int → Int → Int → Int → (Bool → Option β) → (List Int → Int → Int → Option β) → Option β)  (v0 : List Int) (v1 : Int) (v2 : Int) (v3 : Int) (rec_ : St → Option β) (K : Exit → St → Option β) :
    ev lay (VE147 N q_spec_l1In q_spec_l3Perm_l0 q_spec_l3Perm_l2) (retMask Tryd.f147) (lp Tryd.f147 1).body (lp Tryd.f147 1).ex ((lp Tryd.f147 1).lv (retMask Tryd.f147)) (h147_1_0  v0 v1 v2 v3) (nextR (fun s' => rec_ (s'.tidy ((lp Tryd.f147 1).lv (retMask Tryd.f147)))) K) = BV_spec_l3Perm_l2b N  v0 v1 v2 v3 (fun v0 v1 v2 v3 => rec_ (h147_1_0  v0 v1 v2 v3)) (fun y0 => K .ret (x147_1_0_k0  y0)) (fun y0 y1 y2 => K (.exit 2) (x147_1_0_k1  y0 y1 y2)) := by kernel_rfl
theorem st147_1_0 {β : Type} (N : Nat)  (v0 : List Int) (v1 : Int) (v2 : Int) (v3 : Int) (rec_ : St → Option β) (K : Exit → St → Option β) :
    ev lay (E147 N) (retMask Tryd.f147) (lp Tryd.f147 1).body (lp Tryd.f147 1).ex ((lp Tryd.f147 1).lv (retMask Tryd.f147)) (h147_1_0  v0 v1 v2 v3) (nextR (fun s' => rec_ (s'.tidy ((lp Tryd.f147 1).lv (retMask Tryd.f147)))) K) = spec_l3Perm_l2b N  v0 v1 v2 v3 (fun v0 v1 v2 v3 => rec_ (h147_1_0  v0 v1 v2 v3)) (fun y0 => K .ret (x147_1_0_k0  y0)) (fun y0 y1 y2 => K (.exit 2) (x147_1_0_k1  y0 y1 y2)) := (vst147_1_0 N (spec_l1In N) (spec_l3Perm_l0 N) (spec_l3Perm_l2 N) v0 v1 v2 v3 rec_ K).trans (t_spec_l3Perm_l2b N  v0 v1 v2 v3 (fun v0 v1 v2 v3 => rec_ (h147_1_0  v0 v1 v2 v3)) (fun y0 => K .ret (x147_1_0_k0  y0)) (fun y0 y1 y2 => K (.exit 2) (x147_1_0_k1  y0 y1 y2))).symm
theorem ro147_1_0 {β : Type} (N : Nat)  (K : Exit → St → Option β) : ∀ (F : Nat) (v0 : List Int) (v1 : Int) (v2 : Int) (v3 : Int), (lp Tryd.f147 1).rounds lay (E147 N) (retMask Tryd.f147) F (h147_1_0  v0 v1 v2 v3) K = spec_l3Perm_l2 N  F v0 v1 v2 v3 (fun y0 => K .ret (x147_1_0_k0  y0)) (fun y0 y1 y2 => K (.exit 2) (x147_1_0_k1  y0 y1 y2)) := by
  intro F
  induction F with
  | zero => intros; rfl
  | succ F ih =>
    intros
    rw [rounds_next]
    refine (st147_1_0 N  _ _ _ _ (fun s => (lp Tryd.f147 1).rounds lay (E147 N) (retMask Tryd.f147) F s K) K).trans ?_
    simp only [ih]
    rfl
theorem lk147_2 {β : Type} (N : Nat) : lookL (E147 (β := β) N).loops (lp Tryd.f147 1).id = LS147_2 N := by kernel_rfl
theorem rk147_2 {β : Type} (N : Nat) : RoundsOK lay (E147 (β := β) N) (retMask Tryd.f147) (lp Tryd.f147 1) := by
  intro s K r h
  rw [lk147_2] at h
  unfold LS147_2 VLS147_2 at h
  cases hb : shpSt (h147_1_0 [] 0 0 0) s with
  | true =>
    rw [hb, cond_true] at h
    exact ⟨N, by rw [← shpSt_ref hb, fl147_1_0 s]; exact (ro147_1_0 N  K N (rInts (rowV (oneA (vT (nx tund s.tmps 0))))) (intS (oneA (vT (nx tund s.tmps 1)))) (intS (oneA (vT (nx tund s.tmps 5)))) (intS (oneA (vT (nx tund s.tmps 6))))).trans h⟩
  | false =>
  rw [hb, cond_false] at h
  clear hb
  cases h
def BV_spec_l3Perm {β : Type} (N : Nat) (q_spec_l3Perm_l0 : Nat → List Int → Int → Int → (Bool → Option β) → (List Int → Int → Option β) → Option β) (a0 : List Int) (a1 : Int) (k : Bool → Option β) : Option β :=
q_spec_l3Perm_l0  N a0 a1 0 (fun e6_0 =>
k e6_0) (fun e7_0 e7_1 =>
k (((e7_0.length : Int) == e7_1)))
theorem t_spec_l3Perm {β : Type} (N : Nat) (a0 : List Int) (a1 : Int) (k : Bool → Option β) : spec_l3Perm N a0 a1 k = BV_spec_l3Perm N (spec_l3Perm_l0 N) a0 a1 k := by
  unfold spec_l3Perm BV_spec_l3Perm
  rfl
theorem ve147_0 {β : Type} (N : Nat) (q_spec_l1In : (a0 : Int) → (a1 : Int) → (a2 : Int) → (k : Bool → Option β) → Option β) (q_spec_l3Perm_l0 : Nat → List Int → Int → Int → (Bool → Option β) → (List Int → Int → Option β) → Option β) (q_spec_l3Perm_l2 : Nat → List Int → Int → Int → Int → (Bool → Option β) → (List Int → Int → Int → Option β) → Option β)  (a0 : List Int) (a1 : Int) (K : TV → Option β) : evFn lay (VE147 N q_spec_l1In q_spec_l3Perm_l0 q_spec_l3Perm_l2) Tryd.f147 [.v (.one (.sl 3 (.ints .i64 a0))), .v (.one (.int .i64 a1))] K = BV_spec_l3Perm N q_spec_l3Perm_l0 a0 a1 (fun z2 => K (.v (.one (.bool z2)))) := by kernel_rfl
theorem e147_0 {β : Type} (N : Nat)  (a0 : List Int) (a1 : Int) (K : TV → Option β) : evFn lay (E147 N) Tryd.f147 [.v (.one (.sl 3 (.ints .i64 a0))), .v (.one (.int .i64 a1))] K = spec_l3Perm N a0 a1 (fun z2 => K (.v (.one (.bool z2)))) := (ve147_0 N (spec_l1In N) (spec_l3Perm_l0 N) (spec_l3Perm_l2 N) a0 a1 K).trans (t_spec_l3Perm N a0 a1 (fun z2 => K (.v (.one (.bool z2))))).symm
theorem o147 {β : Type} (N : Nat) : SpecOK (β := β) inv Tryd.prog 147 (S147 N) := by
  refine spec_of lay_ok mixed (E := E147 N) (specs_loops (specs_cons (o43 N) specs_nil)) muts_nil gs_nil Tryd.func147 (by kernel_rfl) 2 (by kernel_rfl) ⟨⟨trivial, rk147_0 N⟩, rk147_2 N⟩ fun args K r h => ?_
  unfold S147 VS147 at h
  split at h
  · exact (e147_0 N _ _ _).trans h
  · cases h
def VS164 {β : Type} (N : Nat) (q_spec_l2Full : (a0 : Int) → (k : Int → Option β) → Option β) : Rv.Spec β := fun args K => match args with
  | [.v (.one (.int .i64 a0))] => q_spec_l2Full a0 (fun z1 => K (.v (.one (.int .i64 z1))))
  | _ => none
def S164 {β : Type} (N : Nat) : Rv.Spec β := VS164 N (spec_l2Full N)
def VE164 {β : Type} (N : Nat) : Env β := ⟨[], [], [], [], ⟨[], [], [145], [149, 152, 199]⟩⟩
def E164 {β : Type} (N : Nat) : Env β := VE164 N
def BV_spec_l2Full {β : Type} (N : Nat) (a0 : Int) (k : Int → Option β) : Option β :=
(gd ((decide (0 ≤ a0)))
((gd ((decide (0 ≤ (shlI .u64 1 a0))))
(k ((w64 ((shlI .i64 1 (shlI .u64 1 a0)) - 1)))))))
theorem t_spec_l2Full {β : Type} (N : Nat) (a0 : Int) (k : Int → Option β) : spec_l2Full N a0 k = BV_spec_l2Full N a0 k := by
  unfold spec_l2Full BV_spec_l2Full
  rfl
theorem ve164_0 {β : Type} (N : Nat)  (a0 : Int) (K : TV → Option β) : evFn lay (VE164 N) Tryd.f164 [.v (.one (.int .i64 a0))] K = BV_spec_l2Full N a0 (fun z1 => K (.v (.one (.int .i64 z1)))) := by kernel_rfl
theorem e164_0 {β : Type} (N : Nat)  (a0 : Int) (K : TV → Option β) : evFn lay (E164 N) Tryd.f164 [.v (.one (.int .i64 a0))] K = spec_l2Full N a0 (fun z1 => K (.v (.one (.int .i64 z1)))) := (ve164_0 N a0 K).trans (t_spec_l2Full N a0 (fun z1 => K (.v (.one (.int .i64 z1))))).symm
theorem o164 {β : Type} (N : Nat) : SpecOK (β := β) inv Tryd.prog 164 (S164 N) := by
  refine spec_of lay_ok mixed (E := E164 N) (specs_loops specs_nil) muts_nil gs_nil Tryd.func164 (by kernel_rfl) 0 (by kernel_rfl) trivial fun args K r h => ?_
  unfold S164 VS164 at h
  split at h
  · exact (e164_0 N _ _).trans h
  · cases h
def VS148 {β : Type} (N : Nat) (q_spec_IsConstant : (a0 : Int) → (a1 : Int) → (k : Bool → Option β) → Option β) : Rv.Spec β := fun args K => match args with
  | [.v (.agg [.int .i64 a0, .int .i64 a1])] => q_spec_IsConstant a0 a1 (fun z2 => K (.v (.one (.bool z2))))
  | _ => none
def S148 {β : Type} (N : Nat) : Rv.Spec β := VS148 N (spec_IsConstant N)
def VE148 {β : Type} (N : Nat) (q_spec_IsTable : (a0 : Int) → (a1 : Int) → (k : Bool → Option β) → Option β) (q_spec_l2Full : (a0 : Int) → (k : Int → Option β) → Option β) : Env β := ⟨[(51, VS51 N q_spec_IsTable), (164, VS164 N q_spec_l2Full)], [], [], [], ⟨[], [], [145], [149, 152, 199]⟩⟩
def E148 {β : Type} (N : Nat) : Env β := VE148 N (spec_IsTable N) (spec_l2Full N)
def BV_spec_IsConstant {β : Type} (N : Nat) (q_spec_IsTable : (a0 : Int) → (a1 : Int) → (k : Bool → Option β) → Option β) (q_spec_l2Full : (a0 : Int) → (k : Int → Option β) → Option β) (a0 : Int) (a1 : Int) (k : Bool → Option β) : Option β :=
q_spec_IsTable a0 a1 fun r3 =>
(cond r3
((cond ((a1 == 0))
(k true)
(q_spec_l2Full a0 fun r4 =>
k ((a1 == r4)))))
(k false))
theorem t_spec_IsConstant {β : Type} (N : Nat) (a0 : Int) (a1 : Int) (k : Bool → Option β) : spec_IsConstant N a0 a1 k = BV_spec_IsConstant N (spec_IsTable N) (spec_l2Full N) a0 a1 k := by
  unfold spec_IsConstant BV_spec_IsConstant
  rfl
theorem ve148_0 {β : Type} (N : Nat) (q_spec_IsTable : (a0 : Int) → (a1 : Int) → (k : Bool → Option β) → Option β) (q_spec_l2Full : (a0 : Int) → (k : Int → Option β) → Option β)  (a0 : Int) (a1 : Int) (K : TV → Option β) : evFn lay (VE148 N q_spec_IsTable q_spec_l2Full) Tryd.f148 [.v (.agg [.int .i64 a0, .int .i64 a1])] K = BV_spec_IsConstant N q_spec_IsTable q_spec_l2Full a0 a1 (fun z2 => K (.v (.one (.bool z2)))) := by kernel_rfl
theorem e148_0 {β : Type} (N : Nat)  (a0 : Int) (a1 : Int) (K : TV → Option β) : evFn lay (E148 N) Tryd.f148 [.v (.agg [.int .i64 a0, .int .i64 a1])] K = spec_IsConstant N a0 a1 (fun z2 => K (.v (.one (.bool z2)))) := (ve148_0 N (spec_IsTable N) (spec_l2Full N) a0 a1 K).trans (t_spec_IsConstant N a0 a1 (fun z2 => K (.v (.one (.bool z2))))).symm
theorem o148 {β : Type} (N : Nat) : SpecOK (β := β) inv Tryd.prog 148 (S148 N) := by
  refine spec_of lay_ok mixed (E := E148 N) (specs_loops (specs_cons (o51 N) (specs_cons (o164 N) specs_nil))) muts_nil gs_nil Tryd.func148 (by kernel_rfl) 0 (by kernel_rfl) trivial fun args K r h => ?_
  unfold S148 VS148 at h
  split at h
  · exact (e148_0 N _ _ _).trans h
  · cases h
def VS171 {β : Type} (N : Nat) (q_spec_l3Cube : (a0 : Int) → (a1 : Int) → (a2 : Int) → (a3 : Int) → (k : Int → Option β) → Option β) : Rv.Spec β := fun args K => match args with
  | [.v (.agg [.int .i64 a0, .int .i64 a1]), .v (.one (.int .i64 a2)), .v (.one (.int .i64 a3))] => q_spec_l3Cube a0 a1 a2 a3 (fun z4 => K (.v (.one (.int .i64 z4))))
  | _ => none
def S171 {β : Type} (N : Nat) : Rv.Spec β := VS171 N (spec_l3Cube N)
def h171_0_0  (v0 : Int) (v1 : Int) (v2 : Int) (v3 : Int) (v4 : Int) (v5 : Int) : St := ⟨.v (.one .und) :: .v (.one (.int .i64 v0)) :: .v (.one (.int .i64 v1)) :: .v (.one (.ptr 0 0)) :: .v (.one .und) :: .v (.one .und) :: .v (.one .und) :: .v (.one (.int .i64 v2)) :: .v (.one (.int .i64 v3)) :: .v (.one .und) :: .v (.one .und) :: .v (.one .und) :: .v (.one .und) :: .v (.one .und) :: .v (.one .und) :: .v (.one .und) :: .v (.one .und) :: .v (.one .und) :: .v (.one .und) :: .v (.one .und) :: .v (.one .und) :: .v (.one .und) :: .v (.one .und) :: .v (.one .und) :: .v (.one .und) :: .v (.one .und) :: .v (.one .und) :: .v (.one .und) :: .v (.one .und) :: .v (.one .und) :: .v (.one .und) :: .v (.one .und) :: .v (.one .und) :: .v (.one .und) :: .v (.one .und) :: .v (.one .und) :: [], [.cells 24 [.int .i64 v4, .int .i64 v5]]⟩
def x171_0_0_k0  (y0 : Int) : St := ⟨.v (.one .und) :: .v (.one .und) :: .v (.one .und) :: .v (.one .und) :: .v (.one .und) :: .v (.one .und) :: .v (.one (.int .i64 y0)) :: .v (.one .und) :: .v (.one .und) :: .v (.one .und) :: .v (.one .und) :: .v (.one .und) :: .v (.one .und) :: .v (.one .und) :: .v (.one .und) :: .v (.one .und) :: .v (.one .und) :: .v (.one .und) :: .v (.one .und) :: .v (.one .und) :: .v (.one .und) :: .v (.one .und) :: .v (.one .und) :: .v (.one .und) :: .v (.one .und) :: .v (.one .und) :: .v (.one .und) :: .v (.one .und) :: .v (.one .und) :: .v (.one .und) :: .v (.one .und) :: .v (.one .und) :: .v (.one .und) :: .v (.one .und) :: .v (.one .und) :: .v (.one .und) :: [], []⟩
def x171_0_0_k1  (y0 : Int) : St := ⟨.v (.one .und) :: .v (.one .und) :: .v (.one .und) :: .v (.one .und) :: .v (.one .und) :: .v (.one .und) :: .v (.one .und) :: .v (.one (.int .i64 y0)) :: .v (.one .und) :: .v (.one .und) :: .v (.one .und) :: .v (.one .und) :: .v (.one .und) :: .v (.one .und) :: .v (.one .und) :: .v (.one .und) :: .v (.one .und) :: .v (.one .und) :: .v (.one .und) :: .v (.one .und) :: .v (.one .und) :: .v (.one .und) :: .v (.one .und) :: .v (.one .und) :: .v (.one .und) :: .v (.one .und) :: .v (.one .und) :: .v (.one .und) :: .v (.one .und) :: .v (.one .und) :: .v (.one .und) :: .v (.one .und) :: .v (.one .und) :: .v (.one .und) :: .v (.one .und) :: .v (.one .und) :: [], []⟩
theorem fl171_0_0 (s : St) : refSt (h171_0_0 0 0 0 0 0 0) s = h171_0_0 (intS (oneA (vT (nx tund s.tmps 1)))) (intS (oneA (vT (nx tund s.tmps 2)))) (intS (oneA (vT (nx tund s.tmps 7)))) (intS (oneA (vT (nx tund s.tmps 8)))) (intS (nx .und (cellsB (nx .dead s.blks 0)) 0)) (intS (nx .und (cellsB (nx .dead s.blks 0)) 1)) := by kernel_rfl
def VLS171_0 {β : Type} (N : Nat) (q_spec_l3Cube_l0 : Nat → Int → Int → Int → Int → Int → Int → (Int → Option β) → (Int → Option β) → Option β) : LSpec β := fun s K => cond (shpSt (h171_0_0 0 0 0 0 0 0) s) ((fun (v0 : Int) (v1 : Int) (v2 : Int) (v3 : Int) (v4 : Int) (v5 : Int) => q_spec_l3Cube_l0  N v0 v1 v2 v3 v4 v5 (fun y0 => K .ret (x171_0_0_k0  y0)) (fun y0 => K (.exit 0) (x171_0_0_k1  y0))) (intS (oneA (vT (nx tund s.tmps 1)))) (intS (oneA (vT (nx tund s.tmps 2)))) (intS (oneA (vT (nx tund s.tmps 7)))) (intS (oneA (vT (nx tund s.tmps 8)))) (intS (nx .und (cellsB (nx .dead s.blks 0)) 0)) (intS (nx .und (cellsB (nx .dead s.blks 0)) 1))) (none)
def LS171_0 {β : Type} (N : Nat) : LSpec β := VLS171_0 N (spec_l3Cube_l0 N)
def VE171 {β : Type} (N : Nat) (q_spec_l3Cube_l0 : Nat → Int → Int → Int → Int → Int → Int → (Int → Option β) → (Int → Option β) → Option β) : Env β := ⟨[], [], [(0, VLS171_0 N q_spec_l3Cube_l0)], [], ⟨[], [], [145], [149, 152, 199]⟩⟩
def E171 {β : Type} (N : Nat) : Env β := VE171 N (spec_l3Cube_l0 N)
def BV_spec_l3Cube_l0b {β : Type} (N : Nat)  (v0 : Int) (v1 : Int) (v2 : Int) (v3 : Int) (v4 : Int) (v5 : Int) (rec_ : Int → Int → Int → Int → Int → Int → Option β) (k0 : Int → Option β) (k1 : Int → Option β) : Option β :=
(gd ((decide (0 ≤ v4)))
((cond ((decide (v3 < (shlI .i64 1 v4))))
((cond (((bits .and .i64 v3 v0) != v1))
(rec_ v0 v1 v2 ((w64 (v3 + 1))) v4 v5)
((gd ((decide (0 ≤ v3)))
((cond ((decide (v2 ≥ 0)))
((cond ((v2 != (bits .and .i64 (shrI .i64 v5 v3) 1)))
(k0 2)
(rec_ v0 v1 ((bits .and .i64 (shrI .i64 v5 v3) 1)) ((w64 (v3 + 1))) v4 v5)))
(rec_ v0 v1 ((bits .and .i64 (shrI .i64 v5 v3) 1)) ((w64 (v3 + 1))) v4 v5)))))))
(k1 v2))))
theorem t_spec_l3Cube_l0b {β : Type} (N : Nat)  (v0 : Int) (v1 : Int) (v2 : Int) (v3 : Int) (v4 : Int) (v5 : Int) (rec_ : Int → Int → Int → Int → Int → Int → Option β) (k0 : Int → Option β) (k1 : Int → Option β) : spec_l3Cube_l0b N v0 v1 v2 v3 v4 v5 rec_ k0 k1 = BV_spec_l3Cube_l0b N v0 v1 v2 v3 v4 v5 rec_ k0 k1 := by
  unfold spec_l3Cube_l0b BV_spec_l3Cube_l0b
  rfl
theorem vst171_0_0 {β : Type} (N : Nat) (q_spec_l3Cube_l0 : Nat → Int → Int → Int → Int → Int → Int → (Int → Option β) → (Int → Option β) → Option β)  (v0 : Int) (v1 : Int) (v2 : Int) (v3 : Int) (v4 : Int) (v5 : Int) (rec_ : St → Option β) (K : Exit → St → Option β) :
    ev lay (VE171 N q_spec_l3Cube_l0) (retMask Tryd.f171) (lp Tryd.f171 0).body (lp Tryd.f171 0).ex ((lp Tryd.f171 0).lv (retMask Tryd.f171)) (h171_0_0  v0 v1 v2 v3 v4 v5) (nextR (fun s' => rec_ (s'.tidy ((lp Tryd.f171 0).lv (retMask Tryd.f171)))) K) = BV_spec_l3Cube_l0b N  v0 v1 v2 v3 v4 v5 (fun v0 v1 v2 v3 v4 v5 => rec_ (h171_0_0  v0 v1 v2 v3 v4 v5)) (fun y0 => K .ret (x171_0_0_k0  y0)) (fun y0 => K (.exit 0) (x171_0_0_k1  y0)) := by kernel_rfl
theorem st171_0_0 {β : Type} (N : Nat)  (v0 : Int) (v1 : Int) (v2 : Int) (v3 : Int) (v4 : Int) (v5 : Int) (rec_ : St → Option β) (K : Exit → St → Option β) :
    ev lay (E171 N) (retMask Tryd.f171) (lp Tryd.f171 0).body (lp Tryd.f171 0).ex ((lp Tryd.f171 0).lv (retMask Tryd.f171)) (h171_0_0  v0 v1 v2 v3 v4 v5) (nextR (fun s' => rec_ (s'.tidy ((lp Tryd.f171 0).lv (retMask Tryd.f171)))) K) = spec_l3Cube_l0b N  v0 v1 v2 v3 v4 v5 (fun v0 v1 v2 v3 v4 v5 => rec_ (h171_0_0  v0 v1 v2 v3 v4 v5)) (fun y0 => K .ret (x171_0_0_k0  y0)) (fun y0 => K (.exit 0) (x171_0_0_k1  y0)) := (vst171_0_0 N (spec_l3Cube_l0 N) v0 v1 v2 v3 v4 v5 rec_ K).trans (t_spec_l3Cube_l0b N  v0 v1 v2 v3 v4 v5 (fun v0 v1 v2 v3 v4 v5 => rec_ (h171_0_0  v0 v1 v2 v3 v4 v5)) (fun y0 => K .ret (x171_0_0_k0  y0)) (fun y0 => K (.exit 0) (x171_0_0_k1  y0))).symm
theorem ro171_0_0 {β : Type} (N : Nat)  (K : Exit → St → Option β) : ∀ (F : Nat) (v0 : Int) (v1 : Int) (v2 : Int) (v3 : Int) (v4 : Int) (v5 : Int), (lp Tryd.f171 0).rounds lay (E171 N) (retMask Tryd.f171) F (h171_0_0  v0 v1 v2 v3 v4 v5) K = spec_l3Cube_l0 N  F v0 v1 v2 v3 v4 v5 (fun y0 => K .ret (x171_0_0_k0  y0)) (fun y0 => K (.exit 0) (x171_0_0_k1  y0)) := by
  intro F
  induction F with
  | zero => intros; rfl
  | succ F ih =>
    intros
    rw [rounds_next]
    refine (st171_0_0 N  _ _ _ _ _ _ (fun s => (lp Tryd.f171 0).rounds lay (E171 N) (retMask Tryd.f171) F s K) K).trans ?_
    simp only [ih]
    rfl
theorem lk171_0 {β : Type} (N : Nat) : lookL (E171 (β := β) N).loops (lp Tryd.f171 0).id = LS171_0 N := by kernel_rfl
theorem rk171_0 {β : Type} (N : Nat) : RoundsOK lay (E171 (β := β) N) (retMask Tryd.f171) (lp Tryd.f171 0) := by
  intro s K r h
  rw [lk171_0] at h
  unfold LS171_0 VLS171_0 at h
  cases hb : shpSt (h171_0_0 0 0 0 0 0 0) s with
  | true =>
    rw [hb, cond_true] at h
    exact ⟨N, by rw [← shpSt_ref hb, fl171_0_0 s]; exact (ro171_0_0 N  K N (intS (oneA (vT (nx tund s.tmps 1)))) (intS (oneA (vT (nx tund s.tmps 2)))) (intS (oneA (vT (nx tund s.tmps 7)))) (intS (oneA (vT (nx tund s.tmps 8)))) (intS (nx .und (cellsB (nx .dead s.blks 0)) 0)) (intS (nx .und (cellsB (nx .dead s.blks 0)) 1))).trans h⟩
  | false =>
  rw [hb, cond_false] at h
  clear hb
  cases h
def BV_spec_l3Cube {β : Type} (N : Nat) (q_spec_l3Cube_l0 : Nat → Int → Int → Int → Int → Int → Int → (Int → Option β) → (Int → Option β) → Option β) (a0 : Int) (a1 : Int) (a2 : Int) (a3 : Int) (k : Int → Option β) : Option β :=
q_spec_l3Cube_l0  N a2 a3 (-1) 0 a0 a1 (fun e5_0 =>
k e5_0) (fun e6_0 =>
k e6_0)
theorem t_spec_l3Cube {β : Type} (N : Nat) (a0 : Int) (a1 : Int) (a2 : Int) (a3 : Int) (k : Int → Option β) : spec_l3Cube N a0 a1 a2 a3 k = BV_spec_l3Cube N (spec_l3Cube_l0 N) a0 a1 a2 a3 k := by
  unfold spec_l3Cube BV_spec_l3Cube
  rfl
theorem ve171_0 {β : Type} (N : Nat) (q_spec_l3Cube_l0 : Nat → Int → Int → Int → Int → Int → Int → (Int → Option β) → (Int → Option β) → Option β)  (a0 : Int) (a1 : Int) (a2 : Int) (a3 : Int) (K : TV → Option β) : evFn lay (VE171 N q_spec_l3Cube_l0) Tryd.f171 [.v (.agg [.int .i64 a0, .int .i64 a1]), .v (.one (.int .i64 a2)), .v (.one (.int .i64 a3))] K = BV_spec_l3Cube N q_spec_l3Cube_l0 a0 a1 a2 a3 (fun z4 => K (.v (.one (.int .i64 z4)))) := by kernel_rfl
theorem e171_0 {β : Type} (N : Nat)  (a0 : Int) (a1 : Int) (a2 : Int) (a3 : Int) (K : TV → Option β) : evFn lay (E171 N) Tryd.f171 [.v (.agg [.int .i64 a0, .int .i64 a1]), .v (.one (.int .i64 a2)), .v (.one (.int .i64 a3))] K = spec_l3Cube N a0 a1 a2 a3 (fun z4 => K (.v (.one (.int .i64 z4)))) := (ve171_0 N (spec_l3Cube_l0 N) a0 a1 a2 a3 K).trans (t_spec_l3Cube N a0 a1 a2 a3 (fun z4 => K (.v (.one (.int .i64 z4))))).symm
theorem o171 {β : Type} (N : Nat) : SpecOK (β := β) inv Tryd.prog 171 (S171 N) := by
  refine spec_of lay_ok mixed (E := E171 N) (specs_loops specs_nil) muts_nil gs_nil Tryd.func171 (by kernel_rfl) 1 (by kernel_rfl) ⟨trivial, rk171_0 N⟩ fun args K r h => ?_
  unfold S171 VS171 at h
  split at h
  · exact (e171_0 N _ _ _ _ _).trans h
  · cases h
def VS198 {β : Type} (N : Nat) (q_spec_l19Word : (a0 : Int) → (a1 : Int) → (a2 : Int) → (a3 : Int) → (k : Int → Option β) → Option β) : Rv.Spec β := fun args K => match args with
  | [.v (.agg [.int .i64 a0, .int .i64 a1]), .v (.one (.int .i64 a2)), .v (.one (.int .i64 a3))] => q_spec_l19Word a0 a1 a2 a3 (fun z4 => K (.v (.one (.int .i64 z4))))
  | _ => none
def S198 {β : Type} (N : Nat) : Rv.Spec β := VS198 N (spec_l19Word N)
def h198_0_0  (v0 : Int) (v1 : Int) (v2 : Int) (v3 : Int) (v4 : Int) (v5 : Int) : St := ⟨.v (.one .und) :: .v (.one (.int .i64 v0)) :: .v (.one (.int .i64 v1)) :: .v (.one (.ptr 0 0)) :: .v (.one .und) :: .v (.one .und) :: .v (.one .und) :: .v (.one (.int .i64 v2)) :: .v (.one (.int .i64 v3)) :: .v (.one .und) :: .v (.one .und) :: .v (.one .und) :: .v (.one .und) :: .v (.one .und) :: .v (.one .und) :: .v (.one .und) :: .v (.one .und) :: .v (.one .und) :: .v (.one .und) :: .v (.one .und) :: .v (.one .und) :: .v (.one .und) :: .v (.one .und) :: .v (.one .und) :: .v (.one .und) :: .v (.one .und) :: .v (.one .und) :: .v (.one .und) :: .v (.one .und) :: .v (.one .und) :: .v (.one .und) :: .v (.one .und) :: .v (.one .und) :: .v (.one .und) :: [], [.cells 24 [.int .i64 v4, .int .i64 v5]]⟩
def x198_0_0_k0  (y0 : Int) : St := ⟨.v (.one .und) :: .v (.one .und) :: .v (.one .und) :: .v (.one .und) :: .v (.one .und) :: .v (.one .und) :: .v (.one .und) :: .v (.one (.int .i64 y0)) :: .v (.one .und) :: .v (.one .und) :: .v (.one .und) :: .v (.one .und) :: .v (.one .und) :: .v (.one .und) :: .v (.one .und) :: .v (.one .und) :: .v (.one .und) :: .v (.one .und) :: .v (.one .und) :: .v (.one .und) :: .v (.one .und) :: .v (.one .und) :: .v (.one .und) :: .v (.one .und) :: .v (.one .und) :: .v (.one .und) :: .v (.one .und) :: .v (.one .und) :: .v (.one .und) :: .v (.one .und) :: .v (.one .und) :: .v (.one .und) :: .v (.one .und) :: .v (.one .und) :: [], []⟩
theorem fl198_0_0 (s : St) : refSt (h198_0_0 0 0 0 0 0 0) s = h198_0_0 (intS (oneA (vT (nx tund s.tmps 1)))) (intS (oneA (vT (nx tund s.tmps 2)))) (intS (oneA (vT (nx tund s.tmps 7)))) (intS (oneA (vT (nx tund s.tmps 8)))) (intS (nx .und (cellsB (nx .dead s.blks 0)) 0)) (intS (nx .und (cellsB (nx .dead s.blks 0)) 1)) := by kernel_rfl
def VLS198_0 {β : Type} (N : Nat) (q_spec_l19Word_l0 : Nat → Int → Int → Int → Int → Int → Int → (Int → Option β) → Option β) : LSpec β := fun s K => cond (shpSt (h198_0_0 0 0 0 0 0 0) s) ((fun (v0 : Int) (v1 : Int) (v2 : Int) (v3 : Int) (v4 : Int) (v5 : Int) => q_spec_l19Word_l0  N v0 v1 v2 v3 v4 v5 (fun y0 => K (.exit 0) (x198_0_0_k0  y0))) (intS (oneA (vT (nx tund s.tmps 1)))) (intS (oneA (vT (nx tund s.tmps 2)))) (intS (oneA (vT (nx tund s.tmps 7)))) (intS (oneA (vT (nx tund s.tmps 8)))) (intS (nx .und (cellsB (nx .dead s.blks 0)) 0)) (intS (nx .und (cellsB (nx .dead s.blks 0)) 1))) (none)
def LS198_0 {β : Type} (N : Nat) : LSpec β := VLS198_0 N (spec_l19Word_l0 N)
def VE198 {β : Type} (N : Nat) (q_spec_l19Word_l0 : Nat → Int → Int → Int → Int → Int → Int → (Int → Option β) → Option β) : Env β := ⟨[], [], [(0, VLS198_0 N q_spec_l19Word_l0)], [], ⟨[], [], [145], [149, 152, 199]⟩⟩
def E198 {β : Type} (N : Nat) : Env β := VE198 N (spec_l19Word_l0 N)
def BV_spec_l19Word_l0b {β : Type} (N : Nat)  (v0 : Int) (v1 : Int) (v2 : Int) (v3 : Int) (v4 : Int) (v5 : Int) (rec_ : Int → Int → Int → Int → Int → Int → Option β) (k0 : Int → Option β) : Option β :=
(gd ((decide (0 ≤ v4)))
((cond ((decide (v3 < (shlI .i64 1 v4))))
((gd ((decide (0 ≤ (w64 ((w64 (v3 - (bits .and .i64 v3 v0))) + v1)))))
((gd ((decide (0 ≤ v3)))
(rec_ v0 v1 ((bits .or .i64 v2 (shlI .i64 (bits .and .i64 (shrI .i64 v5 (w64 ((w64 (v3 - (bits .and .i64 v3 v0))) + v1))) 1) v3))) ((w64 (v3 + 1))) v4 v5)))))
(k0 v2))))
theorem t_spec_l19Word_l0b {β : Type} (N : Nat)  (v0 : Int) (v1 : Int) (v2 : Int) (v3 : Int) (v4 : Int) (v5 : Int) (rec_ : Int → Int → Int → Int → Int → Int → Option β) (k0 : Int → Option β) : spec_l19Word_l0b N v0 v1 v2 v3 v4 v5 rec_ k0 = BV_spec_l19Word_l0b N v0 v1 v2 v3 v4 v5 rec_ k0 := by
  unfold spec_l19Word_l0b BV_spec_l19Word_l0b
  rfl
theorem vst198_0_0 {β : Type} (N : Nat) (q_spec_l19Word_l0 : Nat → Int → Int → Int → Int → Int → Int → (Int → Option β) → Option β)  (v0 : Int) (v1 : Int) (v2 : Int) (v3 : Int) (v4 : Int) (v5 : Int) (rec_ : St → Option β) (K : Exit → St → Option β) :
    ev lay (VE198 N q_spec_l19Word_l0) (retMask Tryd.f198) (lp Tryd.f198 0).body (lp Tryd.f198 0).ex ((lp Tryd.f198 0).lv (retMask Tryd.f198)) (h198_0_0  v0 v1 v2 v3 v4 v5) (nextR (fun s' => rec_ (s'.tidy ((lp Tryd.f198 0).lv (retMask Tryd.f198)))) K) = BV_spec_l19Word_l0b N  v0 v1 v2 v3 v4 v5 (fun v0 v1 v2 v3 v4 v5 => rec_ (h198_0_0  v0 v1 v2 v3 v4 v5)) (fun y0 => K (.exit 0) (x198_0_0_k0  y0)) := by kernel_rfl
theorem st198_0_0 {β : Type} (N : Nat)  (v0 : Int) (v1 : Int) (v2 : Int) (v3 : Int) (v4 : Int) (v5 : Int) (rec_ : St → Option β) (K : Exit → St → Option β) :
    ev lay (E198 N) (retMask Tryd.f198) (lp Tryd.f198 0).body (lp Tryd.f198 0).ex ((lp Tryd.f198 0).lv (retMask Tryd.f198)) (h198_0_0  v0 v1 v2 v3 v4 v5) (nextR (fun s' => rec_ (s'.tidy ((lp Tryd.f198 0).lv (retMask Tryd.f198)))) K) = spec_l19Word_l0b N  v0 v1 v2 v3 v4 v5 (fun v0 v1 v2 v3 v4 v5 => rec_ (h198_0_0  v0 v1 v2 v3 v4 v5)) (fun y0 => K (.exit 0) (x198_0_0_k0  y0)) := (vst198_0_0 N (spec_l19Word_l0 N) v0 v1 v2 v3 v4 v5 rec_ K).trans (t_spec_l19Word_l0b N  v0 v1 v2 v3 v4 v5 (fun v0 v1 v2 v3 v4 v5 => rec_ (h198_0_0  v0 v1 v2 v3 v4 v5)) (fun y0 => K (.exit 0) (x198_0_0_k0  y0))).symm
theorem ro198_0_0 {β : Type} (N : Nat)  (K : Exit → St → Option β) : ∀ (F : Nat) (v0 : Int) (v1 : Int) (v2 : Int) (v3 : Int) (v4 : Int) (v5 : Int), (lp Tryd.f198 0).rounds lay (E198 N) (retMask Tryd.f198) F (h198_0_0  v0 v1 v2 v3 v4 v5) K = spec_l19Word_l0 N  F v0 v1 v2 v3 v4 v5 (fun y0 => K (.exit 0) (x198_0_0_k0  y0)) := by
  intro F
  induction F with
  | zero => intros; rfl
  | succ F ih =>
    intros
    rw [rounds_next]
    refine (st198_0_0 N  _ _ _ _ _ _ (fun s => (lp Tryd.f198 0).rounds lay (E198 N) (retMask Tryd.f198) F s K) K).trans ?_
    simp only [ih]
    rfl
theorem lk198_0 {β : Type} (N : Nat) : lookL (E198 (β := β) N).loops (lp Tryd.f198 0).id = LS198_0 N := by kernel_rfl
theorem rk198_0 {β : Type} (N : Nat) : RoundsOK lay (E198 (β := β) N) (retMask Tryd.f198) (lp Tryd.f198 0) := by
  intro s K r h
  rw [lk198_0] at h
  unfold LS198_0 VLS198_0 at h
  cases hb : shpSt (h198_0_0 0 0 0 0 0 0) s with
  | true =>
    rw [hb, cond_true] at h
    exact ⟨N, by rw [← shpSt_ref hb, fl198_0_0 s]; exact (ro198_0_0 N  K N (intS (oneA (vT (nx tund s.tmps 1)))) (intS (oneA (vT (nx tund s.tmps 2)))) (intS (oneA (vT (nx tund s.tmps 7)))) (intS (oneA (vT (nx tund s.tmps 8)))) (intS (nx .und (cellsB (nx .dead s.blks 0)) 0)) (intS (nx .und (cellsB (nx .dead s.blks 0)) 1))).trans h⟩
  | false =>
  rw [hb, cond_false] at h
  clear hb
  cases h
def BV_spec_l19Word {β : Type} (N : Nat) (q_spec_l19Word_l0 : Nat → Int → Int → Int → Int → Int → Int → (Int → Option β) → Option β) (a0 : Int) (a1 : Int) (a2 : Int) (a3 : Int) (k : Int → Option β) : Option β :=
q_spec_l19Word_l0  N a2 a3 0 0 a0 a1 (fun e5_0 =>
k e5_0)
theorem t_spec_l19Word {β : Type} (N : Nat) (a0 : Int) (a1 : Int) (a2 : Int) (a3 : Int) (k : Int → Option β) : spec_l19Word N a0 a1 a2 a3 k = BV_spec_l19Word N (spec_l19Word_l0 N) a0 a1 a2 a3 k := by
  unfold spec_l19Word BV_spec_l19Word
  rfl
theorem ve198_0 {β : Type} (N : Nat) (q_spec_l19Word_l0 : Nat → Int → Int → Int → Int → Int → Int → (Int → Option β) → Option β)  (a0 : Int) (a1 : Int) (a2 : Int) (a3 : Int) (K : TV → Option β) : evFn lay (VE198 N q_spec_l19Word_l0) Tryd.f198 [.v (.agg [.int .i64 a0, .int .i64 a1]), .v (.one (.int .i64 a2)), .v (.one (.int .i64 a3))] K = BV_spec_l19Word N q_spec_l19Word_l0 a0 a1 a2 a3 (fun z4 => K (.v (.one (.int .i64 z4)))) := by kernel_rfl
theorem e198_0 {β : Type} (N : Nat)  (a0 : Int) (a1 : Int) (a2 : Int) (a3 : Int) (K : TV → Option β) : evFn lay (E198 N) Tryd.f198 [.v (.agg [.int .i64 a0, .int .i64 a1]), .v (.one (.int .i64 a2)), .v (.one (.int .i64 a3))] K = spec_l19Word N a0 a1 a2 a3 (fun z4 => K (.v (.one (.int .i64 z4)))) := (ve198_0 N (spec_l19Word_l0 N) a0 a1 a2 a3 K).trans (t_spec_l19Word N a0 a1 a2 a3 (fun z4 => K (.v (.one (.int .i64 z4))))).symm
theorem o198 {β : Type} (N : Nat) : SpecOK (β := β) inv Tryd.prog 198 (S198 N) := by
  refine spec_of lay_ok mixed (E := E198 N) (specs_loops specs_nil) muts_nil gs_nil Tryd.func198 (by kernel_rfl) 1 (by kernel_rfl) ⟨trivial, rk198_0 N⟩ fun args K r h => ?_
  unfold S198 VS198 at h
  split at h
  · exact (e198_0 N _ _ _ _ _).trans h
  · cases h
end Go.Proofs.YtfdggelojmofmaaDoor
