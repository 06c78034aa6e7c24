/- The functions that the claims reach answer as their texts do. -/
import Derived.Test.YtfdggelojmofmaaDoorT0
import Derived.Test.YtfdggelojmofmaaDoorProg
import Derived.KernelRfl
import Derived.Test.YtfdggelojmofmaaDoorShelf
namespace Go.Proofs.YtfdggelojmofmaaDoor
open Go.Rv
set_option maxRecDepth 100000
set_option maxHeartbeats 2000000
set_option linter.unusedVariables false
def lay : Lay := [(2, .int .i64),
  (3, .int .i64),
  (4, .bool),
  (5, .int .u8),
  (9, .string),
  (12, .int .u64),
  (21, .int .i32),
  (22, .struct [⟨0, 1, false⟩, ⟨1, 1, false⟩] [3, 3] 16 true),
  (23, .struct [⟨0, 1, false⟩, ⟨1, 1, false⟩] [3, 3] 16 true),
  (24, .struct [⟨0, 1, false⟩, ⟨1, 1, false⟩] [3, 3] 16 true),
  (25, .slice 3),
  (26, .struct [⟨0, 1, false⟩, ⟨1, 2, true⟩, ⟨3, 1, false⟩, ⟨4, 1, false⟩, ⟨5, 1, false⟩, ⟨6, 1, false⟩] [3, 3, 3, 3, 3, 9, 25] 80 false),
  (27, .struct [⟨0, 1, false⟩, ⟨1, 2, true⟩, ⟨3, 1, false⟩, ⟨4, 1, false⟩, ⟨5, 1, false⟩, ⟨6, 1, false⟩] [3, 3, 3, 3, 3, 9, 25] 80 false),
  (34, .slice 52),
  (51, .struct [⟨0, 1, false⟩, ⟨1, 1, false⟩] [3, 3] 16 true),
  (52, .struct [⟨0, 1, false⟩, ⟨1, 1, false⟩] [3, 3] 16 true),
  (57, .slice 9),
  (64, .struct [⟨0, 1, false⟩] [57] 24 false),
  (65, .struct [⟨0, 1, false⟩] [57] 24 false),
  (73, .slice 120),
  (90, .pointer 156),
  (93, .struct [⟨0, 1, false⟩, ⟨1, 1, false⟩] [3, 3] 16 true),
  (94, .struct [⟨0, 1, false⟩, ⟨1, 1, false⟩] [3, 3] 16 true),
  (95, .pointer 162),
  (103, .int .u64),
  (105, .slice 5),
  (106, .pointer 65),
  (113, .slice 25),
  (119, .struct [⟨0, 1, false⟩, ⟨1, 1, false⟩, ⟨2, 1, false⟩] [3, 3, 3] 24 true),
  (120, .struct [⟨0, 1, false⟩, ⟨1, 1, false⟩, ⟨2, 1, false⟩] [3, 3, 3] 24 true),
  (122, .pointer 125),
  (123, .map 24 3),
  (124, .struct [⟨0, 1, false⟩, ⟨1, 1, false⟩, ⟨2, 1, false⟩] [25, 73, 123] 56 false),
  (125, .struct [⟨0, 1, false⟩, ⟨1, 1, false⟩, ⟨2, 1, false⟩] [25, 73, 123] 56 false),
  (129, .pointer 131),
  (130, .struct [⟨0, 2, true⟩, ⟨2, 1, false⟩, ⟨3, 1, false⟩, ⟨4, 1, false⟩] [3, 3, 3, 3, 25] 56 false),
  (131, .struct [⟨0, 2, true⟩, ⟨2, 1, false⟩, ⟨3, 1, false⟩, ⟨4, 1, false⟩] [3, 3, 3, 3, 25] 56 false),
  (134, .map 3 3),
  (136, .int .u64),
  (138, .map 3 4),
  (139, .pointer 187),
  (140, .struct [⟨0, 1, false⟩, ⟨1, 1, false⟩] [3, 3] 16 true),
  (141, .struct [⟨0, 1, false⟩, ⟨1, 1, false⟩] [3, 3] 16 true),
  (154, .map 94 3),
  (155, .struct [⟨0, 2, true⟩, ⟨2, 1, false⟩, ⟨3, 1, false⟩] [3, 3, 154, 154] 32 false),
  (156, .struct [⟨0, 2, true⟩, ⟨2, 1, false⟩, ⟨3, 1, false⟩] [3, 3, 154, 154] 32 false),
  (161, .struct [⟨0, 1, false⟩, ⟨1, 1, false⟩, ⟨2, 1, false⟩] [5, 95, 95] 24 false),
  (162, .struct [⟨0, 1, false⟩, ⟨1, 1, false⟩, ⟨2, 1, false⟩] [5, 95, 95] 24 false),
  (167, .pointer 169),
  (168, .struct [⟨0, 1, false⟩, ⟨1, 1, false⟩] [167, 105] 32 false),
  (169, .struct [⟨0, 1, false⟩, ⟨1, 1, false⟩] [167, 105] 32 false),
  (179, .slice 4),
  (185, .map 141 3),
  (186, .struct [⟨0, 2, true⟩, ⟨2, 1, false⟩, ⟨3, 1, false⟩] [3, 3, 3, 185] 32 false),
  (187, .struct [⟨0, 2, true⟩, ⟨2, 1, false⟩, ⟨3, 1, false⟩] [3, 3, 3, 185] 32 false),
  (192, .array 2 4),
  (197, .pointer 5),
  (199, .int .u32),
  (212, .struct [⟨0, 1, false⟩, ⟨1, 1, false⟩] [5, 5] 2 true),
  (213, .struct [⟨0, 1, false⟩, ⟨1, 1, false⟩] [5, 5] 2 true)]

theorem lay_ok : LayOK Tryd.prog lay := layOK_of (by decide +kernel)
theorem mixed : Tryd.prog.follows .mixedOrders = true := by kernel_rfl
def inv : World → Prop := tabInv Tryd.prog
def S126 {β : Type} (N : Nat) : Rv.Spec β := joinSpec N
theorem o126 {β : Type} (N : Nat) : SpecOK (β := β) inv Tryd.prog 126 (S126 N) := join_ok Tryd.func126 (by kernel_rfl) Tryd.strings_Join_none Tryd.strings_Join N
def S130 {β : Type} (N : Nat) : Rv.Spec β := itoaSpec N
theorem o130 {β : Type} (N : Nat) : SpecOK (β := β) inv Tryd.prog 130 (S130 N) := itoa_ok Tryd.func130 (by kernel_rfl) Tryd.strconv_Itoa N
def VS11 {β : Type} (N : Nat) (q_laws_toTable : (a0 : Int) → (a1 : Int) → (k : Int → Int → Option β) → Option β) : Rv.Spec β := fun args K => match args with
  | [.v (.agg [.int .i64 a0, .int .i64 a1])] => q_laws_toTable a0 a1 (fun z2 z3 => K (.v (.agg [.int .i64 z2, .int .i64 z3])))
  | _ => none
def S11 {β : Type} (N : Nat) : Rv.Spec β := VS11 N (laws_toTable N)
def VE11 {β : Type} (N : Nat) : Env β := ⟨[], [], [], [], ⟨[], [], []⟩⟩
def E11 {β : Type} (N : Nat) : Env β := VE11 N
def BV_laws_toTable {β : Type} (N : Nat) (a0 : Int) (a1 : Int) (k : Int → Int → Option β) : Option β :=
k a0 a1
theorem t_laws_toTable {β : Type} (N : Nat) (a0 : Int) (a1 : Int) (k : Int → Int → Option β) : laws_toTable N a0 a1 k = BV_laws_toTable N a0 a1 k := by
  unfold laws_toTable BV_laws_toTable
  rfl
theorem ve11_0 {β : Type} (N : Nat)  (a0 : Int) (a1 : Int) (K : TV → Option β) : evFn lay (VE11 N) Tryd.f11 [.v (.agg [.int .i64 a0, .int .i64 a1])] K = BV_laws_toTable N a0 a1 (fun z2 z3 => K (.v (.agg [.int .i64 z2, .int .i64 z3]))) := by kernel_rfl
theorem e11_0 {β : Type} (N : Nat)  (a0 : Int) (a1 : Int) (K : TV → Option β) : evFn lay (E11 N) Tryd.f11 [.v (.agg [.int .i64 a0, .int .i64 a1])] K = laws_toTable N a0 a1 (fun z2 z3 => K (.v (.agg [.int .i64 z2, .int .i64 z3]))) := (ve11_0 N a0 a1 K).trans (t_laws_toTable N a0 a1 (fun z2 z3 => K (.v (.agg [.int .i64 z2, .int .i64 z3])))).symm
theorem o11 {β : Type} (N : Nat) : SpecOK (β := β) inv Tryd.prog 11 (S11 N) := by
  refine spec_of lay_ok mixed (E := E11 N) (specs_loops specs_nil) muts_nil gs_nil Tryd.func11 (by kernel_rfl) 0 (by kernel_rfl) trivial fun args K r h => ?_
  unfold S11 VS11 at h
  split at h
  · exact (e11_0 N _ _ _).trans h
  · cases h
def VS43 {β : Type} (N : Nat) (q_spec_l1In : (a0 : Int) → (a1 : Int) → (a2 : Int) → (k : Bool → Option β) → Option β) : Rv.Spec β := fun args K => match args with
  | [.v (.one (.int .i64 a0)), .v (.one (.int .i64 a1)), .v (.one (.int .i64 a2))] => q_spec_l1In a0 a1 a2 (fun z3 => K (.v (.one (.bool z3))))
  | _ => none
def S43 {β : Type} (N : Nat) : Rv.Spec β := VS43 N (spec_l1In N)
def VE43 {β : Type} (N : Nat) : Env β := ⟨[], [], [], [], ⟨[], [], []⟩⟩
def E43 {β : Type} (N : Nat) : Env β := VE43 N
def BV_spec_l1In {β : Type} (N : Nat) (a0 : Int) (a1 : Int) (a2 : Int) (k : Bool → Option β) : Option β :=
(cond ((decide (a0 ≥ a1)))
(k ((decide (a0 ≤ a2))))
(k false))
theorem t_spec_l1In {β : Type} (N : Nat) (a0 : Int) (a1 : Int) (a2 : Int) (k : Bool → Option β) : spec_l1In N a0 a1 a2 k = BV_spec_l1In N a0 a1 a2 k := by
  unfold spec_l1In BV_spec_l1In
  rfl
theorem ve43_0 {β : Type} (N : Nat)  (a0 : Int) (a1 : Int) (a2 : Int) (K : TV → Option β) : evFn lay (VE43 N) Tryd.f43 [.v (.one (.int .i64 a0)), .v (.one (.int .i64 a1)), .v (.one (.int .i64 a2))] K = BV_spec_l1In N a0 a1 a2 (fun z3 => K (.v (.one (.bool z3)))) := by kernel_rfl
theorem e43_0 {β : Type} (N : Nat)  (a0 : Int) (a1 : Int) (a2 : Int) (K : TV → Option β) : evFn lay (E43 N) Tryd.f43 [.v (.one (.int .i64 a0)), .v (.one (.int .i64 a1)), .v (.one (.int .i64 a2))] K = spec_l1In N a0 a1 a2 (fun z3 => K (.v (.one (.bool z3)))) := (ve43_0 N a0 a1 a2 K).trans (t_spec_l1In N a0 a1 a2 (fun z3 => K (.v (.one (.bool z3))))).symm
theorem o43 {β : Type} (N : Nat) : SpecOK (β := β) inv Tryd.prog 43 (S43 N) := by
  refine spec_of lay_ok mixed (E := E43 N) (specs_loops specs_nil) muts_nil gs_nil Tryd.func43 (by kernel_rfl) 0 (by kernel_rfl) trivial fun args K r h => ?_
  unfold S43 VS43 at h
  split at h
  · exact (e43_0 N _ _ _ _).trans h
  · cases h
def VS51 {β : Type} (N : Nat) (q_spec_IsTable : (a0 : Int) → (a1 : Int) → (k : Bool → Option β) → Option β) : Rv.Spec β := fun args K => match args with
  | [.v (.agg [.int .i64 a0, .int .i64 a1])] => q_spec_IsTable a0 a1 (fun z2 => K (.v (.one (.bool z2))))
  | _ => none
def S51 {β : Type} (N : Nat) : Rv.Spec β := VS51 N (spec_IsTable N)
def VE51 {β : Type} (N : Nat) (q_spec_l1In : (a0 : Int) → (a1 : Int) → (a2 : Int) → (k : Bool → Option β) → Option β) : Env β := ⟨[(43, VS43 N q_spec_l1In)], [], [], [], ⟨[], [], []⟩⟩
def E51 {β : Type} (N : Nat) : Env β := VE51 N (spec_l1In N)
def BV_spec_IsTable {β : Type} (N : Nat) (q_spec_l1In : (a0 : Int) → (a1 : Int) → (a2 : Int) → (k : Bool → Option β) → Option β) (a0 : Int) (a1 : Int) (k : Bool → Option β) : Option β :=
q_spec_l1In a0 0 5 fun r3 =>
(cond r3
((gd ((decide (0 ≤ a0)))
((gd ((decide (0 ≤ (shlI .u64 1 a0))))
(q_spec_l1In a1 0 ((w64 ((shlI .i64 1 (shlI .u64 1 a0)) - 1))) fun r4 =>
k r4)))))
(k false))
theorem t_spec_IsTable {β : Type} (N : Nat) (a0 : Int) (a1 : Int) (k : Bool → Option β) : spec_IsTable N a0 a1 k = BV_spec_IsTable N (spec_l1In N) a0 a1 k := by
  unfold spec_IsTable BV_spec_IsTable
  rfl
theorem ve51_0 {β : Type} (N : Nat) (q_spec_l1In : (a0 : Int) → (a1 : Int) → (a2 : Int) → (k : Bool → Option β) → Option β)  (a0 : Int) (a1 : Int) (K : TV → Option β) : evFn lay (VE51 N q_spec_l1In) Tryd.f51 [.v (.agg [.int .i64 a0, .int .i64 a1])] K = BV_spec_IsTable N q_spec_l1In a0 a1 (fun z2 => K (.v (.one (.bool z2)))) := by kernel_rfl
theorem e51_0 {β : Type} (N : Nat)  (a0 : Int) (a1 : Int) (K : TV → Option β) : evFn lay (E51 N) Tryd.f51 [.v (.agg [.int .i64 a0, .int .i64 a1])] K = spec_IsTable N a0 a1 (fun z2 => K (.v (.one (.bool z2)))) := (ve51_0 N (spec_l1In N) a0 a1 K).trans (t_spec_IsTable N a0 a1 (fun z2 => K (.v (.one (.bool z2))))).symm
theorem o51 {β : Type} (N : Nat) : SpecOK (β := β) inv Tryd.prog 51 (S51 N) := by
  refine spec_of lay_ok mixed (E := E51 N) (specs_loops (specs_cons (o43 N) specs_nil)) muts_nil gs_nil Tryd.func51 (by kernel_rfl) 0 (by kernel_rfl) trivial fun args K r h => ?_
  unfold S51 VS51 at h
  split at h
  · exact (e51_0 N _ _ _).trans h
  · cases h
def VS225 {β : Type} (N : Nat) (q_spec_l3Insert : (a0 : Int) → (a1 : Int) → (a2 : Int) → (k : Int → Option β) → Option β) : Rv.Spec β := fun args K => match args with
  | [.v (.one (.int .i64 a0)), .v (.one (.int .i64 a1)), .v (.one (.int .i64 a2))] => q_spec_l3Insert a0 a1 a2 (fun z3 => K (.v (.one (.int .i64 z3))))
  | _ => none
def S225 {β : Type} (N : Nat) : Rv.Spec β := VS225 N (spec_l3Insert N)
def VE225 {β : Type} (N : Nat) : Env β := ⟨[], [], [], [], ⟨[], [], []⟩⟩
def E225 {β : Type} (N : Nat) : Env β := VE225 N
def BV_spec_l3Insert {β : Type} (N : Nat) (a0 : Int) (a1 : Int) (a2 : Int) (k : Int → Option β) : Option β :=
(gd ((decide (0 ≤ a1)))
((gd ((decide (0 ≤ a1)))
((gd ((decide (0 ≤ (w64 (a1 + 1)))))
((gd ((decide (0 ≤ a1)))
(k ((bits .or .i64 (bits .or .i64 (shlI .i64 (shrI .i64 a0 a1) (w64 (a1 + 1))) (shlI .i64 a2 a1)) (bits .and .i64 a0 (w64 ((shlI .i64 1 a1) - 1)))))))))))))
theorem t_spec_l3Insert {β : Type} (N : Nat) (a0 : Int) (a1 : Int) (a2 : Int) (k : Int → Option β) : spec_l3Insert N a0 a1 a2 k = BV_spec_l3Insert N a0 a1 a2 k := by
  unfold spec_l3Insert BV_spec_l3Insert
  rfl
theorem ve225_0 {β : Type} (N : Nat)  (a0 : Int) (a1 : Int) (a2 : Int) (K : TV → Option β) : evFn lay (VE225 N) Tryd.f225 [.v (.one (.int .i64 a0)), .v (.one (.int .i64 a1)), .v (.one (.int .i64 a2))] K = BV_spec_l3Insert N a0 a1 a2 (fun z3 => K (.v (.one (.int .i64 z3)))) := by kernel_rfl
theorem e225_0 {β : Type} (N : Nat)  (a0 : Int) (a1 : Int) (a2 : Int) (K : TV → Option β) : evFn lay (E225 N) Tryd.f225 [.v (.one (.int .i64 a0)), .v (.one (.int .i64 a1)), .v (.one (.int .i64 a2))] K = spec_l3Insert N a0 a1 a2 (fun z3 => K (.v (.one (.int .i64 z3)))) := (ve225_0 N a0 a1 a2 K).trans (t_spec_l3Insert N a0 a1 a2 (fun z3 => K (.v (.one (.int .i64 z3))))).symm
theorem o225 {β : Type} (N : Nat) : SpecOK (β := β) inv Tryd.prog 225 (S225 N) := by
  refine spec_of lay_ok mixed (E := E225 N) (specs_loops specs_nil) muts_nil gs_nil Tryd.func225 (by kernel_rfl) 0 (by kernel_rfl) trivial fun args K r h => ?_
  unfold S225 VS225 at h
  split at h
  · exact (e225_0 N _ _ _ _).trans h
  · cases h
def VS191 {β : Type} (N : Nat) (q_spec_l3Restrict : (a0 : Int) → (a1 : Int) → (a2 : Int) → (a3 : Int) → (k : Int → Int → Option β) → Option β) : Rv.Spec β := fun args K => match args with
  | [.v (.agg [.int .i64 a0, .int .i64 a1]), .v (.one (.int .i64 a2)), .v (.one (.int .i64 a3))] => q_spec_l3Restrict a0 a1 a2 a3 (fun z4 z5 => K (.v (.agg [.int .i64 z4, .int .i64 z5])))
  | _ => none
def S191 {β : Type} (N : Nat) : Rv.Spec β := VS191 N (spec_l3Restrict N)
def h191_0_0  (v0 : Int) (v1 : Int) (v2 : Int) (v3 : Int) (v4 : Int) (v5 : Int) (v6 : Int) (v7 : Int) : St := ⟨.v (.one .und) :: .v (.one (.int .i64 v0)) :: .v (.one (.int .i64 v1)) :: .v (.one (.ptr 0 0)) :: .v (.one .und) :: .v (.one .und) :: .v (.one (.ptr 1 0)) :: .v (.one (.int .i64 v2)) :: .v (.one (.int .i64 v3)) :: .v (.one .und) :: .v (.one .und) :: .v (.one .und) :: .v (.one .und) :: .v (.one .und) :: .v (.one .und) :: .v (.one .und) :: .v (.one .und) :: .v (.one .und) :: .v (.one .und) :: .v (.one .und) :: .v (.one .und) :: .v (.one .und) :: .v (.one .und) :: .v (.one .und) :: .v (.one .und) :: .v (.one .und) :: .v (.one .und) :: .v (.one .und) :: .v (.one .und) :: .v (.one .und) :: .v (.one .und) :: .v (.one .und) :: .v (.one .und) :: .v (.one .und) :: [], [.cells 24 [.int .i64 v4, .int .i64 v5], .cells 24 [.int .i64 v6, .int .i64 v7]]⟩
def x191_0_0_k0  (y0 : Int) (y1 : Int) (y2 : Int) (y3 : Int) (y4 : Int) : St := ⟨.v (.one .und) :: .v (.one .und) :: .v (.one .und) :: .v (.one (.ptr 0 0)) :: .v (.one .und) :: .v (.one .und) :: .v (.one (.ptr 1 0)) :: .v (.one (.int .i64 y0)) :: .v (.one .und) :: .v (.one .und) :: .v (.one .und) :: .v (.one .und) :: .v (.one .und) :: .v (.one .und) :: .v (.one .und) :: .v (.one .und) :: .v (.one .und) :: .v (.one .und) :: .v (.one .und) :: .v (.one .und) :: .v (.one .und) :: .v (.one .und) :: .v (.one .und) :: .v (.one .und) :: .v (.one .und) :: .v (.one .und) :: .v (.one .und) :: .v (.one .und) :: .v (.one .und) :: .v (.one .und) :: .v (.one .und) :: .v (.one .und) :: .v (.one .und) :: .v (.one .und) :: [], [.cells 24 [.int .i64 y1, .int .i64 y2], .cells 24 [.int .i64 y3, .int .i64 y4]]⟩
theorem fl191_0_0 (s : St) : refSt (h191_0_0 0 0 0 0 0 0 0 0) s = h191_0_0 (intS (oneA (vT (nx tund s.tmps 1)))) (intS (oneA (vT (nx tund s.tmps 2)))) (intS (oneA (vT (nx tund s.tmps 7)))) (intS (oneA (vT (nx tund s.tmps 8)))) (intS (nx .und (cellsB (nx .dead s.blks 0)) 0)) (intS (nx .und (cellsB (nx .dead s.blks 0)) 1)) (intS (nx .und (cellsB (nx .dead s.blks 1)) 0)) (intS (nx .und (cellsB (nx .dead s.blks 1)) 1)) := by kernel_rfl
def VLS191_0 {β : Type} (N : Nat) (q_spec_l3Restrict_l0 : Nat → Int → Int → Int → Int → Int → Int → Int → Int → (Int → Int → Int → Int → Int → Option β) → Option β) : LSpec β := fun s K => cond (shpSt (h191_0_0 0 0 0 0 0 0 0 0) s) ((fun (v0 : Int) (v1 : Int) (v2 : Int) (v3 : Int) (v4 : Int) (v5 : Int) (v6 : Int) (v7 : Int) => q_spec_l3Restrict_l0  N v0 v1 v2 v3 v4 v5 v6 v7 (fun y0 y1 y2 y3 y4 => K (.exit 0) (x191_0_0_k0  y0 y1 y2 y3 y4))) (intS (oneA (vT (nx tund s.tmps 1)))) (intS (oneA (vT (nx tund s.tmps 2)))) (intS (oneA (vT (nx tund s.tmps 7)))) (intS (oneA (vT (nx tund s.tmps 8)))) (intS (nx .und (cellsB (nx .dead s.blks 0)) 0)) (intS (nx .und (cellsB (nx .dead s.blks 0)) 1)) (intS (nx .und (cellsB (nx .dead s.blks 1)) 0)) (intS (nx .und (cellsB (nx .dead s.blks 1)) 1))) (none)
def LS191_0 {β : Type} (N : Nat) : LSpec β := VLS191_0 N (spec_l3Restrict_l0 N)
def VE191 {β : Type} (N : Nat) (q_spec_l3Insert : (a0 : Int) → (a1 : Int) → (a2 : Int) → (k : Int → Option β) → Option β) (q_spec_l3Restrict_l0 : Nat → Int → Int → Int → Int → Int → Int → Int → Int → (Int → Int → Int → Int → Int → Option β) → Option β) : Env β := ⟨[(225, VS225 N q_spec_l3Insert)], [], [(0, VLS191_0 N q_spec_l3Restrict_l0)], [], ⟨[], [], []⟩⟩
def E191 {β : Type} (N : Nat) : Env β := VE191 N (spec_l3Insert N) (spec_l3Restrict_l0 N)
def BV_spec_l3Restrict_l0b {β : Type} (N : Nat) (q_spec_l3Insert : (a0 : Int) → (a1 : Int) → (a2 : Int) → (k : Int → Option β) → Option β)  (v0 : Int) (v1 : Int) (v2 : Int) (v3 : Int) (v4 : Int) (v5 : Int) (v6 : Int) (v7 : Int) (rec_ : Int → Int → Int → Int → Int → Int → Int → Int → Option β) (k0 : Int → Int → Int → Int → Int → Option β) : Option β :=
(gd ((decide (0 ≤ (w64 (v4 - 1)))))
((cond ((decide (v3 < (shlI .i64 1 (w64 (v4 - 1))))))
(q_spec_l3Insert v3 v0 v1 fun r6 =>
(gd ((decide (0 ≤ r6)))
((gd ((decide (0 ≤ v3)))
(rec_ v0 v1 ((bits .or .i64 v2 (shlI .i64 (bits .and .i64 (shrI .i64 v5 r6) 1) v3))) ((w64 (v3 + 1))) v4 v5 v6 v7)))))
(k0 v2 v4 v5 v6 v7))))
theorem t_spec_l3Restrict_l0b {β : Type} (N : Nat)  (v0 : Int) (v1 : Int) (v2 : Int) (v3 : Int) (v4 : Int) (v5 : Int) (v6 : Int) (v7 : Int) (rec_ : Int → Int → Int → Int → Int → Int → Int → Int → Option β) (k0 : Int → Int → Int → Int → Int → Option β) : spec_l3Restrict_l0b N v0 v1 v2 v3 v4 v5 v6 v7 rec_ k0 = BV_spec_l3Restrict_l0b N (spec_l3Insert N) v0 v1 v2 v3 v4 v5 v6 v7 rec_ k0 := by
  unfold spec_l3Restrict_l0b BV_spec_l3Restrict_l0b
  rfl
theorem vst191_0_0 {β : Type} (N : Nat) (q_spec_l3Insert : (a0 : Int) → (a1 : Int) → (a2 : Int) → (k : Int → Option β) → Option β) (q_spec_l3Restrict_l0 : Nat → Int → Int → Int → Int → Int → Int → Int → Int → (Int → Int → Int → Int → Int → Option β) → Option β)  (v0 : Int) (v1 : Int) (v2 : Int) (v3 : Int) (v4 : Int) (v5 : Int) (v6 : Int) (v7 : Int) (rec_ : St → Option β) (K : Exit → St → Option β) :
    ev lay (VE191 N q_spec_l3Insert q_spec_l3Restrict_l0) (retMask Tryd.f191) (lp Tryd.f191 0).body (lp Tryd.f191 0).ex ((lp Tryd.f191 0).lv (retMask Tryd.f191)) (h191_0_0  v0 v1 v2 v3 v4 v5 v6 v7) (nextR (fun s' => rec_ (s'.tidy ((lp Tryd.f191 0).lv (retMask Tryd.f191)))) K) = BV_spec_l3Restrict_l0b N q_spec_l3Insert  v0 v1 v2 v3 v4 v5 v6 v7 (fun v0 v1 v2 v3 v4 v5 v6 v7 => rec_ (h191_0_0  v0 v1 v2 v3 v4 v5 v6 v7)) (fun y0 y1 y2 y3 y4 => K (.exit 0) (x191_0_0_k0  y0 y1 y2 y3 y4)) := by kernel_rfl
theorem st191_0_0 {β : Type} (N : Nat)  (v0 : Int) (v1 : Int) (v2 : Int) (v3 : Int) (v4 : Int) (v5 : Int) (v6 : Int) (v7 : Int) (rec_ : St → Option β) (K : Exit → St → Option β) :
    ev lay (E191 N) (retMask Tryd.f191) (lp Tryd.f191 0).body (lp Tryd.f191 0).ex ((lp Tryd.f191 0).lv (retMask Tryd.f191)) (h191_0_0  v0 v1 v2 v3 v4 v5 v6 v7) (nextR (fun s' => rec_ (s'.tidy ((lp Tryd.f191 0).lv (retMask Tryd.f191)))) K) = spec_l3Restrict_l0b N  v0 v1 v2 v3 v4 v5 v6 v7 (fun v0 v1 v2 v3 v4 v5 v6 v7 => rec_ (h191_0_0  v0 v1 v2 v3 v4 v5 v6 v7)) (fun y0 y1 y2 y3 y4 => K (.exit 0) (x191_0_0_k0  y0 y1 y2 y3 y4)) := (vst191_0_0 N (spec_l3Insert N) (spec_l3Restrict_l0 N) v0 v1 v2 v3 v4 v5 v6 v7 rec_ K).trans (t_spec_l3Restrict_l0b N  v0 v1 v2 v3 v4 v5 v6 v7 (fun v0 v1 v2 v3 v4 v5 v6 v7 => rec_ (h191_0_0  v0 v1 v2 v3 v4 v5 v6 v7)) (fun y0 y1 y2 y3 y4 => K (.exit 0) (x191_0_0_k0  y0 y1 y2 y3 y4))).symm
theorem ro191_0_0 {β : Type} (N : Nat)  (K : Exit → St → Option β) : ∀ (F : Nat) (v0 : Int) (v1 : Int) (v2 : Int) (v3 : Int) (v4 : Int) (v5 : Int) (v6 : Int) (v7 : Int), (lp Tryd.f191 0).rounds lay (E191 N) (retMask Tryd.f191) F (h191_0_0  v0 v1 v2 v3 v4 v5 v6 v7) K = spec_l3Restrict_l0 N  F v0 v1 v2 v3 v4 v5 v6 v7 (fun y0 y1 y2 y3 y4 => K (.exit 0) (x191_0_0_k0  y0 y1 y2 y3 y4)) := by
  intro F
  induction F with
  | zero => intros; rfl
  | succ F ih =>
    intros
    rw [rounds_next]
    refine (st191_0_0 N  _ _ _ _ _ _ _ _ (fun s => (lp Tryd.f191 0).rounds lay (E191 N) (retMask Tryd.f191) F s K) K).trans ?_
    simp only [ih]
    rfl
theorem lk191_0 {β : Type} (N : Nat) : lookL (E191 (β := β) N).loops (lp Tryd.f191 0).id = LS191_0 N := by kernel_rfl
theorem rk191_0 {β : Type} (N : Nat) : RoundsOK lay (E191 (β := β) N) (retMask Tryd.f191) (lp Tryd.f191 0) := by
  intro s K r h
  rw [lk191_0] at h
  unfold LS191_0 VLS191_0 at h
  cases hb : shpSt (h191_0_0 0 0 0 0 0 0 0 0) s with
  | true =>
    rw [hb, cond_true] at h
    exact ⟨N, by rw [← shpSt_ref hb, fl191_0_0 s]; exact (ro191_0_0 N  K N (intS (oneA (vT (nx tund s.tmps 1)))) (intS (oneA (vT (nx tund s.tmps 2)))) (intS (oneA (vT (nx tund s.tmps 7)))) (intS (oneA (vT (nx tund s.tmps 8)))) (intS (nx .und (cellsB (nx .dead s.blks 0)) 0)) (intS (nx .und (cellsB (nx .dead s.blks 0)) 1)) (intS (nx .und (cellsB (nx .dead s.blks 1)) 0)) (intS (nx .und (cellsB (nx .dead s.blks 1)) 1))).trans h⟩
  | false =>
  rw [hb, cond_false] at h
  clear hb
  cases h
def BV_spec_l3Restrict {β : Type} (N : Nat) (q_spec_l3Restrict_l0 : Nat → Int → Int → Int → Int → Int → Int → Int → Int → (Int → Int → Int → Int → Int → Option β) → Option β) (a0 : Int) (a1 : Int) (a2 : Int) (a3 : Int) (k : Int → Int → Option β) : Option β :=
q_spec_l3Restrict_l0  N a2 a3 0 0 a0 a1 0 0 (fun e7_0 e7_1 e7_2 e7_3 e7_4 =>
k ((w64 (e7_1 - 1))) e7_0)
theorem t_spec_l3Restrict {β : Type} (N : Nat) (a0 : Int) (a1 : Int) (a2 : Int) (a3 : Int) (k : Int → Int → Option β) : spec_l3Restrict N a0 a1 a2 a3 k = BV_spec_l3Restrict N (spec_l3Restrict_l0 N) a0 a1 a2 a3 k := by
  unfold spec_l3Restrict BV_spec_l3Restrict
  rfl
theorem ve191_0 {β : Type} (N : Nat) (q_spec_l3Insert : (a0 : Int) → (a1 : Int) → (a2 : Int) → (k : Int → Option β) → Option β) (q_spec_l3Restrict_l0 : Nat → Int → Int → Int → Int → Int → Int → Int → Int → (Int → Int → Int → Int → Int → Option β) → Option β)  (a0 : Int) (a1 : Int) (a2 : Int) (a3 : Int) (K : TV → Option β) : evFn lay (VE191 N q_spec_l3Insert q_spec_l3Restrict_l0) Tryd.f191 [.v (.agg [.int .i64 a0, .int .i64 a1]), .v (.one (.int .i64 a2)), .v (.one (.int .i64 a3))] K = BV_spec_l3Restrict N q_spec_l3Restrict_l0 a0 a1 a2 a3 (fun z4 z5 => K (.v (.agg [.int .i64 z4, .int .i64 z5]))) := by kernel_rfl
theorem e191_0 {β : Type} (N : Nat)  (a0 : Int) (a1 : Int) (a2 : Int) (a3 : Int) (K : TV → Option β) : evFn lay (E191 N) Tryd.f191 [.v (.agg [.int .i64 a0, .int .i64 a1]), .v (.one (.int .i64 a2)), .v (.one (.int .i64 a3))] K = spec_l3Restrict N a0 a1 a2 a3 (fun z4 z5 => K (.v (.agg [.int .i64 z4, .int .i64 z5]))) := (ve191_0 N (spec_l3Insert N) (spec_l3Restrict_l0 N) a0 a1 a2 a3 K).trans (t_spec_l3Restrict N a0 a1 a2 a3 (fun z4 z5 => K (.v (.agg [.int .i64 z4, .int .i64 z5])))).symm
theorem o191 {β : Type} (N : Nat) : SpecOK (β := β) inv Tryd.prog 191 (S191 N) := by
  refine spec_of lay_ok mixed (E := E191 N) (specs_loops (specs_cons (o225 N) specs_nil)) muts_nil gs_nil Tryd.func191 (by kernel_rfl) 1 (by kernel_rfl) ⟨trivial, rk191_0 N⟩ fun args K r h => ?_
  unfold S191 VS191 at h
  split at h
  · exact (e191_0 N _ _ _ _ _).trans h
  · cases h
def VS132 {β : Type} (N : Nat) (q_spec_l15Monotone : (a0 : Int) → (a1 : Int) → (k : Bool → Option β) → Option β) : Rv.Spec β := fun args K => match args with
  | [.v (.agg [.int .i64 a0, .int .i64 a1])] => q_spec_l15Monotone a0 a1 (fun z2 => K (.v (.one (.bool z2))))
  | _ => none
def S132 {β : Type} (N : Nat) : Rv.Spec β := VS132 N (spec_l15Monotone N)
def h132_0_0  (v0 : Int) (v1 : Int) (v2 : Int) : St := ⟨.v (.one .und) :: .v (.one (.ptr 0 0)) :: .v (.one .und) :: .v (.one (.int .i64 v0)) :: .v (.one .und) :: .v (.one .und) :: .v (.one .und) :: .v (.one .und) :: .v (.one .und) :: .v (.one .und) :: .v (.one .und) :: .v (.one .und) :: .v (.one .und) :: .v (.one .und) :: .v (.one .und) :: .v (.one .und) :: .v (.one .und) :: .v (.one .und) :: .v (.one .und) :: .v (.one .und) :: .v (.one .und) :: .v (.one .und) :: .v (.one .und) :: .v (.one .und) :: .v (.one .und) :: [], [.cells 24 [.int .i64 v1, .int .i64 v2]]⟩
def x132_0_0_k0  (y0 : Bool) : St := ⟨.v (.one .und) :: .v (.one .und) :: .v (.one (.bool y0)) :: .v (.one .und) :: .v (.one .und) :: .v (.one .und) :: .v (.one .und) :: .v (.one .und) :: .v (.one .und) :: .v (.one .und) :: .v (.one .und) :: .v (.one .und) :: .v (.one .und) :: .v (.one .und) :: .v (.one .und) :: .v (.one .und) :: .v (.one .und) :: .v (.one .und) :: .v (.one .und) :: .v (.one .und) :: .v (.one .und) :: .v (.one .und) :: .v (.one .und) :: .v (.one .und) :: .v (.one .und) :: [], []⟩
def x132_0_0_k1   : St := ⟨.v (.one .und) :: .v (.one .und) :: .v (.one .und) :: .v (.one .und) :: .v (.one .und) :: .v (.one .und) :: .v (.one .und) :: .v (.one .und) :: .v (.one .und) :: .v (.one .und) :: .v (.one .und) :: .v (.one .und) :: .v (.one .und) :: .v (.one .und) :: .v (.one .und) :: .v (.one .und) :: .v (.one .und) :: .v (.one .und) :: .v (.one .und) :: .v (.one .und) :: .v (.one .und) :: .v (.one .und) :: .v (.one .und) :: .v (.one .und) :: .v (.one .und) :: [], []⟩
theorem fl132_0_0 (s : St) : refSt (h132_0_0 0 0 0) s = h132_0_0 (intS (oneA (vT (nx tund s.tmps 3)))) (intS (nx .und (cellsB (nx .dead s.blks 0)) 0)) (intS (nx .und (cellsB (nx .dead s.blks 0)) 1)) := by kernel_rfl
def VLS132_0 {β : Type} (N : Nat) (q_spec_l15Monotone_l0 : Nat → Int → Int → Int → (Bool → Option β) → (Option β) → Option β) : LSpec β := fun s K => cond (shpSt (h132_0_0 0 0 0) s) ((fun (v0 : Int) (v1 : Int) (v2 : Int) => q_spec_l15Monotone_l0  N v0 v1 v2 (fun y0 => K .ret (x132_0_0_k0  y0)) (K (.exit 0) (x132_0_0_k1  ))) (intS (oneA (vT (nx tund s.tmps 3)))) (intS (nx .und (cellsB (nx .dead s.blks 0)) 0)) (intS (nx .und (cellsB (nx .dead s.blks 0)) 1))) (none)
def LS132_0 {β : Type} (N : Nat) : LSpec β := VLS132_0 N (spec_l15Monotone_l0 N)
def VE132 {β : Type} (N : Nat) (q_spec_l3Restrict : (a0 : Int) → (a1 : Int) → (a2 : Int) → (a3 : Int) → (k : Int → Int → Option β) → Option β) (q_spec_l15Monotone_l0 : Nat → Int → Int → Int → (Bool → Option β) → (Option β) → Option β) : Env β := ⟨[(191, VS191 N q_spec_l3Restrict)], [], [(0, VLS132_0 N q_spec_l15Monotone_l0)], [], ⟨[], [], []⟩⟩
def E132 {β : Type} (N : Nat) : Env β := VE132 N (spec_l3Restrict N) (spec_l15Monotone_l0 N)
def BV_spec_l15Monotone_l0b {β : Type} (N : Nat) (q_spec_l3Restrict : (a0 : Int) → (a1 : Int) → (a2 : Int) → (a3 : Int) → (k : Int → Int → Option β) → Option β)  (v0 : Int) (v1 : Int) (v2 : Int) (rec_ : Int → Int → Int → Option β) (k0 : Bool → Option β) (k1 : Option β) : Option β :=
(cond ((decide (v0 < v1)))
(q_spec_l3Restrict v1 v2 v0 0 fun r3 r4 =>
q_spec_l3Restrict v1 v2 v0 1 fun r5 r6 =>
(cond (((bits .and .i64 r4 r6) != r4))
(k0 false)
(rec_ ((w64 (v0 + 1))) v1 v2)))
(k1 ))
theorem t_spec_l15Monotone_l0b {β : Type} (N : Nat)  (v0 : Int) (v1 : Int) (v2 : Int) (rec_ : Int → Int → Int → Option β) (k0 : Bool → Option β) (k1 : Option β) : spec_l15Monotone_l0b N v0 v1 v2 rec_ k0 k1 = BV_spec_l15Monotone_l0b N (spec_l3Restrict N) v0 v1 v2 rec_ k0 k1 := by
  unfold spec_l15Monotone_l0b BV_spec_l15Monotone_l0b
  rfl
theorem vst132_0_0 {β : Type} (N : Nat) (q_spec_l3Restrict : (a0 : Int) → (a1 : Int) → (a2 : Int) → (a3 : Int) → (k : Int → Int → Option β) → Option β) (q_spec_l15Monotone_l0 : Nat → Int → Int → Int → (Bool → Option β) → (Option β) → Option β)  (v0 : Int) (v1 : Int) (v2 : Int) (rec_ : St → Option β) (K : Exit → St → Option β) :
    ev lay (VE132 N q_spec_l3Restrict q_spec_l15Monotone_l0) (retMask Tryd.f132) (lp Tryd.f132 0).body (lp Tryd.f132 0).ex ((lp Tryd.f132 0).lv (retMask Tryd.f132)) (h132_0_0  v0 v1 v2) (nextR (fun s' => rec_ (s'.tidy ((lp Tryd.f132 0).lv (retMask Tryd.f132)))) K) = BV_spec_l15Monotone_l0b N q_spec_l3Restrict  v0 v1 v2 (fun v0 v1 v2 => rec_ (h132_0_0  v0 v1 v2)) (fun y0 => K .ret (x132_0_0_k0  y0)) (K (.exit 0) (x132_0_0_k1  )) := by kernel_rfl
theorem st132_0_0 {β : Type} (N : Nat)  (v0 : Int) (v1 : Int) (v2 : Int) (rec_ : St → Option β) (K : Exit → St → Option β) :
    ev lay (E132 N) (retMask Tryd.f132) (lp Tryd.f132 0).body (lp Tryd.f132 0).ex ((lp Tryd.f132 0).lv (retMask Tryd.f132)) (h132_0_0  v0 v1 v2) (nextR (fun s' => rec_ (s'.tidy ((lp Tryd.f132 0).lv (retMask Tryd.f132)))) K) = spec_l15Monotone_l0b N  v0 v1 v2 (fun v0 v1 v2 => rec_ (h132_0_0  v0 v1 v2)) (fun y0 => K .ret (x132_0_0_k0  y0)) (K (.exit 0) (x132_0_0_k1  )) := (vst132_0_0 N (spec_l3Restrict N) (spec_l15Monotone_l0 N) v0 v1 v2 rec_ K).trans (t_spec_l15Monotone_l0b N  v0 v1 v2 (fun v0 v1 v2 => rec_ (h132_0_0  v0 v1 v2)) (fun y0 => K .ret (x132_0_0_k0  y0)) (K (.exit 0) (x132_0_0_k1  ))).symm
theorem ro132_0_0 {β : Type} (N : Nat)  (K : Exit → St → Option β) : ∀ (F : Nat) (v0 : Int) (v1 : Int) (v2 : Int), (lp Tryd.f132 0).rounds lay (E132 N) (retMask Tryd.f132) F (h132_0_0  v0 v1 v2) K = spec_l15Monotone_l0 N  F v0 v1 v2 (fun y0 => K .ret (x132_0_0_k0  y0)) (K (.exit 0) (x132_0_0_k1  )) := by
  intro F
  induction F with
  | zero => intros; rfl
  | succ F ih =>
    intros
    rw [rounds_next]
    refine (st132_0_0 N  _ _ _ (fun s => (lp Tryd.f132 0).rounds lay (E132 N) (retMask Tryd.f132) F s K) K).trans ?_
    simp only [ih]
    rfl
theorem lk132_0 {β : Type} (N : Nat) : lookL (E132 (β := β) N).loops (lp Tryd.f132 0).id = LS132_0 N := by kernel_rfl
theorem rk132_0 {β : Type} (N : Nat) : RoundsOK lay (E132 (β := β) N) (retMask Tryd.f132) (lp Tryd.f132 0) := by
  intro s K r h
  rw [lk132_0] at h
  unfold LS132_0 VLS132_0 at h
  cases hb : shpSt (h132_0_0 0 0 0) s with
  | true =>
    rw [hb, cond_true] at h
    exact ⟨N, by rw [← shpSt_ref hb, fl132_0_0 s]; exact (ro132_0_0 N  K N (intS (oneA (vT (nx tund s.tmps 3)))) (intS (nx .und (cellsB (nx .dead s.blks 0)) 0)) (intS (nx .und (cellsB (nx .dead s.blks 0)) 1))).trans h⟩
  | false =>
  rw [hb, cond_false] at h
  clear hb
  cases h
def BV_spec_l15Monotone {β : Type} (N : Nat) (q_spec_l15Monotone_l0 : Nat → Int → Int → Int → (Bool → Option β) → (Option β) → Option β) (a0 : Int) (a1 : Int) (k : Bool → Option β) : Option β :=
q_spec_l15Monotone_l0  N 0 a0 a1 (fun e7_0 =>
k e7_0) (k true)
theorem t_spec_l15Monotone {β : Type} (N : Nat) (a0 : Int) (a1 : Int) (k : Bool → Option β) : spec_l15Monotone N a0 a1 k = BV_spec_l15Monotone N (spec_l15Monotone_l0 N) a0 a1 k := by
  unfold spec_l15Monotone BV_spec_l15Monotone
  rfl
theorem ve132_0 {β : Type} (N : Nat) (q_spec_l3Restrict : (a0 : Int) → (a1 : Int) → (a2 : Int) → (a3 : Int) → (k : Int → Int → Option β) → Option β) (q_spec_l15Monotone_l0 : Nat → Int → Int → Int → (Bool → Option β) → (Option β) → Option β)  (a0 : Int) (a1 : Int) (K : TV → Option β) : evFn lay (VE132 N q_spec_l3Restrict q_spec_l15Monotone_l0) Tryd.f132 [.v (.agg [.int .i64 a0, .int .i64 a1])] K = BV_spec_l15Monotone N q_spec_l15Monotone_l0 a0 a1 (fun z2 => K (.v (.one (.bool z2)))) := by kernel_rfl
theorem e132_0 {β : Type} (N : Nat)  (a0 : Int) (a1 : Int) (K : TV → Option β) : evFn lay (E132 N) Tryd.f132 [.v (.agg [.int .i64 a0, .int .i64 a1])] K = spec_l15Monotone N a0 a1 (fun z2 => K (.v (.one (.bool z2)))) := (ve132_0 N (spec_l3Restrict N) (spec_l15Monotone_l0 N) a0 a1 K).trans (t_spec_l15Monotone N a0 a1 (fun z2 => K (.v (.one (.bool z2))))).symm
theorem o132 {β : Type} (N : Nat) : SpecOK (β := β) inv Tryd.prog 132 (S132 N) := by
  refine spec_of lay_ok mixed (E := E132 N) (specs_loops (specs_cons (o191 N) specs_nil)) muts_nil gs_nil Tryd.func132 (by kernel_rfl) 1 (by kernel_rfl) ⟨trivial, rk132_0 N⟩ fun args K r h => ?_
  unfold S132 VS132 at h
  split at h
  · exact (e132_0 N _ _ _).trans h
  · cases h
def VS69 {β : Type} (N : Nat) (q_spec_IsSimpleGame : (a0 : Int) → (a1 : Int) → (k : Bool → Option β) → Option β) : Rv.Spec β := fun args K => match args with
  | [.v (.agg [.int .i64 a0, .int .i64 a1])] => q_spec_IsSimpleGame a0 a1 (fun z2 => K (.v (.one (.bool z2))))
  | _ => none
def S69 {β : Type} (N : Nat) : Rv.Spec β := VS69 N (spec_IsSimpleGame N)
def VE69 {β : Type} (N : Nat) (q_spec_IsTable : (a0 : Int) → (a1 : Int) → (k : Bool → Option β) → Option β) (q_spec_l15Monotone : (a0 : Int) → (a1 : Int) → (k : Bool → Option β) → Option β) : Env β := ⟨[(51, VS51 N q_spec_IsTable), (132, VS132 N q_spec_l15Monotone)], [], [], [], ⟨[], [], []⟩⟩
def E69 {β : Type} (N : Nat) : Env β := VE69 N (spec_IsTable N) (spec_l15Monotone N)
def BV_spec_IsSimpleGame {β : Type} (N : Nat) (q_spec_IsTable : (a0 : Int) → (a1 : Int) → (k : Bool → Option β) → Option β) (q_spec_l15Monotone : (a0 : Int) → (a1 : Int) → (k : Bool → Option β) → Option β) (a0 : Int) (a1 : Int) (k : Bool → Option β) : Option β :=
q_spec_IsTable a0 a1 fun r3 =>
(cond r3
(q_spec_l15Monotone a0 a1 fun r4 =>
(cond r4
((cond (((bits .and .i64 a1 1) == 0))
((gd ((decide (0 ≤ a0)))
((gd ((decide (0 ≤ (wu64 ((shlI .u64 1 a0) - 1)))))
(k (((bits .and .i64 (shrI .i64 a1 (wu64 ((shlI .u64 1 a0) - 1))) 1) == 1)))))))
(k false)))
(k false)))
(k false))
theorem t_spec_IsSimpleGame {β : Type} (N : Nat) (a0 : Int) (a1 : Int) (k : Bool → Option β) : spec_IsSimpleGame N a0 a1 k = BV_spec_IsSimpleGame N (spec_IsTable N) (spec_l15Monotone N) a0 a1 k := by
  unfold spec_IsSimpleGame BV_spec_IsSimpleGame
  rfl
theorem ve69_0 {β : Type} (N : Nat) (q_spec_IsTable : (a0 : Int) → (a1 : Int) → (k : Bool → Option β) → Option β) (q_spec_l15Monotone : (a0 : Int) → (a1 : Int) → (k : Bool → Option β) → Option β)  (a0 : Int) (a1 : Int) (K : TV → Option β) : evFn lay (VE69 N q_spec_IsTable q_spec_l15Monotone) Tryd.f69 [.v (.agg [.int .i64 a0, .int .i64 a1])] K = BV_spec_IsSimpleGame N q_spec_IsTable q_spec_l15Monotone a0 a1 (fun z2 => K (.v (.one (.bool z2)))) := by kernel_rfl
theorem e69_0 {β : Type} (N : Nat)  (a0 : Int) (a1 : Int) (K : TV → Option β) : evFn lay (E69 N) Tryd.f69 [.v (.agg [.int .i64 a0, .int .i64 a1])] K = spec_IsSimpleGame N a0 a1 (fun z2 => K (.v (.one (.bool z2)))) := (ve69_0 N (spec_IsTable N) (spec_l15Monotone N) a0 a1 K).trans (t_spec_IsSimpleGame N a0 a1 (fun z2 => K (.v (.one (.bool z2))))).symm
theorem o69 {β : Type} (N : Nat) : SpecOK (β := β) inv Tryd.prog 69 (S69 N) := by
  refine spec_of lay_ok mixed (E := E69 N) (specs_loops (specs_cons (o51 N) (specs_cons (o132 N) specs_nil))) muts_nil gs_nil Tryd.func69 (by kernel_rfl) 0 (by kernel_rfl) trivial fun args K r h => ?_
  unfold S69 VS69 at h
  split at h
  · exact (e69_0 N _ _ _).trans h
  · cases h
def VS70 {β : Type} (N : Nat) (q_spec_MinimalPoints : (a0 : Int) → (a1 : Int) → (k : List Int → Option β) → Option β) : Rv.Spec β := fun args K => match args with
  | [.v (.agg [.int .i64 a0, .int .i64 a1])] => q_spec_MinimalPoints a0 a1 (fun z2 => K (.v (.one (.sl 3 (.ints .i64 z2)))))
  | _ => none
def S70 {β : Type} (N : Nat) : Rv.Spec β := VS70 N (spec_MinimalPoints N)
def h70_0_0  (v0 : Int) (v1 : Int) (v2 : Int) (v3 : List Int) : St := ⟨.v (.one .und) :: .v (.one (.ptr 0 0)) :: .v (.one .und) :: .v (.one (.row 1)) :: .v (.one (.int .i64 v0)) :: .v (.one .und) :: .v (.one .und) :: .v (.one .und) :: .v (.one .und) :: .v (.one .und) :: .v (.one .und) :: .v (.one .und) :: .v (.one .und) :: .v (.one .und) :: .v (.one .und) :: .v (.one .und) :: .v (.one .und) :: .v (.one .und) :: .v (.one .und) :: .v (.one .und) :: .v (.one .und) :: .v (.one .und) :: .v (.one .und) :: .v (.one .und) :: .v (.one .und) :: .v (.one .und) :: .v (.one .und) :: .v (.one .und) :: .v (.one .und) :: .v (.one .und) :: .v (.one .und) :: .v (.one .und) :: .v (.one .und) :: .v (.one .und) :: .v (.one .und) :: .v (.one .und) :: .v (.one .und) :: .v (.one .und) :: .v (.one .und) :: .v (.one .und) :: .v (.one .und) :: .v (.one .und) :: .v (.one .und) :: .v (.one .und) :: .v (.one .und) :: .v (.one .und) :: .v (.one .und) :: .v (.one .und) :: .v (.one .und) :: .v (.one .und) :: .v (.one .und) :: .v (.one .und) :: .v (.one .und) :: .v (.one .und) :: .v (.one .und) :: .v (.one .und) :: [], [.cells 24 [.int .i64 v1, .int .i64 v2], .row 3 (.ints .i64 v3)]⟩
def x70_0_0_k0  (y0 : List Int) : St := ⟨.v (.one .und) :: .v (.one .und) :: .v (.one .und) :: .v (.one (.row 0)) :: .v (.one .und) :: .v (.one .und) :: .v (.one .und) :: .v (.one .und) :: .v (.one .und) :: .v (.one .und) :: .v (.one .und) :: .v (.one .und) :: .v (.one .und) :: .v (.one .und) :: .v (.one .und) :: .v (.one .und) :: .v (.one .und) :: .v (.one .und) :: .v (.one .und) :: .v (.one .und) :: .v (.one .und) :: .v (.one .und) :: .v (.one .und) :: .v (.one .und) :: .v (.one .und) :: .v (.one .und) :: .v (.one .und) :: .v (.one .und) :: .v (.one .und) :: .v (.one .und) :: .v (.one .und) :: .v (.one .und) :: .v (.one .und) :: .v (.one .und) :: .v (.one .und) :: .v (.one .und) :: .v (.one .und) :: .v (.one .und) :: .v (.one .und) :: .v (.one .und) :: .v (.one .und) :: .v (.one .und) :: .v (.one .und) :: .v (.one .und) :: .v (.one .und) :: .v (.one .und) :: .v (.one .und) :: .v (.one .und) :: .v (.one .und) :: .v (.one .und) :: .v (.one .und) :: .v (.one .und) :: .v (.one .und) :: .v (.one .und) :: .v (.one .und) :: .v (.one .und) :: [], [.row 3 (.ints .i64 y0)]⟩
def h70_1_0  (v0 : Int) (v1 : Bool) (v2 : Int) (v3 : Int) (v4 : Int) (v5 : List Int) : St := ⟨.v (.one .und) :: .v (.one (.ptr 0 0)) :: .v (.one .und) :: .v (.one (.row 1)) :: .v (.one (.int .i64 v0)) :: .v (.one (.bool v1)) :: .v (.one (.int .i64 v2)) :: .v (.one .und) :: .v (.one .und) :: .v (.one .und) :: .v (.one .und) :: .v (.one .und) :: .v (.one .und) :: .v (.one .und) :: .v (.one .und) :: .v (.one .und) :: .v (.one .und) :: .v (.one .und) :: .v (.one .und) :: .v (.one .und) :: .v (.one .und) :: .v (.one .und) :: .v (.one .und) :: .v (.one .und) :: .v (.one .und) :: .v (.one .und) :: .v (.one .und) :: .v (.one .und) :: .v (.one .und) :: .v (.one .und) :: .v (.one .und) :: .v (.one .und) :: .v (.one .und) :: .v (.one .und) :: .v (.one .und) :: .v (.one .und) :: .v (.one .und) :: .v (.one .und) :: .v (.one .und) :: .v (.one .und) :: .v (.one .und) :: .v (.one .und) :: .v (.one .und) :: .v (.one .und) :: .v (.one .und) :: .v (.one .und) :: .v (.one .und) :: .v (.one .und) :: .v (.one .und) :: .v (.one .und) :: .v (.one .und) :: .v (.one .und) :: .v (.one .und) :: .v (.one .und) :: .v (.one .und) :: .v (.one .und) :: [], [.cells 24 [.int .i64 v3, .int .i64 v4], .row 3 (.ints .i64 v5)]⟩
def x70_1_0_k0  (y0 : Int) (y1 : Bool) (y2 : Int) (y3 : Int) (y4 : List Int) : St := ⟨.v (.one .und) :: .v (.one (.ptr 0 0)) :: .v (.one .und) :: .v (.one (.row 1)) :: .v (.one (.int .i64 y0)) :: .v (.one (.bool y1)) :: .v (.one .und) :: .v (.one .und) :: .v (.one .und) :: .v (.one .und) :: .v (.one .und) :: .v (.one .und) :: .v (.one .und) :: .v (.one .und) :: .v (.one .und) :: .v (.one .und) :: .v (.one .und) :: .v (.one .und) :: .v (.one .und) :: .v (.one .und) :: .v (.one .und) :: .v (.one .und) :: .v (.one .und) :: .v (.one .und) :: .v (.one .und) :: .v (.one .und) :: .v (.one .und) :: .v (.one .und) :: .v (.one .und) :: .v (.one .und) :: .v (.one .und) :: .v (.one .und) :: .v (.one .und) :: .v (.one .und) :: .v (.one .und) :: .v (.one .und) :: .v (.one .und) :: .v (.one .und) :: .v (.one .und) :: .v (.one .und) :: .v (.one .und) :: .v (.one .und) :: .v (.one .und) :: .v (.one .und) :: .v (.one .und) :: .v (.one .und) :: .v (.one .und) :: .v (.one .und) :: .v (.one .und) :: .v (.one .und) :: .v (.one .und) :: .v (.one .und) :: .v (.one .und) :: .v (.one .und) :: .v (.one .und) :: .v (.one .und) :: [], [.cells 24 [.int .i64 y2, .int .i64 y3], .row 3 (.ints .i64 y4)]⟩
theorem fl70_0_0 (s : St) : refSt (h70_0_0 0 0 0 []) s = h70_0_0 (intS (oneA (vT (nx tund s.tmps 4)))) (intS (nx .und (cellsB (nx .dead s.blks 0)) 0)) (intS (nx .und (cellsB (nx .dead s.blks 0)) 1)) (rInts (rowB_ (nx .dead s.blks 1))) := by kernel_rfl
def VLS70_0 {β : Type} (N : Nat) (q_spec_MinimalPoints_l0 : Nat → Int → Int → Int → List Int → (List Int → Option β) → Option β) : LSpec β := fun s K => cond (shpSt (h70_0_0 0 0 0 []) s) ((fun (v0 : Int) (v1 : Int) (v2 : Int) (v3 : List Int) => q_spec_MinimalPoints_l0  N v0 v1 v2 v3 (fun y0 => K (.exit 0) (x70_0_0_k0  y0))) (intS (oneA (vT (nx tund s.tmps 4)))) (intS (nx .und (cellsB (nx .dead s.blks 0)) 0)) (intS (nx .und (cellsB (nx .dead s.blks 0)) 1)) (rInts (rowB_ (nx .dead s.blks 1)))) (none)
def LS70_0 {β : Type} (N : Nat) : LSpec β := VLS70_0 N (spec_MinimalPoints_l0 N)
theorem fl70_1_0 (s : St) : refSt (h70_1_0 0 false 0 0 0 []) s = h70_1_0 (intS (oneA (vT (nx tund s.tmps 4)))) (boolS (oneA (vT (nx tund s.tmps 5)))) (intS (oneA (vT (nx tund s.tmps 6)))) (intS (nx .und (cellsB (nx .dead s.blks 0)) 0)) (intS (nx .und (cellsB (nx .dead s.blks 0)) 1)) (rInts (rowB_ (nx .dead s.blks 1))) := by kernel_rfl
def VLS70_2 {β : Type} (N : Nat) (q_spec_MinimalPoints_l2 : Nat → Int → Bool → Int → Int → Int → List Int → (Int → Bool → Int → Int → List Int → Option β) → Option β) : LSpec β := fun s K => cond (shpSt (h70_1_0 0 false 0 0 0 []) s) ((fun (v0 : Int) (v1 : Bool) (v2 : Int) (v3 : Int) (v4 : Int) (v5 : List Int) => q_spec_MinimalPoints_l2  N v0 v1 v2 v3 v4 v5 (fun y0 y1 y2 y3 y4 => K (.exit 2) (x70_1_0_k0  y0 y1 y2 y3 y4))) (intS (oneA (vT (nx tund s.tmps 4)))) (boolS (oneA (vT (nx tund s.tmps 5)))) (intS (oneA (vT (nx tund s.tmps 6)))) (intS (nx .und (cellsB (nx .dead s.blks 0)) 0)) (intS (nx .und (cellsB (nx .dead s.blks 0)) 1)) (rInts (rowB_ (nx .dead s.blks 1)))) (none)
def LS70_2 {β : Type} (N : Nat) : LSpec β := VLS70_2 N (spec_MinimalPoints_l2 N)
def VE70 {β : Type} (N : Nat) (q_spec_IsTable : (a0 : Int) → (a1 : Int) → (k : Bool → Option β) → Option β) (q_spec_MinimalPoints_l0 : Nat → Int → Int → Int → List Int → (List Int → Option β) → Option β) (q_spec_MinimalPoints_l2 : Nat → Int → Bool → Int → Int → Int → List Int → (Int → Bool → Int → Int → List Int → Option β) → Option β) : Env β := ⟨[(51, VS51 N q_spec_IsTable)], [], [(0, VLS70_0 N q_spec_MinimalPoints_l0), (2, VLS70_2 N q_spec_MinimalPoints_l2)], [], ⟨[], [], []⟩⟩
def E70 {β : Type} (N : Nat) : Env β := VE70 N (spec_IsTable N) (spec_MinimalPoints_l0 N) (spec_MinimalPoints_l2 N)
def BV_spec_MinimalPoints_l0b {β : Type} (N : Nat) (q_spec_IsTable : (a0 : Int) → (a1 : Int) → (k : Bool → Option β) → Option β) (q_spec_MinimalPoints_l2 : Nat → Int → Bool → Int → Int → Int → List Int → (Int → Bool → Int → Int → List Int → Option β) → Option β)  (v0 : Int) (v1 : Int) (v2 : Int) (v3 : List Int) (rec_ : Int → Int → Int → List Int → Option β) (k0 : List Int → Option β) : Option β :=
q_spec_IsTable v1 v2 fun r3 =>
(cond r3
((gd ((decide (0 ≤ v1)))
((cond ((decide (v0 < (shlI .i64 1 v1))))
((gd ((decide (0 ≤ v0)))
(q_spec_MinimalPoints_l2  N v0 (((bits .and .i64 (shrI .i64 v2 v0) 1) == 1)) 0 v1 v2 v3 (fun e4_0 e4_1 e4_2 e4_3 e4_4 =>
(cond e4_1
((gd ((decide ((e4_4.length + ((([] : List Int) ++ [e4_0])).length) * 8 ≤ 140737488355328)))
(rec_ ((w64 (e4_0 + 1))) e4_2 e4_3 ((e4_4 ++ (([] : List Int) ++ [e4_0]))))))
(rec_ ((w64 (e4_0 + 1))) e4_2 e4_3 e4_4))))))
(k0 v3)))))
(k0 v3))
theorem t_spec_MinimalPoints_l0b {β : Type} (N : Nat)  (v0 : Int) (v1 : Int) (v2 : Int) (v3 : List Int) (rec_ : Int → Int → Int → List Int → Option β) (k0 : List Int → Option β) : spec_MinimalPoints_l0b N v0 v1 v2 v3 rec_ k0 = BV_spec_MinimalPoints_l0b N (spec_IsTable N) (spec_MinimalPoints_l2 N) v0 v1 v2 v3 rec_ k0 := by
  unfold spec_MinimalPoints_l0b BV_spec_MinimalPoints_l0b
  rfl
theorem vst70_0_0 {β : Type} (N : Nat) (q_spec_IsTable : (a0 : Int) → (a1 : Int) → (k : Bool → Option β) → Option β) (q_spec_MinimalPoints_l0 : Nat → Int → Int → Int → List Int → (List Int → Option β) → Option β) (q_spec_MinimalPoints_l2 : Nat → Int → Bool → Int → Int → Int → List Int → (Int → Bool → Int → Int → List Int → Option β) → Option β)  (v0 : Int) (v1 : Int) (v2 : Int) (v3 : List Int) (rec_ : St → Option β) (K : Exit → St → Option β) :
    ev lay (VE70 N q_spec_IsTable q_spec_MinimalPoints_l0 q_spec_MinimalPoints_l2) (retMask Tryd.f70) (lp Tryd.f70 0).body (lp Tryd.f70 0).ex ((lp Tryd.f70 0).lv (retMask Tryd.f70)) (h70_0_0  v0 v1 v2 v3) (nextR (fun s' => rec_ (s'.tidy ((lp Tryd.f70 0).lv (retMask Tryd.f70)))) K) = BV_spec_MinimalPoints_l0b N q_spec_IsTable q_spec_MinimalPoints_l2  v0 v1 v2 v3 (fun v0 v1 v2 v3 => rec_ (h70_0_0  v0 v1 v2 v3)) (fun y0 => K (.exit 0) (x70_0_0_k0  y0)) := by kernel_rfl
theorem st70_0_0 {β : Type} (N : Nat)  (v0 : Int) (v1 : Int) (v2 : Int) (v3 : List Int) (rec_ : St → Option β) (K : Exit → St → Option β) :
    ev lay (E70 N) (retMask Tryd.f70) (lp Tryd.f70 0).body (lp Tryd.f70 0).ex ((lp Tryd.f70 0).lv (retMask Tryd.f70)) (h70_0_0  v0 v1 v2 v3) (nextR (fun s' => rec_ (s'.tidy ((lp Tryd.f70 0).lv (retMask Tryd.f70)))) K) = spec_MinimalPoints_l0b N  v0 v1 v2 v3 (fun v0 v1 v2 v3 => rec_ (h70_0_0  v0 v1 v2 v3)) (fun y0 => K (.exit 0) (x70_0_0_k0  y0)) := (vst70_0_0 N (spec_IsTable N) (spec_MinimalPoints_l0 N) (spec_MinimalPoints_l2 N) v0 v1 v2 v3 rec_ K).trans (t_spec_MinimalPoints_l0b N  v0 v1 v2 v3 (fun v0 v1 v2 v3 => rec_ (h70_0_0  v0 v1 v2 v3)) (fun y0 => K (.exit 0) (x70_0_0_k0  y0))).symm
theorem ro70_0_0 {β : Type} (N : Nat)  (K : Exit → St → Option β) : ∀ (F : Nat) (v0 : Int) (v1 : Int) (v2 : Int) (v3 : List Int), (lp Tryd.f70 0).rounds lay (E70 N) (retMask Tryd.f70) F (h70_0_0  v0 v1 v2 v3) K = spec_MinimalPoints_l0 N  F v0 v1 v2 v3 (fun y0 => K (.exit 0) (x70_0_0_k0  y0)) := by
  intro F
  induction F with
  | zero => intros; rfl
  | succ F ih =>
    intros
    rw [rounds_next]
    refine (st70_0_0 N  _ _ _ _ (fun s => (lp Tryd.f70 0).rounds lay (E70 N) (retMask Tryd.f70) F s K) K).trans ?_
    simp only [ih]
    rfl
theorem lk70_0 {β : Type} (N : Nat) : lookL (E70 (β := β) N).loops (lp Tryd.f70 0).id = LS70_0 N := by kernel_rfl
theorem rk70_0 {β : Type} (N : Nat) : RoundsOK lay (E70 (β := β) N) (retMask Tryd.f70) (lp Tryd.f70 0) := by
  intro s K r h
  rw [lk70_0] at h
  unfold LS70_0 VLS70_0 at h
  cases hb : shpSt (h70_0_0 0 0 0 []) s with
  | true =>
    rw [hb, cond_true] at h
    exact ⟨N, by rw [← shpSt_ref hb, fl70_0_0 s]; exact (ro70_0_0 N  K N (intS (oneA (vT (nx tund s.tmps 4)))) (intS (nx .und (cellsB (nx .dead s.blks 0)) 0)) (intS (nx .und (cellsB (nx .dead s.blks 0)) 1)) (rInts (rowB_ (nx .dead s.blks 1)))).trans h⟩
  | false =>
  rw [hb, cond_false] at h
  clear hb
  cases h
def BV_spec_MinimalPoints_l2b {β : Type} (N : Nat)  (v0 : Int) (v1 : Bool) (v2 : Int) (v3 : Int) (v4 : Int) (v5 : List Int) (rec_ : Int → Bool → Int → Int → Int → List Int → Option β) (k0 : Int → Bool → Int → Int → List Int → Option β) : Option β :=
(cond ((decide (v2 < v3)))
((cond v1
((gd ((decide (0 ≤ v2)))
((cond (((bits .and .i64 (shrI .i64 v0 v2) 1) == 0))
(rec_ v0 true ((w64 (v2 + 1))) v3 v4 v5)
((gd ((decide (0 ≤ v2)))
((gd ((decide (0 ≤ (bits .xor .i64 v0 (shlI .i64 1 v2)))))
(rec_ v0 (((bits .and .i64 (shrI .i64 v4 (bits .xor .i64 v0 (shlI .i64 1 v2))) 1) == 0)) ((w64 (v2 + 1))) v3 v4 v5)))))))))
(rec_ v0 false ((w64 (v2 + 1))) v3 v4 v5)))
(k0 v0 v1 v3 v4 v5))
theorem t_spec_MinimalPoints_l2b {β : Type} (N : Nat)  (v0 : Int) (v1 : Bool) (v2 : Int) (v3 : Int) (v4 : Int) (v5 : List Int) (rec_ : Int → Bool → Int → Int → Int → List Int → Option β) (k0 : Int → Bool → Int → Int → List Int → Option β) : spec_MinimalPoints_l2b N v0 v1 v2 v3 v4 v5 rec_ k0 = BV_spec_MinimalPoints_l2b N v0 v1 v2 v3 v4 v5 rec_ k0 := by
  unfold spec_MinimalPoints_l2b BV_spec_MinimalPoints_l2b
  rfl
theorem vst70_1_0 {β : Type} (N : Nat) (q_spec_IsTable : (a0 : Int) → (a1 : Int) → (k : Bool → Option β) → Option β) (q_spec_MinimalPoints_l0 : Nat → Int → Int → Int → List Int → (List Int → Option β) → Option β) (q_spec_MinimalPoints_l2 : Nat → Int → Bool → Int → Int → Int → List Int → (Int → Bool → Int → Int → List Int → Option β) → Option β)  (v0 : Int) (v1 : Bool) (v2 : Int) (v3 : Int) (v4 : Int) (v5 : List Int) (rec_ : St → Option β) (K : Exit → St → Option β) :
    ev lay (VE70 N q_spec_IsTable q_spec_MinimalPoints_l0 q_spec_MinimalPoints_l2) (retMask Tryd.f70) (lp Tryd.f70 1).body (lp Tryd.f70 1).ex ((lp Tryd.f70 1).lv (retMask Tryd.f70)) (h70_1_0  v0 v1 v2 v3 v4 v5) (nextR (fun s' => rec_ (s'.tidy ((lp Tryd.f70 1).lv (retMask Tryd.f70)))) K) = BV_spec_MinimalPoints_l2b N  v0 v1 v2 v3 v4 v5 (fun v0 v1 v2 v3 v4 v5 => rec_ (h70_1_0  v0 v1 v2 v3 v4 v5)) (fun y0 y1 y2 y3 y4 => K (.exit 2) (x70_1_0_k0  y0 y1 y2 y3 y4)) := by kernel_rfl
theorem st70_1_0 {β : Type} (N : Nat)  (v0 : Int) (v1 : Bool) (v2 : Int) (v3 : Int) (v4 : Int) (v5 : List Int) (rec_ : St → Option β) (K : Exit → St → Option β) :
    ev lay (E70 N) (retMask Tryd.f70) (lp Tryd.f70 1).body (lp Tryd.f70 1).ex ((lp Tryd.f70 1).lv (retMask Tryd.f70)) (h70_1_0  v0 v1 v2 v3 v4 v5) (nextR (fun s' => rec_ (s'.tidy ((lp Tryd.f70 1).lv (retMask Tryd.f70)))) K) = spec_MinimalPoints_l2b N  v0 v1 v2 v3 v4 v5 (fun v0 v1 v2 v3 v4 v5 => rec_ (h70_1_0  v0 v1 v2 v3 v4 v5)) (fun y0 y1 y2 y3 y4 => K (.exit 2) (x70_1_0_k0  y0 y1 y2 y3 y4)) := (vst70_1_0 N (spec_IsTable N) (spec_MinimalPoints_l0 N) (spec_MinimalPoints_l2 N) v0 v1 v2 v3 v4 v5 rec_ K).trans (t_spec_MinimalPoints_l2b N  v0 v1 v2 v3 v4 v5 (fun v0 v1 v2 v3 v4 v5 => rec_ (h70_1_0  v0 v1 v2 v3 v4 v5)) (fun y0 y1 y2 y3 y4 => K (.exit 2) (x70_1_0_k0  y0 y1 y2 y3 y4))).symm
theorem ro70_1_0 {β : Type} (N : Nat)  (K : Exit → St → Option β) : ∀ (F : Nat) (v0 : Int) (v1 : Bool) (v2 : Int) (v3 : Int) (v4 : Int) (v5 : List Int), (lp Tryd.f70 1).rounds lay (E70 N) (retMask Tryd.f70) F (h70_1_0  v0 v1 v2 v3 v4 v5) K = spec_MinimalPoints_l2 N  F v0 v1 v2 v3 v4 v5 (fun y0 y1 y2 y3 y4 => K (.exit 2) (x70_1_0_k0  y0 y1 y2 y3 y4)) := by
  intro F
  induction F with
  | zero => intros; rfl
  | succ F ih =>
    intros
    rw [rounds_next]
    refine (st70_1_0 N  _ _ _ _ _ _ (fun s => (lp Tryd.f70 1).rounds lay (E70 N) (retMask Tryd.f70) F s K) K).trans ?_
    simp only [ih]
    rfl
theorem lk70_2 {β : Type} (N : Nat) : lookL (E70 (β := β) N).loops (lp Tryd.f70 1).id = LS70_2 N := by kernel_rfl
theorem rk70_2 {β : Type} (N : Nat) : RoundsOK lay (E70 (β := β) N) (retMask Tryd.f70) (lp Tryd.f70 1) := by
  intro s K r h
  rw [lk70_2] at h
  unfold LS70_2 VLS70_2 at h
  cases hb : shpSt (h70_1_0 0 false 0 0 0 []) s with
  | true =>
    rw [hb, cond_true] at h
    exact ⟨N, by rw [← shpSt_ref hb, fl70_1_0 s]; exact (ro70_1_0 N  K N (intS (oneA (vT (nx tund s.tmps 4)))) (boolS (oneA (vT (nx tund s.tmps 5)))) (intS (oneA (vT (nx tund s.tmps 6)))) (intS (nx .und (cellsB (nx .dead s.blks 0)) 0)) (intS (nx .und (cellsB (nx .dead s.blks 0)) 1)) (rInts (rowB_ (nx .dead s.blks 1)))).trans h⟩
  | false =>
  rw [hb, cond_false] at h
  clear hb
  cases h
def BV_spec_MinimalPoints {β : Type} (N : Nat) (q_spec_MinimalPoints_l0 : Nat → Int → Int → Int → List Int → (List Int → Option β) → Option β) (a0 : Int) (a1 : Int) (k : List Int → Option β) : Option β :=
q_spec_MinimalPoints_l0  N 0 a0 a1 (([] : List Int)) (fun e5_0 =>
k e5_0)
theorem t_spec_MinimalPoints {β : Type} (N : Nat) (a0 : Int) (a1 : Int) (k : List Int → Option β) : spec_MinimalPoints N a0 a1 k = BV_spec_MinimalPoints N (spec_MinimalPoints_l0 N) a0 a1 k := by
  unfold spec_MinimalPoints BV_spec_MinimalPoints
  rfl
theorem ve70_0 {β : Type} (N : Nat) (q_spec_IsTable : (a0 : Int) → (a1 : Int) → (k : Bool → Option β) → Option β) (q_spec_MinimalPoints_l0 : Nat → Int → Int → Int → List Int → (List Int → Option β) → Option β) (q_spec_MinimalPoints_l2 : Nat → Int → Bool → Int → Int → Int → List Int → (Int → Bool → Int → Int → List Int → Option β) → Option β)  (a0 : Int) (a1 : Int) (K : TV → Option β) : evFn lay (VE70 N q_spec_IsTable q_spec_MinimalPoints_l0 q_spec_MinimalPoints_l2) Tryd.f70 [.v (.agg [.int .i64 a0, .int .i64 a1])] K = BV_spec_MinimalPoints N q_spec_MinimalPoints_l0 a0 a1 (fun z2 => K (.v (.one (.sl 3 (.ints .i64 z2))))) := by kernel_rfl
theorem e70_0 {β : Type} (N : Nat)  (a0 : Int) (a1 : Int) (K : TV → Option β) : evFn lay (E70 N) Tryd.f70 [.v (.agg [.int .i64 a0, .int .i64 a1])] K = spec_MinimalPoints N a0 a1 (fun z2 => K (.v (.one (.sl 3 (.ints .i64 z2))))) := (ve70_0 N (spec_IsTable N) (spec_MinimalPoints_l0 N) (spec_MinimalPoints_l2 N) a0 a1 K).trans (t_spec_MinimalPoints N a0 a1 (fun z2 => K (.v (.one (.sl 3 (.ints .i64 z2)))))).symm
theorem o70 {β : Type} (N : Nat) : SpecOK (β := β) inv Tryd.prog 70 (S70 N) := by
  refine spec_of lay_ok mixed (E := E70 N) (specs_loops (specs_cons (o51 N) specs_nil)) muts_nil gs_nil Tryd.func70 (by kernel_rfl) 2 (by kernel_rfl) ⟨⟨trivial, rk70_0 N⟩, rk70_2 N⟩ fun args K r h => ?_
  unfold S70 VS70 at h
  split at h
  · exact (e70_0 N _ _ _).trans h
  · cases h
def VS55 {β : Type} (N : Nat) (q_spec_FormatInt : (a0 : Int) → (k : ByteArray → Option β) → Option β) : Rv.Spec β := fun args K => match args with
  | [.v (.one (.int .i64 a0))] => q_spec_FormatInt a0 (fun z1 => K (.v (.one (.str z1))))
  | _ => none
def S55 {β : Type} (N : Nat) : Rv.Spec β := VS55 N (spec_FormatInt N)
def h55_0_0  (v0 : Int) (v1 : ByteArray) (v2 : Bool) : St := ⟨.v (.one (.int .i64 v0)) :: .v (.one .und) :: .v (.one .und) :: .v (.one (.str v1)) :: .v (.one (.bool v2)) :: .v (.one .und) :: .v (.one .und) :: .v (.one .und) :: .v (.one .und) :: .v (.one .und) :: .v (.one .und) :: .v (.one .und) :: .v (.one .und) :: .v (.one .und) :: .v (.one .und) :: .v (.one .und) :: .v (.one .und) :: .v (.one .und) :: .v (.one .und) :: .v (.one .und) :: .v (.one .und) :: .v (.one .und) :: .v (.one .und) :: .v (.one .und) :: .v (.one .und) :: .v (.one .und) :: .v (.one .und) :: .v (.one .und) :: .v (.one .und) :: .v (.one .und) :: .v (.one .und) :: [], []⟩
def x55_0_0_k0  (y0 : ByteArray) (y1 : Bool) : St := ⟨.v (.one .und) :: .v (.one .und) :: .v (.one .und) :: .v (.one (.str y0)) :: .v (.one (.bool y1)) :: .v (.one .und) :: .v (.one .und) :: .v (.one .und) :: .v (.one .und) :: .v (.one .und) :: .v (.one .und) :: .v (.one .und) :: .v (.one .und) :: .v (.one .und) :: .v (.one .und) :: .v (.one .und) :: .v (.one .und) :: .v (.one .und) :: .v (.one .und) :: .v (.one .und) :: .v (.one .und) :: .v (.one .und) :: .v (.one .und) :: .v (.one .und) :: .v (.one .und) :: .v (.one .und) :: .v (.one .und) :: .v (.one .und) :: .v (.one .und) :: .v (.one .und) :: .v (.one .und) :: [], []⟩
theorem fl55_0_0 (s : St) : refSt (h55_0_0 0 ByteArray.empty false) s = h55_0_0 (intS (oneA (vT (nx tund s.tmps 0)))) (strS (oneA (vT (nx tund s.tmps 3)))) (boolS (oneA (vT (nx tund s.tmps 4)))) := by kernel_rfl
def VLS55_0 {β : Type} (N : Nat) (q_spec_FormatInt_l0 : Nat → Int → ByteArray → Bool → (ByteArray → Bool → Option β) → Option β) : LSpec β := fun s K => cond (shpSt (h55_0_0 0 ByteArray.empty false) s) ((fun (v0 : Int) (v1 : ByteArray) (v2 : Bool) => q_spec_FormatInt_l0  N v0 v1 v2 (fun y0 y1 => K (.exit 0) (x55_0_0_k0  y0 y1))) (intS (oneA (vT (nx tund s.tmps 0)))) (strS (oneA (vT (nx tund s.tmps 3)))) (boolS (oneA (vT (nx tund s.tmps 4))))) (none)
def LS55_0 {β : Type} (N : Nat) : LSpec β := VLS55_0 N (spec_FormatInt_l0 N)
def VE55 {β : Type} (N : Nat) (q_spec_FormatInt_l0 : Nat → Int → ByteArray → Bool → (ByteArray → Bool → Option β) → Option β) : Env β := ⟨[], [], [(0, VLS55_0 N q_spec_FormatInt_l0)], [], ⟨[], [], []⟩⟩
def E55 {β : Type} (N : Nat) : Env β := VE55 N (spec_FormatInt_l0 N)
def BV_spec_FormatInt_l0b {β : Type} (N : Nat)  (v0 : Int) (v1 : ByteArray) (v2 : Bool) (rec_ : Int → ByteArray → Bool → Option β) (k0 : ByteArray → Bool → Option β) : Option β :=
(cond ((v0 != 0))
((cond ((decide ((remI v0 10) < 0)))
((gd ((decide (((strOf ((([] : List Int) ++ [(w8 ((w64 (48 + (w64 (0 - (remI v0 10)))))))])))).size + v1.size ≤ 9223372036854775807)))
(rec_ ((quoI .i64 v0 10)) (((strOf ((([] : List Int) ++ [(w8 ((w64 (48 + (w64 (0 - (remI v0 10)))))))]))) ++ v1)) v2)))
((gd ((decide (((strOf ((([] : List Int) ++ [(w8 ((w64 (48 + (remI v0 10)))))])))).size + v1.size ≤ 9223372036854775807)))
(rec_ ((quoI .i64 v0 10)) (((strOf ((([] : List Int) ++ [(w8 ((w64 (48 + (remI v0 10)))))]))) ++ v1)) v2)))))
(k0 v1 v2))
theorem t_spec_FormatInt_l0b {β : Type} (N : Nat)  (v0 : Int) (v1 : ByteArray) (v2 : Bool) (rec_ : Int → ByteArray → Bool → Option β) (k0 : ByteArray → Bool → Option β) : spec_FormatInt_l0b N v0 v1 v2 rec_ k0 = BV_spec_FormatInt_l0b N v0 v1 v2 rec_ k0 := by
  unfold spec_FormatInt_l0b BV_spec_FormatInt_l0b
  rfl
theorem vst55_0_0 {β : Type} (N : Nat) (q_spec_FormatInt_l0 : Nat → Int → ByteArray → Bool → (ByteArray → Bool → Option β) → Option β)  (v0 : Int) (v1 : ByteArray) (v2 : Bool) (rec_ : St → Option β) (K : Exit → St → Option β) :
    ev lay (VE55 N q_spec_FormatInt_l0) (retMask Tryd.f55) (lp Tryd.f55 0).body (lp Tryd.f55 0).ex ((lp Tryd.f55 0).lv (retMask Tryd.f55)) (h55_0_0  v0 v1 v2) (nextR (fun s' => rec_ (s'.tidy ((lp Tryd.f55 0).lv (retMask Tryd.f55)))) K) = BV_spec_FormatInt_l0b N  v0 v1 v2 (fun v0 v1 v2 => rec_ (h55_0_0  v0 v1 v2)) (fun y0 y1 => K (.exit 0) (x55_0_0_k0  y0 y1)) := by kernel_rfl
theorem st55_0_0 {β : Type} (N : Nat)  (v0 : Int) (v1 : ByteArray) (v2 : Bool) (rec_ : St → Option β) (K : Exit → St → Option β) :
    ev lay (E55 N) (retMask Tryd.f55) (lp Tryd.f55 0).body (lp Tryd.f55 0).ex ((lp Tryd.f55 0).lv (retMask Tryd.f55)) (h55_0_0  v0 v1 v2) (nextR (fun s' => rec_ (s'.tidy ((lp Tryd.f55 0).lv (retMask Tryd.f55)))) K) = spec_FormatInt_l0b N  v0 v1 v2 (fun v0 v1 v2 => rec_ (h55_0_0  v0 v1 v2)) (fun y0 y1 => K (.exit 0) (x55_0_0_k0  y0 y1)) := (vst55_0_0 N (spec_FormatInt_l0 N) v0 v1 v2 rec_ K).trans (t_spec_FormatInt_l0b N  v0 v1 v2 (fun v0 v1 v2 => rec_ (h55_0_0  v0 v1 v2)) (fun y0 y1 => K (.exit 0) (x55_0_0_k0  y0 y1))).symm
theorem ro55_0_0 {β : Type} (N : Nat)  (K : Exit → St → Option β) : ∀ (F : Nat) (v0 : Int) (v1 : ByteArray) (v2 : Bool), (lp Tryd.f55 0).rounds lay (E55 N) (retMask Tryd.f55) F (h55_0_0  v0 v1 v2) K = spec_FormatInt_l0 N  F v0 v1 v2 (fun y0 y1 => K (.exit 0) (x55_0_0_k0  y0 y1)) := by
  intro F
  induction F with
  | zero => intros; rfl
  | succ F ih =>
    intros
    rw [rounds_next]
    refine (st55_0_0 N  _ _ _ (fun s => (lp Tryd.f55 0).rounds lay (E55 N) (retMask Tryd.f55) F s K) K).trans ?_
    simp only [ih]
    rfl
theorem lk55_0 {β : Type} (N : Nat) : lookL (E55 (β := β) N).loops (lp Tryd.f55 0).id = LS55_0 N := by kernel_rfl
theorem rk55_0 {β : Type} (N : Nat) : RoundsOK lay (E55 (β := β) N) (retMask Tryd.f55) (lp Tryd.f55 0) := by
  intro s K r h
  rw [lk55_0] at h
  unfold LS55_0 VLS55_0 at h
  cases hb : shpSt (h55_0_0 0 ByteArray.empty false) s with
  | true =>
    rw [hb, cond_true] at h
    exact ⟨N, by rw [← shpSt_ref hb, fl55_0_0 s]; exact (ro55_0_0 N  K N (intS (oneA (vT (nx tund s.tmps 0)))) (strS (oneA (vT (nx tund s.tmps 3)))) (boolS (oneA (vT (nx tund s.tmps 4))))).trans h⟩
  | false =>
  rw [hb, cond_false] at h
  clear hb
  cases h
def BV_spec_FormatInt {β : Type} (N : Nat) (q_spec_FormatInt_l0 : Nat → Int → ByteArray → Bool → (ByteArray → Bool → Option β) → Option β) (a0 : Int) (k : ByteArray → Option β) : Option β :=
(cond ((a0 == 0))
(k ((strOf [48])))
(q_spec_FormatInt_l0  N a0 ByteArray.empty ((decide (a0 < 0))) (fun e2_0 e2_1 =>
(cond e2_1
((gd ((decide (((strOf [45])).size + e2_0.size ≤ 9223372036854775807)))
(k (((strOf [45]) ++ e2_0)))))
(k e2_0)))))
theorem t_spec_FormatInt {β : Type} (N : Nat) (a0 : Int) (k : ByteArray → Option β) : spec_FormatInt N a0 k = BV_spec_FormatInt N (spec_FormatInt_l0 N) a0 k := by
  unfold spec_FormatInt BV_spec_FormatInt
  rfl
theorem ve55_0 {β : Type} (N : Nat) (q_spec_FormatInt_l0 : Nat → Int → ByteArray → Bool → (ByteArray → Bool → Option β) → Option β)  (a0 : Int) (K : TV → Option β) : evFn lay (VE55 N q_spec_FormatInt_l0) Tryd.f55 [.v (.one (.int .i64 a0))] K = BV_spec_FormatInt N q_spec_FormatInt_l0 a0 (fun z1 => K (.v (.one (.str z1)))) := by kernel_rfl
theorem e55_0 {β : Type} (N : Nat)  (a0 : Int) (K : TV → Option β) : evFn lay (E55 N) Tryd.f55 [.v (.one (.int .i64 a0))] K = spec_FormatInt N a0 (fun z1 => K (.v (.one (.str z1)))) := (ve55_0 N (spec_FormatInt_l0 N) a0 K).trans (t_spec_FormatInt N a0 (fun z1 => K (.v (.one (.str z1))))).symm
theorem o55 {β : Type} (N : Nat) : SpecOK (β := β) inv Tryd.prog 55 (S55 N) := by
  refine spec_of lay_ok mixed (E := E55 N) (specs_loops specs_nil) muts_nil gs_nil Tryd.func55 (by kernel_rfl) 1 (by kernel_rfl) ⟨trivial, rk55_0 N⟩ fun args K r h => ?_
  unfold S55 VS55 at h
  split at h
  · exact (e55_0 N _ _).trans h
  · cases h
def VS52 {β : Type} (N : Nat) (q_spec_l34Numbers : (a0 : List Int) → (k : ByteArray → Option β) → Option β) : Rv.Spec β := fun args K => match args with
  | [.v (.one (.sl 3 (.ints .i64 a0)))] => q_spec_l34Numbers a0 (fun z1 => K (.v (.one (.str z1))))
  | _ => none
def S52 {β : Type} (N : Nat) : Rv.Spec β := VS52 N (spec_l34Numbers N)
def h52_0_0  (v0 : List Int) (v1 : ByteArray) (v2 : Int) : St := ⟨.v (.one (.sl 3 (.ints .i64 v0))) :: .v (.one .und) :: .v (.one .und) :: .v (.one (.str v1)) :: .v (.one (.int .i64 v2)) :: .v (.one .und) :: .v (.one .und) :: .v (.one .und) :: .v (.one .und) :: .v (.one .und) :: .v (.one .und) :: .v (.one .und) :: .v (.one .und) :: .v (.one .und) :: .v (.one .und) :: .v (.one .und) :: .v (.one .und) :: .v (.one .und) :: .v (.one .und) :: .v (.one .und) :: .v (.one .und) :: .v (.one .und) :: .v (.one .und) :: .v (.one .und) :: .v (.one .und) :: [], []⟩
def x52_0_0_k0  (y0 : ByteArray) : St := ⟨.v (.one .und) :: .v (.one .und) :: .v (.one .und) :: .v (.one (.str y0)) :: .v (.one .und) :: .v (.one .und) :: .v (.one .und) :: .v (.one .und) :: .v (.one .und) :: .v (.one .und) :: .v (.one .und) :: .v (.one .und) :: .v (.one .und) :: .v (.one .und) :: .v (.one .und) :: .v (.one .und) :: .v (.one .und) :: .v (.one .und) :: .v (.one .und) :: .v (.one .und) :: .v (.one .und) :: .v (.one .und) :: .v (.one .und) :: .v (.one .und) :: .v (.one .und) :: [], []⟩
theorem fl52_0_0 (s : St) : refSt (h52_0_0 [] ByteArray.empty 0) s = h52_0_0 (rInts (rowV (oneA (vT (nx tund s.tmps 0))))) (strS (oneA (vT (nx tund s.tmps 3)))) (intS (oneA (vT (nx tund s.tmps 4)))) := by kernel_rfl
def VLS52_0 {β : Type} (N : Nat) (q_spec_l34Numbers_l0 : Nat → List Int → ByteArray → Int → (ByteArray → Option β) → Option β) : LSpec β := fun s K => cond (shpSt (h52_0_0 [] ByteArray.empty 0) s) ((fun (v0 : List Int) (v1 : ByteArray) (v2 : Int) => q_spec_l34Numbers_l0  N v0 v1 v2 (fun y0 => K (.exit 0) (x52_0_0_k0  y0))) (rInts (rowV (oneA (vT (nx tund s.tmps 0))))) (strS (oneA (vT (nx tund s.tmps 3)))) (intS (oneA (vT (nx tund s.tmps 4))))) (none)
def LS52_0 {β : Type} (N : Nat) : LSpec β := VLS52_0 N (spec_l34Numbers_l0 N)
def VE52 {β : Type} (N : Nat) (q_spec_FormatInt : (a0 : Int) → (k : ByteArray → Option β) → Option β) (q_spec_l34Numbers_l0 : Nat → List Int → ByteArray → Int → (ByteArray → Option β) → Option β) : Env β := ⟨[(55, VS55 N q_spec_FormatInt)], [], [(0, VLS52_0 N q_spec_l34Numbers_l0)], [], ⟨[], [], []⟩⟩
def E52 {β : Type} (N : Nat) : Env β := VE52 N (spec_FormatInt N) (spec_l34Numbers_l0 N)
def BV_spec_l34Numbers_l0b {β : Type} (N : Nat) (q_spec_FormatInt : (a0 : Int) → (k : ByteArray → Option β) → Option β)  (v0 : List Int) (v1 : ByteArray) (v2 : Int) (rec_ : List Int → ByteArray → Int → Option β) (k0 : ByteArray → Option β) : Option β :=
(cond ((decide (v2 < (v0.length : Int))))
((cond ((decide (v2 > 0)))
((gd ((decide (v1.size + ((strOf [44])).size ≤ 9223372036854775807)))
((gd ((decide (0 ≤ v2)))
((gd ((decide (v2 < (v0.length : Int))))
(q_spec_FormatInt ((rd 0 v0 v2)) fun r2 =>
(gd ((decide (((v1 ++ (strOf [44]))).size + r2.size ≤ 9223372036854775807)))
(rec_ v0 (((v1 ++ (strOf [44])) ++ r2)) ((w64 (v2 + 1))))))))))))
((gd ((decide (0 ≤ v2)))
((gd ((decide (v2 < (v0.length : Int))))
(q_spec_FormatInt ((rd 0 v0 v2)) fun r3 =>
(gd ((decide (v1.size + r3.size ≤ 9223372036854775807)))
(rec_ v0 ((v1 ++ r3)) ((w64 (v2 + 1))))))))))))
(k0 v1))
theorem t_spec_l34Numbers_l0b {β : Type} (N : Nat)  (v0 : List Int) (v1 : ByteArray) (v2 : Int) (rec_ : List Int → ByteArray → Int → Option β) (k0 : ByteArray → Option β) : spec_l34Numbers_l0b N v0 v1 v2 rec_ k0 = BV_spec_l34Numbers_l0b N (spec_FormatInt N) v0 v1 v2 rec_ k0 := by
  unfold spec_l34Numbers_l0b BV_spec_l34Numbers_l0b
  rfl
theorem vst52_0_0 {β : Type} (N : Nat) (q_spec_FormatInt : (a0 : Int) → (k : ByteArray → Option β) → Option β) (q_spec_l34Numbers_l0 : Nat → List Int → ByteArray → Int → (ByteArray → Option β) → Option β)  (v0 : List Int) (v1 : ByteArray) (v2 : Int) (rec_ : St → Option β) (K : Exit → St → Option β) :
    ev lay (VE52 N q_spec_FormatInt q_spec_l34Numbers_l0) (retMask Tryd.f52) (lp Tryd.f52 0).body (lp Tryd.f52 0).ex ((lp Tryd.f52 0).lv (retMask Tryd.f52)) (h52_0_0  v0 v1 v2) (nextR (fun s' => rec_ (s'.tidy ((lp Tryd.f52 0).lv (retMask Tryd.f52)))) K) = BV_spec_l34Numbers_l0b N q_spec_FormatInt  v0 v1 v2 (fun v0 v1 v2 => rec_ (h52_0_0  v0 v1 v2)) (fun y0 => K (.exit 0) (x52_0_0_k0  y0)) := by kernel_rfl
theorem st52_0_0 {β : Type} (N : Nat)  (v0 : List Int) (v1 : ByteArray) (v2 : Int) (rec_ : St → Option β) (K : Exit → St → Option β) :
    ev lay (E52 N) (retMask Tryd.f52) (lp Tryd.f52 0).body (lp Tryd.f52 0).ex ((lp Tryd.f52 0).lv (retMask Tryd.f52)) (h52_0_0  v0 v1 v2) (nextR (fun s' => rec_ (s'.tidy ((lp Tryd.f52 0).lv (retMask Tryd.f52)))) K) = spec_l34Numbers_l0b N  v0 v1 v2 (fun v0 v1 v2 => rec_ (h52_0_0  v0 v1 v2)) (fun y0 => K (.exit 0) (x52_0_0_k0  y0)) := (vst52_0_0 N (spec_FormatInt N) (spec_l34Numbers_l0 N) v0 v1 v2 rec_ K).trans (t_spec_l34Numbers_l0b N  v0 v1 v2 (fun v0 v1 v2 => rec_ (h52_0_0  v0 v1 v2)) (fun y0 => K (.exit 0) (x52_0_0_k0  y0))).symm
theorem ro52_0_0 {β : Type} (N : Nat)  (K : Exit → St → Option β) : ∀ (F : Nat) (v0 : List Int) (v1 : ByteArray) (v2 : Int), (lp Tryd.f52 0).rounds lay (E52 N) (retMask Tryd.f52) F (h52_0_0  v0 v1 v2) K = spec_l34Numbers_l0 N  F v0 v1 v2 (fun y0 => K (.exit 0) (x52_0_0_k0  y0)) := by
  intro F
  induction F with
  | zero => intros; rfl
  | succ F ih =>
    intros
    rw [rounds_next]
    refine (st52_0_0 N  _ _ _ (fun s => (lp Tryd.f52 0).rounds lay (E52 N) (retMask Tryd.f52) F s K) K).trans ?_
    simp only [ih]
    rfl
theorem lk52_0 {β : Type} (N : Nat) : lookL (E52 (β := β) N).loops (lp Tryd.f52 0).id = LS52_0 N := by kernel_rfl
theorem rk52_0 {β : Type} (N : Nat) : RoundsOK lay (E52 (β := β) N) (retMask Tryd.f52) (lp Tryd.f52 0) := by
  intro s K r h
  rw [lk52_0] at h
  unfold LS52_0 VLS52_0 at h
  cases hb : shpSt (h52_0_0 [] ByteArray.empty 0) s with
  | true =>
    rw [hb, cond_true] at h
    exact ⟨N, by rw [← shpSt_ref hb, fl52_0_0 s]; exact (ro52_0_0 N  K N (rInts (rowV (oneA (vT (nx tund s.tmps 0))))) (strS (oneA (vT (nx tund s.tmps 3)))) (intS (oneA (vT (nx tund s.tmps 4))))).trans h⟩
  | false =>
  rw [hb, cond_false] at h
  clear hb
  cases h
def BV_spec_l34Numbers {β : Type} (N : Nat) (q_spec_l34Numbers_l0 : Nat → List Int → ByteArray → Int → (ByteArray → Option β) → Option β) (a0 : List Int) (k : ByteArray → Option β) : Option β :=
q_spec_l34Numbers_l0  N a0 ByteArray.empty 0 (fun e4_0 =>
(cond ((e4_0.toList == ByteArray.empty.toList))
(k ((strOf [110, 111, 110, 101])))
(k e4_0)))
theorem t_spec_l34Numbers {β : Type} (N : Nat) (a0 : List Int) (k : ByteArray → Option β) : spec_l34Numbers N a0 k = BV_spec_l34Numbers N (spec_l34Numbers_l0 N) a0 k := by
  unfold spec_l34Numbers BV_spec_l34Numbers
  rfl
theorem ve52_0 {β : Type} (N : Nat) (q_spec_FormatInt : (a0 : Int) → (k : ByteArray → Option β) → Option β) (q_spec_l34Numbers_l0 : Nat → List Int → ByteArray → Int → (ByteArray → Option β) → Option β)  (a0 : List Int) (K : TV → Option β) : evFn lay (VE52 N q_spec_FormatInt q_spec_l34Numbers_l0) Tryd.f52 [.v (.one (.sl 3 (.ints .i64 a0)))] K = BV_spec_l34Numbers N q_spec_l34Numbers_l0 a0 (fun z1 => K (.v (.one (.str z1)))) := by kernel_rfl
theorem e52_0 {β : Type} (N : Nat)  (a0 : List Int) (K : TV → Option β) : evFn lay (E52 N) Tryd.f52 [.v (.one (.sl 3 (.ints .i64 a0)))] K = spec_l34Numbers N a0 (fun z1 => K (.v (.one (.str z1)))) := (ve52_0 N (spec_FormatInt N) (spec_l34Numbers_l0 N) a0 K).trans (t_spec_l34Numbers N a0 (fun z1 => K (.v (.one (.str z1))))).symm
theorem o52 {β : Type} (N : Nat) : SpecOK (β := β) inv Tryd.prog 52 (S52 N) := by
  refine spec_of lay_ok mixed (E := E52 N) (specs_loops (specs_cons (o55 N) specs_nil)) muts_nil gs_nil Tryd.func52 (by kernel_rfl) 1 (by kernel_rfl) ⟨trivial, rk52_0 N⟩ fun args K r h => ?_
  unfold S52 VS52 at h
  split at h
  · exact (e52_0 N _ _).trans h
  · cases h
end Go.Proofs.YtfdggelojmofmaaDoor
