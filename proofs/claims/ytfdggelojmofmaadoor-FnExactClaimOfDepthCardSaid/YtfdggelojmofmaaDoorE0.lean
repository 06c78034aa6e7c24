/- The functions that the claims reach answer as their texts do. -/
import Derived.Test.YtfdggelojmofmaaDoorT0
import Derived.Test.YtfdggelojmofmaaDoorProg
import Derived.KernelRfl
import Derived.Test.YtfdggelojmofmaaDoorShelf
namespace Go.Proofs.YtfdggelojmofmaaDoor
open Go.Rv
set_option maxRecDepth 100000
set_option maxHeartbeats 2000000
set_option linter.unusedVariables false
def lay : Lay := [(2, .int .i64),
  (3, .int .i64),
  (4, .bool),
  (5, .int .u8),
  (9, .string),
  (12, .int .u64),
  (21, .int .i32),
  (22, .struct [⟨0, 1, false⟩, ⟨1, 1, false⟩] [3, 3] 16 true),
  (23, .struct [⟨0, 1, false⟩, ⟨1, 1, false⟩] [3, 3] 16 true),
  (24, .struct [⟨0, 1, false⟩, ⟨1, 1, false⟩] [3, 3] 16 true),
  (25, .slice 3),
  (26, .struct [⟨0, 1, false⟩, ⟨1, 2, true⟩, ⟨3, 1, false⟩, ⟨4, 1, false⟩, ⟨5, 1, false⟩, ⟨6, 1, false⟩] [3, 3, 3, 3, 3, 9, 25] 80 false),
  (27, .struct [⟨0, 1, false⟩, ⟨1, 2, true⟩, ⟨3, 1, false⟩, ⟨4, 1, false⟩, ⟨5, 1, false⟩, ⟨6, 1, false⟩] [3, 3, 3, 3, 3, 9, 25] 80 false),
  (34, .slice 52),
  (51, .struct [⟨0, 1, false⟩, ⟨1, 1, false⟩] [3, 3] 16 true),
  (52, .struct [⟨0, 1, false⟩, ⟨1, 1, false⟩] [3, 3] 16 true),
  (57, .slice 9),
  (64, .struct [⟨0, 1, false⟩] [57] 24 false),
  (65, .struct [⟨0, 1, false⟩] [57] 24 false),
  (73, .slice 120),
  (90, .pointer 156),
  (93, .struct [⟨0, 1, false⟩, ⟨1, 1, false⟩] [3, 3] 16 true),
  (94, .struct [⟨0, 1, false⟩, ⟨1, 1, false⟩] [3, 3] 16 true),
  (95, .pointer 162),
  (103, .int .u64),
  (105, .slice 5),
  (106, .pointer 65),
  (113, .slice 25),
  (119, .struct [⟨0, 1, false⟩, ⟨1, 1, false⟩, ⟨2, 1, false⟩] [3, 3, 3] 24 true),
  (120, .struct [⟨0, 1, false⟩, ⟨1, 1, false⟩, ⟨2, 1, false⟩] [3, 3, 3] 24 true),
  (122, .pointer 125),
  (123, .map 24 3),
  (124, .struct [⟨0, 1, false⟩, ⟨1, 1, false⟩, ⟨2, 1, false⟩] [25, 73, 123] 56 false),
  (125, .struct [⟨0, 1, false⟩, ⟨1, 1, false⟩, ⟨2, 1, false⟩] [25, 73, 123] 56 false),
  (129, .pointer 131),
  (130, .struct [⟨0, 2, true⟩, ⟨2, 1, false⟩, ⟨3, 1, false⟩, ⟨4, 1, false⟩] [3, 3, 3, 3, 25] 56 false),
  (131, .struct [⟨0, 2, true⟩, ⟨2, 1, false⟩, ⟨3, 1, false⟩, ⟨4, 1, false⟩] [3, 3, 3, 3, 25] 56 false),
  (134, .map 3 3),
  (136, .int .u64),
  (138, .map 3 4),
  (139, .pointer 187),
  (140, .struct [⟨0, 1, false⟩, ⟨1, 1, false⟩] [3, 3] 16 true),
  (141, .struct [⟨0, 1, false⟩, ⟨1, 1, false⟩] [3, 3] 16 true),
  (154, .map 94 3),
  (155, .struct [⟨0, 2, true⟩, ⟨2, 1, false⟩, ⟨3, 1, false⟩] [3, 3, 154, 154] 32 false),
  (156, .struct [⟨0, 2, true⟩, ⟨2, 1, false⟩, ⟨3, 1, false⟩] [3, 3, 154, 154] 32 false),
  (161, .struct [⟨0, 1, false⟩, ⟨1, 1, false⟩, ⟨2, 1, false⟩] [5, 95, 95] 24 false),
  (162, .struct [⟨0, 1, false⟩, ⟨1, 1, false⟩, ⟨2, 1, false⟩] [5, 95, 95] 24 false),
  (167, .pointer 169),
  (168, .struct [⟨0, 1, false⟩, ⟨1, 1, false⟩] [167, 105] 32 false),
  (169, .struct [⟨0, 1, false⟩, ⟨1, 1, false⟩] [167, 105] 32 false),
  (179, .slice 4),
  (185, .map 141 3),
  (186, .struct [⟨0, 2, true⟩, ⟨2, 1, false⟩, ⟨3, 1, false⟩] [3, 3, 3, 185] 32 false),
  (187, .struct [⟨0, 2, true⟩, ⟨2, 1, false⟩, ⟨3, 1, false⟩] [3, 3, 3, 185] 32 false),
  (192, .array 2 4),
  (197, .pointer 5),
  (199, .int .u32),
  (212, .struct [⟨0, 1, false⟩, ⟨1, 1, false⟩] [5, 5] 2 true),
  (213, .struct [⟨0, 1, false⟩, ⟨1, 1, false⟩] [5, 5] 2 true)]

theorem lay_ok : LayOK Tryd.prog lay := layOK_of (by decide +kernel)
theorem mixed : Tryd.prog.follows .mixedOrders = true := by kernel_rfl
def inv : World → Prop := tabInv Tryd.prog
def S130 {β : Type} (N : Nat) : Rv.Spec β := itoaSpec N
theorem o130 {β : Type} (N : Nat) : SpecOK (β := β) inv Tryd.prog 130 (S130 N) := itoa_ok Tryd.func130 (by kernel_rfl) Tryd.strconv_Itoa N
def VS11 {β : Type} (N : Nat) (q_laws_toTable : (a0 : Int) → (a1 : Int) → (k : Int → Int → Option β) → Option β) : Rv.Spec β := fun args K => match args with
  | [.v (.agg [.int .i64 a0, .int .i64 a1])] => q_laws_toTable a0 a1 (fun z2 z3 => K (.v (.agg [.int .i64 z2, .int .i64 z3])))
  | _ => none
def S11 {β : Type} (N : Nat) : Rv.Spec β := VS11 N (laws_toTable N)
def VE11 {β : Type} (N : Nat) : Env β := ⟨[], [], [], [], ⟨[], [], []⟩⟩
def E11 {β : Type} (N : Nat) : Env β := VE11 N
def BV_laws_toTable {β : Type} (N : Nat) (a0 : Int) (a1 : Int) (k : Int → Int → Option β) : Option β :=
k a0 a1
theorem t_laws_toTable {β : Type} (N : Nat) (a0 : Int) (a1 : Int) (k : Int → Int → Option β) : laws_toTable N a0 a1 k = BV_laws_toTable N a0 a1 k := by
  unfold laws_toTable BV_laws_toTable
  rfl
theorem ve11_0 {β : Type} (N : Nat)  (a0 : Int) (a1 : Int) (K : TV → Option β) : evFn lay (VE11 N) Tryd.f11 [.v (.agg [.int .i64 a0, .int .i64 a1])] K = BV_laws_toTable N a0 a1 (fun z2 z3 => K (.v (.agg [.int .i64 z2, .int .i64 z3]))) := by kernel_rfl
theorem e11_0 {β : Type} (N : Nat)  (a0 : Int) (a1 : Int) (K : TV → Option β) : evFn lay (E11 N) Tryd.f11 [.v (.agg [.int .i64 a0, .int .i64 a1])] K = laws_toTable N a0 a1 (fun z2 z3 => K (.v (.agg [.int .i64 z2, .int .i64 z3]))) := (ve11_0 N a0 a1 K).trans (t_laws_toTable N a0 a1 (fun z2 z3 => K (.v (.agg [.int .i64 z2, .int .i64 z3])))).symm
theorem o11 {β : Type} (N : Nat) : SpecOK (β := β) inv Tryd.prog 11 (S11 N) := by
  refine spec_of lay_ok mixed (E := E11 N) (specs_loops specs_nil) muts_nil gs_nil Tryd.func11 (by kernel_rfl) 0 (by kernel_rfl) trivial fun args K r h => ?_
  unfold S11 VS11 at h
  split at h
  · exact (e11_0 N _ _ _).trans h
  · cases h
def VS43 {β : Type} (N : Nat) (q_spec_l1In : (a0 : Int) → (a1 : Int) → (a2 : Int) → (k : Bool → Option β) → Option β) : Rv.Spec β := fun args K => match args with
  | [.v (.one (.int .i64 a0)), .v (.one (.int .i64 a1)), .v (.one (.int .i64 a2))] => q_spec_l1In a0 a1 a2 (fun z3 => K (.v (.one (.bool z3))))
  | _ => none
def S43 {β : Type} (N : Nat) : Rv.Spec β := VS43 N (spec_l1In N)
def VE43 {β : Type} (N : Nat) : Env β := ⟨[], [], [], [], ⟨[], [], []⟩⟩
def E43 {β : Type} (N : Nat) : Env β := VE43 N
def BV_spec_l1In {β : Type} (N : Nat) (a0 : Int) (a1 : Int) (a2 : Int) (k : Bool → Option β) : Option β :=
(cond ((decide (a0 ≥ a1)))
(k ((decide (a0 ≤ a2))))
(k false))
theorem t_spec_l1In {β : Type} (N : Nat) (a0 : Int) (a1 : Int) (a2 : Int) (k : Bool → Option β) : spec_l1In N a0 a1 a2 k = BV_spec_l1In N a0 a1 a2 k := by
  unfold spec_l1In BV_spec_l1In
  rfl
theorem ve43_0 {β : Type} (N : Nat)  (a0 : Int) (a1 : Int) (a2 : Int) (K : TV → Option β) : evFn lay (VE43 N) Tryd.f43 [.v (.one (.int .i64 a0)), .v (.one (.int .i64 a1)), .v (.one (.int .i64 a2))] K = BV_spec_l1In N a0 a1 a2 (fun z3 => K (.v (.one (.bool z3)))) := by kernel_rfl
theorem e43_0 {β : Type} (N : Nat)  (a0 : Int) (a1 : Int) (a2 : Int) (K : TV → Option β) : evFn lay (E43 N) Tryd.f43 [.v (.one (.int .i64 a0)), .v (.one (.int .i64 a1)), .v (.one (.int .i64 a2))] K = spec_l1In N a0 a1 a2 (fun z3 => K (.v (.one (.bool z3)))) := (ve43_0 N a0 a1 a2 K).trans (t_spec_l1In N a0 a1 a2 (fun z3 => K (.v (.one (.bool z3))))).symm
theorem o43 {β : Type} (N : Nat) : SpecOK (β := β) inv Tryd.prog 43 (S43 N) := by
  refine spec_of lay_ok mixed (E := E43 N) (specs_loops specs_nil) muts_nil gs_nil Tryd.func43 (by kernel_rfl) 0 (by kernel_rfl) trivial fun args K r h => ?_
  unfold S43 VS43 at h
  split at h
  · exact (e43_0 N _ _ _ _).trans h
  · cases h
def VS51 {β : Type} (N : Nat) (q_spec_IsTable : (a0 : Int) → (a1 : Int) → (k : Bool → Option β) → Option β) : Rv.Spec β := fun args K => match args with
  | [.v (.agg [.int .i64 a0, .int .i64 a1])] => q_spec_IsTable a0 a1 (fun z2 => K (.v (.one (.bool z2))))
  | _ => none
def S51 {β : Type} (N : Nat) : Rv.Spec β := VS51 N (spec_IsTable N)
def VE51 {β : Type} (N : Nat) (q_spec_l1In : (a0 : Int) → (a1 : Int) → (a2 : Int) → (k : Bool → Option β) → Option β) : Env β := ⟨[(43, VS43 N q_spec_l1In)], [], [], [], ⟨[], [], []⟩⟩
def E51 {β : Type} (N : Nat) : Env β := VE51 N (spec_l1In N)
def BV_spec_IsTable {β : Type} (N : Nat) (q_spec_l1In : (a0 : Int) → (a1 : Int) → (a2 : Int) → (k : Bool → Option β) → Option β) (a0 : Int) (a1 : Int) (k : Bool → Option β) : Option β :=
q_spec_l1In a0 0 5 fun r3 =>
(cond r3
((gd ((decide (0 ≤ a0)))
((gd ((decide (0 ≤ (shlI .u64 1 a0))))
(q_spec_l1In a1 0 ((w64 ((shlI .i64 1 (shlI .u64 1 a0)) - 1))) fun r4 =>
k r4)))))
(k false))
theorem t_spec_IsTable {β : Type} (N : Nat) (a0 : Int) (a1 : Int) (k : Bool → Option β) : spec_IsTable N a0 a1 k = BV_spec_IsTable N (spec_l1In N) a0 a1 k := by
  unfold spec_IsTable BV_spec_IsTable
  rfl
theorem ve51_0 {β : Type} (N : Nat) (q_spec_l1In : (a0 : Int) → (a1 : Int) → (a2 : Int) → (k : Bool → Option β) → Option β)  (a0 : Int) (a1 : Int) (K : TV → Option β) : evFn lay (VE51 N q_spec_l1In) Tryd.f51 [.v (.agg [.int .i64 a0, .int .i64 a1])] K = BV_spec_IsTable N q_spec_l1In a0 a1 (fun z2 => K (.v (.one (.bool z2)))) := by kernel_rfl
theorem e51_0 {β : Type} (N : Nat)  (a0 : Int) (a1 : Int) (K : TV → Option β) : evFn lay (E51 N) Tryd.f51 [.v (.agg [.int .i64 a0, .int .i64 a1])] K = spec_IsTable N a0 a1 (fun z2 => K (.v (.one (.bool z2)))) := (ve51_0 N (spec_l1In N) a0 a1 K).trans (t_spec_IsTable N a0 a1 (fun z2 => K (.v (.one (.bool z2))))).symm
theorem o51 {β : Type} (N : Nat) : SpecOK (β := β) inv Tryd.prog 51 (S51 N) := by
  refine spec_of lay_ok mixed (E := E51 N) (specs_loops (specs_cons (o43 N) specs_nil)) muts_nil gs_nil Tryd.func51 (by kernel_rfl) 0 (by kernel_rfl) trivial fun args K r h => ?_
  unfold S51 VS51 at h
  split at h
  · exact (e51_0 N _ _ _).trans h
  · cases h
def VS171 {β : Type} (N : Nat) (q_spec_l3Cube : (a0 : Int) → (a1 : Int) → (a2 : Int) → (a3 : Int) → (k : Int → Option β) → Option β) : Rv.Spec β := fun args K => match args with
  | [.v (.agg [.int .i64 a0, .int .i64 a1]), .v (.one (.int .i64 a2)), .v (.one (.int .i64 a3))] => q_spec_l3Cube a0 a1 a2 a3 (fun z4 => K (.v (.one (.int .i64 z4))))
  | _ => none
def S171 {β : Type} (N : Nat) : Rv.Spec β := VS171 N (spec_l3Cube N)
def h171_0_0  (v0 : Int) (v1 : Int) (v2 : Int) (v3 : Int) (v4 : Int) (v5 : Int) : St := ⟨.v (.one .und) :: .v (.one (.int .i64 v0)) :: .v (.one (.int .i64 v1)) :: .v (.one (.ptr 0 0)) :: .v (.one .und) :: .v (.one .und) :: .v (.one .und) :: .v (.one (.int .i64 v2)) :: .v (.one (.int .i64 v3)) :: .v (.one .und) :: .v (.one .und) :: .v (.one .und) :: .v (.one .und) :: .v (.one .und) :: .v (.one .und) :: .v (.one .und) :: .v (.one .und) :: .v (.one .und) :: .v (.one .und) :: .v (.one .und) :: .v (.one .und) :: .v (.one .und) :: .v (.one .und) :: .v (.one .und) :: .v (.one .und) :: .v (.one .und) :: .v (.one .und) :: .v (.one .und) :: .v (.one .und) :: .v (.one .und) :: .v (.one .und) :: .v (.one .und) :: .v (.one .und) :: .v (.one .und) :: .v (.one .und) :: .v (.one .und) :: [], [.cells 24 [.int .i64 v4, .int .i64 v5]]⟩
def x171_0_0_k0  (y0 : Int) : St := ⟨.v (.one .und) :: .v (.one .und) :: .v (.one .und) :: .v (.one .und) :: .v (.one .und) :: .v (.one .und) :: .v (.one (.int .i64 y0)) :: .v (.one .und) :: .v (.one .und) :: .v (.one .und) :: .v (.one .und) :: .v (.one .und) :: .v (.one .und) :: .v (.one .und) :: .v (.one .und) :: .v (.one .und) :: .v (.one .und) :: .v (.one .und) :: .v (.one .und) :: .v (.one .und) :: .v (.one .und) :: .v (.one .und) :: .v (.one .und) :: .v (.one .und) :: .v (.one .und) :: .v (.one .und) :: .v (.one .und) :: .v (.one .und) :: .v (.one .und) :: .v (.one .und) :: .v (.one .und) :: .v (.one .und) :: .v (.one .und) :: .v (.one .und) :: .v (.one .und) :: .v (.one .und) :: [], []⟩
def x171_0_0_k1  (y0 : Int) : St := ⟨.v (.one .und) :: .v (.one .und) :: .v (.one .und) :: .v (.one .und) :: .v (.one .und) :: .v (.one .und) :: .v (.one .und) :: .v (.one (.int .i64 y0)) :: .v (.one .und) :: .v (.one .und) :: .v (.one .und) :: .v (.one .und) :: .v (.one .und) :: .v (.one .und) :: .v (.one .und) :: .v (.one .und) :: .v (.one .und) :: .v (.one .und) :: .v (.one .und) :: .v (.one .und) :: .v (.one .und) :: .v (.one .und) :: .v (.one .und) :: .v (.one .und) :: .v (.one .und) :: .v (.one .und) :: .v (.one .und) :: .v (.one .und) :: .v (.one .und) :: .v (.one .und) :: .v (.one .und) :: .v (.one .und) :: .v (.one .und) :: .v (.one .und) :: .v (.one .und) :: .v (.one .und) :: [], []⟩
theorem fl171_0_0 (s : St) : refSt (h171_0_0 0 0 0 0 0 0) s = h171_0_0 (intS (oneA (vT (nx tund s.tmps 1)))) (intS (oneA (vT (nx tund s.tmps 2)))) (intS (oneA (vT (nx tund s.tmps 7)))) (intS (oneA (vT (nx tund s.tmps 8)))) (intS (nx .und (cellsB (nx .dead s.blks 0)) 0)) (intS (nx .und (cellsB (nx .dead s.blks 0)) 1)) := by kernel_rfl
def VLS171_0 {β : Type} (N : Nat) (q_spec_l3Cube_l0 : Nat → Int → Int → Int → Int → Int → Int → (Int → Option β) → (Int → Option β) → Option β) : LSpec β := fun s K => cond (shpSt (h171_0_0 0 0 0 0 0 0) s) ((fun (v0 : Int) (v1 : Int) (v2 : Int) (v3 : Int) (v4 : Int) (v5 : Int) => q_spec_l3Cube_l0  N v0 v1 v2 v3 v4 v5 (fun y0 => K .ret (x171_0_0_k0  y0)) (fun y0 => K (.exit 0) (x171_0_0_k1  y0))) (intS (oneA (vT (nx tund s.tmps 1)))) (intS (oneA (vT (nx tund s.tmps 2)))) (intS (oneA (vT (nx tund s.tmps 7)))) (intS (oneA (vT (nx tund s.tmps 8)))) (intS (nx .und (cellsB (nx .dead s.blks 0)) 0)) (intS (nx .und (cellsB (nx .dead s.blks 0)) 1))) (none)
def LS171_0 {β : Type} (N : Nat) : LSpec β := VLS171_0 N (spec_l3Cube_l0 N)
def VE171 {β : Type} (N : Nat) (q_spec_l3Cube_l0 : Nat → Int → Int → Int → Int → Int → Int → (Int → Option β) → (Int → Option β) → Option β) : Env β := ⟨[], [], [(0, VLS171_0 N q_spec_l3Cube_l0)], [], ⟨[], [], []⟩⟩
def E171 {β : Type} (N : Nat) : Env β := VE171 N (spec_l3Cube_l0 N)
def BV_spec_l3Cube_l0b {β : Type} (N : Nat)  (v0 : Int) (v1 : Int) (v2 : Int) (v3 : Int) (v4 : Int) (v5 : Int) (rec_ : Int → Int → Int → Int → Int → Int → Option β) (k0 : Int → Option β) (k1 : Int → Option β) : Option β :=
(gd ((decide (0 ≤ v4)))
((cond ((decide (v3 < (shlI .i64 1 v4))))
((cond (((bits .and .i64 v3 v0) != v1))
(rec_ v0 v1 v2 ((w64 (v3 + 1))) v4 v5)
((gd ((decide (0 ≤ v3)))
((cond ((decide (v2 ≥ 0)))
((cond ((v2 != (bits .and .i64 (shrI .i64 v5 v3) 1)))
(k0 2)
(rec_ v0 v1 ((bits .and .i64 (shrI .i64 v5 v3) 1)) ((w64 (v3 + 1))) v4 v5)))
(rec_ v0 v1 ((bits .and .i64 (shrI .i64 v5 v3) 1)) ((w64 (v3 + 1))) v4 v5)))))))
(k1 v2))))
theorem t_spec_l3Cube_l0b {β : Type} (N : Nat)  (v0 : Int) (v1 : Int) (v2 : Int) (v3 : Int) (v4 : Int) (v5 : Int) (rec_ : Int → Int → Int → Int → Int → Int → Option β) (k0 : Int → Option β) (k1 : Int → Option β) : spec_l3Cube_l0b N v0 v1 v2 v3 v4 v5 rec_ k0 k1 = BV_spec_l3Cube_l0b N v0 v1 v2 v3 v4 v5 rec_ k0 k1 := by
  unfold spec_l3Cube_l0b BV_spec_l3Cube_l0b
  rfl
theorem vst171_0_0 {β : Type} (N : Nat) (q_spec_l3Cube_l0 : Nat → Int → Int → Int → Int → Int → Int → (Int → Option β) → (Int → Option β) → Option β)  (v0 : Int) (v1 : Int) (v2 : Int) (v3 : Int) (v4 : Int) (v5 : Int) (rec_ : St → Option β) (K : Exit → St → Option β) :
    ev lay (VE171 N q_spec_l3Cube_l0) (retMask Tryd.f171) (lp Tryd.f171 0).body (lp Tryd.f171 0).ex ((lp Tryd.f171 0).lv (retMask Tryd.f171)) (h171_0_0  v0 v1 v2 v3 v4 v5) (nextR (fun s' => rec_ (s'.tidy ((lp Tryd.f171 0).lv (retMask Tryd.f171)))) K) = BV_spec_l3Cube_l0b N  v0 v1 v2 v3 v4 v5 (fun v0 v1 v2 v3 v4 v5 => rec_ (h171_0_0  v0 v1 v2 v3 v4 v5)) (fun y0 => K .ret (x171_0_0_k0  y0)) (fun y0 => K (.exit 0) (x171_0_0_k1  y0)) := by kernel_rfl
theorem st171_0_0 {β : Type} (N : Nat)  (v0 : Int) (v1 : Int) (v2 : Int) (v3 : Int) (v4 : Int) (v5 : Int) (rec_ : St → Option β) (K : Exit → St → Option β) :
    ev lay (E171 N) (retMask Tryd.f171) (lp Tryd.f171 0).body (lp Tryd.f171 0).ex ((lp Tryd.f171 0).lv (retMask Tryd.f171)) (h171_0_0  v0 v1 v2 v3 v4 v5) (nextR (fun s' => rec_ (s'.tidy ((lp Tryd.f171 0).lv (retMask Tryd.f171)))) K) = spec_l3Cube_l0b N  v0 v1 v2 v3 v4 v5 (fun v0 v1 v2 v3 v4 v5 => rec_ (h171_0_0  v0 v1 v2 v3 v4 v5)) (fun y0 => K .ret (x171_0_0_k0  y0)) (fun y0 => K (.exit 0) (x171_0_0_k1  y0)) := (vst171_0_0 N (spec_l3Cube_l0 N) v0 v1 v2 v3 v4 v5 rec_ K).trans (t_spec_l3Cube_l0b N  v0 v1 v2 v3 v4 v5 (fun v0 v1 v2 v3 v4 v5 => rec_ (h171_0_0  v0 v1 v2 v3 v4 v5)) (fun y0 => K .ret (x171_0_0_k0  y0)) (fun y0 => K (.exit 0) (x171_0_0_k1  y0))).symm
theorem ro171_0_0 {β : Type} (N : Nat)  (K : Exit → St → Option β) : ∀ (F : Nat) (v0 : Int) (v1 : Int) (v2 : Int) (v3 : Int) (v4 : Int) (v5 : Int), (lp Tryd.f171 0).rounds lay (E171 N) (retMask Tryd.f171) F (h171_0_0  v0 v1 v2 v3 v4 v5) K = spec_l3Cube_l0 N  F v0 v1 v2 v3 v4 v5 (fun y0 => K .ret (x171_0_0_k0  y0)) (fun y0 => K (.exit 0) (x171_0_0_k1  y0)) := by
  intro F
  induction F with
  | zero => intros; rfl
  | succ F ih =>
    intros
    rw [rounds_next]
    refine (st171_0_0 N  _ _ _ _ _ _ (fun s => (lp Tryd.f171 0).rounds lay (E171 N) (retMask Tryd.f171) F s K) K).trans ?_
    simp only [ih]
    rfl
theorem lk171_0 {β : Type} (N : Nat) : lookL (E171 (β := β) N).loops (lp Tryd.f171 0).id = LS171_0 N := by kernel_rfl
theorem rk171_0 {β : Type} (N : Nat) : RoundsOK lay (E171 (β := β) N) (retMask Tryd.f171) (lp Tryd.f171 0) := by
  intro s K r h
  rw [lk171_0] at h
  unfold LS171_0 VLS171_0 at h
  cases hb : shpSt (h171_0_0 0 0 0 0 0 0) s with
  | true =>
    rw [hb, cond_true] at h
    exact ⟨N, by rw [← shpSt_ref hb, fl171_0_0 s]; exact (ro171_0_0 N  K N (intS (oneA (vT (nx tund s.tmps 1)))) (intS (oneA (vT (nx tund s.tmps 2)))) (intS (oneA (vT (nx tund s.tmps 7)))) (intS (oneA (vT (nx tund s.tmps 8)))) (intS (nx .und (cellsB (nx .dead s.blks 0)) 0)) (intS (nx .und (cellsB (nx .dead s.blks 0)) 1))).trans h⟩
  | false =>
  rw [hb, cond_false] at h
  clear hb
  cases h
def BV_spec_l3Cube {β : Type} (N : Nat) (q_spec_l3Cube_l0 : Nat → Int → Int → Int → Int → Int → Int → (Int → Option β) → (Int → Option β) → Option β) (a0 : Int) (a1 : Int) (a2 : Int) (a3 : Int) (k : Int → Option β) : Option β :=
q_spec_l3Cube_l0  N a2 a3 (-1) 0 a0 a1 (fun e5_0 =>
k e5_0) (fun e6_0 =>
k e6_0)
theorem t_spec_l3Cube {β : Type} (N : Nat) (a0 : Int) (a1 : Int) (a2 : Int) (a3 : Int) (k : Int → Option β) : spec_l3Cube N a0 a1 a2 a3 k = BV_spec_l3Cube N (spec_l3Cube_l0 N) a0 a1 a2 a3 k := by
  unfold spec_l3Cube BV_spec_l3Cube
  rfl
theorem ve171_0 {β : Type} (N : Nat) (q_spec_l3Cube_l0 : Nat → Int → Int → Int → Int → Int → Int → (Int → Option β) → (Int → Option β) → Option β)  (a0 : Int) (a1 : Int) (a2 : Int) (a3 : Int) (K : TV → Option β) : evFn lay (VE171 N q_spec_l3Cube_l0) Tryd.f171 [.v (.agg [.int .i64 a0, .int .i64 a1]), .v (.one (.int .i64 a2)), .v (.one (.int .i64 a3))] K = BV_spec_l3Cube N q_spec_l3Cube_l0 a0 a1 a2 a3 (fun z4 => K (.v (.one (.int .i64 z4)))) := by kernel_rfl
theorem e171_0 {β : Type} (N : Nat)  (a0 : Int) (a1 : Int) (a2 : Int) (a3 : Int) (K : TV → Option β) : evFn lay (E171 N) Tryd.f171 [.v (.agg [.int .i64 a0, .int .i64 a1]), .v (.one (.int .i64 a2)), .v (.one (.int .i64 a3))] K = spec_l3Cube N a0 a1 a2 a3 (fun z4 => K (.v (.one (.int .i64 z4)))) := (ve171_0 N (spec_l3Cube_l0 N) a0 a1 a2 a3 K).trans (t_spec_l3Cube N a0 a1 a2 a3 (fun z4 => K (.v (.one (.int .i64 z4))))).symm
theorem o171 {β : Type} (N : Nat) : SpecOK (β := β) inv Tryd.prog 171 (S171 N) := by
  refine spec_of lay_ok mixed (E := E171 N) (specs_loops specs_nil) muts_nil gs_nil Tryd.func171 (by kernel_rfl) 1 (by kernel_rfl) ⟨trivial, rk171_0 N⟩ fun args K r h => ?_
  unfold S171 VS171 at h
  split at h
  · exact (e171_0 N _ _ _ _ _).trans h
  · cases h
def VSF172 {β : Type} (N : Nat) (q_spec_l7Least_f : Nat → Int → Int → Int → Int → (Int → Option β) → Option β) (G : Nat) : Rv.Spec β := fun args K => match args with
  | [.v (.agg [.int .i64 a0, .int .i64 a1]), .v (.one (.int .i64 a2)), .v (.one (.int .i64 a3))] => q_spec_l7Least_f G a0 a1 a2 a3 (fun z4 => K (.v (.one (.int .i64 z4))))
  | _ => none
def SF172 {β : Type} (N : Nat) (G : Nat) : Rv.Spec β := VSF172 N (spec_l7Least_f N) G
def VS172 {β : Type} (N : Nat) (q_spec_l7Least_f : Nat → Int → Int → Int → Int → (Int → Option β) → Option β) : Rv.Spec β := VSF172 N q_spec_l7Least_f N
def S172 {β : Type} (N : Nat) : Rv.Spec β := SF172 N N
def h172_0_0  (v0 : Int) (v1 : Int) (v2 : Int) (v3 : Int) (v4 : Int) (v5 : Int) : St := ⟨.v (.one .und) :: .v (.one (.int .i64 v0)) :: .v (.one (.int .i64 v1)) :: .v (.one (.ptr 0 0)) :: .v (.one .und) :: .v (.one .und) :: .v (.one .und) :: .v (.one (.int .i64 v2)) :: .v (.one (.int .i64 v3)) :: .v (.one .und) :: .v (.one .und) :: .v (.one .und) :: .v (.one .und) :: .v (.one .und) :: .v (.one .und) :: .v (.one .und) :: .v (.one .und) :: .v (.one .und) :: .v (.one .und) :: .v (.one .und) :: .v (.one .und) :: .v (.one .und) :: .v (.one .und) :: .v (.one .und) :: .v (.one .und) :: .v (.one .und) :: .v (.one .und) :: .v (.one .und) :: .v (.one .und) :: .v (.one .und) :: .v (.one .und) :: .v (.one .und) :: .v (.one .und) :: .v (.one .und) :: .v (.one .und) :: .v (.one .und) :: .v (.one .und) :: .v (.one .und) :: .v (.one .und) :: .v (.one .und) :: .v (.one .und) :: .v (.one .und) :: .v (.one .und) :: .v (.one .und) :: .v (.one .und) :: .v (.one .und) :: [], [.cells 24 [.int .i64 v4, .int .i64 v5]]⟩
def x172_0_0_k0  (y0 : Int) : St := ⟨.v (.one .und) :: .v (.one .und) :: .v (.one .und) :: .v (.one .und) :: .v (.one .und) :: .v (.one .und) :: .v (.one .und) :: .v (.one (.int .i64 y0)) :: .v (.one .und) :: .v (.one .und) :: .v (.one .und) :: .v (.one .und) :: .v (.one .und) :: .v (.one .und) :: .v (.one .und) :: .v (.one .und) :: .v (.one .und) :: .v (.one .und) :: .v (.one .und) :: .v (.one .und) :: .v (.one .und) :: .v (.one .und) :: .v (.one .und) :: .v (.one .und) :: .v (.one .und) :: .v (.one .und) :: .v (.one .und) :: .v (.one .und) :: .v (.one .und) :: .v (.one .und) :: .v (.one .und) :: .v (.one .und) :: .v (.one .und) :: .v (.one .und) :: .v (.one .und) :: .v (.one .und) :: .v (.one .und) :: .v (.one .und) :: .v (.one .und) :: .v (.one .und) :: .v (.one .und) :: .v (.one .und) :: .v (.one .und) :: .v (.one .und) :: .v (.one .und) :: .v (.one .und) :: [], []⟩
theorem fl172_0_0 (s : St) : refSt (h172_0_0 0 0 0 0 0 0) s = h172_0_0 (intS (oneA (vT (nx tund s.tmps 1)))) (intS (oneA (vT (nx tund s.tmps 2)))) (intS (oneA (vT (nx tund s.tmps 7)))) (intS (oneA (vT (nx tund s.tmps 8)))) (intS (nx .und (cellsB (nx .dead s.blks 0)) 0)) (intS (nx .und (cellsB (nx .dead s.blks 0)) 1)) := by kernel_rfl
def VLS172_0 {β : Type} (N : Nat) (q_spec_l7Least_l0 : (self : Int → Int → Int → Int → (Int → Option β) → Option β) → Nat → Int → Int → Int → Int → Int → Int → (Int → Option β) → Option β) (q_spec_l7Least_f : Nat → Int → Int → Int → Int → (Int → Option β) → Option β) (G : Nat) : LSpec β := fun s K => cond (shpSt (h172_0_0 0 0 0 0 0 0) s) ((fun (v0 : Int) (v1 : Int) (v2 : Int) (v3 : Int) (v4 : Int) (v5 : Int) => q_spec_l7Least_l0 (q_spec_l7Least_f G)  N v0 v1 v2 v3 v4 v5 (fun y0 => K (.exit 0) (x172_0_0_k0  y0))) (intS (oneA (vT (nx tund s.tmps 1)))) (intS (oneA (vT (nx tund s.tmps 2)))) (intS (oneA (vT (nx tund s.tmps 7)))) (intS (oneA (vT (nx tund s.tmps 8)))) (intS (nx .und (cellsB (nx .dead s.blks 0)) 0)) (intS (nx .und (cellsB (nx .dead s.blks 0)) 1))) (none)
def LS172_0 {β : Type} (N : Nat) (G : Nat) : LSpec β := VLS172_0 N (spec_l7Least_l0 N) (spec_l7Least_f N) G
def VE172 {β : Type} (N : Nat) (q_spec_l3Cube : (a0 : Int) → (a1 : Int) → (a2 : Int) → (a3 : Int) → (k : Int → Option β) → Option β) (q_spec_l7Least_f : Nat → Int → Int → Int → Int → (Int → Option β) → Option β) (q_spec_l7Least_l0 : (self : Int → Int → Int → Int → (Int → Option β) → Option β) → Nat → Int → Int → Int → Int → Int → Int → (Int → Option β) → Option β) (G : Nat) : Env β := ⟨[(171, VS171 N q_spec_l3Cube), (172, VSF172 N q_spec_l7Least_f G)], [], [(0, VLS172_0 N q_spec_l7Least_l0 q_spec_l7Least_f G)], [], ⟨[], [], []⟩⟩
def E172 {β : Type} (N : Nat) (G : Nat) : Env β := VE172 N (spec_l3Cube N) (spec_l7Least_f N) (spec_l7Least_l0 N) G
def BV_spec_l7Least_l0b {β : Type} (N : Nat) (self : Int → Int → Int → Int → (Int → Option β) → Option β)  (v0 : Int) (v1 : Int) (v2 : Int) (v3 : Int) (v4 : Int) (v5 : Int) (rec_ : Int → Int → Int → Int → Int → Int → Option β) (k0 : Int → Option β) : Option β :=
(cond ((decide (v3 < v4)))
((gd ((decide (0 ≤ v3)))
((cond (((bits .and .i64 v0 (shlI .i64 1 v3)) == 0))
(self v4 v5 ((bits .or .i64 v0 (shlI .i64 1 v3))) v1 fun r6 =>
self v4 v5 ((bits .or .i64 v0 (shlI .i64 1 v3))) ((bits .or .i64 v1 (shlI .i64 1 v3))) fun r7 =>
rec_ v0 v1 ((mnI v2 (w64 (1 + (mxI r6 r7))))) ((w64 (v3 + 1))) v4 v5)
(rec_ v0 v1 v2 ((w64 (v3 + 1))) v4 v5)))))
(k0 v2))
theorem t_spec_l7Least_l0b {β : Type} (N : Nat) (self : Int → Int → Int → Int → (Int → Option β) → Option β)  (v0 : Int) (v1 : Int) (v2 : Int) (v3 : Int) (v4 : Int) (v5 : Int) (rec_ : Int → Int → Int → Int → Int → Int → Option β) (k0 : Int → Option β) : spec_l7Least_l0b N self v0 v1 v2 v3 v4 v5 rec_ k0 = BV_spec_l7Least_l0b N self v0 v1 v2 v3 v4 v5 rec_ k0 := by
  unfold spec_l7Least_l0b BV_spec_l7Least_l0b
  rfl
theorem vst172_0_0 {β : Type} (N : Nat) (q_spec_l3Cube : (a0 : Int) → (a1 : Int) → (a2 : Int) → (a3 : Int) → (k : Int → Option β) → Option β) (q_spec_l7Least_f : Nat → Int → Int → Int → Int → (Int → Option β) → Option β) (q_spec_l7Least_l0 : (self : Int → Int → Int → Int → (Int → Option β) → Option β) → Nat → Int → Int → Int → Int → Int → Int → (Int → Option β) → Option β) (G : Nat)  (v0 : Int) (v1 : Int) (v2 : Int) (v3 : Int) (v4 : Int) (v5 : Int) (rec_ : St → Option β) (K : Exit → St → Option β) :
    ev lay (VE172 N q_spec_l3Cube q_spec_l7Least_f q_spec_l7Least_l0 G) (retMask Tryd.f172) (lp Tryd.f172 0).body (lp Tryd.f172 0).ex ((lp Tryd.f172 0).lv (retMask Tryd.f172)) (h172_0_0  v0 v1 v2 v3 v4 v5) (nextR (fun s' => rec_ (s'.tidy ((lp Tryd.f172 0).lv (retMask Tryd.f172)))) K) = BV_spec_l7Least_l0b N (q_spec_l7Least_f G)  v0 v1 v2 v3 v4 v5 (fun v0 v1 v2 v3 v4 v5 => rec_ (h172_0_0  v0 v1 v2 v3 v4 v5)) (fun y0 => K (.exit 0) (x172_0_0_k0  y0)) := by kernel_rfl
theorem st172_0_0 {β : Type} (N : Nat) (G : Nat)  (v0 : Int) (v1 : Int) (v2 : Int) (v3 : Int) (v4 : Int) (v5 : Int) (rec_ : St → Option β) (K : Exit → St → Option β) :
    ev lay (E172 N G) (retMask Tryd.f172) (lp Tryd.f172 0).body (lp Tryd.f172 0).ex ((lp Tryd.f172 0).lv (retMask Tryd.f172)) (h172_0_0  v0 v1 v2 v3 v4 v5) (nextR (fun s' => rec_ (s'.tidy ((lp Tryd.f172 0).lv (retMask Tryd.f172)))) K) = spec_l7Least_l0b N (spec_l7Least_f N G)  v0 v1 v2 v3 v4 v5 (fun v0 v1 v2 v3 v4 v5 => rec_ (h172_0_0  v0 v1 v2 v3 v4 v5)) (fun y0 => K (.exit 0) (x172_0_0_k0  y0)) := (vst172_0_0 N (spec_l3Cube N) (spec_l7Least_f N) (spec_l7Least_l0 N) G v0 v1 v2 v3 v4 v5 rec_ K).trans (t_spec_l7Least_l0b N (spec_l7Least_f N G)  v0 v1 v2 v3 v4 v5 (fun v0 v1 v2 v3 v4 v5 => rec_ (h172_0_0  v0 v1 v2 v3 v4 v5)) (fun y0 => K (.exit 0) (x172_0_0_k0  y0))).symm
theorem ro172_0_0 {β : Type} (N : Nat) (G : Nat)  (K : Exit → St → Option β) : ∀ (F : Nat) (v0 : Int) (v1 : Int) (v2 : Int) (v3 : Int) (v4 : Int) (v5 : Int), (lp Tryd.f172 0).rounds lay (E172 N G) (retMask Tryd.f172) F (h172_0_0  v0 v1 v2 v3 v4 v5) K = spec_l7Least_l0 N (spec_l7Least_f N G)  F v0 v1 v2 v3 v4 v5 (fun y0 => K (.exit 0) (x172_0_0_k0  y0)) := by
  intro F
  induction F with
  | zero => intros; rfl
  | succ F ih =>
    intros
    rw [rounds_next]
    refine (st172_0_0 N G  _ _ _ _ _ _ (fun s => (lp Tryd.f172 0).rounds lay (E172 N G) (retMask Tryd.f172) F s K) K).trans ?_
    simp only [ih]
    rfl
theorem lk172_0 {β : Type} (N : Nat) (G : Nat) : lookL (E172 (β := β) N G).loops (lp Tryd.f172 0).id = LS172_0 N G := by kernel_rfl
theorem rk172_0 {β : Type} (N : Nat) (G : Nat) : RoundsOK lay (E172 (β := β) N G) (retMask Tryd.f172) (lp Tryd.f172 0) := by
  intro s K r h
  rw [lk172_0] at h
  unfold LS172_0 VLS172_0 at h
  cases hb : shpSt (h172_0_0 0 0 0 0 0 0) s with
  | true =>
    rw [hb, cond_true] at h
    exact ⟨N, by rw [← shpSt_ref hb, fl172_0_0 s]; exact (ro172_0_0 N G  K N (intS (oneA (vT (nx tund s.tmps 1)))) (intS (oneA (vT (nx tund s.tmps 2)))) (intS (oneA (vT (nx tund s.tmps 7)))) (intS (oneA (vT (nx tund s.tmps 8)))) (intS (nx .und (cellsB (nx .dead s.blks 0)) 0)) (intS (nx .und (cellsB (nx .dead s.blks 0)) 1))).trans h⟩
  | false =>
  rw [hb, cond_false] at h
  clear hb
  cases h
def BV_spec_l7Least_b {β : Type} (N : Nat) (q_spec_l3Cube : (a0 : Int) → (a1 : Int) → (a2 : Int) → (a3 : Int) → (k : Int → Option β) → Option β) (q_spec_l7Least_l0 : (self : Int → Int → Int → Int → (Int → Option β) → Option β) → Nat → Int → Int → Int → Int → Int → Int → (Int → Option β) → Option β) (self : Int → Int → Int → Int → (Int → Option β) → Option β) (a0 : Int) (a1 : Int) (a2 : Int) (a3 : Int) (k : Int → Option β) : Option β :=
q_spec_l3Cube a0 a1 a2 a3 fun r5 =>
(cond ((decide (r5 < 2)))
(k 0)
(q_spec_l7Least_l0 self  N a2 a3 10 0 a0 a1 (fun e8_0 =>
k e8_0)))
theorem t_spec_l7Least_b {β : Type} (N : Nat) (self : Int → Int → Int → Int → (Int → Option β) → Option β) (a0 : Int) (a1 : Int) (a2 : Int) (a3 : Int) (k : Int → Option β) : spec_l7Least_b N self a0 a1 a2 a3 k = BV_spec_l7Least_b N (spec_l3Cube N) (spec_l7Least_l0 N) self a0 a1 a2 a3 k := by
  unfold spec_l7Least_b BV_spec_l7Least_b
  rfl
theorem ve172_0 {β : Type} (N : Nat) (q_spec_l3Cube : (a0 : Int) → (a1 : Int) → (a2 : Int) → (a3 : Int) → (k : Int → Option β) → Option β) (q_spec_l7Least_f : Nat → Int → Int → Int → Int → (Int → Option β) → Option β) (q_spec_l7Least_l0 : (self : Int → Int → Int → Int → (Int → Option β) → Option β) → Nat → Int → Int → Int → Int → Int → Int → (Int → Option β) → Option β) (G : Nat)  (a0 : Int) (a1 : Int) (a2 : Int) (a3 : Int) (K : TV → Option β) : evFn lay (VE172 N q_spec_l3Cube q_spec_l7Least_f q_spec_l7Least_l0 G) Tryd.f172 [.v (.agg [.int .i64 a0, .int .i64 a1]), .v (.one (.int .i64 a2)), .v (.one (.int .i64 a3))] K = BV_spec_l7Least_b N q_spec_l3Cube q_spec_l7Least_l0 (q_spec_l7Least_f G) a0 a1 a2 a3 (fun z4 => K (.v (.one (.int .i64 z4)))) := by kernel_rfl
theorem e172_0 {β : Type} (N : Nat) (G : Nat)  (a0 : Int) (a1 : Int) (a2 : Int) (a3 : Int) (K : TV → Option β) : evFn lay (E172 N G) Tryd.f172 [.v (.agg [.int .i64 a0, .int .i64 a1]), .v (.one (.int .i64 a2)), .v (.one (.int .i64 a3))] K = spec_l7Least_f N (G + 1) a0 a1 a2 a3 (fun z4 => K (.v (.one (.int .i64 z4)))) := (ve172_0 N (spec_l3Cube N) (spec_l7Least_f N) (spec_l7Least_l0 N) G a0 a1 a2 a3 K).trans (t_spec_l7Least_b N (spec_l7Least_f N G) a0 a1 a2 a3 (fun z4 => K (.v (.one (.int .i64 z4))))).symm
theorem z172 {β : Type} (N : Nat) : ∀ args K r, SF172 (β := β) N 0 args K = some r → (none : Option β) = some r := by
  intro args K r h
  unfold SF172 VSF172 at h
  split at h <;> exact h
theorem of172 {β : Type} (N : Nat) : ∀ G, SpecOK (β := β) inv Tryd.prog 172 (SF172 N G) := by
  intro G
  induction G with
  | zero => exact s_zero Tryd.func172 (by kernel_rfl) (z172 N)
  | succ G ih =>
    refine spec_of lay_ok mixed (E := E172 N G) (specs_loops (specs_cons (o171 N) (specs_cons ih specs_nil))) muts_nil gs_nil Tryd.func172 (by kernel_rfl) 1 (by kernel_rfl) ⟨trivial, rk172_0 N G⟩ fun args K r h => ?_
    unfold SF172 VSF172 at h
    split at h
    · exact (e172_0 N G _ _ _ _ _).trans h
    · cases h
theorem o172 {β : Type} (N : Nat) : SpecOK (β := β) inv Tryd.prog 172 (S172 N) := of172 N N
def VSF110 {β : Type} (N : Nat) (q_spec_l7Best_f : Nat → Int → Int → Int → Int → (ByteArray → Option β) → Option β) (G : Nat) : Rv.Spec β := fun args K => match args with
  | [.v (.agg [.int .i64 a0, .int .i64 a1]), .v (.one (.int .i64 a2)), .v (.one (.int .i64 a3))] => q_spec_l7Best_f G a0 a1 a2 a3 (fun z4 => K (.v (.one (.str z4))))
  | _ => none
def SF110 {β : Type} (N : Nat) (G : Nat) : Rv.Spec β := VSF110 N (spec_l7Best_f N) G
def VS110 {β : Type} (N : Nat) (q_spec_l7Best_f : Nat → Int → Int → Int → Int → (ByteArray → Option β) → Option β) : Rv.Spec β := VSF110 N q_spec_l7Best_f N
def S110 {β : Type} (N : Nat) : Rv.Spec β := SF110 N N
def h110_0_0  (v0 : Int) (v1 : Int) (v2 : Int) (v3 : Int) (v4 : Int) (v5 : Int) : St := ⟨.v (.one .und) :: .v (.one (.int .i64 v0)) :: .v (.one (.int .i64 v1)) :: .v (.one (.ptr 0 0)) :: .v (.one .und) :: .v (.one .und) :: .v (.one .und) :: .v (.one .und) :: .v (.one (.int .i64 v2)) :: .v (.one (.int .i64 v3)) :: .v (.one .und) :: .v (.one .und) :: .v (.one .und) :: .v (.one .und) :: .v (.one .und) :: .v (.one .und) :: .v (.one .und) :: .v (.one .und) :: .v (.one .und) :: .v (.one .und) :: .v (.one .und) :: .v (.one .und) :: .v (.one .und) :: .v (.one .und) :: .v (.one .und) :: .v (.one .und) :: .v (.one .und) :: .v (.one .und) :: .v (.one .und) :: .v (.one .und) :: .v (.one .und) :: .v (.one .und) :: .v (.one .und) :: .v (.one .und) :: .v (.one .und) :: .v (.one .und) :: .v (.one .und) :: .v (.one .und) :: .v (.one .und) :: .v (.one .und) :: .v (.one .und) :: .v (.one .und) :: .v (.one .und) :: .v (.one .und) :: .v (.one .und) :: .v (.one .und) :: .v (.one .und) :: .v (.one .und) :: .v (.one .und) :: .v (.one .und) :: .v (.one .und) :: .v (.one .und) :: .v (.one .und) :: .v (.one .und) :: .v (.one .und) :: .v (.one .und) :: .v (.one .und) :: .v (.one .und) :: .v (.one .und) :: .v (.one .und) :: .v (.one .und) :: .v (.one .und) :: .v (.one .und) :: .v (.one .und) :: .v (.one .und) :: .v (.one .und) :: .v (.one .und) :: .v (.one .und) :: .v (.one .und) :: .v (.one .und) :: .v (.one .und) :: .v (.one .und) :: .v (.one .und) :: .v (.one .und) :: .v (.one .und) :: .v (.one .und) :: .v (.one .und) :: [], [.cells 24 [.int .i64 v4, .int .i64 v5]]⟩
def x110_0_0_k0  (y0 : ByteArray) : St := ⟨.v (.one .und) :: .v (.one .und) :: .v (.one .und) :: .v (.one .und) :: .v (.one .und) :: .v (.one .und) :: .v (.one (.str y0)) :: .v (.one .und) :: .v (.one .und) :: .v (.one .und) :: .v (.one .und) :: .v (.one .und) :: .v (.one .und) :: .v (.one .und) :: .v (.one .und) :: .v (.one .und) :: .v (.one .und) :: .v (.one .und) :: .v (.one .und) :: .v (.one .und) :: .v (.one .und) :: .v (.one .und) :: .v (.one .und) :: .v (.one .und) :: .v (.one .und) :: .v (.one .und) :: .v (.one .und) :: .v (.one .und) :: .v (.one .und) :: .v (.one .und) :: .v (.one .und) :: .v (.one .und) :: .v (.one .und) :: .v (.one .und) :: .v (.one .und) :: .v (.one .und) :: .v (.one .und) :: .v (.one .und) :: .v (.one .und) :: .v (.one .und) :: .v (.one .und) :: .v (.one .und) :: .v (.one .und) :: .v (.one .und) :: .v (.one .und) :: .v (.one .und) :: .v (.one .und) :: .v (.one .und) :: .v (.one .und) :: .v (.one .und) :: .v (.one .und) :: .v (.one .und) :: .v (.one .und) :: .v (.one .und) :: .v (.one .und) :: .v (.one .und) :: .v (.one .und) :: .v (.one .und) :: .v (.one .und) :: .v (.one .und) :: .v (.one .und) :: .v (.one .und) :: .v (.one .und) :: .v (.one .und) :: .v (.one .und) :: .v (.one .und) :: .v (.one .und) :: .v (.one .und) :: .v (.one .und) :: .v (.one .und) :: .v (.one .und) :: .v (.one .und) :: .v (.one .und) :: .v (.one .und) :: .v (.one .und) :: .v (.one .und) :: .v (.one .und) :: [], []⟩
def x110_0_0_k1   : St := ⟨.v (.one .und) :: .v (.one .und) :: .v (.one .und) :: .v (.one .und) :: .v (.one .und) :: .v (.one .und) :: .v (.one .und) :: .v (.one .und) :: .v (.one .und) :: .v (.one .und) :: .v (.one .und) :: .v (.one .und) :: .v (.one .und) :: .v (.one .und) :: .v (.one .und) :: .v (.one .und) :: .v (.one .und) :: .v (.one .und) :: .v (.one .und) :: .v (.one .und) :: .v (.one .und) :: .v (.one .und) :: .v (.one .und) :: .v (.one .und) :: .v (.one .und) :: .v (.one .und) :: .v (.one .und) :: .v (.one .und) :: .v (.one .und) :: .v (.one .und) :: .v (.one .und) :: .v (.one .und) :: .v (.one .und) :: .v (.one .und) :: .v (.one .und) :: .v (.one .und) :: .v (.one .und) :: .v (.one .und) :: .v (.one .und) :: .v (.one .und) :: .v (.one .und) :: .v (.one .und) :: .v (.one .und) :: .v (.one .und) :: .v (.one .und) :: .v (.one .und) :: .v (.one .und) :: .v (.one .und) :: .v (.one .und) :: .v (.one .und) :: .v (.one .und) :: .v (.one .und) :: .v (.one .und) :: .v (.one .und) :: .v (.one .und) :: .v (.one .und) :: .v (.one .und) :: .v (.one .und) :: .v (.one .und) :: .v (.one .und) :: .v (.one .und) :: .v (.one .und) :: .v (.one .und) :: .v (.one .und) :: .v (.one .und) :: .v (.one .und) :: .v (.one .und) :: .v (.one .und) :: .v (.one .und) :: .v (.one .und) :: .v (.one .und) :: .v (.one .und) :: .v (.one .und) :: .v (.one .und) :: .v (.one .und) :: .v (.one .und) :: .v (.one .und) :: [], []⟩
theorem fl110_0_0 (s : St) : refSt (h110_0_0 0 0 0 0 0 0) s = h110_0_0 (intS (oneA (vT (nx tund s.tmps 1)))) (intS (oneA (vT (nx tund s.tmps 2)))) (intS (oneA (vT (nx tund s.tmps 8)))) (intS (oneA (vT (nx tund s.tmps 9)))) (intS (nx .und (cellsB (nx .dead s.blks 0)) 0)) (intS (nx .und (cellsB (nx .dead s.blks 0)) 1)) := by kernel_rfl
def VLS110_0 {β : Type} (N : Nat) (q_spec_l7Best_l0 : (self : Int → Int → Int → Int → (ByteArray → Option β) → Option β) → Nat → Int → Int → Int → Int → Int → Int → (ByteArray → Option β) → (Option β) → Option β) (q_spec_l7Best_f : Nat → Int → Int → Int → Int → (ByteArray → Option β) → Option β) (G : Nat) : LSpec β := fun s K => cond (shpSt (h110_0_0 0 0 0 0 0 0) s) ((fun (v0 : Int) (v1 : Int) (v2 : Int) (v3 : Int) (v4 : Int) (v5 : Int) => q_spec_l7Best_l0 (q_spec_l7Best_f G)  N v0 v1 v2 v3 v4 v5 (fun y0 => K .ret (x110_0_0_k0  y0)) (K (.exit 0) (x110_0_0_k1  ))) (intS (oneA (vT (nx tund s.tmps 1)))) (intS (oneA (vT (nx tund s.tmps 2)))) (intS (oneA (vT (nx tund s.tmps 8)))) (intS (oneA (vT (nx tund s.tmps 9)))) (intS (nx .und (cellsB (nx .dead s.blks 0)) 0)) (intS (nx .und (cellsB (nx .dead s.blks 0)) 1))) (none)
def LS110_0 {β : Type} (N : Nat) (G : Nat) : LSpec β := VLS110_0 N (spec_l7Best_l0 N) (spec_l7Best_f N) G
def VE110 {β : Type} (N : Nat) (q_spec_l3Cube : (a0 : Int) → (a1 : Int) → (a2 : Int) → (a3 : Int) → (k : Int → Option β) → Option β) (q_spec_l7Least_f : Nat → Int → Int → Int → Int → (Int → Option β) → Option β) (q_spec_l7Best_f : Nat → Int → Int → Int → Int → (ByteArray → Option β) → Option β) (q_spec_l7Best_l0 : (self : Int → Int → Int → Int → (ByteArray → Option β) → Option β) → Nat → Int → Int → Int → Int → Int → Int → (ByteArray → Option β) → (Option β) → Option β) (G : Nat) : Env β := ⟨[(171, VS171 N q_spec_l3Cube), (172, VS172 N q_spec_l7Least_f), (110, VSF110 N q_spec_l7Best_f G)], [], [(0, VLS110_0 N q_spec_l7Best_l0 q_spec_l7Best_f G)], [], ⟨[], [], []⟩⟩
def E110 {β : Type} (N : Nat) (G : Nat) : Env β := VE110 N (spec_l3Cube N) (spec_l7Least_f N) (spec_l7Best_f N) (spec_l7Best_l0 N) G
def BV_spec_l7Best_l0b {β : Type} (N : Nat) (q_spec_l7Least_f : Nat → Int → Int → Int → Int → (Int → Option β) → Option β) (self : Int → Int → Int → Int → (ByteArray → Option β) → Option β)  (v0 : Int) (v1 : Int) (v2 : Int) (v3 : Int) (v4 : Int) (v5 : Int) (rec_ : Int → Int → Int → Int → Int → Int → Option β) (k0 : ByteArray → Option β) (k1 : Option β) : Option β :=
(cond ((decide (v3 < v4)))
((gd ((decide (0 ≤ v3)))
((cond (((bits .and .i64 v0 (shlI .i64 1 v3)) == 0))
(q_spec_l7Least_f N v4 v5 ((bits .or .i64 v0 (shlI .i64 1 v3))) v1 fun r7 =>
q_spec_l7Least_f N v4 v5 ((bits .or .i64 v0 (shlI .i64 1 v3))) ((bits .or .i64 v1 (shlI .i64 1 v3))) fun r8 =>
(cond (((w64 (1 + (mxI r7 r8))) == v2))
((gd ((decide (0 ≤ (w64 (v3 + 1)))))
((gd ((decide ((w64 (v3 + 1)) ≤ (((strOf [97, 98, 99, 100, 101])).size : Int))))
((gd ((decide (0 ≤ v3)))
((gd ((decide (v3 ≤ (w64 (v3 + 1)))))
(self v4 v5 ((bits .or .i64 v0 (shlI .i64 1 v3))) v1 fun r9 =>
(gd ((decide (((((strOf [97, 98, 99, 100, 101])).extract (Int.toNat v3) (Int.toNat (w64 (v3 + 1))))).size + r9.size ≤ 9223372036854775807)))
(self v4 v5 ((bits .or .i64 v0 (shlI .i64 1 v3))) ((bits .or .i64 v1 (shlI .i64 1 v3))) fun r10 =>
(gd ((decide ((((((strOf [97, 98, 99, 100, 101])).extract (Int.toNat v3) (Int.toNat (w64 (v3 + 1)))) ++ r9)).size + r10.size ≤ 9223372036854775807)))
(k0 ((((((strOf [97, 98, 99, 100, 101])).extract (Int.toNat v3) (Int.toNat (w64 (v3 + 1)))) ++ r9) ++ r10)))))))))))))))
(rec_ v0 v1 v2 ((w64 (v3 + 1))) v4 v5)))
(rec_ v0 v1 v2 ((w64 (v3 + 1))) v4 v5)))))
(k1 ))
theorem t_spec_l7Best_l0b {β : Type} (N : Nat) (self : Int → Int → Int → Int → (ByteArray → Option β) → Option β)  (v0 : Int) (v1 : Int) (v2 : Int) (v3 : Int) (v4 : Int) (v5 : Int) (rec_ : Int → Int → Int → Int → Int → Int → Option β) (k0 : ByteArray → Option β) (k1 : Option β) : spec_l7Best_l0b N self v0 v1 v2 v3 v4 v5 rec_ k0 k1 = BV_spec_l7Best_l0b N (spec_l7Least_f N) self v0 v1 v2 v3 v4 v5 rec_ k0 k1 := by
  unfold spec_l7Best_l0b BV_spec_l7Best_l0b
  rfl
theorem vst110_0_0 {β : Type} (N : Nat) (q_spec_l3Cube : (a0 : Int) → (a1 : Int) → (a2 : Int) → (a3 : Int) → (k : Int → Option β) → Option β) (q_spec_l7Least_f : Nat → Int → Int → Int → Int → (Int → Option β) → Option β) (q_spec_l7Best_f : Nat → Int → Int → Int → Int → (ByteArray → Option β) → Option β) (q_spec_l7Best_l0 : (self : Int → Int → Int → Int → (ByteArray → Option β) → Option β) → Nat → Int → Int → Int → Int → Int → Int → (ByteArray → Option β) → (Option β) → Option β) (G : Nat)  (v0 : Int) (v1 : Int) (v2 : Int) (v3 : Int) (v4 : Int) (v5 : Int) (rec_ : St → Option β) (K : Exit → St → Option β) :
    ev lay (VE110 N q_spec_l3Cube q_spec_l7Least_f q_spec_l7Best_f q_spec_l7Best_l0 G) (retMask Tryd.f110) (lp Tryd.f110 0).body (lp Tryd.f110 0).ex ((lp Tryd.f110 0).lv (retMask Tryd.f110)) (h110_0_0  v0 v1 v2 v3 v4 v5) (nextR (fun s' => rec_ (s'.tidy ((lp Tryd.f110 0).lv (retMask Tryd.f110)))) K) = BV_spec_l7Best_l0b N q_spec_l7Least_f (q_spec_l7Best_f G)  v0 v1 v2 v3 v4 v5 (fun v0 v1 v2 v3 v4 v5 => rec_ (h110_0_0  v0 v1 v2 v3 v4 v5)) (fun y0 => K .ret (x110_0_0_k0  y0)) (K (.exit 0) (x110_0_0_k1  )) := by kernel_rfl
theorem st110_0_0 {β : Type} (N : Nat) (G : Nat)  (v0 : Int) (v1 : Int) (v2 : Int) (v3 : Int) (v4 : Int) (v5 : Int) (rec_ : St → Option β) (K : Exit → St → Option β) :
    ev lay (E110 N G) (retMask Tryd.f110) (lp Tryd.f110 0).body (lp Tryd.f110 0).ex ((lp Tryd.f110 0).lv (retMask Tryd.f110)) (h110_0_0  v0 v1 v2 v3 v4 v5) (nextR (fun s' => rec_ (s'.tidy ((lp Tryd.f110 0).lv (retMask Tryd.f110)))) K) = spec_l7Best_l0b N (spec_l7Best_f N G)  v0 v1 v2 v3 v4 v5 (fun v0 v1 v2 v3 v4 v5 => rec_ (h110_0_0  v0 v1 v2 v3 v4 v5)) (fun y0 => K .ret (x110_0_0_k0  y0)) (K (.exit 0) (x110_0_0_k1  )) := (vst110_0_0 N (spec_l3Cube N) (spec_l7Least_f N) (spec_l7Best_f N) (spec_l7Best_l0 N) G v0 v1 v2 v3 v4 v5 rec_ K).trans (t_spec_l7Best_l0b N (spec_l7Best_f N G)  v0 v1 v2 v3 v4 v5 (fun v0 v1 v2 v3 v4 v5 => rec_ (h110_0_0  v0 v1 v2 v3 v4 v5)) (fun y0 => K .ret (x110_0_0_k0  y0)) (K (.exit 0) (x110_0_0_k1  ))).symm
theorem ro110_0_0 {β : Type} (N : Nat) (G : Nat)  (K : Exit → St → Option β) : ∀ (F : Nat) (v0 : Int) (v1 : Int) (v2 : Int) (v3 : Int) (v4 : Int) (v5 : Int), (lp Tryd.f110 0).rounds lay (E110 N G) (retMask Tryd.f110) F (h110_0_0  v0 v1 v2 v3 v4 v5) K = spec_l7Best_l0 N (spec_l7Best_f N G)  F v0 v1 v2 v3 v4 v5 (fun y0 => K .ret (x110_0_0_k0  y0)) (K (.exit 0) (x110_0_0_k1  )) := by
  intro F
  induction F with
  | zero => intros; rfl
  | succ F ih =>
    intros
    rw [rounds_next]
    refine (st110_0_0 N G  _ _ _ _ _ _ (fun s => (lp Tryd.f110 0).rounds lay (E110 N G) (retMask Tryd.f110) F s K) K).trans ?_
    simp only [ih]
    rfl
theorem lk110_0 {β : Type} (N : Nat) (G : Nat) : lookL (E110 (β := β) N G).loops (lp Tryd.f110 0).id = LS110_0 N G := by kernel_rfl
theorem rk110_0 {β : Type} (N : Nat) (G : Nat) : RoundsOK lay (E110 (β := β) N G) (retMask Tryd.f110) (lp Tryd.f110 0) := by
  intro s K r h
  rw [lk110_0] at h
  unfold LS110_0 VLS110_0 at h
  cases hb : shpSt (h110_0_0 0 0 0 0 0 0) s with
  | true =>
    rw [hb, cond_true] at h
    exact ⟨N, by rw [← shpSt_ref hb, fl110_0_0 s]; exact (ro110_0_0 N G  K N (intS (oneA (vT (nx tund s.tmps 1)))) (intS (oneA (vT (nx tund s.tmps 2)))) (intS (oneA (vT (nx tund s.tmps 8)))) (intS (oneA (vT (nx tund s.tmps 9)))) (intS (nx .und (cellsB (nx .dead s.blks 0)) 0)) (intS (nx .und (cellsB (nx .dead s.blks 0)) 1))).trans h⟩
  | false =>
  rw [hb, cond_false] at h
  clear hb
  cases h
def BV_spec_l7Best_b {β : Type} (N : Nat) (q_spec_l3Cube : (a0 : Int) → (a1 : Int) → (a2 : Int) → (a3 : Int) → (k : Int → Option β) → Option β) (q_spec_l7Least_f : Nat → Int → Int → Int → Int → (Int → Option β) → Option β) (q_spec_l7Best_l0 : (self : Int → Int → Int → Int → (ByteArray → Option β) → Option β) → Nat → Int → Int → Int → Int → Int → Int → (ByteArray → Option β) → (Option β) → Option β) (self : Int → Int → Int → Int → (ByteArray → Option β) → Option β) (a0 : Int) (a1 : Int) (a2 : Int) (a3 : Int) (k : ByteArray → Option β) : Option β :=
q_spec_l3Cube a0 a1 a2 a3 fun r5 =>
(cond ((decide (r5 < 2)))
((gd ((decide (0 ≤ (w64 (r5 + 1)))))
((gd ((decide ((w64 (r5 + 1)) ≤ (((strOf [48, 49])).size : Int))))
((gd ((decide (0 ≤ r5)))
((gd ((decide (r5 ≤ (w64 (r5 + 1)))))
(k ((((strOf [48, 49])).extract (Int.toNat r5) (Int.toNat (w64 (r5 + 1))))))))))))))
(q_spec_l7Least_f N a0 a1 a2 a3 fun r6 =>
q_spec_l7Best_l0 self  N a2 a3 r6 0 a0 a1 (fun e11_0 =>
k e11_0) (k ByteArray.empty)))
theorem t_spec_l7Best_b {β : Type} (N : Nat) (self : Int → Int → Int → Int → (ByteArray → Option β) → Option β) (a0 : Int) (a1 : Int) (a2 : Int) (a3 : Int) (k : ByteArray → Option β) : spec_l7Best_b N self a0 a1 a2 a3 k = BV_spec_l7Best_b N (spec_l3Cube N) (spec_l7Least_f N) (spec_l7Best_l0 N) self a0 a1 a2 a3 k := by
  unfold spec_l7Best_b BV_spec_l7Best_b
  rfl
theorem ve110_0 {β : Type} (N : Nat) (q_spec_l3Cube : (a0 : Int) → (a1 : Int) → (a2 : Int) → (a3 : Int) → (k : Int → Option β) → Option β) (q_spec_l7Least_f : Nat → Int → Int → Int → Int → (Int → Option β) → Option β) (q_spec_l7Best_f : Nat → Int → Int → Int → Int → (ByteArray → Option β) → Option β) (q_spec_l7Best_l0 : (self : Int → Int → Int → Int → (ByteArray → Option β) → Option β) → Nat → Int → Int → Int → Int → Int → Int → (ByteArray → Option β) → (Option β) → Option β) (G : Nat)  (a0 : Int) (a1 : Int) (a2 : Int) (a3 : Int) (K : TV → Option β) : evFn lay (VE110 N q_spec_l3Cube q_spec_l7Least_f q_spec_l7Best_f q_spec_l7Best_l0 G) Tryd.f110 [.v (.agg [.int .i64 a0, .int .i64 a1]), .v (.one (.int .i64 a2)), .v (.one (.int .i64 a3))] K = BV_spec_l7Best_b N q_spec_l3Cube q_spec_l7Least_f q_spec_l7Best_l0 (q_spec_l7Best_f G) a0 a1 a2 a3 (fun z4 => K (.v (.one (.str z4)))) := by kernel_rfl
theorem e110_0 {β : Type} (N : Nat) (G : Nat)  (a0 : Int) (a1 : Int) (a2 : Int) (a3 : Int) (K : TV → Option β) : evFn lay (E110 N G) Tryd.f110 [.v (.agg [.int .i64 a0, .int .i64 a1]), .v (.one (.int .i64 a2)), .v (.one (.int .i64 a3))] K = spec_l7Best_f N (G + 1) a0 a1 a2 a3 (fun z4 => K (.v (.one (.str z4)))) := (ve110_0 N (spec_l3Cube N) (spec_l7Least_f N) (spec_l7Best_f N) (spec_l7Best_l0 N) G a0 a1 a2 a3 K).trans (t_spec_l7Best_b N (spec_l7Best_f N G) a0 a1 a2 a3 (fun z4 => K (.v (.one (.str z4))))).symm
theorem z110 {β : Type} (N : Nat) : ∀ args K r, SF110 (β := β) N 0 args K = some r → (none : Option β) = some r := by
  intro args K r h
  unfold SF110 VSF110 at h
  split at h <;> exact h
theorem of110 {β : Type} (N : Nat) : ∀ G, SpecOK (β := β) inv Tryd.prog 110 (SF110 N G) := by
  intro G
  induction G with
  | zero => exact s_zero Tryd.func110 (by kernel_rfl) (z110 N)
  | succ G ih =>
    refine spec_of lay_ok mixed (E := E110 N G) (specs_loops (specs_cons (o171 N) (specs_cons (o172 N) (specs_cons ih specs_nil)))) muts_nil gs_nil Tryd.func110 (by kernel_rfl) 1 (by kernel_rfl) ⟨trivial, rk110_0 N G⟩ fun args K r h => ?_
    unfold SF110 VSF110 at h
    split at h
    · exact (e110_0 N G _ _ _ _ _).trans h
    · cases h
theorem o110 {β : Type} (N : Nat) : SpecOK (β := β) inv Tryd.prog 110 (S110 N) := of110 N N
def VS39 {β : Type} (N : Nat) (q_spec_BestTree : (a0 : Int) → (a1 : Int) → (k : ByteArray → Bool → Option β) → Option β) : Rv.Spec β := fun args K => match args with
  | [.v (.agg [.int .i64 a0, .int .i64 a1])] => q_spec_BestTree a0 a1 (fun z2 z3 => K (.tup [.one (.str z2), .one (.bool z3)]))
  | _ => none
def S39 {β : Type} (N : Nat) : Rv.Spec β := VS39 N (spec_BestTree N)
def VE39 {β : Type} (N : Nat) (q_spec_IsTable : (a0 : Int) → (a1 : Int) → (k : Bool → Option β) → Option β) (q_spec_l7Best_f : Nat → Int → Int → Int → Int → (ByteArray → Option β) → Option β) : Env β := ⟨[(51, VS51 N q_spec_IsTable), (110, VS110 N q_spec_l7Best_f)], [], [], [], ⟨[], [], []⟩⟩
def E39 {β : Type} (N : Nat) : Env β := VE39 N (spec_IsTable N) (spec_l7Best_f N)
def BV_spec_BestTree {β : Type} (N : Nat) (q_spec_IsTable : (a0 : Int) → (a1 : Int) → (k : Bool → Option β) → Option β) (q_spec_l7Best_f : Nat → Int → Int → Int → Int → (ByteArray → Option β) → Option β) (a0 : Int) (a1 : Int) (k : ByteArray → Bool → Option β) : Option β :=
q_spec_IsTable a0 a1 fun r4 =>
(cond (!r4)
(k ByteArray.empty false)
((cond ((decide (a0 > 4)))
(k ByteArray.empty false)
(q_spec_l7Best_f N a0 a1 0 0 fun r5 =>
k r5 true))))
theorem t_spec_BestTree {β : Type} (N : Nat) (a0 : Int) (a1 : Int) (k : ByteArray → Bool → Option β) : spec_BestTree N a0 a1 k = BV_spec_BestTree N (spec_IsTable N) (spec_l7Best_f N) a0 a1 k := by
  unfold spec_BestTree BV_spec_BestTree
  rfl
theorem ve39_0 {β : Type} (N : Nat) (q_spec_IsTable : (a0 : Int) → (a1 : Int) → (k : Bool → Option β) → Option β) (q_spec_l7Best_f : Nat → Int → Int → Int → Int → (ByteArray → Option β) → Option β)  (a0 : Int) (a1 : Int) (K : TV → Option β) : evFn lay (VE39 N q_spec_IsTable q_spec_l7Best_f) Tryd.f39 [.v (.agg [.int .i64 a0, .int .i64 a1])] K = BV_spec_BestTree N q_spec_IsTable q_spec_l7Best_f a0 a1 (fun z2 z3 => K (.tup [.one (.str z2), .one (.bool z3)])) := by kernel_rfl
theorem e39_0 {β : Type} (N : Nat)  (a0 : Int) (a1 : Int) (K : TV → Option β) : evFn lay (E39 N) Tryd.f39 [.v (.agg [.int .i64 a0, .int .i64 a1])] K = spec_BestTree N a0 a1 (fun z2 z3 => K (.tup [.one (.str z2), .one (.bool z3)])) := (ve39_0 N (spec_IsTable N) (spec_l7Best_f N) a0 a1 K).trans (t_spec_BestTree N a0 a1 (fun z2 z3 => K (.tup [.one (.str z2), .one (.bool z3)]))).symm
theorem o39 {β : Type} (N : Nat) : SpecOK (β := β) inv Tryd.prog 39 (S39 N) := by
  refine spec_of lay_ok mixed (E := E39 N) (specs_loops (specs_cons (o51 N) (specs_cons (o110 N) specs_nil))) muts_nil gs_nil Tryd.func39 (by kernel_rfl) 0 (by kernel_rfl) trivial fun args K r h => ?_
  unfold S39 VS39 at h
  split at h
  · exact (e39_0 N _ _ _).trans h
  · cases h
def VSF173 {β : Type} (N : Nat) (q_spec_l7End_f : Nat → ByteArray → Int → Int → (Int → Option β) → Option β) (G : Nat) : Rv.Spec β := fun args K => match args with
  | [.v (.one (.str a0)), .v (.one (.int .i64 a1)), .v (.one (.int .i64 a2))] => q_spec_l7End_f G a0 a1 a2 (fun z3 => K (.v (.one (.int .i64 z3))))
  | _ => none
def SF173 {β : Type} (N : Nat) (G : Nat) : Rv.Spec β := VSF173 N (spec_l7End_f N) G
def VS173 {β : Type} (N : Nat) (q_spec_l7End_f : Nat → ByteArray → Int → Int → (Int → Option β) → Option β) : Rv.Spec β := VSF173 N q_spec_l7End_f N
def S173 {β : Type} (N : Nat) : Rv.Spec β := SF173 N N
def VE173 {β : Type} (N : Nat) (q_spec_l1In : (a0 : Int) → (a1 : Int) → (a2 : Int) → (k : Bool → Option β) → Option β) (q_spec_l7End_f : Nat → ByteArray → Int → Int → (Int → Option β) → Option β) (G : Nat) : Env β := ⟨[(43, VS43 N q_spec_l1In), (173, VSF173 N q_spec_l7End_f G)], [], [], [], ⟨[], [], []⟩⟩
def E173 {β : Type} (N : Nat) (G : Nat) : Env β := VE173 N (spec_l1In N) (spec_l7End_f N) G
def BV_spec_l7End_b {β : Type} (N : Nat) (q_spec_l1In : (a0 : Int) → (a1 : Int) → (a2 : Int) → (k : Bool → Option β) → Option β) (self : ByteArray → Int → Int → (Int → Option β) → Option β) (a0 : ByteArray) (a1 : Int) (a2 : Int) (k : Int → Option β) : Option β :=
(cond ((decide (a1 ≥ (a0.size : Int))))
(k (-1))
((gd ((decide (0 ≤ a1)))
((gd ((decide (a1 < (a0.size : Int))))
((cond (((bt a0 a1) == 48))
(k ((w64 (a1 + 1))))
((gd ((decide (0 ≤ a1)))
((gd ((decide (a1 < (a0.size : Int))))
((cond (((bt a0 a1) == 49))
(k ((w64 (a1 + 1))))
((gd ((decide (0 ≤ a1)))
((gd ((decide (a1 < (a0.size : Int))))
(q_spec_l1In ((w64 ((w64 ((bt a0 a1))) - 97))) 0 4 fun r4 =>
(cond (!r4)
(k (-1))
((gd ((decide (0 ≤ (w64 ((w64 ((bt a0 a1))) - 97)))))
((cond (((bits .and .i64 (shrI .i64 a2 (w64 ((w64 ((bt a0 a1))) - 97))) 1) == 1))
(k (-1))
((gd ((decide (0 ≤ (w64 ((w64 ((bt a0 a1))) - 97)))))
(self a0 ((w64 (a1 + 1))) ((bits .or .i64 a2 (shlI .i64 1 (w64 ((w64 ((bt a0 a1))) - 97))))) fun r5 =>
(cond ((decide (r5 < 0)))
(k (-1))
((gd ((decide (0 ≤ (w64 ((w64 ((bt a0 a1))) - 97)))))
(self a0 r5 ((bits .or .i64 a2 (shlI .i64 1 (w64 ((w64 ((bt a0 a1))) - 97))))) fun r6 =>
k r6))))))))))))))))))))))))))))))
theorem t_spec_l7End_b {β : Type} (N : Nat) (self : ByteArray → Int → Int → (Int → Option β) → Option β) (a0 : ByteArray) (a1 : Int) (a2 : Int) (k : Int → Option β) : spec_l7End_b N self a0 a1 a2 k = BV_spec_l7End_b N (spec_l1In N) self a0 a1 a2 k := by
  unfold spec_l7End_b BV_spec_l7End_b
  rfl
theorem ve173_0 {β : Type} (N : Nat) (q_spec_l1In : (a0 : Int) → (a1 : Int) → (a2 : Int) → (k : Bool → Option β) → Option β) (q_spec_l7End_f : Nat → ByteArray → Int → Int → (Int → Option β) → Option β) (G : Nat)  (a0 : ByteArray) (a1 : Int) (a2 : Int) (K : TV → Option β) : evFn lay (VE173 N q_spec_l1In q_spec_l7End_f G) Tryd.f173 [.v (.one (.str a0)), .v (.one (.int .i64 a1)), .v (.one (.int .i64 a2))] K = BV_spec_l7End_b N q_spec_l1In (q_spec_l7End_f G) a0 a1 a2 (fun z3 => K (.v (.one (.int .i64 z3)))) := by kernel_rfl
theorem e173_0 {β : Type} (N : Nat) (G : Nat)  (a0 : ByteArray) (a1 : Int) (a2 : Int) (K : TV → Option β) : evFn lay (E173 N G) Tryd.f173 [.v (.one (.str a0)), .v (.one (.int .i64 a1)), .v (.one (.int .i64 a2))] K = spec_l7End_f N (G + 1) a0 a1 a2 (fun z3 => K (.v (.one (.int .i64 z3)))) := (ve173_0 N (spec_l1In N) (spec_l7End_f N) G a0 a1 a2 K).trans (t_spec_l7End_b N (spec_l7End_f N G) a0 a1 a2 (fun z3 => K (.v (.one (.int .i64 z3))))).symm
theorem z173 {β : Type} (N : Nat) : ∀ args K r, SF173 (β := β) N 0 args K = some r → (none : Option β) = some r := by
  intro args K r h
  unfold SF173 VSF173 at h
  split at h <;> exact h
theorem of173 {β : Type} (N : Nat) : ∀ G, SpecOK (β := β) inv Tryd.prog 173 (SF173 N G) := by
  intro G
  induction G with
  | zero => exact s_zero Tryd.func173 (by kernel_rfl) (z173 N)
  | succ G ih =>
    refine spec_of lay_ok mixed (E := E173 N G) (specs_loops (specs_cons (o43 N) (specs_cons ih specs_nil))) muts_nil gs_nil Tryd.func173 (by kernel_rfl) 0 (by kernel_rfl) trivial fun args K r h => ?_
    unfold SF173 VSF173 at h
    split at h
    · exact (e173_0 N G _ _ _ _).trans h
    · cases h
theorem o173 {β : Type} (N : Nat) : SpecOK (β := β) inv Tryd.prog 173 (S173 N) := of173 N N
def VS111 {β : Type} (N : Nat) (q_spec_IsTree : (a0 : ByteArray) → (k : Bool → Option β) → Option β) : Rv.Spec β := fun args K => match args with
  | [.v (.one (.str a0))] => q_spec_IsTree a0 (fun z1 => K (.v (.one (.bool z1))))
  | _ => none
def S111 {β : Type} (N : Nat) : Rv.Spec β := VS111 N (spec_IsTree N)
def VE111 {β : Type} (N : Nat) (q_spec_l7End_f : Nat → ByteArray → Int → Int → (Int → Option β) → Option β) : Env β := ⟨[(173, VS173 N q_spec_l7End_f)], [], [], [], ⟨[], [], []⟩⟩
def E111 {β : Type} (N : Nat) : Env β := VE111 N (spec_l7End_f N)
def BV_spec_IsTree {β : Type} (N : Nat) (q_spec_l7End_f : Nat → ByteArray → Int → Int → (Int → Option β) → Option β) (a0 : ByteArray) (k : Bool → Option β) : Option β :=
(cond ((decide ((a0.size : Int) ≤ 63)))
((cond ((decide ((a0.size : Int) > 0)))
(q_spec_l7End_f N a0 0 0 fun r2 =>
k ((r2 == (a0.size : Int))))
(k false)))
(k false))
theorem t_spec_IsTree {β : Type} (N : Nat) (a0 : ByteArray) (k : Bool → Option β) : spec_IsTree N a0 k = BV_spec_IsTree N (spec_l7End_f N) a0 k := by
  unfold spec_IsTree BV_spec_IsTree
  rfl
theorem ve111_0 {β : Type} (N : Nat) (q_spec_l7End_f : Nat → ByteArray → Int → Int → (Int → Option β) → Option β)  (a0 : ByteArray) (K : TV → Option β) : evFn lay (VE111 N q_spec_l7End_f) Tryd.f111 [.v (.one (.str a0))] K = BV_spec_IsTree N q_spec_l7End_f a0 (fun z1 => K (.v (.one (.bool z1)))) := by kernel_rfl
theorem e111_0 {β : Type} (N : Nat)  (a0 : ByteArray) (K : TV → Option β) : evFn lay (E111 N) Tryd.f111 [.v (.one (.str a0))] K = spec_IsTree N a0 (fun z1 => K (.v (.one (.bool z1)))) := (ve111_0 N (spec_l7End_f N) a0 K).trans (t_spec_IsTree N a0 (fun z1 => K (.v (.one (.bool z1))))).symm
theorem o111 {β : Type} (N : Nat) : SpecOK (β := β) inv Tryd.prog 111 (S111 N) := by
  refine spec_of lay_ok mixed (E := E111 N) (specs_loops (specs_cons (o173 N) specs_nil)) muts_nil gs_nil Tryd.func111 (by kernel_rfl) 0 (by kernel_rfl) trivial fun args K r h => ?_
  unfold S111 VS111 at h
  split at h
  · exact (e111_0 N _ _).trans h
  · cases h
def VSF213 {β : Type} (N : Nat) (q_spec_l7Skip_f : Nat → ByteArray → Int → (Int → Option β) → Option β) (G : Nat) : Rv.Spec β := fun args K => match args with
  | [.v (.one (.str a0)), .v (.one (.int .i64 a1))] => q_spec_l7Skip_f G a0 a1 (fun z2 => K (.v (.one (.int .i64 z2))))
  | _ => none
def SF213 {β : Type} (N : Nat) (G : Nat) : Rv.Spec β := VSF213 N (spec_l7Skip_f N) G
def VS213 {β : Type} (N : Nat) (q_spec_l7Skip_f : Nat → ByteArray → Int → (Int → Option β) → Option β) : Rv.Spec β := VSF213 N q_spec_l7Skip_f N
def S213 {β : Type} (N : Nat) : Rv.Spec β := SF213 N N
def VE213 {β : Type} (N : Nat) (q_spec_l7Skip_f : Nat → ByteArray → Int → (Int → Option β) → Option β) (G : Nat) : Env β := ⟨[(213, VSF213 N q_spec_l7Skip_f G)], [], [], [], ⟨[], [], []⟩⟩
def E213 {β : Type} (N : Nat) (G : Nat) : Env β := VE213 N (spec_l7Skip_f N) G
def BV_spec_l7Skip_b {β : Type} (N : Nat) (self : ByteArray → Int → (Int → Option β) → Option β) (a0 : ByteArray) (a1 : Int) (k : Int → Option β) : Option β :=
(gd ((decide (0 ≤ a1)))
((gd ((decide (a1 < (a0.size : Int))))
((cond (((bt a0 a1) == 48))
(k ((w64 (a1 + 1))))
((gd ((decide (0 ≤ a1)))
((gd ((decide (a1 < (a0.size : Int))))
((cond (((bt a0 a1) == 49))
(k ((w64 (a1 + 1))))
(self a0 ((w64 (a1 + 1))) fun r3 =>
self a0 r3 fun r4 =>
k r4))))))))))))
theorem t_spec_l7Skip_b {β : Type} (N : Nat) (self : ByteArray → Int → (Int → Option β) → Option β) (a0 : ByteArray) (a1 : Int) (k : Int → Option β) : spec_l7Skip_b N self a0 a1 k = BV_spec_l7Skip_b N self a0 a1 k := by
  unfold spec_l7Skip_b BV_spec_l7Skip_b
  rfl
theorem ve213_0 {β : Type} (N : Nat) (q_spec_l7Skip_f : Nat → ByteArray → Int → (Int → Option β) → Option β) (G : Nat)  (a0 : ByteArray) (a1 : Int) (K : TV → Option β) : evFn lay (VE213 N q_spec_l7Skip_f G) Tryd.f213 [.v (.one (.str a0)), .v (.one (.int .i64 a1))] K = BV_spec_l7Skip_b N (q_spec_l7Skip_f G) a0 a1 (fun z2 => K (.v (.one (.int .i64 z2)))) := by kernel_rfl
theorem e213_0 {β : Type} (N : Nat) (G : Nat)  (a0 : ByteArray) (a1 : Int) (K : TV → Option β) : evFn lay (E213 N G) Tryd.f213 [.v (.one (.str a0)), .v (.one (.int .i64 a1))] K = spec_l7Skip_f N (G + 1) a0 a1 (fun z2 => K (.v (.one (.int .i64 z2)))) := (ve213_0 N (spec_l7Skip_f N) G a0 a1 K).trans (t_spec_l7Skip_b N (spec_l7Skip_f N G) a0 a1 (fun z2 => K (.v (.one (.int .i64 z2))))).symm
theorem z213 {β : Type} (N : Nat) : ∀ args K r, SF213 (β := β) N 0 args K = some r → (none : Option β) = some r := by
  intro args K r h
  unfold SF213 VSF213 at h
  split at h <;> exact h
theorem of213 {β : Type} (N : Nat) : ∀ G, SpecOK (β := β) inv Tryd.prog 213 (SF213 N G) := by
  intro G
  induction G with
  | zero => exact s_zero Tryd.func213 (by kernel_rfl) (z213 N)
  | succ G ih =>
    refine spec_of lay_ok mixed (E := E213 N G) (specs_loops (specs_cons ih specs_nil)) muts_nil gs_nil Tryd.func213 (by kernel_rfl) 0 (by kernel_rfl) trivial fun args K r h => ?_
    unfold SF213 VSF213 at h
    split at h
    · exact (e213_0 N G _ _ _).trans h
    · cases h
theorem o213 {β : Type} (N : Nat) : SpecOK (β := β) inv Tryd.prog 213 (S213 N) := of213 N N
def VS174 {β : Type} (N : Nat) (q_spec_l7Run : (a0 : ByteArray) → (a1 : Int) → (k : Int → Int → Option β) → Option β) : Rv.Spec β := fun args K => match args with
  | [.v (.one (.str a0)), .v (.one (.int .i64 a1))] => q_spec_l7Run a0 a1 (fun z2 z3 => K (.tup [.one (.int .i64 z2), .one (.int .i64 z3)]))
  | _ => none
def S174 {β : Type} (N : Nat) : Rv.Spec β := VS174 N (spec_l7Run N)
def h174_0_0  (v0 : ByteArray) (v1 : Int) (v2 : Int) (v3 : Int) : St := ⟨.v (.one (.str v0)) :: .v (.one (.int .i64 v1)) :: .v (.one .und) :: .v (.one .und) :: .v (.one .und) :: .v (.one .und) :: .v (.one (.int .i64 v2)) :: .v (.one (.int .i64 v3)) :: .v (.one .und) :: .v (.one .und) :: .v (.one .und) :: .v (.one .und) :: .v (.one .und) :: .v (.one .und) :: .v (.one .und) :: .v (.one .und) :: .v (.one .und) :: .v (.one .und) :: .v (.one .und) :: .v (.one .und) :: .v (.one .und) :: .v (.one .und) :: .v (.one .und) :: .v (.one .und) :: .v (.one .und) :: .v (.one .und) :: .v (.one .und) :: .v (.one .und) :: .v (.one .und) :: .v (.one .und) :: .v (.one .und) :: .v (.one .und) :: .v (.one .und) :: .v (.one .und) :: .v (.one .und) :: .v (.one .und) :: .v (.one .und) :: .v (.one .und) :: .v (.one .und) :: .v (.one .und) :: .v (.one .und) :: [], []⟩
def x174_0_0_k0  (y0 : ByteArray) (y1 : Int) (y2 : Int) : St := ⟨.v (.one (.str y0)) :: .v (.one .und) :: .v (.one .und) :: .v (.one .und) :: .v (.one .und) :: .v (.one .und) :: .v (.one (.int .i64 y1)) :: .v (.one (.int .i64 y2)) :: .v (.one .und) :: .v (.one .und) :: .v (.one .und) :: .v (.one .und) :: .v (.one .und) :: .v (.one .und) :: .v (.one .und) :: .v (.one .und) :: .v (.one .und) :: .v (.one .und) :: .v (.one .und) :: .v (.one .und) :: .v (.one .und) :: .v (.one .und) :: .v (.one .und) :: .v (.one .und) :: .v (.one .und) :: .v (.one .und) :: .v (.one .und) :: .v (.one .und) :: .v (.one .und) :: .v (.one .und) :: .v (.one .und) :: .v (.one .und) :: .v (.one .und) :: .v (.one .und) :: .v (.one .und) :: .v (.one .und) :: .v (.one .und) :: .v (.one .und) :: .v (.one .und) :: .v (.one .und) :: .v (.one .und) :: [], []⟩
theorem fl174_0_0 (s : St) : refSt (h174_0_0 ByteArray.empty 0 0 0) s = h174_0_0 (strS (oneA (vT (nx tund s.tmps 0)))) (intS (oneA (vT (nx tund s.tmps 1)))) (intS (oneA (vT (nx tund s.tmps 6)))) (intS (oneA (vT (nx tund s.tmps 7)))) := by kernel_rfl
def VLS174_0 {β : Type} (N : Nat) (q_spec_l7Run_l0 : Nat → ByteArray → Int → Int → Int → (ByteArray → Int → Int → Option β) → Option β) : LSpec β := fun s K => cond (shpSt (h174_0_0 ByteArray.empty 0 0 0) s) ((fun (v0 : ByteArray) (v1 : Int) (v2 : Int) (v3 : Int) => q_spec_l7Run_l0  N v0 v1 v2 v3 (fun y0 y1 y2 => K (.exit 0) (x174_0_0_k0  y0 y1 y2))) (strS (oneA (vT (nx tund s.tmps 0)))) (intS (oneA (vT (nx tund s.tmps 1)))) (intS (oneA (vT (nx tund s.tmps 6)))) (intS (oneA (vT (nx tund s.tmps 7))))) (none)
def LS174_0 {β : Type} (N : Nat) : LSpec β := VLS174_0 N (spec_l7Run_l0 N)
def VE174 {β : Type} (N : Nat) (q_spec_l7Skip_f : Nat → ByteArray → Int → (Int → Option β) → Option β) (q_spec_l7Run_l0 : Nat → ByteArray → Int → Int → Int → (ByteArray → Int → Int → Option β) → Option β) : Env β := ⟨[(213, VS213 N q_spec_l7Skip_f)], [], [(0, VLS174_0 N q_spec_l7Run_l0)], [], ⟨[], [], []⟩⟩
def E174 {β : Type} (N : Nat) : Env β := VE174 N (spec_l7Skip_f N) (spec_l7Run_l0 N)
def BV_spec_l7Run_l0b {β : Type} (N : Nat) (q_spec_l7Skip_f : Nat → ByteArray → Int → (Int → Option β) → Option β)  (v0 : ByteArray) (v1 : Int) (v2 : Int) (v3 : Int) (rec_ : ByteArray → Int → Int → Int → Option β) (k0 : ByteArray → Int → Int → Option β) : Option β :=
(gd ((decide (0 ≤ v2)))
((gd ((decide (v2 < (v0.size : Int))))
((cond (((bt v0 v2) != 48))
((gd ((decide (0 ≤ v2)))
((gd ((decide (v2 < (v0.size : Int))))
((cond (((bt v0 v2) != 49))
((gd ((decide (0 ≤ v2)))
((gd ((decide (v2 < (v0.size : Int))))
((gd ((decide (0 ≤ (w8 ((bt v0 v2) - 97)))))
((cond (((bits .and .i64 (shrI .i64 v1 (w8 ((bt v0 v2) - 97))) 1) == 1))
(q_spec_l7Skip_f N v0 ((w64 (v2 + 1))) fun r4 =>
rec_ v0 v1 r4 ((w64 (v3 + 1))))
(rec_ v0 v1 ((w64 (v2 + 1))) ((w64 (v3 + 1))))))))))))
(k0 v0 v2 v3)))))))
(k0 v0 v2 v3))))))
theorem t_spec_l7Run_l0b {β : Type} (N : Nat)  (v0 : ByteArray) (v1 : Int) (v2 : Int) (v3 : Int) (rec_ : ByteArray → Int → Int → Int → Option β) (k0 : ByteArray → Int → Int → Option β) : spec_l7Run_l0b N v0 v1 v2 v3 rec_ k0 = BV_spec_l7Run_l0b N (spec_l7Skip_f N) v0 v1 v2 v3 rec_ k0 := by
  unfold spec_l7Run_l0b BV_spec_l7Run_l0b
  rfl
theorem vst174_0_0 {β : Type} (N : Nat) (q_spec_l7Skip_f : Nat → ByteArray → Int → (Int → Option β) → Option β) (q_spec_l7Run_l0 : Nat → ByteArray → Int → Int → Int → (ByteArray → Int → Int → Option β) → Option β)  (v0 : ByteArray) (v1 : Int) (v2 : Int) (v3 : Int) (rec_ : St → Option β) (K : Exit → St → Option β) :
    ev lay (VE174 N q_spec_l7Skip_f q_spec_l7Run_l0) (retMask Tryd.f174) (lp Tryd.f174 0).body (lp Tryd.f174 0).ex ((lp Tryd.f174 0).lv (retMask Tryd.f174)) (h174_0_0  v0 v1 v2 v3) (nextR (fun s' => rec_ (s'.tidy ((lp Tryd.f174 0).lv (retMask Tryd.f174)))) K) = BV_spec_l7Run_l0b N q_spec_l7Skip_f  v0 v1 v2 v3 (fun v0 v1 v2 v3 => rec_ (h174_0_0  v0 v1 v2 v3)) (fun y0 y1 y2 => K (.exit 0) (x174_0_0_k0  y0 y1 y2)) := by kernel_rfl
theorem st174_0_0 {β : Type} (N : Nat)  (v0 : ByteArray) (v1 : Int) (v2 : Int) (v3 : Int) (rec_ : St → Option β) (K : Exit → St → Option β) :
    ev lay (E174 N) (retMask Tryd.f174) (lp Tryd.f174 0).body (lp Tryd.f174 0).ex ((lp Tryd.f174 0).lv (retMask Tryd.f174)) (h174_0_0  v0 v1 v2 v3) (nextR (fun s' => rec_ (s'.tidy ((lp Tryd.f174 0).lv (retMask Tryd.f174)))) K) = spec_l7Run_l0b N  v0 v1 v2 v3 (fun v0 v1 v2 v3 => rec_ (h174_0_0  v0 v1 v2 v3)) (fun y0 y1 y2 => K (.exit 0) (x174_0_0_k0  y0 y1 y2)) := (vst174_0_0 N (spec_l7Skip_f N) (spec_l7Run_l0 N) v0 v1 v2 v3 rec_ K).trans (t_spec_l7Run_l0b N  v0 v1 v2 v3 (fun v0 v1 v2 v3 => rec_ (h174_0_0  v0 v1 v2 v3)) (fun y0 y1 y2 => K (.exit 0) (x174_0_0_k0  y0 y1 y2))).symm
theorem ro174_0_0 {β : Type} (N : Nat)  (K : Exit → St → Option β) : ∀ (F : Nat) (v0 : ByteArray) (v1 : Int) (v2 : Int) (v3 : Int), (lp Tryd.f174 0).rounds lay (E174 N) (retMask Tryd.f174) F (h174_0_0  v0 v1 v2 v3) K = spec_l7Run_l0 N  F v0 v1 v2 v3 (fun y0 y1 y2 => K (.exit 0) (x174_0_0_k0  y0 y1 y2)) := by
  intro F
  induction F with
  | zero => intros; rfl
  | succ F ih =>
    intros
    rw [rounds_next]
    refine (st174_0_0 N  _ _ _ _ (fun s => (lp Tryd.f174 0).rounds lay (E174 N) (retMask Tryd.f174) F s K) K).trans ?_
    simp only [ih]
    rfl
theorem lk174_0 {β : Type} (N : Nat) : lookL (E174 (β := β) N).loops (lp Tryd.f174 0).id = LS174_0 N := by kernel_rfl
theorem rk174_0 {β : Type} (N : Nat) : RoundsOK lay (E174 (β := β) N) (retMask Tryd.f174) (lp Tryd.f174 0) := by
  intro s K r h
  rw [lk174_0] at h
  unfold LS174_0 VLS174_0 at h
  cases hb : shpSt (h174_0_0 ByteArray.empty 0 0 0) s with
  | true =>
    rw [hb, cond_true] at h
    exact ⟨N, by rw [← shpSt_ref hb, fl174_0_0 s]; exact (ro174_0_0 N  K N (strS (oneA (vT (nx tund s.tmps 0)))) (intS (oneA (vT (nx tund s.tmps 1)))) (intS (oneA (vT (nx tund s.tmps 6)))) (intS (oneA (vT (nx tund s.tmps 7))))).trans h⟩
  | false =>
  rw [hb, cond_false] at h
  clear hb
  cases h
def BV_spec_l7Run {β : Type} (N : Nat) (q_spec_l7Run_l0 : Nat → ByteArray → Int → Int → Int → (ByteArray → Int → Int → Option β) → Option β) (a0 : ByteArray) (a1 : Int) (k : Int → Int → Option β) : Option β :=
q_spec_l7Run_l0  N a0 a1 0 0 (fun e5_0 e5_1 e5_2 =>
(gd ((decide (0 ≤ e5_1)))
((gd ((decide (e5_1 < (e5_0.size : Int))))
(k ((w64 ((w8 ((bt e5_0 e5_1) - 48))))) e5_2)))))
theorem t_spec_l7Run {β : Type} (N : Nat) (a0 : ByteArray) (a1 : Int) (k : Int → Int → Option β) : spec_l7Run N a0 a1 k = BV_spec_l7Run N (spec_l7Run_l0 N) a0 a1 k := by
  unfold spec_l7Run BV_spec_l7Run
  rfl
theorem ve174_0 {β : Type} (N : Nat) (q_spec_l7Skip_f : Nat → ByteArray → Int → (Int → Option β) → Option β) (q_spec_l7Run_l0 : Nat → ByteArray → Int → Int → Int → (ByteArray → Int → Int → Option β) → Option β)  (a0 : ByteArray) (a1 : Int) (K : TV → Option β) : evFn lay (VE174 N q_spec_l7Skip_f q_spec_l7Run_l0) Tryd.f174 [.v (.one (.str a0)), .v (.one (.int .i64 a1))] K = BV_spec_l7Run N q_spec_l7Run_l0 a0 a1 (fun z2 z3 => K (.tup [.one (.int .i64 z2), .one (.int .i64 z3)])) := by kernel_rfl
theorem e174_0 {β : Type} (N : Nat)  (a0 : ByteArray) (a1 : Int) (K : TV → Option β) : evFn lay (E174 N) Tryd.f174 [.v (.one (.str a0)), .v (.one (.int .i64 a1))] K = spec_l7Run N a0 a1 (fun z2 z3 => K (.tup [.one (.int .i64 z2), .one (.int .i64 z3)])) := (ve174_0 N (spec_l7Skip_f N) (spec_l7Run_l0 N) a0 a1 K).trans (t_spec_l7Run N a0 a1 (fun z2 z3 => K (.tup [.one (.int .i64 z2), .one (.int .i64 z3)]))).symm
theorem o174 {β : Type} (N : Nat) : SpecOK (β := β) inv Tryd.prog 174 (S174 N) := by
  refine spec_of lay_ok mixed (E := E174 N) (specs_loops (specs_cons (o213 N) specs_nil)) muts_nil gs_nil Tryd.func174 (by kernel_rfl) 1 (by kernel_rfl) ⟨trivial, rk174_0 N⟩ fun args K r h => ?_
  unfold S174 VS174 at h
  split at h
  · exact (e174_0 N _ _ _).trans h
  · cases h
end Go.Proofs.YtfdggelojmofmaaDoor
