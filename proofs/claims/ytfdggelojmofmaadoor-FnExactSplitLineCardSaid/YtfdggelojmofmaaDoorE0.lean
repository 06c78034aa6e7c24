/- The functions that the claims reach answer as their texts do. -/
import Derived.Test.YtfdggelojmofmaaDoorT0
import Derived.Test.YtfdggelojmofmaaDoorProg
import Derived.KernelRfl
import Derived.Test.YtfdggelojmofmaaDoorShelf
namespace Go.Proofs.YtfdggelojmofmaaDoor
open Go.Rv
set_option maxRecDepth 100000
set_option maxHeartbeats 2000000
set_option linter.unusedVariables false
def lay : Lay := [(1, .func),
  (2, .int .i64),
  (3, .int .i64),
  (4, .bool),
  (5, .int .u8),
  (9, .string),
  (12, .int .u64),
  (21, .int .i32),
  (22, .struct [⟨0, 1, false⟩, ⟨1, 1, false⟩] [3, 3] 16 true),
  (23, .struct [⟨0, 1, false⟩, ⟨1, 1, false⟩] [3, 3] 16 true),
  (24, .struct [⟨0, 1, false⟩, ⟨1, 1, false⟩] [3, 3] 16 true),
  (25, .slice 3),
  (26, .struct [⟨0, 1, false⟩, ⟨1, 2, true⟩, ⟨3, 1, false⟩, ⟨4, 1, false⟩, ⟨5, 1, false⟩, ⟨6, 1, false⟩] [3, 3, 3, 3, 3, 9, 25] 80 false),
  (27, .struct [⟨0, 1, false⟩, ⟨1, 2, true⟩, ⟨3, 1, false⟩, ⟨4, 1, false⟩, ⟨5, 1, false⟩, ⟨6, 1, false⟩] [3, 3, 3, 3, 3, 9, 25] 80 false),
  (34, .slice 52),
  (51, .struct [⟨0, 1, false⟩, ⟨1, 1, false⟩] [3, 3] 16 true),
  (52, .struct [⟨0, 1, false⟩, ⟨1, 1, false⟩] [3, 3] 16 true),
  (57, .slice 9),
  (64, .struct [⟨0, 1, false⟩] [57] 24 false),
  (65, .struct [⟨0, 1, false⟩] [57] 24 false),
  (73, .slice 120),
  (90, .pointer 156),
  (93, .struct [⟨0, 1, false⟩, ⟨1, 1, false⟩] [3, 3] 16 true),
  (94, .struct [⟨0, 1, false⟩, ⟨1, 1, false⟩] [3, 3] 16 true),
  (95, .pointer 162),
  (103, .int .u64),
  (105, .slice 5),
  (106, .pointer 65),
  (113, .slice 25),
  (119, .struct [⟨0, 1, false⟩, ⟨1, 1, false⟩, ⟨2, 1, false⟩] [3, 3, 3] 24 true),
  (120, .struct [⟨0, 1, false⟩, ⟨1, 1, false⟩, ⟨2, 1, false⟩] [3, 3, 3] 24 true),
  (122, .pointer 125),
  (123, .map 24 3),
  (124, .struct [⟨0, 1, false⟩, ⟨1, 1, false⟩, ⟨2, 1, false⟩] [25, 73, 123] 56 false),
  (125, .struct [⟨0, 1, false⟩, ⟨1, 1, false⟩, ⟨2, 1, false⟩] [25, 73, 123] 56 false),
  (129, .pointer 131),
  (130, .struct [⟨0, 2, true⟩, ⟨2, 1, false⟩, ⟨3, 1, false⟩, ⟨4, 1, false⟩] [3, 3, 3, 3, 25] 56 false),
  (131, .struct [⟨0, 2, true⟩, ⟨2, 1, false⟩, ⟨3, 1, false⟩, ⟨4, 1, false⟩] [3, 3, 3, 3, 25] 56 false),
  (134, .map 3 3),
  (136, .int .u64),
  (138, .map 3 4),
  (139, .pointer 187),
  (140, .struct [⟨0, 1, false⟩, ⟨1, 1, false⟩] [3, 3] 16 true),
  (141, .struct [⟨0, 1, false⟩, ⟨1, 1, false⟩] [3, 3] 16 true),
  (154, .map 94 3),
  (155, .struct [⟨0, 2, true⟩, ⟨2, 1, false⟩, ⟨3, 1, false⟩] [3, 3, 154, 154] 32 false),
  (156, .struct [⟨0, 2, true⟩, ⟨2, 1, false⟩, ⟨3, 1, false⟩] [3, 3, 154, 154] 32 false),
  (161, .struct [⟨0, 1, false⟩, ⟨1, 1, false⟩, ⟨2, 1, false⟩] [5, 95, 95] 24 false),
  (162, .struct [⟨0, 1, false⟩, ⟨1, 1, false⟩, ⟨2, 1, false⟩] [5, 95, 95] 24 false),
  (167, .pointer 169),
  (168, .struct [⟨0, 1, false⟩, ⟨1, 1, false⟩] [167, 105] 32 false),
  (169, .struct [⟨0, 1, false⟩, ⟨1, 1, false⟩] [167, 105] 32 false),
  (179, .slice 4),
  (185, .map 141 3),
  (186, .struct [⟨0, 2, true⟩, ⟨2, 1, false⟩, ⟨3, 1, false⟩] [3, 3, 3, 185] 32 false),
  (187, .struct [⟨0, 2, true⟩, ⟨2, 1, false⟩, ⟨3, 1, false⟩] [3, 3, 3, 185] 32 false),
  (192, .array 2 4),
  (197, .pointer 5),
  (199, .int .u32),
  (212, .struct [⟨0, 1, false⟩, ⟨1, 1, false⟩] [5, 5] 2 true),
  (213, .struct [⟨0, 1, false⟩, ⟨1, 1, false⟩] [5, 5] 2 true)]

theorem lay_ok : LayOK Tryd.prog lay := layOK_of (by decide +kernel)
theorem mixed : Tryd.prog.follows .mixedOrders = true := by kernel_rfl
def inv : World → Prop := tabInv Tryd.prog
def S126 {β : Type} (N : Nat) : Rv.Spec β := joinSpec N
theorem o126 {β : Type} (N : Nat) : SpecOK (β := β) inv Tryd.prog 126 (S126 N) := join_ok Tryd.func126 (by kernel_rfl) Tryd.strings_Join_none Tryd.strings_Join N
def S130 {β : Type} (N : Nat) : Rv.Spec β := itoaSpec N
theorem o130 {β : Type} (N : Nat) : SpecOK (β := β) inv Tryd.prog 130 (S130 N) := itoa_ok Tryd.func130 (by kernel_rfl) Tryd.strconv_Itoa N
def S205 {β : Type} (N : Nat) : Rv.Spec β := cloneSpec 3 N
theorem o205 {β : Type} (N : Nat) : SpecOK (β := β) inv Tryd.prog 205 (S205 N) := clone_ok Tryd.func205 (by kernel_rfl) Tryd.slices_Clone_int_nil Tryd.slices_Clone_int_zero Tryd.slices_Clone_int N
def VS11 {β : Type} (N : Nat) (zq0 : (a0 : Int) → (a1 : Int) → (k : Int → Int → Option β) → Option β) : Rv.Spec β := fun args K => match args with
  | [.v (.agg [.int .i64 a0, .int .i64 a1])] => zq0 a0 a1 (fun z2 z3 => K (.v (.agg [.int .i64 z2, .int .i64 z3])))
  | _ => none
def S11 {β : Type} (N : Nat) : Rv.Spec β := VS11 N (zj0 N)
def VE11 {β : Type} (N : Nat) : Env β := ⟨[], [], [], [], ⟨[], [], [153]⟩⟩
def E11 {β : Type} (N : Nat) : Env β := VE11 N
def zb0 {β : Type} (N : Nat) (a0 : Int) (a1 : Int) (k : Int → Int → Option β) : Option β :=
k a0 a1
theorem zt0 {β : Type} (N : Nat) (a0 : Int) (a1 : Int) (k : Int → Int → Option β) : zj0 N a0 a1 k = zb0 N a0 a1 k := by
  unfold zj0 zb0
  rfl
theorem ve11_0 {β : Type} (N : Nat)  (a0 : Int) (a1 : Int) (K : TV → Option β) : evFn lay (VE11 N) Tryd.f11 [.v (.agg [.int .i64 a0, .int .i64 a1])] K = zb0 N a0 a1 (fun z2 z3 => K (.v (.agg [.int .i64 z2, .int .i64 z3]))) := by kernel_rfl
theorem e11_0 {β : Type} (N : Nat)  (a0 : Int) (a1 : Int) (K : TV → Option β) : evFn lay (E11 N) Tryd.f11 [.v (.agg [.int .i64 a0, .int .i64 a1])] K = zj0 N a0 a1 (fun z2 z3 => K (.v (.agg [.int .i64 z2, .int .i64 z3]))) := (ve11_0 N a0 a1 K).trans (zt0 N a0 a1 (fun z2 z3 => K (.v (.agg [.int .i64 z2, .int .i64 z3])))).symm
theorem o11 {β : Type} (N : Nat) : SpecOK (β := β) inv Tryd.prog 11 (S11 N) := by
  refine spec_of lay_ok mixed (E := E11 N) (specs_loops specs_nil) muts_nil gs_nil Tryd.func11 (by kernel_rfl) 0 (by kernel_rfl) trivial fun args K r h => ?_
  unfold S11 VS11 at h
  split at h
  · exact (e11_0 N _ _ _).trans h
  · cases h
def VS43 {β : Type} (N : Nat) (zq1 : (a0 : Int) → (a1 : Int) → (a2 : Int) → (k : Bool → Option β) → Option β) : Rv.Spec β := fun args K => match args with
  | [.v (.one (.int .i64 a0)), .v (.one (.int .i64 a1)), .v (.one (.int .i64 a2))] => zq1 a0 a1 a2 (fun z3 => K (.v (.one (.bool z3))))
  | _ => none
def S43 {β : Type} (N : Nat) : Rv.Spec β := VS43 N (zj1 N)
def VE43 {β : Type} (N : Nat) : Env β := ⟨[], [], [], [], ⟨[], [], [153]⟩⟩
def E43 {β : Type} (N : Nat) : Env β := VE43 N
def zb1 {β : Type} (N : Nat) (a0 : Int) (a1 : Int) (a2 : Int) (k : Bool → Option β) : Option β :=
(cond ((decide (a0 ≥ a1)))
(k ((decide (a0 ≤ a2))))
(k false))
theorem zt1 {β : Type} (N : Nat) (a0 : Int) (a1 : Int) (a2 : Int) (k : Bool → Option β) : zj1 N a0 a1 a2 k = zb1 N a0 a1 a2 k := by
  unfold zj1 zb1
  rfl
theorem ve43_0 {β : Type} (N : Nat)  (a0 : Int) (a1 : Int) (a2 : Int) (K : TV → Option β) : evFn lay (VE43 N) Tryd.f43 [.v (.one (.int .i64 a0)), .v (.one (.int .i64 a1)), .v (.one (.int .i64 a2))] K = zb1 N a0 a1 a2 (fun z3 => K (.v (.one (.bool z3)))) := by kernel_rfl
theorem e43_0 {β : Type} (N : Nat)  (a0 : Int) (a1 : Int) (a2 : Int) (K : TV → Option β) : evFn lay (E43 N) Tryd.f43 [.v (.one (.int .i64 a0)), .v (.one (.int .i64 a1)), .v (.one (.int .i64 a2))] K = zj1 N a0 a1 a2 (fun z3 => K (.v (.one (.bool z3)))) := (ve43_0 N a0 a1 a2 K).trans (zt1 N a0 a1 a2 (fun z3 => K (.v (.one (.bool z3))))).symm
theorem o43 {β : Type} (N : Nat) : SpecOK (β := β) inv Tryd.prog 43 (S43 N) := by
  refine spec_of lay_ok mixed (E := E43 N) (specs_loops specs_nil) muts_nil gs_nil Tryd.func43 (by kernel_rfl) 0 (by kernel_rfl) trivial fun args K r h => ?_
  unfold S43 VS43 at h
  split at h
  · exact (e43_0 N _ _ _ _).trans h
  · cases h
def VS51 {β : Type} (N : Nat) (zq2 : (a0 : Int) → (a1 : Int) → (k : Bool → Option β) → Option β) : Rv.Spec β := fun args K => match args with
  | [.v (.agg [.int .i64 a0, .int .i64 a1])] => zq2 a0 a1 (fun z2 => K (.v (.one (.bool z2))))
  | _ => none
def S51 {β : Type} (N : Nat) : Rv.Spec β := VS51 N (zj2 N)
def VE51 {β : Type} (N : Nat) (zq1 : (a0 : Int) → (a1 : Int) → (a2 : Int) → (k : Bool → Option β) → Option β) : Env β := ⟨[(43, VS43 N zq1)], [], [], [], ⟨[], [], [153]⟩⟩
def E51 {β : Type} (N : Nat) : Env β := VE51 N (zj1 N)
def zb2 {β : Type} (N : Nat) (zq1 : (a0 : Int) → (a1 : Int) → (a2 : Int) → (k : Bool → Option β) → Option β) (a0 : Int) (a1 : Int) (k : Bool → Option β) : Option β :=
zq1 a0 0 5 fun r3 =>
(cond r3
((gd ((decide (0 ≤ a0)))
((gd ((decide (0 ≤ (shlI .u64 1 a0))))
(zq1 a1 0 ((w64 ((shlI .i64 1 (shlI .u64 1 a0)) - 1))) fun r4 =>
k r4)))))
(k false))
theorem zt2 {β : Type} (N : Nat) (a0 : Int) (a1 : Int) (k : Bool → Option β) : zj2 N a0 a1 k = zb2 N (zj1 N) a0 a1 k := by
  unfold zj2 zb2
  rfl
theorem ve51_0 {β : Type} (N : Nat) (zq1 : (a0 : Int) → (a1 : Int) → (a2 : Int) → (k : Bool → Option β) → Option β)  (a0 : Int) (a1 : Int) (K : TV → Option β) : evFn lay (VE51 N zq1) Tryd.f51 [.v (.agg [.int .i64 a0, .int .i64 a1])] K = zb2 N zq1 a0 a1 (fun z2 => K (.v (.one (.bool z2)))) := by kernel_rfl
theorem e51_0 {β : Type} (N : Nat)  (a0 : Int) (a1 : Int) (K : TV → Option β) : evFn lay (E51 N) Tryd.f51 [.v (.agg [.int .i64 a0, .int .i64 a1])] K = zj2 N a0 a1 (fun z2 => K (.v (.one (.bool z2)))) := (ve51_0 N (zj1 N) a0 a1 K).trans (zt2 N a0 a1 (fun z2 => K (.v (.one (.bool z2))))).symm
theorem o51 {β : Type} (N : Nat) : SpecOK (β := β) inv Tryd.prog 51 (S51 N) := by
  refine spec_of lay_ok mixed (E := E51 N) (specs_loops (specs_cons (o43 N) specs_nil)) muts_nil gs_nil Tryd.func51 (by kernel_rfl) 0 (by kernel_rfl) trivial fun args K r h => ?_
  unfold S51 VS51 at h
  split at h
  · exact (e51_0 N _ _ _).trans h
  · cases h
def VS91 {β : Type} (N : Nat) (zq7 : (a0 : Int) → (a1 : Int) → (a2 : Int) → (k : List Int → Bool → Option β) → Option β) : Rv.Spec β := fun args K => match args with
  | [.v (.agg [.int .i64 a0, .int .i64 a1]), .v (.one (.int .i64 a2))] => zq7 a0 a1 a2 (fun z3 z4 => K (.tup [.one (.sl 3 (.ints .i64 z3)), .one (.bool z4)]))
  | _ => none
def S91 {β : Type} (N : Nat) : Rv.Spec β := VS91 N (zj7 N)
def h91_0_0  (v0 : Int) (v1 : Int) (v2 : Int) (v3 : Int) (v4 : List Int) : St := ⟨tund :: .v (.one (.int .i64 v0)) :: .v (.one (.ptr 0 0)) :: tund :: tund :: tund :: .v (.one (.row 1)) :: .v (.one (.int .i64 v1)) :: tund :: tund :: tund :: tund :: tund :: tund :: tund :: tund :: tund :: tund :: tund :: tund :: tund :: tund :: tund :: tund :: tund :: tund :: tund :: tund :: tund :: tund :: tund :: tund :: tund :: tund :: tund :: tund :: tund :: tund :: tund :: tund :: tund :: tund :: tund :: tund :: tund :: tund :: tund :: tund :: tund :: tund :: tund :: tund :: tund :: tund :: tund :: [], [.cells 24 [.int .i64 v2, .int .i64 v3], .row 3 (.ints .i64 v4)]⟩
def x91_0_0_k0  (y0 : List Int) : St := ⟨tund :: tund :: tund :: tund :: tund :: tund :: .v (.one (.row 0)) :: tund :: tund :: tund :: tund :: tund :: tund :: tund :: tund :: tund :: tund :: tund :: tund :: tund :: tund :: tund :: tund :: tund :: tund :: tund :: tund :: tund :: tund :: tund :: tund :: tund :: tund :: tund :: tund :: tund :: tund :: tund :: tund :: tund :: tund :: tund :: tund :: tund :: tund :: tund :: tund :: tund :: tund :: tund :: tund :: tund :: tund :: tund :: tund :: [], [.row 3 (.ints .i64 y0)]⟩
def h91_1_0  (v0 : Int) (v1 : Int) (v2 : Int) (v3 : Int) (v4 : Int) (v5 : Int) (v6 : List Int) : St := ⟨tund :: .v (.one (.int .i64 v0)) :: .v (.one (.ptr 0 0)) :: tund :: tund :: tund :: .v (.one (.row 1)) :: .v (.one (.int .i64 v1)) :: .v (.one (.int .i64 v2)) :: .v (.one (.int .i64 v3)) :: tund :: tund :: tund :: tund :: tund :: tund :: tund :: tund :: tund :: tund :: tund :: tund :: tund :: tund :: tund :: tund :: tund :: tund :: tund :: tund :: tund :: tund :: tund :: tund :: tund :: tund :: tund :: tund :: tund :: tund :: tund :: tund :: tund :: tund :: tund :: tund :: tund :: tund :: tund :: tund :: tund :: tund :: tund :: tund :: tund :: [], [.cells 24 [.int .i64 v4, .int .i64 v5], .row 3 (.ints .i64 v6)]⟩
def x91_1_0_k0  (y0 : Int) (y1 : Int) (y2 : Int) (y3 : Int) (y4 : Int) (y5 : List Int) : St := ⟨tund :: .v (.one (.int .i64 y0)) :: .v (.one (.ptr 0 0)) :: tund :: tund :: tund :: .v (.one (.row 1)) :: .v (.one (.int .i64 y1)) :: .v (.one (.int .i64 y2)) :: tund :: tund :: tund :: tund :: tund :: tund :: tund :: tund :: tund :: tund :: tund :: tund :: tund :: tund :: tund :: tund :: tund :: tund :: tund :: tund :: tund :: tund :: tund :: tund :: tund :: tund :: tund :: tund :: tund :: tund :: tund :: tund :: tund :: tund :: tund :: tund :: tund :: tund :: tund :: tund :: tund :: tund :: tund :: tund :: tund :: tund :: [], [.cells 24 [.int .i64 y3, .int .i64 y4], .row 3 (.ints .i64 y5)]⟩
theorem fl91_0_0 (s : St) : refSt (h91_0_0 0 0 0 0 []) s = h91_0_0 (intS (oneA (vT (nx tund s.tmps 1)))) (intS (oneA (vT (nx tund s.tmps 7)))) (intS (nx .und (cellsB (nx .dead s.blks 0)) 0)) (intS (nx .und (cellsB (nx .dead s.blks 0)) 1)) (rInts (rowB_ (nx .dead s.blks 1))) := by kernel_rfl
def VLS91_0 {β : Type} (N : Nat) (zq6 : Nat → Int → Int → Int → Int → List Int → (List Int → Option β) → Option β) : LSpec β := fun s K => cond (shpSt (h91_0_0 0 0 0 0 []) s) ((fun (v0 : Int) (v1 : Int) (v2 : Int) (v3 : Int) (v4 : List Int) => zq6  N v0 v1 v2 v3 v4 (fun y0 => K (.exit 0) (x91_0_0_k0  y0))) (intS (oneA (vT (nx tund s.tmps 1)))) (intS (oneA (vT (nx tund s.tmps 7)))) (intS (nx .und (cellsB (nx .dead s.blks 0)) 0)) (intS (nx .und (cellsB (nx .dead s.blks 0)) 1)) (rInts (rowB_ (nx .dead s.blks 1)))) (none)
def LS91_0 {β : Type} (N : Nat) : LSpec β := VLS91_0 N (zj6 N)
theorem fl91_1_0 (s : St) : refSt (h91_1_0 0 0 0 0 0 0 []) s = h91_1_0 (intS (oneA (vT (nx tund s.tmps 1)))) (intS (oneA (vT (nx tund s.tmps 7)))) (intS (oneA (vT (nx tund s.tmps 8)))) (intS (oneA (vT (nx tund s.tmps 9)))) (intS (nx .und (cellsB (nx .dead s.blks 0)) 0)) (intS (nx .und (cellsB (nx .dead s.blks 0)) 1)) (rInts (rowB_ (nx .dead s.blks 1))) := by kernel_rfl
def VLS91_2 {β : Type} (N : Nat) (zq4 : Nat → Int → Int → Int → Int → Int → Int → List Int → (Int → Int → Int → Int → Int → List Int → Option β) → Option β) : LSpec β := fun s K => cond (shpSt (h91_1_0 0 0 0 0 0 0 []) s) ((fun (v0 : Int) (v1 : Int) (v2 : Int) (v3 : Int) (v4 : Int) (v5 : Int) (v6 : List Int) => zq4  N v0 v1 v2 v3 v4 v5 v6 (fun y0 y1 y2 y3 y4 y5 => K (.exit 2) (x91_1_0_k0  y0 y1 y2 y3 y4 y5))) (intS (oneA (vT (nx tund s.tmps 1)))) (intS (oneA (vT (nx tund s.tmps 7)))) (intS (oneA (vT (nx tund s.tmps 8)))) (intS (oneA (vT (nx tund s.tmps 9)))) (intS (nx .und (cellsB (nx .dead s.blks 0)) 0)) (intS (nx .und (cellsB (nx .dead s.blks 0)) 1)) (rInts (rowB_ (nx .dead s.blks 1)))) (none)
def LS91_2 {β : Type} (N : Nat) : LSpec β := VLS91_2 N (zj4 N)
def VE91 {β : Type} (N : Nat) (zq2 : (a0 : Int) → (a1 : Int) → (k : Bool → Option β) → Option β) (zq1 : (a0 : Int) → (a1 : Int) → (a2 : Int) → (k : Bool → Option β) → Option β) (zq6 : Nat → Int → Int → Int → Int → List Int → (List Int → Option β) → Option β) (zq4 : Nat → Int → Int → Int → Int → Int → Int → List Int → (Int → Int → Int → Int → Int → List Int → Option β) → Option β) : Env β := ⟨[(51, VS51 N zq2), (43, VS43 N zq1)], [], [(0, VLS91_0 N zq6), (2, VLS91_2 N zq4)], [], ⟨[], [], [153]⟩⟩
def E91 {β : Type} (N : Nat) : Env β := VE91 N (zj2 N) (zj1 N) (zj6 N) (zj4 N)
def zb5 {β : Type} (N : Nat) (zq4 : Nat → Int → Int → Int → Int → Int → Int → List Int → (Int → Int → Int → Int → Int → List Int → Option β) → Option β)  (v0 : Int) (v1 : Int) (v2 : Int) (v3 : Int) (v4 : List Int) (rec_ : Int → Int → Int → Int → List Int → Option β) (k0 : List Int → Option β) : Option β :=
(gd ((decide (0 ≤ v0)))
((cond ((decide (v1 < (shlI .i64 1 v0))))
(zq4  N v0 v1 0 0 v2 v3 v4 (fun e7_0 e7_1 e7_2 e7_3 e7_4 e7_5 =>
(gd ((decide ((e7_5.length + ((([] : List Int) ++ [e7_2])).length) * 8 ≤ 140737488355328)))
(rec_ e7_0 ((w64 (e7_1 + 1))) e7_3 e7_4 ((e7_5 ++ (([] : List Int) ++ [e7_2])))))))
(k0 v4))))
theorem zt5 {β : Type} (N : Nat)  (v0 : Int) (v1 : Int) (v2 : Int) (v3 : Int) (v4 : List Int) (rec_ : Int → Int → Int → Int → List Int → Option β) (k0 : List Int → Option β) : zj5 N v0 v1 v2 v3 v4 rec_ k0 = zb5 N (zj4 N) v0 v1 v2 v3 v4 rec_ k0 := by
  unfold zj5 zb5
  rfl
theorem vst91_0_0 {β : Type} (N : Nat) (zq2 : (a0 : Int) → (a1 : Int) → (k : Bool → Option β) → Option β) (zq1 : (a0 : Int) → (a1 : Int) → (a2 : Int) → (k : Bool → Option β) → Option β) (zq6 : Nat → Int → Int → Int → Int → List Int → (List Int → Option β) → Option β) (zq4 : Nat → Int → Int → Int → Int → Int → Int → List Int → (Int → Int → Int → Int → Int → List Int → Option β) → Option β)  (v0 : Int) (v1 : Int) (v2 : Int) (v3 : Int) (v4 : List Int) (rec_ : St → Option β) (K : Exit → St → Option β) :
    ev lay (VE91 N zq2 zq1 zq6 zq4) (retMask Tryd.f91) (lp Tryd.f91 0).body (lp Tryd.f91 0).ex ((lp Tryd.f91 0).lv (retMask Tryd.f91)) (h91_0_0  v0 v1 v2 v3 v4) (nextR (fun s' => rec_ (s'.tidy ((lp Tryd.f91 0).lv (retMask Tryd.f91)))) K) = zb5 N zq4  v0 v1 v2 v3 v4 (fun v0 v1 v2 v3 v4 => rec_ (h91_0_0  v0 v1 v2 v3 v4)) (fun y0 => K (.exit 0) (x91_0_0_k0  y0)) := by kernel_rfl
theorem st91_0_0 {β : Type} (N : Nat)  (v0 : Int) (v1 : Int) (v2 : Int) (v3 : Int) (v4 : List Int) (rec_ : St → Option β) (K : Exit → St → Option β) :
    ev lay (E91 N) (retMask Tryd.f91) (lp Tryd.f91 0).body (lp Tryd.f91 0).ex ((lp Tryd.f91 0).lv (retMask Tryd.f91)) (h91_0_0  v0 v1 v2 v3 v4) (nextR (fun s' => rec_ (s'.tidy ((lp Tryd.f91 0).lv (retMask Tryd.f91)))) K) = zj5 N  v0 v1 v2 v3 v4 (fun v0 v1 v2 v3 v4 => rec_ (h91_0_0  v0 v1 v2 v3 v4)) (fun y0 => K (.exit 0) (x91_0_0_k0  y0)) := (vst91_0_0 N (zj2 N) (zj1 N) (zj6 N) (zj4 N) v0 v1 v2 v3 v4 rec_ K).trans (zt5 N  v0 v1 v2 v3 v4 (fun v0 v1 v2 v3 v4 => rec_ (h91_0_0  v0 v1 v2 v3 v4)) (fun y0 => K (.exit 0) (x91_0_0_k0  y0))).symm
theorem ro91_0_0 {β : Type} (N : Nat)  (K : Exit → St → Option β) : ∀ (F : Nat) (v0 : Int) (v1 : Int) (v2 : Int) (v3 : Int) (v4 : List Int), (lp Tryd.f91 0).rounds lay (E91 N) (retMask Tryd.f91) F (h91_0_0  v0 v1 v2 v3 v4) K = zj6 N  F v0 v1 v2 v3 v4 (fun y0 => K (.exit 0) (x91_0_0_k0  y0)) := by
  intro F
  induction F with
  | zero => intros; rfl
  | succ F ih =>
    intros
    rw [rounds_next]
    refine (st91_0_0 N  _ _ _ _ _ (fun s => (lp Tryd.f91 0).rounds lay (E91 N) (retMask Tryd.f91) F s K) K).trans ?_
    simp only [ih]
    rfl
theorem lk91_0 {β : Type} (N : Nat) : lookL (E91 (β := β) N).loops (lp Tryd.f91 0).id = LS91_0 N := by kernel_rfl
theorem rk91_0 {β : Type} (N : Nat) : RoundsOK lay (E91 (β := β) N) (retMask Tryd.f91) (lp Tryd.f91 0) := by
  intro s K r h
  rw [lk91_0] at h
  unfold LS91_0 VLS91_0 at h
  cases hb : shpSt (h91_0_0 0 0 0 0 []) s with
  | true =>
    rw [hb, cond_true] at h
    exact ⟨N, by rw [← shpSt_ref hb, fl91_0_0 s]; exact (ro91_0_0 N  K N (intS (oneA (vT (nx tund s.tmps 1)))) (intS (oneA (vT (nx tund s.tmps 7)))) (intS (nx .und (cellsB (nx .dead s.blks 0)) 0)) (intS (nx .und (cellsB (nx .dead s.blks 0)) 1)) (rInts (rowB_ (nx .dead s.blks 1)))).trans h⟩
  | false =>
  rw [hb, cond_false] at h
  clear hb
  cases h
def zb3 {β : Type} (N : Nat)  (v0 : Int) (v1 : Int) (v2 : Int) (v3 : Int) (v4 : Int) (v5 : Int) (v6 : List Int) (rec_ : Int → Int → Int → Int → Int → Int → List Int → Option β) (k0 : Int → Int → Int → Int → Int → List Int → Option β) : Option β :=
(gd ((decide (0 ≤ (w64 (v4 - v0)))))
((cond ((decide (v3 < (shlI .i64 1 (w64 (v4 - v0))))))
((gd ((decide (0 ≤ v0)))
((gd ((decide (0 ≤ (bits .or .i64 v1 (shlI .i64 v3 v0)))))
((gd ((decide (0 ≤ v3)))
(rec_ v0 v1 ((bits .or .i64 v2 (shlI .i64 (bits .and .i64 (shrI .i64 v5 (bits .or .i64 v1 (shlI .i64 v3 v0))) 1) v3))) ((w64 (v3 + 1))) v4 v5 v6)))))))
(k0 v0 v1 v2 v4 v5 v6))))
theorem zt3 {β : Type} (N : Nat)  (v0 : Int) (v1 : Int) (v2 : Int) (v3 : Int) (v4 : Int) (v5 : Int) (v6 : List Int) (rec_ : Int → Int → Int → Int → Int → Int → List Int → Option β) (k0 : Int → Int → Int → Int → Int → List Int → Option β) : zj3 N v0 v1 v2 v3 v4 v5 v6 rec_ k0 = zb3 N v0 v1 v2 v3 v4 v5 v6 rec_ k0 := by
  unfold zj3 zb3
  rfl
theorem vst91_1_0 {β : Type} (N : Nat) (zq2 : (a0 : Int) → (a1 : Int) → (k : Bool → Option β) → Option β) (zq1 : (a0 : Int) → (a1 : Int) → (a2 : Int) → (k : Bool → Option β) → Option β) (zq6 : Nat → Int → Int → Int → Int → List Int → (List Int → Option β) → Option β) (zq4 : Nat → Int → Int → Int → Int → Int → Int → List Int → (Int → Int → Int → Int → Int → List Int → Option β) → Option β)  (v0 : Int) (v1 : Int) (v2 : Int) (v3 : Int) (v4 : Int) (v5 : Int) (v6 : List Int) (rec_ : St → Option β) (K : Exit → St → Option β) :
    ev lay (VE91 N zq2 zq1 zq6 zq4) (retMask Tryd.f91) (lp Tryd.f91 1).body (lp Tryd.f91 1).ex ((lp Tryd.f91 1).lv (retMask Tryd.f91)) (h91_1_0  v0 v1 v2 v3 v4 v5 v6) (nextR (fun s' => rec_ (s'.tidy ((lp Tryd.f91 1).lv (retMask Tryd.f91)))) K) = zb3 N  v0 v1 v2 v3 v4 v5 v6 (fun v0 v1 v2 v3 v4 v5 v6 => rec_ (h91_1_0  v0 v1 v2 v3 v4 v5 v6)) (fun y0 y1 y2 y3 y4 y5 => K (.exit 2) (x91_1_0_k0  y0 y1 y2 y3 y4 y5)) := by kernel_rfl
theorem st91_1_0 {β : Type} (N : Nat)  (v0 : Int) (v1 : Int) (v2 : Int) (v3 : Int) (v4 : Int) (v5 : Int) (v6 : List Int) (rec_ : St → Option β) (K : Exit → St → Option β) :
    ev lay (E91 N) (retMask Tryd.f91) (lp Tryd.f91 1).body (lp Tryd.f91 1).ex ((lp Tryd.f91 1).lv (retMask Tryd.f91)) (h91_1_0  v0 v1 v2 v3 v4 v5 v6) (nextR (fun s' => rec_ (s'.tidy ((lp Tryd.f91 1).lv (retMask Tryd.f91)))) K) = zj3 N  v0 v1 v2 v3 v4 v5 v6 (fun v0 v1 v2 v3 v4 v5 v6 => rec_ (h91_1_0  v0 v1 v2 v3 v4 v5 v6)) (fun y0 y1 y2 y3 y4 y5 => K (.exit 2) (x91_1_0_k0  y0 y1 y2 y3 y4 y5)) := (vst91_1_0 N (zj2 N) (zj1 N) (zj6 N) (zj4 N) v0 v1 v2 v3 v4 v5 v6 rec_ K).trans (zt3 N  v0 v1 v2 v3 v4 v5 v6 (fun v0 v1 v2 v3 v4 v5 v6 => rec_ (h91_1_0  v0 v1 v2 v3 v4 v5 v6)) (fun y0 y1 y2 y3 y4 y5 => K (.exit 2) (x91_1_0_k0  y0 y1 y2 y3 y4 y5))).symm
theorem ro91_1_0 {β : Type} (N : Nat)  (K : Exit → St → Option β) : ∀ (F : Nat) (v0 : Int) (v1 : Int) (v2 : Int) (v3 : Int) (v4 : Int) (v5 : Int) (v6 : List Int), (lp Tryd.f91 1).rounds lay (E91 N) (retMask Tryd.f91) F (h91_1_0  v0 v1 v2 v3 v4 v5 v6) K = zj4 N  F v0 v1 v2 v3 v4 v5 v6 (fun y0 y1 y2 y3 y4 y5 => K (.exit 2) (x91_1_0_k0  y0 y1 y2 y3 y4 y5)) := by
  intro F
  induction F with
  | zero => intros; rfl
  | succ F ih =>
    intros
    rw [rounds_next]
    refine (st91_1_0 N  _ _ _ _ _ _ _ (fun s => (lp Tryd.f91 1).rounds lay (E91 N) (retMask Tryd.f91) F s K) K).trans ?_
    simp only [ih]
    rfl
theorem lk91_2 {β : Type} (N : Nat) : lookL (E91 (β := β) N).loops (lp Tryd.f91 1).id = LS91_2 N := by kernel_rfl
theorem rk91_2 {β : Type} (N : Nat) : RoundsOK lay (E91 (β := β) N) (retMask Tryd.f91) (lp Tryd.f91 1) := by
  intro s K r h
  rw [lk91_2] at h
  unfold LS91_2 VLS91_2 at h
  cases hb : shpSt (h91_1_0 0 0 0 0 0 0 []) s with
  | true =>
    rw [hb, cond_true] at h
    exact ⟨N, by rw [← shpSt_ref hb, fl91_1_0 s]; exact (ro91_1_0 N  K N (intS (oneA (vT (nx tund s.tmps 1)))) (intS (oneA (vT (nx tund s.tmps 7)))) (intS (oneA (vT (nx tund s.tmps 8)))) (intS (oneA (vT (nx tund s.tmps 9)))) (intS (nx .und (cellsB (nx .dead s.blks 0)) 0)) (intS (nx .und (cellsB (nx .dead s.blks 0)) 1)) (rInts (rowB_ (nx .dead s.blks 1)))).trans h⟩
  | false =>
  rw [hb, cond_false] at h
  clear hb
  cases h
def zb7 {β : Type} (N : Nat) (zq2 : (a0 : Int) → (a1 : Int) → (k : Bool → Option β) → Option β) (zq1 : (a0 : Int) → (a1 : Int) → (a2 : Int) → (k : Bool → Option β) → Option β) (zq6 : Nat → Int → Int → Int → Int → List Int → (List Int → Option β) → Option β) (a0 : Int) (a1 : Int) (a2 : Int) (k : List Int → Bool → Option β) : Option β :=
zq2 a0 a1 fun r5 =>
(cond (!r5)
(k (([] : List Int)) false)
(zq1 a2 0 a0 fun r6 =>
(cond (!r6)
(k (([] : List Int)) false)
(zq6  N a2 0 a0 a1 (([] : List Int)) (fun e8_0 =>
k e8_0 true)))))
theorem zt7 {β : Type} (N : Nat) (a0 : Int) (a1 : Int) (a2 : Int) (k : List Int → Bool → Option β) : zj7 N a0 a1 a2 k = zb7 N (zj2 N) (zj1 N) (zj6 N) a0 a1 a2 k := by
  unfold zj7 zb7
  rfl
theorem ve91_0 {β : Type} (N : Nat) (zq2 : (a0 : Int) → (a1 : Int) → (k : Bool → Option β) → Option β) (zq1 : (a0 : Int) → (a1 : Int) → (a2 : Int) → (k : Bool → Option β) → Option β) (zq6 : Nat → Int → Int → Int → Int → List Int → (List Int → Option β) → Option β) (zq4 : Nat → Int → Int → Int → Int → Int → Int → List Int → (Int → Int → Int → Int → Int → List Int → Option β) → Option β)  (a0 : Int) (a1 : Int) (a2 : Int) (K : TV → Option β) : evFn lay (VE91 N zq2 zq1 zq6 zq4) Tryd.f91 [.v (.agg [.int .i64 a0, .int .i64 a1]), .v (.one (.int .i64 a2))] K = zb7 N zq2 zq1 zq6 a0 a1 a2 (fun z3 z4 => K (.tup [.one (.sl 3 (.ints .i64 z3)), .one (.bool z4)])) := by kernel_rfl
theorem e91_0 {β : Type} (N : Nat)  (a0 : Int) (a1 : Int) (a2 : Int) (K : TV → Option β) : evFn lay (E91 N) Tryd.f91 [.v (.agg [.int .i64 a0, .int .i64 a1]), .v (.one (.int .i64 a2))] K = zj7 N a0 a1 a2 (fun z3 z4 => K (.tup [.one (.sl 3 (.ints .i64 z3)), .one (.bool z4)])) := (ve91_0 N (zj2 N) (zj1 N) (zj6 N) (zj4 N) a0 a1 a2 K).trans (zt7 N a0 a1 a2 (fun z3 z4 => K (.tup [.one (.sl 3 (.ints .i64 z3)), .one (.bool z4)]))).symm
theorem o91 {β : Type} (N : Nat) : SpecOK (β := β) inv Tryd.prog 91 (S91 N) := by
  refine spec_of lay_ok mixed (E := E91 N) (specs_loops (specs_cons (o51 N) (specs_cons (o43 N) specs_nil))) muts_nil gs_nil Tryd.func91 (by kernel_rfl) 2 (by kernel_rfl) ⟨⟨trivial, rk91_0 N⟩, rk91_2 N⟩ fun args K r h => ?_
  unfold S91 VS91 at h
  split at h
  · exact (e91_0 N _ _ _ _).trans h
  · cases h
def VS202 {β : Type} (N : Nat) (zq12 : (a0 : Int) → (a1 : Int) → (a2 : Int) → (a3 : Int) → (a4 : List Int) → (k : Bool → Option β) → Option β) : Rv.Spec β := fun args K => match args with
  | [.v (.agg [.int .i64 a0, .int .i64 a1]), .v (.one (.int .i64 a2)), .v (.one (.int .i64 a3)), .v (.one (.sl 3 (.ints .i64 a4)))] => zq12 a0 a1 a2 a3 a4 (fun z5 => K (.v (.one (.bool z5))))
  | _ => none
def S202 {β : Type} (N : Nat) : Rv.Spec β := VS202 N (zj12 N)
def h202_0_0  (v0 : Int) (v1 : List Int) (v2 : Int) (v3 : Int) (v4 : Int) (v5 : Int) : St := ⟨tund :: tund :: .v (.one (.int .i64 v0)) :: .v (.one (.sl 3 (.ints .i64 v1))) :: .v (.one (.ptr 0 0)) :: tund :: tund :: tund :: tund :: .v (.one (.int .i64 v2)) :: .v (.one (.int .i64 v3)) :: tund :: tund :: tund :: tund :: tund :: tund :: tund :: tund :: tund :: tund :: tund :: tund :: tund :: tund :: tund :: tund :: tund :: tund :: tund :: tund :: tund :: tund :: tund :: tund :: tund :: tund :: tund :: tund :: tund :: tund :: tund :: tund :: tund :: tund :: tund :: tund :: tund :: tund :: tund :: tund :: tund :: tund :: tund :: tund :: tund :: tund :: tund :: tund :: tund :: tund :: tund :: tund :: tund :: tund :: tund :: tund :: tund :: tund :: tund :: tund :: tund :: tund :: tund :: tund :: tund :: tund :: tund :: tund :: tund :: tund :: tund :: tund :: tund :: tund :: tund :: tund :: tund :: tund :: tund :: tund :: tund :: tund :: tund :: tund :: tund :: tund :: tund :: tund :: tund :: tund :: tund :: tund :: tund :: tund :: tund :: tund :: tund :: tund :: tund :: tund :: tund :: tund :: tund :: tund :: tund :: tund :: tund :: tund :: tund :: tund :: tund :: tund :: tund :: tund :: tund :: tund :: tund :: tund :: tund :: tund :: tund :: tund :: [], [.cells 24 [.int .i64 v4, .int .i64 v5]]⟩
def x202_0_0_k0  (y0 : Bool) : St := ⟨tund :: tund :: tund :: tund :: tund :: tund :: tund :: tund :: .v (.one (.bool y0)) :: tund :: tund :: tund :: tund :: tund :: tund :: tund :: tund :: tund :: tund :: tund :: tund :: tund :: tund :: tund :: tund :: tund :: tund :: tund :: tund :: tund :: tund :: tund :: tund :: tund :: tund :: tund :: tund :: tund :: tund :: tund :: tund :: tund :: tund :: tund :: tund :: tund :: tund :: tund :: tund :: tund :: tund :: tund :: tund :: tund :: tund :: tund :: tund :: tund :: tund :: tund :: tund :: tund :: tund :: tund :: tund :: tund :: tund :: tund :: tund :: tund :: tund :: tund :: tund :: tund :: tund :: tund :: tund :: tund :: tund :: tund :: tund :: tund :: tund :: tund :: tund :: tund :: tund :: tund :: tund :: tund :: tund :: tund :: tund :: tund :: tund :: tund :: tund :: tund :: tund :: tund :: tund :: tund :: tund :: tund :: tund :: tund :: tund :: tund :: tund :: tund :: tund :: tund :: tund :: tund :: tund :: tund :: tund :: tund :: tund :: tund :: tund :: tund :: tund :: tund :: tund :: tund :: tund :: tund :: tund :: tund :: tund :: tund :: tund :: [], []⟩
def x202_0_0_k1   : St := ⟨tund :: tund :: tund :: tund :: tund :: tund :: tund :: tund :: tund :: tund :: tund :: tund :: tund :: tund :: tund :: tund :: tund :: tund :: tund :: tund :: tund :: tund :: tund :: tund :: tund :: tund :: tund :: tund :: tund :: tund :: tund :: tund :: tund :: tund :: tund :: tund :: tund :: tund :: tund :: tund :: tund :: tund :: tund :: tund :: tund :: tund :: tund :: tund :: tund :: tund :: tund :: tund :: tund :: tund :: tund :: tund :: tund :: tund :: tund :: tund :: tund :: tund :: tund :: tund :: tund :: tund :: tund :: tund :: tund :: tund :: tund :: tund :: tund :: tund :: tund :: tund :: tund :: tund :: tund :: tund :: tund :: tund :: tund :: tund :: tund :: tund :: tund :: tund :: tund :: tund :: tund :: tund :: tund :: tund :: tund :: tund :: tund :: tund :: tund :: tund :: tund :: tund :: tund :: tund :: tund :: tund :: tund :: tund :: tund :: tund :: tund :: tund :: tund :: tund :: tund :: tund :: tund :: tund :: tund :: tund :: tund :: tund :: tund :: tund :: tund :: tund :: tund :: tund :: tund :: tund :: tund :: tund :: tund :: [], []⟩
def h202_1_0  (v0 : Int) (v1 : List Int) (v2 : Int) (v3 : Int) (v4 : Int) (v5 : Int) (v6 : Int) : St := ⟨tund :: tund :: .v (.one (.int .i64 v0)) :: .v (.one (.sl 3 (.ints .i64 v1))) :: .v (.one (.ptr 0 0)) :: tund :: tund :: tund :: tund :: .v (.one (.int .i64 v2)) :: .v (.one (.int .i64 v3)) :: .v (.one (.int .i64 v4)) :: tund :: tund :: tund :: tund :: tund :: tund :: tund :: tund :: tund :: tund :: tund :: tund :: tund :: tund :: tund :: tund :: tund :: tund :: tund :: tund :: tund :: tund :: tund :: tund :: tund :: tund :: tund :: tund :: tund :: tund :: tund :: tund :: tund :: tund :: tund :: tund :: tund :: tund :: tund :: tund :: tund :: tund :: tund :: tund :: tund :: tund :: tund :: tund :: tund :: tund :: tund :: tund :: tund :: tund :: tund :: tund :: tund :: tund :: tund :: tund :: tund :: tund :: tund :: tund :: tund :: tund :: tund :: tund :: tund :: tund :: tund :: tund :: tund :: tund :: tund :: tund :: tund :: tund :: tund :: tund :: tund :: tund :: tund :: tund :: tund :: tund :: tund :: tund :: tund :: tund :: tund :: tund :: tund :: tund :: tund :: tund :: tund :: tund :: tund :: tund :: tund :: tund :: tund :: tund :: tund :: tund :: tund :: tund :: tund :: tund :: tund :: tund :: tund :: tund :: tund :: tund :: tund :: tund :: tund :: tund :: tund :: [], [.cells 24 [.int .i64 v5, .int .i64 v6]]⟩
def x202_1_0_k0  (y0 : Bool) : St := ⟨tund :: tund :: tund :: tund :: tund :: tund :: tund :: tund :: .v (.one (.bool y0)) :: tund :: tund :: tund :: tund :: tund :: tund :: tund :: tund :: tund :: tund :: tund :: tund :: tund :: tund :: tund :: tund :: tund :: tund :: tund :: tund :: tund :: tund :: tund :: tund :: tund :: tund :: tund :: tund :: tund :: tund :: tund :: tund :: tund :: tund :: tund :: tund :: tund :: tund :: tund :: tund :: tund :: tund :: tund :: tund :: tund :: tund :: tund :: tund :: tund :: tund :: tund :: tund :: tund :: tund :: tund :: tund :: tund :: tund :: tund :: tund :: tund :: tund :: tund :: tund :: tund :: tund :: tund :: tund :: tund :: tund :: tund :: tund :: tund :: tund :: tund :: tund :: tund :: tund :: tund :: tund :: tund :: tund :: tund :: tund :: tund :: tund :: tund :: tund :: tund :: tund :: tund :: tund :: tund :: tund :: tund :: tund :: tund :: tund :: tund :: tund :: tund :: tund :: tund :: tund :: tund :: tund :: tund :: tund :: tund :: tund :: tund :: tund :: tund :: tund :: tund :: tund :: tund :: tund :: tund :: tund :: tund :: tund :: tund :: tund :: [], []⟩
def x202_1_0_k1  (y0 : Int) (y1 : List Int) (y2 : Int) (y3 : Int) (y4 : Int) (y5 : Int) : St := ⟨tund :: tund :: .v (.one (.int .i64 y0)) :: .v (.one (.sl 3 (.ints .i64 y1))) :: .v (.one (.ptr 0 0)) :: tund :: tund :: tund :: tund :: .v (.one (.int .i64 y2)) :: .v (.one (.int .i64 y3)) :: tund :: tund :: tund :: tund :: tund :: tund :: tund :: tund :: tund :: tund :: tund :: tund :: tund :: tund :: tund :: tund :: tund :: tund :: tund :: tund :: tund :: tund :: tund :: tund :: tund :: tund :: tund :: tund :: tund :: tund :: tund :: tund :: tund :: tund :: tund :: tund :: tund :: tund :: tund :: tund :: tund :: tund :: tund :: tund :: tund :: tund :: tund :: tund :: tund :: tund :: tund :: tund :: tund :: tund :: tund :: tund :: tund :: tund :: tund :: tund :: tund :: tund :: tund :: tund :: tund :: tund :: tund :: tund :: tund :: tund :: tund :: tund :: tund :: tund :: tund :: tund :: tund :: tund :: tund :: tund :: tund :: tund :: tund :: tund :: tund :: tund :: tund :: tund :: tund :: tund :: tund :: tund :: tund :: tund :: tund :: tund :: tund :: tund :: tund :: tund :: tund :: tund :: tund :: tund :: tund :: tund :: tund :: tund :: tund :: tund :: tund :: tund :: tund :: tund :: tund :: tund :: tund :: tund :: tund :: tund :: tund :: tund :: [], [.cells 24 [.int .i64 y4, .int .i64 y5]]⟩
theorem fl202_0_0 (s : St) : refSt (h202_0_0 0 [] 0 0 0 0) s = h202_0_0 (intS (oneA (vT (nx tund s.tmps 2)))) (rInts (rowV (oneA (vT (nx tund s.tmps 3))))) (intS (oneA (vT (nx tund s.tmps 9)))) (intS (oneA (vT (nx tund s.tmps 10)))) (intS (nx .und (cellsB (nx .dead s.blks 0)) 0)) (intS (nx .und (cellsB (nx .dead s.blks 0)) 1)) := by kernel_rfl
def VLS202_0 {β : Type} (N : Nat) (zq11 : Nat → Int → List Int → Int → Int → Int → Int → (Bool → Option β) → (Option β) → Option β) : LSpec β := fun s K => cond (shpSt (h202_0_0 0 [] 0 0 0 0) s) ((fun (v0 : Int) (v1 : List Int) (v2 : Int) (v3 : Int) (v4 : Int) (v5 : Int) => zq11  N v0 v1 v2 v3 v4 v5 (fun y0 => K .ret (x202_0_0_k0  y0)) (K (.exit 0) (x202_0_0_k1  ))) (intS (oneA (vT (nx tund s.tmps 2)))) (rInts (rowV (oneA (vT (nx tund s.tmps 3))))) (intS (oneA (vT (nx tund s.tmps 9)))) (intS (oneA (vT (nx tund s.tmps 10)))) (intS (nx .und (cellsB (nx .dead s.blks 0)) 0)) (intS (nx .und (cellsB (nx .dead s.blks 0)) 1))) (none)
def LS202_0 {β : Type} (N : Nat) : LSpec β := VLS202_0 N (zj11 N)
theorem fl202_1_0 (s : St) : refSt (h202_1_0 0 [] 0 0 0 0 0) s = h202_1_0 (intS (oneA (vT (nx tund s.tmps 2)))) (rInts (rowV (oneA (vT (nx tund s.tmps 3))))) (intS (oneA (vT (nx tund s.tmps 9)))) (intS (oneA (vT (nx tund s.tmps 10)))) (intS (oneA (vT (nx tund s.tmps 11)))) (intS (nx .und (cellsB (nx .dead s.blks 0)) 0)) (intS (nx .und (cellsB (nx .dead s.blks 0)) 1)) := by kernel_rfl
def VLS202_2 {β : Type} (N : Nat) (zq9 : Nat → Int → List Int → Int → Int → Int → Int → Int → (Bool → Option β) → (Int → List Int → Int → Int → Int → Int → Option β) → Option β) : LSpec β := fun s K => cond (shpSt (h202_1_0 0 [] 0 0 0 0 0) s) ((fun (v0 : Int) (v1 : List Int) (v2 : Int) (v3 : Int) (v4 : Int) (v5 : Int) (v6 : Int) => zq9  N v0 v1 v2 v3 v4 v5 v6 (fun y0 => K .ret (x202_1_0_k0  y0)) (fun y0 y1 y2 y3 y4 y5 => K (.exit 2) (x202_1_0_k1  y0 y1 y2 y3 y4 y5))) (intS (oneA (vT (nx tund s.tmps 2)))) (rInts (rowV (oneA (vT (nx tund s.tmps 3))))) (intS (oneA (vT (nx tund s.tmps 9)))) (intS (oneA (vT (nx tund s.tmps 10)))) (intS (oneA (vT (nx tund s.tmps 11)))) (intS (nx .und (cellsB (nx .dead s.blks 0)) 0)) (intS (nx .und (cellsB (nx .dead s.blks 0)) 1))) (none)
def LS202_2 {β : Type} (N : Nat) : LSpec β := VLS202_2 N (zj9 N)
def VE202 {β : Type} (N : Nat) (zq2 : (a0 : Int) → (a1 : Int) → (k : Bool → Option β) → Option β) (zq1 : (a0 : Int) → (a1 : Int) → (a2 : Int) → (k : Bool → Option β) → Option β) (zq11 : Nat → Int → List Int → Int → Int → Int → Int → (Bool → Option β) → (Option β) → Option β) (zq9 : Nat → Int → List Int → Int → Int → Int → Int → Int → (Bool → Option β) → (Int → List Int → Int → Int → Int → Int → Option β) → Option β) : Env β := ⟨[(51, VS51 N zq2), (43, VS43 N zq1)], [], [(0, VLS202_0 N zq11), (2, VLS202_2 N zq9)], [], ⟨[], [], [153]⟩⟩
def E202 {β : Type} (N : Nat) : Env β := VE202 N (zj2 N) (zj1 N) (zj11 N) (zj9 N)
def zb10 {β : Type} (N : Nat) (zq1 : (a0 : Int) → (a1 : Int) → (a2 : Int) → (k : Bool → Option β) → Option β) (zq9 : Nat → Int → List Int → Int → Int → Int → Int → Int → (Bool → Option β) → (Int → List Int → Int → Int → Int → Int → Option β) → Option β)  (v0 : Int) (v1 : List Int) (v2 : Int) (v3 : Int) (v4 : Int) (v5 : Int) (rec_ : Int → List Int → Int → Int → Int → Int → Option β) (k0 : Bool → Option β) (k1 : Option β) : Option β :=
(cond ((decide (v3 < (v1.length : Int))))
((gd ((decide (0 ≤ v3)))
((gd ((decide (v3 < (v1.length : Int))))
((gd ((decide (0 ≤ v4)))
(zq1 ((rd 0 v1 v3)) 0 ((w64 ((shlI .i64 1 v4) - 1))) fun r9 =>
(cond (!r9)
(k0 false)
((cond ((decide (v3 > 0)))
((gd ((decide (0 ≤ v3)))
((gd ((decide (v3 < (v1.length : Int))))
((gd ((decide (0 ≤ (w64 (v3 - 1)))))
((gd ((decide ((w64 (v3 - 1)) < (v1.length : Int))))
((cond ((decide ((rd 0 v1 v3) ≤ (rd 0 v1 (w64 (v3 - 1))))))
(k0 false)
((gd ((decide (0 ≤ v3)))
((gd ((decide (v3 < (v1.length : Int))))
((gd ((decide (0 ≤ (rd 0 v1 v3))))
((cond (((bits .and .i64 (shrI .i64 v5 (rd 0 v1 v3)) 1) != v0))
(k0 false)
(zq9  N v0 v1 v2 v3 0 v4 v5 (fun e10_0 =>
k0 e10_0) (fun e11_0 e11_1 e11_2 e11_3 e11_4 e11_5 =>
rec_ e11_0 e11_1 e11_2 ((w64 (e11_3 + 1))) e11_4 e11_5))))))))))))))))))))
((gd ((decide (0 ≤ v3)))
((gd ((decide (v3 < (v1.length : Int))))
((gd ((decide (0 ≤ (rd 0 v1 v3))))
((cond (((bits .and .i64 (shrI .i64 v5 (rd 0 v1 v3)) 1) != v0))
(k0 false)
(zq9  N v0 v1 v2 v3 0 v4 v5 (fun e12_0 =>
k0 e12_0) (fun e13_0 e13_1 e13_2 e13_3 e13_4 e13_5 =>
rec_ e13_0 e13_1 e13_2 ((w64 (e13_3 + 1))) e13_4 e13_5))))))))))))))))))))
(k1 ))
theorem zt10 {β : Type} (N : Nat)  (v0 : Int) (v1 : List Int) (v2 : Int) (v3 : Int) (v4 : Int) (v5 : Int) (rec_ : Int → List Int → Int → Int → Int → Int → Option β) (k0 : Bool → Option β) (k1 : Option β) : zj10 N v0 v1 v2 v3 v4 v5 rec_ k0 k1 = zb10 N (zj1 N) (zj9 N) v0 v1 v2 v3 v4 v5 rec_ k0 k1 := by
  unfold zj10 zb10
  rfl
theorem vst202_0_0 {β : Type} (N : Nat) (zq2 : (a0 : Int) → (a1 : Int) → (k : Bool → Option β) → Option β) (zq1 : (a0 : Int) → (a1 : Int) → (a2 : Int) → (k : Bool → Option β) → Option β) (zq11 : Nat → Int → List Int → Int → Int → Int → Int → (Bool → Option β) → (Option β) → Option β) (zq9 : Nat → Int → List Int → Int → Int → Int → Int → Int → (Bool → Option β) → (Int → List Int → Int → Int → Int → Int → Option β) → Option β)  (v0 : Int) (v1 : List Int) (v2 : Int) (v3 : Int) (v4 : Int) (v5 : Int) (rec_ : St → Option β) (K : Exit → St → Option β) :
    ev lay (VE202 N zq2 zq1 zq11 zq9) (retMask Tryd.f202) (lp Tryd.f202 0).body (lp Tryd.f202 0).ex ((lp Tryd.f202 0).lv (retMask Tryd.f202)) (h202_0_0  v0 v1 v2 v3 v4 v5) (nextR (fun s' => rec_ (s'.tidy ((lp Tryd.f202 0).lv (retMask Tryd.f202)))) K) = zb10 N zq1 zq9  v0 v1 v2 v3 v4 v5 (fun v0 v1 v2 v3 v4 v5 => rec_ (h202_0_0  v0 v1 v2 v3 v4 v5)) (fun y0 => K .ret (x202_0_0_k0  y0)) (K (.exit 0) (x202_0_0_k1  )) := by kernel_rfl
theorem st202_0_0 {β : Type} (N : Nat)  (v0 : Int) (v1 : List Int) (v2 : Int) (v3 : Int) (v4 : Int) (v5 : Int) (rec_ : St → Option β) (K : Exit → St → Option β) :
    ev lay (E202 N) (retMask Tryd.f202) (lp Tryd.f202 0).body (lp Tryd.f202 0).ex ((lp Tryd.f202 0).lv (retMask Tryd.f202)) (h202_0_0  v0 v1 v2 v3 v4 v5) (nextR (fun s' => rec_ (s'.tidy ((lp Tryd.f202 0).lv (retMask Tryd.f202)))) K) = zj10 N  v0 v1 v2 v3 v4 v5 (fun v0 v1 v2 v3 v4 v5 => rec_ (h202_0_0  v0 v1 v2 v3 v4 v5)) (fun y0 => K .ret (x202_0_0_k0  y0)) (K (.exit 0) (x202_0_0_k1  )) := (vst202_0_0 N (zj2 N) (zj1 N) (zj11 N) (zj9 N) v0 v1 v2 v3 v4 v5 rec_ K).trans (zt10 N  v0 v1 v2 v3 v4 v5 (fun v0 v1 v2 v3 v4 v5 => rec_ (h202_0_0  v0 v1 v2 v3 v4 v5)) (fun y0 => K .ret (x202_0_0_k0  y0)) (K (.exit 0) (x202_0_0_k1  ))).symm
theorem ro202_0_0 {β : Type} (N : Nat)  (K : Exit → St → Option β) : ∀ (F : Nat) (v0 : Int) (v1 : List Int) (v2 : Int) (v3 : Int) (v4 : Int) (v5 : Int), (lp Tryd.f202 0).rounds lay (E202 N) (retMask Tryd.f202) F (h202_0_0  v0 v1 v2 v3 v4 v5) K = zj11 N  F v0 v1 v2 v3 v4 v5 (fun y0 => K .ret (x202_0_0_k0  y0)) (K (.exit 0) (x202_0_0_k1  )) := by
  intro F
  induction F with
  | zero => intros; rfl
  | succ F ih =>
    intros
    rw [rounds_next]
    refine (st202_0_0 N  _ _ _ _ _ _ (fun s => (lp Tryd.f202 0).rounds lay (E202 N) (retMask Tryd.f202) F s K) K).trans ?_
    simp only [ih]
    rfl
theorem lk202_0 {β : Type} (N : Nat) : lookL (E202 (β := β) N).loops (lp Tryd.f202 0).id = LS202_0 N := by kernel_rfl
theorem rk202_0 {β : Type} (N : Nat) : RoundsOK lay (E202 (β := β) N) (retMask Tryd.f202) (lp Tryd.f202 0) := by
  intro s K r h
  rw [lk202_0] at h
  unfold LS202_0 VLS202_0 at h
  cases hb : shpSt (h202_0_0 0 [] 0 0 0 0) s with
  | true =>
    rw [hb, cond_true] at h
    exact ⟨N, by rw [← shpSt_ref hb, fl202_0_0 s]; exact (ro202_0_0 N  K N (intS (oneA (vT (nx tund s.tmps 2)))) (rInts (rowV (oneA (vT (nx tund s.tmps 3))))) (intS (oneA (vT (nx tund s.tmps 9)))) (intS (oneA (vT (nx tund s.tmps 10)))) (intS (nx .und (cellsB (nx .dead s.blks 0)) 0)) (intS (nx .und (cellsB (nx .dead s.blks 0)) 1))).trans h⟩
  | false =>
  rw [hb, cond_false] at h
  clear hb
  cases h
def zb8 {β : Type} (N : Nat)  (v0 : Int) (v1 : List Int) (v2 : Int) (v3 : Int) (v4 : Int) (v5 : Int) (v6 : Int) (rec_ : Int → List Int → Int → Int → Int → Int → Int → Option β) (k0 : Bool → Option β) (k1 : Int → List Int → Int → Int → Int → Int → Option β) : Option β :=
(cond ((decide (v4 < v3)))
((gd ((decide (0 ≤ v3)))
((gd ((decide (v3 < (v1.length : Int))))
((gd ((decide (0 ≤ v4)))
((gd ((decide (v4 < (v1.length : Int))))
((gd ((decide (0 ≤ v4)))
((gd ((decide (v4 < (v1.length : Int))))
((gd ((decide (0 ≤ v4)))
((gd ((decide (v4 < (v1.length : Int))))
((gd ((decide (0 ≤ v3)))
((gd ((decide (v3 < (v1.length : Int))))
((gd ((decide (0 ≤ v3)))
((gd ((decide (v3 < (v1.length : Int))))
((gd ((decide (0 ≤ (w64 ((w64 ((bits .and .i64 (rd 0 v1 v3) v2) + (rd 0 v1 v4))) - (bits .and .i64 (rd 0 v1 v4) v2))))))
((cond (((bits .and .i64 (shrI .i64 v6 (w64 ((w64 ((bits .and .i64 (rd 0 v1 v3) v2) + (rd 0 v1 v4))) - (bits .and .i64 (rd 0 v1 v4) v2)))) 1) == v0))
((gd ((decide (0 ≤ (w64 ((w64 ((bits .and .i64 (rd 0 v1 v4) v2) + (rd 0 v1 v3))) - (bits .and .i64 (rd 0 v1 v3) v2))))))
((cond (((bits .and .i64 (shrI .i64 v6 (w64 ((w64 ((bits .and .i64 (rd 0 v1 v4) v2) + (rd 0 v1 v3))) - (bits .and .i64 (rd 0 v1 v3) v2)))) 1) == v0))
(k0 false)
(rec_ v0 v1 v2 v3 ((w64 (v4 + 1))) v5 v6)))))
(rec_ v0 v1 v2 v3 ((w64 (v4 + 1))) v5 v6)))))))))))))))))))))))))))))
(k1 v0 v1 v2 v3 v5 v6))
theorem zt8 {β : Type} (N : Nat)  (v0 : Int) (v1 : List Int) (v2 : Int) (v3 : Int) (v4 : Int) (v5 : Int) (v6 : Int) (rec_ : Int → List Int → Int → Int → Int → Int → Int → Option β) (k0 : Bool → Option β) (k1 : Int → List Int → Int → Int → Int → Int → Option β) : zj8 N v0 v1 v2 v3 v4 v5 v6 rec_ k0 k1 = zb8 N v0 v1 v2 v3 v4 v5 v6 rec_ k0 k1 := by
  unfold zj8 zb8
  rfl
theorem vst202_1_0 {β : Type} (N : Nat) (zq2 : (a0 : Int) → (a1 : Int) → (k : Bool → Option β) → Option β) (zq1 : (a0 : Int) → (a1 : Int) → (a2 : Int) → (k : Bool → Option β) → Option β) (zq11 : Nat → Int → List Int → Int → Int → Int → Int → (Bool → Option β) → (Option β) → Option β) (zq9 : Nat → Int → List Int → Int → Int → Int → Int → Int → (Bool → Option β) → (Int → List Int → Int → Int → Int → Int → Option β) → Option β)  (v0 : Int) (v1 : List Int) (v2 : Int) (v3 : Int) (v4 : Int) (v5 : Int) (v6 : Int) (rec_ : St → Option β) (K : Exit → St → Option β) :
    ev lay (VE202 N zq2 zq1 zq11 zq9) (retMask Tryd.f202) (lp Tryd.f202 1).body (lp Tryd.f202 1).ex ((lp Tryd.f202 1).lv (retMask Tryd.f202)) (h202_1_0  v0 v1 v2 v3 v4 v5 v6) (nextR (fun s' => rec_ (s'.tidy ((lp Tryd.f202 1).lv (retMask Tryd.f202)))) K) = zb8 N  v0 v1 v2 v3 v4 v5 v6 (fun v0 v1 v2 v3 v4 v5 v6 => rec_ (h202_1_0  v0 v1 v2 v3 v4 v5 v6)) (fun y0 => K .ret (x202_1_0_k0  y0)) (fun y0 y1 y2 y3 y4 y5 => K (.exit 2) (x202_1_0_k1  y0 y1 y2 y3 y4 y5)) := by kernel_rfl
theorem st202_1_0 {β : Type} (N : Nat)  (v0 : Int) (v1 : List Int) (v2 : Int) (v3 : Int) (v4 : Int) (v5 : Int) (v6 : Int) (rec_ : St → Option β) (K : Exit → St → Option β) :
    ev lay (E202 N) (retMask Tryd.f202) (lp Tryd.f202 1).body (lp Tryd.f202 1).ex ((lp Tryd.f202 1).lv (retMask Tryd.f202)) (h202_1_0  v0 v1 v2 v3 v4 v5 v6) (nextR (fun s' => rec_ (s'.tidy ((lp Tryd.f202 1).lv (retMask Tryd.f202)))) K) = zj8 N  v0 v1 v2 v3 v4 v5 v6 (fun v0 v1 v2 v3 v4 v5 v6 => rec_ (h202_1_0  v0 v1 v2 v3 v4 v5 v6)) (fun y0 => K .ret (x202_1_0_k0  y0)) (fun y0 y1 y2 y3 y4 y5 => K (.exit 2) (x202_1_0_k1  y0 y1 y2 y3 y4 y5)) := (vst202_1_0 N (zj2 N) (zj1 N) (zj11 N) (zj9 N) v0 v1 v2 v3 v4 v5 v6 rec_ K).trans (zt8 N  v0 v1 v2 v3 v4 v5 v6 (fun v0 v1 v2 v3 v4 v5 v6 => rec_ (h202_1_0  v0 v1 v2 v3 v4 v5 v6)) (fun y0 => K .ret (x202_1_0_k0  y0)) (fun y0 y1 y2 y3 y4 y5 => K (.exit 2) (x202_1_0_k1  y0 y1 y2 y3 y4 y5))).symm
theorem ro202_1_0 {β : Type} (N : Nat)  (K : Exit → St → Option β) : ∀ (F : Nat) (v0 : Int) (v1 : List Int) (v2 : Int) (v3 : Int) (v4 : Int) (v5 : Int) (v6 : Int), (lp Tryd.f202 1).rounds lay (E202 N) (retMask Tryd.f202) F (h202_1_0  v0 v1 v2 v3 v4 v5 v6) K = zj9 N  F v0 v1 v2 v3 v4 v5 v6 (fun y0 => K .ret (x202_1_0_k0  y0)) (fun y0 y1 y2 y3 y4 y5 => K (.exit 2) (x202_1_0_k1  y0 y1 y2 y3 y4 y5)) := by
  intro F
  induction F with
  | zero => intros; rfl
  | succ F ih =>
    intros
    rw [rounds_next]
    refine (st202_1_0 N  _ _ _ _ _ _ _ (fun s => (lp Tryd.f202 1).rounds lay (E202 N) (retMask Tryd.f202) F s K) K).trans ?_
    simp only [ih]
    rfl
theorem lk202_2 {β : Type} (N : Nat) : lookL (E202 (β := β) N).loops (lp Tryd.f202 1).id = LS202_2 N := by kernel_rfl
theorem rk202_2 {β : Type} (N : Nat) : RoundsOK lay (E202 (β := β) N) (retMask Tryd.f202) (lp Tryd.f202 1) := by
  intro s K r h
  rw [lk202_2] at h
  unfold LS202_2 VLS202_2 at h
  cases hb : shpSt (h202_1_0 0 [] 0 0 0 0 0) s with
  | true =>
    rw [hb, cond_true] at h
    exact ⟨N, by rw [← shpSt_ref hb, fl202_1_0 s]; exact (ro202_1_0 N  K N (intS (oneA (vT (nx tund s.tmps 2)))) (rInts (rowV (oneA (vT (nx tund s.tmps 3))))) (intS (oneA (vT (nx tund s.tmps 9)))) (intS (oneA (vT (nx tund s.tmps 10)))) (intS (oneA (vT (nx tund s.tmps 11)))) (intS (nx .und (cellsB (nx .dead s.blks 0)) 0)) (intS (nx .und (cellsB (nx .dead s.blks 0)) 1))).trans h⟩
  | false =>
  rw [hb, cond_false] at h
  clear hb
  cases h
def zb12 {β : Type} (N : Nat) (zq2 : (a0 : Int) → (a1 : Int) → (k : Bool → Option β) → Option β) (zq1 : (a0 : Int) → (a1 : Int) → (a2 : Int) → (k : Bool → Option β) → Option β) (zq11 : Nat → Int → List Int → Int → Int → Int → Int → (Bool → Option β) → (Option β) → Option β) (a0 : Int) (a1 : Int) (a2 : Int) (a3 : Int) (a4 : List Int) (k : Bool → Option β) : Option β :=
zq2 a0 a1 fun r6 =>
(cond (!r6)
(k false)
(zq1 a2 0 a0 fun r7 =>
(cond (!r7)
(k false)
(zq1 a3 0 1 fun r8 =>
(cond (!r8)
(k false)
((gd ((decide (0 ≤ a2)))
(zq11  N a3 a4 ((w64 ((shlI .i64 1 a2) - 1))) 0 a0 a1 (fun e14_0 =>
k e14_0) (k true)))))))))
theorem zt12 {β : Type} (N : Nat) (a0 : Int) (a1 : Int) (a2 : Int) (a3 : Int) (a4 : List Int) (k : Bool → Option β) : zj12 N a0 a1 a2 a3 a4 k = zb12 N (zj2 N) (zj1 N) (zj11 N) a0 a1 a2 a3 a4 k := by
  unfold zj12 zb12
  rfl
theorem ve202_0 {β : Type} (N : Nat) (zq2 : (a0 : Int) → (a1 : Int) → (k : Bool → Option β) → Option β) (zq1 : (a0 : Int) → (a1 : Int) → (a2 : Int) → (k : Bool → Option β) → Option β) (zq11 : Nat → Int → List Int → Int → Int → Int → Int → (Bool → Option β) → (Option β) → Option β) (zq9 : Nat → Int → List Int → Int → Int → Int → Int → Int → (Bool → Option β) → (Int → List Int → Int → Int → Int → Int → Option β) → Option β)  (a0 : Int) (a1 : Int) (a2 : Int) (a3 : Int) (a4 : List Int) (K : TV → Option β) : evFn lay (VE202 N zq2 zq1 zq11 zq9) Tryd.f202 [.v (.agg [.int .i64 a0, .int .i64 a1]), .v (.one (.int .i64 a2)), .v (.one (.int .i64 a3)), .v (.one (.sl 3 (.ints .i64 a4)))] K = zb12 N zq2 zq1 zq11 a0 a1 a2 a3 a4 (fun z5 => K (.v (.one (.bool z5)))) := by kernel_rfl
theorem e202_0 {β : Type} (N : Nat)  (a0 : Int) (a1 : Int) (a2 : Int) (a3 : Int) (a4 : List Int) (K : TV → Option β) : evFn lay (E202 N) Tryd.f202 [.v (.agg [.int .i64 a0, .int .i64 a1]), .v (.one (.int .i64 a2)), .v (.one (.int .i64 a3)), .v (.one (.sl 3 (.ints .i64 a4)))] K = zj12 N a0 a1 a2 a3 a4 (fun z5 => K (.v (.one (.bool z5)))) := (ve202_0 N (zj2 N) (zj1 N) (zj11 N) (zj9 N) a0 a1 a2 a3 a4 K).trans (zt12 N a0 a1 a2 a3 a4 (fun z5 => K (.v (.one (.bool z5))))).symm
theorem o202 {β : Type} (N : Nat) : SpecOK (β := β) inv Tryd.prog 202 (S202 N) := by
  refine spec_of lay_ok mixed (E := E202 N) (specs_loops (specs_cons (o51 N) (specs_cons (o43 N) specs_nil))) muts_nil gs_nil Tryd.func202 (by kernel_rfl) 2 (by kernel_rfl) ⟨⟨trivial, rk202_0 N⟩, rk202_2 N⟩ fun args K r h => ?_
  unfold S202 VS202 at h
  split at h
  · exact (e202_0 N _ _ _ _ _ _).trans h
  · cases h
end Go.Proofs.YtfdggelojmofmaaDoor
