/- The functions that the claims reach answer as their texts do. -/
import Derived.Test.YtfdggelojmofmaaDoorT0
import Derived.Test.YtfdggelojmofmaaDoorProg
import Derived.KernelRfl
import Derived.Test.YtfdggelojmofmaaDoorShelf
import Derived.Test.YtfdggelojmofmaaDoorCut
namespace Go.Proofs.YtfdggelojmofmaaDoor
open Go.Rv
set_option maxRecDepth 100000
set_option maxHeartbeats 2000000
set_option linter.unusedVariables false
def lay : Lay := [(1, .func),
  (2, .int .i64),
  (3, .int .i64),
  (4, .bool),
  (5, .int .u8),
  (9, .string),
  (12, .int .u64),
  (21, .int .i32),
  (22, .struct [⟨0, 1, false⟩, ⟨1, 1, false⟩] [3, 3] 16 true),
  (23, .struct [⟨0, 1, false⟩, ⟨1, 1, false⟩] [3, 3] 16 true),
  (24, .struct [⟨0, 1, false⟩, ⟨1, 1, false⟩] [3, 3] 16 true),
  (25, .slice 3),
  (26, .struct [⟨0, 1, false⟩, ⟨1, 2, true⟩, ⟨3, 1, false⟩, ⟨4, 1, false⟩, ⟨5, 1, false⟩, ⟨6, 1, false⟩] [3, 3, 3, 3, 3, 9, 25] 80 false),
  (27, .struct [⟨0, 1, false⟩, ⟨1, 2, true⟩, ⟨3, 1, false⟩, ⟨4, 1, false⟩, ⟨5, 1, false⟩, ⟨6, 1, false⟩] [3, 3, 3, 3, 3, 9, 25] 80 false),
  (34, .slice 52),
  (51, .struct [⟨0, 1, false⟩, ⟨1, 1, false⟩] [3, 3] 16 true),
  (52, .struct [⟨0, 1, false⟩, ⟨1, 1, false⟩] [3, 3] 16 true),
  (57, .slice 9),
  (64, .struct [⟨0, 1, false⟩] [57] 24 false),
  (65, .struct [⟨0, 1, false⟩] [57] 24 false),
  (73, .slice 120),
  (90, .pointer 156),
  (93, .struct [⟨0, 1, false⟩, ⟨1, 1, false⟩] [3, 3] 16 true),
  (94, .struct [⟨0, 1, false⟩, ⟨1, 1, false⟩] [3, 3] 16 true),
  (95, .pointer 162),
  (103, .int .u64),
  (105, .slice 5),
  (106, .pointer 65),
  (113, .slice 25),
  (119, .struct [⟨0, 1, false⟩, ⟨1, 1, false⟩, ⟨2, 1, false⟩] [3, 3, 3] 24 true),
  (120, .struct [⟨0, 1, false⟩, ⟨1, 1, false⟩, ⟨2, 1, false⟩] [3, 3, 3] 24 true),
  (122, .pointer 125),
  (123, .map 24 3),
  (124, .struct [⟨0, 1, false⟩, ⟨1, 1, false⟩, ⟨2, 1, false⟩] [25, 73, 123] 56 false),
  (125, .struct [⟨0, 1, false⟩, ⟨1, 1, false⟩, ⟨2, 1, false⟩] [25, 73, 123] 56 false),
  (129, .pointer 131),
  (130, .struct [⟨0, 2, true⟩, ⟨2, 1, false⟩, ⟨3, 1, false⟩, ⟨4, 1, false⟩] [3, 3, 3, 3, 25] 56 false),
  (131, .struct [⟨0, 2, true⟩, ⟨2, 1, false⟩, ⟨3, 1, false⟩, ⟨4, 1, false⟩] [3, 3, 3, 3, 25] 56 false),
  (134, .map 3 3),
  (136, .int .u64),
  (138, .map 3 4),
  (139, .pointer 187),
  (140, .struct [⟨0, 1, false⟩, ⟨1, 1, false⟩] [3, 3] 16 true),
  (141, .struct [⟨0, 1, false⟩, ⟨1, 1, false⟩] [3, 3] 16 true),
  (154, .map 94 3),
  (155, .struct [⟨0, 2, true⟩, ⟨2, 1, false⟩, ⟨3, 1, false⟩] [3, 3, 154, 154] 32 false),
  (156, .struct [⟨0, 2, true⟩, ⟨2, 1, false⟩, ⟨3, 1, false⟩] [3, 3, 154, 154] 32 false),
  (161, .struct [⟨0, 1, false⟩, ⟨1, 1, false⟩, ⟨2, 1, false⟩] [5, 95, 95] 24 false),
  (162, .struct [⟨0, 1, false⟩, ⟨1, 1, false⟩, ⟨2, 1, false⟩] [5, 95, 95] 24 false),
  (167, .pointer 169),
  (168, .struct [⟨0, 1, false⟩, ⟨1, 1, false⟩] [167, 105] 32 false),
  (169, .struct [⟨0, 1, false⟩, ⟨1, 1, false⟩] [167, 105] 32 false),
  (179, .slice 4),
  (185, .map 141 3),
  (186, .struct [⟨0, 2, true⟩, ⟨2, 1, false⟩, ⟨3, 1, false⟩] [3, 3, 3, 185] 32 false),
  (187, .struct [⟨0, 2, true⟩, ⟨2, 1, false⟩, ⟨3, 1, false⟩] [3, 3, 3, 185] 32 false),
  (192, .array 2 4),
  (197, .pointer 5),
  (199, .int .u32),
  (212, .struct [⟨0, 1, false⟩, ⟨1, 1, false⟩] [5, 5] 2 true),
  (213, .struct [⟨0, 1, false⟩, ⟨1, 1, false⟩] [5, 5] 2 true)]

theorem lay_ok : LayOK Tryd.prog lay := layOK_of (by decide +kernel)
theorem mixed : Tryd.prog.follows .mixedOrders = true := by kernel_rfl
def inv : World → Prop := fun _ => True
def S47 {β : Type} (N : Nat) : Rv.Spec β := splitSpec 9 N
theorem o47 {β : Type} (N : Nat) : SpecOK (β := β) inv Tryd.prog 47 (S47 N) := split_ok Tryd.func47 (by kernel_rfl) Tryd.split_told N
def VS43 {β : Type} (N : Nat) (q_spec_l1In : (a0 : Int) → (a1 : Int) → (a2 : Int) → (k : Bool → Option β) → Option β) : Rv.Spec β := fun args K => match args with
  | [.v (.one (.int .i64 a0)), .v (.one (.int .i64 a1)), .v (.one (.int .i64 a2))] => q_spec_l1In a0 a1 a2 (fun z3 => K (.v (.one (.bool z3))))
  | _ => none
def S43 {β : Type} (N : Nat) : Rv.Spec β := VS43 N (spec_l1In N)
def VE43 {β : Type} (N : Nat) : Env β := ⟨[], [], [], [], ⟨[], [], [], []⟩⟩
def E43 {β : Type} (N : Nat) : Env β := VE43 N
def BV_spec_l1In {β : Type} (N : Nat) (a0 : Int) (a1 : Int) (a2 : Int) (k : Bool → Option β) : Option β :=
(cond ((decide (a0 ≥ a1)))
(k ((decide (a0 ≤ a2))))
(k false))
theorem t_spec_l1In {β : Type} (N : Nat) (a0 : Int) (a1 : Int) (a2 : Int) (k : Bool → Option β) : spec_l1In N a0 a1 a2 k = BV_spec_l1In N a0 a1 a2 k := by
  unfold spec_l1In BV_spec_l1In
  rfl
theorem ve43_0 {β : Type} (N : Nat)  (a0 : Int) (a1 : Int) (a2 : Int) (K : TV → Option β) : evFn lay (VE43 N) Tryd.f43 [.v (.one (.int .i64 a0)), .v (.one (.int .i64 a1)), .v (.one (.int .i64 a2))] K = BV_spec_l1In N a0 a1 a2 (fun z3 => K (.v (.one (.bool z3)))) := by kernel_rfl
theorem e43_0 {β : Type} (N : Nat)  (a0 : Int) (a1 : Int) (a2 : Int) (K : TV → Option β) : evFn lay (E43 N) Tryd.f43 [.v (.one (.int .i64 a0)), .v (.one (.int .i64 a1)), .v (.one (.int .i64 a2))] K = spec_l1In N a0 a1 a2 (fun z3 => K (.v (.one (.bool z3)))) := (ve43_0 N a0 a1 a2 K).trans (t_spec_l1In N a0 a1 a2 (fun z3 => K (.v (.one (.bool z3))))).symm
theorem o43 {β : Type} (N : Nat) : SpecOK (β := β) inv Tryd.prog 43 (S43 N) := by
  refine spec_of lay_ok mixed (E := E43 N) (specs_loops specs_nil) muts_nil gs_nil Tryd.func43 (by kernel_rfl) 0 (by kernel_rfl) trivial fun args K r h => ?_
  unfold S43 VS43 at h
  split at h
  · exact (e43_0 N _ _ _ _).trans h
  · cases h
def VS118 {β : Type} (N : Nat) (q_spec_IsTerm : (a0 : Int) → (a1 : Int) → (a2 : Int) → (k : Bool → Option β) → Option β) : Rv.Spec β := fun args K => match args with
  | [.v (.one (.int .i64 a0)), .v (.agg [.int .i64 a1, .int .i64 a2])] => q_spec_IsTerm a0 a1 a2 (fun z3 => K (.v (.one (.bool z3))))
  | _ => none
def S118 {β : Type} (N : Nat) : Rv.Spec β := VS118 N (spec_IsTerm N)
def VE118 {β : Type} (N : Nat) (q_spec_l1In : (a0 : Int) → (a1 : Int) → (a2 : Int) → (k : Bool → Option β) → Option β) : Env β := ⟨[(43, VS43 N q_spec_l1In)], [], [], [], ⟨[], [], [], []⟩⟩
def E118 {β : Type} (N : Nat) : Env β := VE118 N (spec_l1In N)
def BV_spec_IsTerm {β : Type} (N : Nat) (q_spec_l1In : (a0 : Int) → (a1 : Int) → (a2 : Int) → (k : Bool → Option β) → Option β) (a0 : Int) (a1 : Int) (a2 : Int) (k : Bool → Option β) : Option β :=
q_spec_l1In a0 0 5 fun r4 =>
(cond r4
((gd ((decide (0 ≤ a0)))
(q_spec_l1In a1 0 ((w64 ((shlI .i64 1 a0) - 1))) fun r5 =>
(cond r5
(q_spec_l1In a2 0 a1 fun r6 =>
(cond r6
(k (((bits .and .i64 a2 a1) == a2)))
(k false)))
(k false)))))
(k false))
theorem t_spec_IsTerm {β : Type} (N : Nat) (a0 : Int) (a1 : Int) (a2 : Int) (k : Bool → Option β) : spec_IsTerm N a0 a1 a2 k = BV_spec_IsTerm N (spec_l1In N) a0 a1 a2 k := by
  unfold spec_IsTerm BV_spec_IsTerm
  rfl
theorem ve118_0 {β : Type} (N : Nat) (q_spec_l1In : (a0 : Int) → (a1 : Int) → (a2 : Int) → (k : Bool → Option β) → Option β)  (a0 : Int) (a1 : Int) (a2 : Int) (K : TV → Option β) : evFn lay (VE118 N q_spec_l1In) Tryd.f118 [.v (.one (.int .i64 a0)), .v (.agg [.int .i64 a1, .int .i64 a2])] K = BV_spec_IsTerm N q_spec_l1In a0 a1 a2 (fun z3 => K (.v (.one (.bool z3)))) := by kernel_rfl
theorem e118_0 {β : Type} (N : Nat)  (a0 : Int) (a1 : Int) (a2 : Int) (K : TV → Option β) : evFn lay (E118 N) Tryd.f118 [.v (.one (.int .i64 a0)), .v (.agg [.int .i64 a1, .int .i64 a2])] K = spec_IsTerm N a0 a1 a2 (fun z3 => K (.v (.one (.bool z3)))) := (ve118_0 N (spec_l1In N) a0 a1 a2 K).trans (t_spec_IsTerm N a0 a1 a2 (fun z3 => K (.v (.one (.bool z3))))).symm
theorem o118 {β : Type} (N : Nat) : SpecOK (β := β) inv Tryd.prog 118 (S118 N) := by
  refine spec_of lay_ok mixed (E := E118 N) (specs_loops (specs_cons (o43 N) specs_nil)) muts_nil gs_nil Tryd.func118 (by kernel_rfl) 0 (by kernel_rfl) trivial fun args K r h => ?_
  unfold S118 VS118 at h
  split at h
  · exact (e118_0 N _ _ _ _).trans h
  · cases h
def VS117 {β : Type} (N : Nat) (q_spec_FormatTerm : (a0 : Int) → (a1 : Int) → (a2 : Int) → (k : ByteArray → Option β) → Option β) : Rv.Spec β := fun args K => match args with
  | [.v (.one (.int .i64 a0)), .v (.agg [.int .i64 a1, .int .i64 a2])] => q_spec_FormatTerm a0 a1 a2 (fun z3 => K (.v (.one (.str z3))))
  | _ => none
def S117 {β : Type} (N : Nat) : Rv.Spec β := VS117 N (spec_FormatTerm N)
def h117_0_0  (v0 : Int) (v1 : ByteArray) (v2 : Int) (v3 : Int) (v4 : Int) : St := ⟨.v (.one (.int .i64 v0)) :: .v (.one .und) :: .v (.one .und) :: .v (.one (.ptr 0 0)) :: .v (.one .und) :: .v (.one (.str v1)) :: .v (.one (.int .i64 v2)) :: .v (.one .und) :: .v (.one .und) :: .v (.one .und) :: .v (.one .und) :: .v (.one .und) :: .v (.one .und) :: .v (.one .und) :: .v (.one .und) :: .v (.one .und) :: .v (.one .und) :: .v (.one .und) :: .v (.one .und) :: .v (.one .und) :: .v (.one .und) :: .v (.one .und) :: .v (.one .und) :: .v (.one .und) :: .v (.one .und) :: .v (.one .und) :: .v (.one .und) :: .v (.one .und) :: .v (.one .und) :: .v (.one .und) :: .v (.one .und) :: .v (.one .und) :: .v (.one .und) :: .v (.one .und) :: .v (.one .und) :: .v (.one .und) :: .v (.one .und) :: .v (.one .und) :: .v (.one .und) :: .v (.one .und) :: .v (.one .und) :: .v (.one .und) :: .v (.one .und) :: .v (.one .und) :: .v (.one .und) :: [], [.cells 52 [.int .i64 v3, .int .i64 v4]]⟩
def x117_0_0_k0  (y0 : Int) (y1 : ByteArray) (y2 : Int) (y3 : Int) : St := ⟨.v (.one (.int .i64 y0)) :: .v (.one .und) :: .v (.one .und) :: .v (.one (.ptr 0 0)) :: .v (.one .und) :: .v (.one (.str y1)) :: .v (.one .und) :: .v (.one .und) :: .v (.one .und) :: .v (.one .und) :: .v (.one .und) :: .v (.one .und) :: .v (.one .und) :: .v (.one .und) :: .v (.one .und) :: .v (.one .und) :: .v (.one .und) :: .v (.one .und) :: .v (.one .und) :: .v (.one .und) :: .v (.one .und) :: .v (.one .und) :: .v (.one .und) :: .v (.one .und) :: .v (.one .und) :: .v (.one .und) :: .v (.one .und) :: .v (.one .und) :: .v (.one .und) :: .v (.one .und) :: .v (.one .und) :: .v (.one .und) :: .v (.one .und) :: .v (.one .und) :: .v (.one .und) :: .v (.one .und) :: .v (.one .und) :: .v (.one .und) :: .v (.one .und) :: .v (.one .und) :: .v (.one .und) :: .v (.one .und) :: .v (.one .und) :: .v (.one .und) :: .v (.one .und) :: [], [.cells 52 [.int .i64 y2, .int .i64 y3]]⟩
theorem fl117_0_0 (s : St) : refSt (h117_0_0 0 ByteArray.empty 0 0 0) s = h117_0_0 (intS (oneA (vT (nx tund s.tmps 0)))) (strS (oneA (vT (nx tund s.tmps 5)))) (intS (oneA (vT (nx tund s.tmps 6)))) (intS (nx .und (cellsB (nx .dead s.blks 0)) 0)) (intS (nx .und (cellsB (nx .dead s.blks 0)) 1)) := by kernel_rfl
def VLS117_0 {β : Type} (N : Nat) (q_spec_FormatTerm_l0 : Nat → Int → ByteArray → Int → Int → Int → (Int → ByteArray → Int → Int → Option β) → Option β) : LSpec β := fun s K => cond (shpSt (h117_0_0 0 ByteArray.empty 0 0 0) s) ((fun (v0 : Int) (v1 : ByteArray) (v2 : Int) (v3 : Int) (v4 : Int) => q_spec_FormatTerm_l0  N v0 v1 v2 v3 v4 (fun y0 y1 y2 y3 => K (.exit 0) (x117_0_0_k0  y0 y1 y2 y3))) (intS (oneA (vT (nx tund s.tmps 0)))) (strS (oneA (vT (nx tund s.tmps 5)))) (intS (oneA (vT (nx tund s.tmps 6)))) (intS (nx .und (cellsB (nx .dead s.blks 0)) 0)) (intS (nx .und (cellsB (nx .dead s.blks 0)) 1))) (none)
def LS117_0 {β : Type} (N : Nat) : LSpec β := VLS117_0 N (spec_FormatTerm_l0 N)
def VE117 {β : Type} (N : Nat) (q_spec_IsTerm : (a0 : Int) → (a1 : Int) → (a2 : Int) → (k : Bool → Option β) → Option β) (q_spec_FormatTerm_l0 : Nat → Int → ByteArray → Int → Int → Int → (Int → ByteArray → Int → Int → Option β) → Option β) : Env β := ⟨[(118, VS118 N q_spec_IsTerm)], [], [(0, VLS117_0 N q_spec_FormatTerm_l0)], [], ⟨[], [], [], []⟩⟩
def E117 {β : Type} (N : Nat) : Env β := VE117 N (spec_IsTerm N) (spec_FormatTerm_l0 N)
def BV_spec_FormatTerm_l0b {β : Type} (N : Nat) (q_spec_IsTerm : (a0 : Int) → (a1 : Int) → (a2 : Int) → (k : Bool → Option β) → Option β)  (v0 : Int) (v1 : ByteArray) (v2 : Int) (v3 : Int) (v4 : Int) (rec_ : Int → ByteArray → Int → Int → Int → Option β) (k0 : Int → ByteArray → Int → Int → Option β) : Option β :=
q_spec_IsTerm v0 v3 v4 fun r4 =>
(cond r4
((cond ((decide (v2 < v0)))
((gd ((decide (0 ≤ v2)))
((cond (((bits .and .i64 (shrI .i64 v3 v2) 1) == 0))
(rec_ v0 v1 ((w64 (v2 + 1))) v3 v4)
((gd ((decide (0 ≤ v2)))
((cond (((bits .and .i64 (shrI .i64 v4 v2) 1) == 0))
((gd ((decide (v1.size + ((strOf [33])).size ≤ 9223372036854775807)))
((gd ((decide (0 ≤ (w64 (v2 + 1)))))
((gd ((decide ((w64 (v2 + 1)) ≤ (((strOf [97, 98, 99, 100, 101])).size : Int))))
((gd ((decide (0 ≤ v2)))
((gd ((decide (v2 ≤ (w64 (v2 + 1)))))
((gd ((decide (((v1 ++ (strOf [33]))).size + ((((strOf [97, 98, 99, 100, 101])).extract (Int.toNat v2) (Int.toNat (w64 (v2 + 1))))).size ≤ 9223372036854775807)))
(rec_ v0 (((v1 ++ (strOf [33])) ++ (((strOf [97, 98, 99, 100, 101])).extract (Int.toNat v2) (Int.toNat (w64 (v2 + 1)))))) ((w64 (v2 + 1))) v3 v4)))))))))))))
((gd ((decide (0 ≤ (w64 (v2 + 1)))))
((gd ((decide ((w64 (v2 + 1)) ≤ (((strOf [97, 98, 99, 100, 101])).size : Int))))
((gd ((decide (0 ≤ v2)))
((gd ((decide (v2 ≤ (w64 (v2 + 1)))))
((gd ((decide (v1.size + ((((strOf [97, 98, 99, 100, 101])).extract (Int.toNat v2) (Int.toNat (w64 (v2 + 1))))).size ≤ 9223372036854775807)))
(rec_ v0 ((v1 ++ (((strOf [97, 98, 99, 100, 101])).extract (Int.toNat v2) (Int.toNat (w64 (v2 + 1)))))) ((w64 (v2 + 1))) v3 v4)))))))))))))))))))
(k0 v0 v1 v3 v4)))
(k0 v0 v1 v3 v4))
theorem t_spec_FormatTerm_l0b {β : Type} (N : Nat)  (v0 : Int) (v1 : ByteArray) (v2 : Int) (v3 : Int) (v4 : Int) (rec_ : Int → ByteArray → Int → Int → Int → Option β) (k0 : Int → ByteArray → Int → Int → Option β) : spec_FormatTerm_l0b N v0 v1 v2 v3 v4 rec_ k0 = BV_spec_FormatTerm_l0b N (spec_IsTerm N) v0 v1 v2 v3 v4 rec_ k0 := by
  unfold spec_FormatTerm_l0b BV_spec_FormatTerm_l0b
  rfl
theorem vst117_0_0 {β : Type} (N : Nat) (q_spec_IsTerm : (a0 : Int) → (a1 : Int) → (a2 : Int) → (k : Bool → Option β) → Option β) (q_spec_FormatTerm_l0 : Nat → Int → ByteArray → Int → Int → Int → (Int → ByteArray → Int → Int → Option β) → Option β)  (v0 : Int) (v1 : ByteArray) (v2 : Int) (v3 : Int) (v4 : Int) (rec_ : St → Option β) (K : Exit → St → Option β) :
    ev lay (VE117 N q_spec_IsTerm q_spec_FormatTerm_l0) (retMask Tryd.f117) (lp Tryd.f117 0).body (lp Tryd.f117 0).ex ((lp Tryd.f117 0).lv (retMask Tryd.f117)) (h117_0_0  v0 v1 v2 v3 v4) (nextR (fun s' => rec_ (s'.tidy ((lp Tryd.f117 0).lv (retMask Tryd.f117)))) K) = BV_spec_FormatTerm_l0b N q_spec_IsTerm  v0 v1 v2 v3 v4 (fun v0 v1 v2 v3 v4 => rec_ (h117_0_0  v0 v1 v2 v3 v4)) (fun y0 y1 y2 y3 => K (.exit 0) (x117_0_0_k0  y0 y1 y2 y3)) := by kernel_rfl
theorem st117_0_0 {β : Type} (N : Nat)  (v0 : Int) (v1 : ByteArray) (v2 : Int) (v3 : Int) (v4 : Int) (rec_ : St → Option β) (K : Exit → St → Option β) :
    ev lay (E117 N) (retMask Tryd.f117) (lp Tryd.f117 0).body (lp Tryd.f117 0).ex ((lp Tryd.f117 0).lv (retMask Tryd.f117)) (h117_0_0  v0 v1 v2 v3 v4) (nextR (fun s' => rec_ (s'.tidy ((lp Tryd.f117 0).lv (retMask Tryd.f117)))) K) = spec_FormatTerm_l0b N  v0 v1 v2 v3 v4 (fun v0 v1 v2 v3 v4 => rec_ (h117_0_0  v0 v1 v2 v3 v4)) (fun y0 y1 y2 y3 => K (.exit 0) (x117_0_0_k0  y0 y1 y2 y3)) := (vst117_0_0 N (spec_IsTerm N) (spec_FormatTerm_l0 N) v0 v1 v2 v3 v4 rec_ K).trans (t_spec_FormatTerm_l0b N  v0 v1 v2 v3 v4 (fun v0 v1 v2 v3 v4 => rec_ (h117_0_0  v0 v1 v2 v3 v4)) (fun y0 y1 y2 y3 => K (.exit 0) (x117_0_0_k0  y0 y1 y2 y3))).symm
theorem ro117_0_0 {β : Type} (N : Nat)  (K : Exit → St → Option β) : ∀ (F : Nat) (v0 : Int) (v1 : ByteArray) (v2 : Int) (v3 : Int) (v4 : Int), (lp Tryd.f117 0).rounds lay (E117 N) (retMask Tryd.f117) F (h117_0_0  v0 v1 v2 v3 v4) K = spec_FormatTerm_l0 N  F v0 v1 v2 v3 v4 (fun y0 y1 y2 y3 => K (.exit 0) (x117_0_0_k0  y0 y1 y2 y3)) := by
  intro F
  induction F with
  | zero => intros; rfl
  | succ F ih =>
    intros
    rw [rounds_next]
    refine (st117_0_0 N  _ _ _ _ _ (fun s => (lp Tryd.f117 0).rounds lay (E117 N) (retMask Tryd.f117) F s K) K).trans ?_
    simp only [ih]
    rfl
theorem lk117_0 {β : Type} (N : Nat) : lookL (E117 (β := β) N).loops (lp Tryd.f117 0).id = LS117_0 N := by kernel_rfl
theorem rk117_0 {β : Type} (N : Nat) : RoundsOK lay (E117 (β := β) N) (retMask Tryd.f117) (lp Tryd.f117 0) := by
  intro s K r h
  rw [lk117_0] at h
  unfold LS117_0 VLS117_0 at h
  cases hb : shpSt (h117_0_0 0 ByteArray.empty 0 0 0) s with
  | true =>
    rw [hb, cond_true] at h
    exact ⟨N, by rw [← shpSt_ref hb, fl117_0_0 s]; exact (ro117_0_0 N  K N (intS (oneA (vT (nx tund s.tmps 0)))) (strS (oneA (vT (nx tund s.tmps 5)))) (intS (oneA (vT (nx tund s.tmps 6)))) (intS (nx .und (cellsB (nx .dead s.blks 0)) 0)) (intS (nx .und (cellsB (nx .dead s.blks 0)) 1))).trans h⟩
  | false =>
  rw [hb, cond_false] at h
  clear hb
  cases h
def BV_spec_FormatTerm {β : Type} (N : Nat) (q_spec_FormatTerm_l0 : Nat → Int → ByteArray → Int → Int → Int → (Int → ByteArray → Int → Int → Option β) → Option β) (q_spec_IsTerm : (a0 : Int) → (a1 : Int) → (a2 : Int) → (k : Bool → Option β) → Option β) (a0 : Int) (a1 : Int) (a2 : Int) (k : ByteArray → Option β) : Option β :=
q_spec_FormatTerm_l0  N a0 ByteArray.empty 0 a1 a2 (fun e5_0 e5_1 e5_2 e5_3 =>
(cond ((e5_1.toList == ByteArray.empty.toList))
(q_spec_IsTerm e5_0 e5_2 e5_3 fun r6 =>
(cond r6
(k ((strOf [49])))
(k e5_1)))
(k e5_1)))
theorem t_spec_FormatTerm {β : Type} (N : Nat) (a0 : Int) (a1 : Int) (a2 : Int) (k : ByteArray → Option β) : spec_FormatTerm N a0 a1 a2 k = BV_spec_FormatTerm N (spec_FormatTerm_l0 N) (spec_IsTerm N) a0 a1 a2 k := by
  unfold spec_FormatTerm BV_spec_FormatTerm
  rfl
theorem ve117_0 {β : Type} (N : Nat) (q_spec_IsTerm : (a0 : Int) → (a1 : Int) → (a2 : Int) → (k : Bool → Option β) → Option β) (q_spec_FormatTerm_l0 : Nat → Int → ByteArray → Int → Int → Int → (Int → ByteArray → Int → Int → Option β) → Option β)  (a0 : Int) (a1 : Int) (a2 : Int) (K : TV → Option β) : evFn lay (VE117 N q_spec_IsTerm q_spec_FormatTerm_l0) Tryd.f117 [.v (.one (.int .i64 a0)), .v (.agg [.int .i64 a1, .int .i64 a2])] K = BV_spec_FormatTerm N q_spec_FormatTerm_l0 q_spec_IsTerm a0 a1 a2 (fun z3 => K (.v (.one (.str z3)))) := by kernel_rfl
theorem e117_0 {β : Type} (N : Nat)  (a0 : Int) (a1 : Int) (a2 : Int) (K : TV → Option β) : evFn lay (E117 N) Tryd.f117 [.v (.one (.int .i64 a0)), .v (.agg [.int .i64 a1, .int .i64 a2])] K = spec_FormatTerm N a0 a1 a2 (fun z3 => K (.v (.one (.str z3)))) := (ve117_0 N (spec_IsTerm N) (spec_FormatTerm_l0 N) a0 a1 a2 K).trans (t_spec_FormatTerm N a0 a1 a2 (fun z3 => K (.v (.one (.str z3))))).symm
theorem o117 {β : Type} (N : Nat) : SpecOK (β := β) inv Tryd.prog 117 (S117 N) := by
  refine spec_of lay_ok mixed (E := E117 N) (specs_loops (specs_cons (o118 N) specs_nil)) muts_nil gs_nil Tryd.func117 (by kernel_rfl) 1 (by kernel_rfl) ⟨trivial, rk117_0 N⟩ fun args K r h => ?_
  unfold S117 VS117 at h
  split at h
  · exact (e117_0 N _ _ _ _).trans h
  · cases h
def VS44 {β : Type} (N : Nat) (q_spec_ParseTerm : (a0 : Int) → (a1 : ByteArray) → (k : Int → Int → Bool → Option β) → Option β) : Rv.Spec β := fun args K => match args with
  | [.v (.one (.int .i64 a0)), .v (.one (.str a1))] => q_spec_ParseTerm a0 a1 (fun z2 z3 z4 => K (.tup [.agg [.int .i64 z2, .int .i64 z3], .one (.bool z4)]))
  | _ => none
def S44 {β : Type} (N : Nat) : Rv.Spec β := VS44 N (spec_ParseTerm N)
def h44_0_0  (v0 : Int) (v1 : ByteArray) (v2 : Bool) (v3 : Int) (v4 : Int) (v5 : Int) (v6 : Int) (v7 : Int) : St := ⟨.v (.one (.int .i64 v0)) :: .v (.one (.str v1)) :: .v (.one .und) :: .v (.one .und) :: .v (.one (.ptr 0 0)) :: .v (.one .und) :: .v (.one (.ptr 1 0)) :: .v (.one (.bool v2)) :: .v (.one (.int .i64 v3)) :: .v (.one .und) :: .v (.one .und) :: .v (.one .und) :: .v (.one .und) :: .v (.one .und) :: .v (.one .und) :: .v (.one .und) :: .v (.one .und) :: .v (.one .und) :: .v (.one .und) :: .v (.one .und) :: .v (.one .und) :: .v (.one .und) :: .v (.one .und) :: .v (.one .und) :: .v (.one .und) :: .v (.one .und) :: .v (.one .und) :: .v (.one .und) :: .v (.one .und) :: .v (.one .und) :: .v (.one .und) :: .v (.one .und) :: .v (.one .und) :: .v (.one .und) :: .v (.one .und) :: .v (.one .und) :: .v (.one .und) :: .v (.one .und) :: .v (.one .und) :: .v (.one .und) :: .v (.one .und) :: .v (.one .und) :: .v (.one .und) :: .v (.one .und) :: .v (.one .und) :: .v (.one .und) :: .v (.one .und) :: .v (.one .und) :: .v (.one .und) :: .v (.one .und) :: .v (.one .und) :: .v (.one .und) :: .v (.one .und) :: .v (.one .und) :: .v (.one .und) :: .v (.one .und) :: .v (.one .und) :: .v (.one .und) :: .v (.one .und) :: .v (.one .und) :: .v (.one .und) :: .v (.one .und) :: .v (.one .und) :: .v (.one .und) :: .v (.one .und) :: .v (.one .und) :: [], [.cells 52 [.int .i64 v4, .int .i64 v5], .cells 52 [.int .i64 v6, .int .i64 v7]]⟩
def x44_0_0_k0  (y0 : Bool) (y1 : Int) (y2 : Int) : St := ⟨.v (.one .und) :: .v (.one .und) :: .v (.one .und) :: .v (.one .und) :: .v (.one (.ptr 0 0)) :: .v (.one (.bool y0)) :: .v (.one .und) :: .v (.one .und) :: .v (.one .und) :: .v (.one .und) :: .v (.one .und) :: .v (.one .und) :: .v (.one .und) :: .v (.one .und) :: .v (.one .und) :: .v (.one .und) :: .v (.one .und) :: .v (.one .und) :: .v (.one .und) :: .v (.one .und) :: .v (.one .und) :: .v (.one .und) :: .v (.one .und) :: .v (.one .und) :: .v (.one .und) :: .v (.one .und) :: .v (.one .und) :: .v (.one .und) :: .v (.one .und) :: .v (.one .und) :: .v (.one .und) :: .v (.one .und) :: .v (.one .und) :: .v (.one .und) :: .v (.one .und) :: .v (.one .und) :: .v (.one .und) :: .v (.one .und) :: .v (.one .und) :: .v (.one .und) :: .v (.one .und) :: .v (.one .und) :: .v (.one .und) :: .v (.one .und) :: .v (.one .und) :: .v (.one .und) :: .v (.one .und) :: .v (.one .und) :: .v (.one .und) :: .v (.one .und) :: .v (.one .und) :: .v (.one .und) :: .v (.one .und) :: .v (.one .und) :: .v (.one .und) :: .v (.one .und) :: .v (.one .und) :: .v (.one .und) :: .v (.one .und) :: .v (.one .und) :: .v (.one .und) :: .v (.one .und) :: .v (.one .und) :: .v (.one .und) :: .v (.one .und) :: .v (.one .und) :: [], [.cells 52 [.int .i64 y1, .int .i64 y2]]⟩
def x44_0_0_k1  (y0 : Int) (y1 : ByteArray) (y2 : Int) (y3 : Int) (y4 : Int) (y5 : Int) : St := ⟨.v (.one (.int .i64 y0)) :: .v (.one (.str y1)) :: .v (.one .und) :: .v (.one .und) :: .v (.one (.ptr 0 0)) :: .v (.one .und) :: .v (.one (.ptr 1 0)) :: .v (.one .und) :: .v (.one .und) :: .v (.one .und) :: .v (.one .und) :: .v (.one .und) :: .v (.one .und) :: .v (.one .und) :: .v (.one .und) :: .v (.one .und) :: .v (.one .und) :: .v (.one .und) :: .v (.one .und) :: .v (.one .und) :: .v (.one .und) :: .v (.one .und) :: .v (.one .und) :: .v (.one .und) :: .v (.one .und) :: .v (.one .und) :: .v (.one .und) :: .v (.one .und) :: .v (.one .und) :: .v (.one .und) :: .v (.one .und) :: .v (.one .und) :: .v (.one .und) :: .v (.one .und) :: .v (.one .und) :: .v (.one .und) :: .v (.one .und) :: .v (.one .und) :: .v (.one .und) :: .v (.one .und) :: .v (.one .und) :: .v (.one .und) :: .v (.one .und) :: .v (.one .und) :: .v (.one .und) :: .v (.one .und) :: .v (.one .und) :: .v (.one .und) :: .v (.one .und) :: .v (.one .und) :: .v (.one .und) :: .v (.one .und) :: .v (.one .und) :: .v (.one .und) :: .v (.one .und) :: .v (.one .und) :: .v (.one .und) :: .v (.one .und) :: .v (.one .und) :: .v (.one .und) :: .v (.one .und) :: .v (.one .und) :: .v (.one .und) :: .v (.one .und) :: .v (.one .und) :: .v (.one .und) :: [], [.cells 52 [.int .i64 y2, .int .i64 y3], .cells 52 [.int .i64 y4, .int .i64 y5]]⟩
theorem fl44_0_0 (s : St) : refSt (h44_0_0 0 ByteArray.empty false 0 0 0 0 0) s = h44_0_0 (intS (oneA (vT (nx tund s.tmps 0)))) (strS (oneA (vT (nx tund s.tmps 1)))) (boolS (oneA (vT (nx tund s.tmps 7)))) (intS (oneA (vT (nx tund s.tmps 8)))) (intS (nx .und (cellsB (nx .dead s.blks 0)) 0)) (intS (nx .und (cellsB (nx .dead s.blks 0)) 1)) (intS (nx .und (cellsB (nx .dead s.blks 1)) 0)) (intS (nx .und (cellsB (nx .dead s.blks 1)) 1)) := by kernel_rfl
def VLS44_0 {β : Type} (N : Nat) (q_spec_ParseTerm_l0 : Nat → Int → ByteArray → Bool → Int → Int → Int → Int → Int → (Bool → Int → Int → Option β) → (Int → ByteArray → Int → Int → Int → Int → Option β) → Option β) : LSpec β := fun s K => cond (shpSt (h44_0_0 0 ByteArray.empty false 0 0 0 0 0) s) ((fun (v0 : Int) (v1 : ByteArray) (v2 : Bool) (v3 : Int) (v4 : Int) (v5 : Int) (v6 : Int) (v7 : Int) => q_spec_ParseTerm_l0  N v0 v1 v2 v3 v4 v5 v6 v7 (fun y0 y1 y2 => K .ret (x44_0_0_k0  y0 y1 y2)) (fun y0 y1 y2 y3 y4 y5 => K (.exit 0) (x44_0_0_k1  y0 y1 y2 y3 y4 y5))) (intS (oneA (vT (nx tund s.tmps 0)))) (strS (oneA (vT (nx tund s.tmps 1)))) (boolS (oneA (vT (nx tund s.tmps 7)))) (intS (oneA (vT (nx tund s.tmps 8)))) (intS (nx .und (cellsB (nx .dead s.blks 0)) 0)) (intS (nx .und (cellsB (nx .dead s.blks 0)) 1)) (intS (nx .und (cellsB (nx .dead s.blks 1)) 0)) (intS (nx .und (cellsB (nx .dead s.blks 1)) 1))) (none)
def LS44_0 {β : Type} (N : Nat) : LSpec β := VLS44_0 N (spec_ParseTerm_l0 N)
def VE44 {β : Type} (N : Nat) (q_spec_l1In : (a0 : Int) → (a1 : Int) → (a2 : Int) → (k : Bool → Option β) → Option β) (q_spec_FormatTerm : (a0 : Int) → (a1 : Int) → (a2 : Int) → (k : ByteArray → Option β) → Option β) (q_spec_ParseTerm_l0 : Nat → Int → ByteArray → Bool → Int → Int → Int → Int → Int → (Bool → Int → Int → Option β) → (Int → ByteArray → Int → Int → Int → Int → Option β) → Option β) : Env β := ⟨[(43, VS43 N q_spec_l1In), (117, VS117 N q_spec_FormatTerm)], [], [(0, VLS44_0 N q_spec_ParseTerm_l0)], [], ⟨[], [], [], []⟩⟩
def E44 {β : Type} (N : Nat) : Env β := VE44 N (spec_l1In N) (spec_FormatTerm N) (spec_ParseTerm_l0 N)
def BV_spec_ParseTerm_l0b {β : Type} (N : Nat) (q_spec_l1In : (a0 : Int) → (a1 : Int) → (a2 : Int) → (k : Bool → Option β) → Option β)  (v0 : Int) (v1 : ByteArray) (v2 : Bool) (v3 : Int) (v4 : Int) (v5 : Int) (v6 : Int) (v7 : Int) (rec_ : Int → ByteArray → Bool → Int → Int → Int → Int → Int → Option β) (k0 : Bool → Int → Int → Option β) (k1 : Int → ByteArray → Int → Int → Int → Int → Option β) : Option β :=
(cond ((decide (v3 < (v1.size : Int))))
((cond ((!(v1.toList == ((strOf [49])).toList)))
((gd ((decide (0 ≤ v3)))
((gd ((decide (v3 < (v1.size : Int))))
((cond (((bt v1 v3) == 33))
(rec_ v0 v1 true ((w64 (v3 + 1))) v4 v5 v6 v7)
((gd ((decide (0 ≤ v3)))
((gd ((decide (v3 < (v1.size : Int))))
(q_spec_l1In v0 0 5 fun r5 =>
(cond (!r5)
(k0 false 0 0)
(q_spec_l1In ((w64 ((w64 ((bt v1 v3))) - 97))) 0 ((w64 (v0 - 1))) fun r6 =>
(cond (!r6)
(k0 false 0 0)
((gd ((decide (0 ≤ (w64 ((w64 ((bt v1 v3))) - 97)))))
((cond (!v2)
((gd ((decide (0 ≤ (w64 ((w64 ((bt v1 v3))) - 97)))))
(rec_ v0 v1 false ((w64 (v3 + 1))) v4 v5 ((bits .or .i64 v6 (shlI .i64 1 (w64 ((w64 ((bt v1 v3))) - 97))))) ((bits .or .i64 v7 (shlI .i64 1 (w64 ((w64 ((bt v1 v3))) - 97))))))))
(rec_ v0 v1 false ((w64 (v3 + 1))) v4 v5 ((bits .or .i64 v6 (shlI .i64 1 (w64 ((w64 ((bt v1 v3))) - 97))))) v7)))))))))))))))))))
(k1 v0 v1 v4 v5 v6 v7)))
(k1 v0 v1 v4 v5 v6 v7))
theorem t_spec_ParseTerm_l0b {β : Type} (N : Nat)  (v0 : Int) (v1 : ByteArray) (v2 : Bool) (v3 : Int) (v4 : Int) (v5 : Int) (v6 : Int) (v7 : Int) (rec_ : Int → ByteArray → Bool → Int → Int → Int → Int → Int → Option β) (k0 : Bool → Int → Int → Option β) (k1 : Int → ByteArray → Int → Int → Int → Int → Option β) : spec_ParseTerm_l0b N v0 v1 v2 v3 v4 v5 v6 v7 rec_ k0 k1 = BV_spec_ParseTerm_l0b N (spec_l1In N) v0 v1 v2 v3 v4 v5 v6 v7 rec_ k0 k1 := by
  unfold spec_ParseTerm_l0b BV_spec_ParseTerm_l0b
  rfl
theorem vst44_0_0 {β : Type} (N : Nat) (q_spec_l1In : (a0 : Int) → (a1 : Int) → (a2 : Int) → (k : Bool → Option β) → Option β) (q_spec_FormatTerm : (a0 : Int) → (a1 : Int) → (a2 : Int) → (k : ByteArray → Option β) → Option β) (q_spec_ParseTerm_l0 : Nat → Int → ByteArray → Bool → Int → Int → Int → Int → Int → (Bool → Int → Int → Option β) → (Int → ByteArray → Int → Int → Int → Int → Option β) → Option β)  (v0 : Int) (v1 : ByteArray) (v2 : Bool) (v3 : Int) (v4 : Int) (v5 : Int) (v6 : Int) (v7 : Int) (rec_ : St → Option β) (K : Exit → St → Option β) :
    ev lay (VE44 N q_spec_l1In q_spec_FormatTerm q_spec_ParseTerm_l0) (retMask Tryd.f44) (lp Tryd.f44 0).body (lp Tryd.f44 0).ex ((lp Tryd.f44 0).lv (retMask Tryd.f44)) (h44_0_0  v0 v1 v2 v3 v4 v5 v6 v7) (nextR (fun s' => rec_ (s'.tidy ((lp Tryd.f44 0).lv (retMask Tryd.f44)))) K) = BV_spec_ParseTerm_l0b N q_spec_l1In  v0 v1 v2 v3 v4 v5 v6 v7 (fun v0 v1 v2 v3 v4 v5 v6 v7 => rec_ (h44_0_0  v0 v1 v2 v3 v4 v5 v6 v7)) (fun y0 y1 y2 => K .ret (x44_0_0_k0  y0 y1 y2)) (fun y0 y1 y2 y3 y4 y5 => K (.exit 0) (x44_0_0_k1  y0 y1 y2 y3 y4 y5)) := by kernel_rfl
theorem st44_0_0 {β : Type} (N : Nat)  (v0 : Int) (v1 : ByteArray) (v2 : Bool) (v3 : Int) (v4 : Int) (v5 : Int) (v6 : Int) (v7 : Int) (rec_ : St → Option β) (K : Exit → St → Option β) :
    ev lay (E44 N) (retMask Tryd.f44) (lp Tryd.f44 0).body (lp Tryd.f44 0).ex ((lp Tryd.f44 0).lv (retMask Tryd.f44)) (h44_0_0  v0 v1 v2 v3 v4 v5 v6 v7) (nextR (fun s' => rec_ (s'.tidy ((lp Tryd.f44 0).lv (retMask Tryd.f44)))) K) = spec_ParseTerm_l0b N  v0 v1 v2 v3 v4 v5 v6 v7 (fun v0 v1 v2 v3 v4 v5 v6 v7 => rec_ (h44_0_0  v0 v1 v2 v3 v4 v5 v6 v7)) (fun y0 y1 y2 => K .ret (x44_0_0_k0  y0 y1 y2)) (fun y0 y1 y2 y3 y4 y5 => K (.exit 0) (x44_0_0_k1  y0 y1 y2 y3 y4 y5)) := (vst44_0_0 N (spec_l1In N) (spec_FormatTerm N) (spec_ParseTerm_l0 N) v0 v1 v2 v3 v4 v5 v6 v7 rec_ K).trans (t_spec_ParseTerm_l0b N  v0 v1 v2 v3 v4 v5 v6 v7 (fun v0 v1 v2 v3 v4 v5 v6 v7 => rec_ (h44_0_0  v0 v1 v2 v3 v4 v5 v6 v7)) (fun y0 y1 y2 => K .ret (x44_0_0_k0  y0 y1 y2)) (fun y0 y1 y2 y3 y4 y5 => K (.exit 0) (x44_0_0_k1  y0 y1 y2 y3 y4 y5))).symm
theorem ro44_0_0 {β : Type} (N : Nat)  (K : Exit → St → Option β) : ∀ (F : Nat) (v0 : Int) (v1 : ByteArray) (v2 : Bool) (v3 : Int) (v4 : Int) (v5 : Int) (v6 : Int) (v7 : Int), (lp Tryd.f44 0).rounds lay (E44 N) (retMask Tryd.f44) F (h44_0_0  v0 v1 v2 v3 v4 v5 v6 v7) K = spec_ParseTerm_l0 N  F v0 v1 v2 v3 v4 v5 v6 v7 (fun y0 y1 y2 => K .ret (x44_0_0_k0  y0 y1 y2)) (fun y0 y1 y2 y3 y4 y5 => K (.exit 0) (x44_0_0_k1  y0 y1 y2 y3 y4 y5)) := by
  intro F
  induction F with
  | zero => intros; rfl
  | succ F ih =>
    intros
    rw [rounds_next]
    refine (st44_0_0 N  _ _ _ _ _ _ _ _ (fun s => (lp Tryd.f44 0).rounds lay (E44 N) (retMask Tryd.f44) F s K) K).trans ?_
    simp only [ih]
    rfl
theorem lk44_0 {β : Type} (N : Nat) : lookL (E44 (β := β) N).loops (lp Tryd.f44 0).id = LS44_0 N := by kernel_rfl
theorem rk44_0 {β : Type} (N : Nat) : RoundsOK lay (E44 (β := β) N) (retMask Tryd.f44) (lp Tryd.f44 0) := by
  intro s K r h
  rw [lk44_0] at h
  unfold LS44_0 VLS44_0 at h
  cases hb : shpSt (h44_0_0 0 ByteArray.empty false 0 0 0 0 0) s with
  | true =>
    rw [hb, cond_true] at h
    exact ⟨N, by rw [← shpSt_ref hb, fl44_0_0 s]; exact (ro44_0_0 N  K N (intS (oneA (vT (nx tund s.tmps 0)))) (strS (oneA (vT (nx tund s.tmps 1)))) (boolS (oneA (vT (nx tund s.tmps 7)))) (intS (oneA (vT (nx tund s.tmps 8)))) (intS (nx .und (cellsB (nx .dead s.blks 0)) 0)) (intS (nx .und (cellsB (nx .dead s.blks 0)) 1)) (intS (nx .und (cellsB (nx .dead s.blks 1)) 0)) (intS (nx .und (cellsB (nx .dead s.blks 1)) 1))).trans h⟩
  | false =>
  rw [hb, cond_false] at h
  clear hb
  cases h
def BV_spec_ParseTerm {β : Type} (N : Nat) (q_spec_ParseTerm_l0 : Nat → Int → ByteArray → Bool → Int → Int → Int → Int → Int → (Bool → Int → Int → Option β) → (Int → ByteArray → Int → Int → Int → Int → Option β) → Option β) (q_spec_FormatTerm : (a0 : Int) → (a1 : Int) → (a2 : Int) → (k : ByteArray → Option β) → Option β) (a0 : Int) (a1 : ByteArray) (k : Int → Int → Bool → Option β) : Option β :=
q_spec_ParseTerm_l0  N a0 a1 false 0 0 0 0 0 (fun e7_0 e7_1 e7_2 =>
k e7_1 e7_2 e7_0) (fun e8_0 e8_1 e8_2 e8_3 e8_4 e8_5 =>
(cond ((e8_1.toList == ByteArray.empty.toList))
(k 0 0 false)
(q_spec_FormatTerm e8_0 e8_4 e8_5 fun r9 =>
(cond ((!(r9.toList == e8_1.toList)))
(k 0 0 false)
(k e8_4 e8_5 true)))))
theorem t_spec_ParseTerm {β : Type} (N : Nat) (a0 : Int) (a1 : ByteArray) (k : Int → Int → Bool → Option β) : spec_ParseTerm N a0 a1 k = BV_spec_ParseTerm N (spec_ParseTerm_l0 N) (spec_FormatTerm N) a0 a1 k := by
  unfold spec_ParseTerm BV_spec_ParseTerm
  rfl
theorem ve44_0 {β : Type} (N : Nat) (q_spec_l1In : (a0 : Int) → (a1 : Int) → (a2 : Int) → (k : Bool → Option β) → Option β) (q_spec_FormatTerm : (a0 : Int) → (a1 : Int) → (a2 : Int) → (k : ByteArray → Option β) → Option β) (q_spec_ParseTerm_l0 : Nat → Int → ByteArray → Bool → Int → Int → Int → Int → Int → (Bool → Int → Int → Option β) → (Int → ByteArray → Int → Int → Int → Int → Option β) → Option β)  (a0 : Int) (a1 : ByteArray) (K : TV → Option β) : evFn lay (VE44 N q_spec_l1In q_spec_FormatTerm q_spec_ParseTerm_l0) Tryd.f44 [.v (.one (.int .i64 a0)), .v (.one (.str a1))] K = BV_spec_ParseTerm N q_spec_ParseTerm_l0 q_spec_FormatTerm a0 a1 (fun z2 z3 z4 => K (.tup [.agg [.int .i64 z2, .int .i64 z3], .one (.bool z4)])) := by kernel_rfl
theorem e44_0 {β : Type} (N : Nat)  (a0 : Int) (a1 : ByteArray) (K : TV → Option β) : evFn lay (E44 N) Tryd.f44 [.v (.one (.int .i64 a0)), .v (.one (.str a1))] K = spec_ParseTerm N a0 a1 (fun z2 z3 z4 => K (.tup [.agg [.int .i64 z2, .int .i64 z3], .one (.bool z4)])) := (ve44_0 N (spec_l1In N) (spec_FormatTerm N) (spec_ParseTerm_l0 N) a0 a1 K).trans (t_spec_ParseTerm N a0 a1 (fun z2 z3 z4 => K (.tup [.agg [.int .i64 z2, .int .i64 z3], .one (.bool z4)]))).symm
theorem o44 {β : Type} (N : Nat) : SpecOK (β := β) inv Tryd.prog 44 (S44 N) := by
  refine spec_of lay_ok mixed (E := E44 N) (specs_loops (specs_cons (o43 N) (specs_cons (o117 N) specs_nil))) muts_nil gs_nil Tryd.func44 (by kernel_rfl) 1 (by kernel_rfl) ⟨trivial, rk44_0 N⟩ fun args K r h => ?_
  unfold S44 VS44 at h
  split at h
  · exact (e44_0 N _ _ _).trans h
  · cases h
def VS45 {β : Type} (N : Nat) (q_spec_l28Terms : (a0 : Int) → (a1 : List (Int × Int)) → (k : Bool → Option β) → Option β) : Rv.Spec β := fun args K => match args with
  | [.v (.one (.int .i64 a0)), .v (.one (.sl 52 (.pairs a1)))] => q_spec_l28Terms a0 a1 (fun z2 => K (.v (.one (.bool z2))))
  | _ => none
def S45 {β : Type} (N : Nat) : Rv.Spec β := VS45 N (spec_l28Terms N)
def h45_0_0  (v0 : Int) (v1 : List (Int × Int)) (v2 : Int) : St := ⟨.v (.one (.int .i64 v0)) :: .v (.one (.sl 52 (.pairs v1))) :: .v (.one .und) :: .v (.one .und) :: .v (.one .und) :: .v (.one (.int .i64 v2)) :: .v (.one .und) :: .v (.one .und) :: .v (.one .und) :: .v (.one .und) :: .v (.one .und) :: .v (.one .und) :: .v (.one .und) :: .v (.one .und) :: .v (.one .und) :: .v (.one .und) :: .v (.one .und) :: .v (.one .und) :: .v (.one .und) :: .v (.one .und) :: .v (.one .und) :: .v (.one .und) :: .v (.one .und) :: .v (.one .und) :: .v (.one .und) :: .v (.one .und) :: [], []⟩
def x45_0_0_k0  (y0 : Bool) : St := ⟨.v (.one .und) :: .v (.one .und) :: .v (.one .und) :: .v (.one .und) :: .v (.one (.bool y0)) :: .v (.one .und) :: .v (.one .und) :: .v (.one .und) :: .v (.one .und) :: .v (.one .und) :: .v (.one .und) :: .v (.one .und) :: .v (.one .und) :: .v (.one .und) :: .v (.one .und) :: .v (.one .und) :: .v (.one .und) :: .v (.one .und) :: .v (.one .und) :: .v (.one .und) :: .v (.one .und) :: .v (.one .und) :: .v (.one .und) :: .v (.one .und) :: .v (.one .und) :: .v (.one .und) :: [], []⟩
def x45_0_0_k1  (y0 : Int) (y1 : List (Int × Int)) : St := ⟨.v (.one (.int .i64 y0)) :: .v (.one (.sl 52 (.pairs y1))) :: .v (.one .und) :: .v (.one .und) :: .v (.one .und) :: .v (.one .und) :: .v (.one .und) :: .v (.one .und) :: .v (.one .und) :: .v (.one .und) :: .v (.one .und) :: .v (.one .und) :: .v (.one .und) :: .v (.one .und) :: .v (.one .und) :: .v (.one .und) :: .v (.one .und) :: .v (.one .und) :: .v (.one .und) :: .v (.one .und) :: .v (.one .und) :: .v (.one .und) :: .v (.one .und) :: .v (.one .und) :: .v (.one .und) :: .v (.one .und) :: [], []⟩
theorem fl45_0_0 (s : St) : refSt (h45_0_0 0 [] 0) s = h45_0_0 (intS (oneA (vT (nx tund s.tmps 0)))) (rPairs (rowV (oneA (vT (nx tund s.tmps 1))))) (intS (oneA (vT (nx tund s.tmps 5)))) := by kernel_rfl
def VLS45_0 {β : Type} (N : Nat) (q_spec_l28Terms_l0 : Nat → Int → List (Int × Int) → Int → (Bool → Option β) → (Int → List (Int × Int) → Option β) → Option β) : LSpec β := fun s K => cond (shpSt (h45_0_0 0 [] 0) s) ((fun (v0 : Int) (v1 : List (Int × Int)) (v2 : Int) => q_spec_l28Terms_l0  N v0 v1 v2 (fun y0 => K .ret (x45_0_0_k0  y0)) (fun y0 y1 => K (.exit 0) (x45_0_0_k1  y0 y1))) (intS (oneA (vT (nx tund s.tmps 0)))) (rPairs (rowV (oneA (vT (nx tund s.tmps 1))))) (intS (oneA (vT (nx tund s.tmps 5))))) (none)
def LS45_0 {β : Type} (N : Nat) : LSpec β := VLS45_0 N (spec_l28Terms_l0 N)
def VE45 {β : Type} (N : Nat) (q_spec_IsTerm : (a0 : Int) → (a1 : Int) → (a2 : Int) → (k : Bool → Option β) → Option β) (q_spec_l1In : (a0 : Int) → (a1 : Int) → (a2 : Int) → (k : Bool → Option β) → Option β) (q_spec_l28Terms_l0 : Nat → Int → List (Int × Int) → Int → (Bool → Option β) → (Int → List (Int × Int) → Option β) → Option β) : Env β := ⟨[(118, VS118 N q_spec_IsTerm), (43, VS43 N q_spec_l1In)], [], [(0, VLS45_0 N q_spec_l28Terms_l0)], [], ⟨[], [], [], []⟩⟩
def E45 {β : Type} (N : Nat) : Env β := VE45 N (spec_IsTerm N) (spec_l1In N) (spec_l28Terms_l0 N)
def BV_spec_l28Terms_l0b {β : Type} (N : Nat) (q_spec_IsTerm : (a0 : Int) → (a1 : Int) → (a2 : Int) → (k : Bool → Option β) → Option β)  (v0 : Int) (v1 : List (Int × Int)) (v2 : Int) (rec_ : Int → List (Int × Int) → Int → Option β) (k0 : Bool → Option β) (k1 : Int → List (Int × Int) → Option β) : Option β :=
(cond ((decide (v2 < (v1.length : Int))))
((gd ((decide (0 ≤ v2)))
((gd ((decide (v2 < (v1.length : Int))))
(q_spec_IsTerm v0 ((rd (0, 0) v1 v2).1) ((rd (0, 0) v1 v2).2) fun r3 =>
(cond (!r3)
(k0 false)
(rec_ v0 v1 ((w64 (v2 + 1))))))))))
(k1 v0 v1))
theorem t_spec_l28Terms_l0b {β : Type} (N : Nat)  (v0 : Int) (v1 : List (Int × Int)) (v2 : Int) (rec_ : Int → List (Int × Int) → Int → Option β) (k0 : Bool → Option β) (k1 : Int → List (Int × Int) → Option β) : spec_l28Terms_l0b N v0 v1 v2 rec_ k0 k1 = BV_spec_l28Terms_l0b N (spec_IsTerm N) v0 v1 v2 rec_ k0 k1 := by
  unfold spec_l28Terms_l0b BV_spec_l28Terms_l0b
  rfl
theorem vst45_0_0 {β : Type} (N : Nat) (q_spec_IsTerm : (a0 : Int) → (a1 : Int) → (a2 : Int) → (k : Bool → Option β) → Option β) (q_spec_l1In : (a0 : Int) → (a1 : Int) → (a2 : Int) → (k : Bool → Option β) → Option β) (q_spec_l28Terms_l0 : Nat → Int → List (Int × Int) → Int → (Bool → Option β) → (Int → List (Int × Int) → Option β) → Option β)  (v0 : Int) (v1 : List (Int × Int)) (v2 : Int) (rec_ : St → Option β) (K : Exit → St → Option β) :
    ev lay (VE45 N q_spec_IsTerm q_spec_l1In q_spec_l28Terms_l0) (retMask Tryd.f45) (lp Tryd.f45 0).body (lp Tryd.f45 0).ex ((lp Tryd.f45 0).lv (retMask Tryd.f45)) (h45_0_0  v0 v1 v2) (nextR (fun s' => rec_ (s'.tidy ((lp Tryd.f45 0).lv (retMask Tryd.f45)))) K) = BV_spec_l28Terms_l0b N q_spec_IsTerm  v0 v1 v2 (fun v0 v1 v2 => rec_ (h45_0_0  v0 v1 v2)) (fun y0 => K .ret (x45_0_0_k0  y0)) (fun y0 y1 => K (.exit 0) (x45_0_0_k1  y0 y1)) := by kernel_rfl
theorem st45_0_0 {β : Type} (N : Nat)  (v0 : Int) (v1 : List (Int × Int)) (v2 : Int) (rec_ : St → Option β) (K : Exit → St → Option β) :
    ev lay (E45 N) (retMask Tryd.f45) (lp Tryd.f45 0).body (lp Tryd.f45 0).ex ((lp Tryd.f45 0).lv (retMask Tryd.f45)) (h45_0_0  v0 v1 v2) (nextR (fun s' => rec_ (s'.tidy ((lp Tryd.f45 0).lv (retMask Tryd.f45)))) K) = spec_l28Terms_l0b N  v0 v1 v2 (fun v0 v1 v2 => rec_ (h45_0_0  v0 v1 v2)) (fun y0 => K .ret (x45_0_0_k0  y0)) (fun y0 y1 => K (.exit 0) (x45_0_0_k1  y0 y1)) := (vst45_0_0 N (spec_IsTerm N) (spec_l1In N) (spec_l28Terms_l0 N) v0 v1 v2 rec_ K).trans (t_spec_l28Terms_l0b N  v0 v1 v2 (fun v0 v1 v2 => rec_ (h45_0_0  v0 v1 v2)) (fun y0 => K .ret (x45_0_0_k0  y0)) (fun y0 y1 => K (.exit 0) (x45_0_0_k1  y0 y1))).symm
theorem ro45_0_0 {β : Type} (N : Nat)  (K : Exit → St → Option β) : ∀ (F : Nat) (v0 : Int) (v1 : List (Int × Int)) (v2 : Int), (lp Tryd.f45 0).rounds lay (E45 N) (retMask Tryd.f45) F (h45_0_0  v0 v1 v2) K = spec_l28Terms_l0 N  F v0 v1 v2 (fun y0 => K .ret (x45_0_0_k0  y0)) (fun y0 y1 => K (.exit 0) (x45_0_0_k1  y0 y1)) := by
  intro F
  induction F with
  | zero => intros; rfl
  | succ F ih =>
    intros
    rw [rounds_next]
    refine (st45_0_0 N  _ _ _ (fun s => (lp Tryd.f45 0).rounds lay (E45 N) (retMask Tryd.f45) F s K) K).trans ?_
    simp only [ih]
    rfl
theorem lk45_0 {β : Type} (N : Nat) : lookL (E45 (β := β) N).loops (lp Tryd.f45 0).id = LS45_0 N := by kernel_rfl
theorem rk45_0 {β : Type} (N : Nat) : RoundsOK lay (E45 (β := β) N) (retMask Tryd.f45) (lp Tryd.f45 0) := by
  intro s K r h
  rw [lk45_0] at h
  unfold LS45_0 VLS45_0 at h
  cases hb : shpSt (h45_0_0 0 [] 0) s with
  | true =>
    rw [hb, cond_true] at h
    exact ⟨N, by rw [← shpSt_ref hb, fl45_0_0 s]; exact (ro45_0_0 N  K N (intS (oneA (vT (nx tund s.tmps 0)))) (rPairs (rowV (oneA (vT (nx tund s.tmps 1))))) (intS (oneA (vT (nx tund s.tmps 5))))).trans h⟩
  | false =>
  rw [hb, cond_false] at h
  clear hb
  cases h
def BV_spec_l28Terms {β : Type} (N : Nat) (q_spec_l28Terms_l0 : Nat → Int → List (Int × Int) → Int → (Bool → Option β) → (Int → List (Int × Int) → Option β) → Option β) (q_spec_l1In : (a0 : Int) → (a1 : Int) → (a2 : Int) → (k : Bool → Option β) → Option β) (a0 : Int) (a1 : List (Int × Int)) (k : Bool → Option β) : Option β :=
q_spec_l28Terms_l0  N a0 a1 0 (fun e4_0 =>
k e4_0) (fun e5_0 e5_1 =>
q_spec_l1In e5_0 0 5 fun r6 =>
(cond r6
(k ((decide ((e5_1.length : Int) ≤ 40))))
(k false)))
theorem t_spec_l28Terms {β : Type} (N : Nat) (a0 : Int) (a1 : List (Int × Int)) (k : Bool → Option β) : spec_l28Terms N a0 a1 k = BV_spec_l28Terms N (spec_l28Terms_l0 N) (spec_l1In N) a0 a1 k := by
  unfold spec_l28Terms BV_spec_l28Terms
  rfl
theorem ve45_0 {β : Type} (N : Nat) (q_spec_IsTerm : (a0 : Int) → (a1 : Int) → (a2 : Int) → (k : Bool → Option β) → Option β) (q_spec_l1In : (a0 : Int) → (a1 : Int) → (a2 : Int) → (k : Bool → Option β) → Option β) (q_spec_l28Terms_l0 : Nat → Int → List (Int × Int) → Int → (Bool → Option β) → (Int → List (Int × Int) → Option β) → Option β)  (a0 : Int) (a1 : List (Int × Int)) (K : TV → Option β) : evFn lay (VE45 N q_spec_IsTerm q_spec_l1In q_spec_l28Terms_l0) Tryd.f45 [.v (.one (.int .i64 a0)), .v (.one (.sl 52 (.pairs a1)))] K = BV_spec_l28Terms N q_spec_l28Terms_l0 q_spec_l1In a0 a1 (fun z2 => K (.v (.one (.bool z2)))) := by kernel_rfl
theorem e45_0 {β : Type} (N : Nat)  (a0 : Int) (a1 : List (Int × Int)) (K : TV → Option β) : evFn lay (E45 N) Tryd.f45 [.v (.one (.int .i64 a0)), .v (.one (.sl 52 (.pairs a1)))] K = spec_l28Terms N a0 a1 (fun z2 => K (.v (.one (.bool z2)))) := (ve45_0 N (spec_IsTerm N) (spec_l1In N) (spec_l28Terms_l0 N) a0 a1 K).trans (t_spec_l28Terms N a0 a1 (fun z2 => K (.v (.one (.bool z2))))).symm
theorem o45 {β : Type} (N : Nat) : SpecOK (β := β) inv Tryd.prog 45 (S45 N) := by
  refine spec_of lay_ok mixed (E := E45 N) (specs_loops (specs_cons (o118 N) (specs_cons (o43 N) specs_nil))) muts_nil gs_nil Tryd.func45 (by kernel_rfl) 1 (by kernel_rfl) ⟨trivial, rk45_0 N⟩ fun args K r h => ?_
  unfold S45 VS45 at h
  split at h
  · exact (e45_0 N _ _ _).trans h
  · cases h
def VS18 {β : Type} (N : Nat) (q_spec_ParseSum : (a0 : Int) → (a1 : ByteArray) → (k : List (Int × Int) → Bool → Option β) → Option β) : Rv.Spec β := fun args K => match args with
  | [.v (.one (.int .i64 a0)), .v (.one (.str a1))] => q_spec_ParseSum a0 a1 (fun z2 z3 => K (.tup [.one (.sl 52 (.pairs z2)), .one (.bool z3)]))
  | _ => none
def S18 {β : Type} (N : Nat) : Rv.Spec β := VS18 N (spec_ParseSum N)
def h18_0_0  (v0 : Int) (v1 : ByteArray) (v2 : ByteArray) (v3 : Int) (v4 : List (Int × Int)) : St := ⟨.v (.one (.int .i64 v0)) :: .v (.one (.str v1)) :: .v (.one .und) :: .v (.one .und) :: .v (.one .und) :: .v (.one .und) :: .v (.one (.row 0)) :: .v (.one (.str v2)) :: .v (.one (.int .i64 v3)) :: .v (.one .und) :: .v (.one .und) :: .v (.one .und) :: .v (.one .und) :: .v (.one .und) :: .v (.one .und) :: .v (.one .und) :: .v (.one .und) :: .v (.one .und) :: .v (.one .und) :: .v (.one .und) :: .v (.one .und) :: .v (.one .und) :: .v (.one .und) :: .v (.one .und) :: .v (.one .und) :: .v (.one .und) :: .v (.one .und) :: .v (.one .und) :: .v (.one .und) :: .v (.one .und) :: .v (.one .und) :: .v (.one .und) :: .v (.one .und) :: .v (.one .und) :: .v (.one .und) :: .v (.one .und) :: .v (.one .und) :: .v (.one .und) :: .v (.one .und) :: .v (.one .und) :: .v (.one .und) :: .v (.one .und) :: .v (.one .und) :: .v (.one .und) :: .v (.one .und) :: .v (.one .und) :: .v (.one .und) :: .v (.one .und) :: .v (.one .und) :: .v (.one .und) :: .v (.one .und) :: .v (.one .und) :: .v (.one .und) :: .v (.one .und) :: .v (.one .und) :: .v (.one .und) :: .v (.one .und) :: .v (.one .und) :: .v (.one .und) :: .v (.one .und) :: .v (.one .und) :: .v (.one .und) :: .v (.one .und) :: .v (.one .und) :: .v (.one .und) :: .v (.one .und) :: .v (.one .und) :: .v (.one .und) :: .v (.one .und) :: [], [.row 52 (.pairs v4)]⟩
def x18_0_0_k0  (y0 : Bool) (y1 : List (Int × Int)) : St := ⟨.v (.one .und) :: .v (.one .und) :: .v (.one .und) :: .v (.one .und) :: .v (.one (.row 0)) :: .v (.one (.bool y0)) :: .v (.one .und) :: .v (.one .und) :: .v (.one .und) :: .v (.one .und) :: .v (.one .und) :: .v (.one .und) :: .v (.one .und) :: .v (.one .und) :: .v (.one .und) :: .v (.one .und) :: .v (.one .und) :: .v (.one .und) :: .v (.one .und) :: .v (.one .und) :: .v (.one .und) :: .v (.one .und) :: .v (.one .und) :: .v (.one .und) :: .v (.one .und) :: .v (.one .und) :: .v (.one .und) :: .v (.one .und) :: .v (.one .und) :: .v (.one .und) :: .v (.one .und) :: .v (.one .und) :: .v (.one .und) :: .v (.one .und) :: .v (.one .und) :: .v (.one .und) :: .v (.one .und) :: .v (.one .und) :: .v (.one .und) :: .v (.one .und) :: .v (.one .und) :: .v (.one .und) :: .v (.one .und) :: .v (.one .und) :: .v (.one .und) :: .v (.one .und) :: .v (.one .und) :: .v (.one .und) :: .v (.one .und) :: .v (.one .und) :: .v (.one .und) :: .v (.one .und) :: .v (.one .und) :: .v (.one .und) :: .v (.one .und) :: .v (.one .und) :: .v (.one .und) :: .v (.one .und) :: .v (.one .und) :: .v (.one .und) :: .v (.one .und) :: .v (.one .und) :: .v (.one .und) :: .v (.one .und) :: .v (.one .und) :: .v (.one .und) :: .v (.one .und) :: .v (.one .und) :: .v (.one .und) :: [], [.row 52 (.pairs y1)]⟩
def x18_0_0_k1  (y0 : Int) (y1 : ByteArray) (y2 : List (Int × Int)) : St := ⟨.v (.one (.int .i64 y0)) :: .v (.one (.str y1)) :: .v (.one .und) :: .v (.one .und) :: .v (.one .und) :: .v (.one .und) :: .v (.one (.row 0)) :: .v (.one .und) :: .v (.one .und) :: .v (.one .und) :: .v (.one .und) :: .v (.one .und) :: .v (.one .und) :: .v (.one .und) :: .v (.one .und) :: .v (.one .und) :: .v (.one .und) :: .v (.one .und) :: .v (.one .und) :: .v (.one .und) :: .v (.one .und) :: .v (.one .und) :: .v (.one .und) :: .v (.one .und) :: .v (.one .und) :: .v (.one .und) :: .v (.one .und) :: .v (.one .und) :: .v (.one .und) :: .v (.one .und) :: .v (.one .und) :: .v (.one .und) :: .v (.one .und) :: .v (.one .und) :: .v (.one .und) :: .v (.one .und) :: .v (.one .und) :: .v (.one .und) :: .v (.one .und) :: .v (.one .und) :: .v (.one .und) :: .v (.one .und) :: .v (.one .und) :: .v (.one .und) :: .v (.one .und) :: .v (.one .und) :: .v (.one .und) :: .v (.one .und) :: .v (.one .und) :: .v (.one .und) :: .v (.one .und) :: .v (.one .und) :: .v (.one .und) :: .v (.one .und) :: .v (.one .und) :: .v (.one .und) :: .v (.one .und) :: .v (.one .und) :: .v (.one .und) :: .v (.one .und) :: .v (.one .und) :: .v (.one .und) :: .v (.one .und) :: .v (.one .und) :: .v (.one .und) :: .v (.one .und) :: .v (.one .und) :: .v (.one .und) :: .v (.one .und) :: [], [.row 52 (.pairs y2)]⟩
theorem fl18_0_0 (s : St) : refSt (h18_0_0 0 ByteArray.empty ByteArray.empty 0 []) s = h18_0_0 (intS (oneA (vT (nx tund s.tmps 0)))) (strS (oneA (vT (nx tund s.tmps 1)))) (strS (oneA (vT (nx tund s.tmps 7)))) (intS (oneA (vT (nx tund s.tmps 8)))) (rPairs (rowB_ (nx .dead s.blks 0))) := by kernel_rfl
def VLS18_0 {β : Type} (N : Nat) (q_spec_ParseSum_l0 : Nat → Int → ByteArray → ByteArray → Int → List (Int × Int) → (Bool → List (Int × Int) → Option β) → (Int → ByteArray → List (Int × Int) → Option β) → Option β) : LSpec β := fun s K => cond (shpSt (h18_0_0 0 ByteArray.empty ByteArray.empty 0 []) s) ((fun (v0 : Int) (v1 : ByteArray) (v2 : ByteArray) (v3 : Int) (v4 : List (Int × Int)) => q_spec_ParseSum_l0  N v0 v1 v2 v3 v4 (fun y0 y1 => K .ret (x18_0_0_k0  y0 y1)) (fun y0 y1 y2 => K (.exit 0) (x18_0_0_k1  y0 y1 y2))) (intS (oneA (vT (nx tund s.tmps 0)))) (strS (oneA (vT (nx tund s.tmps 1)))) (strS (oneA (vT (nx tund s.tmps 7)))) (intS (oneA (vT (nx tund s.tmps 8)))) (rPairs (rowB_ (nx .dead s.blks 0)))) (none)
def LS18_0 {β : Type} (N : Nat) : LSpec β := VLS18_0 N (spec_ParseSum_l0 N)
def VE18 {β : Type} (N : Nat) (q_spec_l1In : (a0 : Int) → (a1 : Int) → (a2 : Int) → (k : Bool → Option β) → Option β) (q_spec_ParseTerm : (a0 : Int) → (a1 : ByteArray) → (k : Int → Int → Bool → Option β) → Option β) (q_spec_l28Terms : (a0 : Int) → (a1 : List (Int × Int)) → (k : Bool → Option β) → Option β) (q_spec_ParseSum_l0 : Nat → Int → ByteArray → ByteArray → Int → List (Int × Int) → (Bool → List (Int × Int) → Option β) → (Int → ByteArray → List (Int × Int) → Option β) → Option β) : Env β := ⟨[(43, VS43 N q_spec_l1In), (44, VS44 N q_spec_ParseTerm), (45, VS45 N q_spec_l28Terms)], [], [(0, VLS18_0 N q_spec_ParseSum_l0)], [], ⟨[], [], [], []⟩⟩
def E18 {β : Type} (N : Nat) : Env β := VE18 N (spec_l1In N) (spec_ParseTerm N) (spec_l28Terms N) (spec_ParseSum_l0 N)
def BV_spec_ParseSum_l0b {β : Type} (N : Nat) (q_spec_ParseTerm : (a0 : Int) → (a1 : ByteArray) → (k : Int → Int → Bool → Option β) → Option β)  (v0 : Int) (v1 : ByteArray) (v2 : ByteArray) (v3 : Int) (v4 : List (Int × Int)) (rec_ : Int → ByteArray → ByteArray → Int → List (Int × Int) → Option β) (k0 : Bool → List (Int × Int) → Option β) (k1 : Int → ByteArray → List (Int × Int) → Option β) : Option β :=
(cond ((decide (v3 ≤ (v1.size : Int))))
((cond ((decide ((v1.size : Int) ≤ 200)))
((cond ((decide (v3 < (v1.size : Int))))
((gd ((decide (0 ≤ v3)))
((gd ((decide (v3 < (v1.size : Int))))
((cond (((bt v1 v3) != 124))
((gd ((decide (0 ≤ (w64 (v3 + 1)))))
((gd ((decide ((w64 (v3 + 1)) ≤ (v1.size : Int))))
((gd ((decide (0 ≤ v3)))
((gd ((decide (v3 ≤ (w64 (v3 + 1)))))
((gd ((decide (v2.size + ((v1.extract (Int.toNat v3) (Int.toNat (w64 (v3 + 1))))).size ≤ 9223372036854775807)))
(rec_ v0 v1 ((v2 ++ (v1.extract (Int.toNat v3) (Int.toNat (w64 (v3 + 1)))))) ((w64 (v3 + 1))) v4)))))))))))
(q_spec_ParseTerm v0 v2 fun r5 r6 r7 =>
(cond (!r7)
(k0 false (([] : List (Int × Int))))
((gd ((decide ((v4.length + ((([] : List (Int × Int)) ++ [(r5, r6)])).length) * 16 ≤ 140737488355328)))
(rec_ v0 v1 ByteArray.empty ((w64 (v3 + 1))) ((v4 ++ (([] : List (Int × Int)) ++ [(r5, r6)]))))))))))))))
(q_spec_ParseTerm v0 v2 fun r8 r9 r10 =>
(cond (!r10)
(k0 false (([] : List (Int × Int))))
((gd ((decide ((v4.length + ((([] : List (Int × Int)) ++ [(r8, r9)])).length) * 16 ≤ 140737488355328)))
(rec_ v0 v1 ByteArray.empty ((w64 (v3 + 1))) ((v4 ++ (([] : List (Int × Int)) ++ [(r8, r9)]))))))))))
(k1 v0 v1 v4)))
(k1 v0 v1 v4))
theorem t_spec_ParseSum_l0b {β : Type} (N : Nat)  (v0 : Int) (v1 : ByteArray) (v2 : ByteArray) (v3 : Int) (v4 : List (Int × Int)) (rec_ : Int → ByteArray → ByteArray → Int → List (Int × Int) → Option β) (k0 : Bool → List (Int × Int) → Option β) (k1 : Int → ByteArray → List (Int × Int) → Option β) : spec_ParseSum_l0b N v0 v1 v2 v3 v4 rec_ k0 k1 = BV_spec_ParseSum_l0b N (spec_ParseTerm N) v0 v1 v2 v3 v4 rec_ k0 k1 := by
  unfold spec_ParseSum_l0b BV_spec_ParseSum_l0b
  rfl
theorem vst18_0_0 {β : Type} (N : Nat) (q_spec_l1In : (a0 : Int) → (a1 : Int) → (a2 : Int) → (k : Bool → Option β) → Option β) (q_spec_ParseTerm : (a0 : Int) → (a1 : ByteArray) → (k : Int → Int → Bool → Option β) → Option β) (q_spec_l28Terms : (a0 : Int) → (a1 : List (Int × Int)) → (k : Bool → Option β) → Option β) (q_spec_ParseSum_l0 : Nat → Int → ByteArray → ByteArray → Int → List (Int × Int) → (Bool → List (Int × Int) → Option β) → (Int → ByteArray → List (Int × Int) → Option β) → Option β)  (v0 : Int) (v1 : ByteArray) (v2 : ByteArray) (v3 : Int) (v4 : List (Int × Int)) (rec_ : St → Option β) (K : Exit → St → Option β) :
    ev lay (VE18 N q_spec_l1In q_spec_ParseTerm q_spec_l28Terms q_spec_ParseSum_l0) (retMask Tryd.f18) (lp Tryd.f18 0).body (lp Tryd.f18 0).ex ((lp Tryd.f18 0).lv (retMask Tryd.f18)) (h18_0_0  v0 v1 v2 v3 v4) (nextR (fun s' => rec_ (s'.tidy ((lp Tryd.f18 0).lv (retMask Tryd.f18)))) K) = BV_spec_ParseSum_l0b N q_spec_ParseTerm  v0 v1 v2 v3 v4 (fun v0 v1 v2 v3 v4 => rec_ (h18_0_0  v0 v1 v2 v3 v4)) (fun y0 y1 => K .ret (x18_0_0_k0  y0 y1)) (fun y0 y1 y2 => K (.exit 0) (x18_0_0_k1  y0 y1 y2)) := by kernel_rfl
theorem st18_0_0 {β : Type} (N : Nat)  (v0 : Int) (v1 : ByteArray) (v2 : ByteArray) (v3 : Int) (v4 : List (Int × Int)) (rec_ : St → Option β) (K : Exit → St → Option β) :
    ev lay (E18 N) (retMask Tryd.f18) (lp Tryd.f18 0).body (lp Tryd.f18 0).ex ((lp Tryd.f18 0).lv (retMask Tryd.f18)) (h18_0_0  v0 v1 v2 v3 v4) (nextR (fun s' => rec_ (s'.tidy ((lp Tryd.f18 0).lv (retMask Tryd.f18)))) K) = spec_ParseSum_l0b N  v0 v1 v2 v3 v4 (fun v0 v1 v2 v3 v4 => rec_ (h18_0_0  v0 v1 v2 v3 v4)) (fun y0 y1 => K .ret (x18_0_0_k0  y0 y1)) (fun y0 y1 y2 => K (.exit 0) (x18_0_0_k1  y0 y1 y2)) := (vst18_0_0 N (spec_l1In N) (spec_ParseTerm N) (spec_l28Terms N) (spec_ParseSum_l0 N) v0 v1 v2 v3 v4 rec_ K).trans (t_spec_ParseSum_l0b N  v0 v1 v2 v3 v4 (fun v0 v1 v2 v3 v4 => rec_ (h18_0_0  v0 v1 v2 v3 v4)) (fun y0 y1 => K .ret (x18_0_0_k0  y0 y1)) (fun y0 y1 y2 => K (.exit 0) (x18_0_0_k1  y0 y1 y2))).symm
theorem ro18_0_0 {β : Type} (N : Nat)  (K : Exit → St → Option β) : ∀ (F : Nat) (v0 : Int) (v1 : ByteArray) (v2 : ByteArray) (v3 : Int) (v4 : List (Int × Int)), (lp Tryd.f18 0).rounds lay (E18 N) (retMask Tryd.f18) F (h18_0_0  v0 v1 v2 v3 v4) K = spec_ParseSum_l0 N  F v0 v1 v2 v3 v4 (fun y0 y1 => K .ret (x18_0_0_k0  y0 y1)) (fun y0 y1 y2 => K (.exit 0) (x18_0_0_k1  y0 y1 y2)) := by
  intro F
  induction F with
  | zero => intros; rfl
  | succ F ih =>
    intros
    rw [rounds_next]
    refine (st18_0_0 N  _ _ _ _ _ (fun s => (lp Tryd.f18 0).rounds lay (E18 N) (retMask Tryd.f18) F s K) K).trans ?_
    simp only [ih]
    rfl
theorem lk18_0 {β : Type} (N : Nat) : lookL (E18 (β := β) N).loops (lp Tryd.f18 0).id = LS18_0 N := by kernel_rfl
theorem rk18_0 {β : Type} (N : Nat) : RoundsOK lay (E18 (β := β) N) (retMask Tryd.f18) (lp Tryd.f18 0) := by
  intro s K r h
  rw [lk18_0] at h
  unfold LS18_0 VLS18_0 at h
  cases hb : shpSt (h18_0_0 0 ByteArray.empty ByteArray.empty 0 []) s with
  | true =>
    rw [hb, cond_true] at h
    exact ⟨N, by rw [← shpSt_ref hb, fl18_0_0 s]; exact (ro18_0_0 N  K N (intS (oneA (vT (nx tund s.tmps 0)))) (strS (oneA (vT (nx tund s.tmps 1)))) (strS (oneA (vT (nx tund s.tmps 7)))) (intS (oneA (vT (nx tund s.tmps 8)))) (rPairs (rowB_ (nx .dead s.blks 0)))).trans h⟩
  | false =>
  rw [hb, cond_false] at h
  clear hb
  cases h
def BV_spec_ParseSum {β : Type} (N : Nat) (q_spec_l1In : (a0 : Int) → (a1 : Int) → (a2 : Int) → (k : Bool → Option β) → Option β) (q_spec_ParseSum_l0 : Nat → Int → ByteArray → ByteArray → Int → List (Int × Int) → (Bool → List (Int × Int) → Option β) → (Int → ByteArray → List (Int × Int) → Option β) → Option β) (q_spec_l28Terms : (a0 : Int) → (a1 : List (Int × Int)) → (k : Bool → Option β) → Option β) (a0 : Int) (a1 : ByteArray) (k : List (Int × Int) → Bool → Option β) : Option β :=
(cond ((a1.toList == ((strOf [48])).toList))
(q_spec_l1In a0 0 5 fun r4 =>
k (([] : List (Int × Int))) r4)
(q_spec_ParseSum_l0  N a0 a1 ByteArray.empty 0 (([] : List (Int × Int))) (fun e11_0 e11_1 =>
k e11_1 e11_0) (fun e12_0 e12_1 e12_2 =>
(cond ((decide ((e12_1.size : Int) > 200)))
(k (([] : List (Int × Int))) false)
(q_spec_l28Terms e12_0 e12_2 fun r13 =>
(cond (!r13)
(k (([] : List (Int × Int))) false)
(k e12_2 true)))))))
theorem t_spec_ParseSum {β : Type} (N : Nat) (a0 : Int) (a1 : ByteArray) (k : List (Int × Int) → Bool → Option β) : spec_ParseSum N a0 a1 k = BV_spec_ParseSum N (spec_l1In N) (spec_ParseSum_l0 N) (spec_l28Terms N) a0 a1 k := by
  unfold spec_ParseSum BV_spec_ParseSum
  rfl
theorem ve18_0 {β : Type} (N : Nat) (q_spec_l1In : (a0 : Int) → (a1 : Int) → (a2 : Int) → (k : Bool → Option β) → Option β) (q_spec_ParseTerm : (a0 : Int) → (a1 : ByteArray) → (k : Int → Int → Bool → Option β) → Option β) (q_spec_l28Terms : (a0 : Int) → (a1 : List (Int × Int)) → (k : Bool → Option β) → Option β) (q_spec_ParseSum_l0 : Nat → Int → ByteArray → ByteArray → Int → List (Int × Int) → (Bool → List (Int × Int) → Option β) → (Int → ByteArray → List (Int × Int) → Option β) → Option β)  (a0 : Int) (a1 : ByteArray) (K : TV → Option β) : evFn lay (VE18 N q_spec_l1In q_spec_ParseTerm q_spec_l28Terms q_spec_ParseSum_l0) Tryd.f18 [.v (.one (.int .i64 a0)), .v (.one (.str a1))] K = BV_spec_ParseSum N q_spec_l1In q_spec_ParseSum_l0 q_spec_l28Terms a0 a1 (fun z2 z3 => K (.tup [.one (.sl 52 (.pairs z2)), .one (.bool z3)])) := by kernel_rfl
theorem e18_0 {β : Type} (N : Nat)  (a0 : Int) (a1 : ByteArray) (K : TV → Option β) : evFn lay (E18 N) Tryd.f18 [.v (.one (.int .i64 a0)), .v (.one (.str a1))] K = spec_ParseSum N a0 a1 (fun z2 z3 => K (.tup [.one (.sl 52 (.pairs z2)), .one (.bool z3)])) := (ve18_0 N (spec_l1In N) (spec_ParseTerm N) (spec_l28Terms N) (spec_ParseSum_l0 N) a0 a1 K).trans (t_spec_ParseSum N a0 a1 (fun z2 z3 => K (.tup [.one (.sl 52 (.pairs z2)), .one (.bool z3)]))).symm
theorem o18 {β : Type} (N : Nat) : SpecOK (β := β) inv Tryd.prog 18 (S18 N) := by
  refine spec_of lay_ok mixed (E := E18 N) (specs_loops (specs_cons (o43 N) (specs_cons (o44 N) (specs_cons (o45 N) specs_nil)))) muts_nil gs_nil Tryd.func18 (by kernel_rfl) 1 (by kernel_rfl) ⟨trivial, rk18_0 N⟩ fun args K r h => ?_
  unfold S18 VS18 at h
  split at h
  · exact (e18_0 N _ _ _).trans h
  · cases h
def VS46 {β : Type} (N : Nat) (q_impl_isBits : (a0 : Int) → (k : Bool → Option β) → Option β) : Rv.Spec β := fun args K => match args with
  | [.v (.one (.int .i64 a0))] => q_impl_isBits a0 (fun z1 => K (.v (.one (.bool z1))))
  | _ => none
def S46 {β : Type} (N : Nat) : Rv.Spec β := VS46 N (impl_isBits N)
def VE46 {β : Type} (N : Nat) : Env β := ⟨[], [], [], [], ⟨[], [], [], []⟩⟩
def E46 {β : Type} (N : Nat) : Env β := VE46 N
def BV_impl_isBits {β : Type} (N : Nat) (a0 : Int) (k : Bool → Option β) : Option β :=
(cond ((decide (a0 ≥ 0)))
(k ((decide (a0 ≤ 5))))
(k false))
theorem t_impl_isBits {β : Type} (N : Nat) (a0 : Int) (k : Bool → Option β) : impl_isBits N a0 k = BV_impl_isBits N a0 k := by
  unfold impl_isBits BV_impl_isBits
  rfl
theorem ve46_0 {β : Type} (N : Nat)  (a0 : Int) (K : TV → Option β) : evFn lay (VE46 N) Tryd.f46 [.v (.one (.int .i64 a0))] K = BV_impl_isBits N a0 (fun z1 => K (.v (.one (.bool z1)))) := by kernel_rfl
theorem e46_0 {β : Type} (N : Nat)  (a0 : Int) (K : TV → Option β) : evFn lay (E46 N) Tryd.f46 [.v (.one (.int .i64 a0))] K = impl_isBits N a0 (fun z1 => K (.v (.one (.bool z1)))) := (ve46_0 N a0 K).trans (t_impl_isBits N a0 (fun z1 => K (.v (.one (.bool z1))))).symm
theorem o46 {β : Type} (N : Nat) : SpecOK (β := β) inv Tryd.prog 46 (S46 N) := by
  refine spec_of lay_ok mixed (E := E46 N) (specs_loops specs_nil) muts_nil gs_nil Tryd.func46 (by kernel_rfl) 0 (by kernel_rfl) trivial fun args K r h => ?_
  unfold S46 VS46 at h
  split at h
  · exact (e46_0 N _ _).trans h
  · cases h
def VS120 {β : Type} (N : Nat) (q_impl_isLetter : (a0 : Int) → (k : Bool → Option β) → Option β) : Rv.Spec β := fun args K => match args with
  | [.v (.one (.int .u8 a0))] => q_impl_isLetter a0 (fun z1 => K (.v (.one (.bool z1))))
  | _ => none
def S120 {β : Type} (N : Nat) : Rv.Spec β := VS120 N (impl_isLetter N)
def VE120 {β : Type} (N : Nat) : Env β := ⟨[], [], [], [], ⟨[], [], [], []⟩⟩
def E120 {β : Type} (N : Nat) : Env β := VE120 N
def BV_impl_isLetter {β : Type} (N : Nat) (a0 : Int) (k : Bool → Option β) : Option β :=
(cond ((decide (a0 ≥ 97)))
(k ((decide (a0 < 102))))
(k false))
theorem t_impl_isLetter {β : Type} (N : Nat) (a0 : Int) (k : Bool → Option β) : impl_isLetter N a0 k = BV_impl_isLetter N a0 k := by
  unfold impl_isLetter BV_impl_isLetter
  rfl
theorem ve120_0 {β : Type} (N : Nat)  (a0 : Int) (K : TV → Option β) : evFn lay (VE120 N) Tryd.f120 [.v (.one (.int .u8 a0))] K = BV_impl_isLetter N a0 (fun z1 => K (.v (.one (.bool z1)))) := by kernel_rfl
theorem e120_0 {β : Type} (N : Nat)  (a0 : Int) (K : TV → Option β) : evFn lay (E120 N) Tryd.f120 [.v (.one (.int .u8 a0))] K = impl_isLetter N a0 (fun z1 => K (.v (.one (.bool z1)))) := (ve120_0 N a0 K).trans (t_impl_isLetter N a0 (fun z1 => K (.v (.one (.bool z1))))).symm
theorem o120 {β : Type} (N : Nat) : SpecOK (β := β) inv Tryd.prog 120 (S120 N) := by
  refine spec_of lay_ok mixed (E := E120 N) (specs_loops specs_nil) muts_nil gs_nil Tryd.func120 (by kernel_rfl) 0 (by kernel_rfl) trivial fun args K r h => ?_
  unfold S120 VS120 at h
  split at h
  · exact (e120_0 N _ _).trans h
  · cases h
def VS220 {β : Type} (N : Nat) (q_impl_isInput : (a0 : Int) → (a1 : Int) → (k : Bool → Option β) → Option β) : Rv.Spec β := fun args K => match args with
  | [.v (.one (.int .i64 a0)), .v (.one (.int .i64 a1))] => q_impl_isInput a0 a1 (fun z2 => K (.v (.one (.bool z2))))
  | _ => none
def S220 {β : Type} (N : Nat) : Rv.Spec β := VS220 N (impl_isInput N)
def VE220 {β : Type} (N : Nat) : Env β := ⟨[], [], [], [], ⟨[], [], [], []⟩⟩
def E220 {β : Type} (N : Nat) : Env β := VE220 N
def BV_impl_isInput {β : Type} (N : Nat) (a0 : Int) (a1 : Int) (k : Bool → Option β) : Option β :=
(cond ((decide (a1 ≥ 0)))
((gd ((decide (0 ≤ a0)))
(k ((decide (a1 < (shlI .i64 1 a0)))))))
(k false))
theorem t_impl_isInput {β : Type} (N : Nat) (a0 : Int) (a1 : Int) (k : Bool → Option β) : impl_isInput N a0 a1 k = BV_impl_isInput N a0 a1 k := by
  unfold impl_isInput BV_impl_isInput
  rfl
theorem ve220_0 {β : Type} (N : Nat)  (a0 : Int) (a1 : Int) (K : TV → Option β) : evFn lay (VE220 N) Tryd.f220 [.v (.one (.int .i64 a0)), .v (.one (.int .i64 a1))] K = BV_impl_isInput N a0 a1 (fun z2 => K (.v (.one (.bool z2)))) := by kernel_rfl
theorem e220_0 {β : Type} (N : Nat)  (a0 : Int) (a1 : Int) (K : TV → Option β) : evFn lay (E220 N) Tryd.f220 [.v (.one (.int .i64 a0)), .v (.one (.int .i64 a1))] K = impl_isInput N a0 a1 (fun z2 => K (.v (.one (.bool z2)))) := (ve220_0 N a0 a1 K).trans (t_impl_isInput N a0 a1 (fun z2 => K (.v (.one (.bool z2))))).symm
theorem o220 {β : Type} (N : Nat) : SpecOK (β := β) inv Tryd.prog 220 (S220 N) := by
  refine spec_of lay_ok mixed (E := E220 N) (specs_loops specs_nil) muts_nil gs_nil Tryd.func220 (by kernel_rfl) 0 (by kernel_rfl) trivial fun args K r h => ?_
  unfold S220 VS220 at h
  split at h
  · exact (e220_0 N _ _ _).trans h
  · cases h
def VS182 {β : Type} (N : Nat) (q_impl_IsTerm : (a0 : Int) → (a1 : Int) → (a2 : Int) → (k : Bool → Option β) → Option β) : Rv.Spec β := fun args K => match args with
  | [.v (.one (.int .i64 a0)), .v (.agg [.int .i64 a1, .int .i64 a2])] => q_impl_IsTerm a0 a1 a2 (fun z3 => K (.v (.one (.bool z3))))
  | _ => none
def S182 {β : Type} (N : Nat) : Rv.Spec β := VS182 N (impl_IsTerm N)
def VE182 {β : Type} (N : Nat) (q_impl_isBits : (a0 : Int) → (k : Bool → Option β) → Option β) (q_impl_isInput : (a0 : Int) → (a1 : Int) → (k : Bool → Option β) → Option β) : Env β := ⟨[(46, VS46 N q_impl_isBits), (220, VS220 N q_impl_isInput)], [], [], [], ⟨[], [], [], []⟩⟩
def E182 {β : Type} (N : Nat) : Env β := VE182 N (impl_isBits N) (impl_isInput N)
def BV_impl_IsTerm {β : Type} (N : Nat) (q_impl_isBits : (a0 : Int) → (k : Bool → Option β) → Option β) (q_impl_isInput : (a0 : Int) → (a1 : Int) → (k : Bool → Option β) → Option β) (a0 : Int) (a1 : Int) (a2 : Int) (k : Bool → Option β) : Option β :=
q_impl_isBits a0 fun r4 =>
(cond r4
(q_impl_isInput a0 a1 fun r5 =>
(cond r5
((cond ((decide (a2 ≥ 0)))
(k (((bits .andNot .i64 a2 a1) == 0)))
(k false)))
(k false)))
(k false))
theorem t_impl_IsTerm {β : Type} (N : Nat) (a0 : Int) (a1 : Int) (a2 : Int) (k : Bool → Option β) : impl_IsTerm N a0 a1 a2 k = BV_impl_IsTerm N (impl_isBits N) (impl_isInput N) a0 a1 a2 k := by
  unfold impl_IsTerm BV_impl_IsTerm
  rfl
theorem ve182_0 {β : Type} (N : Nat) (q_impl_isBits : (a0 : Int) → (k : Bool → Option β) → Option β) (q_impl_isInput : (a0 : Int) → (a1 : Int) → (k : Bool → Option β) → Option β)  (a0 : Int) (a1 : Int) (a2 : Int) (K : TV → Option β) : evFn lay (VE182 N q_impl_isBits q_impl_isInput) Tryd.f182 [.v (.one (.int .i64 a0)), .v (.agg [.int .i64 a1, .int .i64 a2])] K = BV_impl_IsTerm N q_impl_isBits q_impl_isInput a0 a1 a2 (fun z3 => K (.v (.one (.bool z3)))) := by kernel_rfl
theorem e182_0 {β : Type} (N : Nat)  (a0 : Int) (a1 : Int) (a2 : Int) (K : TV → Option β) : evFn lay (E182 N) Tryd.f182 [.v (.one (.int .i64 a0)), .v (.agg [.int .i64 a1, .int .i64 a2])] K = impl_IsTerm N a0 a1 a2 (fun z3 => K (.v (.one (.bool z3)))) := (ve182_0 N (impl_isBits N) (impl_isInput N) a0 a1 a2 K).trans (t_impl_IsTerm N a0 a1 a2 (fun z3 => K (.v (.one (.bool z3))))).symm
theorem o182 {β : Type} (N : Nat) : SpecOK (β := β) inv Tryd.prog 182 (S182 N) := by
  refine spec_of lay_ok mixed (E := E182 N) (specs_loops (specs_cons (o46 N) (specs_cons (o220 N) specs_nil))) muts_nil gs_nil Tryd.func182 (by kernel_rfl) 0 (by kernel_rfl) trivial fun args K r h => ?_
  unfold S182 VS182 at h
  split at h
  · exact (e182_0 N _ _ _ _).trans h
  · cases h
end Go.Proofs.YtfdggelojmofmaaDoor
