/- The functions that the claims reach answer as their texts do. -/
import Derived.Test.YtemihnclhcobnaaGreatDoorT0
import Derived.Test.YtemihnclhcobnaaGreatDoorProg
import Derived.KernelRfl
import Derived.Test.YtemihnclhcobnaaGreatDoorShelf
import Derived.Test.YtemihnclhcobnaaGreatDoorCut
namespace Go.Proofs.YtemihnclhcobnaaGreatDoor
open Go.Rv
set_option maxRecDepth 100000
set_option maxHeartbeats 2000000
set_option linter.unusedVariables false
def lay : Lay := [(1, .func),
  (2, .int .i64),
  (3, .int .i64),
  (4, .bool),
  (5, .int .u8),
  (9, .string),
  (12, .int .u64),
  (21, .int .i32),
  (22, .struct [⟨0, 1, false⟩, ⟨1, 1, false⟩] [3, 3] 16 true),
  (23, .struct [⟨0, 1, false⟩, ⟨1, 1, false⟩] [3, 3] 16 true),
  (25, .struct [⟨0, 1, false⟩, ⟨1, 1, false⟩] [3, 3] 16 true),
  (40, .slice 3),
  (44, .slice 9),
  (45, .struct [⟨0, 1, false⟩] [44] 24 false),
  (46, .struct [⟨0, 1, false⟩] [44] 24 false),
  (55, .slice 93),
  (66, .int .u64),
  (68, .slice 5),
  (80, .pointer 46),
  (84, .map 3 4),
  (92, .struct [⟨0, 1, false⟩, ⟨1, 1, false⟩] [3, 3] 16 true),
  (93, .struct [⟨0, 1, false⟩, ⟨1, 1, false⟩] [3, 3] 16 true),
  (104, .pointer 193),
  (107, .pointer 166),
  (119, .pointer 173),
  (122, .struct [⟨0, 1, false⟩, ⟨1, 1, false⟩] [3, 3] 16 true),
  (123, .struct [⟨0, 1, false⟩, ⟨1, 1, false⟩] [3, 3] 16 true),
  (124, .slice 40),
  (136, .int .u64),
  (137, .pointer 139),
  (138, .struct [⟨0, 1, false⟩, ⟨1, 1, false⟩] [137, 68] 32 false),
  (139, .struct [⟨0, 1, false⟩, ⟨1, 1, false⟩] [137, 68] 32 false),
  (165, .struct [⟨0, 1, false⟩, ⟨1, 1, false⟩, ⟨2, 1, false⟩] [5, 107, 107] 24 false),
  (166, .struct [⟨0, 1, false⟩, ⟨1, 1, false⟩, ⟨2, 1, false⟩] [5, 107, 107] 24 false),
  (171, .map 123 3),
  (172, .struct [⟨0, 2, true⟩, ⟨2, 1, false⟩, ⟨3, 1, false⟩] [3, 3, 171, 171] 32 false),
  (173, .struct [⟨0, 2, true⟩, ⟨2, 1, false⟩, ⟨3, 1, false⟩] [3, 3, 171, 171] 32 false),
  (181, .pointer 5),
  (182, .slice 4),
  (192, .struct [⟨0, 1, false⟩, ⟨1, 1, false⟩, ⟨2, 1, false⟩] [5, 104, 104] 24 false),
  (193, .struct [⟨0, 1, false⟩, ⟨1, 1, false⟩, ⟨2, 1, false⟩] [5, 104, 104] 24 false),
  (194, .array 2 4),
  (202, .int .u32),
  (217, .struct [⟨0, 1, false⟩, ⟨1, 1, false⟩] [5, 5] 2 true),
  (218, .struct [⟨0, 1, false⟩, ⟨1, 1, false⟩] [5, 5] 2 true)]

theorem lay_ok : LayOK Tryz.prog lay := layOK_of (by decide +kernel)
theorem mixed : Tryz.prog.follows .mixedOrders = true := by kernel_rfl
def inv : World → Prop := fun _ => True
def S106 {β : Type} (N : Nat) : Rv.Spec β := joinSpec N
theorem o106 {β : Type} (N : Nat) : SpecOK (β := β) inv Tryz.prog 106 (S106 N) := join_ok Tryz.func106 (by kernel_rfl) Tryz.strings_Join_none Tryz.strings_Join N
def S131 {β : Type} (N : Nat) : Rv.Spec β := splitSpec 9 N
theorem o131 {β : Type} (N : Nat) : SpecOK (β := β) inv Tryz.prog 131 (S131 N) := split_ok Tryz.func131 (by kernel_rfl) Tryz.split_told N
def VS57 {β : Type} (N : Nat) (zq0 : (a0 : Int) → (a1 : Int) → (a2 : Int) → (k : Bool → Option β) → Option β) : Rv.Spec β := fun args K => match args with
  | [.v (.one (.int .i64 a0)), .v (.one (.int .i64 a1)), .v (.one (.int .i64 a2))] => zq0 a0 a1 a2 (fun z3 => K (.v (.one (.bool z3))))
  | _ => none
def S57 {β : Type} (N : Nat) : Rv.Spec β := VS57 N (zj0 N)
def VE57 {β : Type} (N : Nat) : Env β := ⟨[], [], [], [], ⟨[], [], [], []⟩⟩
def E57 {β : Type} (N : Nat) : Env β := VE57 N
def zb0 {β : Type} (N : Nat) (a0 : Int) (a1 : Int) (a2 : Int) (k : Bool → Option β) : Option β :=
(cond ((decide (a0 ≥ a1)))
(k ((decide (a0 ≤ a2))))
(k false))
theorem zt0 {β : Type} (N : Nat) (a0 : Int) (a1 : Int) (a2 : Int) (k : Bool → Option β) : zj0 N a0 a1 a2 k = zb0 N a0 a1 a2 k := by
  unfold zj0 zb0
  rfl
theorem ve57_0 {β : Type} (N : Nat)  (a0 : Int) (a1 : Int) (a2 : Int) (K : TV → Option β) : evFn lay (VE57 N) Tryz.f57 [.v (.one (.int .i64 a0)), .v (.one (.int .i64 a1)), .v (.one (.int .i64 a2))] K = zb0 N a0 a1 a2 (fun z3 => K (.v (.one (.bool z3)))) := by kernel_rfl
theorem e57_0 {β : Type} (N : Nat)  (a0 : Int) (a1 : Int) (a2 : Int) (K : TV → Option β) : evFn lay (E57 N) Tryz.f57 [.v (.one (.int .i64 a0)), .v (.one (.int .i64 a1)), .v (.one (.int .i64 a2))] K = zj0 N a0 a1 a2 (fun z3 => K (.v (.one (.bool z3)))) := (ve57_0 N a0 a1 a2 K).trans (zt0 N a0 a1 a2 (fun z3 => K (.v (.one (.bool z3))))).symm
theorem o57 {β : Type} (N : Nat) : SpecOK (β := β) inv Tryz.prog 57 (S57 N) := by
  refine spec_of lay_ok mixed (E := E57 N) (specs_loops specs_nil) muts_nil gs_nil Tryz.func57 (by kernel_rfl) 0 (by kernel_rfl) trivial fun args K r h => ?_
  unfold S57 VS57 at h
  split at h
  · exact (e57_0 N _ _ _ _).trans h
  · cases h
def VS58 {β : Type} (N : Nat) (zq5 : (a0 : ByteArray) → (k : Int → Int → Bool → Option β) → Option β) : Rv.Spec β := fun args K => match args with
  | [.v (.one (.str a0))] => zq5 a0 (fun z1 z2 z3 => K (.tup [.agg [.int .i64 z1, .int .i64 z2], .one (.bool z3)]))
  | _ => none
def S58 {β : Type} (N : Nat) : Rv.Spec β := VS58 N (zj5 N)
def h58_0_0  (v0 : ByteArray) (v1 : Int) (v2 : Int) (v3 : Int) : St := ⟨.v (.one (.str v0)) :: tund :: .v (.one (.ptr 0 0)) :: tund :: .v (.one (.int .i64 v1)) :: tund :: tund :: tund :: tund :: tund :: tund :: tund :: tund :: tund :: tund :: tund :: tund :: tund :: tund :: tund :: tund :: tund :: tund :: tund :: tund :: tund :: tund :: tund :: tund :: tund :: tund :: tund :: tund :: tund :: tund :: tund :: tund :: tund :: [], [.cells 25 [.int .i64 v2, .int .i64 v3]]⟩
def x58_0_0_k0  (y0 : Bool) (y1 : Int) (y2 : Int) : St := ⟨tund :: tund :: .v (.one (.ptr 0 0)) :: .v (.one (.bool y0)) :: tund :: tund :: tund :: tund :: tund :: tund :: tund :: tund :: tund :: tund :: tund :: tund :: tund :: tund :: tund :: tund :: tund :: tund :: tund :: tund :: tund :: tund :: tund :: tund :: tund :: tund :: tund :: tund :: tund :: tund :: tund :: tund :: tund :: tund :: [], [.cells 25 [.int .i64 y1, .int .i64 y2]]⟩
def x58_0_0_k1  (y0 : Int) (y1 : Int) : St := ⟨tund :: tund :: .v (.one (.ptr 0 0)) :: tund :: tund :: tund :: tund :: tund :: tund :: tund :: tund :: tund :: tund :: tund :: tund :: tund :: tund :: tund :: tund :: tund :: tund :: tund :: tund :: tund :: tund :: tund :: tund :: tund :: tund :: tund :: tund :: tund :: tund :: tund :: tund :: tund :: tund :: tund :: [], [.cells 25 [.int .i64 y0, .int .i64 y1]]⟩
def h58_1_0  (v0 : ByteArray) (v1 : Int) (v2 : Int) (v3 : Int) (v4 : Int) (v5 : Int) : St := ⟨.v (.one (.str v0)) :: tund :: .v (.one (.ptr 0 0)) :: tund :: .v (.one (.int .i64 v1)) :: .v (.one (.int .i64 v2)) :: .v (.one (.int .i64 v3)) :: tund :: tund :: tund :: tund :: tund :: tund :: tund :: tund :: tund :: tund :: tund :: tund :: tund :: tund :: tund :: tund :: tund :: tund :: tund :: tund :: tund :: tund :: tund :: tund :: tund :: tund :: tund :: tund :: tund :: tund :: tund :: [], [.cells 25 [.int .i64 v4, .int .i64 v5]]⟩
def x58_1_0_k0  (y0 : Bool) (y1 : Int) (y2 : Int) : St := ⟨tund :: tund :: .v (.one (.ptr 0 0)) :: .v (.one (.bool y0)) :: tund :: tund :: tund :: tund :: tund :: tund :: tund :: tund :: tund :: tund :: tund :: tund :: tund :: tund :: tund :: tund :: tund :: tund :: tund :: tund :: tund :: tund :: tund :: tund :: tund :: tund :: tund :: tund :: tund :: tund :: tund :: tund :: tund :: tund :: [], [.cells 25 [.int .i64 y1, .int .i64 y2]]⟩
def x58_1_0_k1  (y0 : Int) (y1 : Int) (y2 : Int) (y3 : Int) : St := ⟨tund :: tund :: .v (.one (.ptr 0 0)) :: tund :: .v (.one (.int .i64 y0)) :: .v (.one (.int .i64 y1)) :: tund :: tund :: tund :: tund :: tund :: tund :: tund :: tund :: tund :: tund :: tund :: tund :: tund :: tund :: tund :: tund :: tund :: tund :: tund :: tund :: tund :: tund :: tund :: tund :: tund :: tund :: tund :: tund :: tund :: tund :: tund :: tund :: [], [.cells 25 [.int .i64 y2, .int .i64 y3]]⟩
theorem fl58_0_0 (s : St) : refSt (h58_0_0 ByteArray.empty 0 0 0) s = h58_0_0 (strS (oneA (vT (nx tund s.tmps 0)))) (intS (oneA (vT (nx tund s.tmps 4)))) (intS (nx .und (cellsB (nx .dead s.blks 0)) 0)) (intS (nx .und (cellsB (nx .dead s.blks 0)) 1)) := by kernel_rfl
def VLS58_0 {β : Type} (N : Nat) (zq4 : Nat → ByteArray → Int → Int → Int → (Bool → Int → Int → Option β) → (Int → Int → Option β) → Option β) : LSpec β := fun s K => cond (shpSt (h58_0_0 ByteArray.empty 0 0 0) s) ((fun (v0 : ByteArray) (v1 : Int) (v2 : Int) (v3 : Int) => zq4  N v0 v1 v2 v3 (fun y0 y1 y2 => K .ret (x58_0_0_k0  y0 y1 y2)) (fun y0 y1 => K (.exit 0) (x58_0_0_k1  y0 y1))) (strS (oneA (vT (nx tund s.tmps 0)))) (intS (oneA (vT (nx tund s.tmps 4)))) (intS (nx .und (cellsB (nx .dead s.blks 0)) 0)) (intS (nx .und (cellsB (nx .dead s.blks 0)) 1))) (none)
def LS58_0 {β : Type} (N : Nat) : LSpec β := VLS58_0 N (zj4 N)
theorem fl58_1_0 (s : St) : refSt (h58_1_0 ByteArray.empty 0 0 0 0 0) s = h58_1_0 (strS (oneA (vT (nx tund s.tmps 0)))) (intS (oneA (vT (nx tund s.tmps 4)))) (intS (oneA (vT (nx tund s.tmps 5)))) (intS (oneA (vT (nx tund s.tmps 6)))) (intS (nx .und (cellsB (nx .dead s.blks 0)) 0)) (intS (nx .und (cellsB (nx .dead s.blks 0)) 1)) := by kernel_rfl
def VLS58_2 {β : Type} (N : Nat) (zq2 : Nat → ByteArray → Int → Int → Int → Int → Int → (Bool → Int → Int → Option β) → (Int → Int → Int → Int → Option β) → Option β) : LSpec β := fun s K => cond (shpSt (h58_1_0 ByteArray.empty 0 0 0 0 0) s) ((fun (v0 : ByteArray) (v1 : Int) (v2 : Int) (v3 : Int) (v4 : Int) (v5 : Int) => zq2  N v0 v1 v2 v3 v4 v5 (fun y0 y1 y2 => K .ret (x58_1_0_k0  y0 y1 y2)) (fun y0 y1 y2 y3 => K (.exit 2) (x58_1_0_k1  y0 y1 y2 y3))) (strS (oneA (vT (nx tund s.tmps 0)))) (intS (oneA (vT (nx tund s.tmps 4)))) (intS (oneA (vT (nx tund s.tmps 5)))) (intS (oneA (vT (nx tund s.tmps 6)))) (intS (nx .und (cellsB (nx .dead s.blks 0)) 0)) (intS (nx .und (cellsB (nx .dead s.blks 0)) 1))) (none)
def LS58_2 {β : Type} (N : Nat) : LSpec β := VLS58_2 N (zj2 N)
def VE58 {β : Type} (N : Nat) (zq4 : Nat → ByteArray → Int → Int → Int → (Bool → Int → Int → Option β) → (Int → Int → Option β) → Option β) (zq2 : Nat → ByteArray → Int → Int → Int → Int → Int → (Bool → Int → Int → Option β) → (Int → Int → Int → Int → Option β) → Option β) : Env β := ⟨[], [], [(0, VLS58_0 N zq4), (2, VLS58_2 N zq2)], [], ⟨[], [], [], []⟩⟩
def E58 {β : Type} (N : Nat) : Env β := VE58 N (zj4 N) (zj2 N)
def zb3 {β : Type} (N : Nat) (zq2 : Nat → ByteArray → Int → Int → Int → Int → Int → (Bool → Int → Int → Option β) → (Int → Int → Int → Int → Option β) → Option β)  (v0 : ByteArray) (v1 : Int) (v2 : Int) (v3 : Int) (rec_ : ByteArray → Int → Int → Int → Option β) (k0 : Bool → Int → Int → Option β) (k1 : Int → Int → Option β) : Option β :=
(cond ((decide (v1 ≤ 5)))
((gd ((decide (0 ≤ v1)))
((cond (((v0.size : Int) != (shlI .i64 1 v1)))
(rec_ v0 ((w64 (v1 + 1))) v2 v3)
(zq2  N v0 v1 0 0 v2 v3 (fun e4_0 e4_1 e4_2 =>
k0 e4_0 e4_1 e4_2) (fun e5_0 e5_1 e5_2 e5_3 =>
k0 true e5_0 e5_1))))))
(k1 v2 v3))
theorem zt3 {β : Type} (N : Nat)  (v0 : ByteArray) (v1 : Int) (v2 : Int) (v3 : Int) (rec_ : ByteArray → Int → Int → Int → Option β) (k0 : Bool → Int → Int → Option β) (k1 : Int → Int → Option β) : zj3 N v0 v1 v2 v3 rec_ k0 k1 = zb3 N (zj2 N) v0 v1 v2 v3 rec_ k0 k1 := by
  unfold zj3 zb3
  rfl
theorem vst58_0_0 {β : Type} (N : Nat) (zq4 : Nat → ByteArray → Int → Int → Int → (Bool → Int → Int → Option β) → (Int → Int → Option β) → Option β) (zq2 : Nat → ByteArray → Int → Int → Int → Int → Int → (Bool → Int → Int → Option β) → (Int → Int → Int → Int → Option β) → Option β)  (v0 : ByteArray) (v1 : Int) (v2 : Int) (v3 : Int) (rec_ : St → Option β) (K : Exit → St → Option β) :
    ev lay (VE58 N zq4 zq2) (retMask Tryz.f58) (lp Tryz.f58 0).body (lp Tryz.f58 0).ex ((lp Tryz.f58 0).lv (retMask Tryz.f58)) (h58_0_0  v0 v1 v2 v3) (nextR (fun s' => rec_ (s'.tidy ((lp Tryz.f58 0).lv (retMask Tryz.f58)))) K) = zb3 N zq2  v0 v1 v2 v3 (fun v0 v1 v2 v3 => rec_ (h58_0_0  v0 v1 v2 v3)) (fun y0 y1 y2 => K .ret (x58_0_0_k0  y0 y1 y2)) (fun y0 y1 => K (.exit 0) (x58_0_0_k1  y0 y1)) := by kernel_rfl
theorem st58_0_0 {β : Type} (N : Nat)  (v0 : ByteArray) (v1 : Int) (v2 : Int) (v3 : Int) (rec_ : St → Option β) (K : Exit → St → Option β) :
    ev lay (E58 N) (retMask Tryz.f58) (lp Tryz.f58 0).body (lp Tryz.f58 0).ex ((lp Tryz.f58 0).lv (retMask Tryz.f58)) (h58_0_0  v0 v1 v2 v3) (nextR (fun s' => rec_ (s'.tidy ((lp Tryz.f58 0).lv (retMask Tryz.f58)))) K) = zj3 N  v0 v1 v2 v3 (fun v0 v1 v2 v3 => rec_ (h58_0_0  v0 v1 v2 v3)) (fun y0 y1 y2 => K .ret (x58_0_0_k0  y0 y1 y2)) (fun y0 y1 => K (.exit 0) (x58_0_0_k1  y0 y1)) := (vst58_0_0 N (zj4 N) (zj2 N) v0 v1 v2 v3 rec_ K).trans (zt3 N  v0 v1 v2 v3 (fun v0 v1 v2 v3 => rec_ (h58_0_0  v0 v1 v2 v3)) (fun y0 y1 y2 => K .ret (x58_0_0_k0  y0 y1 y2)) (fun y0 y1 => K (.exit 0) (x58_0_0_k1  y0 y1))).symm
theorem ro58_0_0 {β : Type} (N : Nat)  (K : Exit → St → Option β) : ∀ (F : Nat) (v0 : ByteArray) (v1 : Int) (v2 : Int) (v3 : Int), (lp Tryz.f58 0).rounds lay (E58 N) (retMask Tryz.f58) F (h58_0_0  v0 v1 v2 v3) K = zj4 N  F v0 v1 v2 v3 (fun y0 y1 y2 => K .ret (x58_0_0_k0  y0 y1 y2)) (fun y0 y1 => K (.exit 0) (x58_0_0_k1  y0 y1)) := by
  intro F
  induction F with
  | zero => intros; rfl
  | succ F ih =>
    intros
    rw [rounds_next]
    refine (st58_0_0 N  _ _ _ _ (fun s => (lp Tryz.f58 0).rounds lay (E58 N) (retMask Tryz.f58) F s K) K).trans ?_
    simp only [ih]
    rfl
theorem lk58_0 {β : Type} (N : Nat) : lookL (E58 (β := β) N).loops (lp Tryz.f58 0).id = LS58_0 N := by kernel_rfl
theorem rk58_0 {β : Type} (N : Nat) : RoundsOK lay (E58 (β := β) N) (retMask Tryz.f58) (lp Tryz.f58 0) := by
  intro s K r h
  rw [lk58_0] at h
  unfold LS58_0 VLS58_0 at h
  cases hb : shpSt (h58_0_0 ByteArray.empty 0 0 0) s with
  | true =>
    rw [hb, cond_true] at h
    exact ⟨N, by rw [← shpSt_ref hb, fl58_0_0 s]; exact (ro58_0_0 N  K N (strS (oneA (vT (nx tund s.tmps 0)))) (intS (oneA (vT (nx tund s.tmps 4)))) (intS (nx .und (cellsB (nx .dead s.blks 0)) 0)) (intS (nx .und (cellsB (nx .dead s.blks 0)) 1))).trans h⟩
  | false =>
  rw [hb, cond_false] at h
  clear hb
  cases h
def zb1 {β : Type} (N : Nat)  (v0 : ByteArray) (v1 : Int) (v2 : Int) (v3 : Int) (v4 : Int) (v5 : Int) (rec_ : ByteArray → Int → Int → Int → Int → Int → Option β) (k0 : Bool → Int → Int → Option β) (k1 : Int → Int → Int → Int → Option β) : Option β :=
(cond ((decide (v3 < (v0.size : Int))))
((gd ((decide (0 ≤ v3)))
((gd ((decide (v3 < (v0.size : Int))))
((cond (((bt v0 v3) == 49))
((gd ((decide (0 ≤ v3)))
(rec_ v0 v1 ((bits .or .i64 v2 (shlI .i64 1 v3))) ((w64 (v3 + 1))) v4 v5)))
((cond (((bt v0 v3) == 48))
(rec_ v0 v1 v2 ((w64 (v3 + 1))) v4 v5)
(k0 false 0 0)))))))))
(k1 v1 v2 v4 v5))
theorem zt1 {β : Type} (N : Nat)  (v0 : ByteArray) (v1 : Int) (v2 : Int) (v3 : Int) (v4 : Int) (v5 : Int) (rec_ : ByteArray → Int → Int → Int → Int → Int → Option β) (k0 : Bool → Int → Int → Option β) (k1 : Int → Int → Int → Int → Option β) : zj1 N v0 v1 v2 v3 v4 v5 rec_ k0 k1 = zb1 N v0 v1 v2 v3 v4 v5 rec_ k0 k1 := by
  unfold zj1 zb1
  rfl
theorem vst58_1_0 {β : Type} (N : Nat) (zq4 : Nat → ByteArray → Int → Int → Int → (Bool → Int → Int → Option β) → (Int → Int → Option β) → Option β) (zq2 : Nat → ByteArray → Int → Int → Int → Int → Int → (Bool → Int → Int → Option β) → (Int → Int → Int → Int → Option β) → Option β)  (v0 : ByteArray) (v1 : Int) (v2 : Int) (v3 : Int) (v4 : Int) (v5 : Int) (rec_ : St → Option β) (K : Exit → St → Option β) :
    ev lay (VE58 N zq4 zq2) (retMask Tryz.f58) (lp Tryz.f58 1).body (lp Tryz.f58 1).ex ((lp Tryz.f58 1).lv (retMask Tryz.f58)) (h58_1_0  v0 v1 v2 v3 v4 v5) (nextR (fun s' => rec_ (s'.tidy ((lp Tryz.f58 1).lv (retMask Tryz.f58)))) K) = zb1 N  v0 v1 v2 v3 v4 v5 (fun v0 v1 v2 v3 v4 v5 => rec_ (h58_1_0  v0 v1 v2 v3 v4 v5)) (fun y0 y1 y2 => K .ret (x58_1_0_k0  y0 y1 y2)) (fun y0 y1 y2 y3 => K (.exit 2) (x58_1_0_k1  y0 y1 y2 y3)) := by kernel_rfl
theorem st58_1_0 {β : Type} (N : Nat)  (v0 : ByteArray) (v1 : Int) (v2 : Int) (v3 : Int) (v4 : Int) (v5 : Int) (rec_ : St → Option β) (K : Exit → St → Option β) :
    ev lay (E58 N) (retMask Tryz.f58) (lp Tryz.f58 1).body (lp Tryz.f58 1).ex ((lp Tryz.f58 1).lv (retMask Tryz.f58)) (h58_1_0  v0 v1 v2 v3 v4 v5) (nextR (fun s' => rec_ (s'.tidy ((lp Tryz.f58 1).lv (retMask Tryz.f58)))) K) = zj1 N  v0 v1 v2 v3 v4 v5 (fun v0 v1 v2 v3 v4 v5 => rec_ (h58_1_0  v0 v1 v2 v3 v4 v5)) (fun y0 y1 y2 => K .ret (x58_1_0_k0  y0 y1 y2)) (fun y0 y1 y2 y3 => K (.exit 2) (x58_1_0_k1  y0 y1 y2 y3)) := (vst58_1_0 N (zj4 N) (zj2 N) v0 v1 v2 v3 v4 v5 rec_ K).trans (zt1 N  v0 v1 v2 v3 v4 v5 (fun v0 v1 v2 v3 v4 v5 => rec_ (h58_1_0  v0 v1 v2 v3 v4 v5)) (fun y0 y1 y2 => K .ret (x58_1_0_k0  y0 y1 y2)) (fun y0 y1 y2 y3 => K (.exit 2) (x58_1_0_k1  y0 y1 y2 y3))).symm
theorem ro58_1_0 {β : Type} (N : Nat)  (K : Exit → St → Option β) : ∀ (F : Nat) (v0 : ByteArray) (v1 : Int) (v2 : Int) (v3 : Int) (v4 : Int) (v5 : Int), (lp Tryz.f58 1).rounds lay (E58 N) (retMask Tryz.f58) F (h58_1_0  v0 v1 v2 v3 v4 v5) K = zj2 N  F v0 v1 v2 v3 v4 v5 (fun y0 y1 y2 => K .ret (x58_1_0_k0  y0 y1 y2)) (fun y0 y1 y2 y3 => K (.exit 2) (x58_1_0_k1  y0 y1 y2 y3)) := by
  intro F
  induction F with
  | zero => intros; rfl
  | succ F ih =>
    intros
    rw [rounds_next]
    refine (st58_1_0 N  _ _ _ _ _ _ (fun s => (lp Tryz.f58 1).rounds lay (E58 N) (retMask Tryz.f58) F s K) K).trans ?_
    simp only [ih]
    rfl
theorem lk58_2 {β : Type} (N : Nat) : lookL (E58 (β := β) N).loops (lp Tryz.f58 1).id = LS58_2 N := by kernel_rfl
theorem rk58_2 {β : Type} (N : Nat) : RoundsOK lay (E58 (β := β) N) (retMask Tryz.f58) (lp Tryz.f58 1) := by
  intro s K r h
  rw [lk58_2] at h
  unfold LS58_2 VLS58_2 at h
  cases hb : shpSt (h58_1_0 ByteArray.empty 0 0 0 0 0) s with
  | true =>
    rw [hb, cond_true] at h
    exact ⟨N, by rw [← shpSt_ref hb, fl58_1_0 s]; exact (ro58_1_0 N  K N (strS (oneA (vT (nx tund s.tmps 0)))) (intS (oneA (vT (nx tund s.tmps 4)))) (intS (oneA (vT (nx tund s.tmps 5)))) (intS (oneA (vT (nx tund s.tmps 6)))) (intS (nx .und (cellsB (nx .dead s.blks 0)) 0)) (intS (nx .und (cellsB (nx .dead s.blks 0)) 1))).trans h⟩
  | false =>
  rw [hb, cond_false] at h
  clear hb
  cases h
def zb5 {β : Type} (N : Nat) (zq4 : Nat → ByteArray → Int → Int → Int → (Bool → Int → Int → Option β) → (Int → Int → Option β) → Option β) (a0 : ByteArray) (k : Int → Int → Bool → Option β) : Option β :=
zq4  N a0 0 0 0 (fun e6_0 e6_1 e6_2 =>
k e6_1 e6_2 e6_0) (fun e7_0 e7_1 =>
k 0 0 false)
theorem zt5 {β : Type} (N : Nat) (a0 : ByteArray) (k : Int → Int → Bool → Option β) : zj5 N a0 k = zb5 N (zj4 N) a0 k := by
  unfold zj5 zb5
  rfl
theorem ve58_0 {β : Type} (N : Nat) (zq4 : Nat → ByteArray → Int → Int → Int → (Bool → Int → Int → Option β) → (Int → Int → Option β) → Option β) (zq2 : Nat → ByteArray → Int → Int → Int → Int → Int → (Bool → Int → Int → Option β) → (Int → Int → Int → Int → Option β) → Option β)  (a0 : ByteArray) (K : TV → Option β) : evFn lay (VE58 N zq4 zq2) Tryz.f58 [.v (.one (.str a0))] K = zb5 N zq4 a0 (fun z1 z2 z3 => K (.tup [.agg [.int .i64 z1, .int .i64 z2], .one (.bool z3)])) := by kernel_rfl
theorem e58_0 {β : Type} (N : Nat)  (a0 : ByteArray) (K : TV → Option β) : evFn lay (E58 N) Tryz.f58 [.v (.one (.str a0))] K = zj5 N a0 (fun z1 z2 z3 => K (.tup [.agg [.int .i64 z1, .int .i64 z2], .one (.bool z3)])) := (ve58_0 N (zj4 N) (zj2 N) a0 K).trans (zt5 N a0 (fun z1 z2 z3 => K (.tup [.agg [.int .i64 z1, .int .i64 z2], .one (.bool z3)]))).symm
theorem o58 {β : Type} (N : Nat) : SpecOK (β := β) inv Tryz.prog 58 (S58 N) := by
  refine spec_of lay_ok mixed (E := E58 N) (specs_loops specs_nil) muts_nil gs_nil Tryz.func58 (by kernel_rfl) 2 (by kernel_rfl) ⟨⟨trivial, rk58_0 N⟩, rk58_2 N⟩ fun args K r h => ?_
  unfold S58 VS58 at h
  split at h
  · exact (e58_0 N _ _).trans h
  · cases h
def VS123 {β : Type} (N : Nat) (zq6 : (a0 : Int) → (a1 : Int) → (a2 : Int) → (k : Bool → Option β) → Option β) : Rv.Spec β := fun args K => match args with
  | [.v (.one (.int .i64 a0)), .v (.agg [.int .i64 a1, .int .i64 a2])] => zq6 a0 a1 a2 (fun z3 => K (.v (.one (.bool z3))))
  | _ => none
def S123 {β : Type} (N : Nat) : Rv.Spec β := VS123 N (zj6 N)
def VE123 {β : Type} (N : Nat) (zq0 : (a0 : Int) → (a1 : Int) → (a2 : Int) → (k : Bool → Option β) → Option β) : Env β := ⟨[(57, VS57 N zq0)], [], [], [], ⟨[], [], [], []⟩⟩
def E123 {β : Type} (N : Nat) : Env β := VE123 N (zj0 N)
def zb6 {β : Type} (N : Nat) (zq0 : (a0 : Int) → (a1 : Int) → (a2 : Int) → (k : Bool → Option β) → Option β) (a0 : Int) (a1 : Int) (a2 : Int) (k : Bool → Option β) : Option β :=
zq0 a0 0 5 fun r4 =>
(cond r4
((gd ((decide (0 ≤ a0)))
(zq0 a1 0 ((w64 ((shlI .i64 1 a0) - 1))) fun r5 =>
(cond r5
(zq0 a2 0 a1 fun r6 =>
(cond r6
(k (((bits .and .i64 a2 a1) == a2)))
(k false)))
(k false)))))
(k false))
theorem zt6 {β : Type} (N : Nat) (a0 : Int) (a1 : Int) (a2 : Int) (k : Bool → Option β) : zj6 N a0 a1 a2 k = zb6 N (zj0 N) a0 a1 a2 k := by
  unfold zj6 zb6
  rfl
theorem ve123_0 {β : Type} (N : Nat) (zq0 : (a0 : Int) → (a1 : Int) → (a2 : Int) → (k : Bool → Option β) → Option β)  (a0 : Int) (a1 : Int) (a2 : Int) (K : TV → Option β) : evFn lay (VE123 N zq0) Tryz.f123 [.v (.one (.int .i64 a0)), .v (.agg [.int .i64 a1, .int .i64 a2])] K = zb6 N zq0 a0 a1 a2 (fun z3 => K (.v (.one (.bool z3)))) := by kernel_rfl
theorem e123_0 {β : Type} (N : Nat)  (a0 : Int) (a1 : Int) (a2 : Int) (K : TV → Option β) : evFn lay (E123 N) Tryz.f123 [.v (.one (.int .i64 a0)), .v (.agg [.int .i64 a1, .int .i64 a2])] K = zj6 N a0 a1 a2 (fun z3 => K (.v (.one (.bool z3)))) := (ve123_0 N (zj0 N) a0 a1 a2 K).trans (zt6 N a0 a1 a2 (fun z3 => K (.v (.one (.bool z3))))).symm
theorem o123 {β : Type} (N : Nat) : SpecOK (β := β) inv Tryz.prog 123 (S123 N) := by
  refine spec_of lay_ok mixed (E := E123 N) (specs_loops (specs_cons (o57 N) specs_nil)) muts_nil gs_nil Tryz.func123 (by kernel_rfl) 0 (by kernel_rfl) trivial fun args K r h => ?_
  unfold S123 VS123 at h
  split at h
  · exact (e123_0 N _ _ _ _).trans h
  · cases h
def VS140 {β : Type} (N : Nat) (zq9 : (a0 : Int) → (a1 : Int) → (a2 : Int) → (k : ByteArray → Option β) → Option β) : Rv.Spec β := fun args K => match args with
  | [.v (.one (.int .i64 a0)), .v (.agg [.int .i64 a1, .int .i64 a2])] => zq9 a0 a1 a2 (fun z3 => K (.v (.one (.str z3))))
  | _ => none
def S140 {β : Type} (N : Nat) : Rv.Spec β := VS140 N (zj9 N)
def h140_0_0  (v0 : Int) (v1 : ByteArray) (v2 : Int) (v3 : Int) (v4 : Int) : St := ⟨.v (.one (.int .i64 v0)) :: tund :: tund :: .v (.one (.ptr 0 0)) :: tund :: .v (.one (.str v1)) :: .v (.one (.int .i64 v2)) :: tund :: tund :: tund :: tund :: tund :: tund :: tund :: tund :: tund :: tund :: tund :: tund :: tund :: tund :: tund :: tund :: tund :: tund :: tund :: tund :: tund :: tund :: tund :: tund :: tund :: tund :: tund :: tund :: tund :: tund :: tund :: tund :: tund :: tund :: tund :: tund :: tund :: tund :: [], [.cells 93 [.int .i64 v3, .int .i64 v4]]⟩
def x140_0_0_k0  (y0 : Int) (y1 : ByteArray) (y2 : Int) (y3 : Int) : St := ⟨.v (.one (.int .i64 y0)) :: tund :: tund :: .v (.one (.ptr 0 0)) :: tund :: .v (.one (.str y1)) :: tund :: tund :: tund :: tund :: tund :: tund :: tund :: tund :: tund :: tund :: tund :: tund :: tund :: tund :: tund :: tund :: tund :: tund :: tund :: tund :: tund :: tund :: tund :: tund :: tund :: tund :: tund :: tund :: tund :: tund :: tund :: tund :: tund :: tund :: tund :: tund :: tund :: tund :: tund :: [], [.cells 93 [.int .i64 y2, .int .i64 y3]]⟩
theorem fl140_0_0 (s : St) : refSt (h140_0_0 0 ByteArray.empty 0 0 0) s = h140_0_0 (intS (oneA (vT (nx tund s.tmps 0)))) (strS (oneA (vT (nx tund s.tmps 5)))) (intS (oneA (vT (nx tund s.tmps 6)))) (intS (nx .und (cellsB (nx .dead s.blks 0)) 0)) (intS (nx .und (cellsB (nx .dead s.blks 0)) 1)) := by kernel_rfl
def VLS140_0 {β : Type} (N : Nat) (zq8 : Nat → Int → ByteArray → Int → Int → Int → (Int → ByteArray → Int → Int → Option β) → Option β) : LSpec β := fun s K => cond (shpSt (h140_0_0 0 ByteArray.empty 0 0 0) s) ((fun (v0 : Int) (v1 : ByteArray) (v2 : Int) (v3 : Int) (v4 : Int) => zq8  N v0 v1 v2 v3 v4 (fun y0 y1 y2 y3 => K (.exit 0) (x140_0_0_k0  y0 y1 y2 y3))) (intS (oneA (vT (nx tund s.tmps 0)))) (strS (oneA (vT (nx tund s.tmps 5)))) (intS (oneA (vT (nx tund s.tmps 6)))) (intS (nx .und (cellsB (nx .dead s.blks 0)) 0)) (intS (nx .und (cellsB (nx .dead s.blks 0)) 1))) (none)
def LS140_0 {β : Type} (N : Nat) : LSpec β := VLS140_0 N (zj8 N)
def VE140 {β : Type} (N : Nat) (zq6 : (a0 : Int) → (a1 : Int) → (a2 : Int) → (k : Bool → Option β) → Option β) (zq8 : Nat → Int → ByteArray → Int → Int → Int → (Int → ByteArray → Int → Int → Option β) → Option β) : Env β := ⟨[(123, VS123 N zq6)], [], [(0, VLS140_0 N zq8)], [], ⟨[], [], [], []⟩⟩
def E140 {β : Type} (N : Nat) : Env β := VE140 N (zj6 N) (zj8 N)
def zb7 {β : Type} (N : Nat) (zq6 : (a0 : Int) → (a1 : Int) → (a2 : Int) → (k : Bool → Option β) → Option β)  (v0 : Int) (v1 : ByteArray) (v2 : Int) (v3 : Int) (v4 : Int) (rec_ : Int → ByteArray → Int → Int → Int → Option β) (k0 : Int → ByteArray → Int → Int → Option β) : Option β :=
zq6 v0 v3 v4 fun r4 =>
(cond r4
((cond ((decide (v2 < v0)))
((gd ((decide (0 ≤ v2)))
((cond (((bits .and .i64 (shrI .i64 v3 v2) 1) == 0))
(rec_ v0 v1 ((w64 (v2 + 1))) v3 v4)
((gd ((decide (0 ≤ v2)))
((cond (((bits .and .i64 (shrI .i64 v4 v2) 1) == 0))
((gd ((decide (v1.size + ((strOf [33])).size ≤ 9223372036854775807)))
((gd ((decide (0 ≤ (w64 (v2 + 1)))))
((gd ((decide ((w64 (v2 + 1)) ≤ (((strOf [97, 98, 99, 100, 101])).size : Int))))
((gd ((decide (0 ≤ v2)))
((gd ((decide (v2 ≤ (w64 (v2 + 1)))))
((gd ((decide (((v1 ++ (strOf [33]))).size + ((((strOf [97, 98, 99, 100, 101])).extract (Int.toNat v2) (Int.toNat (w64 (v2 + 1))))).size ≤ 9223372036854775807)))
(rec_ v0 (((v1 ++ (strOf [33])) ++ (((strOf [97, 98, 99, 100, 101])).extract (Int.toNat v2) (Int.toNat (w64 (v2 + 1)))))) ((w64 (v2 + 1))) v3 v4)))))))))))))
((gd ((decide (0 ≤ (w64 (v2 + 1)))))
((gd ((decide ((w64 (v2 + 1)) ≤ (((strOf [97, 98, 99, 100, 101])).size : Int))))
((gd ((decide (0 ≤ v2)))
((gd ((decide (v2 ≤ (w64 (v2 + 1)))))
((gd ((decide (v1.size + ((((strOf [97, 98, 99, 100, 101])).extract (Int.toNat v2) (Int.toNat (w64 (v2 + 1))))).size ≤ 9223372036854775807)))
(rec_ v0 ((v1 ++ (((strOf [97, 98, 99, 100, 101])).extract (Int.toNat v2) (Int.toNat (w64 (v2 + 1)))))) ((w64 (v2 + 1))) v3 v4)))))))))))))))))))
(k0 v0 v1 v3 v4)))
(k0 v0 v1 v3 v4))
theorem zt7 {β : Type} (N : Nat)  (v0 : Int) (v1 : ByteArray) (v2 : Int) (v3 : Int) (v4 : Int) (rec_ : Int → ByteArray → Int → Int → Int → Option β) (k0 : Int → ByteArray → Int → Int → Option β) : zj7 N v0 v1 v2 v3 v4 rec_ k0 = zb7 N (zj6 N) v0 v1 v2 v3 v4 rec_ k0 := by
  unfold zj7 zb7
  rfl
theorem vst140_0_0 {β : Type} (N : Nat) (zq6 : (a0 : Int) → (a1 : Int) → (a2 : Int) → (k : Bool → Option β) → Option β) (zq8 : Nat → Int → ByteArray → Int → Int → Int → (Int → ByteArray → Int → Int → Option β) → Option β)  (v0 : Int) (v1 : ByteArray) (v2 : Int) (v3 : Int) (v4 : Int) (rec_ : St → Option β) (K : Exit → St → Option β) :
    ev lay (VE140 N zq6 zq8) (retMask Tryz.f140) (lp Tryz.f140 0).body (lp Tryz.f140 0).ex ((lp Tryz.f140 0).lv (retMask Tryz.f140)) (h140_0_0  v0 v1 v2 v3 v4) (nextR (fun s' => rec_ (s'.tidy ((lp Tryz.f140 0).lv (retMask Tryz.f140)))) K) = zb7 N zq6  v0 v1 v2 v3 v4 (fun v0 v1 v2 v3 v4 => rec_ (h140_0_0  v0 v1 v2 v3 v4)) (fun y0 y1 y2 y3 => K (.exit 0) (x140_0_0_k0  y0 y1 y2 y3)) := by kernel_rfl
theorem st140_0_0 {β : Type} (N : Nat)  (v0 : Int) (v1 : ByteArray) (v2 : Int) (v3 : Int) (v4 : Int) (rec_ : St → Option β) (K : Exit → St → Option β) :
    ev lay (E140 N) (retMask Tryz.f140) (lp Tryz.f140 0).body (lp Tryz.f140 0).ex ((lp Tryz.f140 0).lv (retMask Tryz.f140)) (h140_0_0  v0 v1 v2 v3 v4) (nextR (fun s' => rec_ (s'.tidy ((lp Tryz.f140 0).lv (retMask Tryz.f140)))) K) = zj7 N  v0 v1 v2 v3 v4 (fun v0 v1 v2 v3 v4 => rec_ (h140_0_0  v0 v1 v2 v3 v4)) (fun y0 y1 y2 y3 => K (.exit 0) (x140_0_0_k0  y0 y1 y2 y3)) := (vst140_0_0 N (zj6 N) (zj8 N) v0 v1 v2 v3 v4 rec_ K).trans (zt7 N  v0 v1 v2 v3 v4 (fun v0 v1 v2 v3 v4 => rec_ (h140_0_0  v0 v1 v2 v3 v4)) (fun y0 y1 y2 y3 => K (.exit 0) (x140_0_0_k0  y0 y1 y2 y3))).symm
theorem ro140_0_0 {β : Type} (N : Nat)  (K : Exit → St → Option β) : ∀ (F : Nat) (v0 : Int) (v1 : ByteArray) (v2 : Int) (v3 : Int) (v4 : Int), (lp Tryz.f140 0).rounds lay (E140 N) (retMask Tryz.f140) F (h140_0_0  v0 v1 v2 v3 v4) K = zj8 N  F v0 v1 v2 v3 v4 (fun y0 y1 y2 y3 => K (.exit 0) (x140_0_0_k0  y0 y1 y2 y3)) := by
  intro F
  induction F with
  | zero => intros; rfl
  | succ F ih =>
    intros
    rw [rounds_next]
    refine (st140_0_0 N  _ _ _ _ _ (fun s => (lp Tryz.f140 0).rounds lay (E140 N) (retMask Tryz.f140) F s K) K).trans ?_
    simp only [ih]
    rfl
theorem lk140_0 {β : Type} (N : Nat) : lookL (E140 (β := β) N).loops (lp Tryz.f140 0).id = LS140_0 N := by kernel_rfl
theorem rk140_0 {β : Type} (N : Nat) : RoundsOK lay (E140 (β := β) N) (retMask Tryz.f140) (lp Tryz.f140 0) := by
  intro s K r h
  rw [lk140_0] at h
  unfold LS140_0 VLS140_0 at h
  cases hb : shpSt (h140_0_0 0 ByteArray.empty 0 0 0) s with
  | true =>
    rw [hb, cond_true] at h
    exact ⟨N, by rw [← shpSt_ref hb, fl140_0_0 s]; exact (ro140_0_0 N  K N (intS (oneA (vT (nx tund s.tmps 0)))) (strS (oneA (vT (nx tund s.tmps 5)))) (intS (oneA (vT (nx tund s.tmps 6)))) (intS (nx .und (cellsB (nx .dead s.blks 0)) 0)) (intS (nx .und (cellsB (nx .dead s.blks 0)) 1))).trans h⟩
  | false =>
  rw [hb, cond_false] at h
  clear hb
  cases h
def zb9 {β : Type} (N : Nat) (zq8 : Nat → Int → ByteArray → Int → Int → Int → (Int → ByteArray → Int → Int → Option β) → Option β) (zq6 : (a0 : Int) → (a1 : Int) → (a2 : Int) → (k : Bool → Option β) → Option β) (a0 : Int) (a1 : Int) (a2 : Int) (k : ByteArray → Option β) : Option β :=
zq8  N a0 ByteArray.empty 0 a1 a2 (fun e5_0 e5_1 e5_2 e5_3 =>
(cond ((e5_1.toList == ByteArray.empty.toList))
(zq6 e5_0 e5_2 e5_3 fun r6 =>
(cond r6
(k ((strOf [49])))
(k e5_1)))
(k e5_1)))
theorem zt9 {β : Type} (N : Nat) (a0 : Int) (a1 : Int) (a2 : Int) (k : ByteArray → Option β) : zj9 N a0 a1 a2 k = zb9 N (zj8 N) (zj6 N) a0 a1 a2 k := by
  unfold zj9 zb9
  rfl
theorem ve140_0 {β : Type} (N : Nat) (zq6 : (a0 : Int) → (a1 : Int) → (a2 : Int) → (k : Bool → Option β) → Option β) (zq8 : Nat → Int → ByteArray → Int → Int → Int → (Int → ByteArray → Int → Int → Option β) → Option β)  (a0 : Int) (a1 : Int) (a2 : Int) (K : TV → Option β) : evFn lay (VE140 N zq6 zq8) Tryz.f140 [.v (.one (.int .i64 a0)), .v (.agg [.int .i64 a1, .int .i64 a2])] K = zb9 N zq8 zq6 a0 a1 a2 (fun z3 => K (.v (.one (.str z3)))) := by kernel_rfl
theorem e140_0 {β : Type} (N : Nat)  (a0 : Int) (a1 : Int) (a2 : Int) (K : TV → Option β) : evFn lay (E140 N) Tryz.f140 [.v (.one (.int .i64 a0)), .v (.agg [.int .i64 a1, .int .i64 a2])] K = zj9 N a0 a1 a2 (fun z3 => K (.v (.one (.str z3)))) := (ve140_0 N (zj6 N) (zj8 N) a0 a1 a2 K).trans (zt9 N a0 a1 a2 (fun z3 => K (.v (.one (.str z3))))).symm
theorem o140 {β : Type} (N : Nat) : SpecOK (β := β) inv Tryz.prog 140 (S140 N) := by
  refine spec_of lay_ok mixed (E := E140 N) (specs_loops (specs_cons (o123 N) specs_nil)) muts_nil gs_nil Tryz.func140 (by kernel_rfl) 1 (by kernel_rfl) ⟨trivial, rk140_0 N⟩ fun args K r h => ?_
  unfold S140 VS140 at h
  split at h
  · exact (e140_0 N _ _ _ _).trans h
  · cases h
def VS120 {β : Type} (N : Nat) (zq12 : (a0 : Int) → (a1 : ByteArray) → (k : Int → Int → Bool → Option β) → Option β) : Rv.Spec β := fun args K => match args with
  | [.v (.one (.int .i64 a0)), .v (.one (.str a1))] => zq12 a0 a1 (fun z2 z3 z4 => K (.tup [.agg [.int .i64 z2, .int .i64 z3], .one (.bool z4)]))
  | _ => none
def S120 {β : Type} (N : Nat) : Rv.Spec β := VS120 N (zj12 N)
def h120_0_0  (v0 : Int) (v1 : ByteArray) (v2 : Bool) (v3 : Int) (v4 : Int) (v5 : Int) (v6 : Int) (v7 : Int) : St := ⟨.v (.one (.int .i64 v0)) :: .v (.one (.str v1)) :: tund :: tund :: .v (.one (.ptr 0 0)) :: tund :: .v (.one (.ptr 1 0)) :: .v (.one (.bool v2)) :: .v (.one (.int .i64 v3)) :: tund :: tund :: tund :: tund :: tund :: tund :: tund :: tund :: tund :: tund :: tund :: tund :: tund :: tund :: tund :: tund :: tund :: tund :: tund :: tund :: tund :: tund :: tund :: tund :: tund :: tund :: tund :: tund :: tund :: tund :: tund :: tund :: tund :: tund :: tund :: tund :: tund :: tund :: tund :: tund :: tund :: tund :: tund :: tund :: tund :: tund :: tund :: tund :: tund :: tund :: tund :: tund :: tund :: tund :: tund :: tund :: tund :: [], [.cells 93 [.int .i64 v4, .int .i64 v5], .cells 93 [.int .i64 v6, .int .i64 v7]]⟩
def x120_0_0_k0  (y0 : Bool) (y1 : Int) (y2 : Int) : St := ⟨tund :: tund :: tund :: tund :: .v (.one (.ptr 0 0)) :: .v (.one (.bool y0)) :: tund :: tund :: tund :: tund :: tund :: tund :: tund :: tund :: tund :: tund :: tund :: tund :: tund :: tund :: tund :: tund :: tund :: tund :: tund :: tund :: tund :: tund :: tund :: tund :: tund :: tund :: tund :: tund :: tund :: tund :: tund :: tund :: tund :: tund :: tund :: tund :: tund :: tund :: tund :: tund :: tund :: tund :: tund :: tund :: tund :: tund :: tund :: tund :: tund :: tund :: tund :: tund :: tund :: tund :: tund :: tund :: tund :: tund :: tund :: tund :: [], [.cells 93 [.int .i64 y1, .int .i64 y2]]⟩
def x120_0_0_k1  (y0 : Int) (y1 : ByteArray) (y2 : Int) (y3 : Int) (y4 : Int) (y5 : Int) : St := ⟨.v (.one (.int .i64 y0)) :: .v (.one (.str y1)) :: tund :: tund :: .v (.one (.ptr 0 0)) :: tund :: .v (.one (.ptr 1 0)) :: tund :: tund :: tund :: tund :: tund :: tund :: tund :: tund :: tund :: tund :: tund :: tund :: tund :: tund :: tund :: tund :: tund :: tund :: tund :: tund :: tund :: tund :: tund :: tund :: tund :: tund :: tund :: tund :: tund :: tund :: tund :: tund :: tund :: tund :: tund :: tund :: tund :: tund :: tund :: tund :: tund :: tund :: tund :: tund :: tund :: tund :: tund :: tund :: tund :: tund :: tund :: tund :: tund :: tund :: tund :: tund :: tund :: tund :: tund :: [], [.cells 93 [.int .i64 y2, .int .i64 y3], .cells 93 [.int .i64 y4, .int .i64 y5]]⟩
theorem fl120_0_0 (s : St) : refSt (h120_0_0 0 ByteArray.empty false 0 0 0 0 0) s = h120_0_0 (intS (oneA (vT (nx tund s.tmps 0)))) (strS (oneA (vT (nx tund s.tmps 1)))) (boolS (oneA (vT (nx tund s.tmps 7)))) (intS (oneA (vT (nx tund s.tmps 8)))) (intS (nx .und (cellsB (nx .dead s.blks 0)) 0)) (intS (nx .und (cellsB (nx .dead s.blks 0)) 1)) (intS (nx .und (cellsB (nx .dead s.blks 1)) 0)) (intS (nx .und (cellsB (nx .dead s.blks 1)) 1)) := by kernel_rfl
def VLS120_0 {β : Type} (N : Nat) (zq11 : Nat → Int → ByteArray → Bool → Int → Int → Int → Int → Int → (Bool → Int → Int → Option β) → (Int → ByteArray → Int → Int → Int → Int → Option β) → Option β) : LSpec β := fun s K => cond (shpSt (h120_0_0 0 ByteArray.empty false 0 0 0 0 0) s) ((fun (v0 : Int) (v1 : ByteArray) (v2 : Bool) (v3 : Int) (v4 : Int) (v5 : Int) (v6 : Int) (v7 : Int) => zq11  N v0 v1 v2 v3 v4 v5 v6 v7 (fun y0 y1 y2 => K .ret (x120_0_0_k0  y0 y1 y2)) (fun y0 y1 y2 y3 y4 y5 => K (.exit 0) (x120_0_0_k1  y0 y1 y2 y3 y4 y5))) (intS (oneA (vT (nx tund s.tmps 0)))) (strS (oneA (vT (nx tund s.tmps 1)))) (boolS (oneA (vT (nx tund s.tmps 7)))) (intS (oneA (vT (nx tund s.tmps 8)))) (intS (nx .und (cellsB (nx .dead s.blks 0)) 0)) (intS (nx .und (cellsB (nx .dead s.blks 0)) 1)) (intS (nx .und (cellsB (nx .dead s.blks 1)) 0)) (intS (nx .und (cellsB (nx .dead s.blks 1)) 1))) (none)
def LS120_0 {β : Type} (N : Nat) : LSpec β := VLS120_0 N (zj11 N)
def VE120 {β : Type} (N : Nat) (zq0 : (a0 : Int) → (a1 : Int) → (a2 : Int) → (k : Bool → Option β) → Option β) (zq9 : (a0 : Int) → (a1 : Int) → (a2 : Int) → (k : ByteArray → Option β) → Option β) (zq11 : Nat → Int → ByteArray → Bool → Int → Int → Int → Int → Int → (Bool → Int → Int → Option β) → (Int → ByteArray → Int → Int → Int → Int → Option β) → Option β) : Env β := ⟨[(57, VS57 N zq0), (140, VS140 N zq9)], [], [(0, VLS120_0 N zq11)], [], ⟨[], [], [], []⟩⟩
def E120 {β : Type} (N : Nat) : Env β := VE120 N (zj0 N) (zj9 N) (zj11 N)
def zb10 {β : Type} (N : Nat) (zq0 : (a0 : Int) → (a1 : Int) → (a2 : Int) → (k : Bool → Option β) → Option β)  (v0 : Int) (v1 : ByteArray) (v2 : Bool) (v3 : Int) (v4 : Int) (v5 : Int) (v6 : Int) (v7 : Int) (rec_ : Int → ByteArray → Bool → Int → Int → Int → Int → Int → Option β) (k0 : Bool → Int → Int → Option β) (k1 : Int → ByteArray → Int → Int → Int → Int → Option β) : Option β :=
(cond ((decide (v3 < (v1.size : Int))))
((cond ((!(v1.toList == ((strOf [49])).toList)))
((gd ((decide (0 ≤ v3)))
((gd ((decide (v3 < (v1.size : Int))))
((cond (((bt v1 v3) == 33))
(rec_ v0 v1 true ((w64 (v3 + 1))) v4 v5 v6 v7)
((gd ((decide (0 ≤ v3)))
((gd ((decide (v3 < (v1.size : Int))))
(zq0 v0 0 5 fun r5 =>
(cond (!r5)
(k0 false 0 0)
(zq0 ((w64 ((w64 ((bt v1 v3))) - 97))) 0 ((w64 (v0 - 1))) fun r6 =>
(cond (!r6)
(k0 false 0 0)
((gd ((decide (0 ≤ (w64 ((w64 ((bt v1 v3))) - 97)))))
((cond (!v2)
((gd ((decide (0 ≤ (w64 ((w64 ((bt v1 v3))) - 97)))))
(rec_ v0 v1 false ((w64 (v3 + 1))) v4 v5 ((bits .or .i64 v6 (shlI .i64 1 (w64 ((w64 ((bt v1 v3))) - 97))))) ((bits .or .i64 v7 (shlI .i64 1 (w64 ((w64 ((bt v1 v3))) - 97))))))))
(rec_ v0 v1 false ((w64 (v3 + 1))) v4 v5 ((bits .or .i64 v6 (shlI .i64 1 (w64 ((w64 ((bt v1 v3))) - 97))))) v7)))))))))))))))))))
(k1 v0 v1 v4 v5 v6 v7)))
(k1 v0 v1 v4 v5 v6 v7))
theorem zt10 {β : Type} (N : Nat)  (v0 : Int) (v1 : ByteArray) (v2 : Bool) (v3 : Int) (v4 : Int) (v5 : Int) (v6 : Int) (v7 : Int) (rec_ : Int → ByteArray → Bool → Int → Int → Int → Int → Int → Option β) (k0 : Bool → Int → Int → Option β) (k1 : Int → ByteArray → Int → Int → Int → Int → Option β) : zj10 N v0 v1 v2 v3 v4 v5 v6 v7 rec_ k0 k1 = zb10 N (zj0 N) v0 v1 v2 v3 v4 v5 v6 v7 rec_ k0 k1 := by
  unfold zj10 zb10
  rfl
theorem vst120_0_0 {β : Type} (N : Nat) (zq0 : (a0 : Int) → (a1 : Int) → (a2 : Int) → (k : Bool → Option β) → Option β) (zq9 : (a0 : Int) → (a1 : Int) → (a2 : Int) → (k : ByteArray → Option β) → Option β) (zq11 : Nat → Int → ByteArray → Bool → Int → Int → Int → Int → Int → (Bool → Int → Int → Option β) → (Int → ByteArray → Int → Int → Int → Int → Option β) → Option β)  (v0 : Int) (v1 : ByteArray) (v2 : Bool) (v3 : Int) (v4 : Int) (v5 : Int) (v6 : Int) (v7 : Int) (rec_ : St → Option β) (K : Exit → St → Option β) :
    ev lay (VE120 N zq0 zq9 zq11) (retMask Tryz.f120) (lp Tryz.f120 0).body (lp Tryz.f120 0).ex ((lp Tryz.f120 0).lv (retMask Tryz.f120)) (h120_0_0  v0 v1 v2 v3 v4 v5 v6 v7) (nextR (fun s' => rec_ (s'.tidy ((lp Tryz.f120 0).lv (retMask Tryz.f120)))) K) = zb10 N zq0  v0 v1 v2 v3 v4 v5 v6 v7 (fun v0 v1 v2 v3 v4 v5 v6 v7 => rec_ (h120_0_0  v0 v1 v2 v3 v4 v5 v6 v7)) (fun y0 y1 y2 => K .ret (x120_0_0_k0  y0 y1 y2)) (fun y0 y1 y2 y3 y4 y5 => K (.exit 0) (x120_0_0_k1  y0 y1 y2 y3 y4 y5)) := by kernel_rfl
theorem st120_0_0 {β : Type} (N : Nat)  (v0 : Int) (v1 : ByteArray) (v2 : Bool) (v3 : Int) (v4 : Int) (v5 : Int) (v6 : Int) (v7 : Int) (rec_ : St → Option β) (K : Exit → St → Option β) :
    ev lay (E120 N) (retMask Tryz.f120) (lp Tryz.f120 0).body (lp Tryz.f120 0).ex ((lp Tryz.f120 0).lv (retMask Tryz.f120)) (h120_0_0  v0 v1 v2 v3 v4 v5 v6 v7) (nextR (fun s' => rec_ (s'.tidy ((lp Tryz.f120 0).lv (retMask Tryz.f120)))) K) = zj10 N  v0 v1 v2 v3 v4 v5 v6 v7 (fun v0 v1 v2 v3 v4 v5 v6 v7 => rec_ (h120_0_0  v0 v1 v2 v3 v4 v5 v6 v7)) (fun y0 y1 y2 => K .ret (x120_0_0_k0  y0 y1 y2)) (fun y0 y1 y2 y3 y4 y5 => K (.exit 0) (x120_0_0_k1  y0 y1 y2 y3 y4 y5)) := (vst120_0_0 N (zj0 N) (zj9 N) (zj11 N) v0 v1 v2 v3 v4 v5 v6 v7 rec_ K).trans (zt10 N  v0 v1 v2 v3 v4 v5 v6 v7 (fun v0 v1 v2 v3 v4 v5 v6 v7 => rec_ (h120_0_0  v0 v1 v2 v3 v4 v5 v6 v7)) (fun y0 y1 y2 => K .ret (x120_0_0_k0  y0 y1 y2)) (fun y0 y1 y2 y3 y4 y5 => K (.exit 0) (x120_0_0_k1  y0 y1 y2 y3 y4 y5))).symm
theorem ro120_0_0 {β : Type} (N : Nat)  (K : Exit → St → Option β) : ∀ (F : Nat) (v0 : Int) (v1 : ByteArray) (v2 : Bool) (v3 : Int) (v4 : Int) (v5 : Int) (v6 : Int) (v7 : Int), (lp Tryz.f120 0).rounds lay (E120 N) (retMask Tryz.f120) F (h120_0_0  v0 v1 v2 v3 v4 v5 v6 v7) K = zj11 N  F v0 v1 v2 v3 v4 v5 v6 v7 (fun y0 y1 y2 => K .ret (x120_0_0_k0  y0 y1 y2)) (fun y0 y1 y2 y3 y4 y5 => K (.exit 0) (x120_0_0_k1  y0 y1 y2 y3 y4 y5)) := by
  intro F
  induction F with
  | zero => intros; rfl
  | succ F ih =>
    intros
    rw [rounds_next]
    refine (st120_0_0 N  _ _ _ _ _ _ _ _ (fun s => (lp Tryz.f120 0).rounds lay (E120 N) (retMask Tryz.f120) F s K) K).trans ?_
    simp only [ih]
    rfl
theorem lk120_0 {β : Type} (N : Nat) : lookL (E120 (β := β) N).loops (lp Tryz.f120 0).id = LS120_0 N := by kernel_rfl
theorem rk120_0 {β : Type} (N : Nat) : RoundsOK lay (E120 (β := β) N) (retMask Tryz.f120) (lp Tryz.f120 0) := by
  intro s K r h
  rw [lk120_0] at h
  unfold LS120_0 VLS120_0 at h
  cases hb : shpSt (h120_0_0 0 ByteArray.empty false 0 0 0 0 0) s with
  | true =>
    rw [hb, cond_true] at h
    exact ⟨N, by rw [← shpSt_ref hb, fl120_0_0 s]; exact (ro120_0_0 N  K N (intS (oneA (vT (nx tund s.tmps 0)))) (strS (oneA (vT (nx tund s.tmps 1)))) (boolS (oneA (vT (nx tund s.tmps 7)))) (intS (oneA (vT (nx tund s.tmps 8)))) (intS (nx .und (cellsB (nx .dead s.blks 0)) 0)) (intS (nx .und (cellsB (nx .dead s.blks 0)) 1)) (intS (nx .und (cellsB (nx .dead s.blks 1)) 0)) (intS (nx .und (cellsB (nx .dead s.blks 1)) 1))).trans h⟩
  | false =>
  rw [hb, cond_false] at h
  clear hb
  cases h
def zb12 {β : Type} (N : Nat) (zq11 : Nat → Int → ByteArray → Bool → Int → Int → Int → Int → Int → (Bool → Int → Int → Option β) → (Int → ByteArray → Int → Int → Int → Int → Option β) → Option β) (zq9 : (a0 : Int) → (a1 : Int) → (a2 : Int) → (k : ByteArray → Option β) → Option β) (a0 : Int) (a1 : ByteArray) (k : Int → Int → Bool → Option β) : Option β :=
zq11  N a0 a1 false 0 0 0 0 0 (fun e7_0 e7_1 e7_2 =>
k e7_1 e7_2 e7_0) (fun e8_0 e8_1 e8_2 e8_3 e8_4 e8_5 =>
(cond ((e8_1.toList == ByteArray.empty.toList))
(k 0 0 false)
(zq9 e8_0 e8_4 e8_5 fun r9 =>
(cond ((!(r9.toList == e8_1.toList)))
(k 0 0 false)
(k e8_4 e8_5 true)))))
theorem zt12 {β : Type} (N : Nat) (a0 : Int) (a1 : ByteArray) (k : Int → Int → Bool → Option β) : zj12 N a0 a1 k = zb12 N (zj11 N) (zj9 N) a0 a1 k := by
  unfold zj12 zb12
  rfl
theorem ve120_0 {β : Type} (N : Nat) (zq0 : (a0 : Int) → (a1 : Int) → (a2 : Int) → (k : Bool → Option β) → Option β) (zq9 : (a0 : Int) → (a1 : Int) → (a2 : Int) → (k : ByteArray → Option β) → Option β) (zq11 : Nat → Int → ByteArray → Bool → Int → Int → Int → Int → Int → (Bool → Int → Int → Option β) → (Int → ByteArray → Int → Int → Int → Int → Option β) → Option β)  (a0 : Int) (a1 : ByteArray) (K : TV → Option β) : evFn lay (VE120 N zq0 zq9 zq11) Tryz.f120 [.v (.one (.int .i64 a0)), .v (.one (.str a1))] K = zb12 N zq11 zq9 a0 a1 (fun z2 z3 z4 => K (.tup [.agg [.int .i64 z2, .int .i64 z3], .one (.bool z4)])) := by kernel_rfl
theorem e120_0 {β : Type} (N : Nat)  (a0 : Int) (a1 : ByteArray) (K : TV → Option β) : evFn lay (E120 N) Tryz.f120 [.v (.one (.int .i64 a0)), .v (.one (.str a1))] K = zj12 N a0 a1 (fun z2 z3 z4 => K (.tup [.agg [.int .i64 z2, .int .i64 z3], .one (.bool z4)])) := (ve120_0 N (zj0 N) (zj9 N) (zj11 N) a0 a1 K).trans (zt12 N a0 a1 (fun z2 z3 z4 => K (.tup [.agg [.int .i64 z2, .int .i64 z3], .one (.bool z4)]))).symm
theorem o120 {β : Type} (N : Nat) : SpecOK (β := β) inv Tryz.prog 120 (S120 N) := by
  refine spec_of lay_ok mixed (E := E120 N) (specs_loops (specs_cons (o57 N) (specs_cons (o140 N) specs_nil))) muts_nil gs_nil Tryz.func120 (by kernel_rfl) 1 (by kernel_rfl) ⟨trivial, rk120_0 N⟩ fun args K r h => ?_
  unfold S120 VS120 at h
  split at h
  · exact (e120_0 N _ _ _).trans h
  · cases h
def VS121 {β : Type} (N : Nat) (zq17 : (a0 : Int) → (a1 : Int) → (k : Int → Option β) → Option β) : Rv.Spec β := fun args K => match args with
  | [.v (.agg [.int .i64 a0, .int .i64 a1])] => zq17 a0 a1 (fun z2 => K (.v (.one (.int .i64 z2))))
  | _ => none
def S121 {β : Type} (N : Nat) : Rv.Spec β := VS121 N (zj17 N)
def h121_0_0  (v0 : Int) (v1 : Int) (v2 : Int) (v3 : Int) : St := ⟨tund :: .v (.one (.ptr 0 0)) :: tund :: .v (.one (.int .i64 v0)) :: .v (.one (.int .i64 v1)) :: tund :: tund :: tund :: tund :: tund :: tund :: tund :: tund :: tund :: tund :: tund :: tund :: tund :: tund :: tund :: tund :: tund :: tund :: tund :: tund :: tund :: tund :: tund :: tund :: tund :: tund :: tund :: tund :: tund :: tund :: tund :: tund :: tund :: [], [.cells 25 [.int .i64 v2, .int .i64 v3]]⟩
def x121_0_0_k0  (y0 : Int) : St := ⟨tund :: tund :: tund :: .v (.one (.int .i64 y0)) :: tund :: tund :: tund :: tund :: tund :: tund :: tund :: tund :: tund :: tund :: tund :: tund :: tund :: tund :: tund :: tund :: tund :: tund :: tund :: tund :: tund :: tund :: tund :: tund :: tund :: tund :: tund :: tund :: tund :: tund :: tund :: tund :: tund :: tund :: [], []⟩
def h121_1_0  (v0 : Int) (v1 : Int) (v2 : Int) (v3 : Int) (v4 : Int) (v5 : Int) : St := ⟨tund :: .v (.one (.ptr 0 0)) :: tund :: .v (.one (.int .i64 v0)) :: .v (.one (.int .i64 v1)) :: .v (.one (.int .i64 v2)) :: .v (.one (.int .i64 v3)) :: tund :: tund :: tund :: tund :: tund :: tund :: tund :: tund :: tund :: tund :: tund :: tund :: tund :: tund :: tund :: tund :: tund :: tund :: tund :: tund :: tund :: tund :: tund :: tund :: tund :: tund :: tund :: tund :: tund :: tund :: tund :: [], [.cells 25 [.int .i64 v4, .int .i64 v5]]⟩
def x121_1_0_k0  (y0 : Int) (y1 : Int) (y2 : Int) (y3 : Int) (y4 : Int) : St := ⟨tund :: .v (.one (.ptr 0 0)) :: tund :: .v (.one (.int .i64 y0)) :: .v (.one (.int .i64 y1)) :: .v (.one (.int .i64 y2)) :: tund :: tund :: tund :: tund :: tund :: tund :: tund :: tund :: tund :: tund :: tund :: tund :: tund :: tund :: tund :: tund :: tund :: tund :: tund :: tund :: tund :: tund :: tund :: tund :: tund :: tund :: tund :: tund :: tund :: tund :: tund :: tund :: [], [.cells 25 [.int .i64 y3, .int .i64 y4]]⟩
theorem fl121_0_0 (s : St) : refSt (h121_0_0 0 0 0 0) s = h121_0_0 (intS (oneA (vT (nx tund s.tmps 3)))) (intS (oneA (vT (nx tund s.tmps 4)))) (intS (nx .und (cellsB (nx .dead s.blks 0)) 0)) (intS (nx .und (cellsB (nx .dead s.blks 0)) 1)) := by kernel_rfl
def VLS121_0 {β : Type} (N : Nat) (zq16 : Nat → Int → Int → Int → Int → (Int → Option β) → Option β) : LSpec β := fun s K => cond (shpSt (h121_0_0 0 0 0 0) s) ((fun (v0 : Int) (v1 : Int) (v2 : Int) (v3 : Int) => zq16  N v0 v1 v2 v3 (fun y0 => K (.exit 0) (x121_0_0_k0  y0))) (intS (oneA (vT (nx tund s.tmps 3)))) (intS (oneA (vT (nx tund s.tmps 4)))) (intS (nx .und (cellsB (nx .dead s.blks 0)) 0)) (intS (nx .und (cellsB (nx .dead s.blks 0)) 1))) (none)
def LS121_0 {β : Type} (N : Nat) : LSpec β := VLS121_0 N (zj16 N)
theorem fl121_1_0 (s : St) : refSt (h121_1_0 0 0 0 0 0 0) s = h121_1_0 (intS (oneA (vT (nx tund s.tmps 3)))) (intS (oneA (vT (nx tund s.tmps 4)))) (intS (oneA (vT (nx tund s.tmps 5)))) (intS (oneA (vT (nx tund s.tmps 6)))) (intS (nx .und (cellsB (nx .dead s.blks 0)) 0)) (intS (nx .und (cellsB (nx .dead s.blks 0)) 1)) := by kernel_rfl
def VLS121_2 {β : Type} (N : Nat) (zq14 : Nat → Int → Int → Int → Int → Int → Int → (Int → Int → Int → Int → Int → Option β) → Option β) : LSpec β := fun s K => cond (shpSt (h121_1_0 0 0 0 0 0 0) s) ((fun (v0 : Int) (v1 : Int) (v2 : Int) (v3 : Int) (v4 : Int) (v5 : Int) => zq14  N v0 v1 v2 v3 v4 v5 (fun y0 y1 y2 y3 y4 => K (.exit 2) (x121_1_0_k0  y0 y1 y2 y3 y4))) (intS (oneA (vT (nx tund s.tmps 3)))) (intS (oneA (vT (nx tund s.tmps 4)))) (intS (oneA (vT (nx tund s.tmps 5)))) (intS (oneA (vT (nx tund s.tmps 6)))) (intS (nx .und (cellsB (nx .dead s.blks 0)) 0)) (intS (nx .und (cellsB (nx .dead s.blks 0)) 1))) (none)
def LS121_2 {β : Type} (N : Nat) : LSpec β := VLS121_2 N (zj14 N)
def VE121 {β : Type} (N : Nat) (zq16 : Nat → Int → Int → Int → Int → (Int → Option β) → Option β) (zq14 : Nat → Int → Int → Int → Int → Int → Int → (Int → Int → Int → Int → Int → Option β) → Option β) : Env β := ⟨[], [], [(0, VLS121_0 N zq16), (2, VLS121_2 N zq14)], [], ⟨[], [], [], []⟩⟩
def E121 {β : Type} (N : Nat) : Env β := VE121 N (zj16 N) (zj14 N)
def zb15 {β : Type} (N : Nat) (zq14 : Nat → Int → Int → Int → Int → Int → Int → (Int → Int → Int → Int → Int → Option β) → Option β)  (v0 : Int) (v1 : Int) (v2 : Int) (v3 : Int) (rec_ : Int → Int → Int → Int → Option β) (k0 : Int → Option β) : Option β :=
(gd ((decide (0 ≤ v2)))
((cond ((decide (v1 < (shlI .i64 1 v2))))
(zq14  N v0 v1 0 0 v2 v3 (fun e3_0 e3_1 e3_2 e3_3 e3_4 =>
(gd ((decide (0 ≤ e3_1)))
(rec_ ((bits .or .i64 e3_0 (shlI .i64 (remI e3_2 2) e3_1))) ((w64 (e3_1 + 1))) e3_3 e3_4))))
(k0 v0))))
theorem zt15 {β : Type} (N : Nat)  (v0 : Int) (v1 : Int) (v2 : Int) (v3 : Int) (rec_ : Int → Int → Int → Int → Option β) (k0 : Int → Option β) : zj15 N v0 v1 v2 v3 rec_ k0 = zb15 N (zj14 N) v0 v1 v2 v3 rec_ k0 := by
  unfold zj15 zb15
  rfl
theorem vst121_0_0 {β : Type} (N : Nat) (zq16 : Nat → Int → Int → Int → Int → (Int → Option β) → Option β) (zq14 : Nat → Int → Int → Int → Int → Int → Int → (Int → Int → Int → Int → Int → Option β) → Option β)  (v0 : Int) (v1 : Int) (v2 : Int) (v3 : Int) (rec_ : St → Option β) (K : Exit → St → Option β) :
    ev lay (VE121 N zq16 zq14) (retMask Tryz.f121) (lp Tryz.f121 0).body (lp Tryz.f121 0).ex ((lp Tryz.f121 0).lv (retMask Tryz.f121)) (h121_0_0  v0 v1 v2 v3) (nextR (fun s' => rec_ (s'.tidy ((lp Tryz.f121 0).lv (retMask Tryz.f121)))) K) = zb15 N zq14  v0 v1 v2 v3 (fun v0 v1 v2 v3 => rec_ (h121_0_0  v0 v1 v2 v3)) (fun y0 => K (.exit 0) (x121_0_0_k0  y0)) := by kernel_rfl
theorem st121_0_0 {β : Type} (N : Nat)  (v0 : Int) (v1 : Int) (v2 : Int) (v3 : Int) (rec_ : St → Option β) (K : Exit → St → Option β) :
    ev lay (E121 N) (retMask Tryz.f121) (lp Tryz.f121 0).body (lp Tryz.f121 0).ex ((lp Tryz.f121 0).lv (retMask Tryz.f121)) (h121_0_0  v0 v1 v2 v3) (nextR (fun s' => rec_ (s'.tidy ((lp Tryz.f121 0).lv (retMask Tryz.f121)))) K) = zj15 N  v0 v1 v2 v3 (fun v0 v1 v2 v3 => rec_ (h121_0_0  v0 v1 v2 v3)) (fun y0 => K (.exit 0) (x121_0_0_k0  y0)) := (vst121_0_0 N (zj16 N) (zj14 N) v0 v1 v2 v3 rec_ K).trans (zt15 N  v0 v1 v2 v3 (fun v0 v1 v2 v3 => rec_ (h121_0_0  v0 v1 v2 v3)) (fun y0 => K (.exit 0) (x121_0_0_k0  y0))).symm
theorem ro121_0_0 {β : Type} (N : Nat)  (K : Exit → St → Option β) : ∀ (F : Nat) (v0 : Int) (v1 : Int) (v2 : Int) (v3 : Int), (lp Tryz.f121 0).rounds lay (E121 N) (retMask Tryz.f121) F (h121_0_0  v0 v1 v2 v3) K = zj16 N  F v0 v1 v2 v3 (fun y0 => K (.exit 0) (x121_0_0_k0  y0)) := by
  intro F
  induction F with
  | zero => intros; rfl
  | succ F ih =>
    intros
    rw [rounds_next]
    refine (st121_0_0 N  _ _ _ _ (fun s => (lp Tryz.f121 0).rounds lay (E121 N) (retMask Tryz.f121) F s K) K).trans ?_
    simp only [ih]
    rfl
theorem lk121_0 {β : Type} (N : Nat) : lookL (E121 (β := β) N).loops (lp Tryz.f121 0).id = LS121_0 N := by kernel_rfl
theorem rk121_0 {β : Type} (N : Nat) : RoundsOK lay (E121 (β := β) N) (retMask Tryz.f121) (lp Tryz.f121 0) := by
  intro s K r h
  rw [lk121_0] at h
  unfold LS121_0 VLS121_0 at h
  cases hb : shpSt (h121_0_0 0 0 0 0) s with
  | true =>
    rw [hb, cond_true] at h
    exact ⟨N, by rw [← shpSt_ref hb, fl121_0_0 s]; exact (ro121_0_0 N  K N (intS (oneA (vT (nx tund s.tmps 3)))) (intS (oneA (vT (nx tund s.tmps 4)))) (intS (nx .und (cellsB (nx .dead s.blks 0)) 0)) (intS (nx .und (cellsB (nx .dead s.blks 0)) 1))).trans h⟩
  | false =>
  rw [hb, cond_false] at h
  clear hb
  cases h
def zb13 {β : Type} (N : Nat)  (v0 : Int) (v1 : Int) (v2 : Int) (v3 : Int) (v4 : Int) (v5 : Int) (rec_ : Int → Int → Int → Int → Int → Int → Option β) (k0 : Int → Int → Int → Int → Int → Option β) : Option β :=
(cond ((decide (v3 ≤ v1)))
((cond (((bits .and .i64 v3 v1) == v3))
((gd ((decide (0 ≤ v3)))
(rec_ v0 v1 ((w64 (v2 + (bits .and .i64 (shrI .i64 v5 v3) 1)))) ((w64 (v3 + 1))) v4 v5)))
(rec_ v0 v1 v2 ((w64 (v3 + 1))) v4 v5)))
(k0 v0 v1 v2 v4 v5))
theorem zt13 {β : Type} (N : Nat)  (v0 : Int) (v1 : Int) (v2 : Int) (v3 : Int) (v4 : Int) (v5 : Int) (rec_ : Int → Int → Int → Int → Int → Int → Option β) (k0 : Int → Int → Int → Int → Int → Option β) : zj13 N v0 v1 v2 v3 v4 v5 rec_ k0 = zb13 N v0 v1 v2 v3 v4 v5 rec_ k0 := by
  unfold zj13 zb13
  rfl
theorem vst121_1_0 {β : Type} (N : Nat) (zq16 : Nat → Int → Int → Int → Int → (Int → Option β) → Option β) (zq14 : Nat → Int → Int → Int → Int → Int → Int → (Int → Int → Int → Int → Int → Option β) → Option β)  (v0 : Int) (v1 : Int) (v2 : Int) (v3 : Int) (v4 : Int) (v5 : Int) (rec_ : St → Option β) (K : Exit → St → Option β) :
    ev lay (VE121 N zq16 zq14) (retMask Tryz.f121) (lp Tryz.f121 1).body (lp Tryz.f121 1).ex ((lp Tryz.f121 1).lv (retMask Tryz.f121)) (h121_1_0  v0 v1 v2 v3 v4 v5) (nextR (fun s' => rec_ (s'.tidy ((lp Tryz.f121 1).lv (retMask Tryz.f121)))) K) = zb13 N  v0 v1 v2 v3 v4 v5 (fun v0 v1 v2 v3 v4 v5 => rec_ (h121_1_0  v0 v1 v2 v3 v4 v5)) (fun y0 y1 y2 y3 y4 => K (.exit 2) (x121_1_0_k0  y0 y1 y2 y3 y4)) := by kernel_rfl
theorem st121_1_0 {β : Type} (N : Nat)  (v0 : Int) (v1 : Int) (v2 : Int) (v3 : Int) (v4 : Int) (v5 : Int) (rec_ : St → Option β) (K : Exit → St → Option β) :
    ev lay (E121 N) (retMask Tryz.f121) (lp Tryz.f121 1).body (lp Tryz.f121 1).ex ((lp Tryz.f121 1).lv (retMask Tryz.f121)) (h121_1_0  v0 v1 v2 v3 v4 v5) (nextR (fun s' => rec_ (s'.tidy ((lp Tryz.f121 1).lv (retMask Tryz.f121)))) K) = zj13 N  v0 v1 v2 v3 v4 v5 (fun v0 v1 v2 v3 v4 v5 => rec_ (h121_1_0  v0 v1 v2 v3 v4 v5)) (fun y0 y1 y2 y3 y4 => K (.exit 2) (x121_1_0_k0  y0 y1 y2 y3 y4)) := (vst121_1_0 N (zj16 N) (zj14 N) v0 v1 v2 v3 v4 v5 rec_ K).trans (zt13 N  v0 v1 v2 v3 v4 v5 (fun v0 v1 v2 v3 v4 v5 => rec_ (h121_1_0  v0 v1 v2 v3 v4 v5)) (fun y0 y1 y2 y3 y4 => K (.exit 2) (x121_1_0_k0  y0 y1 y2 y3 y4))).symm
theorem ro121_1_0 {β : Type} (N : Nat)  (K : Exit → St → Option β) : ∀ (F : Nat) (v0 : Int) (v1 : Int) (v2 : Int) (v3 : Int) (v4 : Int) (v5 : Int), (lp Tryz.f121 1).rounds lay (E121 N) (retMask Tryz.f121) F (h121_1_0  v0 v1 v2 v3 v4 v5) K = zj14 N  F v0 v1 v2 v3 v4 v5 (fun y0 y1 y2 y3 y4 => K (.exit 2) (x121_1_0_k0  y0 y1 y2 y3 y4)) := by
  intro F
  induction F with
  | zero => intros; rfl
  | succ F ih =>
    intros
    rw [rounds_next]
    refine (st121_1_0 N  _ _ _ _ _ _ (fun s => (lp Tryz.f121 1).rounds lay (E121 N) (retMask Tryz.f121) F s K) K).trans ?_
    simp only [ih]
    rfl
theorem lk121_2 {β : Type} (N : Nat) : lookL (E121 (β := β) N).loops (lp Tryz.f121 1).id = LS121_2 N := by kernel_rfl
theorem rk121_2 {β : Type} (N : Nat) : RoundsOK lay (E121 (β := β) N) (retMask Tryz.f121) (lp Tryz.f121 1) := by
  intro s K r h
  rw [lk121_2] at h
  unfold LS121_2 VLS121_2 at h
  cases hb : shpSt (h121_1_0 0 0 0 0 0 0) s with
  | true =>
    rw [hb, cond_true] at h
    exact ⟨N, by rw [← shpSt_ref hb, fl121_1_0 s]; exact (ro121_1_0 N  K N (intS (oneA (vT (nx tund s.tmps 3)))) (intS (oneA (vT (nx tund s.tmps 4)))) (intS (oneA (vT (nx tund s.tmps 5)))) (intS (oneA (vT (nx tund s.tmps 6)))) (intS (nx .und (cellsB (nx .dead s.blks 0)) 0)) (intS (nx .und (cellsB (nx .dead s.blks 0)) 1))).trans h⟩
  | false =>
  rw [hb, cond_false] at h
  clear hb
  cases h
def zb17 {β : Type} (N : Nat) (zq16 : Nat → Int → Int → Int → Int → (Int → Option β) → Option β) (a0 : Int) (a1 : Int) (k : Int → Option β) : Option β :=
zq16  N 0 0 a0 a1 (fun e4_0 =>
k e4_0)
theorem zt17 {β : Type} (N : Nat) (a0 : Int) (a1 : Int) (k : Int → Option β) : zj17 N a0 a1 k = zb17 N (zj16 N) a0 a1 k := by
  unfold zj17 zb17
  rfl
theorem ve121_0 {β : Type} (N : Nat) (zq16 : Nat → Int → Int → Int → Int → (Int → Option β) → Option β) (zq14 : Nat → Int → Int → Int → Int → Int → Int → (Int → Int → Int → Int → Int → Option β) → Option β)  (a0 : Int) (a1 : Int) (K : TV → Option β) : evFn lay (VE121 N zq16 zq14) Tryz.f121 [.v (.agg [.int .i64 a0, .int .i64 a1])] K = zb17 N zq16 a0 a1 (fun z2 => K (.v (.one (.int .i64 z2)))) := by kernel_rfl
theorem e121_0 {β : Type} (N : Nat)  (a0 : Int) (a1 : Int) (K : TV → Option β) : evFn lay (E121 N) Tryz.f121 [.v (.agg [.int .i64 a0, .int .i64 a1])] K = zj17 N a0 a1 (fun z2 => K (.v (.one (.int .i64 z2)))) := (ve121_0 N (zj16 N) (zj14 N) a0 a1 K).trans (zt17 N a0 a1 (fun z2 => K (.v (.one (.int .i64 z2))))).symm
theorem o121 {β : Type} (N : Nat) : SpecOK (β := β) inv Tryz.prog 121 (S121 N) := by
  refine spec_of lay_ok mixed (E := E121 N) (specs_loops specs_nil) muts_nil gs_nil Tryz.func121 (by kernel_rfl) 2 (by kernel_rfl) ⟨⟨trivial, rk121_0 N⟩, rk121_2 N⟩ fun args K r h => ?_
  unfold S121 VS121 at h
  split at h
  · exact (e121_0 N _ _ _).trans h
  · cases h
def VS20 {β : Type} (N : Nat) (zq18 : (a0 : Int) → (a1 : Int) → (k : Bool → Option β) → Option β) : Rv.Spec β := fun args K => match args with
  | [.v (.agg [.int .i64 a0, .int .i64 a1])] => zq18 a0 a1 (fun z2 => K (.v (.one (.bool z2))))
  | _ => none
def S20 {β : Type} (N : Nat) : Rv.Spec β := VS20 N (zj18 N)
def VE20 {β : Type} (N : Nat) (zq0 : (a0 : Int) → (a1 : Int) → (a2 : Int) → (k : Bool → Option β) → Option β) : Env β := ⟨[(57, VS57 N zq0)], [], [], [], ⟨[], [], [], []⟩⟩
def E20 {β : Type} (N : Nat) : Env β := VE20 N (zj0 N)
def zb18 {β : Type} (N : Nat) (zq0 : (a0 : Int) → (a1 : Int) → (a2 : Int) → (k : Bool → Option β) → Option β) (a0 : Int) (a1 : Int) (k : Bool → Option β) : Option β :=
zq0 a0 0 5 fun r3 =>
(cond r3
((gd ((decide (0 ≤ a0)))
((gd ((decide (0 ≤ (shlI .u64 1 a0))))
(zq0 a1 0 ((w64 ((shlI .i64 1 (shlI .u64 1 a0)) - 1))) fun r4 =>
k r4)))))
(k false))
theorem zt18 {β : Type} (N : Nat) (a0 : Int) (a1 : Int) (k : Bool → Option β) : zj18 N a0 a1 k = zb18 N (zj0 N) a0 a1 k := by
  unfold zj18 zb18
  rfl
theorem ve20_0 {β : Type} (N : Nat) (zq0 : (a0 : Int) → (a1 : Int) → (a2 : Int) → (k : Bool → Option β) → Option β)  (a0 : Int) (a1 : Int) (K : TV → Option β) : evFn lay (VE20 N zq0) Tryz.f20 [.v (.agg [.int .i64 a0, .int .i64 a1])] K = zb18 N zq0 a0 a1 (fun z2 => K (.v (.one (.bool z2)))) := by kernel_rfl
theorem e20_0 {β : Type} (N : Nat)  (a0 : Int) (a1 : Int) (K : TV → Option β) : evFn lay (E20 N) Tryz.f20 [.v (.agg [.int .i64 a0, .int .i64 a1])] K = zj18 N a0 a1 (fun z2 => K (.v (.one (.bool z2)))) := (ve20_0 N (zj0 N) a0 a1 K).trans (zt18 N a0 a1 (fun z2 => K (.v (.one (.bool z2))))).symm
theorem o20 {β : Type} (N : Nat) : SpecOK (β := β) inv Tryz.prog 20 (S20 N) := by
  refine spec_of lay_ok mixed (E := E20 N) (specs_loops (specs_cons (o57 N) specs_nil)) muts_nil gs_nil Tryz.func20 (by kernel_rfl) 0 (by kernel_rfl) trivial fun args K r h => ?_
  unfold S20 VS20 at h
  split at h
  · exact (e20_0 N _ _ _).trans h
  · cases h
end Go.Proofs.YtemihnclhcobnaaGreatDoor
