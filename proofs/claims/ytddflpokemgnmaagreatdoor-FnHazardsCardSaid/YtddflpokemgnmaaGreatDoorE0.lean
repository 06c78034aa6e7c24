/- The functions that the claims reach answer as their texts do. -/
import Derived.Test.YtddflpokemgnmaaGreatDoorT0
import Derived.Test.YtddflpokemgnmaaGreatDoorProg
import Derived.KernelRfl
import Derived.Test.YtddflpokemgnmaaGreatDoorShelf
import Derived.Test.YtddflpokemgnmaaGreatDoorCut
import Derived.Test.YtddflpokemgnmaaGreatDoorCloneP
namespace Go.Proofs.YtddflpokemgnmaaGreatDoor
open Go.Rv
set_option maxRecDepth 100000
set_option maxHeartbeats 2000000
set_option linter.unusedVariables false
variable {β : Type}
def lay : Lay := [(1, .func),
  (2, .int .i64),
  (3, .int .i64),
  (4, .bool),
  (5, .int .u8),
  (9, .string),
  (12, .int .u64),
  (21, .int .i32),
  (22, .slice 5),
  (24, .slice 50),
  (29, .slice 40),
  (35, .struct [⟨0, 1, false⟩, ⟨1, 1, false⟩] [3, 3] 16 true),
  (36, .struct [⟨0, 1, false⟩, ⟨1, 1, false⟩] [3, 3] 16 true),
  (40, .slice 3),
  (49, .struct [⟨0, 1, false⟩, ⟨1, 1, false⟩] [3, 3] 16 true),
  (50, .struct [⟨0, 1, false⟩, ⟨1, 1, false⟩] [3, 3] 16 true),
  (59, .slice 9),
  (63, .pointer 80),
  (79, .struct [⟨0, 1, false⟩, ⟨1, 1, false⟩, ⟨2, 1, false⟩] [22, 3, 3] 40 false),
  (80, .struct [⟨0, 1, false⟩, ⟨1, 1, false⟩, ⟨2, 1, false⟩] [22, 3, 3] 40 false),
  (94, .int .u64),
  (96, .pointer 98),
  (97, .struct [⟨0, 1, false⟩, ⟨1, 1, false⟩] [96, 22] 32 false),
  (98, .struct [⟨0, 1, false⟩, ⟨1, 1, false⟩] [96, 22] 32 false),
  (112, .array 2 4),
  (113, .pointer 5),
  (118, .struct [⟨0, 1, false⟩, ⟨1, 1, false⟩] [5, 5] 2 true),
  (119, .struct [⟨0, 1, false⟩, ⟨1, 1, false⟩] [5, 5] 2 true),
  (121, .int .u32)]

theorem lay_ok : LayOK Tryz.prog lay := layOK_of (by decide +kernel)
theorem mixed : Tryz.prog.follows .mixedOrders = true := by kernel_rfl
def inv : World → Prop := fun _ => True
def S26 (N : Nat) : Rv.Spec β := clonePSpec 50 N
theorem o26 (N : Nat) : SpecOK (β := β) inv Tryz.prog 26 (S26 N) := cloneP_ok Tryz.func26 (by kernel_rfl) cloneP_nil cloneP_told N
def S39 (N : Nat) : Rv.Spec β := splitSpec 9 N
theorem o39 (N : Nat) : SpecOK (β := β) inv Tryz.prog 39 (S39 N) := split_ok Tryz.func39 (by kernel_rfl) Tryz.split_told N
def S71 (N : Nat) : Rv.Spec β := joinSpec N
theorem o71 (N : Nat) : SpecOK (β := β) inv Tryz.prog 71 (S71 N) := join_ok Tryz.func71 (by kernel_rfl) Tryz.strings_Join_none Tryz.strings_Join N
def VS4 (N : Nat) (zq0 : (a0 : List Int) → (k : Bool → O β) → O β) : Rv.Spec β := fun args K => match args with
  | [.v (.one (.sl 5 (.ints .u8 a0)))] => zq0 a0 (fun z1 => K (.v (.one (.bool z1))))
  | _ => none
def S4 (N : Nat) : Rv.Spec β := VS4 N (zj0 N)
def VE4 (N : Nat) : Env β := ⟨[], [], [], [], ⟨[], [], [], []⟩⟩
def E4 (N : Nat) : Env β := VE4 N
def zb0 (N : Nat) (a0 : List Int) (k : Bool → O β) : O β :=
k ((decide ((a0.length : Int) > 1048576)))
theorem zt0 (N : Nat) (a0 : List Int) (k : Bool → O β) : zj0 N a0 k = zb0 N a0 k := by
  unfold zj0 zb0
  rfl
theorem ve4_0 (N : Nat)  (a0 : List Int) (K : TV → O β) : evFn lay (VE4 N) Tryz.f4 [.v (.one (.sl 5 (.ints .u8 a0)))] K = zb0 N a0 (fun z1 => K (.v (.one (.bool z1)))) := by kernel_rfl
theorem e4_0 (N : Nat)  (a0 : List Int) (K : TV → O β) : evFn lay (E4 N) Tryz.f4 [.v (.one (.sl 5 (.ints .u8 a0)))] K = zj0 N a0 (fun z1 => K (.v (.one (.bool z1)))) := (ve4_0 N a0 K).trans (zt0 N a0 (fun z1 => K (.v (.one (.bool z1))))).symm
theorem o4 (N : Nat) : SpecOK (β := β) inv Tryz.prog 4 (S4 N) := by
  refine spec_of lay_ok mixed (E := E4 N) (specs_loops specs_nil) muts_nil gs_nil Tryz.func4 (by kernel_rfl) 0 (by kernel_rfl) trivial fun args K r h => ?_
  unfold S4 VS4 at h
  split at h
  · exact (e4_0 N _ _).trans h
  · cases h
def VS41 (N : Nat) (zq3 : (a0 : List Int) → (k0 : List Int → Int → Int → O β) → O β) : GSpec β := fun args bl K => match args, bl with
  | [.v (.one (.sl 5 (.ints .u8 a0)))], [] => zq3 a0 (fun y0 y1 y2 => K (.v (.one (.ptr 0 0))) [.cells 80 [.sl 5 (.ints .u8 y0), .int .i64 y1, .int .i64 y2]])
  | _, _ => none
def S41 (N : Nat) : GSpec β := VS41 N (zj3 N)
def h41_0_0  (v0 : List Int) (v1 : Int) (v2 : Int) : St := ⟨.v (.one (.sl 5 (.ints .u8 v0))) :: tund :: tund :: .v (.one (.int .i64 v1)) :: .v (.one (.int .i64 v2)) :: tund :: tund :: tund :: tund :: tund :: tund :: tund :: tund :: tund :: tund :: tund :: tund :: tund :: tund :: tund :: tund :: tund :: tund :: tund :: tund :: tund :: tund :: tund :: tund :: tund :: tund :: tund :: [], []⟩
def x41_0_0_k0  (y0 : List Int) (y1 : Int) : St := ⟨.v (.one (.sl 5 (.ints .u8 y0))) :: tund :: tund :: .v (.one (.int .i64 y1)) :: tund :: tund :: tund :: tund :: tund :: tund :: tund :: tund :: tund :: tund :: tund :: tund :: tund :: tund :: tund :: tund :: tund :: tund :: tund :: tund :: tund :: tund :: tund :: tund :: tund :: tund :: tund :: tund :: [], []⟩
theorem fl41_0_0 (s : St) : refSt (h41_0_0 [] 0 0) s = h41_0_0 (rInts (rowV (oneA (vT (nx tund s.tmps 0))))) (intS (oneA (vT (nx tund s.tmps 3)))) (intS (oneA (vT (nx tund s.tmps 4)))) := by kernel_rfl
def VLS41_0 (N : Nat) (zq2 : Nat → List Int → Int → Int → (List Int → Int → O β) → O β) : LSpec β := fun s K => cond (shpSt (h41_0_0 [] 0 0) s) ((fun (v0 : List Int) (v1 : Int) (v2 : Int) => zq2  N v0 v1 v2 (fun y0 y1 => K (.exit 0) (x41_0_0_k0  y0 y1))) (rInts (rowV (oneA (vT (nx tund s.tmps 0))))) (intS (oneA (vT (nx tund s.tmps 3)))) (intS (oneA (vT (nx tund s.tmps 4))))) (none)
def LS41_0 (N : Nat) : LSpec β := VLS41_0 N (zj2 N)
def VE41 (N : Nat) (zq2 : Nat → List Int → Int → Int → (List Int → Int → O β) → O β) : Env β := ⟨[], [], [(0, VLS41_0 N zq2)], [], ⟨[], [], [], []⟩⟩
def E41 (N : Nat) : Env β := VE41 N (zj2 N)
def zb1 (N : Nat)  (v0 : List Int) (v1 : Int) (v2 : Int) (rec_ : List Int → Int → Int → O β) (k0 : List Int → Int → O β) : O β :=
(cond ((decide (v2 < (v0.length : Int))))
((cond ((decide (v2 < 4000)))
((gd ((decide (0 ≤ v2)))
((gd ((decide (v2 < (v0.length : Int))))
(rec_ v0 ((bits .and .i64 (w64 ((w64 ((w64 (v1 * 131)) + (w64 ((rd 0 v0 v2))))) + 7)) 1073741823)) ((w64 (v2 + 1))))))))
(k0 v0 v1)))
(k0 v0 v1))
theorem zt1 (N : Nat)  (v0 : List Int) (v1 : Int) (v2 : Int) (rec_ : List Int → Int → Int → O β) (k0 : List Int → Int → O β) : zj1 N v0 v1 v2 rec_ k0 = zb1 N v0 v1 v2 rec_ k0 := by
  unfold zj1 zb1
  rfl
theorem vst41_0_0 (N : Nat) (zq2 : Nat → List Int → Int → Int → (List Int → Int → O β) → O β)  (v0 : List Int) (v1 : Int) (v2 : Int) (rec_ : St → O β) (K : Exit → St → O β) :
    ev lay (VE41 N zq2) (retMask Tryz.f41) (lp Tryz.f41 0).body (lp Tryz.f41 0).ex ((lp Tryz.f41 0).lv (retMask Tryz.f41)) (h41_0_0  v0 v1 v2) (nextR (fun s' => rec_ (s'.tidy ((lp Tryz.f41 0).lv (retMask Tryz.f41)))) K) = zb1 N  v0 v1 v2 (fun v0 v1 v2 => rec_ (h41_0_0  v0 v1 v2)) (fun y0 y1 => K (.exit 0) (x41_0_0_k0  y0 y1)) := by kernel_rfl
theorem st41_0_0 (N : Nat)  (v0 : List Int) (v1 : Int) (v2 : Int) (rec_ : St → O β) (K : Exit → St → O β) :
    ev lay (E41 N) (retMask Tryz.f41) (lp Tryz.f41 0).body (lp Tryz.f41 0).ex ((lp Tryz.f41 0).lv (retMask Tryz.f41)) (h41_0_0  v0 v1 v2) (nextR (fun s' => rec_ (s'.tidy ((lp Tryz.f41 0).lv (retMask Tryz.f41)))) K) = zj1 N  v0 v1 v2 (fun v0 v1 v2 => rec_ (h41_0_0  v0 v1 v2)) (fun y0 y1 => K (.exit 0) (x41_0_0_k0  y0 y1)) := (vst41_0_0 N (zj2 N) v0 v1 v2 rec_ K).trans (zt1 N  v0 v1 v2 (fun v0 v1 v2 => rec_ (h41_0_0  v0 v1 v2)) (fun y0 y1 => K (.exit 0) (x41_0_0_k0  y0 y1))).symm
theorem ro41_0_0 (N : Nat)  (K : Exit → St → O β) : ∀ (F : Nat) (v0 : List Int) (v1 : Int) (v2 : Int), (lp Tryz.f41 0).rounds lay (E41 N) (retMask Tryz.f41) F (h41_0_0  v0 v1 v2) K = zj2 N  F v0 v1 v2 (fun y0 y1 => K (.exit 0) (x41_0_0_k0  y0 y1)) := by
  intro F
  induction F with
  | zero => intros; rfl
  | succ F ih =>
    intros
    rw [rounds_next]
    refine (st41_0_0 N  _ _ _ (fun s => (lp Tryz.f41 0).rounds lay (E41 N) (retMask Tryz.f41) F s K) K).trans ?_
    simp only [ih]
    rfl
theorem lk41_0 (N : Nat) : lookL (E41 (β := β) N).loops (lp Tryz.f41 0).id = LS41_0 N := by kernel_rfl
theorem rk41_0 (N : Nat) : RoundsOK lay (E41 (β := β) N) (retMask Tryz.f41) (lp Tryz.f41 0) := by
  intro s K r h
  rw [lk41_0] at h
  unfold LS41_0 VLS41_0 at h
  cases hb : shpSt (h41_0_0 [] 0 0) s with
  | true =>
    rw [hb, cond_true] at h
    exact ⟨N, by rw [← shpSt_ref hb, fl41_0_0 s]; exact (ro41_0_0 N  K N (rInts (rowV (oneA (vT (nx tund s.tmps 0))))) (intS (oneA (vT (nx tund s.tmps 3)))) (intS (oneA (vT (nx tund s.tmps 4))))).trans h⟩
  | false =>
  rw [hb, cond_false] at h
  clear hb
  cases h
def zb3 (N : Nat) (zq2 : Nat → List Int → Int → Int → (List Int → Int → O β) → O β) (a0 : List Int) (k0 : List Int → Int → Int → O β) : O β :=
zq2  N a0 ((w64 (10101 + (a0.length : Int)))) 0 (fun e3_0 e3_1 =>
k0 e3_0 0 e3_1)
theorem zt3 (N : Nat) (a0 : List Int) (k0 : List Int → Int → Int → O β) : zj3 N a0 k0 = zb3 N (zj2 N) a0 k0 := by
  unfold zj3 zb3
  rfl
theorem ve41_0 (N : Nat) (zq2 : Nat → List Int → Int → Int → (List Int → Int → O β) → O β) (a0 : List Int) (K : TV → List Blk → O β) : evFnG lay (VE41 N zq2) Tryz.f41 [.v (.one (.sl 5 (.ints .u8 a0)))] [] K = zb3 N zq2 a0 (fun y0 y1 y2 => K (.v (.one (.ptr 0 0))) [.cells 80 [.sl 5 (.ints .u8 y0), .int .i64 y1, .int .i64 y2]]) := by kernel_rfl
theorem e41_0 (N : Nat) (a0 : List Int) (K : TV → List Blk → O β) : evFnG lay (E41 N) Tryz.f41 [.v (.one (.sl 5 (.ints .u8 a0)))] [] K = zj3 N a0 (fun y0 y1 y2 => K (.v (.one (.ptr 0 0))) [.cells 80 [.sl 5 (.ints .u8 y0), .int .i64 y1, .int .i64 y2]]) := (ve41_0 N (zj2 N) a0 K).trans (zt3 N a0 (fun y0 y1 y2 => K (.v (.one (.ptr 0 0))) [.cells 80 [.sl 5 (.ints .u8 y0), .int .i64 y1, .int .i64 y2]])).symm
theorem o41 (N : Nat) : GOK (β := β) inv Tryz.prog 41 (S41 N) := by
  refine g_of lay_ok mixed (E := E41 N) (specs_loops specs_nil) muts_nil gs_nil Tryz.func41 (by kernel_rfl) 1 (by kernel_rfl) ⟨trivial, rk41_0 N⟩ fun args bl K r h => ?_
  unfold S41 VS41 at h
  split at h
  · exact (e41_0 N _ _).trans h
  · cases h
def VS46 (N : Nat) (zq4 : (a0 : Int) → (a1 : Int) → (a2 : Int) → (k : Bool → O β) → O β) : Rv.Spec β := fun args K => match args with
  | [.v (.one (.int .i64 a0)), .v (.one (.int .i64 a1)), .v (.one (.int .i64 a2))] => zq4 a0 a1 a2 (fun z3 => K (.v (.one (.bool z3))))
  | _ => none
def S46 (N : Nat) : Rv.Spec β := VS46 N (zj4 N)
def VE46 (N : Nat) : Env β := ⟨[], [], [], [], ⟨[], [], [], []⟩⟩
def E46 (N : Nat) : Env β := VE46 N
def zb4 (N : Nat) (a0 : Int) (a1 : Int) (a2 : Int) (k : Bool → O β) : O β :=
(cond ((decide (a0 ≥ a1)))
(k ((decide (a0 ≤ a2))))
(k false))
theorem zt4 (N : Nat) (a0 : Int) (a1 : Int) (a2 : Int) (k : Bool → O β) : zj4 N a0 a1 a2 k = zb4 N a0 a1 a2 k := by
  unfold zj4 zb4
  rfl
theorem ve46_0 (N : Nat)  (a0 : Int) (a1 : Int) (a2 : Int) (K : TV → O β) : evFn lay (VE46 N) Tryz.f46 [.v (.one (.int .i64 a0)), .v (.one (.int .i64 a1)), .v (.one (.int .i64 a2))] K = zb4 N a0 a1 a2 (fun z3 => K (.v (.one (.bool z3)))) := by kernel_rfl
theorem e46_0 (N : Nat)  (a0 : Int) (a1 : Int) (a2 : Int) (K : TV → O β) : evFn lay (E46 N) Tryz.f46 [.v (.one (.int .i64 a0)), .v (.one (.int .i64 a1)), .v (.one (.int .i64 a2))] K = zj4 N a0 a1 a2 (fun z3 => K (.v (.one (.bool z3)))) := (ve46_0 N a0 a1 a2 K).trans (zt4 N a0 a1 a2 (fun z3 => K (.v (.one (.bool z3))))).symm
theorem o46 (N : Nat) : SpecOK (β := β) inv Tryz.prog 46 (S46 N) := by
  refine spec_of lay_ok mixed (E := E46 N) (specs_loops specs_nil) muts_nil gs_nil Tryz.func46 (by kernel_rfl) 0 (by kernel_rfl) trivial fun args K r h => ?_
  unfold S46 VS46 at h
  split at h
  · exact (e46_0 N _ _ _ _).trans h
  · cases h
def VS77 (N : Nat) (zq5 : (a0 : Int) → (a1 : Int) → (k : Bool → O β) → O β) : Rv.Spec β := fun args K => match args with
  | [.v (.agg [.int .i64 a0, .int .i64 a1])] => zq5 a0 a1 (fun z2 => K (.v (.one (.bool z2))))
  | _ => none
def S77 (N : Nat) : Rv.Spec β := VS77 N (zj5 N)
def VE77 (N : Nat) (zq4 : (a0 : Int) → (a1 : Int) → (a2 : Int) → (k : Bool → O β) → O β) : Env β := ⟨[(46, VS46 N zq4)], [], [], [], ⟨[], [], [], []⟩⟩
def E77 (N : Nat) : Env β := VE77 N (zj4 N)
def zb5 (N : Nat) (zq4 : (a0 : Int) → (a1 : Int) → (a2 : Int) → (k : Bool → O β) → O β) (a0 : Int) (a1 : Int) (k : Bool → O β) : O β :=
zq4 a0 0 5 fun r3 =>
(cond r3
((gd ((decide (0 ≤ a0)))
((gd ((decide (0 ≤ (shlI .u64 1 a0))))
(zq4 a1 0 ((w64 ((shlI .i64 1 (shlI .u64 1 a0)) - 1))) fun r4 =>
k r4)))))
(k false))
theorem zt5 (N : Nat) (a0 : Int) (a1 : Int) (k : Bool → O β) : zj5 N a0 a1 k = zb5 N (zj4 N) a0 a1 k := by
  unfold zj5 zb5
  rfl
theorem ve77_0 (N : Nat) (zq4 : (a0 : Int) → (a1 : Int) → (a2 : Int) → (k : Bool → O β) → O β)  (a0 : Int) (a1 : Int) (K : TV → O β) : evFn lay (VE77 N zq4) Tryz.f77 [.v (.agg [.int .i64 a0, .int .i64 a1])] K = zb5 N zq4 a0 a1 (fun z2 => K (.v (.one (.bool z2)))) := by kernel_rfl
theorem e77_0 (N : Nat)  (a0 : Int) (a1 : Int) (K : TV → O β) : evFn lay (E77 N) Tryz.f77 [.v (.agg [.int .i64 a0, .int .i64 a1])] K = zj5 N a0 a1 (fun z2 => K (.v (.one (.bool z2)))) := (ve77_0 N (zj4 N) a0 a1 K).trans (zt5 N a0 a1 (fun z2 => K (.v (.one (.bool z2))))).symm
theorem o77 (N : Nat) : SpecOK (β := β) inv Tryz.prog 77 (S77 N) := by
  refine spec_of lay_ok mixed (E := E77 N) (specs_loops (specs_cons (o46 N) specs_nil)) muts_nil gs_nil Tryz.func77 (by kernel_rfl) 0 (by kernel_rfl) trivial fun args K r h => ?_
  unfold S77 VS77 at h
  split at h
  · exact (e77_0 N _ _ _).trans h
  · cases h
def VS92 (N : Nat) (zq8 : (a0 : Int) → (a1 : Int) → (a2 : Int) → (k : Int → O β) → O β) : Rv.Spec β := fun args K => match args with
  | [.v (.one (.int .i64 a0)), .v (.agg [.int .i64 a1, .int .i64 a2])] => zq8 a0 a1 a2 (fun z3 => K (.v (.one (.int .i64 z3))))
  | _ => none
def S92 (N : Nat) : Rv.Spec β := VS92 N (zj8 N)
def h92_0_0  (v0 : Int) (v1 : Int) (v2 : Int) (v3 : Int) (v4 : Int) : St := ⟨.v (.one (.int .i64 v0)) :: tund :: tund :: .v (.one (.ptr 0 0)) :: tund :: .v (.one (.int .i64 v1)) :: .v (.one (.int .i64 v2)) :: tund :: tund :: tund :: tund :: tund :: tund :: tund :: tund :: tund :: tund :: tund :: tund :: tund :: tund :: tund :: tund :: tund :: tund :: [], [.cells 50 [.int .i64 v3, .int .i64 v4]]⟩
def x92_0_0_k0  (y0 : Int) : St := ⟨tund :: tund :: tund :: tund :: tund :: .v (.one (.int .i64 y0)) :: tund :: tund :: tund :: tund :: tund :: tund :: tund :: tund :: tund :: tund :: tund :: tund :: tund :: tund :: tund :: tund :: tund :: tund :: tund :: [], []⟩
theorem fl92_0_0 (s : St) : refSt (h92_0_0 0 0 0 0 0) s = h92_0_0 (intS (oneA (vT (nx tund s.tmps 0)))) (intS (oneA (vT (nx tund s.tmps 5)))) (intS (oneA (vT (nx tund s.tmps 6)))) (intS (nx .und (cellsB (nx .dead s.blks 0)) 0)) (intS (nx .und (cellsB (nx .dead s.blks 0)) 1)) := by kernel_rfl
def VLS92_0 (N : Nat) (zq7 : Nat → Int → Int → Int → Int → Int → (Int → O β) → O β) : LSpec β := fun s K => cond (shpSt (h92_0_0 0 0 0 0 0) s) ((fun (v0 : Int) (v1 : Int) (v2 : Int) (v3 : Int) (v4 : Int) => zq7  N v0 v1 v2 v3 v4 (fun y0 => K (.exit 0) (x92_0_0_k0  y0))) (intS (oneA (vT (nx tund s.tmps 0)))) (intS (oneA (vT (nx tund s.tmps 5)))) (intS (oneA (vT (nx tund s.tmps 6)))) (intS (nx .und (cellsB (nx .dead s.blks 0)) 0)) (intS (nx .und (cellsB (nx .dead s.blks 0)) 1))) (none)
def LS92_0 (N : Nat) : LSpec β := VLS92_0 N (zj7 N)
def VE92 (N : Nat) (zq7 : Nat → Int → Int → Int → Int → Int → (Int → O β) → O β) : Env β := ⟨[], [], [(0, VLS92_0 N zq7)], [], ⟨[], [], [], []⟩⟩
def E92 (N : Nat) : Env β := VE92 N (zj7 N)
def zb6 (N : Nat)  (v0 : Int) (v1 : Int) (v2 : Int) (v3 : Int) (v4 : Int) (rec_ : Int → Int → Int → Int → Int → O β) (k0 : Int → O β) : O β :=
(gd ((decide (0 ≤ v0)))
((cond ((decide (v2 < (shlI .i64 1 v0))))
((cond (((bits .and .i64 v2 v3) == v4))
((gd ((decide (0 ≤ v2)))
(rec_ v0 ((bits .or .i64 v1 (shlI .i64 1 v2))) ((w64 (v2 + 1))) v3 v4)))
(rec_ v0 v1 ((w64 (v2 + 1))) v3 v4)))
(k0 v1))))
theorem zt6 (N : Nat)  (v0 : Int) (v1 : Int) (v2 : Int) (v3 : Int) (v4 : Int) (rec_ : Int → Int → Int → Int → Int → O β) (k0 : Int → O β) : zj6 N v0 v1 v2 v3 v4 rec_ k0 = zb6 N v0 v1 v2 v3 v4 rec_ k0 := by
  unfold zj6 zb6
  rfl
theorem vst92_0_0 (N : Nat) (zq7 : Nat → Int → Int → Int → Int → Int → (Int → O β) → O β)  (v0 : Int) (v1 : Int) (v2 : Int) (v3 : Int) (v4 : Int) (rec_ : St → O β) (K : Exit → St → O β) :
    ev lay (VE92 N zq7) (retMask Tryz.f92) (lp Tryz.f92 0).body (lp Tryz.f92 0).ex ((lp Tryz.f92 0).lv (retMask Tryz.f92)) (h92_0_0  v0 v1 v2 v3 v4) (nextR (fun s' => rec_ (s'.tidy ((lp Tryz.f92 0).lv (retMask Tryz.f92)))) K) = zb6 N  v0 v1 v2 v3 v4 (fun v0 v1 v2 v3 v4 => rec_ (h92_0_0  v0 v1 v2 v3 v4)) (fun y0 => K (.exit 0) (x92_0_0_k0  y0)) := by kernel_rfl
theorem st92_0_0 (N : Nat)  (v0 : Int) (v1 : Int) (v2 : Int) (v3 : Int) (v4 : Int) (rec_ : St → O β) (K : Exit → St → O β) :
    ev lay (E92 N) (retMask Tryz.f92) (lp Tryz.f92 0).body (lp Tryz.f92 0).ex ((lp Tryz.f92 0).lv (retMask Tryz.f92)) (h92_0_0  v0 v1 v2 v3 v4) (nextR (fun s' => rec_ (s'.tidy ((lp Tryz.f92 0).lv (retMask Tryz.f92)))) K) = zj6 N  v0 v1 v2 v3 v4 (fun v0 v1 v2 v3 v4 => rec_ (h92_0_0  v0 v1 v2 v3 v4)) (fun y0 => K (.exit 0) (x92_0_0_k0  y0)) := (vst92_0_0 N (zj7 N) v0 v1 v2 v3 v4 rec_ K).trans (zt6 N  v0 v1 v2 v3 v4 (fun v0 v1 v2 v3 v4 => rec_ (h92_0_0  v0 v1 v2 v3 v4)) (fun y0 => K (.exit 0) (x92_0_0_k0  y0))).symm
theorem ro92_0_0 (N : Nat)  (K : Exit → St → O β) : ∀ (F : Nat) (v0 : Int) (v1 : Int) (v2 : Int) (v3 : Int) (v4 : Int), (lp Tryz.f92 0).rounds lay (E92 N) (retMask Tryz.f92) F (h92_0_0  v0 v1 v2 v3 v4) K = zj7 N  F v0 v1 v2 v3 v4 (fun y0 => K (.exit 0) (x92_0_0_k0  y0)) := by
  intro F
  induction F with
  | zero => intros; rfl
  | succ F ih =>
    intros
    rw [rounds_next]
    refine (st92_0_0 N  _ _ _ _ _ (fun s => (lp Tryz.f92 0).rounds lay (E92 N) (retMask Tryz.f92) F s K) K).trans ?_
    simp only [ih]
    rfl
theorem lk92_0 (N : Nat) : lookL (E92 (β := β) N).loops (lp Tryz.f92 0).id = LS92_0 N := by kernel_rfl
theorem rk92_0 (N : Nat) : RoundsOK lay (E92 (β := β) N) (retMask Tryz.f92) (lp Tryz.f92 0) := by
  intro s K r h
  rw [lk92_0] at h
  unfold LS92_0 VLS92_0 at h
  cases hb : shpSt (h92_0_0 0 0 0 0 0) s with
  | true =>
    rw [hb, cond_true] at h
    exact ⟨N, by rw [← shpSt_ref hb, fl92_0_0 s]; exact (ro92_0_0 N  K N (intS (oneA (vT (nx tund s.tmps 0)))) (intS (oneA (vT (nx tund s.tmps 5)))) (intS (oneA (vT (nx tund s.tmps 6)))) (intS (nx .und (cellsB (nx .dead s.blks 0)) 0)) (intS (nx .und (cellsB (nx .dead s.blks 0)) 1))).trans h⟩
  | false =>
  rw [hb, cond_false] at h
  clear hb
  cases h
def zb8 (N : Nat) (zq7 : Nat → Int → Int → Int → Int → Int → (Int → O β) → O β) (a0 : Int) (a1 : Int) (a2 : Int) (k : Int → O β) : O β :=
zq7  N a0 0 0 a1 a2 (fun e4_0 =>
k e4_0)
theorem zt8 (N : Nat) (a0 : Int) (a1 : Int) (a2 : Int) (k : Int → O β) : zj8 N a0 a1 a2 k = zb8 N (zj7 N) a0 a1 a2 k := by
  unfold zj8 zb8
  rfl
theorem ve92_0 (N : Nat) (zq7 : Nat → Int → Int → Int → Int → Int → (Int → O β) → O β)  (a0 : Int) (a1 : Int) (a2 : Int) (K : TV → O β) : evFn lay (VE92 N zq7) Tryz.f92 [.v (.one (.int .i64 a0)), .v (.agg [.int .i64 a1, .int .i64 a2])] K = zb8 N zq7 a0 a1 a2 (fun z3 => K (.v (.one (.int .i64 z3)))) := by kernel_rfl
theorem e92_0 (N : Nat)  (a0 : Int) (a1 : Int) (a2 : Int) (K : TV → O β) : evFn lay (E92 N) Tryz.f92 [.v (.one (.int .i64 a0)), .v (.agg [.int .i64 a1, .int .i64 a2])] K = zj8 N a0 a1 a2 (fun z3 => K (.v (.one (.int .i64 z3)))) := (ve92_0 N (zj7 N) a0 a1 a2 K).trans (zt8 N a0 a1 a2 (fun z3 => K (.v (.one (.int .i64 z3))))).symm
theorem o92 (N : Nat) : SpecOK (β := β) inv Tryz.prog 92 (S92 N) := by
  refine spec_of lay_ok mixed (E := E92 N) (specs_loops specs_nil) muts_nil gs_nil Tryz.func92 (by kernel_rfl) 1 (by kernel_rfl) ⟨trivial, rk92_0 N⟩ fun args K r h => ?_
  unfold S92 VS92 at h
  split at h
  · exact (e92_0 N _ _ _ _).trans h
  · cases h
def VS101 (N : Nat) (zq9 : (a0 : Int) → (a1 : Int) → (a2 : Int) → (a3 : Int) → (k : Bool → O β) → O β) : Rv.Spec β := fun args K => match args with
  | [.v (.agg [.int .i64 a0, .int .i64 a1]), .v (.agg [.int .i64 a2, .int .i64 a3])] => zq9 a0 a1 a2 a3 (fun z4 => K (.v (.one (.bool z4))))
  | _ => none
def S101 (N : Nat) : Rv.Spec β := VS101 N (zj9 N)
def VE101 (N : Nat) (zq8 : (a0 : Int) → (a1 : Int) → (a2 : Int) → (k : Int → O β) → O β) : Env β := ⟨[(92, VS92 N zq8)], [], [], [], ⟨[], [], [], []⟩⟩
def E101 (N : Nat) : Env β := VE101 N (zj8 N)
def zb9 (N : Nat) (zq8 : (a0 : Int) → (a1 : Int) → (a2 : Int) → (k : Int → O β) → O β) (a0 : Int) (a1 : Int) (a2 : Int) (a3 : Int) (k : Bool → O β) : O β :=
zq8 a0 a2 a3 fun r5 =>
k (((bits .and .i64 r5 a1) == r5))
theorem zt9 (N : Nat) (a0 : Int) (a1 : Int) (a2 : Int) (a3 : Int) (k : Bool → O β) : zj9 N a0 a1 a2 a3 k = zb9 N (zj8 N) a0 a1 a2 a3 k := by
  unfold zj9 zb9
  rfl
theorem ve101_0 (N : Nat) (zq8 : (a0 : Int) → (a1 : Int) → (a2 : Int) → (k : Int → O β) → O β)  (a0 : Int) (a1 : Int) (a2 : Int) (a3 : Int) (K : TV → O β) : evFn lay (VE101 N zq8) Tryz.f101 [.v (.agg [.int .i64 a0, .int .i64 a1]), .v (.agg [.int .i64 a2, .int .i64 a3])] K = zb9 N zq8 a0 a1 a2 a3 (fun z4 => K (.v (.one (.bool z4)))) := by kernel_rfl
theorem e101_0 (N : Nat)  (a0 : Int) (a1 : Int) (a2 : Int) (a3 : Int) (K : TV → O β) : evFn lay (E101 N) Tryz.f101 [.v (.agg [.int .i64 a0, .int .i64 a1]), .v (.agg [.int .i64 a2, .int .i64 a3])] K = zj9 N a0 a1 a2 a3 (fun z4 => K (.v (.one (.bool z4)))) := (ve101_0 N (zj8 N) a0 a1 a2 a3 K).trans (zt9 N a0 a1 a2 a3 (fun z4 => K (.v (.one (.bool z4))))).symm
theorem o101 (N : Nat) : SpecOK (β := β) inv Tryz.prog 101 (S101 N) := by
  refine spec_of lay_ok mixed (E := E101 N) (specs_loops (specs_cons (o92 N) specs_nil)) muts_nil gs_nil Tryz.func101 (by kernel_rfl) 0 (by kernel_rfl) trivial fun args K r h => ?_
  unfold S101 VS101 at h
  split at h
  · exact (e101_0 N _ _ _ _ _).trans h
  · cases h
def VS91 (N : Nat) (zq12 : (a0 : Int) → (a1 : Int) → (a2 : Int) → (a3 : Int) → (k : Bool → O β) → O β) : Rv.Spec β := fun args K => match args with
  | [.v (.agg [.int .i64 a0, .int .i64 a1]), .v (.agg [.int .i64 a2, .int .i64 a3])] => zq12 a0 a1 a2 a3 (fun z4 => K (.v (.one (.bool z4))))
  | _ => none
def S91 (N : Nat) : Rv.Spec β := VS91 N (zj12 N)
def h91_0_0  (v0 : Int) (v1 : Int) (v2 : Int) (v3 : Int) (v4 : Int) : St := ⟨tund :: tund :: .v (.one (.ptr 0 0)) :: .v (.one (.ptr 1 0)) :: tund :: .v (.one (.int .i64 v0)) :: tund :: tund :: tund :: tund :: tund :: tund :: tund :: tund :: tund :: tund :: tund :: tund :: tund :: tund :: tund :: tund :: tund :: tund :: tund :: tund :: tund :: tund :: tund :: tund :: tund :: tund :: tund :: tund :: tund :: tund :: tund :: tund :: tund :: tund :: [], [.cells 36 [.int .i64 v1, .int .i64 v2], .cells 50 [.int .i64 v3, .int .i64 v4]]⟩
def x91_0_0_k0  (y0 : Bool) : St := ⟨tund :: tund :: tund :: tund :: .v (.one (.bool y0)) :: tund :: tund :: tund :: tund :: tund :: tund :: tund :: tund :: tund :: tund :: tund :: tund :: tund :: tund :: tund :: tund :: tund :: tund :: tund :: tund :: tund :: tund :: tund :: tund :: tund :: tund :: tund :: tund :: tund :: tund :: tund :: tund :: tund :: tund :: tund :: [], []⟩
def x91_0_0_k1   : St := ⟨tund :: tund :: tund :: tund :: tund :: tund :: tund :: tund :: tund :: tund :: tund :: tund :: tund :: tund :: tund :: tund :: tund :: tund :: tund :: tund :: tund :: tund :: tund :: tund :: tund :: tund :: tund :: tund :: tund :: tund :: tund :: tund :: tund :: tund :: tund :: tund :: tund :: tund :: tund :: tund :: [], []⟩
theorem fl91_0_0 (s : St) : refSt (h91_0_0 0 0 0 0 0) s = h91_0_0 (intS (oneA (vT (nx tund s.tmps 5)))) (intS (nx .und (cellsB (nx .dead s.blks 0)) 0)) (intS (nx .und (cellsB (nx .dead s.blks 0)) 1)) (intS (nx .und (cellsB (nx .dead s.blks 1)) 0)) (intS (nx .und (cellsB (nx .dead s.blks 1)) 1)) := by kernel_rfl
def VLS91_0 (N : Nat) (zq11 : Nat → Int → Int → Int → Int → Int → (Bool → O β) → (O β) → O β) : LSpec β := fun s K => cond (shpSt (h91_0_0 0 0 0 0 0) s) ((fun (v0 : Int) (v1 : Int) (v2 : Int) (v3 : Int) (v4 : Int) => zq11  N v0 v1 v2 v3 v4 (fun y0 => K .ret (x91_0_0_k0  y0)) (K (.exit 0) (x91_0_0_k1  ))) (intS (oneA (vT (nx tund s.tmps 5)))) (intS (nx .und (cellsB (nx .dead s.blks 0)) 0)) (intS (nx .und (cellsB (nx .dead s.blks 0)) 1)) (intS (nx .und (cellsB (nx .dead s.blks 1)) 0)) (intS (nx .und (cellsB (nx .dead s.blks 1)) 1))) (none)
def LS91_0 (N : Nat) : LSpec β := VLS91_0 N (zj11 N)
def VE91 (N : Nat) (zq9 : (a0 : Int) → (a1 : Int) → (a2 : Int) → (a3 : Int) → (k : Bool → O β) → O β) (zq11 : Nat → Int → Int → Int → Int → Int → (Bool → O β) → (O β) → O β) : Env β := ⟨[(101, VS101 N zq9)], [], [(0, VLS91_0 N zq11)], [], ⟨[], [], [], []⟩⟩
def E91 (N : Nat) : Env β := VE91 N (zj9 N) (zj11 N)
def zb10 (N : Nat) (zq9 : (a0 : Int) → (a1 : Int) → (a2 : Int) → (a3 : Int) → (k : Bool → O β) → O β)  (v0 : Int) (v1 : Int) (v2 : Int) (v3 : Int) (v4 : Int) (rec_ : Int → Int → Int → Int → Int → O β) (k0 : Bool → O β) (k1 : O β) : O β :=
(cond ((decide (v0 < v1)))
((gd ((decide (0 ≤ v0)))
((cond (((bits .and .i64 v3 (shlI .i64 1 v0)) != 0))
(zq9 v1 v2 ((w64 (v3 - (shlI .i64 1 v0)))) ((w64 (v4 - (bits .and .i64 v4 (shlI .i64 1 v0))))) fun r6 =>
(cond r6
(k0 false)
(rec_ ((w64 (v0 + 1))) v1 v2 v3 v4)))
(rec_ ((w64 (v0 + 1))) v1 v2 v3 v4)))))
(k1 ))
theorem zt10 (N : Nat)  (v0 : Int) (v1 : Int) (v2 : Int) (v3 : Int) (v4 : Int) (rec_ : Int → Int → Int → Int → Int → O β) (k0 : Bool → O β) (k1 : O β) : zj10 N v0 v1 v2 v3 v4 rec_ k0 k1 = zb10 N (zj9 N) v0 v1 v2 v3 v4 rec_ k0 k1 := by
  unfold zj10 zb10
  rfl
theorem vst91_0_0 (N : Nat) (zq9 : (a0 : Int) → (a1 : Int) → (a2 : Int) → (a3 : Int) → (k : Bool → O β) → O β) (zq11 : Nat → Int → Int → Int → Int → Int → (Bool → O β) → (O β) → O β)  (v0 : Int) (v1 : Int) (v2 : Int) (v3 : Int) (v4 : Int) (rec_ : St → O β) (K : Exit → St → O β) :
    ev lay (VE91 N zq9 zq11) (retMask Tryz.f91) (lp Tryz.f91 0).body (lp Tryz.f91 0).ex ((lp Tryz.f91 0).lv (retMask Tryz.f91)) (h91_0_0  v0 v1 v2 v3 v4) (nextR (fun s' => rec_ (s'.tidy ((lp Tryz.f91 0).lv (retMask Tryz.f91)))) K) = zb10 N zq9  v0 v1 v2 v3 v4 (fun v0 v1 v2 v3 v4 => rec_ (h91_0_0  v0 v1 v2 v3 v4)) (fun y0 => K .ret (x91_0_0_k0  y0)) (K (.exit 0) (x91_0_0_k1  )) := by kernel_rfl
theorem st91_0_0 (N : Nat)  (v0 : Int) (v1 : Int) (v2 : Int) (v3 : Int) (v4 : Int) (rec_ : St → O β) (K : Exit → St → O β) :
    ev lay (E91 N) (retMask Tryz.f91) (lp Tryz.f91 0).body (lp Tryz.f91 0).ex ((lp Tryz.f91 0).lv (retMask Tryz.f91)) (h91_0_0  v0 v1 v2 v3 v4) (nextR (fun s' => rec_ (s'.tidy ((lp Tryz.f91 0).lv (retMask Tryz.f91)))) K) = zj10 N  v0 v1 v2 v3 v4 (fun v0 v1 v2 v3 v4 => rec_ (h91_0_0  v0 v1 v2 v3 v4)) (fun y0 => K .ret (x91_0_0_k0  y0)) (K (.exit 0) (x91_0_0_k1  )) := (vst91_0_0 N (zj9 N) (zj11 N) v0 v1 v2 v3 v4 rec_ K).trans (zt10 N  v0 v1 v2 v3 v4 (fun v0 v1 v2 v3 v4 => rec_ (h91_0_0  v0 v1 v2 v3 v4)) (fun y0 => K .ret (x91_0_0_k0  y0)) (K (.exit 0) (x91_0_0_k1  ))).symm
theorem ro91_0_0 (N : Nat)  (K : Exit → St → O β) : ∀ (F : Nat) (v0 : Int) (v1 : Int) (v2 : Int) (v3 : Int) (v4 : Int), (lp Tryz.f91 0).rounds lay (E91 N) (retMask Tryz.f91) F (h91_0_0  v0 v1 v2 v3 v4) K = zj11 N  F v0 v1 v2 v3 v4 (fun y0 => K .ret (x91_0_0_k0  y0)) (K (.exit 0) (x91_0_0_k1  )) := by
  intro F
  induction F with
  | zero => intros; rfl
  | succ F ih =>
    intros
    rw [rounds_next]
    refine (st91_0_0 N  _ _ _ _ _ (fun s => (lp Tryz.f91 0).rounds lay (E91 N) (retMask Tryz.f91) F s K) K).trans ?_
    simp only [ih]
    rfl
theorem lk91_0 (N : Nat) : lookL (E91 (β := β) N).loops (lp Tryz.f91 0).id = LS91_0 N := by kernel_rfl
theorem rk91_0 (N : Nat) : RoundsOK lay (E91 (β := β) N) (retMask Tryz.f91) (lp Tryz.f91 0) := by
  intro s K r h
  rw [lk91_0] at h
  unfold LS91_0 VLS91_0 at h
  cases hb : shpSt (h91_0_0 0 0 0 0 0) s with
  | true =>
    rw [hb, cond_true] at h
    exact ⟨N, by rw [← shpSt_ref hb, fl91_0_0 s]; exact (ro91_0_0 N  K N (intS (oneA (vT (nx tund s.tmps 5)))) (intS (nx .und (cellsB (nx .dead s.blks 0)) 0)) (intS (nx .und (cellsB (nx .dead s.blks 0)) 1)) (intS (nx .und (cellsB (nx .dead s.blks 1)) 0)) (intS (nx .und (cellsB (nx .dead s.blks 1)) 1))).trans h⟩
  | false =>
  rw [hb, cond_false] at h
  clear hb
  cases h
def zb12 (N : Nat) (zq9 : (a0 : Int) → (a1 : Int) → (a2 : Int) → (a3 : Int) → (k : Bool → O β) → O β) (zq11 : Nat → Int → Int → Int → Int → Int → (Bool → O β) → (O β) → O β) (a0 : Int) (a1 : Int) (a2 : Int) (a3 : Int) (k : Bool → O β) : O β :=
zq9 a0 a1 a2 a3 fun r5 =>
(cond (!r5)
(k false)
(zq11  N 0 a0 a1 a2 a3 (fun e7_0 =>
k e7_0) (k true)))
theorem zt12 (N : Nat) (a0 : Int) (a1 : Int) (a2 : Int) (a3 : Int) (k : Bool → O β) : zj12 N a0 a1 a2 a3 k = zb12 N (zj9 N) (zj11 N) a0 a1 a2 a3 k := by
  unfold zj12 zb12
  rfl
theorem ve91_0 (N : Nat) (zq9 : (a0 : Int) → (a1 : Int) → (a2 : Int) → (a3 : Int) → (k : Bool → O β) → O β) (zq11 : Nat → Int → Int → Int → Int → Int → (Bool → O β) → (O β) → O β)  (a0 : Int) (a1 : Int) (a2 : Int) (a3 : Int) (K : TV → O β) : evFn lay (VE91 N zq9 zq11) Tryz.f91 [.v (.agg [.int .i64 a0, .int .i64 a1]), .v (.agg [.int .i64 a2, .int .i64 a3])] K = zb12 N zq9 zq11 a0 a1 a2 a3 (fun z4 => K (.v (.one (.bool z4)))) := by kernel_rfl
theorem e91_0 (N : Nat)  (a0 : Int) (a1 : Int) (a2 : Int) (a3 : Int) (K : TV → O β) : evFn lay (E91 N) Tryz.f91 [.v (.agg [.int .i64 a0, .int .i64 a1]), .v (.agg [.int .i64 a2, .int .i64 a3])] K = zj12 N a0 a1 a2 a3 (fun z4 => K (.v (.one (.bool z4)))) := (ve91_0 N (zj9 N) (zj11 N) a0 a1 a2 a3 K).trans (zt12 N a0 a1 a2 a3 (fun z4 => K (.v (.one (.bool z4))))).symm
theorem o91 (N : Nat) : SpecOK (β := β) inv Tryz.prog 91 (S91 N) := by
  refine spec_of lay_ok mixed (E := E91 N) (specs_loops (specs_cons (o101 N) specs_nil)) muts_nil gs_nil Tryz.func91 (by kernel_rfl) 1 (by kernel_rfl) ⟨trivial, rk91_0 N⟩ fun args K r h => ?_
  unfold S91 VS91 at h
  split at h
  · exact (e91_0 N _ _ _ _ _).trans h
  · cases h
def VS78 (N : Nat) (zq17 : (a0 : Int) → (a1 : Int) → (k : List (Int × Int) → O β) → O β) : Rv.Spec β := fun args K => match args with
  | [.v (.agg [.int .i64 a0, .int .i64 a1])] => zq17 a0 a1 (fun z2 => K (.v (.one (.sl 50 (.pairs z2)))))
  | _ => none
def S78 (N : Nat) : Rv.Spec β := VS78 N (zj17 N)
def h78_0_0  (v0 : Int) (v1 : Int) (v2 : Int) (v3 : List (Int × Int)) : St := ⟨tund :: .v (.one (.ptr 0 0)) :: tund :: .v (.one (.row 1)) :: .v (.one (.int .i64 v0)) :: tund :: tund :: tund :: tund :: tund :: tund :: tund :: tund :: tund :: tund :: tund :: tund :: tund :: tund :: tund :: tund :: tund :: tund :: tund :: tund :: tund :: tund :: tund :: tund :: tund :: tund :: tund :: tund :: tund :: tund :: tund :: tund :: tund :: [], [.cells 36 [.int .i64 v1, .int .i64 v2], .row 50 (.pairs v3)]⟩
def x78_0_0_k0  (y0 : List (Int × Int)) : St := ⟨tund :: tund :: tund :: .v (.one (.row 0)) :: tund :: tund :: tund :: tund :: tund :: tund :: tund :: tund :: tund :: tund :: tund :: tund :: tund :: tund :: tund :: tund :: tund :: tund :: tund :: tund :: tund :: tund :: tund :: tund :: tund :: tund :: tund :: tund :: tund :: tund :: tund :: tund :: tund :: tund :: [], [.row 50 (.pairs y0)]⟩
def h78_1_0  (v0 : Int) (v1 : Int) (v2 : Int) (v3 : Int) (v4 : List (Int × Int)) : St := ⟨tund :: .v (.one (.ptr 0 0)) :: tund :: .v (.one (.row 1)) :: .v (.one (.int .i64 v0)) :: .v (.one (.int .i64 v1)) :: tund :: tund :: tund :: tund :: tund :: tund :: tund :: tund :: tund :: tund :: tund :: tund :: tund :: tund :: tund :: tund :: tund :: tund :: tund :: tund :: tund :: tund :: tund :: tund :: tund :: tund :: tund :: tund :: tund :: tund :: tund :: tund :: [], [.cells 36 [.int .i64 v2, .int .i64 v3], .row 50 (.pairs v4)]⟩
def x78_1_0_k0  (y0 : Int) (y1 : Int) (y2 : Int) (y3 : List (Int × Int)) : St := ⟨tund :: .v (.one (.ptr 0 0)) :: tund :: .v (.one (.row 1)) :: .v (.one (.int .i64 y0)) :: tund :: tund :: tund :: tund :: tund :: tund :: tund :: tund :: tund :: tund :: tund :: tund :: tund :: tund :: tund :: tund :: tund :: tund :: tund :: tund :: tund :: tund :: tund :: tund :: tund :: tund :: tund :: tund :: tund :: tund :: tund :: tund :: tund :: [], [.cells 36 [.int .i64 y1, .int .i64 y2], .row 50 (.pairs y3)]⟩
theorem fl78_0_0 (s : St) : refSt (h78_0_0 0 0 0 []) s = h78_0_0 (intS (oneA (vT (nx tund s.tmps 4)))) (intS (nx .und (cellsB (nx .dead s.blks 0)) 0)) (intS (nx .und (cellsB (nx .dead s.blks 0)) 1)) (rPairs (rowB_ (nx .dead s.blks 1))) := by kernel_rfl
def VLS78_0 (N : Nat) (zq16 : Nat → Int → Int → Int → List (Int × Int) → (List (Int × Int) → O β) → O β) : LSpec β := fun s K => cond (shpSt (h78_0_0 0 0 0 []) s) ((fun (v0 : Int) (v1 : Int) (v2 : Int) (v3 : List (Int × Int)) => zq16  N v0 v1 v2 v3 (fun y0 => K (.exit 0) (x78_0_0_k0  y0))) (intS (oneA (vT (nx tund s.tmps 4)))) (intS (nx .und (cellsB (nx .dead s.blks 0)) 0)) (intS (nx .und (cellsB (nx .dead s.blks 0)) 1)) (rPairs (rowB_ (nx .dead s.blks 1)))) (none)
def LS78_0 (N : Nat) : LSpec β := VLS78_0 N (zj16 N)
theorem fl78_1_0 (s : St) : refSt (h78_1_0 0 0 0 0 []) s = h78_1_0 (intS (oneA (vT (nx tund s.tmps 4)))) (intS (oneA (vT (nx tund s.tmps 5)))) (intS (nx .und (cellsB (nx .dead s.blks 0)) 0)) (intS (nx .und (cellsB (nx .dead s.blks 0)) 1)) (rPairs (rowB_ (nx .dead s.blks 1))) := by kernel_rfl
def VLS78_2 (N : Nat) (zq14 : Nat → Int → Int → Int → Int → List (Int × Int) → (Int → Int → Int → List (Int × Int) → O β) → O β) : LSpec β := fun s K => cond (shpSt (h78_1_0 0 0 0 0 []) s) ((fun (v0 : Int) (v1 : Int) (v2 : Int) (v3 : Int) (v4 : List (Int × Int)) => zq14  N v0 v1 v2 v3 v4 (fun y0 y1 y2 y3 => K (.exit 2) (x78_1_0_k0  y0 y1 y2 y3))) (intS (oneA (vT (nx tund s.tmps 4)))) (intS (oneA (vT (nx tund s.tmps 5)))) (intS (nx .und (cellsB (nx .dead s.blks 0)) 0)) (intS (nx .und (cellsB (nx .dead s.blks 0)) 1)) (rPairs (rowB_ (nx .dead s.blks 1)))) (none)
def LS78_2 (N : Nat) : LSpec β := VLS78_2 N (zj14 N)
def VE78 (N : Nat) (zq12 : (a0 : Int) → (a1 : Int) → (a2 : Int) → (a3 : Int) → (k : Bool → O β) → O β) (zq16 : Nat → Int → Int → Int → List (Int × Int) → (List (Int × Int) → O β) → O β) (zq14 : Nat → Int → Int → Int → Int → List (Int × Int) → (Int → Int → Int → List (Int × Int) → O β) → O β) : Env β := ⟨[(91, VS91 N zq12)], [], [(0, VLS78_0 N zq16), (2, VLS78_2 N zq14)], [], ⟨[], [], [], []⟩⟩
def E78 (N : Nat) : Env β := VE78 N (zj12 N) (zj16 N) (zj14 N)
def zb15 (N : Nat) (zq14 : Nat → Int → Int → Int → Int → List (Int × Int) → (Int → Int → Int → List (Int × Int) → O β) → O β)  (v0 : Int) (v1 : Int) (v2 : Int) (v3 : List (Int × Int)) (rec_ : Int → Int → Int → List (Int × Int) → O β) (k0 : List (Int × Int) → O β) : O β :=
(gd ((decide (0 ≤ v1)))
((cond ((decide (v0 < (shlI .i64 1 v1))))
(zq14  N v0 0 v1 v2 v3 (fun e4_0 e4_1 e4_2 e4_3 =>
rec_ ((w64 (e4_0 + 1))) e4_1 e4_2 e4_3))
(k0 v3))))
theorem zt15 (N : Nat)  (v0 : Int) (v1 : Int) (v2 : Int) (v3 : List (Int × Int)) (rec_ : Int → Int → Int → List (Int × Int) → O β) (k0 : List (Int × Int) → O β) : zj15 N v0 v1 v2 v3 rec_ k0 = zb15 N (zj14 N) v0 v1 v2 v3 rec_ k0 := by
  unfold zj15 zb15
  rfl
theorem vst78_0_0 (N : Nat) (zq12 : (a0 : Int) → (a1 : Int) → (a2 : Int) → (a3 : Int) → (k : Bool → O β) → O β) (zq16 : Nat → Int → Int → Int → List (Int × Int) → (List (Int × Int) → O β) → O β) (zq14 : Nat → Int → Int → Int → Int → List (Int × Int) → (Int → Int → Int → List (Int × Int) → O β) → O β)  (v0 : Int) (v1 : Int) (v2 : Int) (v3 : List (Int × Int)) (rec_ : St → O β) (K : Exit → St → O β) :
    ev lay (VE78 N zq12 zq16 zq14) (retMask Tryz.f78) (lp Tryz.f78 0).body (lp Tryz.f78 0).ex ((lp Tryz.f78 0).lv (retMask Tryz.f78)) (h78_0_0  v0 v1 v2 v3) (nextR (fun s' => rec_ (s'.tidy ((lp Tryz.f78 0).lv (retMask Tryz.f78)))) K) = zb15 N zq14  v0 v1 v2 v3 (fun v0 v1 v2 v3 => rec_ (h78_0_0  v0 v1 v2 v3)) (fun y0 => K (.exit 0) (x78_0_0_k0  y0)) := by kernel_rfl
theorem st78_0_0 (N : Nat)  (v0 : Int) (v1 : Int) (v2 : Int) (v3 : List (Int × Int)) (rec_ : St → O β) (K : Exit → St → O β) :
    ev lay (E78 N) (retMask Tryz.f78) (lp Tryz.f78 0).body (lp Tryz.f78 0).ex ((lp Tryz.f78 0).lv (retMask Tryz.f78)) (h78_0_0  v0 v1 v2 v3) (nextR (fun s' => rec_ (s'.tidy ((lp Tryz.f78 0).lv (retMask Tryz.f78)))) K) = zj15 N  v0 v1 v2 v3 (fun v0 v1 v2 v3 => rec_ (h78_0_0  v0 v1 v2 v3)) (fun y0 => K (.exit 0) (x78_0_0_k0  y0)) := (vst78_0_0 N (zj12 N) (zj16 N) (zj14 N) v0 v1 v2 v3 rec_ K).trans (zt15 N  v0 v1 v2 v3 (fun v0 v1 v2 v3 => rec_ (h78_0_0  v0 v1 v2 v3)) (fun y0 => K (.exit 0) (x78_0_0_k0  y0))).symm
theorem ro78_0_0 (N : Nat)  (K : Exit → St → O β) : ∀ (F : Nat) (v0 : Int) (v1 : Int) (v2 : Int) (v3 : List (Int × Int)), (lp Tryz.f78 0).rounds lay (E78 N) (retMask Tryz.f78) F (h78_0_0  v0 v1 v2 v3) K = zj16 N  F v0 v1 v2 v3 (fun y0 => K (.exit 0) (x78_0_0_k0  y0)) := by
  intro F
  induction F with
  | zero => intros; rfl
  | succ F ih =>
    intros
    rw [rounds_next]
    refine (st78_0_0 N  _ _ _ _ (fun s => (lp Tryz.f78 0).rounds lay (E78 N) (retMask Tryz.f78) F s K) K).trans ?_
    simp only [ih]
    rfl
theorem lk78_0 (N : Nat) : lookL (E78 (β := β) N).loops (lp Tryz.f78 0).id = LS78_0 N := by kernel_rfl
theorem rk78_0 (N : Nat) : RoundsOK lay (E78 (β := β) N) (retMask Tryz.f78) (lp Tryz.f78 0) := by
  intro s K r h
  rw [lk78_0] at h
  unfold LS78_0 VLS78_0 at h
  cases hb : shpSt (h78_0_0 0 0 0 []) s with
  | true =>
    rw [hb, cond_true] at h
    exact ⟨N, by rw [← shpSt_ref hb, fl78_0_0 s]; exact (ro78_0_0 N  K N (intS (oneA (vT (nx tund s.tmps 4)))) (intS (nx .und (cellsB (nx .dead s.blks 0)) 0)) (intS (nx .und (cellsB (nx .dead s.blks 0)) 1)) (rPairs (rowB_ (nx .dead s.blks 1)))).trans h⟩
  | false =>
  rw [hb, cond_false] at h
  clear hb
  cases h
def zb13 (N : Nat) (zq12 : (a0 : Int) → (a1 : Int) → (a2 : Int) → (a3 : Int) → (k : Bool → O β) → O β)  (v0 : Int) (v1 : Int) (v2 : Int) (v3 : Int) (v4 : List (Int × Int)) (rec_ : Int → Int → Int → Int → List (Int × Int) → O β) (k0 : Int → Int → Int → List (Int × Int) → O β) : O β :=
(cond ((decide (v1 ≤ v0)))
((cond (((bits .and .i64 v1 v0) == v1))
(zq12 v2 v3 v0 v1 fun r3 =>
(cond r3
((gd ((decide ((v4.length + ((([] : List (Int × Int)) ++ [(v0, v1)])).length) * 16 ≤ 140737488355328)))
(rec_ v0 ((w64 (v1 + 1))) v2 v3 ((v4 ++ (([] : List (Int × Int)) ++ [(v0, v1)]))))))
(rec_ v0 ((w64 (v1 + 1))) v2 v3 v4)))
(rec_ v0 ((w64 (v1 + 1))) v2 v3 v4)))
(k0 v0 v2 v3 v4))
theorem zt13 (N : Nat)  (v0 : Int) (v1 : Int) (v2 : Int) (v3 : Int) (v4 : List (Int × Int)) (rec_ : Int → Int → Int → Int → List (Int × Int) → O β) (k0 : Int → Int → Int → List (Int × Int) → O β) : zj13 N v0 v1 v2 v3 v4 rec_ k0 = zb13 N (zj12 N) v0 v1 v2 v3 v4 rec_ k0 := by
  unfold zj13 zb13
  rfl
theorem vst78_1_0 (N : Nat) (zq12 : (a0 : Int) → (a1 : Int) → (a2 : Int) → (a3 : Int) → (k : Bool → O β) → O β) (zq16 : Nat → Int → Int → Int → List (Int × Int) → (List (Int × Int) → O β) → O β) (zq14 : Nat → Int → Int → Int → Int → List (Int × Int) → (Int → Int → Int → List (Int × Int) → O β) → O β)  (v0 : Int) (v1 : Int) (v2 : Int) (v3 : Int) (v4 : List (Int × Int)) (rec_ : St → O β) (K : Exit → St → O β) :
    ev lay (VE78 N zq12 zq16 zq14) (retMask Tryz.f78) (lp Tryz.f78 1).body (lp Tryz.f78 1).ex ((lp Tryz.f78 1).lv (retMask Tryz.f78)) (h78_1_0  v0 v1 v2 v3 v4) (nextR (fun s' => rec_ (s'.tidy ((lp Tryz.f78 1).lv (retMask Tryz.f78)))) K) = zb13 N zq12  v0 v1 v2 v3 v4 (fun v0 v1 v2 v3 v4 => rec_ (h78_1_0  v0 v1 v2 v3 v4)) (fun y0 y1 y2 y3 => K (.exit 2) (x78_1_0_k0  y0 y1 y2 y3)) := by kernel_rfl
theorem st78_1_0 (N : Nat)  (v0 : Int) (v1 : Int) (v2 : Int) (v3 : Int) (v4 : List (Int × Int)) (rec_ : St → O β) (K : Exit → St → O β) :
    ev lay (E78 N) (retMask Tryz.f78) (lp Tryz.f78 1).body (lp Tryz.f78 1).ex ((lp Tryz.f78 1).lv (retMask Tryz.f78)) (h78_1_0  v0 v1 v2 v3 v4) (nextR (fun s' => rec_ (s'.tidy ((lp Tryz.f78 1).lv (retMask Tryz.f78)))) K) = zj13 N  v0 v1 v2 v3 v4 (fun v0 v1 v2 v3 v4 => rec_ (h78_1_0  v0 v1 v2 v3 v4)) (fun y0 y1 y2 y3 => K (.exit 2) (x78_1_0_k0  y0 y1 y2 y3)) := (vst78_1_0 N (zj12 N) (zj16 N) (zj14 N) v0 v1 v2 v3 v4 rec_ K).trans (zt13 N  v0 v1 v2 v3 v4 (fun v0 v1 v2 v3 v4 => rec_ (h78_1_0  v0 v1 v2 v3 v4)) (fun y0 y1 y2 y3 => K (.exit 2) (x78_1_0_k0  y0 y1 y2 y3))).symm
theorem ro78_1_0 (N : Nat)  (K : Exit → St → O β) : ∀ (F : Nat) (v0 : Int) (v1 : Int) (v2 : Int) (v3 : Int) (v4 : List (Int × Int)), (lp Tryz.f78 1).rounds lay (E78 N) (retMask Tryz.f78) F (h78_1_0  v0 v1 v2 v3 v4) K = zj14 N  F v0 v1 v2 v3 v4 (fun y0 y1 y2 y3 => K (.exit 2) (x78_1_0_k0  y0 y1 y2 y3)) := by
  intro F
  induction F with
  | zero => intros; rfl
  | succ F ih =>
    intros
    rw [rounds_next]
    refine (st78_1_0 N  _ _ _ _ _ (fun s => (lp Tryz.f78 1).rounds lay (E78 N) (retMask Tryz.f78) F s K) K).trans ?_
    simp only [ih]
    rfl
theorem lk78_2 (N : Nat) : lookL (E78 (β := β) N).loops (lp Tryz.f78 1).id = LS78_2 N := by kernel_rfl
theorem rk78_2 (N : Nat) : RoundsOK lay (E78 (β := β) N) (retMask Tryz.f78) (lp Tryz.f78 1) := by
  intro s K r h
  rw [lk78_2] at h
  unfold LS78_2 VLS78_2 at h
  cases hb : shpSt (h78_1_0 0 0 0 0 []) s with
  | true =>
    rw [hb, cond_true] at h
    exact ⟨N, by rw [← shpSt_ref hb, fl78_1_0 s]; exact (ro78_1_0 N  K N (intS (oneA (vT (nx tund s.tmps 4)))) (intS (oneA (vT (nx tund s.tmps 5)))) (intS (nx .und (cellsB (nx .dead s.blks 0)) 0)) (intS (nx .und (cellsB (nx .dead s.blks 0)) 1)) (rPairs (rowB_ (nx .dead s.blks 1)))).trans h⟩
  | false =>
  rw [hb, cond_false] at h
  clear hb
  cases h
def zb17 (N : Nat) (zq16 : Nat → Int → Int → Int → List (Int × Int) → (List (Int × Int) → O β) → O β) (a0 : Int) (a1 : Int) (k : List (Int × Int) → O β) : O β :=
zq16  N 0 a0 a1 (([] : List (Int × Int))) (fun e5_0 =>
k e5_0)
theorem zt17 (N : Nat) (a0 : Int) (a1 : Int) (k : List (Int × Int) → O β) : zj17 N a0 a1 k = zb17 N (zj16 N) a0 a1 k := by
  unfold zj17 zb17
  rfl
theorem ve78_0 (N : Nat) (zq12 : (a0 : Int) → (a1 : Int) → (a2 : Int) → (a3 : Int) → (k : Bool → O β) → O β) (zq16 : Nat → Int → Int → Int → List (Int × Int) → (List (Int × Int) → O β) → O β) (zq14 : Nat → Int → Int → Int → Int → List (Int × Int) → (Int → Int → Int → List (Int × Int) → O β) → O β)  (a0 : Int) (a1 : Int) (K : TV → O β) : evFn lay (VE78 N zq12 zq16 zq14) Tryz.f78 [.v (.agg [.int .i64 a0, .int .i64 a1])] K = zb17 N zq16 a0 a1 (fun z2 => K (.v (.one (.sl 50 (.pairs z2))))) := by kernel_rfl
theorem e78_0 (N : Nat)  (a0 : Int) (a1 : Int) (K : TV → O β) : evFn lay (E78 N) Tryz.f78 [.v (.agg [.int .i64 a0, .int .i64 a1])] K = zj17 N a0 a1 (fun z2 => K (.v (.one (.sl 50 (.pairs z2))))) := (ve78_0 N (zj12 N) (zj16 N) (zj14 N) a0 a1 K).trans (zt17 N a0 a1 (fun z2 => K (.v (.one (.sl 50 (.pairs z2)))))).symm
theorem o78 (N : Nat) : SpecOK (β := β) inv Tryz.prog 78 (S78 N) := by
  refine spec_of lay_ok mixed (E := E78 N) (specs_loops (specs_cons (o91 N) specs_nil)) muts_nil gs_nil Tryz.func78 (by kernel_rfl) 2 (by kernel_rfl) ⟨⟨trivial, rk78_0 N⟩, rk78_2 N⟩ fun args K r h => ?_
  unfold S78 VS78 at h
  split at h
  · exact (e78_0 N _ _ _).trans h
  · cases h
def VSF79 (N : Nat) (zq21 : Nat → Int → Int → List (Int × Int) → Int → Int → Int → (List (Int × Int) → Bool → O β) → O β) (G : Nat) : Rv.Spec β := fun args K => match args with
  | [.v (.agg [.int .i64 a0, .int .i64 a1]), .v (.one (.sl 50 (.pairs a2))), .v (.one (.int .i64 a3)), .v (.one (.int .i64 a4)), .v (.one (.int .i64 a5))] => zq21 G a0 a1 a2 a3 a4 a5 (fun z6 z7 => K (.tup [.one (.sl 50 (.pairs z6)), .one (.bool z7)]))
  | _ => none
def SF79 (N : Nat) (G : Nat) : Rv.Spec β := VSF79 N (zj21 N) G
def VS79 (N : Nat) (zq21 : Nat → Int → Int → List (Int × Int) → Int → Int → Int → (List (Int × Int) → Bool → O β) → O β) : Rv.Spec β := VSF79 N zq21 N
def S79 (N : Nat) : Rv.Spec β := SF79 N N
def h79_0_0  (v0 : List (Int × Int)) (v1 : Int) (v2 : Int) (v3 : Int) (v4 : Int) (v5 : Int) : St := ⟨tund :: .v (.one (.sl 50 (.pairs v0))) :: tund :: .v (.one (.int .i64 v1)) :: .v (.one (.int .i64 v2)) :: .v (.one (.ptr 0 0)) :: tund :: tund :: tund :: tund :: tund :: tund :: .v (.one (.int .i64 v3)) :: tund :: tund :: tund :: tund :: tund :: tund :: tund :: tund :: tund :: tund :: tund :: tund :: tund :: tund :: tund :: tund :: tund :: tund :: tund :: tund :: tund :: tund :: tund :: tund :: tund :: tund :: tund :: tund :: tund :: tund :: tund :: tund :: tund :: tund :: tund :: tund :: tund :: tund :: tund :: tund :: tund :: tund :: tund :: tund :: tund :: tund :: tund :: tund :: tund :: tund :: tund :: [], [.cells 36 [.int .i64 v4, .int .i64 v5]]⟩
def x79_0_0_k0  (y0 : Bool) (y1 : List (Int × Int)) : St := ⟨tund :: tund :: tund :: tund :: tund :: tund :: tund :: tund :: tund :: tund :: .v (.one (.row 0)) :: .v (.one (.bool y0)) :: tund :: tund :: tund :: tund :: tund :: tund :: tund :: tund :: tund :: tund :: tund :: tund :: tund :: tund :: tund :: tund :: tund :: tund :: tund :: tund :: tund :: tund :: tund :: tund :: tund :: tund :: tund :: tund :: tund :: tund :: tund :: tund :: tund :: tund :: tund :: tund :: tund :: tund :: tund :: tund :: tund :: tund :: tund :: tund :: tund :: tund :: tund :: tund :: tund :: tund :: tund :: tund :: [], [.row 50 (.pairs y1)]⟩
def x79_0_0_k1   : St := ⟨tund :: tund :: tund :: tund :: tund :: tund :: tund :: tund :: tund :: tund :: tund :: tund :: tund :: tund :: tund :: tund :: tund :: tund :: tund :: tund :: tund :: tund :: tund :: tund :: tund :: tund :: tund :: tund :: tund :: tund :: tund :: tund :: tund :: tund :: tund :: tund :: tund :: tund :: tund :: tund :: tund :: tund :: tund :: tund :: tund :: tund :: tund :: tund :: tund :: tund :: tund :: tund :: tund :: tund :: tund :: tund :: tund :: tund :: tund :: tund :: tund :: tund :: tund :: tund :: [], []⟩
theorem fl79_0_0 (s : St) : refSt (h79_0_0 [] 0 0 0 0 0) s = h79_0_0 (rPairs (rowV (oneA (vT (nx tund s.tmps 1))))) (intS (oneA (vT (nx tund s.tmps 3)))) (intS (oneA (vT (nx tund s.tmps 4)))) (intS (oneA (vT (nx tund s.tmps 12)))) (intS (nx .und (cellsB (nx .dead s.blks 0)) 0)) (intS (nx .und (cellsB (nx .dead s.blks 0)) 1)) := by kernel_rfl
def VLS79_0 (N : Nat) (zq19 : (self : Int → Int → List (Int × Int) → Int → Int → Int → (List (Int × Int) → Bool → O β) → O β) → Nat → List (Int × Int) → Int → Int → Int → Int → Int → (Bool → List (Int × Int) → O β) → (O β) → O β) (zq21 : Nat → Int → Int → List (Int × Int) → Int → Int → Int → (List (Int × Int) → Bool → O β) → O β) (G : Nat) : LSpec β := fun s K => cond (shpSt (h79_0_0 [] 0 0 0 0 0) s) ((fun (v0 : List (Int × Int)) (v1 : Int) (v2 : Int) (v3 : Int) (v4 : Int) (v5 : Int) => zq19 (zq21 G)  N v0 v1 v2 v3 v4 v5 (fun y0 y1 => K .ret (x79_0_0_k0  y0 y1)) (K (.exit 0) (x79_0_0_k1  ))) (rPairs (rowV (oneA (vT (nx tund s.tmps 1))))) (intS (oneA (vT (nx tund s.tmps 3)))) (intS (oneA (vT (nx tund s.tmps 4)))) (intS (oneA (vT (nx tund s.tmps 12)))) (intS (nx .und (cellsB (nx .dead s.blks 0)) 0)) (intS (nx .und (cellsB (nx .dead s.blks 0)) 1))) (none)
def LS79_0 (N : Nat) (G : Nat) : LSpec β := VLS79_0 N (zj19 N) (zj21 N) G
def VE79 (N : Nat) (zq8 : (a0 : Int) → (a1 : Int) → (a2 : Int) → (k : Int → O β) → O β) (zq21 : Nat → Int → Int → List (Int × Int) → Int → Int → Int → (List (Int × Int) → Bool → O β) → O β) (zq19 : (self : Int → Int → List (Int × Int) → Int → Int → Int → (List (Int × Int) → Bool → O β) → O β) → Nat → List (Int × Int) → Int → Int → Int → Int → Int → (Bool → List (Int × Int) → O β) → (O β) → O β) (G : Nat) : Env β := ⟨[(92, VS92 N zq8), (79, VSF79 N zq21 G)], [], [(0, VLS79_0 N zq19 zq21 G)], [], ⟨[], [], [], []⟩⟩
def E79 (N : Nat) (G : Nat) : Env β := VE79 N (zj8 N) (zj21 N) (zj19 N) G
def zb18 (N : Nat) (zq8 : (a0 : Int) → (a1 : Int) → (a2 : Int) → (k : Int → O β) → O β) (self : Int → Int → List (Int × Int) → Int → Int → Int → (List (Int × Int) → Bool → O β) → O β)  (v0 : List (Int × Int)) (v1 : Int) (v2 : Int) (v3 : Int) (v4 : Int) (v5 : Int) (rec_ : List (Int × Int) → Int → Int → Int → Int → Int → O β) (k0 : Bool → List (Int × Int) → O β) (k1 : O β) : O β :=
(cond ((decide (v3 < (v0.length : Int))))
((gd ((decide (0 ≤ v3)))
((gd ((decide (v3 < (v0.length : Int))))
(zq8 v4 ((rd (0, 0) v0 v3).1) ((rd (0, 0) v0 v3).2) fun r8 =>
(cond (((bits .and .i64 r8 v1) == 0))
(rec_ v0 v1 v2 ((w64 (v3 + 1))) v4 v5)
(self v4 v5 v0 ((w64 (v3 + 1))) ((w64 (v1 - (bits .and .i64 v1 r8)))) ((w64 (v2 - 1))) fun r9 r10 =>
(cond r10
((gd ((decide (0 ≤ v3)))
((gd ((decide (v3 < (v0.length : Int))))
((gd ((decide ((((([] : List (Int × Int)) ++ [((rd (0, 0) v0 v3).1, (rd (0, 0) v0 v3).2)])).length + r9.length) * 16 ≤ 140737488355328)))
(k0 true (((([] : List (Int × Int)) ++ [((rd (0, 0) v0 v3).1, (rd (0, 0) v0 v3).2)]) ++ r9)))))))))
(rec_ v0 v1 v2 ((w64 (v3 + 1))) v4 v5)))))))))
(k1 ))
theorem zt18 (N : Nat) (self : Int → Int → List (Int × Int) → Int → Int → Int → (List (Int × Int) → Bool → O β) → O β)  (v0 : List (Int × Int)) (v1 : Int) (v2 : Int) (v3 : Int) (v4 : Int) (v5 : Int) (rec_ : List (Int × Int) → Int → Int → Int → Int → Int → O β) (k0 : Bool → List (Int × Int) → O β) (k1 : O β) : zj18 N self v0 v1 v2 v3 v4 v5 rec_ k0 k1 = zb18 N (zj8 N) self v0 v1 v2 v3 v4 v5 rec_ k0 k1 := by
  unfold zj18 zb18
  rfl
theorem vst79_0_0 (N : Nat) (zq8 : (a0 : Int) → (a1 : Int) → (a2 : Int) → (k : Int → O β) → O β) (zq21 : Nat → Int → Int → List (Int × Int) → Int → Int → Int → (List (Int × Int) → Bool → O β) → O β) (zq19 : (self : Int → Int → List (Int × Int) → Int → Int → Int → (List (Int × Int) → Bool → O β) → O β) → Nat → List (Int × Int) → Int → Int → Int → Int → Int → (Bool → List (Int × Int) → O β) → (O β) → O β) (G : Nat)  (v0 : List (Int × Int)) (v1 : Int) (v2 : Int) (v3 : Int) (v4 : Int) (v5 : Int) (rec_ : St → O β) (K : Exit → St → O β) :
    ev lay (VE79 N zq8 zq21 zq19 G) (retMask Tryz.f79) (lp Tryz.f79 0).body (lp Tryz.f79 0).ex ((lp Tryz.f79 0).lv (retMask Tryz.f79)) (h79_0_0  v0 v1 v2 v3 v4 v5) (nextR (fun s' => rec_ (s'.tidy ((lp Tryz.f79 0).lv (retMask Tryz.f79)))) K) = zb18 N zq8 (zq21 G)  v0 v1 v2 v3 v4 v5 (fun v0 v1 v2 v3 v4 v5 => rec_ (h79_0_0  v0 v1 v2 v3 v4 v5)) (fun y0 y1 => K .ret (x79_0_0_k0  y0 y1)) (K (.exit 0) (x79_0_0_k1  )) := by kernel_rfl
theorem st79_0_0 (N : Nat) (G : Nat)  (v0 : List (Int × Int)) (v1 : Int) (v2 : Int) (v3 : Int) (v4 : Int) (v5 : Int) (rec_ : St → O β) (K : Exit → St → O β) :
    ev lay (E79 N G) (retMask Tryz.f79) (lp Tryz.f79 0).body (lp Tryz.f79 0).ex ((lp Tryz.f79 0).lv (retMask Tryz.f79)) (h79_0_0  v0 v1 v2 v3 v4 v5) (nextR (fun s' => rec_ (s'.tidy ((lp Tryz.f79 0).lv (retMask Tryz.f79)))) K) = zj18 N (zj21 N G)  v0 v1 v2 v3 v4 v5 (fun v0 v1 v2 v3 v4 v5 => rec_ (h79_0_0  v0 v1 v2 v3 v4 v5)) (fun y0 y1 => K .ret (x79_0_0_k0  y0 y1)) (K (.exit 0) (x79_0_0_k1  )) := (vst79_0_0 N (zj8 N) (zj21 N) (zj19 N) G v0 v1 v2 v3 v4 v5 rec_ K).trans (zt18 N (zj21 N G)  v0 v1 v2 v3 v4 v5 (fun v0 v1 v2 v3 v4 v5 => rec_ (h79_0_0  v0 v1 v2 v3 v4 v5)) (fun y0 y1 => K .ret (x79_0_0_k0  y0 y1)) (K (.exit 0) (x79_0_0_k1  ))).symm
theorem ro79_0_0 (N : Nat) (G : Nat)  (K : Exit → St → O β) : ∀ (F : Nat) (v0 : List (Int × Int)) (v1 : Int) (v2 : Int) (v3 : Int) (v4 : Int) (v5 : Int), (lp Tryz.f79 0).rounds lay (E79 N G) (retMask Tryz.f79) F (h79_0_0  v0 v1 v2 v3 v4 v5) K = zj19 N (zj21 N G)  F v0 v1 v2 v3 v4 v5 (fun y0 y1 => K .ret (x79_0_0_k0  y0 y1)) (K (.exit 0) (x79_0_0_k1  )) := by
  intro F
  induction F with
  | zero => intros; rfl
  | succ F ih =>
    intros
    rw [rounds_next]
    refine (st79_0_0 N G  _ _ _ _ _ _ (fun s => (lp Tryz.f79 0).rounds lay (E79 N G) (retMask Tryz.f79) F s K) K).trans ?_
    simp only [ih]
    rfl
theorem lk79_0 (N : Nat) (G : Nat) : lookL (E79 (β := β) N G).loops (lp Tryz.f79 0).id = LS79_0 N G := by kernel_rfl
theorem rk79_0 (N : Nat) (G : Nat) : RoundsOK lay (E79 (β := β) N G) (retMask Tryz.f79) (lp Tryz.f79 0) := by
  intro s K r h
  rw [lk79_0] at h
  unfold LS79_0 VLS79_0 at h
  cases hb : shpSt (h79_0_0 [] 0 0 0 0 0) s with
  | true =>
    rw [hb, cond_true] at h
    exact ⟨N, by rw [← shpSt_ref hb, fl79_0_0 s]; exact (ro79_0_0 N G  K N (rPairs (rowV (oneA (vT (nx tund s.tmps 1))))) (intS (oneA (vT (nx tund s.tmps 3)))) (intS (oneA (vT (nx tund s.tmps 4)))) (intS (oneA (vT (nx tund s.tmps 12)))) (intS (nx .und (cellsB (nx .dead s.blks 0)) 0)) (intS (nx .und (cellsB (nx .dead s.blks 0)) 1))).trans h⟩
  | false =>
  rw [hb, cond_false] at h
  clear hb
  cases h
def zb20 (N : Nat) (zq19 : (self : Int → Int → List (Int × Int) → Int → Int → Int → (List (Int × Int) → Bool → O β) → O β) → Nat → List (Int × Int) → Int → Int → Int → Int → Int → (Bool → List (Int × Int) → O β) → (O β) → O β) (self : Int → Int → List (Int × Int) → Int → Int → Int → (List (Int × Int) → Bool → O β) → O β) (a0 : Int) (a1 : Int) (a2 : List (Int × Int)) (a3 : Int) (a4 : Int) (a5 : Int) (k : List (Int × Int) → Bool → O β) : O β :=
(cond ((a4 == 0))
(k (([] : List (Int × Int))) true)
((cond ((a5 == 0))
(k (([] : List (Int × Int))) false)
(zq19 self  N a2 a4 a5 a3 a0 a1 (fun e11_0 e11_1 =>
k e11_1 e11_0) (k (([] : List (Int × Int))) false)))))
theorem zt20 (N : Nat) (self : Int → Int → List (Int × Int) → Int → Int → Int → (List (Int × Int) → Bool → O β) → O β) (a0 : Int) (a1 : Int) (a2 : List (Int × Int)) (a3 : Int) (a4 : Int) (a5 : Int) (k : List (Int × Int) → Bool → O β) : zj20 N self a0 a1 a2 a3 a4 a5 k = zb20 N (zj19 N) self a0 a1 a2 a3 a4 a5 k := by
  unfold zj20 zb20
  rfl
theorem ve79_0 (N : Nat) (zq8 : (a0 : Int) → (a1 : Int) → (a2 : Int) → (k : Int → O β) → O β) (zq21 : Nat → Int → Int → List (Int × Int) → Int → Int → Int → (List (Int × Int) → Bool → O β) → O β) (zq19 : (self : Int → Int → List (Int × Int) → Int → Int → Int → (List (Int × Int) → Bool → O β) → O β) → Nat → List (Int × Int) → Int → Int → Int → Int → Int → (Bool → List (Int × Int) → O β) → (O β) → O β) (G : Nat)  (a0 : Int) (a1 : Int) (a2 : List (Int × Int)) (a3 : Int) (a4 : Int) (a5 : Int) (K : TV → O β) : evFn lay (VE79 N zq8 zq21 zq19 G) Tryz.f79 [.v (.agg [.int .i64 a0, .int .i64 a1]), .v (.one (.sl 50 (.pairs a2))), .v (.one (.int .i64 a3)), .v (.one (.int .i64 a4)), .v (.one (.int .i64 a5))] K = zb20 N zq19 (zq21 G) a0 a1 a2 a3 a4 a5 (fun z6 z7 => K (.tup [.one (.sl 50 (.pairs z6)), .one (.bool z7)])) := by kernel_rfl
theorem e79_0 (N : Nat) (G : Nat)  (a0 : Int) (a1 : Int) (a2 : List (Int × Int)) (a3 : Int) (a4 : Int) (a5 : Int) (K : TV → O β) : evFn lay (E79 N G) Tryz.f79 [.v (.agg [.int .i64 a0, .int .i64 a1]), .v (.one (.sl 50 (.pairs a2))), .v (.one (.int .i64 a3)), .v (.one (.int .i64 a4)), .v (.one (.int .i64 a5))] K = zj21 N (G + 1) a0 a1 a2 a3 a4 a5 (fun z6 z7 => K (.tup [.one (.sl 50 (.pairs z6)), .one (.bool z7)])) := (ve79_0 N (zj8 N) (zj21 N) (zj19 N) G a0 a1 a2 a3 a4 a5 K).trans (zt20 N (zj21 N G) a0 a1 a2 a3 a4 a5 (fun z6 z7 => K (.tup [.one (.sl 50 (.pairs z6)), .one (.bool z7)]))).symm
theorem z79 (N : Nat) : ∀ args K r, SF79 (β := β) N 0 args K = some r → (none : O β) = some r := by
  intro args K r h
  unfold SF79 VSF79 at h
  split at h <;> exact h
theorem of79 (N : Nat) : ∀ G, SpecOK (β := β) inv Tryz.prog 79 (SF79 N G) := by
  intro G
  induction G with
  | zero => exact s_zero Tryz.func79 (by kernel_rfl) (z79 N)
  | succ G ih =>
    refine spec_of lay_ok mixed (E := E79 N G) (specs_loops (specs_cons (o92 N) (specs_cons ih specs_nil))) muts_nil gs_nil Tryz.func79 (by kernel_rfl) 1 (by kernel_rfl) ⟨trivial, rk79_0 N G⟩ fun args K r h => ?_
    unfold SF79 VSF79 at h
    split at h
    · exact (e79_0 N G _ _ _ _ _ _ _).trans h
    · cases h
theorem o79 (N : Nat) : SpecOK (β := β) inv Tryz.prog 79 (S79 N) := of79 N N
end Go.Proofs.YtddflpokemgnmaaGreatDoor
