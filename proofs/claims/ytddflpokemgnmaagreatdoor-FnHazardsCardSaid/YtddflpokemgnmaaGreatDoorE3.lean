/- The functions that the claims reach answer as their texts do. -/
import Derived.Test.YtddflpokemgnmaaGreatDoorE2
namespace Go.Proofs.YtddflpokemgnmaaGreatDoor
open Go.Rv
set_option maxRecDepth 100000
set_option maxHeartbeats 2000000
set_option linter.unusedVariables false
variable {β : Type}
def VS66 (N : Nat) (zq47 : (a0 : Int) → (a1 : List Int) → (a2 : Int) → (a3 : Int) → (k0 : Int → Int → List Int → Int → Int → O β) → O β) : GSpec β := fun args bl K => match args, bl with
  | [.v (.one (.ptr 0 0)), .v (.one (.int .i64 a0))], [.pcells 0 80 [.sl 5 (.ints .u8 a1), .int .i64 a2, .int .i64 a3]] => zq47 a0 a1 a2 a3 (fun y0 y1 y2 y3 y4 => K (.v (.agg [.int .i64 y0, .int .i64 y1])) [.pcells 0 80 [.sl 5 (.ints .u8 y2), .int .i64 y3, .int .i64 y4]])
  | _, _ => none
def S66 (N : Nat) : GSpec β := VS66 N (zj47 N)
def VE66 (N : Nat) (zq27 : (a0 : Int) → (a1 : List Int) → (a2 : Int) → (a3 : Int) → (k0 : Int → List Int → Int → Int → O β) → O β) (zq46 : (a0 : Int) → (a1 : List Int) → (a2 : Int) → (a3 : Int) → (k0 : Bool → List Int → Int → Int → O β) → O β) (zq44 : (a0 : List Int) → (a1 : Int) → (a2 : Int) → (a3 : List Int) → (k0 : Int → List Int → Int → Int → List Int → O β) → O β) : Env β := ⟨[], [], [], [(43, VS43 N zq27), (65, VS65 N zq46), (76, VS76 N zq44)], ⟨[], [], [], []⟩⟩
def E66 (N : Nat) : Env β := VE66 N (zj27 N) (zj46 N) (zj44 N)
def zb47 (N : Nat) (zq27 : (a0 : Int) → (a1 : List Int) → (a2 : Int) → (a3 : Int) → (k0 : Int → List Int → Int → Int → O β) → O β) (zq46 : (a0 : Int) → (a1 : List Int) → (a2 : Int) → (a3 : Int) → (k0 : Bool → List Int → Int → Int → O β) → O β) (zq44 : (a0 : List Int) → (a1 : Int) → (a2 : Int) → (a3 : List Int) → (k0 : Int → List Int → Int → Int → List Int → O β) → O β) (a0 : Int) (a1 : List Int) (a2 : Int) (a3 : Int) (k0 : Int → Int → List Int → Int → Int → O β) : O β :=
(gd ((decide (0 ≤ a0)))
(zq27 ((shlI .i64 1 a0)) a1 a2 a3 (fun r41_0 r41_1 r41_2 r41_3 =>
(gd ((decide (0 ≤ a0)))
(zq27 ((shlI .i64 1 a0)) r41_1 r41_2 r41_3 (fun r42_0 r42_1 r42_2 r42_3 =>
zq46 12 r42_1 r42_2 r42_3 (fun r44_0 r44_1 r44_2 r44_3 =>
(cond r44_0
(zq44 r44_1 r44_2 r44_3 (((((([] : List Int) ++ [(-1)]) ++ [1]) ++ [32]) ++ [9223372036854775807])) (fun r45_0 r45_1 r45_2 r45_3 r45_4 =>
k0 r41_0 r45_0 r45_1 r45_2 r45_3))
(k0 r41_0 ((bits .and .i64 r41_0 r42_0)) r44_1 r44_2 r44_3)))))))))
theorem zt47 (N : Nat) (a0 : Int) (a1 : List Int) (a2 : Int) (a3 : Int) (k0 : Int → Int → List Int → Int → Int → O β) : zj47 N a0 a1 a2 a3 k0 = zb47 N (zj27 N) (zj46 N) (zj44 N) a0 a1 a2 a3 k0 := by
  unfold zj47 zb47
  rfl
theorem ve66_0 (N : Nat) (zq27 : (a0 : Int) → (a1 : List Int) → (a2 : Int) → (a3 : Int) → (k0 : Int → List Int → Int → Int → O β) → O β) (zq46 : (a0 : Int) → (a1 : List Int) → (a2 : Int) → (a3 : Int) → (k0 : Bool → List Int → Int → Int → O β) → O β) (zq44 : (a0 : List Int) → (a1 : Int) → (a2 : Int) → (a3 : List Int) → (k0 : Int → List Int → Int → Int → List Int → O β) → O β) (a0 : Int) (a1 : List Int) (a2 : Int) (a3 : Int) (K : TV → List Blk → O β) : evFnG lay (VE66 N zq27 zq46 zq44) Tryz.f66 [.v (.one (.ptr 0 0)), .v (.one (.int .i64 a0))] [.pcells 0 80 [.sl 5 (.ints .u8 a1), .int .i64 a2, .int .i64 a3]] K = zb47 N zq27 zq46 zq44 a0 a1 a2 a3 (fun y0 y1 y2 y3 y4 => K (.v (.agg [.int .i64 y0, .int .i64 y1])) [.pcells 0 80 [.sl 5 (.ints .u8 y2), .int .i64 y3, .int .i64 y4]]) := by kernel_rfl
theorem e66_0 (N : Nat) (a0 : Int) (a1 : List Int) (a2 : Int) (a3 : Int) (K : TV → List Blk → O β) : evFnG lay (E66 N) Tryz.f66 [.v (.one (.ptr 0 0)), .v (.one (.int .i64 a0))] [.pcells 0 80 [.sl 5 (.ints .u8 a1), .int .i64 a2, .int .i64 a3]] K = zj47 N a0 a1 a2 a3 (fun y0 y1 y2 y3 y4 => K (.v (.agg [.int .i64 y0, .int .i64 y1])) [.pcells 0 80 [.sl 5 (.ints .u8 y2), .int .i64 y3, .int .i64 y4]]) := (ve66_0 N (zj27 N) (zj46 N) (zj44 N) a0 a1 a2 a3 K).trans (zt47 N a0 a1 a2 a3 (fun y0 y1 y2 y3 y4 => K (.v (.agg [.int .i64 y0, .int .i64 y1])) [.pcells 0 80 [.sl 5 (.ints .u8 y2), .int .i64 y3, .int .i64 y4]])).symm
theorem o66 (N : Nat) : GOK (β := β) inv Tryz.prog 66 (S66 N) := by
  refine g_of lay_ok mixed (E := E66 N) (specs_loops specs_nil) muts_nil (gs_cons (o43 N) (gs_cons (o65 N) (gs_cons (o76 N) gs_nil))) Tryz.func66 (by kernel_rfl) 0 (by kernel_rfl) trivial fun args bl K r h => ?_
  unfold S66 VS66 at h
  split at h
  · exact (e66_0 N _ _ _ _ _).trans h
  · cases h
def VS42 (N : Nat) (zq50 : (a0 : List Int) → (a1 : Int) → (a2 : Int) → (k0 : Int → List Int → Int → Int → List (Int × Int) → O β) → O β) : GSpec β := fun args bl K => match args, bl with
  | [.v (.one (.ptr 0 0))], [.pcells 0 80 [.sl 5 (.ints .u8 a0), .int .i64 a1, .int .i64 a2]] => zq50 a0 a1 a2 (fun y0 y1 y2 y3 y4 => K (.tup [.one (.int .i64 y0), .one (.row 1)]) [.pcells 0 80 [.sl 5 (.ints .u8 y1), .int .i64 y2, .int .i64 y3], .row 50 (.pairs y4)])
  | _, _ => none
def S42 (N : Nat) : GSpec β := VS42 N (zj50 N)
def h42_0_0  (v0 : Int) (v1 : List Int) (v2 : Int) (v3 : Int) (v4 : List (Int × Int)) : St := ⟨.v (.one (.ptr 0 0)) :: tund :: tund :: tund :: tund :: .v (.one (.row 1)) :: tund :: tund :: .v (.one (.int .i64 v0)) :: tund :: tund :: tund :: tund :: tund :: tund :: tund :: tund :: tund :: tund :: tund :: tund :: tund :: tund :: tund :: tund :: tund :: tund :: tund :: tund :: tund :: tund :: tund :: tund :: tund :: tund :: tund :: tund :: tund :: tund :: [], [.pcells 0 80 [.sl 5 (.ints .u8 v1), .int .i64 v2, .int .i64 v3], .row 50 (.pairs v4)]⟩
def x42_0_0_k0  (y0 : List Int) (y1 : Int) (y2 : Int) (y3 : List (Int × Int)) : St := ⟨tund :: tund :: tund :: tund :: tund :: .v (.one (.row 1)) :: tund :: tund :: tund :: tund :: tund :: tund :: tund :: tund :: tund :: tund :: tund :: tund :: tund :: tund :: tund :: tund :: tund :: tund :: tund :: tund :: tund :: tund :: tund :: tund :: tund :: tund :: tund :: tund :: tund :: tund :: tund :: tund :: tund :: [], [.pcells 0 80 [.sl 5 (.ints .u8 y0), .int .i64 y1, .int .i64 y2], .row 50 (.pairs y3)]⟩
theorem fl42_0_0 (s : St) : refSt (h42_0_0 0 [] 0 0 []) s = h42_0_0 (intS (oneA (vT (nx tund s.tmps 8)))) (rInts (rowV (nx .und (cellsB (nx .dead s.blks 0)) 0))) (intS (nx .und (cellsB (nx .dead s.blks 0)) 1)) (intS (nx .und (cellsB (nx .dead s.blks 0)) 2)) (rPairs (rowB_ (nx .dead s.blks 1))) := by kernel_rfl
def VLS42_0 (N : Nat) (zq49 : Nat → Int → List Int → Int → Int → List (Int × Int) → (List Int → Int → Int → List (Int × Int) → O β) → O β) : LSpec β := fun s K => cond (shpSt (h42_0_0 0 [] 0 0 []) s) ((fun (v0 : Int) (v1 : List Int) (v2 : Int) (v3 : Int) (v4 : List (Int × Int)) => zq49  N v0 v1 v2 v3 v4 (fun y0 y1 y2 y3 => K (.exit 0) (x42_0_0_k0  y0 y1 y2 y3))) (intS (oneA (vT (nx tund s.tmps 8)))) (rInts (rowV (nx .und (cellsB (nx .dead s.blks 0)) 0))) (intS (nx .und (cellsB (nx .dead s.blks 0)) 1)) (intS (nx .und (cellsB (nx .dead s.blks 0)) 2)) (rPairs (rowB_ (nx .dead s.blks 1)))) (none)
def LS42_0 (N : Nat) : LSpec β := VLS42_0 N (zj49 N)
def VE42 (N : Nat) (zq25 : (a0 : Int) → (a1 : Int) → (k : List (Int × Int) → Bool → O β) → O β) (zq49 : Nat → Int → List Int → Int → Int → List (Int × Int) → (List Int → Int → Int → List (Int × Int) → O β) → O β) (zq45 : (a0 : List Int) → (a1 : Int) → (a2 : Int) → (k0 : Int → Int → List Int → Int → Int → O β) → O β) (zq27 : (a0 : Int) → (a1 : List Int) → (a2 : Int) → (a3 : Int) → (k0 : Int → List Int → Int → Int → O β) → O β) (zq47 : (a0 : Int) → (a1 : List Int) → (a2 : Int) → (a3 : Int) → (k0 : Int → Int → List Int → Int → Int → O β) → O β) (zq46 : (a0 : Int) → (a1 : List Int) → (a2 : Int) → (a3 : Int) → (k0 : Bool → List Int → Int → Int → O β) → O β) : Env β := ⟨[(64, VS64 N zq25)], [], [(0, VLS42_0 N zq49)], [(63, VS63 N zq45), (43, VS43 N zq27), (66, VS66 N zq47), (65, VS65 N zq46)], ⟨[], [], [], []⟩⟩
def E42 (N : Nat) : Env β := VE42 N (zj25 N) (zj49 N) (zj45 N) (zj27 N) (zj47 N) (zj46 N)
def zb48 (N : Nat) (zq47 : (a0 : Int) → (a1 : List Int) → (a2 : Int) → (a3 : Int) → (k0 : Int → Int → List Int → Int → Int → O β) → O β)  (v0 : Int) (v1 : List Int) (v2 : Int) (v3 : Int) (v4 : List (Int × Int)) (rec_ : Int → List Int → Int → Int → List (Int × Int) → O β) (k0 : List Int → Int → Int → List (Int × Int) → O β) : O β :=
(cond ((decide (v0 > 0)))
(zq47 4 v1 v2 v3 (fun r46_0 r46_1 r46_2 r46_3 r46_4 =>
(gd ((decide ((v4.length + ((([] : List (Int × Int)) ++ [(r46_0, r46_1)])).length) * 16 ≤ 140737488355328)))
(rec_ ((w64 (v0 - 1))) r46_2 r46_3 r46_4 ((v4 ++ (([] : List (Int × Int)) ++ [(r46_0, r46_1)])))))))
(k0 v1 v2 v3 v4))
theorem zt48 (N : Nat)  (v0 : Int) (v1 : List Int) (v2 : Int) (v3 : Int) (v4 : List (Int × Int)) (rec_ : Int → List Int → Int → Int → List (Int × Int) → O β) (k0 : List Int → Int → Int → List (Int × Int) → O β) : zj48 N v0 v1 v2 v3 v4 rec_ k0 = zb48 N (zj47 N) v0 v1 v2 v3 v4 rec_ k0 := by
  unfold zj48 zb48
  rfl
theorem vst42_0_0 (N : Nat) (zq25 : (a0 : Int) → (a1 : Int) → (k : List (Int × Int) → Bool → O β) → O β) (zq49 : Nat → Int → List Int → Int → Int → List (Int × Int) → (List Int → Int → Int → List (Int × Int) → O β) → O β) (zq45 : (a0 : List Int) → (a1 : Int) → (a2 : Int) → (k0 : Int → Int → List Int → Int → Int → O β) → O β) (zq27 : (a0 : Int) → (a1 : List Int) → (a2 : Int) → (a3 : Int) → (k0 : Int → List Int → Int → Int → O β) → O β) (zq47 : (a0 : Int) → (a1 : List Int) → (a2 : Int) → (a3 : Int) → (k0 : Int → Int → List Int → Int → Int → O β) → O β) (zq46 : (a0 : Int) → (a1 : List Int) → (a2 : Int) → (a3 : Int) → (k0 : Bool → List Int → Int → Int → O β) → O β)  (v0 : Int) (v1 : List Int) (v2 : Int) (v3 : Int) (v4 : List (Int × Int)) (rec_ : St → O β) (K : Exit → St → O β) :
    ev lay (VE42 N zq25 zq49 zq45 zq27 zq47 zq46) (retMask Tryz.f42) (lp Tryz.f42 0).body (lp Tryz.f42 0).ex ((lp Tryz.f42 0).lv (retMask Tryz.f42)) (h42_0_0  v0 v1 v2 v3 v4) (nextR (fun s' => rec_ (s'.tidy ((lp Tryz.f42 0).lv (retMask Tryz.f42)))) K) = zb48 N zq47  v0 v1 v2 v3 v4 (fun v0 v1 v2 v3 v4 => rec_ (h42_0_0  v0 v1 v2 v3 v4)) (fun y0 y1 y2 y3 => K (.exit 0) (x42_0_0_k0  y0 y1 y2 y3)) := by kernel_rfl
theorem st42_0_0 (N : Nat)  (v0 : Int) (v1 : List Int) (v2 : Int) (v3 : Int) (v4 : List (Int × Int)) (rec_ : St → O β) (K : Exit → St → O β) :
    ev lay (E42 N) (retMask Tryz.f42) (lp Tryz.f42 0).body (lp Tryz.f42 0).ex ((lp Tryz.f42 0).lv (retMask Tryz.f42)) (h42_0_0  v0 v1 v2 v3 v4) (nextR (fun s' => rec_ (s'.tidy ((lp Tryz.f42 0).lv (retMask Tryz.f42)))) K) = zj48 N  v0 v1 v2 v3 v4 (fun v0 v1 v2 v3 v4 => rec_ (h42_0_0  v0 v1 v2 v3 v4)) (fun y0 y1 y2 y3 => K (.exit 0) (x42_0_0_k0  y0 y1 y2 y3)) := (vst42_0_0 N (zj25 N) (zj49 N) (zj45 N) (zj27 N) (zj47 N) (zj46 N) v0 v1 v2 v3 v4 rec_ K).trans (zt48 N  v0 v1 v2 v3 v4 (fun v0 v1 v2 v3 v4 => rec_ (h42_0_0  v0 v1 v2 v3 v4)) (fun y0 y1 y2 y3 => K (.exit 0) (x42_0_0_k0  y0 y1 y2 y3))).symm
theorem ro42_0_0 (N : Nat)  (K : Exit → St → O β) : ∀ (F : Nat) (v0 : Int) (v1 : List Int) (v2 : Int) (v3 : Int) (v4 : List (Int × Int)), (lp Tryz.f42 0).rounds lay (E42 N) (retMask Tryz.f42) F (h42_0_0  v0 v1 v2 v3 v4) K = zj49 N  F v0 v1 v2 v3 v4 (fun y0 y1 y2 y3 => K (.exit 0) (x42_0_0_k0  y0 y1 y2 y3)) := by
  intro F
  induction F with
  | zero => intros; rfl
  | succ F ih =>
    intros
    rw [rounds_next]
    refine (st42_0_0 N  _ _ _ _ _ (fun s => (lp Tryz.f42 0).rounds lay (E42 N) (retMask Tryz.f42) F s K) K).trans ?_
    simp only [ih]
    rfl
theorem lk42_0 (N : Nat) : lookL (E42 (β := β) N).loops (lp Tryz.f42 0).id = LS42_0 N := by kernel_rfl
theorem rk42_0 (N : Nat) : RoundsOK lay (E42 (β := β) N) (retMask Tryz.f42) (lp Tryz.f42 0) := by
  intro s K r h
  rw [lk42_0] at h
  unfold LS42_0 VLS42_0 at h
  cases hb : shpSt (h42_0_0 0 [] 0 0 []) s with
  | true =>
    rw [hb, cond_true] at h
    exact ⟨N, by rw [← shpSt_ref hb, fl42_0_0 s]; exact (ro42_0_0 N  K N (intS (oneA (vT (nx tund s.tmps 8)))) (rInts (rowV (nx .und (cellsB (nx .dead s.blks 0)) 0))) (intS (nx .und (cellsB (nx .dead s.blks 0)) 1)) (intS (nx .und (cellsB (nx .dead s.blks 0)) 2)) (rPairs (rowB_ (nx .dead s.blks 1)))).trans h⟩
  | false =>
  rw [hb, cond_false] at h
  clear hb
  cases h
def zb50 (N : Nat) (zq45 : (a0 : List Int) → (a1 : Int) → (a2 : Int) → (k0 : Int → Int → List Int → Int → Int → O β) → O β) (zq25 : (a0 : Int) → (a1 : Int) → (k : List (Int × Int) → Bool → O β) → O β) (zq27 : (a0 : Int) → (a1 : List Int) → (a2 : Int) → (a3 : Int) → (k0 : Int → List Int → Int → Int → O β) → O β) (zq49 : Nat → Int → List Int → Int → Int → List (Int × Int) → (List Int → Int → Int → List (Int × Int) → O β) → O β) (zq46 : (a0 : Int) → (a1 : List Int) → (a2 : Int) → (a3 : Int) → (k0 : Bool → List Int → Int → Int → O β) → O β) (a0 : List Int) (a1 : Int) (a2 : Int) (k0 : Int → List Int → Int → Int → List (Int × Int) → O β) : O β :=
zq45 a0 a1 a2 (fun r37_0 r37_1 r37_2 r37_3 r37_4 =>
zq25 r37_0 r37_1 fun r38 r39 =>
(cond (!r39)
(zq27 4 r37_2 r37_3 r37_4 (fun r40_0 r40_1 r40_2 r40_3 =>
zq49  N r40_0 r40_1 r40_2 r40_3 (([] : List (Int × Int))) (fun e47_0 e47_1 e47_2 e47_3 =>
k0 4 e47_0 e47_1 e47_2 e47_3)))
(zq46 4 r37_2 r37_3 r37_4 (fun r48_0 r48_1 r48_2 r48_3 =>
(cond r48_0
(zq27 4 r48_1 r48_2 r48_3 (fun r49_0 r49_1 r49_2 r49_3 =>
zq49  N r49_0 r49_1 r49_2 r49_3 (([] : List (Int × Int))) (fun e50_0 e50_1 e50_2 e50_3 =>
k0 4 e50_0 e50_1 e50_2 e50_3)))
(k0 ((mnI 6 r37_0)) r48_1 r48_2 r48_3 r38))))))
theorem zt50 (N : Nat) (a0 : List Int) (a1 : Int) (a2 : Int) (k0 : Int → List Int → Int → Int → List (Int × Int) → O β) : zj50 N a0 a1 a2 k0 = zb50 N (zj45 N) (zj25 N) (zj27 N) (zj49 N) (zj46 N) a0 a1 a2 k0 := by
  unfold zj50 zb50
  rfl
theorem ve42_0 (N : Nat) (zq25 : (a0 : Int) → (a1 : Int) → (k : List (Int × Int) → Bool → O β) → O β) (zq49 : Nat → Int → List Int → Int → Int → List (Int × Int) → (List Int → Int → Int → List (Int × Int) → O β) → O β) (zq45 : (a0 : List Int) → (a1 : Int) → (a2 : Int) → (k0 : Int → Int → List Int → Int → Int → O β) → O β) (zq27 : (a0 : Int) → (a1 : List Int) → (a2 : Int) → (a3 : Int) → (k0 : Int → List Int → Int → Int → O β) → O β) (zq47 : (a0 : Int) → (a1 : List Int) → (a2 : Int) → (a3 : Int) → (k0 : Int → Int → List Int → Int → Int → O β) → O β) (zq46 : (a0 : Int) → (a1 : List Int) → (a2 : Int) → (a3 : Int) → (k0 : Bool → List Int → Int → Int → O β) → O β) (a0 : List Int) (a1 : Int) (a2 : Int) (K : TV → List Blk → O β) : evFnG lay (VE42 N zq25 zq49 zq45 zq27 zq47 zq46) Tryz.f42 [.v (.one (.ptr 0 0))] [.pcells 0 80 [.sl 5 (.ints .u8 a0), .int .i64 a1, .int .i64 a2]] K = zb50 N zq45 zq25 zq27 zq49 zq46 a0 a1 a2 (fun y0 y1 y2 y3 y4 => K (.tup [.one (.int .i64 y0), .one (.row 1)]) [.pcells 0 80 [.sl 5 (.ints .u8 y1), .int .i64 y2, .int .i64 y3], .row 50 (.pairs y4)]) := by kernel_rfl
theorem e42_0 (N : Nat) (a0 : List Int) (a1 : Int) (a2 : Int) (K : TV → List Blk → O β) : evFnG lay (E42 N) Tryz.f42 [.v (.one (.ptr 0 0))] [.pcells 0 80 [.sl 5 (.ints .u8 a0), .int .i64 a1, .int .i64 a2]] K = zj50 N a0 a1 a2 (fun y0 y1 y2 y3 y4 => K (.tup [.one (.int .i64 y0), .one (.row 1)]) [.pcells 0 80 [.sl 5 (.ints .u8 y1), .int .i64 y2, .int .i64 y3], .row 50 (.pairs y4)]) := (ve42_0 N (zj25 N) (zj49 N) (zj45 N) (zj27 N) (zj47 N) (zj46 N) a0 a1 a2 K).trans (zt50 N a0 a1 a2 (fun y0 y1 y2 y3 y4 => K (.tup [.one (.int .i64 y0), .one (.row 1)]) [.pcells 0 80 [.sl 5 (.ints .u8 y1), .int .i64 y2, .int .i64 y3], .row 50 (.pairs y4)])).symm
theorem o42 (N : Nat) : GOK (β := β) inv Tryz.prog 42 (S42 N) := by
  refine g_of lay_ok mixed (E := E42 N) (specs_loops (specs_cons (o64 N) specs_nil)) muts_nil (gs_cons (o63 N) (gs_cons (o43 N) (gs_cons (o66 N) (gs_cons (o65 N) gs_nil)))) Tryz.func42 (by kernel_rfl) 1 (by kernel_rfl) ⟨trivial, rk42_0 N⟩ fun args bl K r h => ?_
  unfold S42 VS42 at h
  split at h
  · exact (e42_0 N _ _ _ _).trans h
  · cases h
def VS24 (N : Nat) (zq51 : (a0 : List Int) → (k : Int → List (Int × Int) → O β) → O β) : Rv.Spec β := fun args K => match args with
  | [.v (.one (.sl 5 (.ints .u8 a0)))] => zq51 a0 (fun z1 z2 => K (.tup [.one (.int .i64 z1), .one (.sl 50 (.pairs z2))]))
  | _ => none
def S24 (N : Nat) : Rv.Spec β := VS24 N (zj51 N)
def VE24 (N : Nat) (zq3 : (a0 : List Int) → (k0 : List Int → Int → Int → O β) → O β) (zq50 : (a0 : List Int) → (a1 : Int) → (a2 : Int) → (k0 : Int → List Int → Int → Int → List (Int × Int) → O β) → O β) : Env β := ⟨[], [], [], [(41, VS41 N zq3), (42, VS42 N zq50)], ⟨[], [], [], []⟩⟩
def E24 (N : Nat) : Env β := VE24 N (zj3 N) (zj50 N)
def zb51 (N : Nat) (zq3 : (a0 : List Int) → (k0 : List Int → Int → Int → O β) → O β) (zq50 : (a0 : List Int) → (a1 : Int) → (a2 : Int) → (k0 : Int → List Int → Int → Int → List (Int × Int) → O β) → O β) (a0 : List Int) (k : Int → List (Int × Int) → O β) : O β :=
zq3 a0 (fun r3_0 r3_1 r3_2 =>
zq50 r3_0 r3_1 r3_2 (fun r4_0 r4_1 r4_2 r4_3 r4_4 =>
k r4_0 r4_4))
theorem zt51 (N : Nat) (a0 : List Int) (k : Int → List (Int × Int) → O β) : zj51 N a0 k = zb51 N (zj3 N) (zj50 N) a0 k := by
  unfold zj51 zb51
  rfl
theorem ve24_0 (N : Nat) (zq3 : (a0 : List Int) → (k0 : List Int → Int → Int → O β) → O β) (zq50 : (a0 : List Int) → (a1 : Int) → (a2 : Int) → (k0 : Int → List Int → Int → Int → List (Int × Int) → O β) → O β)  (a0 : List Int) (K : TV → O β) : evFn lay (VE24 N zq3 zq50) Tryz.f24 [.v (.one (.sl 5 (.ints .u8 a0)))] K = zb51 N zq3 zq50 a0 (fun z1 z2 => K (.tup [.one (.int .i64 z1), .one (.sl 50 (.pairs z2))])) := by kernel_rfl
theorem e24_0 (N : Nat)  (a0 : List Int) (K : TV → O β) : evFn lay (E24 N) Tryz.f24 [.v (.one (.sl 5 (.ints .u8 a0)))] K = zj51 N a0 (fun z1 z2 => K (.tup [.one (.int .i64 z1), .one (.sl 50 (.pairs z2))])) := (ve24_0 N (zj3 N) (zj50 N) a0 K).trans (zt51 N a0 (fun z1 z2 => K (.tup [.one (.int .i64 z1), .one (.sl 50 (.pairs z2))]))).symm
theorem o24 (N : Nat) : SpecOK (β := β) inv Tryz.prog 24 (S24 N) := by
  refine spec_of lay_ok mixed (E := E24 N) (specs_loops specs_nil) muts_nil (gs_cons (o41 N) (gs_cons (o42 N) gs_nil)) Tryz.func24 (by kernel_rfl) 0 (by kernel_rfl) trivial fun args K r h => ?_
  unfold S24 VS24 at h
  split at h
  · exact (e24_0 N _ _).trans h
  · cases h
def VS5 (N : Nat) (zq52 : (a0 : List Int) → (k : Int → List (Int × Int) → O β) → O β) : Rv.Spec β := fun args K => match args with
  | [.v (.one (.sl 5 (.ints .u8 a0)))] => zq52 a0 (fun z1 z2 => K (.tup [.one (.int .i64 z1), .one (.sl 50 (.pairs z2))]))
  | _ => none
def S5 (N : Nat) : Rv.Spec β := VS5 N (zj52 N)
def VE5 (N : Nat) (zq51 : (a0 : List Int) → (k : Int → List (Int × Int) → O β) → O β) : Env β := ⟨[(24, VS24 N zq51)], [], [], [], ⟨[], [], [], []⟩⟩
def E5 (N : Nat) : Env β := VE5 N (zj51 N)
def zb52 (N : Nat) (zq51 : (a0 : List Int) → (k : Int → List (Int × Int) → O β) → O β) (a0 : List Int) (k : Int → List (Int × Int) → O β) : O β :=
zq51 a0 fun r3 r4 =>
k r3 r4
theorem zt52 (N : Nat) (a0 : List Int) (k : Int → List (Int × Int) → O β) : zj52 N a0 k = zb52 N (zj51 N) a0 k := by
  unfold zj52 zb52
  rfl
theorem ve5_0 (N : Nat) (zq51 : (a0 : List Int) → (k : Int → List (Int × Int) → O β) → O β)  (a0 : List Int) (K : TV → O β) : evFn lay (VE5 N zq51) Tryz.f5 [.v (.one (.sl 5 (.ints .u8 a0)))] K = zb52 N zq51 a0 (fun z1 z2 => K (.tup [.one (.int .i64 z1), .one (.sl 50 (.pairs z2))])) := by kernel_rfl
theorem e5_0 (N : Nat)  (a0 : List Int) (K : TV → O β) : evFn lay (E5 N) Tryz.f5 [.v (.one (.sl 5 (.ints .u8 a0)))] K = zj52 N a0 (fun z1 z2 => K (.tup [.one (.int .i64 z1), .one (.sl 50 (.pairs z2))])) := (ve5_0 N (zj51 N) a0 K).trans (zt52 N a0 (fun z1 z2 => K (.tup [.one (.int .i64 z1), .one (.sl 50 (.pairs z2))]))).symm
theorem o5 (N : Nat) : SpecOK (β := β) inv Tryz.prog 5 (S5 N) := by
  refine spec_of lay_ok mixed (E := E5 N) (specs_loops (specs_cons (o24 N) specs_nil)) muts_nil gs_nil Tryz.func5 (by kernel_rfl) 0 (by kernel_rfl) trivial fun args K r h => ?_
  unfold S5 VS5 at h
  split at h
  · exact (e5_0 N _ _).trans h
  · cases h
def VS38 (N : Nat) (zq53 : (a0 : Int) → (k : Bool → O β) → O β) : Rv.Spec β := fun args K => match args with
  | [.v (.one (.int .i64 a0))] => zq53 a0 (fun z1 => K (.v (.one (.bool z1))))
  | _ => none
def S38 (N : Nat) : Rv.Spec β := VS38 N (zj53 N)
def VE38 (N : Nat) : Env β := ⟨[], [], [], [], ⟨[], [], [], []⟩⟩
def E38 (N : Nat) : Env β := VE38 N
def zb53 (N : Nat) (a0 : Int) (k : Bool → O β) : O β :=
(cond ((decide (a0 ≥ 0)))
(k ((decide (a0 ≤ 5))))
(k false))
theorem zt53 (N : Nat) (a0 : Int) (k : Bool → O β) : zj53 N a0 k = zb53 N a0 k := by
  unfold zj53 zb53
  rfl
theorem ve38_0 (N : Nat)  (a0 : Int) (K : TV → O β) : evFn lay (VE38 N) Tryz.f38 [.v (.one (.int .i64 a0))] K = zb53 N a0 (fun z1 => K (.v (.one (.bool z1)))) := by kernel_rfl
theorem e38_0 (N : Nat)  (a0 : Int) (K : TV → O β) : evFn lay (E38 N) Tryz.f38 [.v (.one (.int .i64 a0))] K = zj53 N a0 (fun z1 => K (.v (.one (.bool z1)))) := (ve38_0 N a0 K).trans (zt53 N a0 (fun z1 => K (.v (.one (.bool z1))))).symm
theorem o38 (N : Nat) : SpecOK (β := β) inv Tryz.prog 38 (S38 N) := by
  refine spec_of lay_ok mixed (E := E38 N) (specs_loops specs_nil) muts_nil gs_nil Tryz.func38 (by kernel_rfl) 0 (by kernel_rfl) trivial fun args K r h => ?_
  unfold S38 VS38 at h
  split at h
  · exact (e38_0 N _ _).trans h
  · cases h
def VS36 (N : Nat) (zq54 : (a0 : Int) → (a1 : Int) → (k : Bool → O β) → O β) : Rv.Spec β := fun args K => match args with
  | [.v (.one (.int .i64 a0)), .v (.one (.int .i64 a1))] => zq54 a0 a1 (fun z2 => K (.v (.one (.bool z2))))
  | _ => none
def S36 (N : Nat) : Rv.Spec β := VS36 N (zj54 N)
def VE36 (N : Nat) : Env β := ⟨[], [], [], [], ⟨[], [], [], []⟩⟩
def E36 (N : Nat) : Env β := VE36 N
def zb54 (N : Nat) (a0 : Int) (a1 : Int) (k : Bool → O β) : O β :=
(cond ((decide (a1 ≥ 0)))
((gd ((decide (0 ≤ a0)))
(k ((decide (a1 < (shlI .i64 1 a0)))))))
(k false))
theorem zt54 (N : Nat) (a0 : Int) (a1 : Int) (k : Bool → O β) : zj54 N a0 a1 k = zb54 N a0 a1 k := by
  unfold zj54 zb54
  rfl
theorem ve36_0 (N : Nat)  (a0 : Int) (a1 : Int) (K : TV → O β) : evFn lay (VE36 N) Tryz.f36 [.v (.one (.int .i64 a0)), .v (.one (.int .i64 a1))] K = zb54 N a0 a1 (fun z2 => K (.v (.one (.bool z2)))) := by kernel_rfl
theorem e36_0 (N : Nat)  (a0 : Int) (a1 : Int) (K : TV → O β) : evFn lay (E36 N) Tryz.f36 [.v (.one (.int .i64 a0)), .v (.one (.int .i64 a1))] K = zj54 N a0 a1 (fun z2 => K (.v (.one (.bool z2)))) := (ve36_0 N a0 a1 K).trans (zt54 N a0 a1 (fun z2 => K (.v (.one (.bool z2))))).symm
theorem o36 (N : Nat) : SpecOK (β := β) inv Tryz.prog 36 (S36 N) := by
  refine spec_of lay_ok mixed (E := E36 N) (specs_loops specs_nil) muts_nil gs_nil Tryz.func36 (by kernel_rfl) 0 (by kernel_rfl) trivial fun args K r h => ?_
  unfold S36 VS36 at h
  split at h
  · exact (e36_0 N _ _ _).trans h
  · cases h
def VS53 (N : Nat) (zq55 : (a0 : Int) → (a1 : Int) → (a2 : Int) → (k : Bool → O β) → O β) : Rv.Spec β := fun args K => match args with
  | [.v (.one (.int .i64 a0)), .v (.agg [.int .i64 a1, .int .i64 a2])] => zq55 a0 a1 a2 (fun z3 => K (.v (.one (.bool z3))))
  | _ => none
def S53 (N : Nat) : Rv.Spec β := VS53 N (zj55 N)
def VE53 (N : Nat) (zq53 : (a0 : Int) → (k : Bool → O β) → O β) (zq54 : (a0 : Int) → (a1 : Int) → (k : Bool → O β) → O β) : Env β := ⟨[(38, VS38 N zq53), (36, VS36 N zq54)], [], [], [], ⟨[], [], [], []⟩⟩
def E53 (N : Nat) : Env β := VE53 N (zj53 N) (zj54 N)
def zb55 (N : Nat) (zq53 : (a0 : Int) → (k : Bool → O β) → O β) (zq54 : (a0 : Int) → (a1 : Int) → (k : Bool → O β) → O β) (a0 : Int) (a1 : Int) (a2 : Int) (k : Bool → O β) : O β :=
zq53 a0 fun r4 =>
(cond r4
(zq54 a0 a1 fun r5 =>
(cond r5
((cond ((decide (a2 ≥ 0)))
(k (((bits .andNot .i64 a2 a1) == 0)))
(k false)))
(k false)))
(k false))
theorem zt55 (N : Nat) (a0 : Int) (a1 : Int) (a2 : Int) (k : Bool → O β) : zj55 N a0 a1 a2 k = zb55 N (zj53 N) (zj54 N) a0 a1 a2 k := by
  unfold zj55 zb55
  rfl
theorem ve53_0 (N : Nat) (zq53 : (a0 : Int) → (k : Bool → O β) → O β) (zq54 : (a0 : Int) → (a1 : Int) → (k : Bool → O β) → O β)  (a0 : Int) (a1 : Int) (a2 : Int) (K : TV → O β) : evFn lay (VE53 N zq53 zq54) Tryz.f53 [.v (.one (.int .i64 a0)), .v (.agg [.int .i64 a1, .int .i64 a2])] K = zb55 N zq53 zq54 a0 a1 a2 (fun z3 => K (.v (.one (.bool z3)))) := by kernel_rfl
theorem e53_0 (N : Nat)  (a0 : Int) (a1 : Int) (a2 : Int) (K : TV → O β) : evFn lay (E53 N) Tryz.f53 [.v (.one (.int .i64 a0)), .v (.agg [.int .i64 a1, .int .i64 a2])] K = zj55 N a0 a1 a2 (fun z3 => K (.v (.one (.bool z3)))) := (ve53_0 N (zj53 N) (zj54 N) a0 a1 a2 K).trans (zt55 N a0 a1 a2 (fun z3 => K (.v (.one (.bool z3))))).symm
theorem o53 (N : Nat) : SpecOK (β := β) inv Tryz.prog 53 (S53 N) := by
  refine spec_of lay_ok mixed (E := E53 N) (specs_loops (specs_cons (o38 N) (specs_cons (o36 N) specs_nil))) muts_nil gs_nil Tryz.func53 (by kernel_rfl) 0 (by kernel_rfl) trivial fun args K r h => ?_
  unfold S53 VS53 at h
  split at h
  · exact (e53_0 N _ _ _ _).trans h
  · cases h
def VS52 (N : Nat) (zq56 : (a0 : Int) → (a1 : Int) → (c0 : Int) → (k : Bool → O β) → O β) : Rv.Spec β := fun args K => match args with
  | [.v (.agg [.int .i64 a0, .int .i64 a1]), .v (.one (.cref [.int .i64 c0] 0))] => zq56 a0 a1 c0 (fun z2 => K (.v (.one (.bool z2))))
  | _ => none
def S52 (N : Nat) : Rv.Spec β := VS52 N (zj56 N)
def VE52 (N : Nat) (zq55 : (a0 : Int) → (a1 : Int) → (a2 : Int) → (k : Bool → O β) → O β) : Env β := ⟨[(53, VS53 N zq55)], [], [], [], ⟨[], [], [], []⟩⟩
def E52 (N : Nat) : Env β := VE52 N (zj55 N)
def zb56 (N : Nat) (zq55 : (a0 : Int) → (a1 : Int) → (a2 : Int) → (k : Bool → O β) → O β) (a0 : Int) (a1 : Int) (c0 : Int) (k : Bool → O β) : O β :=
zq55 c0 a0 a1 fun r3 =>
k (!r3)
theorem zt56 (N : Nat) (a0 : Int) (a1 : Int) (c0 : Int) (k : Bool → O β) : zj56 N a0 a1 c0 k = zb56 N (zj55 N) a0 a1 c0 k := by
  unfold zj56 zb56
  rfl
theorem ve52_0 (N : Nat) (zq55 : (a0 : Int) → (a1 : Int) → (a2 : Int) → (k : Bool → O β) → O β)  (a0 : Int) (a1 : Int) (c0 : Int) (K : TV → O β) : evFn lay (VE52 N zq55) Tryz.f52 [.v (.agg [.int .i64 a0, .int .i64 a1]), .v (.one (.cref [.int .i64 c0] 0))] K = zb56 N zq55 a0 a1 c0 (fun z2 => K (.v (.one (.bool z2)))) := by kernel_rfl
theorem e52_0 (N : Nat)  (a0 : Int) (a1 : Int) (c0 : Int) (K : TV → O β) : evFn lay (E52 N) Tryz.f52 [.v (.agg [.int .i64 a0, .int .i64 a1]), .v (.one (.cref [.int .i64 c0] 0))] K = zj56 N a0 a1 c0 (fun z2 => K (.v (.one (.bool z2)))) := (ve52_0 N (zj55 N) a0 a1 c0 K).trans (zt56 N a0 a1 c0 (fun z2 => K (.v (.one (.bool z2))))).symm
theorem o52 (N : Nat) : SpecOK (β := β) inv Tryz.prog 52 (S52 N) := by
  refine spec_of lay_ok mixed (E := E52 N) (specs_loops (specs_cons (o53 N) specs_nil)) muts_nil gs_nil Tryz.func52 (by kernel_rfl) 0 (by kernel_rfl) trivial fun args K r h => ?_
  unfold S52 VS52 at h
  split at h
  · exact (e52_0 N _ _ _ _).trans h
  · cases h
def VS49 (N : Nat) (zq57 : (a0 : Int) → (a1 : Int) → (a2 : Int) → (k : Bool → O β) → O β) : Rv.Spec β := fun args K => match args with
  | [.v (.agg [.int .i64 a0, .int .i64 a1]), .v (.one (.int .i64 a2))] => zq57 a0 a1 a2 (fun z3 => K (.v (.one (.bool z3))))
  | _ => none
def S49 (N : Nat) : Rv.Spec β := VS49 N (zj57 N)
def VE49 (N : Nat) : Env β := ⟨[], [], [], [], ⟨[], [], [], []⟩⟩
def E49 (N : Nat) : Env β := VE49 N
def zb57 (N : Nat) (a0 : Int) (a1 : Int) (a2 : Int) (k : Bool → O β) : O β :=
k (((bits .and .i64 a2 a0) == a1))
theorem zt57 (N : Nat) (a0 : Int) (a1 : Int) (a2 : Int) (k : Bool → O β) : zj57 N a0 a1 a2 k = zb57 N a0 a1 a2 k := by
  unfold zj57 zb57
  rfl
theorem ve49_0 (N : Nat)  (a0 : Int) (a1 : Int) (a2 : Int) (K : TV → O β) : evFn lay (VE49 N) Tryz.f49 [.v (.agg [.int .i64 a0, .int .i64 a1]), .v (.one (.int .i64 a2))] K = zb57 N a0 a1 a2 (fun z3 => K (.v (.one (.bool z3)))) := by kernel_rfl
theorem e49_0 (N : Nat)  (a0 : Int) (a1 : Int) (a2 : Int) (K : TV → O β) : evFn lay (E49 N) Tryz.f49 [.v (.agg [.int .i64 a0, .int .i64 a1]), .v (.one (.int .i64 a2))] K = zj57 N a0 a1 a2 (fun z3 => K (.v (.one (.bool z3)))) := (ve49_0 N a0 a1 a2 K).trans (zt57 N a0 a1 a2 (fun z3 => K (.v (.one (.bool z3))))).symm
theorem o49 (N : Nat) : SpecOK (β := β) inv Tryz.prog 49 (S49 N) := by
  refine spec_of lay_ok mixed (E := E49 N) (specs_loops specs_nil) muts_nil gs_nil Tryz.func49 (by kernel_rfl) 0 (by kernel_rfl) trivial fun args K r h => ?_
  unfold S49 VS49 at h
  split at h
  · exact (e49_0 N _ _ _ _).trans h
  · cases h
def VS56 (N : Nat) (zq58 : (a0 : Int) → (a1 : Int) → (c0 : Int) → (k : Bool → O β) → O β) : Rv.Spec β := fun args K => match args with
  | [.v (.agg [.int .i64 a0, .int .i64 a1]), .v (.one (.cref [.int .i64 c0] 0))] => zq58 a0 a1 c0 (fun z2 => K (.v (.one (.bool z2))))
  | _ => none
def S56 (N : Nat) : Rv.Spec β := VS56 N (zj58 N)
def VE56 (N : Nat) (zq57 : (a0 : Int) → (a1 : Int) → (a2 : Int) → (k : Bool → O β) → O β) : Env β := ⟨[(49, VS49 N zq57)], [], [], [], ⟨[], [], [], []⟩⟩
def E56 (N : Nat) : Env β := VE56 N (zj57 N)
def zb58 (N : Nat) (zq57 : (a0 : Int) → (a1 : Int) → (a2 : Int) → (k : Bool → O β) → O β) (a0 : Int) (a1 : Int) (c0 : Int) (k : Bool → O β) : O β :=
zq57 a0 a1 c0 fun r3 =>
k r3
theorem zt58 (N : Nat) (a0 : Int) (a1 : Int) (c0 : Int) (k : Bool → O β) : zj58 N a0 a1 c0 k = zb58 N (zj57 N) a0 a1 c0 k := by
  unfold zj58 zb58
  rfl
theorem ve56_0 (N : Nat) (zq57 : (a0 : Int) → (a1 : Int) → (a2 : Int) → (k : Bool → O β) → O β)  (a0 : Int) (a1 : Int) (c0 : Int) (K : TV → O β) : evFn lay (VE56 N zq57) Tryz.f56 [.v (.agg [.int .i64 a0, .int .i64 a1]), .v (.one (.cref [.int .i64 c0] 0))] K = zb58 N zq57 a0 a1 c0 (fun z2 => K (.v (.one (.bool z2)))) := by kernel_rfl
theorem e56_0 (N : Nat)  (a0 : Int) (a1 : Int) (c0 : Int) (K : TV → O β) : evFn lay (E56 N) Tryz.f56 [.v (.agg [.int .i64 a0, .int .i64 a1]), .v (.one (.cref [.int .i64 c0] 0))] K = zj58 N a0 a1 c0 (fun z2 => K (.v (.one (.bool z2)))) := (ve56_0 N (zj57 N) a0 a1 c0 K).trans (zt58 N a0 a1 c0 (fun z2 => K (.v (.one (.bool z2))))).symm
theorem o56 (N : Nat) : SpecOK (β := β) inv Tryz.prog 56 (S56 N) := by
  refine spec_of lay_ok mixed (E := E56 N) (specs_loops (specs_cons (o49 N) specs_nil)) muts_nil gs_nil Tryz.func56 (by kernel_rfl) 0 (by kernel_rfl) trivial fun args K r h => ?_
  unfold S56 VS56 at h
  split at h
  · exact (e56_0 N _ _ _ _).trans h
  · cases h
def VS69 (N : Nat) (zq61 : (a0 : List (Int × Int)) → (a1 : (Int → Int → (Bool → O β) → O β)) → (k : Int → O β) → O β) (zq56 : (a0 : Int) → (a1 : Int) → (c0 : Int) → (k : Bool → O β) → O β) (zq58 : (a0 : Int) → (a1 : Int) → (c0 : Int) → (k : Bool → O β) → O β) : Rv.Spec β := fun args K => match args with
  | [.v (.one (.sl 50 (.pairs a0))), .v (.one (.dfn 52 [([.int .i64 q0], 0)]))] => zq61 a0 (fun x0 x1 k => zq56 x0 x1 q0 k) (fun z2 => K (.v (.one (.int .i64 z2))))
  | [.v (.one (.sl 50 (.pairs a0))), .v (.one (.dfn 56 [([.int .i64 q0], 0)]))] => zq61 a0 (fun x0 x1 k => zq58 x0 x1 q0 k) (fun z2 => K (.v (.one (.int .i64 z2))))
  | _ => none
def S69 (N : Nat) : Rv.Spec β := VS69 N (zj61 N) (zj56 N) (zj58 N)
def h69_0_0 (q0 : Int) (v0 : List (Int × Int)) (v1 : Int) (v2 : Int) : St := ⟨.v (.one (.sl 50 (.pairs v0))) :: .v (.one (.dfn 52 [([.int .i64 q0], 0)])) :: tund :: tund :: tund :: tund :: tund :: .v (.one (.int .i64 v1)) :: .v (.one (.int .i64 v2)) :: tund :: tund :: tund :: tund :: tund :: tund :: tund :: tund :: tund :: tund :: [], []⟩
def x69_0_0_k0 (q0 : Int) (y0 : Int) : St := ⟨tund :: tund :: tund :: tund :: .v (.one (.int .i64 y0)) :: tund :: tund :: tund :: tund :: tund :: tund :: tund :: tund :: tund :: tund :: tund :: tund :: tund :: tund :: [], []⟩
def x69_0_0_k1 (q0 : Int)  : St := ⟨tund :: tund :: tund :: tund :: tund :: tund :: tund :: tund :: tund :: tund :: tund :: tund :: tund :: tund :: tund :: tund :: tund :: tund :: tund :: [], []⟩
def h69_0_1 (q0 : Int) (v0 : List (Int × Int)) (v1 : Int) (v2 : Int) : St := ⟨.v (.one (.sl 50 (.pairs v0))) :: .v (.one (.dfn 56 [([.int .i64 q0], 0)])) :: tund :: tund :: tund :: tund :: tund :: .v (.one (.int .i64 v1)) :: .v (.one (.int .i64 v2)) :: tund :: tund :: tund :: tund :: tund :: tund :: tund :: tund :: tund :: tund :: [], []⟩
def x69_0_1_k0 (q0 : Int) (y0 : Int) : St := ⟨tund :: tund :: tund :: tund :: .v (.one (.int .i64 y0)) :: tund :: tund :: tund :: tund :: tund :: tund :: tund :: tund :: tund :: tund :: tund :: tund :: tund :: tund :: [], []⟩
def x69_0_1_k1 (q0 : Int)  : St := ⟨tund :: tund :: tund :: tund :: tund :: tund :: tund :: tund :: tund :: tund :: tund :: tund :: tund :: tund :: tund :: tund :: tund :: tund :: tund :: [], []⟩
theorem fl69_0_0 (s : St) : refSt (h69_0_0 0 [] 0 0) s = h69_0_0 (intF (nx .no (nx ([], 0) (dfnS (oneA (vT (nx tund s.tmps 1)))) 0).1 0)) (rPairs (rowV (oneA (vT (nx tund s.tmps 0))))) (intS (oneA (vT (nx tund s.tmps 7)))) (intS (oneA (vT (nx tund s.tmps 8)))) := by kernel_rfl
theorem fl69_0_1 (s : St) : refSt (h69_0_1 0 [] 0 0) s = h69_0_1 (intF (nx .no (nx ([], 0) (dfnS (oneA (vT (nx tund s.tmps 1)))) 0).1 0)) (rPairs (rowV (oneA (vT (nx tund s.tmps 0))))) (intS (oneA (vT (nx tund s.tmps 7)))) (intS (oneA (vT (nx tund s.tmps 8)))) := by kernel_rfl
def VLS69_0 (N : Nat) (zq60 : (a1 : (Int → Int → (Bool → O β) → O β)) → Nat → List (Int × Int) → Int → Int → (Int → O β) → (O β) → O β) (zq56 : (a0 : Int) → (a1 : Int) → (c0 : Int) → (k : Bool → O β) → O β) (zq58 : (a0 : Int) → (a1 : Int) → (c0 : Int) → (k : Bool → O β) → O β) : LSpec β := fun s K => cond (shpSt (h69_0_0 0 [] 0 0) s) ((fun (q0 : Int) (v0 : List (Int × Int)) (v1 : Int) (v2 : Int) => zq60 (fun x0 x1 k => zq56 x0 x1 q0 k) N v0 v1 v2 (fun y0 => K .ret (x69_0_0_k0 q0 y0)) (K (.exit 0) (x69_0_0_k1 q0 ))) (intF (nx .no (nx ([], 0) (dfnS (oneA (vT (nx tund s.tmps 1)))) 0).1 0)) (rPairs (rowV (oneA (vT (nx tund s.tmps 0))))) (intS (oneA (vT (nx tund s.tmps 7)))) (intS (oneA (vT (nx tund s.tmps 8))))) (cond (shpSt (h69_0_1 0 [] 0 0) s) ((fun (q0 : Int) (v0 : List (Int × Int)) (v1 : Int) (v2 : Int) => zq60 (fun x0 x1 k => zq58 x0 x1 q0 k) N v0 v1 v2 (fun y0 => K .ret (x69_0_1_k0 q0 y0)) (K (.exit 0) (x69_0_1_k1 q0 ))) (intF (nx .no (nx ([], 0) (dfnS (oneA (vT (nx tund s.tmps 1)))) 0).1 0)) (rPairs (rowV (oneA (vT (nx tund s.tmps 0))))) (intS (oneA (vT (nx tund s.tmps 7)))) (intS (oneA (vT (nx tund s.tmps 8))))) (none))
def LS69_0 (N : Nat) : LSpec β := VLS69_0 N (zj60 N) (zj56 N) (zj58 N)
def VE69 (N : Nat) (zq56 : (a0 : Int) → (a1 : Int) → (c0 : Int) → (k : Bool → O β) → O β) (zq58 : (a0 : Int) → (a1 : Int) → (c0 : Int) → (k : Bool → O β) → O β) (zq60 : (a1 : (Int → Int → (Bool → O β) → O β)) → Nat → List (Int × Int) → Int → Int → (Int → O β) → (O β) → O β) : Env β := ⟨[(52, VS52 N zq56), (56, VS56 N zq58)], [], [(0, VLS69_0 N zq60 zq56 zq58)], [], ⟨[], [], [], []⟩⟩
def E69 (N : Nat) : Env β := VE69 N (zj56 N) (zj58 N) (zj60 N)
def zb59 (N : Nat) (a1 : (Int → Int → (Bool → O β) → O β)) (v0 : List (Int × Int)) (v1 : Int) (v2 : Int) (rec_ : List (Int × Int) → Int → Int → O β) (k0 : Int → O β) (k1 : O β) : O β :=
(cond ((decide (v2 < v1)))
((gd ((decide (0 ≤ v2)))
((gd ((decide (v2 < (v0.length : Int))))
(a1 ((rd (0, 0) v0 v2).1) ((rd (0, 0) v0 v2).2) fun r3 =>
(cond r3
(k0 v2)
(rec_ v0 v1 ((w64 (v2 + 1))))))))))
(k1 ))
theorem zt59 (N : Nat) (a1 : (Int → Int → (Bool → O β) → O β)) (v0 : List (Int × Int)) (v1 : Int) (v2 : Int) (rec_ : List (Int × Int) → Int → Int → O β) (k0 : Int → O β) (k1 : O β) : zj59 N a1 v0 v1 v2 rec_ k0 k1 = zb59 N a1 v0 v1 v2 rec_ k0 k1 := by
  unfold zj59 zb59
  rfl
theorem vst69_0_0 (N : Nat) (zq56 : (a0 : Int) → (a1 : Int) → (c0 : Int) → (k : Bool → O β) → O β) (zq58 : (a0 : Int) → (a1 : Int) → (c0 : Int) → (k : Bool → O β) → O β) (zq60 : (a1 : (Int → Int → (Bool → O β) → O β)) → Nat → List (Int × Int) → Int → Int → (Int → O β) → (O β) → O β) (q0 : Int) (v0 : List (Int × Int)) (v1 : Int) (v2 : Int) (rec_ : St → O β) (K : Exit → St → O β) :
    ev lay (VE69 N zq56 zq58 zq60) (retMask Tryz.f69) (lp Tryz.f69 0).body (lp Tryz.f69 0).ex ((lp Tryz.f69 0).lv (retMask Tryz.f69)) (h69_0_0 q0 v0 v1 v2) (nextR (fun s' => rec_ (s'.tidy ((lp Tryz.f69 0).lv (retMask Tryz.f69)))) K) = zb59 N (fun x0 x1 k => zq56 x0 x1 q0 k) v0 v1 v2 (fun v0 v1 v2 => rec_ (h69_0_0 q0 v0 v1 v2)) (fun y0 => K .ret (x69_0_0_k0 q0 y0)) (K (.exit 0) (x69_0_0_k1 q0 )) := by kernel_rfl
theorem st69_0_0 (N : Nat) (q0 : Int) (v0 : List (Int × Int)) (v1 : Int) (v2 : Int) (rec_ : St → O β) (K : Exit → St → O β) :
    ev lay (E69 N) (retMask Tryz.f69) (lp Tryz.f69 0).body (lp Tryz.f69 0).ex ((lp Tryz.f69 0).lv (retMask Tryz.f69)) (h69_0_0 q0 v0 v1 v2) (nextR (fun s' => rec_ (s'.tidy ((lp Tryz.f69 0).lv (retMask Tryz.f69)))) K) = zj59 N (fun x0 x1 k => zj56 N x0 x1 q0 k) v0 v1 v2 (fun v0 v1 v2 => rec_ (h69_0_0 q0 v0 v1 v2)) (fun y0 => K .ret (x69_0_0_k0 q0 y0)) (K (.exit 0) (x69_0_0_k1 q0 )) := (vst69_0_0 N (zj56 N) (zj58 N) (zj60 N) q0 v0 v1 v2 rec_ K).trans (zt59 N (fun x0 x1 k => zj56 N x0 x1 q0 k) v0 v1 v2 (fun v0 v1 v2 => rec_ (h69_0_0 q0 v0 v1 v2)) (fun y0 => K .ret (x69_0_0_k0 q0 y0)) (K (.exit 0) (x69_0_0_k1 q0 ))).symm
theorem ro69_0_0 (N : Nat) (q0 : Int) (K : Exit → St → O β) : ∀ (F : Nat) (v0 : List (Int × Int)) (v1 : Int) (v2 : Int), (lp Tryz.f69 0).rounds lay (E69 N) (retMask Tryz.f69) F (h69_0_0 q0 v0 v1 v2) K = zj60 N (fun x0 x1 k => zj56 N x0 x1 q0 k) F v0 v1 v2 (fun y0 => K .ret (x69_0_0_k0 q0 y0)) (K (.exit 0) (x69_0_0_k1 q0 )) := by
  intro F
  induction F with
  | zero => intros; rfl
  | succ F ih =>
    intros
    rw [rounds_next]
    refine (st69_0_0 N q0 _ _ _ (fun s => (lp Tryz.f69 0).rounds lay (E69 N) (retMask Tryz.f69) F s K) K).trans ?_
    simp only [ih]
    rfl
theorem vst69_0_1 (N : Nat) (zq56 : (a0 : Int) → (a1 : Int) → (c0 : Int) → (k : Bool → O β) → O β) (zq58 : (a0 : Int) → (a1 : Int) → (c0 : Int) → (k : Bool → O β) → O β) (zq60 : (a1 : (Int → Int → (Bool → O β) → O β)) → Nat → List (Int × Int) → Int → Int → (Int → O β) → (O β) → O β) (q0 : Int) (v0 : List (Int × Int)) (v1 : Int) (v2 : Int) (rec_ : St → O β) (K : Exit → St → O β) :
    ev lay (VE69 N zq56 zq58 zq60) (retMask Tryz.f69) (lp Tryz.f69 0).body (lp Tryz.f69 0).ex ((lp Tryz.f69 0).lv (retMask Tryz.f69)) (h69_0_1 q0 v0 v1 v2) (nextR (fun s' => rec_ (s'.tidy ((lp Tryz.f69 0).lv (retMask Tryz.f69)))) K) = zb59 N (fun x0 x1 k => zq58 x0 x1 q0 k) v0 v1 v2 (fun v0 v1 v2 => rec_ (h69_0_1 q0 v0 v1 v2)) (fun y0 => K .ret (x69_0_1_k0 q0 y0)) (K (.exit 0) (x69_0_1_k1 q0 )) := by kernel_rfl
theorem st69_0_1 (N : Nat) (q0 : Int) (v0 : List (Int × Int)) (v1 : Int) (v2 : Int) (rec_ : St → O β) (K : Exit → St → O β) :
    ev lay (E69 N) (retMask Tryz.f69) (lp Tryz.f69 0).body (lp Tryz.f69 0).ex ((lp Tryz.f69 0).lv (retMask Tryz.f69)) (h69_0_1 q0 v0 v1 v2) (nextR (fun s' => rec_ (s'.tidy ((lp Tryz.f69 0).lv (retMask Tryz.f69)))) K) = zj59 N (fun x0 x1 k => zj58 N x0 x1 q0 k) v0 v1 v2 (fun v0 v1 v2 => rec_ (h69_0_1 q0 v0 v1 v2)) (fun y0 => K .ret (x69_0_1_k0 q0 y0)) (K (.exit 0) (x69_0_1_k1 q0 )) := (vst69_0_1 N (zj56 N) (zj58 N) (zj60 N) q0 v0 v1 v2 rec_ K).trans (zt59 N (fun x0 x1 k => zj58 N x0 x1 q0 k) v0 v1 v2 (fun v0 v1 v2 => rec_ (h69_0_1 q0 v0 v1 v2)) (fun y0 => K .ret (x69_0_1_k0 q0 y0)) (K (.exit 0) (x69_0_1_k1 q0 ))).symm
theorem ro69_0_1 (N : Nat) (q0 : Int) (K : Exit → St → O β) : ∀ (F : Nat) (v0 : List (Int × Int)) (v1 : Int) (v2 : Int), (lp Tryz.f69 0).rounds lay (E69 N) (retMask Tryz.f69) F (h69_0_1 q0 v0 v1 v2) K = zj60 N (fun x0 x1 k => zj58 N x0 x1 q0 k) F v0 v1 v2 (fun y0 => K .ret (x69_0_1_k0 q0 y0)) (K (.exit 0) (x69_0_1_k1 q0 )) := by
  intro F
  induction F with
  | zero => intros; rfl
  | succ F ih =>
    intros
    rw [rounds_next]
    refine (st69_0_1 N q0 _ _ _ (fun s => (lp Tryz.f69 0).rounds lay (E69 N) (retMask Tryz.f69) F s K) K).trans ?_
    simp only [ih]
    rfl
theorem lk69_0 (N : Nat) : lookL (E69 (β := β) N).loops (lp Tryz.f69 0).id = LS69_0 N := by kernel_rfl
theorem rk69_0 (N : Nat) : RoundsOK lay (E69 (β := β) N) (retMask Tryz.f69) (lp Tryz.f69 0) := by
  intro s K r h
  rw [lk69_0] at h
  unfold LS69_0 VLS69_0 at h
  cases hb : shpSt (h69_0_0 0 [] 0 0) s with
  | true =>
    rw [hb, cond_true] at h
    exact ⟨N, by rw [← shpSt_ref hb, fl69_0_0 s]; exact (ro69_0_0 N (intF (nx .no (nx ([], 0) (dfnS (oneA (vT (nx tund s.tmps 1)))) 0).1 0)) K N (rPairs (rowV (oneA (vT (nx tund s.tmps 0))))) (intS (oneA (vT (nx tund s.tmps 7)))) (intS (oneA (vT (nx tund s.tmps 8))))).trans h⟩
  | false =>
  rw [hb, cond_false] at h
  clear hb
  cases hb : shpSt (h69_0_1 0 [] 0 0) s with
  | true =>
    rw [hb, cond_true] at h
    exact ⟨N, by rw [← shpSt_ref hb, fl69_0_1 s]; exact (ro69_0_1 N (intF (nx .no (nx ([], 0) (dfnS (oneA (vT (nx tund s.tmps 1)))) 0).1 0)) K N (rPairs (rowV (oneA (vT (nx tund s.tmps 0))))) (intS (oneA (vT (nx tund s.tmps 7)))) (intS (oneA (vT (nx tund s.tmps 8))))).trans h⟩
  | false =>
  rw [hb, cond_false] at h
  clear hb
  cases h
def zb61 (N : Nat) (zq60 : (a1 : (Int → Int → (Bool → O β) → O β)) → Nat → List (Int × Int) → Int → Int → (Int → O β) → (O β) → O β) (a0 : List (Int × Int)) (a1 : (Int → Int → (Bool → O β) → O β)) (k : Int → O β) : O β :=
zq60 a1 N a0 ((a0.length : Int)) 0 (fun e4_0 =>
k e4_0) (k (-1))
theorem zt61 (N : Nat) (a0 : List (Int × Int)) (a1 : (Int → Int → (Bool → O β) → O β)) (k : Int → O β) : zj61 N a0 a1 k = zb61 N (zj60 N) a0 a1 k := by
  unfold zj61 zb61
  rfl
theorem ve69_0 (N : Nat) (zq56 : (a0 : Int) → (a1 : Int) → (c0 : Int) → (k : Bool → O β) → O β) (zq58 : (a0 : Int) → (a1 : Int) → (c0 : Int) → (k : Bool → O β) → O β) (zq60 : (a1 : (Int → Int → (Bool → O β) → O β)) → Nat → List (Int × Int) → Int → Int → (Int → O β) → (O β) → O β) (q0 : Int) (a0 : List (Int × Int)) (K : TV → O β) : evFn lay (VE69 N zq56 zq58 zq60) Tryz.f69 [.v (.one (.sl 50 (.pairs a0))), .v (.one (.dfn 52 [([.int .i64 q0], 0)]))] K = zb61 N zq60 a0 (fun x0 x1 k => zq56 x0 x1 q0 k) (fun z2 => K (.v (.one (.int .i64 z2)))) := by kernel_rfl
theorem e69_0 (N : Nat) (q0 : Int) (a0 : List (Int × Int)) (K : TV → O β) : evFn lay (E69 N) Tryz.f69 [.v (.one (.sl 50 (.pairs a0))), .v (.one (.dfn 52 [([.int .i64 q0], 0)]))] K = zj61 N a0 (fun x0 x1 k => zj56 N x0 x1 q0 k) (fun z2 => K (.v (.one (.int .i64 z2)))) := (ve69_0 N (zj56 N) (zj58 N) (zj60 N) q0 a0 K).trans (zt61 N a0 (fun x0 x1 k => zj56 N x0 x1 q0 k) (fun z2 => K (.v (.one (.int .i64 z2))))).symm
theorem ve69_1 (N : Nat) (zq56 : (a0 : Int) → (a1 : Int) → (c0 : Int) → (k : Bool → O β) → O β) (zq58 : (a0 : Int) → (a1 : Int) → (c0 : Int) → (k : Bool → O β) → O β) (zq60 : (a1 : (Int → Int → (Bool → O β) → O β)) → Nat → List (Int × Int) → Int → Int → (Int → O β) → (O β) → O β) (q0 : Int) (a0 : List (Int × Int)) (K : TV → O β) : evFn lay (VE69 N zq56 zq58 zq60) Tryz.f69 [.v (.one (.sl 50 (.pairs a0))), .v (.one (.dfn 56 [([.int .i64 q0], 0)]))] K = zb61 N zq60 a0 (fun x0 x1 k => zq58 x0 x1 q0 k) (fun z2 => K (.v (.one (.int .i64 z2)))) := by kernel_rfl
theorem e69_1 (N : Nat) (q0 : Int) (a0 : List (Int × Int)) (K : TV → O β) : evFn lay (E69 N) Tryz.f69 [.v (.one (.sl 50 (.pairs a0))), .v (.one (.dfn 56 [([.int .i64 q0], 0)]))] K = zj61 N a0 (fun x0 x1 k => zj58 N x0 x1 q0 k) (fun z2 => K (.v (.one (.int .i64 z2)))) := (ve69_1 N (zj56 N) (zj58 N) (zj60 N) q0 a0 K).trans (zt61 N a0 (fun x0 x1 k => zj58 N x0 x1 q0 k) (fun z2 => K (.v (.one (.int .i64 z2))))).symm
theorem o69 (N : Nat) : SpecOK (β := β) inv Tryz.prog 69 (S69 N) := by
  refine spec_of lay_ok mixed (E := E69 N) (specs_loops (specs_cons (o52 N) (specs_cons (o56 N) specs_nil))) muts_nil gs_nil Tryz.func69 (by kernel_rfl) 1 (by kernel_rfl) ⟨trivial, rk69_0 N⟩ fun args K r h => ?_
  unfold S69 VS69 at h
  split at h
  · exact (e69_0 N _ _ _).trans h
  · exact (e69_1 N _ _ _).trans h
  · cases h
def VS51 (N : Nat) (zq62 : (a0 : List (Int × Int)) → (a1 : (Int → Int → (Bool → O β) → O β)) → (k : Bool → O β) → O β) (zq56 : (a0 : Int) → (a1 : Int) → (c0 : Int) → (k : Bool → O β) → O β) (zq58 : (a0 : Int) → (a1 : Int) → (c0 : Int) → (k : Bool → O β) → O β) : Rv.Spec β := fun args K => match args with
  | [.v (.one (.sl 50 (.pairs a0))), .v (.one (.dfn 52 [([.int .i64 q0], 0)]))] => zq62 a0 (fun x0 x1 k => zq56 x0 x1 q0 k) (fun z2 => K (.v (.one (.bool z2))))
  | [.v (.one (.sl 50 (.pairs a0))), .v (.one (.dfn 56 [([.int .i64 q0], 0)]))] => zq62 a0 (fun x0 x1 k => zq58 x0 x1 q0 k) (fun z2 => K (.v (.one (.bool z2))))
  | _ => none
def S51 (N : Nat) : Rv.Spec β := VS51 N (zj62 N) (zj56 N) (zj58 N)
def VE51 (N : Nat) (zq61 : (a0 : List (Int × Int)) → (a1 : (Int → Int → (Bool → O β) → O β)) → (k : Int → O β) → O β) (zq56 : (a0 : Int) → (a1 : Int) → (c0 : Int) → (k : Bool → O β) → O β) (zq58 : (a0 : Int) → (a1 : Int) → (c0 : Int) → (k : Bool → O β) → O β) : Env β := ⟨[(69, VS69 N zq61 zq56 zq58), (52, VS52 N zq56), (56, VS56 N zq58)], [], [], [], ⟨[], [], [], []⟩⟩
def E51 (N : Nat) : Env β := VE51 N (zj61 N) (zj56 N) (zj58 N)
def zb62 (N : Nat) (zq61 : (a0 : List (Int × Int)) → (a1 : (Int → Int → (Bool → O β) → O β)) → (k : Int → O β) → O β) (a0 : List (Int × Int)) (a1 : (Int → Int → (Bool → O β) → O β)) (k : Bool → O β) : O β :=
zq61 a0 a1 fun r3 =>
k ((decide (r3 ≥ 0)))
theorem zt62 (N : Nat) (a0 : List (Int × Int)) (a1 : (Int → Int → (Bool → O β) → O β)) (k : Bool → O β) : zj62 N a0 a1 k = zb62 N (zj61 N) a0 a1 k := by
  unfold zj62 zb62
  rfl
theorem ve51_0 (N : Nat) (zq61 : (a0 : List (Int × Int)) → (a1 : (Int → Int → (Bool → O β) → O β)) → (k : Int → O β) → O β) (zq56 : (a0 : Int) → (a1 : Int) → (c0 : Int) → (k : Bool → O β) → O β) (zq58 : (a0 : Int) → (a1 : Int) → (c0 : Int) → (k : Bool → O β) → O β) (q0 : Int) (a0 : List (Int × Int)) (K : TV → O β) : evFn lay (VE51 N zq61 zq56 zq58) Tryz.f51 [.v (.one (.sl 50 (.pairs a0))), .v (.one (.dfn 52 [([.int .i64 q0], 0)]))] K = zb62 N zq61 a0 (fun x0 x1 k => zq56 x0 x1 q0 k) (fun z2 => K (.v (.one (.bool z2)))) := by kernel_rfl
theorem e51_0 (N : Nat) (q0 : Int) (a0 : List (Int × Int)) (K : TV → O β) : evFn lay (E51 N) Tryz.f51 [.v (.one (.sl 50 (.pairs a0))), .v (.one (.dfn 52 [([.int .i64 q0], 0)]))] K = zj62 N a0 (fun x0 x1 k => zj56 N x0 x1 q0 k) (fun z2 => K (.v (.one (.bool z2)))) := (ve51_0 N (zj61 N) (zj56 N) (zj58 N) q0 a0 K).trans (zt62 N a0 (fun x0 x1 k => zj56 N x0 x1 q0 k) (fun z2 => K (.v (.one (.bool z2))))).symm
theorem ve51_1 (N : Nat) (zq61 : (a0 : List (Int × Int)) → (a1 : (Int → Int → (Bool → O β) → O β)) → (k : Int → O β) → O β) (zq56 : (a0 : Int) → (a1 : Int) → (c0 : Int) → (k : Bool → O β) → O β) (zq58 : (a0 : Int) → (a1 : Int) → (c0 : Int) → (k : Bool → O β) → O β) (q0 : Int) (a0 : List (Int × Int)) (K : TV → O β) : evFn lay (VE51 N zq61 zq56 zq58) Tryz.f51 [.v (.one (.sl 50 (.pairs a0))), .v (.one (.dfn 56 [([.int .i64 q0], 0)]))] K = zb62 N zq61 a0 (fun x0 x1 k => zq58 x0 x1 q0 k) (fun z2 => K (.v (.one (.bool z2)))) := by kernel_rfl
theorem e51_1 (N : Nat) (q0 : Int) (a0 : List (Int × Int)) (K : TV → O β) : evFn lay (E51 N) Tryz.f51 [.v (.one (.sl 50 (.pairs a0))), .v (.one (.dfn 56 [([.int .i64 q0], 0)]))] K = zj62 N a0 (fun x0 x1 k => zj58 N x0 x1 q0 k) (fun z2 => K (.v (.one (.bool z2)))) := (ve51_1 N (zj61 N) (zj56 N) (zj58 N) q0 a0 K).trans (zt62 N a0 (fun x0 x1 k => zj58 N x0 x1 q0 k) (fun z2 => K (.v (.one (.bool z2))))).symm
theorem o51 (N : Nat) : SpecOK (β := β) inv Tryz.prog 51 (S51 N) := by
  refine spec_of lay_ok mixed (E := E51 N) (specs_loops (specs_cons (o69 N) (specs_cons (o52 N) (specs_cons (o56 N) specs_nil)))) muts_nil gs_nil Tryz.func51 (by kernel_rfl) 0 (by kernel_rfl) trivial fun args K r h => ?_
  unfold S51 VS51 at h
  split at h
  · exact (e51_0 N _ _ _).trans h
  · exact (e51_1 N _ _ _).trans h
  · cases h
def VS32 (N : Nat) (zq63 : (a0 : Int) → (a1 : List (Int × Int)) → (k : Bool → O β) → O β) : Rv.Spec β := fun args K => match args with
  | [.v (.one (.int .i64 a0)), .v (.one (.sl 50 (.pairs a1)))] => zq63 a0 a1 (fun z2 => K (.v (.one (.bool z2))))
  | _ => none
def S32 (N : Nat) : Rv.Spec β := VS32 N (zj63 N)
def VE32 (N : Nat) (zq53 : (a0 : Int) → (k : Bool → O β) → O β) (zq62 : (a0 : List (Int × Int)) → (a1 : (Int → Int → (Bool → O β) → O β)) → (k : Bool → O β) → O β) (zq56 : (a0 : Int) → (a1 : Int) → (c0 : Int) → (k : Bool → O β) → O β) (zq58 : (a0 : Int) → (a1 : Int) → (c0 : Int) → (k : Bool → O β) → O β) : Env β := ⟨[(38, VS38 N zq53), (51, VS51 N zq62 zq56 zq58), (52, VS52 N zq56)], [], [], [], ⟨[], [], [], []⟩⟩
def E32 (N : Nat) : Env β := VE32 N (zj53 N) (zj62 N) (zj56 N) (zj58 N)
def zb63 (N : Nat) (zq53 : (a0 : Int) → (k : Bool → O β) → O β) (zq62 : (a0 : List (Int × Int)) → (a1 : (Int → Int → (Bool → O β) → O β)) → (k : Bool → O β) → O β) (zq56 : (a0 : Int) → (a1 : Int) → (c0 : Int) → (k : Bool → O β) → O β) (a0 : Int) (a1 : List (Int × Int)) (k : Bool → O β) : O β :=
zq53 a0 fun r3 =>
(cond r3
(zq62 a1 (fun x0 x1 k => zq56 x0 x1 a0 k) fun r4 =>
k (!r4))
(k false))
theorem zt63 (N : Nat) (a0 : Int) (a1 : List (Int × Int)) (k : Bool → O β) : zj63 N a0 a1 k = zb63 N (zj53 N) (zj62 N) (zj56 N) a0 a1 k := by
  unfold zj63 zb63
  rfl
theorem ve32_0 (N : Nat) (zq53 : (a0 : Int) → (k : Bool → O β) → O β) (zq62 : (a0 : List (Int × Int)) → (a1 : (Int → Int → (Bool → O β) → O β)) → (k : Bool → O β) → O β) (zq56 : (a0 : Int) → (a1 : Int) → (c0 : Int) → (k : Bool → O β) → O β) (zq58 : (a0 : Int) → (a1 : Int) → (c0 : Int) → (k : Bool → O β) → O β)  (a0 : Int) (a1 : List (Int × Int)) (K : TV → O β) : evFn lay (VE32 N zq53 zq62 zq56 zq58) Tryz.f32 [.v (.one (.int .i64 a0)), .v (.one (.sl 50 (.pairs a1)))] K = zb63 N zq53 zq62 zq56 a0 a1 (fun z2 => K (.v (.one (.bool z2)))) := by kernel_rfl
theorem e32_0 (N : Nat)  (a0 : Int) (a1 : List (Int × Int)) (K : TV → O β) : evFn lay (E32 N) Tryz.f32 [.v (.one (.int .i64 a0)), .v (.one (.sl 50 (.pairs a1)))] K = zj63 N a0 a1 (fun z2 => K (.v (.one (.bool z2)))) := (ve32_0 N (zj53 N) (zj62 N) (zj56 N) (zj58 N) a0 a1 K).trans (zt63 N a0 a1 (fun z2 => K (.v (.one (.bool z2))))).symm
theorem o32 (N : Nat) : SpecOK (β := β) inv Tryz.prog 32 (S32 N) := by
  refine spec_of lay_ok mixed (E := E32 N) (specs_loops (specs_cons (o38 N) (specs_cons (o51 N) (specs_cons (o52 N) specs_nil)))) muts_nil gs_nil Tryz.func32 (by kernel_rfl) 0 (by kernel_rfl) trivial fun args K r h => ?_
  unfold S32 VS32 at h
  split at h
  · exact (e32_0 N _ _ _).trans h
  · cases h
def VS25 (N : Nat) (zq64 : (a0 : Int) → (a1 : List (Int × Int)) → (k : Bool → O β) → O β) : Rv.Spec β := fun args K => match args with
  | [.v (.one (.int .i64 a0)), .v (.one (.sl 50 (.pairs a1)))] => zq64 a0 a1 (fun z2 => K (.v (.one (.bool z2))))
  | _ => none
def S25 (N : Nat) : Rv.Spec β := VS25 N (zj64 N)
def VE25 (N : Nat) (zq63 : (a0 : Int) → (a1 : List (Int × Int)) → (k : Bool → O β) → O β) : Env β := ⟨[(32, VS32 N zq63)], [], [], [], ⟨[], [], [], []⟩⟩
def E25 (N : Nat) : Env β := VE25 N (zj63 N)
def zb64 (N : Nat) (zq63 : (a0 : Int) → (a1 : List (Int × Int)) → (k : Bool → O β) → O β) (a0 : Int) (a1 : List (Int × Int)) (k : Bool → O β) : O β :=
zq63 a0 a1 fun r3 =>
(cond r3
(k ((decide ((a1.length : Int) ≤ 40))))
(k false))
theorem zt64 (N : Nat) (a0 : Int) (a1 : List (Int × Int)) (k : Bool → O β) : zj64 N a0 a1 k = zb64 N (zj63 N) a0 a1 k := by
  unfold zj64 zb64
  rfl
theorem ve25_0 (N : Nat) (zq63 : (a0 : Int) → (a1 : List (Int × Int)) → (k : Bool → O β) → O β)  (a0 : Int) (a1 : List (Int × Int)) (K : TV → O β) : evFn lay (VE25 N zq63) Tryz.f25 [.v (.one (.int .i64 a0)), .v (.one (.sl 50 (.pairs a1)))] K = zb64 N zq63 a0 a1 (fun z2 => K (.v (.one (.bool z2)))) := by kernel_rfl
theorem e25_0 (N : Nat)  (a0 : Int) (a1 : List (Int × Int)) (K : TV → O β) : evFn lay (E25 N) Tryz.f25 [.v (.one (.int .i64 a0)), .v (.one (.sl 50 (.pairs a1)))] K = zj64 N a0 a1 (fun z2 => K (.v (.one (.bool z2)))) := (ve25_0 N (zj63 N) a0 a1 K).trans (zt64 N a0 a1 (fun z2 => K (.v (.one (.bool z2))))).symm
theorem o25 (N : Nat) : SpecOK (β := β) inv Tryz.prog 25 (S25 N) := by
  refine spec_of lay_ok mixed (E := E25 N) (specs_loops (specs_cons (o32 N) specs_nil)) muts_nil gs_nil Tryz.func25 (by kernel_rfl) 0 (by kernel_rfl) trivial fun args K r h => ?_
  unfold S25 VS25 at h
  split at h
  · exact (e25_0 N _ _ _).trans h
  · cases h
end Go.Proofs.YtddflpokemgnmaaGreatDoor
