/- The functions that the claims reach answer as their texts do. -/
import Derived.Test.YtddflpokemgnmaaGreatDoorE0
namespace Go.Proofs.YtddflpokemgnmaaGreatDoor
open Go.Rv
set_option maxRecDepth 100000
set_option maxHeartbeats 2000000
set_option linter.unusedVariables false
variable {β : Type}
def VS64 (N : Nat) (zq25 : (a0 : Int) → (a1 : Int) → (k : List (Int × Int) → Bool → O β) → O β) : Rv.Spec β := fun args K => match args with
  | [.v (.agg [.int .i64 a0, .int .i64 a1])] => zq25 a0 a1 (fun z2 z3 => K (.tup [.one (.sl 50 (.pairs z2)), .one (.bool z3)]))
  | _ => none
def S64 (N : Nat) : Rv.Spec β := VS64 N (zj25 N)
def h64_0_0  (v0 : Int) (v1 : Int) (v2 : Int) (v3 : List (Int × Int)) : St := ⟨tund :: .v (.one (.ptr 0 0)) :: tund :: tund :: .v (.one (.row 1)) :: .v (.one (.int .i64 v0)) :: tund :: tund :: tund :: tund :: tund :: tund :: tund :: tund :: tund :: tund :: tund :: tund :: tund :: tund :: tund :: tund :: tund :: tund :: tund :: tund :: tund :: tund :: tund :: tund :: tund :: tund :: tund :: tund :: tund :: [], [.cells 36 [.int .i64 v1, .int .i64 v2], .row 50 (.pairs v3)]⟩
def x64_0_0_k0  (y0 : Bool) (y1 : List (Int × Int)) : St := ⟨tund :: tund :: .v (.one (.row 0)) :: .v (.one (.bool y0)) :: tund :: tund :: tund :: tund :: tund :: tund :: tund :: tund :: tund :: tund :: tund :: tund :: tund :: tund :: tund :: tund :: tund :: tund :: tund :: tund :: tund :: tund :: tund :: tund :: tund :: tund :: tund :: tund :: tund :: tund :: tund :: [], [.row 50 (.pairs y1)]⟩
def x64_0_0_k1   : St := ⟨tund :: tund :: tund :: tund :: tund :: tund :: tund :: tund :: tund :: tund :: tund :: tund :: tund :: tund :: tund :: tund :: tund :: tund :: tund :: tund :: tund :: tund :: tund :: tund :: tund :: tund :: tund :: tund :: tund :: tund :: tund :: tund :: tund :: tund :: tund :: [], []⟩
theorem fl64_0_0 (s : St) : refSt (h64_0_0 0 0 0 []) s = h64_0_0 (intS (oneA (vT (nx tund s.tmps 5)))) (intS (nx .und (cellsB (nx .dead s.blks 0)) 0)) (intS (nx .und (cellsB (nx .dead s.blks 0)) 1)) (rPairs (rowB_ (nx .dead s.blks 1))) := by kernel_rfl
def VLS64_0 (N : Nat) (zq24 : Nat → Int → Int → Int → List (Int × Int) → (Bool → List (Int × Int) → O β) → (O β) → O β) : LSpec β := fun s K => cond (shpSt (h64_0_0 0 0 0 []) s) ((fun (v0 : Int) (v1 : Int) (v2 : Int) (v3 : List (Int × Int)) => zq24  N v0 v1 v2 v3 (fun y0 y1 => K .ret (x64_0_0_k0  y0 y1)) (K (.exit 0) (x64_0_0_k1  ))) (intS (oneA (vT (nx tund s.tmps 5)))) (intS (nx .und (cellsB (nx .dead s.blks 0)) 0)) (intS (nx .und (cellsB (nx .dead s.blks 0)) 1)) (rPairs (rowB_ (nx .dead s.blks 1)))) (none)
def LS64_0 (N : Nat) : LSpec β := VLS64_0 N (zj24 N)
def VE64 (N : Nat) (zq5 : (a0 : Int) → (a1 : Int) → (k : Bool → O β) → O β) (zq17 : (a0 : Int) → (a1 : Int) → (k : List (Int × Int) → O β) → O β) (zq21 : Nat → Int → Int → List (Int × Int) → Int → Int → Int → (List (Int × Int) → Bool → O β) → O β) (zq24 : Nat → Int → Int → Int → List (Int × Int) → (Bool → List (Int × Int) → O β) → (O β) → O β) : Env β := ⟨[(77, VS77 N zq5), (78, VS78 N zq17), (79, VS79 N zq21)], [], [(0, VLS64_0 N zq24)], [], ⟨[], [], [], []⟩⟩
def E64 (N : Nat) : Env β := VE64 N (zj5 N) (zj17 N) (zj21 N) (zj24 N)
def zb23 (N : Nat) (zq21 : Nat → Int → Int → List (Int × Int) → Int → Int → Int → (List (Int × Int) → Bool → O β) → O β)  (v0 : Int) (v1 : Int) (v2 : Int) (v3 : List (Int × Int)) (rec_ : Int → Int → Int → List (Int × Int) → O β) (k0 : Bool → List (Int × Int) → O β) (k1 : O β) : O β :=
(cond ((decide (v0 ≤ 8)))
(zq21 N v1 v2 v3 0 v2 v0 fun r6 r7 =>
(cond r7
(k0 true r6)
(rec_ ((w64 (v0 + 1))) v1 v2 v3)))
(k1 ))
theorem zt23 (N : Nat)  (v0 : Int) (v1 : Int) (v2 : Int) (v3 : List (Int × Int)) (rec_ : Int → Int → Int → List (Int × Int) → O β) (k0 : Bool → List (Int × Int) → O β) (k1 : O β) : zj23 N v0 v1 v2 v3 rec_ k0 k1 = zb23 N (zj21 N) v0 v1 v2 v3 rec_ k0 k1 := by
  unfold zj23 zb23
  rfl
theorem vst64_0_0 (N : Nat) (zq5 : (a0 : Int) → (a1 : Int) → (k : Bool → O β) → O β) (zq17 : (a0 : Int) → (a1 : Int) → (k : List (Int × Int) → O β) → O β) (zq21 : Nat → Int → Int → List (Int × Int) → Int → Int → Int → (List (Int × Int) → Bool → O β) → O β) (zq24 : Nat → Int → Int → Int → List (Int × Int) → (Bool → List (Int × Int) → O β) → (O β) → O β)  (v0 : Int) (v1 : Int) (v2 : Int) (v3 : List (Int × Int)) (rec_ : St → O β) (K : Exit → St → O β) :
    ev lay (VE64 N zq5 zq17 zq21 zq24) (retMask Tryz.f64) (lp Tryz.f64 0).body (lp Tryz.f64 0).ex ((lp Tryz.f64 0).lv (retMask Tryz.f64)) (h64_0_0  v0 v1 v2 v3) (nextR (fun s' => rec_ (s'.tidy ((lp Tryz.f64 0).lv (retMask Tryz.f64)))) K) = zb23 N zq21  v0 v1 v2 v3 (fun v0 v1 v2 v3 => rec_ (h64_0_0  v0 v1 v2 v3)) (fun y0 y1 => K .ret (x64_0_0_k0  y0 y1)) (K (.exit 0) (x64_0_0_k1  )) := by kernel_rfl
theorem st64_0_0 (N : Nat)  (v0 : Int) (v1 : Int) (v2 : Int) (v3 : List (Int × Int)) (rec_ : St → O β) (K : Exit → St → O β) :
    ev lay (E64 N) (retMask Tryz.f64) (lp Tryz.f64 0).body (lp Tryz.f64 0).ex ((lp Tryz.f64 0).lv (retMask Tryz.f64)) (h64_0_0  v0 v1 v2 v3) (nextR (fun s' => rec_ (s'.tidy ((lp Tryz.f64 0).lv (retMask Tryz.f64)))) K) = zj23 N  v0 v1 v2 v3 (fun v0 v1 v2 v3 => rec_ (h64_0_0  v0 v1 v2 v3)) (fun y0 y1 => K .ret (x64_0_0_k0  y0 y1)) (K (.exit 0) (x64_0_0_k1  )) := (vst64_0_0 N (zj5 N) (zj17 N) (zj21 N) (zj24 N) v0 v1 v2 v3 rec_ K).trans (zt23 N  v0 v1 v2 v3 (fun v0 v1 v2 v3 => rec_ (h64_0_0  v0 v1 v2 v3)) (fun y0 y1 => K .ret (x64_0_0_k0  y0 y1)) (K (.exit 0) (x64_0_0_k1  ))).symm
theorem ro64_0_0 (N : Nat)  (K : Exit → St → O β) : ∀ (F : Nat) (v0 : Int) (v1 : Int) (v2 : Int) (v3 : List (Int × Int)), (lp Tryz.f64 0).rounds lay (E64 N) (retMask Tryz.f64) F (h64_0_0  v0 v1 v2 v3) K = zj24 N  F v0 v1 v2 v3 (fun y0 y1 => K .ret (x64_0_0_k0  y0 y1)) (K (.exit 0) (x64_0_0_k1  )) := by
  intro F
  induction F with
  | zero => intros; rfl
  | succ F ih =>
    intros
    rw [rounds_next]
    refine (st64_0_0 N  _ _ _ _ (fun s => (lp Tryz.f64 0).rounds lay (E64 N) (retMask Tryz.f64) F s K) K).trans ?_
    simp only [ih]
    rfl
theorem lk64_0 (N : Nat) : lookL (E64 (β := β) N).loops (lp Tryz.f64 0).id = LS64_0 N := by kernel_rfl
theorem rk64_0 (N : Nat) : RoundsOK lay (E64 (β := β) N) (retMask Tryz.f64) (lp Tryz.f64 0) := by
  intro s K r h
  rw [lk64_0] at h
  unfold LS64_0 VLS64_0 at h
  cases hb : shpSt (h64_0_0 0 0 0 []) s with
  | true =>
    rw [hb, cond_true] at h
    exact ⟨N, by rw [← shpSt_ref hb, fl64_0_0 s]; exact (ro64_0_0 N  K N (intS (oneA (vT (nx tund s.tmps 5)))) (intS (nx .und (cellsB (nx .dead s.blks 0)) 0)) (intS (nx .und (cellsB (nx .dead s.blks 0)) 1)) (rPairs (rowB_ (nx .dead s.blks 1)))).trans h⟩
  | false =>
  rw [hb, cond_false] at h
  clear hb
  cases h
def zb25 (N : Nat) (zq5 : (a0 : Int) → (a1 : Int) → (k : Bool → O β) → O β) (zq17 : (a0 : Int) → (a1 : Int) → (k : List (Int × Int) → O β) → O β) (zq24 : Nat → Int → Int → Int → List (Int × Int) → (Bool → List (Int × Int) → O β) → (O β) → O β) (a0 : Int) (a1 : Int) (k : List (Int × Int) → Bool → O β) : O β :=
zq5 a0 a1 fun r4 =>
(cond (!r4)
(k (([] : List (Int × Int))) false)
((cond ((decide (a0 > 4)))
(k (([] : List (Int × Int))) false)
(zq17 a0 a1 fun r5 =>
zq24  N 0 a0 a1 r5 (fun e8_0 e8_1 =>
k e8_1 e8_0) (k (([] : List (Int × Int))) false)))))
theorem zt25 (N : Nat) (a0 : Int) (a1 : Int) (k : List (Int × Int) → Bool → O β) : zj25 N a0 a1 k = zb25 N (zj5 N) (zj17 N) (zj24 N) a0 a1 k := by
  unfold zj25 zb25
  rfl
theorem ve64_0 (N : Nat) (zq5 : (a0 : Int) → (a1 : Int) → (k : Bool → O β) → O β) (zq17 : (a0 : Int) → (a1 : Int) → (k : List (Int × Int) → O β) → O β) (zq21 : Nat → Int → Int → List (Int × Int) → Int → Int → Int → (List (Int × Int) → Bool → O β) → O β) (zq24 : Nat → Int → Int → Int → List (Int × Int) → (Bool → List (Int × Int) → O β) → (O β) → O β)  (a0 : Int) (a1 : Int) (K : TV → O β) : evFn lay (VE64 N zq5 zq17 zq21 zq24) Tryz.f64 [.v (.agg [.int .i64 a0, .int .i64 a1])] K = zb25 N zq5 zq17 zq24 a0 a1 (fun z2 z3 => K (.tup [.one (.sl 50 (.pairs z2)), .one (.bool z3)])) := by kernel_rfl
theorem e64_0 (N : Nat)  (a0 : Int) (a1 : Int) (K : TV → O β) : evFn lay (E64 N) Tryz.f64 [.v (.agg [.int .i64 a0, .int .i64 a1])] K = zj25 N a0 a1 (fun z2 z3 => K (.tup [.one (.sl 50 (.pairs z2)), .one (.bool z3)])) := (ve64_0 N (zj5 N) (zj17 N) (zj21 N) (zj24 N) a0 a1 K).trans (zt25 N a0 a1 (fun z2 z3 => K (.tup [.one (.sl 50 (.pairs z2)), .one (.bool z3)]))).symm
theorem o64 (N : Nat) : SpecOK (β := β) inv Tryz.prog 64 (S64 N) := by
  refine spec_of lay_ok mixed (E := E64 N) (specs_loops (specs_cons (o77 N) (specs_cons (o78 N) (specs_cons (o79 N) specs_nil)))) muts_nil gs_nil Tryz.func64 (by kernel_rfl) 1 (by kernel_rfl) ⟨trivial, rk64_0 N⟩ fun args K r h => ?_
  unfold S64 VS64 at h
  split at h
  · exact (e64_0 N _ _ _).trans h
  · cases h
def VS67 (N : Nat) (zq26 : (a0 : List Int) → (a1 : Int) → (a2 : Int) → (k0 : Int → List Int → Int → Int → O β) → O β) : GSpec β := fun args bl K => match args, bl with
  | [.v (.one (.ptr 0 0))], [.pcells 0 80 [.sl 5 (.ints .u8 a0), .int .i64 a1, .int .i64 a2]] => zq26 a0 a1 a2 (fun y0 y1 y2 y3 => K (.v (.one (.int .i64 y0))) [.pcells 0 80 [.sl 5 (.ints .u8 y1), .int .i64 y2, .int .i64 y3]])
  | _, _ => none
def S67 (N : Nat) : GSpec β := VS67 N (zj26 N)
def VE67 (N : Nat) : Env β := ⟨[], [], [], [], ⟨[], [], [], []⟩⟩
def E67 (N : Nat) : Env β := VE67 N
def zb26 (N : Nat) (a0 : List Int) (a1 : Int) (a2 : Int) (k0 : Int → List Int → Int → Int → O β) : O β :=
(cond ((decide (a1 < (a0.length : Int))))
((gd ((decide (0 ≤ a1)))
((gd ((decide (a1 < (a0.length : Int))))
(k0 ((bits .and .i64 (w64 ((bits .and .i64 (bits .xor .i64 (shrI .i64 (w64 ((w64 (a2 * 6364136223846793005)) + 1442695040888963407)) 33) (shrI .i64 (w64 ((w64 (a2 * 6364136223846793005)) + 1442695040888963407)) 45)) 255) + (w64 ((rd 0 a0 a1))))) 255)) a0 ((w64 (a1 + 1))) ((w64 ((w64 (a2 * 6364136223846793005)) + 1442695040888963407))))))))
(k0 ((bits .and .i64 (bits .xor .i64 (shrI .i64 (w64 ((w64 (a2 * 6364136223846793005)) + 1442695040888963407)) 33) (shrI .i64 (w64 ((w64 (a2 * 6364136223846793005)) + 1442695040888963407)) 45)) 255)) a0 a1 ((w64 ((w64 (a2 * 6364136223846793005)) + 1442695040888963407)))))
theorem zt26 (N : Nat) (a0 : List Int) (a1 : Int) (a2 : Int) (k0 : Int → List Int → Int → Int → O β) : zj26 N a0 a1 a2 k0 = zb26 N a0 a1 a2 k0 := by
  unfold zj26 zb26
  rfl
theorem ve67_0 (N : Nat) (a0 : List Int) (a1 : Int) (a2 : Int) (K : TV → List Blk → O β) : evFnG lay (VE67 N) Tryz.f67 [.v (.one (.ptr 0 0))] [.pcells 0 80 [.sl 5 (.ints .u8 a0), .int .i64 a1, .int .i64 a2]] K = zb26 N a0 a1 a2 (fun y0 y1 y2 y3 => K (.v (.one (.int .i64 y0))) [.pcells 0 80 [.sl 5 (.ints .u8 y1), .int .i64 y2, .int .i64 y3]]) := by kernel_rfl
theorem e67_0 (N : Nat) (a0 : List Int) (a1 : Int) (a2 : Int) (K : TV → List Blk → O β) : evFnG lay (E67 N) Tryz.f67 [.v (.one (.ptr 0 0))] [.pcells 0 80 [.sl 5 (.ints .u8 a0), .int .i64 a1, .int .i64 a2]] K = zj26 N a0 a1 a2 (fun y0 y1 y2 y3 => K (.v (.one (.int .i64 y0))) [.pcells 0 80 [.sl 5 (.ints .u8 y1), .int .i64 y2, .int .i64 y3]]) := (ve67_0 N a0 a1 a2 K).trans (zt26 N a0 a1 a2 (fun y0 y1 y2 y3 => K (.v (.one (.int .i64 y0))) [.pcells 0 80 [.sl 5 (.ints .u8 y1), .int .i64 y2, .int .i64 y3]])).symm
theorem o67 (N : Nat) : GOK (β := β) inv Tryz.prog 67 (S67 N) := by
  refine g_of lay_ok mixed (E := E67 N) (specs_loops specs_nil) muts_nil gs_nil Tryz.func67 (by kernel_rfl) 0 (by kernel_rfl) trivial fun args bl K r h => ?_
  unfold S67 VS67 at h
  split at h
  · exact (e67_0 N _ _ _ _).trans h
  · cases h
def VS43 (N : Nat) (zq27 : (a0 : Int) → (a1 : List Int) → (a2 : Int) → (a3 : Int) → (k0 : Int → List Int → Int → Int → O β) → O β) : GSpec β := fun args bl K => match args, bl with
  | [.v (.one (.ptr 0 0)), .v (.one (.int .i64 a0))], [.pcells 0 80 [.sl 5 (.ints .u8 a1), .int .i64 a2, .int .i64 a3]] => zq27 a0 a1 a2 a3 (fun y0 y1 y2 y3 => K (.v (.one (.int .i64 y0))) [.pcells 0 80 [.sl 5 (.ints .u8 y1), .int .i64 y2, .int .i64 y3]])
  | _, _ => none
def S43 (N : Nat) : GSpec β := VS43 N (zj27 N)
def VE43 (N : Nat) (zq26 : (a0 : List Int) → (a1 : Int) → (a2 : Int) → (k0 : Int → List Int → Int → Int → O β) → O β) : Env β := ⟨[], [], [], [(67, VS67 N zq26)], ⟨[], [], [], []⟩⟩
def E43 (N : Nat) : Env β := VE43 N (zj26 N)
def zb27 (N : Nat) (zq26 : (a0 : List Int) → (a1 : Int) → (a2 : Int) → (k0 : Int → List Int → Int → Int → O β) → O β) (a0 : Int) (a1 : List Int) (a2 : Int) (a3 : Int) (k0 : Int → List Int → Int → Int → O β) : O β :=
(cond ((decide (a0 ≤ 0)))
(k0 0 a1 a2 a3)
((cond ((decide (a0 ≤ 256)))
(zq26 a1 a2 a3 (fun r5_0 r5_1 r5_2 r5_3 =>
(gd ((a0 != 0))
(k0 ((remI r5_0 a0)) r5_1 r5_2 r5_3))))
(zq26 a1 a2 a3 (fun r6_0 r6_1 r6_2 r6_3 =>
zq26 r6_1 r6_2 r6_3 (fun r7_0 r7_1 r7_2 r7_3 =>
zq26 r7_1 r7_2 r7_3 (fun r8_0 r8_1 r8_2 r8_3 =>
zq26 r8_1 r8_2 r8_3 (fun r9_0 r9_1 r9_2 r9_3 =>
(gd ((a0 != 0))
(k0 ((remI (w64 ((w64 ((w64 ((w64 (r6_0 * 16777216)) + (w64 (r7_0 * 65536)))) + (w64 (r8_0 * 256)))) + r9_0)) a0)) r9_1 r9_2 r9_3))))))))))
theorem zt27 (N : Nat) (a0 : Int) (a1 : List Int) (a2 : Int) (a3 : Int) (k0 : Int → List Int → Int → Int → O β) : zj27 N a0 a1 a2 a3 k0 = zb27 N (zj26 N) a0 a1 a2 a3 k0 := by
  unfold zj27 zb27
  rfl
theorem ve43_0 (N : Nat) (zq26 : (a0 : List Int) → (a1 : Int) → (a2 : Int) → (k0 : Int → List Int → Int → Int → O β) → O β) (a0 : Int) (a1 : List Int) (a2 : Int) (a3 : Int) (K : TV → List Blk → O β) : evFnG lay (VE43 N zq26) Tryz.f43 [.v (.one (.ptr 0 0)), .v (.one (.int .i64 a0))] [.pcells 0 80 [.sl 5 (.ints .u8 a1), .int .i64 a2, .int .i64 a3]] K = zb27 N zq26 a0 a1 a2 a3 (fun y0 y1 y2 y3 => K (.v (.one (.int .i64 y0))) [.pcells 0 80 [.sl 5 (.ints .u8 y1), .int .i64 y2, .int .i64 y3]]) := by kernel_rfl
theorem e43_0 (N : Nat) (a0 : Int) (a1 : List Int) (a2 : Int) (a3 : Int) (K : TV → List Blk → O β) : evFnG lay (E43 N) Tryz.f43 [.v (.one (.ptr 0 0)), .v (.one (.int .i64 a0))] [.pcells 0 80 [.sl 5 (.ints .u8 a1), .int .i64 a2, .int .i64 a3]] K = zj27 N a0 a1 a2 a3 (fun y0 y1 y2 y3 => K (.v (.one (.int .i64 y0))) [.pcells 0 80 [.sl 5 (.ints .u8 y1), .int .i64 y2, .int .i64 y3]]) := (ve43_0 N (zj26 N) a0 a1 a2 a3 K).trans (zt27 N a0 a1 a2 a3 (fun y0 y1 y2 y3 => K (.v (.one (.int .i64 y0))) [.pcells 0 80 [.sl 5 (.ints .u8 y1), .int .i64 y2, .int .i64 y3]])).symm
theorem o43 (N : Nat) : GOK (β := β) inv Tryz.prog 43 (S43 N) := by
  refine g_of lay_ok mixed (E := E43 N) (specs_loops specs_nil) muts_nil (gs_cons (o67 N) gs_nil) Tryz.func43 (by kernel_rfl) 0 (by kernel_rfl) trivial fun args bl K r h => ?_
  unfold S43 VS43 at h
  split at h
  · exact (e43_0 N _ _ _ _ _).trans h
  · cases h
def VS88 (N : Nat) (zq30 : (a0 : Int) → (a1 : Int) → (k : Int → O β) → O β) : Rv.Spec β := fun args K => match args with
  | [.v (.one (.int .i64 a0)), .v (.one (.int .i64 a1))] => zq30 a0 a1 (fun z2 => K (.v (.one (.int .i64 z2))))
  | _ => none
def S88 (N : Nat) : Rv.Spec β := VS88 N (zj30 N)
def h88_0_0  (v0 : Int) (v1 : Int) (v2 : Int) (v3 : Int) : St := ⟨.v (.one (.int .i64 v0)) :: .v (.one (.int .i64 v1)) :: tund :: tund :: tund :: .v (.one (.int .i64 v2)) :: .v (.one (.int .i64 v3)) :: tund :: tund :: tund :: tund :: tund :: tund :: tund :: tund :: tund :: tund :: tund :: tund :: tund :: tund :: tund :: tund :: [], []⟩
def x88_0_0_k0  (y0 : Int) : St := ⟨tund :: tund :: tund :: tund :: tund :: .v (.one (.int .i64 y0)) :: tund :: tund :: tund :: tund :: tund :: tund :: tund :: tund :: tund :: tund :: tund :: tund :: tund :: tund :: tund :: tund :: tund :: [], []⟩
theorem fl88_0_0 (s : St) : refSt (h88_0_0 0 0 0 0) s = h88_0_0 (intS (oneA (vT (nx tund s.tmps 0)))) (intS (oneA (vT (nx tund s.tmps 1)))) (intS (oneA (vT (nx tund s.tmps 5)))) (intS (oneA (vT (nx tund s.tmps 6)))) := by kernel_rfl
def VLS88_0 (N : Nat) (zq29 : Nat → Int → Int → Int → Int → (Int → O β) → O β) : LSpec β := fun s K => cond (shpSt (h88_0_0 0 0 0 0) s) ((fun (v0 : Int) (v1 : Int) (v2 : Int) (v3 : Int) => zq29  N v0 v1 v2 v3 (fun y0 => K (.exit 0) (x88_0_0_k0  y0))) (intS (oneA (vT (nx tund s.tmps 0)))) (intS (oneA (vT (nx tund s.tmps 1)))) (intS (oneA (vT (nx tund s.tmps 5)))) (intS (oneA (vT (nx tund s.tmps 6))))) (none)
def LS88_0 (N : Nat) : LSpec β := VLS88_0 N (zj29 N)
def VE88 (N : Nat) (zq29 : Nat → Int → Int → Int → Int → (Int → O β) → O β) : Env β := ⟨[], [], [(0, VLS88_0 N zq29)], [], ⟨[], [], [], []⟩⟩
def E88 (N : Nat) : Env β := VE88 N (zj29 N)
def zb28 (N : Nat)  (v0 : Int) (v1 : Int) (v2 : Int) (v3 : Int) (rec_ : Int → Int → Int → Int → O β) (k0 : Int → O β) : O β :=
(gd ((decide (0 ≤ v0)))
((cond ((decide (v3 < (shlI .i64 1 v0))))
((gd ((decide (0 ≤ v1)))
((cond (((bits .and .i64 (shrI .i64 v3 v1) 1) == 1))
((gd ((decide (0 ≤ v3)))
(rec_ v0 v1 ((bits .or .i64 v2 (shlI .i64 1 v3))) ((w64 (v3 + 1))))))
(rec_ v0 v1 v2 ((w64 (v3 + 1))))))))
(k0 v2))))
theorem zt28 (N : Nat)  (v0 : Int) (v1 : Int) (v2 : Int) (v3 : Int) (rec_ : Int → Int → Int → Int → O β) (k0 : Int → O β) : zj28 N v0 v1 v2 v3 rec_ k0 = zb28 N v0 v1 v2 v3 rec_ k0 := by
  unfold zj28 zb28
  rfl
theorem vst88_0_0 (N : Nat) (zq29 : Nat → Int → Int → Int → Int → (Int → O β) → O β)  (v0 : Int) (v1 : Int) (v2 : Int) (v3 : Int) (rec_ : St → O β) (K : Exit → St → O β) :
    ev lay (VE88 N zq29) (retMask Tryz.f88) (lp Tryz.f88 0).body (lp Tryz.f88 0).ex ((lp Tryz.f88 0).lv (retMask Tryz.f88)) (h88_0_0  v0 v1 v2 v3) (nextR (fun s' => rec_ (s'.tidy ((lp Tryz.f88 0).lv (retMask Tryz.f88)))) K) = zb28 N  v0 v1 v2 v3 (fun v0 v1 v2 v3 => rec_ (h88_0_0  v0 v1 v2 v3)) (fun y0 => K (.exit 0) (x88_0_0_k0  y0)) := by kernel_rfl
theorem st88_0_0 (N : Nat)  (v0 : Int) (v1 : Int) (v2 : Int) (v3 : Int) (rec_ : St → O β) (K : Exit → St → O β) :
    ev lay (E88 N) (retMask Tryz.f88) (lp Tryz.f88 0).body (lp Tryz.f88 0).ex ((lp Tryz.f88 0).lv (retMask Tryz.f88)) (h88_0_0  v0 v1 v2 v3) (nextR (fun s' => rec_ (s'.tidy ((lp Tryz.f88 0).lv (retMask Tryz.f88)))) K) = zj28 N  v0 v1 v2 v3 (fun v0 v1 v2 v3 => rec_ (h88_0_0  v0 v1 v2 v3)) (fun y0 => K (.exit 0) (x88_0_0_k0  y0)) := (vst88_0_0 N (zj29 N) v0 v1 v2 v3 rec_ K).trans (zt28 N  v0 v1 v2 v3 (fun v0 v1 v2 v3 => rec_ (h88_0_0  v0 v1 v2 v3)) (fun y0 => K (.exit 0) (x88_0_0_k0  y0))).symm
theorem ro88_0_0 (N : Nat)  (K : Exit → St → O β) : ∀ (F : Nat) (v0 : Int) (v1 : Int) (v2 : Int) (v3 : Int), (lp Tryz.f88 0).rounds lay (E88 N) (retMask Tryz.f88) F (h88_0_0  v0 v1 v2 v3) K = zj29 N  F v0 v1 v2 v3 (fun y0 => K (.exit 0) (x88_0_0_k0  y0)) := by
  intro F
  induction F with
  | zero => intros; rfl
  | succ F ih =>
    intros
    rw [rounds_next]
    refine (st88_0_0 N  _ _ _ _ (fun s => (lp Tryz.f88 0).rounds lay (E88 N) (retMask Tryz.f88) F s K) K).trans ?_
    simp only [ih]
    rfl
theorem lk88_0 (N : Nat) : lookL (E88 (β := β) N).loops (lp Tryz.f88 0).id = LS88_0 N := by kernel_rfl
theorem rk88_0 (N : Nat) : RoundsOK lay (E88 (β := β) N) (retMask Tryz.f88) (lp Tryz.f88 0) := by
  intro s K r h
  rw [lk88_0] at h
  unfold LS88_0 VLS88_0 at h
  cases hb : shpSt (h88_0_0 0 0 0 0) s with
  | true =>
    rw [hb, cond_true] at h
    exact ⟨N, by rw [← shpSt_ref hb, fl88_0_0 s]; exact (ro88_0_0 N  K N (intS (oneA (vT (nx tund s.tmps 0)))) (intS (oneA (vT (nx tund s.tmps 1)))) (intS (oneA (vT (nx tund s.tmps 5)))) (intS (oneA (vT (nx tund s.tmps 6))))).trans h⟩
  | false =>
  rw [hb, cond_false] at h
  clear hb
  cases h
def zb30 (N : Nat) (zq29 : Nat → Int → Int → Int → Int → (Int → O β) → O β) (a0 : Int) (a1 : Int) (k : Int → O β) : O β :=
zq29  N a0 a1 0 0 (fun e3_0 =>
k e3_0)
theorem zt30 (N : Nat) (a0 : Int) (a1 : Int) (k : Int → O β) : zj30 N a0 a1 k = zb30 N (zj29 N) a0 a1 k := by
  unfold zj30 zb30
  rfl
theorem ve88_0 (N : Nat) (zq29 : Nat → Int → Int → Int → Int → (Int → O β) → O β)  (a0 : Int) (a1 : Int) (K : TV → O β) : evFn lay (VE88 N zq29) Tryz.f88 [.v (.one (.int .i64 a0)), .v (.one (.int .i64 a1))] K = zb30 N zq29 a0 a1 (fun z2 => K (.v (.one (.int .i64 z2)))) := by kernel_rfl
theorem e88_0 (N : Nat)  (a0 : Int) (a1 : Int) (K : TV → O β) : evFn lay (E88 N) Tryz.f88 [.v (.one (.int .i64 a0)), .v (.one (.int .i64 a1))] K = zj30 N a0 a1 (fun z2 => K (.v (.one (.int .i64 z2)))) := (ve88_0 N (zj29 N) a0 a1 K).trans (zt30 N a0 a1 (fun z2 => K (.v (.one (.int .i64 z2))))).symm
theorem o88 (N : Nat) : SpecOK (β := β) inv Tryz.prog 88 (S88 N) := by
  refine spec_of lay_ok mixed (E := E88 N) (specs_loops specs_nil) muts_nil gs_nil Tryz.func88 (by kernel_rfl) 1 (by kernel_rfl) ⟨trivial, rk88_0 N⟩ fun args K r h => ?_
  unfold S88 VS88 at h
  split at h
  · exact (e88_0 N _ _ _).trans h
  · cases h
def VS90 (N : Nat) (zq31 : (a0 : Int) → (k : Int → O β) → O β) : Rv.Spec β := fun args K => match args with
  | [.v (.one (.int .i64 a0))] => zq31 a0 (fun z1 => K (.v (.one (.int .i64 z1))))
  | _ => none
def S90 (N : Nat) : Rv.Spec β := VS90 N (zj31 N)
def VE90 (N : Nat) : Env β := ⟨[], [], [], [], ⟨[], [], [], []⟩⟩
def E90 (N : Nat) : Env β := VE90 N
def zb31 (N : Nat) (a0 : Int) (k : Int → O β) : O β :=
(gd ((decide (0 ≤ a0)))
((gd ((decide (0 ≤ (shlI .u64 1 a0))))
(k ((w64 ((shlI .i64 1 (shlI .u64 1 a0)) - 1)))))))
theorem zt31 (N : Nat) (a0 : Int) (k : Int → O β) : zj31 N a0 k = zb31 N a0 k := by
  unfold zj31 zb31
  rfl
theorem ve90_0 (N : Nat)  (a0 : Int) (K : TV → O β) : evFn lay (VE90 N) Tryz.f90 [.v (.one (.int .i64 a0))] K = zb31 N a0 (fun z1 => K (.v (.one (.int .i64 z1)))) := by kernel_rfl
theorem e90_0 (N : Nat)  (a0 : Int) (K : TV → O β) : evFn lay (E90 N) Tryz.f90 [.v (.one (.int .i64 a0))] K = zj31 N a0 (fun z1 => K (.v (.one (.int .i64 z1)))) := (ve90_0 N a0 K).trans (zt31 N a0 (fun z1 => K (.v (.one (.int .i64 z1))))).symm
theorem o90 (N : Nat) : SpecOK (β := β) inv Tryz.prog 90 (S90 N) := by
  refine spec_of lay_ok mixed (E := E90 N) (specs_loops specs_nil) muts_nil gs_nil Tryz.func90 (by kernel_rfl) 0 (by kernel_rfl) trivial fun args K r h => ?_
  unfold S90 VS90 at h
  split at h
  · exact (e90_0 N _ _).trans h
  · cases h
def VS89 (N : Nat) (zq34 : (a0 : Int) → (k : Int → O β) → O β) : Rv.Spec β := fun args K => match args with
  | [.v (.one (.int .i64 a0))] => zq34 a0 (fun z1 => K (.v (.one (.int .i64 z1))))
  | _ => none
def S89 (N : Nat) : Rv.Spec β := VS89 N (zj34 N)
def h89_0_0  (v0 : Int) (v1 : Int) : St := ⟨tund :: tund :: tund :: .v (.one (.int .i64 v0)) :: .v (.one (.int .i64 v1)) :: tund :: tund :: tund :: tund :: tund :: tund :: tund :: tund :: tund :: tund :: [], []⟩
def x89_0_0_k0  (y0 : Int) : St := ⟨tund :: tund :: tund :: .v (.one (.int .i64 y0)) :: tund :: tund :: tund :: tund :: tund :: tund :: tund :: tund :: tund :: tund :: tund :: [], []⟩
theorem fl89_0_0 (s : St) : refSt (h89_0_0 0 0) s = h89_0_0 (intS (oneA (vT (nx tund s.tmps 3)))) (intS (oneA (vT (nx tund s.tmps 4)))) := by kernel_rfl
def VLS89_0 (N : Nat) (zq33 : Nat → Int → Int → (Int → O β) → O β) : LSpec β := fun s K => cond (shpSt (h89_0_0 0 0) s) ((fun (v0 : Int) (v1 : Int) => zq33  N v0 v1 (fun y0 => K (.exit 0) (x89_0_0_k0  y0))) (intS (oneA (vT (nx tund s.tmps 3)))) (intS (oneA (vT (nx tund s.tmps 4))))) (none)
def LS89_0 (N : Nat) : LSpec β := VLS89_0 N (zj33 N)
def VE89 (N : Nat) (zq33 : Nat → Int → Int → (Int → O β) → O β) : Env β := ⟨[], [], [(0, VLS89_0 N zq33)], [], ⟨[], [], [], []⟩⟩
def E89 (N : Nat) : Env β := VE89 N (zj33 N)
def zb32 (N : Nat)  (v0 : Int) (v1 : Int) (rec_ : Int → Int → O β) (k0 : Int → O β) : O β :=
(cond ((decide (v1 > 0)))
(rec_ ((w64 (v0 + (bits .and .i64 v1 1)))) ((shrI .i64 v1 1)))
(k0 v0))
theorem zt32 (N : Nat)  (v0 : Int) (v1 : Int) (rec_ : Int → Int → O β) (k0 : Int → O β) : zj32 N v0 v1 rec_ k0 = zb32 N v0 v1 rec_ k0 := by
  unfold zj32 zb32
  rfl
theorem vst89_0_0 (N : Nat) (zq33 : Nat → Int → Int → (Int → O β) → O β)  (v0 : Int) (v1 : Int) (rec_ : St → O β) (K : Exit → St → O β) :
    ev lay (VE89 N zq33) (retMask Tryz.f89) (lp Tryz.f89 0).body (lp Tryz.f89 0).ex ((lp Tryz.f89 0).lv (retMask Tryz.f89)) (h89_0_0  v0 v1) (nextR (fun s' => rec_ (s'.tidy ((lp Tryz.f89 0).lv (retMask Tryz.f89)))) K) = zb32 N  v0 v1 (fun v0 v1 => rec_ (h89_0_0  v0 v1)) (fun y0 => K (.exit 0) (x89_0_0_k0  y0)) := by kernel_rfl
theorem st89_0_0 (N : Nat)  (v0 : Int) (v1 : Int) (rec_ : St → O β) (K : Exit → St → O β) :
    ev lay (E89 N) (retMask Tryz.f89) (lp Tryz.f89 0).body (lp Tryz.f89 0).ex ((lp Tryz.f89 0).lv (retMask Tryz.f89)) (h89_0_0  v0 v1) (nextR (fun s' => rec_ (s'.tidy ((lp Tryz.f89 0).lv (retMask Tryz.f89)))) K) = zj32 N  v0 v1 (fun v0 v1 => rec_ (h89_0_0  v0 v1)) (fun y0 => K (.exit 0) (x89_0_0_k0  y0)) := (vst89_0_0 N (zj33 N) v0 v1 rec_ K).trans (zt32 N  v0 v1 (fun v0 v1 => rec_ (h89_0_0  v0 v1)) (fun y0 => K (.exit 0) (x89_0_0_k0  y0))).symm
theorem ro89_0_0 (N : Nat)  (K : Exit → St → O β) : ∀ (F : Nat) (v0 : Int) (v1 : Int), (lp Tryz.f89 0).rounds lay (E89 N) (retMask Tryz.f89) F (h89_0_0  v0 v1) K = zj33 N  F v0 v1 (fun y0 => K (.exit 0) (x89_0_0_k0  y0)) := by
  intro F
  induction F with
  | zero => intros; rfl
  | succ F ih =>
    intros
    rw [rounds_next]
    refine (st89_0_0 N  _ _ (fun s => (lp Tryz.f89 0).rounds lay (E89 N) (retMask Tryz.f89) F s K) K).trans ?_
    simp only [ih]
    rfl
theorem lk89_0 (N : Nat) : lookL (E89 (β := β) N).loops (lp Tryz.f89 0).id = LS89_0 N := by kernel_rfl
theorem rk89_0 (N : Nat) : RoundsOK lay (E89 (β := β) N) (retMask Tryz.f89) (lp Tryz.f89 0) := by
  intro s K r h
  rw [lk89_0] at h
  unfold LS89_0 VLS89_0 at h
  cases hb : shpSt (h89_0_0 0 0) s with
  | true =>
    rw [hb, cond_true] at h
    exact ⟨N, by rw [← shpSt_ref hb, fl89_0_0 s]; exact (ro89_0_0 N  K N (intS (oneA (vT (nx tund s.tmps 3)))) (intS (oneA (vT (nx tund s.tmps 4))))).trans h⟩
  | false =>
  rw [hb, cond_false] at h
  clear hb
  cases h
def zb34 (N : Nat) (zq33 : Nat → Int → Int → (Int → O β) → O β) (a0 : Int) (k : Int → O β) : O β :=
zq33  N 0 a0 (fun e2_0 =>
k e2_0)
theorem zt34 (N : Nat) (a0 : Int) (k : Int → O β) : zj34 N a0 k = zb34 N (zj33 N) a0 k := by
  unfold zj34 zb34
  rfl
theorem ve89_0 (N : Nat) (zq33 : Nat → Int → Int → (Int → O β) → O β)  (a0 : Int) (K : TV → O β) : evFn lay (VE89 N zq33) Tryz.f89 [.v (.one (.int .i64 a0))] K = zb34 N zq33 a0 (fun z1 => K (.v (.one (.int .i64 z1)))) := by kernel_rfl
theorem e89_0 (N : Nat)  (a0 : Int) (K : TV → O β) : evFn lay (E89 N) Tryz.f89 [.v (.one (.int .i64 a0))] K = zj34 N a0 (fun z1 => K (.v (.one (.int .i64 z1)))) := (ve89_0 N (zj33 N) a0 K).trans (zt34 N a0 (fun z1 => K (.v (.one (.int .i64 z1))))).symm
theorem o89 (N : Nat) : SpecOK (β := β) inv Tryz.prog 89 (S89 N) := by
  refine spec_of lay_ok mixed (E := E89 N) (specs_loops specs_nil) muts_nil gs_nil Tryz.func89 (by kernel_rfl) 1 (by kernel_rfl) ⟨trivial, rk89_0 N⟩ fun args K r h => ?_
  unfold S89 VS89 at h
  split at h
  · exact (e89_0 N _ _).trans h
  · cases h
end Go.Proofs.YtddflpokemgnmaaGreatDoor
