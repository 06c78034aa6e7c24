/- The functions that the claims reach answer as their texts do. -/
import Derived.Test.YtddflpokemgnmaaGreatDoorE5
namespace Go.Proofs.YtddflpokemgnmaaGreatDoor
open Go.Rv
set_option maxRecDepth 100000
set_option maxHeartbeats 2000000
set_option linter.unusedVariables false
variable {β : Type}
def VS54 (N : Nat) (zq105 : (a0 : Int) → (a1 : (Int → (Bool → O β) → O β)) → (k : Int → Int → O β) → O β) (zq102 : (a0 : Int) → (c0 : List (Int × Int)) → (k : Bool → O β) → O β) : Rv.Spec β := fun args K => match args with
  | [.v (.one (.int .i64 a0)), .v (.one (.dfn 55 [([.sl 50 (.pairs q0)], 0)]))] => zq105 a0 (fun x0 k => zq102 x0 q0 k) (fun z2 z3 => K (.v (.agg [.int .i64 z2, .int .i64 z3])))
  | _ => none
def S54 (N : Nat) : Rv.Spec β := VS54 N (zj105 N) (zj102 N)
def h54_0_0 (q0 : List (Int × Int)) (v0 : Int) (v1 : Int) (v2 : Int) (v3 : Int) (v4 : Int) (v5 : Int) : St := ⟨tund :: .v (.one (.dfn 55 [([.sl 50 (.pairs q0)], 0)])) :: tund :: tund :: .v (.one (.ptr 0 0)) :: .v (.one (.ptr 1 0)) :: tund :: tund :: tund :: tund :: .v (.one (.int .i64 v0)) :: .v (.one (.int .i64 v1)) :: tund :: tund :: tund :: tund :: tund :: tund :: tund :: tund :: tund :: tund :: tund :: tund :: tund :: [], [.cells 36 [.int .i64 v2, .int .i64 v3], .cells 36 [.int .i64 v4, .int .i64 v5]]⟩
def x54_0_0_k0 (q0 : List (Int × Int)) (y0 : Int) (y1 : Int) (y2 : Int) (y3 : Int) : St := ⟨tund :: tund :: tund :: tund :: .v (.one (.ptr 0 0)) :: .v (.one (.ptr 1 0)) :: tund :: tund :: tund :: tund :: tund :: tund :: tund :: tund :: tund :: tund :: tund :: tund :: tund :: tund :: tund :: tund :: tund :: tund :: tund :: [], [.cells 36 [.int .i64 y0, .int .i64 y1], .cells 36 [.int .i64 y2, .int .i64 y3]]⟩
theorem fl54_0_0 (s : St) : refSt (h54_0_0 [] 0 0 0 0 0 0) s = h54_0_0 (rPairs (rowF (nx .no (nx ([], 0) (dfnS (oneA (vT (nx tund s.tmps 1)))) 0).1 0))) (intS (oneA (vT (nx tund s.tmps 10)))) (intS (oneA (vT (nx tund s.tmps 11)))) (intS (nx .und (cellsB (nx .dead s.blks 0)) 0)) (intS (nx .und (cellsB (nx .dead s.blks 0)) 1)) (intS (nx .und (cellsB (nx .dead s.blks 1)) 0)) (intS (nx .und (cellsB (nx .dead s.blks 1)) 1)) := by kernel_rfl
def VLS54_0 (N : Nat) (zq104 : (a1 : (Int → (Bool → O β) → O β)) → Nat → Int → Int → Int → Int → Int → Int → (Int → Int → Int → Int → O β) → O β) (zq102 : (a0 : Int) → (c0 : List (Int × Int)) → (k : Bool → O β) → O β) : LSpec β := fun s K => cond (shpSt (h54_0_0 [] 0 0 0 0 0 0) s) ((fun (q0 : List (Int × Int)) (v0 : Int) (v1 : Int) (v2 : Int) (v3 : Int) (v4 : Int) (v5 : Int) => zq104 (fun x0 k => zq102 x0 q0 k) N v0 v1 v2 v3 v4 v5 (fun y0 y1 y2 y3 => K (.exit 0) (x54_0_0_k0 q0 y0 y1 y2 y3))) (rPairs (rowF (nx .no (nx ([], 0) (dfnS (oneA (vT (nx tund s.tmps 1)))) 0).1 0))) (intS (oneA (vT (nx tund s.tmps 10)))) (intS (oneA (vT (nx tund s.tmps 11)))) (intS (nx .und (cellsB (nx .dead s.blks 0)) 0)) (intS (nx .und (cellsB (nx .dead s.blks 0)) 1)) (intS (nx .und (cellsB (nx .dead s.blks 1)) 0)) (intS (nx .und (cellsB (nx .dead s.blks 1)) 1))) (none)
def LS54_0 (N : Nat) : LSpec β := VLS54_0 N (zj104 N) (zj102 N)
def VE54 (N : Nat) (zq102 : (a0 : Int) → (c0 : List (Int × Int)) → (k : Bool → O β) → O β) (zq104 : (a1 : (Int → (Bool → O β) → O β)) → Nat → Int → Int → Int → Int → Int → Int → (Int → Int → Int → Int → O β) → O β) : Env β := ⟨[(55, VS55 N zq102)], [], [(0, VLS54_0 N zq104 zq102)], [], ⟨[], [], [], []⟩⟩
def E54 (N : Nat) : Env β := VE54 N (zj102 N) (zj104 N)
def zb103 (N : Nat) (a1 : (Int → (Bool → O β) → O β)) (v0 : Int) (v1 : Int) (v2 : Int) (v3 : Int) (v4 : Int) (v5 : Int) (rec_ : Int → Int → Int → Int → Int → Int → O β) (k0 : Int → Int → Int → Int → O β) : O β :=
(cond ((decide (v1 < v0)))
(a1 v1 fun r4 =>
(cond r4
((gd ((decide (0 ≤ v1)))
(rec_ v0 ((w64 (v1 + 1))) v2 v3 v4 ((bits .or .i64 v5 (shlI .i64 1 v1))))))
(rec_ v0 ((w64 (v1 + 1))) v2 v3 v4 v5)))
(k0 v2 v3 v4 v5))
theorem zt103 (N : Nat) (a1 : (Int → (Bool → O β) → O β)) (v0 : Int) (v1 : Int) (v2 : Int) (v3 : Int) (v4 : Int) (v5 : Int) (rec_ : Int → Int → Int → Int → Int → Int → O β) (k0 : Int → Int → Int → Int → O β) : zj103 N a1 v0 v1 v2 v3 v4 v5 rec_ k0 = zb103 N a1 v0 v1 v2 v3 v4 v5 rec_ k0 := by
  unfold zj103 zb103
  rfl
theorem vst54_0_0 (N : Nat) (zq102 : (a0 : Int) → (c0 : List (Int × Int)) → (k : Bool → O β) → O β) (zq104 : (a1 : (Int → (Bool → O β) → O β)) → Nat → Int → Int → Int → Int → Int → Int → (Int → Int → Int → Int → O β) → O β) (q0 : List (Int × Int)) (v0 : Int) (v1 : Int) (v2 : Int) (v3 : Int) (v4 : Int) (v5 : Int) (rec_ : St → O β) (K : Exit → St → O β) :
    ev lay (VE54 N zq102 zq104) (retMask Tryz.f54) (lp Tryz.f54 0).body (lp Tryz.f54 0).ex ((lp Tryz.f54 0).lv (retMask Tryz.f54)) (h54_0_0 q0 v0 v1 v2 v3 v4 v5) (nextR (fun s' => rec_ (s'.tidy ((lp Tryz.f54 0).lv (retMask Tryz.f54)))) K) = zb103 N (fun x0 k => zq102 x0 q0 k) v0 v1 v2 v3 v4 v5 (fun v0 v1 v2 v3 v4 v5 => rec_ (h54_0_0 q0 v0 v1 v2 v3 v4 v5)) (fun y0 y1 y2 y3 => K (.exit 0) (x54_0_0_k0 q0 y0 y1 y2 y3)) := by kernel_rfl
theorem st54_0_0 (N : Nat) (q0 : List (Int × Int)) (v0 : Int) (v1 : Int) (v2 : Int) (v3 : Int) (v4 : Int) (v5 : Int) (rec_ : St → O β) (K : Exit → St → O β) :
    ev lay (E54 N) (retMask Tryz.f54) (lp Tryz.f54 0).body (lp Tryz.f54 0).ex ((lp Tryz.f54 0).lv (retMask Tryz.f54)) (h54_0_0 q0 v0 v1 v2 v3 v4 v5) (nextR (fun s' => rec_ (s'.tidy ((lp Tryz.f54 0).lv (retMask Tryz.f54)))) K) = zj103 N (fun x0 k => zj102 N x0 q0 k) v0 v1 v2 v3 v4 v5 (fun v0 v1 v2 v3 v4 v5 => rec_ (h54_0_0 q0 v0 v1 v2 v3 v4 v5)) (fun y0 y1 y2 y3 => K (.exit 0) (x54_0_0_k0 q0 y0 y1 y2 y3)) := (vst54_0_0 N (zj102 N) (zj104 N) q0 v0 v1 v2 v3 v4 v5 rec_ K).trans (zt103 N (fun x0 k => zj102 N x0 q0 k) v0 v1 v2 v3 v4 v5 (fun v0 v1 v2 v3 v4 v5 => rec_ (h54_0_0 q0 v0 v1 v2 v3 v4 v5)) (fun y0 y1 y2 y3 => K (.exit 0) (x54_0_0_k0 q0 y0 y1 y2 y3))).symm
theorem ro54_0_0 (N : Nat) (q0 : List (Int × Int)) (K : Exit → St → O β) : ∀ (F : Nat) (v0 : Int) (v1 : Int) (v2 : Int) (v3 : Int) (v4 : Int) (v5 : Int), (lp Tryz.f54 0).rounds lay (E54 N) (retMask Tryz.f54) F (h54_0_0 q0 v0 v1 v2 v3 v4 v5) K = zj104 N (fun x0 k => zj102 N x0 q0 k) F v0 v1 v2 v3 v4 v5 (fun y0 y1 y2 y3 => K (.exit 0) (x54_0_0_k0 q0 y0 y1 y2 y3)) := by
  intro F
  induction F with
  | zero => intros; rfl
  | succ F ih =>
    intros
    rw [rounds_next]
    refine (st54_0_0 N q0 _ _ _ _ _ _ (fun s => (lp Tryz.f54 0).rounds lay (E54 N) (retMask Tryz.f54) F s K) K).trans ?_
    simp only [ih]
    rfl
theorem lk54_0 (N : Nat) : lookL (E54 (β := β) N).loops (lp Tryz.f54 0).id = LS54_0 N := by kernel_rfl
theorem rk54_0 (N : Nat) : RoundsOK lay (E54 (β := β) N) (retMask Tryz.f54) (lp Tryz.f54 0) := by
  intro s K r h
  rw [lk54_0] at h
  unfold LS54_0 VLS54_0 at h
  cases hb : shpSt (h54_0_0 [] 0 0 0 0 0 0) s with
  | true =>
    rw [hb, cond_true] at h
    exact ⟨N, by rw [← shpSt_ref hb, fl54_0_0 s]; exact (ro54_0_0 N (rPairs (rowF (nx .no (nx ([], 0) (dfnS (oneA (vT (nx tund s.tmps 1)))) 0).1 0))) K N (intS (oneA (vT (nx tund s.tmps 10)))) (intS (oneA (vT (nx tund s.tmps 11)))) (intS (nx .und (cellsB (nx .dead s.blks 0)) 0)) (intS (nx .und (cellsB (nx .dead s.blks 0)) 1)) (intS (nx .und (cellsB (nx .dead s.blks 1)) 0)) (intS (nx .und (cellsB (nx .dead s.blks 1)) 1))).trans h⟩
  | false =>
  rw [hb, cond_false] at h
  clear hb
  cases h
def zb105 (N : Nat) (zq104 : (a1 : (Int → (Bool → O β) → O β)) → Nat → Int → Int → Int → Int → Int → Int → (Int → Int → Int → Int → O β) → O β) (a0 : Int) (a1 : (Int → (Bool → O β) → O β)) (k : Int → Int → O β) : O β :=
(gd ((decide (0 ≤ a0)))
(zq104 a1 N ((shlI .i64 1 a0)) 0 0 0 a0 0 (fun e5_0 e5_1 e5_2 e5_3 =>
k e5_2 e5_3)))
theorem zt105 (N : Nat) (a0 : Int) (a1 : (Int → (Bool → O β) → O β)) (k : Int → Int → O β) : zj105 N a0 a1 k = zb105 N (zj104 N) a0 a1 k := by
  unfold zj105 zb105
  rfl
theorem ve54_0 (N : Nat) (zq102 : (a0 : Int) → (c0 : List (Int × Int)) → (k : Bool → O β) → O β) (zq104 : (a1 : (Int → (Bool → O β) → O β)) → Nat → Int → Int → Int → Int → Int → Int → (Int → Int → Int → Int → O β) → O β) (q0 : List (Int × Int)) (a0 : Int) (K : TV → O β) : evFn lay (VE54 N zq102 zq104) Tryz.f54 [.v (.one (.int .i64 a0)), .v (.one (.dfn 55 [([.sl 50 (.pairs q0)], 0)]))] K = zb105 N zq104 a0 (fun x0 k => zq102 x0 q0 k) (fun z2 z3 => K (.v (.agg [.int .i64 z2, .int .i64 z3]))) := by kernel_rfl
theorem e54_0 (N : Nat) (q0 : List (Int × Int)) (a0 : Int) (K : TV → O β) : evFn lay (E54 N) Tryz.f54 [.v (.one (.int .i64 a0)), .v (.one (.dfn 55 [([.sl 50 (.pairs q0)], 0)]))] K = zj105 N a0 (fun x0 k => zj102 N x0 q0 k) (fun z2 z3 => K (.v (.agg [.int .i64 z2, .int .i64 z3]))) := (ve54_0 N (zj102 N) (zj104 N) q0 a0 K).trans (zt105 N a0 (fun x0 k => zj102 N x0 q0 k) (fun z2 z3 => K (.v (.agg [.int .i64 z2, .int .i64 z3])))).symm
theorem o54 (N : Nat) : SpecOK (β := β) inv Tryz.prog 54 (S54 N) := by
  refine spec_of lay_ok mixed (E := E54 N) (specs_loops (specs_cons (o55 N) specs_nil)) muts_nil gs_nil Tryz.func54 (by kernel_rfl) 1 (by kernel_rfl) ⟨trivial, rk54_0 N⟩ fun args K r h => ?_
  unfold S54 VS54 at h
  split at h
  · exact (e54_0 N _ _ _).trans h
  · cases h
def VS33 (N : Nat) (zq106 : (a0 : Int) → (a1 : List (Int × Int)) → (k : Int → Int → O β) → O β) : Rv.Spec β := fun args K => match args with
  | [.v (.one (.int .i64 a0)), .v (.one (.sl 50 (.pairs a1)))] => zq106 a0 a1 (fun z2 z3 => K (.v (.agg [.int .i64 z2, .int .i64 z3])))
  | _ => none
def S33 (N : Nat) : Rv.Spec β := VS33 N (zj106 N)
def VE33 (N : Nat) (zq105 : (a0 : Int) → (a1 : (Int → (Bool → O β) → O β)) → (k : Int → Int → O β) → O β) (zq102 : (a0 : Int) → (c0 : List (Int × Int)) → (k : Bool → O β) → O β) : Env β := ⟨[(54, VS54 N zq105 zq102), (55, VS55 N zq102)], [], [], [], ⟨[], [], [], []⟩⟩
def E33 (N : Nat) : Env β := VE33 N (zj105 N) (zj102 N)
def zb106 (N : Nat) (zq105 : (a0 : Int) → (a1 : (Int → (Bool → O β) → O β)) → (k : Int → Int → O β) → O β) (zq102 : (a0 : Int) → (c0 : List (Int × Int)) → (k : Bool → O β) → O β) (a0 : Int) (a1 : List (Int × Int)) (k : Int → Int → O β) : O β :=
zq105 a0 (fun x0 k => zq102 x0 a1 k) fun r4 r5 =>
k r4 r5
theorem zt106 (N : Nat) (a0 : Int) (a1 : List (Int × Int)) (k : Int → Int → O β) : zj106 N a0 a1 k = zb106 N (zj105 N) (zj102 N) a0 a1 k := by
  unfold zj106 zb106
  rfl
theorem ve33_0 (N : Nat) (zq105 : (a0 : Int) → (a1 : (Int → (Bool → O β) → O β)) → (k : Int → Int → O β) → O β) (zq102 : (a0 : Int) → (c0 : List (Int × Int)) → (k : Bool → O β) → O β)  (a0 : Int) (a1 : List (Int × Int)) (K : TV → O β) : evFn lay (VE33 N zq105 zq102) Tryz.f33 [.v (.one (.int .i64 a0)), .v (.one (.sl 50 (.pairs a1)))] K = zb106 N zq105 zq102 a0 a1 (fun z2 z3 => K (.v (.agg [.int .i64 z2, .int .i64 z3]))) := by kernel_rfl
theorem e33_0 (N : Nat)  (a0 : Int) (a1 : List (Int × Int)) (K : TV → O β) : evFn lay (E33 N) Tryz.f33 [.v (.one (.int .i64 a0)), .v (.one (.sl 50 (.pairs a1)))] K = zj106 N a0 a1 (fun z2 z3 => K (.v (.agg [.int .i64 z2, .int .i64 z3]))) := (ve33_0 N (zj105 N) (zj102 N) a0 a1 K).trans (zt106 N a0 a1 (fun z2 z3 => K (.v (.agg [.int .i64 z2, .int .i64 z3])))).symm
theorem o33 (N : Nat) : SpecOK (β := β) inv Tryz.prog 33 (S33 N) := by
  refine spec_of lay_ok mixed (E := E33 N) (specs_loops (specs_cons (o54 N) (specs_cons (o55 N) specs_nil))) muts_nil gs_nil Tryz.func33 (by kernel_rfl) 0 (by kernel_rfl) trivial fun args K r h => ?_
  unfold S33 VS33 at h
  split at h
  · exact (e33_0 N _ _ _).trans h
  · cases h
def VS13 (N : Nat) (zq107 : (a0 : Int) → (a1 : List (Int × Int)) → (k : Int → Int → Bool → O β) → O β) : Rv.Spec β := fun args K => match args with
  | [.v (.one (.int .i64 a0)), .v (.one (.sl 50 (.pairs a1)))] => zq107 a0 a1 (fun z2 z3 z4 => K (.tup [.agg [.int .i64 z2, .int .i64 z3], .one (.bool z4)]))
  | _ => none
def S13 (N : Nat) : Rv.Spec β := VS13 N (zj107 N)
def VE13 (N : Nat) (zq63 : (a0 : Int) → (a1 : List (Int × Int)) → (k : Bool → O β) → O β) (zq106 : (a0 : Int) → (a1 : List (Int × Int)) → (k : Int → Int → O β) → O β) : Env β := ⟨[(32, VS32 N zq63), (33, VS33 N zq106)], [], [], [], ⟨[], [], [], []⟩⟩
def E13 (N : Nat) : Env β := VE13 N (zj63 N) (zj106 N)
def zb107 (N : Nat) (zq63 : (a0 : Int) → (a1 : List (Int × Int)) → (k : Bool → O β) → O β) (zq106 : (a0 : Int) → (a1 : List (Int × Int)) → (k : Int → Int → O β) → O β) (a0 : Int) (a1 : List (Int × Int)) (k : Int → Int → Bool → O β) : O β :=
zq63 a0 a1 fun r5 =>
(cond (!r5)
(k 0 0 false)
(zq106 a0 a1 fun r6 r7 =>
k r6 r7 true))
theorem zt107 (N : Nat) (a0 : Int) (a1 : List (Int × Int)) (k : Int → Int → Bool → O β) : zj107 N a0 a1 k = zb107 N (zj63 N) (zj106 N) a0 a1 k := by
  unfold zj107 zb107
  rfl
theorem ve13_0 (N : Nat) (zq63 : (a0 : Int) → (a1 : List (Int × Int)) → (k : Bool → O β) → O β) (zq106 : (a0 : Int) → (a1 : List (Int × Int)) → (k : Int → Int → O β) → O β)  (a0 : Int) (a1 : List (Int × Int)) (K : TV → O β) : evFn lay (VE13 N zq63 zq106) Tryz.f13 [.v (.one (.int .i64 a0)), .v (.one (.sl 50 (.pairs a1)))] K = zb107 N zq63 zq106 a0 a1 (fun z2 z3 z4 => K (.tup [.agg [.int .i64 z2, .int .i64 z3], .one (.bool z4)])) := by kernel_rfl
theorem e13_0 (N : Nat)  (a0 : Int) (a1 : List (Int × Int)) (K : TV → O β) : evFn lay (E13 N) Tryz.f13 [.v (.one (.int .i64 a0)), .v (.one (.sl 50 (.pairs a1)))] K = zj107 N a0 a1 (fun z2 z3 z4 => K (.tup [.agg [.int .i64 z2, .int .i64 z3], .one (.bool z4)])) := (ve13_0 N (zj63 N) (zj106 N) a0 a1 K).trans (zt107 N a0 a1 (fun z2 z3 z4 => K (.tup [.agg [.int .i64 z2, .int .i64 z3], .one (.bool z4)]))).symm
theorem o13 (N : Nat) : SpecOK (β := β) inv Tryz.prog 13 (S13 N) := by
  refine spec_of lay_ok mixed (E := E13 N) (specs_loops (specs_cons (o32 N) (specs_cons (o33 N) specs_nil))) muts_nil gs_nil Tryz.func13 (by kernel_rfl) 0 (by kernel_rfl) trivial fun args K r h => ?_
  unfold S13 VS13 at h
  split at h
  · exact (e13_0 N _ _ _).trans h
  · cases h
def VS57 (N : Nat) (zq108 : (a0 : Int) → (a1 : Int) → (k : Int → O β) → O β) : Rv.Spec β := fun args K => match args with
  | [.v (.agg [.int .i64 a0, .int .i64 a1])] => zq108 a0 a1 (fun z2 => K (.v (.one (.int .i64 z2))))
  | _ => none
def S57 (N : Nat) : Rv.Spec β := VS57 N (zj108 N)
def VE57 (N : Nat) : Env β := ⟨[], [], [], [], ⟨[], [], [], []⟩⟩
def E57 (N : Nat) : Env β := VE57 N
def zb108 (N : Nat) (a0 : Int) (a1 : Int) (k : Int → O β) : O β :=
(gd ((decide (0 ≤ a0)))
(k ((shlI .i64 1 a0))))
theorem zt108 (N : Nat) (a0 : Int) (a1 : Int) (k : Int → O β) : zj108 N a0 a1 k = zb108 N a0 a1 k := by
  unfold zj108 zb108
  rfl
theorem ve57_0 (N : Nat)  (a0 : Int) (a1 : Int) (K : TV → O β) : evFn lay (VE57 N) Tryz.f57 [.v (.agg [.int .i64 a0, .int .i64 a1])] K = zb108 N a0 a1 (fun z2 => K (.v (.one (.int .i64 z2)))) := by kernel_rfl
theorem e57_0 (N : Nat)  (a0 : Int) (a1 : Int) (K : TV → O β) : evFn lay (E57 N) Tryz.f57 [.v (.agg [.int .i64 a0, .int .i64 a1])] K = zj108 N a0 a1 (fun z2 => K (.v (.one (.int .i64 z2)))) := (ve57_0 N a0 a1 K).trans (zt108 N a0 a1 (fun z2 => K (.v (.one (.int .i64 z2))))).symm
theorem o57 (N : Nat) : SpecOK (β := β) inv Tryz.prog 57 (S57 N) := by
  refine spec_of lay_ok mixed (E := E57 N) (specs_loops specs_nil) muts_nil gs_nil Tryz.func57 (by kernel_rfl) 0 (by kernel_rfl) trivial fun args K r h => ?_
  unfold S57 VS57 at h
  split at h
  · exact (e57_0 N _ _ _).trans h
  · cases h
def VS34 (N : Nat) (zq109 : (a0 : Int) → (a1 : Int) → (k : Bool → O β) → O β) : Rv.Spec β := fun args K => match args with
  | [.v (.agg [.int .i64 a0, .int .i64 a1])] => zq109 a0 a1 (fun z2 => K (.v (.one (.bool z2))))
  | _ => none
def S34 (N : Nat) : Rv.Spec β := VS34 N (zj109 N)
def VE34 (N : Nat) (zq53 : (a0 : Int) → (k : Bool → O β) → O β) (zq108 : (a0 : Int) → (a1 : Int) → (k : Int → O β) → O β) : Env β := ⟨[(38, VS38 N zq53), (57, VS57 N zq108)], [], [], [], ⟨[], [], [], []⟩⟩
def E34 (N : Nat) : Env β := VE34 N (zj53 N) (zj108 N)
def zb109 (N : Nat) (zq53 : (a0 : Int) → (k : Bool → O β) → O β) (zq108 : (a0 : Int) → (a1 : Int) → (k : Int → O β) → O β) (a0 : Int) (a1 : Int) (k : Bool → O β) : O β :=
zq53 a0 fun r3 =>
(cond r3
((cond ((decide (a1 ≥ 0)))
(zq108 a0 a1 fun r4 =>
(gd ((decide (0 ≤ r4)))
(k (((shrI .i64 a1 r4) == 0)))))
(k false)))
(k false))
theorem zt109 (N : Nat) (a0 : Int) (a1 : Int) (k : Bool → O β) : zj109 N a0 a1 k = zb109 N (zj53 N) (zj108 N) a0 a1 k := by
  unfold zj109 zb109
  rfl
theorem ve34_0 (N : Nat) (zq53 : (a0 : Int) → (k : Bool → O β) → O β) (zq108 : (a0 : Int) → (a1 : Int) → (k : Int → O β) → O β)  (a0 : Int) (a1 : Int) (K : TV → O β) : evFn lay (VE34 N zq53 zq108) Tryz.f34 [.v (.agg [.int .i64 a0, .int .i64 a1])] K = zb109 N zq53 zq108 a0 a1 (fun z2 => K (.v (.one (.bool z2)))) := by kernel_rfl
theorem e34_0 (N : Nat)  (a0 : Int) (a1 : Int) (K : TV → O β) : evFn lay (E34 N) Tryz.f34 [.v (.agg [.int .i64 a0, .int .i64 a1])] K = zj109 N a0 a1 (fun z2 => K (.v (.one (.bool z2)))) := (ve34_0 N (zj53 N) (zj108 N) a0 a1 K).trans (zt109 N a0 a1 (fun z2 => K (.v (.one (.bool z2))))).symm
theorem o34 (N : Nat) : SpecOK (β := β) inv Tryz.prog 34 (S34 N) := by
  refine spec_of lay_ok mixed (E := E34 N) (specs_loops (specs_cons (o38 N) (specs_cons (o57 N) specs_nil))) muts_nil gs_nil Tryz.func34 (by kernel_rfl) 0 (by kernel_rfl) trivial fun args K r h => ?_
  unfold S34 VS34 at h
  split at h
  · exact (e34_0 N _ _ _).trans h
  · cases h
def VS93 (N : Nat) (zq110 : (a0 : Int) → (a1 : Int) → (a2 : Int) → (k : Int → O β) → O β) : Rv.Spec β := fun args K => match args with
  | [.v (.agg [.int .i64 a0, .int .i64 a1]), .v (.one (.int .i64 a2))] => zq110 a0 a1 a2 (fun z3 => K (.v (.one (.int .i64 z3))))
  | _ => none
def S93 (N : Nat) : Rv.Spec β := VS93 N (zj110 N)
def VE93 (N : Nat) : Env β := ⟨[], [], [], [], ⟨[], [], [], []⟩⟩
def E93 (N : Nat) : Env β := VE93 N
def zb110 (N : Nat) (a0 : Int) (a1 : Int) (a2 : Int) (k : Int → O β) : O β :=
(gd ((decide (0 ≤ a2)))
(k ((bits .and .i64 (shrI .i64 a1 a2) 1))))
theorem zt110 (N : Nat) (a0 : Int) (a1 : Int) (a2 : Int) (k : Int → O β) : zj110 N a0 a1 a2 k = zb110 N a0 a1 a2 k := by
  unfold zj110 zb110
  rfl
theorem ve93_0 (N : Nat)  (a0 : Int) (a1 : Int) (a2 : Int) (K : TV → O β) : evFn lay (VE93 N) Tryz.f93 [.v (.agg [.int .i64 a0, .int .i64 a1]), .v (.one (.int .i64 a2))] K = zb110 N a0 a1 a2 (fun z3 => K (.v (.one (.int .i64 z3)))) := by kernel_rfl
theorem e93_0 (N : Nat)  (a0 : Int) (a1 : Int) (a2 : Int) (K : TV → O β) : evFn lay (E93 N) Tryz.f93 [.v (.agg [.int .i64 a0, .int .i64 a1]), .v (.one (.int .i64 a2))] K = zj110 N a0 a1 a2 (fun z3 => K (.v (.one (.int .i64 z3)))) := (ve93_0 N a0 a1 a2 K).trans (zt110 N a0 a1 a2 (fun z3 => K (.v (.one (.int .i64 z3))))).symm
theorem o93 (N : Nat) : SpecOK (β := β) inv Tryz.prog 93 (S93 N) := by
  refine spec_of lay_ok mixed (E := E93 N) (specs_loops specs_nil) muts_nil gs_nil Tryz.func93 (by kernel_rfl) 0 (by kernel_rfl) trivial fun args K r h => ?_
  unfold S93 VS93 at h
  split at h
  · exact (e93_0 N _ _ _ _).trans h
  · cases h
def VS80 (N : Nat) (zq113 : (a0 : Int) → (a1 : Int) → (a2 : Int) → (a3 : Int) → (k : Int → O β) → O β) : Rv.Spec β := fun args K => match args with
  | [.v (.agg [.int .i64 a0, .int .i64 a1]), .v (.one (.int .i64 a2)), .v (.one (.int .i64 a3))] => zq113 a0 a1 a2 a3 (fun z4 => K (.v (.one (.int .i64 z4))))
  | _ => none
def S80 (N : Nat) : Rv.Spec β := VS80 N (zj113 N)
def h80_0_0  (v0 : Int) (v1 : Int) (v2 : Int) (v3 : Int) (v4 : Int) (v5 : Int) (v6 : Bool) (v7 : Bool) : St := ⟨tund :: .v (.one (.int .i64 v0)) :: .v (.one (.int .i64 v1)) :: .v (.one (.ptr 0 0)) :: tund :: tund :: tund :: .v (.one (.ptr 1 0)) :: tund :: tund :: tund :: .v (.one (.int .i64 v2)) :: .v (.one (.int .i64 v3)) :: tund :: tund :: tund :: tund :: tund :: tund :: tund :: tund :: tund :: tund :: tund :: tund :: tund :: tund :: tund :: tund :: tund :: tund :: tund :: tund :: tund :: tund :: [], [.cells 36 [.int .i64 v4, .int .i64 v5], .cells 112 [.bool v6, .bool v7]]⟩
def x80_0_0_k0  (y0 : Bool) (y1 : Bool) : St := ⟨tund :: tund :: tund :: tund :: tund :: tund :: tund :: .v (.one (.ptr 0 0)) :: tund :: tund :: tund :: tund :: tund :: tund :: tund :: tund :: tund :: tund :: tund :: tund :: tund :: tund :: tund :: tund :: tund :: tund :: tund :: tund :: tund :: tund :: tund :: tund :: tund :: tund :: tund :: [], [.cells 112 [.bool y0, .bool y1]]⟩
theorem fl80_0_0 (s : St) : refSt (h80_0_0 0 0 0 0 0 0 false false) s = h80_0_0 (intS (oneA (vT (nx tund s.tmps 1)))) (intS (oneA (vT (nx tund s.tmps 2)))) (intS (oneA (vT (nx tund s.tmps 11)))) (intS (oneA (vT (nx tund s.tmps 12)))) (intS (nx .und (cellsB (nx .dead s.blks 0)) 0)) (intS (nx .und (cellsB (nx .dead s.blks 0)) 1)) (boolS (nx .und (cellsB (nx .dead s.blks 1)) 0)) (boolS (nx .und (cellsB (nx .dead s.blks 1)) 1)) := by kernel_rfl
def VLS80_0 (N : Nat) (zq112 : Nat → Int → Int → Int → Int → Int → Int → Bool → Bool → (Bool → Bool → O β) → O β) : LSpec β := fun s K => cond (shpSt (h80_0_0 0 0 0 0 0 0 false false) s) ((fun (v0 : Int) (v1 : Int) (v2 : Int) (v3 : Int) (v4 : Int) (v5 : Int) (v6 : Bool) (v7 : Bool) => zq112  N v0 v1 v2 v3 v4 v5 v6 v7 (fun y0 y1 => K (.exit 0) (x80_0_0_k0  y0 y1))) (intS (oneA (vT (nx tund s.tmps 1)))) (intS (oneA (vT (nx tund s.tmps 2)))) (intS (oneA (vT (nx tund s.tmps 11)))) (intS (oneA (vT (nx tund s.tmps 12)))) (intS (nx .und (cellsB (nx .dead s.blks 0)) 0)) (intS (nx .und (cellsB (nx .dead s.blks 0)) 1)) (boolS (nx .und (cellsB (nx .dead s.blks 1)) 0)) (boolS (nx .und (cellsB (nx .dead s.blks 1)) 1))) (none)
def LS80_0 (N : Nat) : LSpec β := VLS80_0 N (zj112 N)
def VE80 (N : Nat) (zq108 : (a0 : Int) → (a1 : Int) → (k : Int → O β) → O β) (zq110 : (a0 : Int) → (a1 : Int) → (a2 : Int) → (k : Int → O β) → O β) (zq112 : Nat → Int → Int → Int → Int → Int → Int → Bool → Bool → (Bool → Bool → O β) → O β) : Env β := ⟨[(57, VS57 N zq108), (93, VS93 N zq110)], [], [(0, VLS80_0 N zq112)], [], ⟨[], [], [], []⟩⟩
def E80 (N : Nat) : Env β := VE80 N (zj108 N) (zj110 N) (zj112 N)
def zb111 (N : Nat) (zq110 : (a0 : Int) → (a1 : Int) → (a2 : Int) → (k : Int → O β) → O β)  (v0 : Int) (v1 : Int) (v2 : Int) (v3 : Int) (v4 : Int) (v5 : Int) (v6 : Bool) (v7 : Bool) (rec_ : Int → Int → Int → Int → Int → Int → Bool → Bool → O β) (k0 : Bool → Bool → O β) : O β :=
(cond ((decide (v3 < v2)))
((cond (((bits .and .i64 v3 v0) == v1))
(zq110 v4 v5 v3 fun r6 =>
(gd ((decide (0 ≤ r6)))
((gd ((decide (r6 < 2)))
((cond ((r6 == 0))
(rec_ v0 v1 v2 ((w64 (v3 + 1))) v4 v5 true v7)
(rec_ v0 v1 v2 ((w64 (v3 + 1))) v4 v5 v6 true)))))))
(rec_ v0 v1 v2 ((w64 (v3 + 1))) v4 v5 v6 v7)))
(k0 v6 v7))
theorem zt111 (N : Nat)  (v0 : Int) (v1 : Int) (v2 : Int) (v3 : Int) (v4 : Int) (v5 : Int) (v6 : Bool) (v7 : Bool) (rec_ : Int → Int → Int → Int → Int → Int → Bool → Bool → O β) (k0 : Bool → Bool → O β) : zj111 N v0 v1 v2 v3 v4 v5 v6 v7 rec_ k0 = zb111 N (zj110 N) v0 v1 v2 v3 v4 v5 v6 v7 rec_ k0 := by
  unfold zj111 zb111
  rfl
theorem vst80_0_0 (N : Nat) (zq108 : (a0 : Int) → (a1 : Int) → (k : Int → O β) → O β) (zq110 : (a0 : Int) → (a1 : Int) → (a2 : Int) → (k : Int → O β) → O β) (zq112 : Nat → Int → Int → Int → Int → Int → Int → Bool → Bool → (Bool → Bool → O β) → O β)  (v0 : Int) (v1 : Int) (v2 : Int) (v3 : Int) (v4 : Int) (v5 : Int) (v6 : Bool) (v7 : Bool) (rec_ : St → O β) (K : Exit → St → O β) :
    ev lay (VE80 N zq108 zq110 zq112) (retMask Tryz.f80) (lp Tryz.f80 0).body (lp Tryz.f80 0).ex ((lp Tryz.f80 0).lv (retMask Tryz.f80)) (h80_0_0  v0 v1 v2 v3 v4 v5 v6 v7) (nextR (fun s' => rec_ (s'.tidy ((lp Tryz.f80 0).lv (retMask Tryz.f80)))) K) = zb111 N zq110  v0 v1 v2 v3 v4 v5 v6 v7 (fun v0 v1 v2 v3 v4 v5 v6 v7 => rec_ (h80_0_0  v0 v1 v2 v3 v4 v5 v6 v7)) (fun y0 y1 => K (.exit 0) (x80_0_0_k0  y0 y1)) := by kernel_rfl
theorem st80_0_0 (N : Nat)  (v0 : Int) (v1 : Int) (v2 : Int) (v3 : Int) (v4 : Int) (v5 : Int) (v6 : Bool) (v7 : Bool) (rec_ : St → O β) (K : Exit → St → O β) :
    ev lay (E80 N) (retMask Tryz.f80) (lp Tryz.f80 0).body (lp Tryz.f80 0).ex ((lp Tryz.f80 0).lv (retMask Tryz.f80)) (h80_0_0  v0 v1 v2 v3 v4 v5 v6 v7) (nextR (fun s' => rec_ (s'.tidy ((lp Tryz.f80 0).lv (retMask Tryz.f80)))) K) = zj111 N  v0 v1 v2 v3 v4 v5 v6 v7 (fun v0 v1 v2 v3 v4 v5 v6 v7 => rec_ (h80_0_0  v0 v1 v2 v3 v4 v5 v6 v7)) (fun y0 y1 => K (.exit 0) (x80_0_0_k0  y0 y1)) := (vst80_0_0 N (zj108 N) (zj110 N) (zj112 N) v0 v1 v2 v3 v4 v5 v6 v7 rec_ K).trans (zt111 N  v0 v1 v2 v3 v4 v5 v6 v7 (fun v0 v1 v2 v3 v4 v5 v6 v7 => rec_ (h80_0_0  v0 v1 v2 v3 v4 v5 v6 v7)) (fun y0 y1 => K (.exit 0) (x80_0_0_k0  y0 y1))).symm
theorem ro80_0_0 (N : Nat)  (K : Exit → St → O β) : ∀ (F : Nat) (v0 : Int) (v1 : Int) (v2 : Int) (v3 : Int) (v4 : Int) (v5 : Int) (v6 : Bool) (v7 : Bool), (lp Tryz.f80 0).rounds lay (E80 N) (retMask Tryz.f80) F (h80_0_0  v0 v1 v2 v3 v4 v5 v6 v7) K = zj112 N  F v0 v1 v2 v3 v4 v5 v6 v7 (fun y0 y1 => K (.exit 0) (x80_0_0_k0  y0 y1)) := by
  intro F
  induction F with
  | zero => intros; rfl
  | succ F ih =>
    intros
    rw [rounds_next]
    refine (st80_0_0 N  _ _ _ _ _ _ _ _ (fun s => (lp Tryz.f80 0).rounds lay (E80 N) (retMask Tryz.f80) F s K) K).trans ?_
    simp only [ih]
    rfl
theorem lk80_0 (N : Nat) : lookL (E80 (β := β) N).loops (lp Tryz.f80 0).id = LS80_0 N := by kernel_rfl
theorem rk80_0 (N : Nat) : RoundsOK lay (E80 (β := β) N) (retMask Tryz.f80) (lp Tryz.f80 0) := by
  intro s K r h
  rw [lk80_0] at h
  unfold LS80_0 VLS80_0 at h
  cases hb : shpSt (h80_0_0 0 0 0 0 0 0 false false) s with
  | true =>
    rw [hb, cond_true] at h
    exact ⟨N, by rw [← shpSt_ref hb, fl80_0_0 s]; exact (ro80_0_0 N  K N (intS (oneA (vT (nx tund s.tmps 1)))) (intS (oneA (vT (nx tund s.tmps 2)))) (intS (oneA (vT (nx tund s.tmps 11)))) (intS (oneA (vT (nx tund s.tmps 12)))) (intS (nx .und (cellsB (nx .dead s.blks 0)) 0)) (intS (nx .und (cellsB (nx .dead s.blks 0)) 1)) (boolS (nx .und (cellsB (nx .dead s.blks 1)) 0)) (boolS (nx .und (cellsB (nx .dead s.blks 1)) 1))).trans h⟩
  | false =>
  rw [hb, cond_false] at h
  clear hb
  cases h
def zb113 (N : Nat) (zq108 : (a0 : Int) → (a1 : Int) → (k : Int → O β) → O β) (zq112 : Nat → Int → Int → Int → Int → Int → Int → Bool → Bool → (Bool → Bool → O β) → O β) (a0 : Int) (a1 : Int) (a2 : Int) (a3 : Int) (k : Int → O β) : O β :=
zq108 a0 a1 fun r5 =>
zq112  N a2 a3 r5 0 a0 a1 false false (fun e7_0 e7_1 =>
(cond e7_0
((cond e7_1
(k 2)
((cond e7_1
(k 1)
(k 0)))))
((cond e7_1
(k 1)
(k 0)))))
theorem zt113 (N : Nat) (a0 : Int) (a1 : Int) (a2 : Int) (a3 : Int) (k : Int → O β) : zj113 N a0 a1 a2 a3 k = zb113 N (zj108 N) (zj112 N) a0 a1 a2 a3 k := by
  unfold zj113 zb113
  rfl
theorem ve80_0 (N : Nat) (zq108 : (a0 : Int) → (a1 : Int) → (k : Int → O β) → O β) (zq110 : (a0 : Int) → (a1 : Int) → (a2 : Int) → (k : Int → O β) → O β) (zq112 : Nat → Int → Int → Int → Int → Int → Int → Bool → Bool → (Bool → Bool → O β) → O β)  (a0 : Int) (a1 : Int) (a2 : Int) (a3 : Int) (K : TV → O β) : evFn lay (VE80 N zq108 zq110 zq112) Tryz.f80 [.v (.agg [.int .i64 a0, .int .i64 a1]), .v (.one (.int .i64 a2)), .v (.one (.int .i64 a3))] K = zb113 N zq108 zq112 a0 a1 a2 a3 (fun z4 => K (.v (.one (.int .i64 z4)))) := by kernel_rfl
theorem e80_0 (N : Nat)  (a0 : Int) (a1 : Int) (a2 : Int) (a3 : Int) (K : TV → O β) : evFn lay (E80 N) Tryz.f80 [.v (.agg [.int .i64 a0, .int .i64 a1]), .v (.one (.int .i64 a2)), .v (.one (.int .i64 a3))] K = zj113 N a0 a1 a2 a3 (fun z4 => K (.v (.one (.int .i64 z4)))) := (ve80_0 N (zj108 N) (zj110 N) (zj112 N) a0 a1 a2 a3 K).trans (zt113 N a0 a1 a2 a3 (fun z4 => K (.v (.one (.int .i64 z4))))).symm
theorem o80 (N : Nat) : SpecOK (β := β) inv Tryz.prog 80 (S80 N) := by
  refine spec_of lay_ok mixed (E := E80 N) (specs_loops (specs_cons (o57 N) (specs_cons (o93 N) specs_nil))) muts_nil gs_nil Tryz.func80 (by kernel_rfl) 1 (by kernel_rfl) ⟨trivial, rk80_0 N⟩ fun args K r h => ?_
  unfold S80 VS80 at h
  split at h
  · exact (e80_0 N _ _ _ _ _).trans h
  · cases h
def VS70 (N : Nat) (zq114 : (a0 : Int) → (a1 : Int) → (a2 : Int) → (a3 : Int) → (k : Bool → O β) → O β) : Rv.Spec β := fun args K => match args with
  | [.v (.agg [.int .i64 a0, .int .i64 a1]), .v (.agg [.int .i64 a2, .int .i64 a3])] => zq114 a0 a1 a2 a3 (fun z4 => K (.v (.one (.bool z4))))
  | _ => none
def S70 (N : Nat) : Rv.Spec β := VS70 N (zj114 N)
def VE70 (N : Nat) (zq113 : (a0 : Int) → (a1 : Int) → (a2 : Int) → (a3 : Int) → (k : Int → O β) → O β) : Env β := ⟨[(80, VS80 N zq113)], [], [], [], ⟨[], [], [], []⟩⟩
def E70 (N : Nat) : Env β := VE70 N (zj113 N)
def zb114 (N : Nat) (zq113 : (a0 : Int) → (a1 : Int) → (a2 : Int) → (a3 : Int) → (k : Int → O β) → O β) (a0 : Int) (a1 : Int) (a2 : Int) (a3 : Int) (k : Bool → O β) : O β :=
zq113 a0 a1 a2 a3 fun r5 =>
k ((r5 == 1))
theorem zt114 (N : Nat) (a0 : Int) (a1 : Int) (a2 : Int) (a3 : Int) (k : Bool → O β) : zj114 N a0 a1 a2 a3 k = zb114 N (zj113 N) a0 a1 a2 a3 k := by
  unfold zj114 zb114
  rfl
theorem ve70_0 (N : Nat) (zq113 : (a0 : Int) → (a1 : Int) → (a2 : Int) → (a3 : Int) → (k : Int → O β) → O β)  (a0 : Int) (a1 : Int) (a2 : Int) (a3 : Int) (K : TV → O β) : evFn lay (VE70 N zq113) Tryz.f70 [.v (.agg [.int .i64 a0, .int .i64 a1]), .v (.agg [.int .i64 a2, .int .i64 a3])] K = zb114 N zq113 a0 a1 a2 a3 (fun z4 => K (.v (.one (.bool z4)))) := by kernel_rfl
theorem e70_0 (N : Nat)  (a0 : Int) (a1 : Int) (a2 : Int) (a3 : Int) (K : TV → O β) : evFn lay (E70 N) Tryz.f70 [.v (.agg [.int .i64 a0, .int .i64 a1]), .v (.agg [.int .i64 a2, .int .i64 a3])] K = zj114 N a0 a1 a2 a3 (fun z4 => K (.v (.one (.bool z4)))) := (ve70_0 N (zj113 N) a0 a1 a2 a3 K).trans (zt114 N a0 a1 a2 a3 (fun z4 => K (.v (.one (.bool z4))))).symm
theorem o70 (N : Nat) : SpecOK (β := β) inv Tryz.prog 70 (S70 N) := by
  refine spec_of lay_ok mixed (E := E70 N) (specs_loops (specs_cons (o80 N) specs_nil)) muts_nil gs_nil Tryz.func70 (by kernel_rfl) 0 (by kernel_rfl) trivial fun args K r h => ?_
  unfold S70 VS70 at h
  split at h
  · exact (e70_0 N _ _ _ _ _).trans h
  · cases h
def VS58 (N : Nat) (zq117 : (a0 : Int) → (a1 : Int) → (a2 : Int) → (a3 : Int) → (k : Bool → O β) → O β) : Rv.Spec β := fun args K => match args with
  | [.v (.agg [.int .i64 a0, .int .i64 a1]), .v (.agg [.int .i64 a2, .int .i64 a3])] => zq117 a0 a1 a2 a3 (fun z4 => K (.v (.one (.bool z4))))
  | _ => none
def S58 (N : Nat) : Rv.Spec β := VS58 N (zj117 N)
def h58_0_0  (v0 : Int) (v1 : Int) (v2 : Int) (v3 : Int) (v4 : Int) (v5 : Int) : St := ⟨tund :: tund :: .v (.one (.ptr 0 0)) :: .v (.one (.ptr 1 0)) :: tund :: tund :: tund :: tund :: tund :: tund :: tund :: tund :: .v (.one (.int .i64 v0)) :: .v (.one (.int .i64 v1)) :: tund :: tund :: tund :: tund :: tund :: tund :: tund :: tund :: tund :: tund :: tund :: tund :: tund :: tund :: tund :: tund :: tund :: tund :: tund :: tund :: tund :: tund :: tund :: [], [.cells 36 [.int .i64 v2, .int .i64 v3], .cells 50 [.int .i64 v4, .int .i64 v5]]⟩
def x58_0_0_k0  (y0 : Bool) : St := ⟨tund :: tund :: tund :: tund :: .v (.one (.bool y0)) :: tund :: tund :: tund :: tund :: tund :: tund :: tund :: tund :: tund :: tund :: tund :: tund :: tund :: tund :: tund :: tund :: tund :: tund :: tund :: tund :: tund :: tund :: tund :: tund :: tund :: tund :: tund :: tund :: tund :: tund :: tund :: tund :: [], []⟩
def x58_0_0_k1   : St := ⟨tund :: tund :: tund :: tund :: tund :: tund :: tund :: tund :: tund :: tund :: tund :: tund :: tund :: tund :: tund :: tund :: tund :: tund :: tund :: tund :: tund :: tund :: tund :: tund :: tund :: tund :: tund :: tund :: tund :: tund :: tund :: tund :: tund :: tund :: tund :: tund :: tund :: [], []⟩
theorem fl58_0_0 (s : St) : refSt (h58_0_0 0 0 0 0 0 0) s = h58_0_0 (intS (oneA (vT (nx tund s.tmps 12)))) (intS (oneA (vT (nx tund s.tmps 13)))) (intS (nx .und (cellsB (nx .dead s.blks 0)) 0)) (intS (nx .und (cellsB (nx .dead s.blks 0)) 1)) (intS (nx .und (cellsB (nx .dead s.blks 1)) 0)) (intS (nx .und (cellsB (nx .dead s.blks 1)) 1)) := by kernel_rfl
def VLS58_0 (N : Nat) (zq116 : Nat → Int → Int → Int → Int → Int → Int → (Bool → O β) → (O β) → O β) : LSpec β := fun s K => cond (shpSt (h58_0_0 0 0 0 0 0 0) s) ((fun (v0 : Int) (v1 : Int) (v2 : Int) (v3 : Int) (v4 : Int) (v5 : Int) => zq116  N v0 v1 v2 v3 v4 v5 (fun y0 => K .ret (x58_0_0_k0  y0)) (K (.exit 0) (x58_0_0_k1  ))) (intS (oneA (vT (nx tund s.tmps 12)))) (intS (oneA (vT (nx tund s.tmps 13)))) (intS (nx .und (cellsB (nx .dead s.blks 0)) 0)) (intS (nx .und (cellsB (nx .dead s.blks 0)) 1)) (intS (nx .und (cellsB (nx .dead s.blks 1)) 0)) (intS (nx .und (cellsB (nx .dead s.blks 1)) 1))) (none)
def LS58_0 (N : Nat) : LSpec β := VLS58_0 N (zj116 N)
def VE58 (N : Nat) (zq114 : (a0 : Int) → (a1 : Int) → (a2 : Int) → (a3 : Int) → (k : Bool → O β) → O β) (zq116 : Nat → Int → Int → Int → Int → Int → Int → (Bool → O β) → (O β) → O β) : Env β := ⟨[(70, VS70 N zq114)], [], [(0, VLS58_0 N zq116)], [], ⟨[], [], [], []⟩⟩
def E58 (N : Nat) : Env β := VE58 N (zj114 N) (zj116 N)
def zb115 (N : Nat) (zq114 : (a0 : Int) → (a1 : Int) → (a2 : Int) → (a3 : Int) → (k : Bool → O β) → O β)  (v0 : Int) (v1 : Int) (v2 : Int) (v3 : Int) (v4 : Int) (v5 : Int) (rec_ : Int → Int → Int → Int → Int → Int → O β) (k0 : Bool → O β) (k1 : O β) : O β :=
(cond ((decide (v1 < v0)))
((gd ((decide (0 ≤ v1)))
((cond (((bits .and .i64 v4 (shlI .i64 1 v1)) != 0))
(zq114 v2 v3 ((bits .andNot .i64 v4 (shlI .i64 1 v1))) ((bits .andNot .i64 v5 (shlI .i64 1 v1))) fun r6 =>
(cond r6
(k0 false)
(rec_ v0 ((w64 (v1 + 1))) v2 v3 v4 v5)))
(rec_ v0 ((w64 (v1 + 1))) v2 v3 v4 v5)))))
(k1 ))
theorem zt115 (N : Nat)  (v0 : Int) (v1 : Int) (v2 : Int) (v3 : Int) (v4 : Int) (v5 : Int) (rec_ : Int → Int → Int → Int → Int → Int → O β) (k0 : Bool → O β) (k1 : O β) : zj115 N v0 v1 v2 v3 v4 v5 rec_ k0 k1 = zb115 N (zj114 N) v0 v1 v2 v3 v4 v5 rec_ k0 k1 := by
  unfold zj115 zb115
  rfl
theorem vst58_0_0 (N : Nat) (zq114 : (a0 : Int) → (a1 : Int) → (a2 : Int) → (a3 : Int) → (k : Bool → O β) → O β) (zq116 : Nat → Int → Int → Int → Int → Int → Int → (Bool → O β) → (O β) → O β)  (v0 : Int) (v1 : Int) (v2 : Int) (v3 : Int) (v4 : Int) (v5 : Int) (rec_ : St → O β) (K : Exit → St → O β) :
    ev lay (VE58 N zq114 zq116) (retMask Tryz.f58) (lp Tryz.f58 0).body (lp Tryz.f58 0).ex ((lp Tryz.f58 0).lv (retMask Tryz.f58)) (h58_0_0  v0 v1 v2 v3 v4 v5) (nextR (fun s' => rec_ (s'.tidy ((lp Tryz.f58 0).lv (retMask Tryz.f58)))) K) = zb115 N zq114  v0 v1 v2 v3 v4 v5 (fun v0 v1 v2 v3 v4 v5 => rec_ (h58_0_0  v0 v1 v2 v3 v4 v5)) (fun y0 => K .ret (x58_0_0_k0  y0)) (K (.exit 0) (x58_0_0_k1  )) := by kernel_rfl
theorem st58_0_0 (N : Nat)  (v0 : Int) (v1 : Int) (v2 : Int) (v3 : Int) (v4 : Int) (v5 : Int) (rec_ : St → O β) (K : Exit → St → O β) :
    ev lay (E58 N) (retMask Tryz.f58) (lp Tryz.f58 0).body (lp Tryz.f58 0).ex ((lp Tryz.f58 0).lv (retMask Tryz.f58)) (h58_0_0  v0 v1 v2 v3 v4 v5) (nextR (fun s' => rec_ (s'.tidy ((lp Tryz.f58 0).lv (retMask Tryz.f58)))) K) = zj115 N  v0 v1 v2 v3 v4 v5 (fun v0 v1 v2 v3 v4 v5 => rec_ (h58_0_0  v0 v1 v2 v3 v4 v5)) (fun y0 => K .ret (x58_0_0_k0  y0)) (K (.exit 0) (x58_0_0_k1  )) := (vst58_0_0 N (zj114 N) (zj116 N) v0 v1 v2 v3 v4 v5 rec_ K).trans (zt115 N  v0 v1 v2 v3 v4 v5 (fun v0 v1 v2 v3 v4 v5 => rec_ (h58_0_0  v0 v1 v2 v3 v4 v5)) (fun y0 => K .ret (x58_0_0_k0  y0)) (K (.exit 0) (x58_0_0_k1  ))).symm
theorem ro58_0_0 (N : Nat)  (K : Exit → St → O β) : ∀ (F : Nat) (v0 : Int) (v1 : Int) (v2 : Int) (v3 : Int) (v4 : Int) (v5 : Int), (lp Tryz.f58 0).rounds lay (E58 N) (retMask Tryz.f58) F (h58_0_0  v0 v1 v2 v3 v4 v5) K = zj116 N  F v0 v1 v2 v3 v4 v5 (fun y0 => K .ret (x58_0_0_k0  y0)) (K (.exit 0) (x58_0_0_k1  )) := by
  intro F
  induction F with
  | zero => intros; rfl
  | succ F ih =>
    intros
    rw [rounds_next]
    refine (st58_0_0 N  _ _ _ _ _ _ (fun s => (lp Tryz.f58 0).rounds lay (E58 N) (retMask Tryz.f58) F s K) K).trans ?_
    simp only [ih]
    rfl
theorem lk58_0 (N : Nat) : lookL (E58 (β := β) N).loops (lp Tryz.f58 0).id = LS58_0 N := by kernel_rfl
theorem rk58_0 (N : Nat) : RoundsOK lay (E58 (β := β) N) (retMask Tryz.f58) (lp Tryz.f58 0) := by
  intro s K r h
  rw [lk58_0] at h
  unfold LS58_0 VLS58_0 at h
  cases hb : shpSt (h58_0_0 0 0 0 0 0 0) s with
  | true =>
    rw [hb, cond_true] at h
    exact ⟨N, by rw [← shpSt_ref hb, fl58_0_0 s]; exact (ro58_0_0 N  K N (intS (oneA (vT (nx tund s.tmps 12)))) (intS (oneA (vT (nx tund s.tmps 13)))) (intS (nx .und (cellsB (nx .dead s.blks 0)) 0)) (intS (nx .und (cellsB (nx .dead s.blks 0)) 1)) (intS (nx .und (cellsB (nx .dead s.blks 1)) 0)) (intS (nx .und (cellsB (nx .dead s.blks 1)) 1))).trans h⟩
  | false =>
  rw [hb, cond_false] at h
  clear hb
  cases h
def zb117 (N : Nat) (zq114 : (a0 : Int) → (a1 : Int) → (a2 : Int) → (a3 : Int) → (k : Bool → O β) → O β) (zq116 : Nat → Int → Int → Int → Int → Int → Int → (Bool → O β) → (O β) → O β) (a0 : Int) (a1 : Int) (a2 : Int) (a3 : Int) (k : Bool → O β) : O β :=
zq114 a0 a1 a2 a3 fun r5 =>
(cond (!r5)
(k false)
(zq116  N a0 0 a0 a1 a2 a3 (fun e7_0 =>
k e7_0) (k true)))
theorem zt117 (N : Nat) (a0 : Int) (a1 : Int) (a2 : Int) (a3 : Int) (k : Bool → O β) : zj117 N a0 a1 a2 a3 k = zb117 N (zj114 N) (zj116 N) a0 a1 a2 a3 k := by
  unfold zj117 zb117
  rfl
theorem ve58_0 (N : Nat) (zq114 : (a0 : Int) → (a1 : Int) → (a2 : Int) → (a3 : Int) → (k : Bool → O β) → O β) (zq116 : Nat → Int → Int → Int → Int → Int → Int → (Bool → O β) → (O β) → O β)  (a0 : Int) (a1 : Int) (a2 : Int) (a3 : Int) (K : TV → O β) : evFn lay (VE58 N zq114 zq116) Tryz.f58 [.v (.agg [.int .i64 a0, .int .i64 a1]), .v (.agg [.int .i64 a2, .int .i64 a3])] K = zb117 N zq114 zq116 a0 a1 a2 a3 (fun z4 => K (.v (.one (.bool z4)))) := by kernel_rfl
theorem e58_0 (N : Nat)  (a0 : Int) (a1 : Int) (a2 : Int) (a3 : Int) (K : TV → O β) : evFn lay (E58 N) Tryz.f58 [.v (.agg [.int .i64 a0, .int .i64 a1]), .v (.agg [.int .i64 a2, .int .i64 a3])] K = zj117 N a0 a1 a2 a3 (fun z4 => K (.v (.one (.bool z4)))) := (ve58_0 N (zj114 N) (zj116 N) a0 a1 a2 a3 K).trans (zt117 N a0 a1 a2 a3 (fun z4 => K (.v (.one (.bool z4))))).symm
theorem o58 (N : Nat) : SpecOK (β := β) inv Tryz.prog 58 (S58 N) := by
  refine spec_of lay_ok mixed (E := E58 N) (specs_loops (specs_cons (o70 N) specs_nil)) muts_nil gs_nil Tryz.func58 (by kernel_rfl) 1 (by kernel_rfl) ⟨trivial, rk58_0 N⟩ fun args K r h => ?_
  unfold S58 VS58 at h
  split at h
  · exact (e58_0 N _ _ _ _ _).trans h
  · cases h
def VS35 (N : Nat) (zq122 : (a0 : Int) → (a1 : Int) → (k : List (Int × Int) → O β) → O β) : Rv.Spec β := fun args K => match args with
  | [.v (.agg [.int .i64 a0, .int .i64 a1])] => zq122 a0 a1 (fun z2 => K (.v (.one (.sl 50 (.pairs z2)))))
  | _ => none
def S35 (N : Nat) : Rv.Spec β := VS35 N (zj122 N)
def h35_0_0  (v0 : Int) (v1 : Int) (v2 : Int) (v3 : Int) (v4 : List (Int × Int)) : St := ⟨tund :: .v (.one (.ptr 0 0)) :: tund :: .v (.one (.row 1)) :: tund :: tund :: tund :: tund :: .v (.one (.int .i64 v0)) :: .v (.one (.int .i64 v1)) :: tund :: tund :: tund :: tund :: tund :: tund :: tund :: tund :: tund :: tund :: tund :: tund :: tund :: tund :: tund :: tund :: tund :: tund :: tund :: tund :: tund :: tund :: tund :: tund :: tund :: tund :: [], [.cells 36 [.int .i64 v2, .int .i64 v3], .row 50 (.pairs v4)]⟩
def x35_0_0_k0  (y0 : List (Int × Int)) : St := ⟨tund :: tund :: tund :: .v (.one (.row 0)) :: tund :: tund :: tund :: tund :: tund :: tund :: tund :: tund :: tund :: tund :: tund :: tund :: tund :: tund :: tund :: tund :: tund :: tund :: tund :: tund :: tund :: tund :: tund :: tund :: tund :: tund :: tund :: tund :: tund :: tund :: tund :: tund :: [], [.row 50 (.pairs y0)]⟩
def h35_1_0  (v0 : Int) (v1 : Int) (v2 : Int) (v3 : Int) (v4 : Int) (v5 : Int) (v6 : Int) (v7 : List (Int × Int)) : St := ⟨tund :: .v (.one (.ptr 0 0)) :: tund :: .v (.one (.row 1)) :: .v (.one (.int .i64 v0)) :: tund :: tund :: tund :: .v (.one (.int .i64 v1)) :: .v (.one (.int .i64 v2)) :: tund :: tund :: tund :: .v (.one (.int .i64 v3)) :: .v (.one (.int .i64 v4)) :: tund :: tund :: tund :: tund :: tund :: tund :: tund :: tund :: tund :: tund :: tund :: tund :: tund :: tund :: tund :: tund :: tund :: tund :: tund :: tund :: tund :: [], [.cells 36 [.int .i64 v5, .int .i64 v6], .row 50 (.pairs v7)]⟩
def x35_1_0_k0  (y0 : Int) (y1 : Int) (y2 : Int) (y3 : Int) (y4 : List (Int × Int)) : St := ⟨tund :: .v (.one (.ptr 0 0)) :: tund :: .v (.one (.row 1)) :: tund :: tund :: tund :: tund :: .v (.one (.int .i64 y0)) :: .v (.one (.int .i64 y1)) :: tund :: tund :: tund :: tund :: tund :: tund :: tund :: tund :: tund :: tund :: tund :: tund :: tund :: tund :: tund :: tund :: tund :: tund :: tund :: tund :: tund :: tund :: tund :: tund :: tund :: tund :: [], [.cells 36 [.int .i64 y2, .int .i64 y3], .row 50 (.pairs y4)]⟩
theorem fl35_0_0 (s : St) : refSt (h35_0_0 0 0 0 0 []) s = h35_0_0 (intS (oneA (vT (nx tund s.tmps 8)))) (intS (oneA (vT (nx tund s.tmps 9)))) (intS (nx .und (cellsB (nx .dead s.blks 0)) 0)) (intS (nx .und (cellsB (nx .dead s.blks 0)) 1)) (rPairs (rowB_ (nx .dead s.blks 1))) := by kernel_rfl
def VLS35_0 (N : Nat) (zq121 : Nat → Int → Int → Int → Int → List (Int × Int) → (List (Int × Int) → O β) → O β) : LSpec β := fun s K => cond (shpSt (h35_0_0 0 0 0 0 []) s) ((fun (v0 : Int) (v1 : Int) (v2 : Int) (v3 : Int) (v4 : List (Int × Int)) => zq121  N v0 v1 v2 v3 v4 (fun y0 => K (.exit 0) (x35_0_0_k0  y0))) (intS (oneA (vT (nx tund s.tmps 8)))) (intS (oneA (vT (nx tund s.tmps 9)))) (intS (nx .und (cellsB (nx .dead s.blks 0)) 0)) (intS (nx .und (cellsB (nx .dead s.blks 0)) 1)) (rPairs (rowB_ (nx .dead s.blks 1)))) (none)
def LS35_0 (N : Nat) : LSpec β := VLS35_0 N (zj121 N)
theorem fl35_1_0 (s : St) : refSt (h35_1_0 0 0 0 0 0 0 0 []) s = h35_1_0 (intS (oneA (vT (nx tund s.tmps 4)))) (intS (oneA (vT (nx tund s.tmps 8)))) (intS (oneA (vT (nx tund s.tmps 9)))) (intS (oneA (vT (nx tund s.tmps 13)))) (intS (oneA (vT (nx tund s.tmps 14)))) (intS (nx .und (cellsB (nx .dead s.blks 0)) 0)) (intS (nx .und (cellsB (nx .dead s.blks 0)) 1)) (rPairs (rowB_ (nx .dead s.blks 1))) := by kernel_rfl
def VLS35_2 (N : Nat) (zq119 : Nat → Int → Int → Int → Int → Int → Int → Int → List (Int × Int) → (Int → Int → Int → Int → List (Int × Int) → O β) → O β) : LSpec β := fun s K => cond (shpSt (h35_1_0 0 0 0 0 0 0 0 []) s) ((fun (v0 : Int) (v1 : Int) (v2 : Int) (v3 : Int) (v4 : Int) (v5 : Int) (v6 : Int) (v7 : List (Int × Int)) => zq119  N v0 v1 v2 v3 v4 v5 v6 v7 (fun y0 y1 y2 y3 y4 => K (.exit 2) (x35_1_0_k0  y0 y1 y2 y3 y4))) (intS (oneA (vT (nx tund s.tmps 4)))) (intS (oneA (vT (nx tund s.tmps 8)))) (intS (oneA (vT (nx tund s.tmps 9)))) (intS (oneA (vT (nx tund s.tmps 13)))) (intS (oneA (vT (nx tund s.tmps 14)))) (intS (nx .und (cellsB (nx .dead s.blks 0)) 0)) (intS (nx .und (cellsB (nx .dead s.blks 0)) 1)) (rPairs (rowB_ (nx .dead s.blks 1)))) (none)
def LS35_2 (N : Nat) : LSpec β := VLS35_2 N (zj119 N)
def VE35 (N : Nat) (zq108 : (a0 : Int) → (a1 : Int) → (k : Int → O β) → O β) (zq117 : (a0 : Int) → (a1 : Int) → (a2 : Int) → (a3 : Int) → (k : Bool → O β) → O β) (zq121 : Nat → Int → Int → Int → Int → List (Int × Int) → (List (Int × Int) → O β) → O β) (zq119 : Nat → Int → Int → Int → Int → Int → Int → Int → List (Int × Int) → (Int → Int → Int → Int → List (Int × Int) → O β) → O β) : Env β := ⟨[(57, VS57 N zq108), (58, VS58 N zq117)], [], [(0, VLS35_0 N zq121), (2, VLS35_2 N zq119)], [], ⟨[], [], [], []⟩⟩
def E35 (N : Nat) : Env β := VE35 N (zj108 N) (zj117 N) (zj121 N) (zj119 N)
def zb120 (N : Nat) (zq119 : Nat → Int → Int → Int → Int → Int → Int → Int → List (Int × Int) → (Int → Int → Int → Int → List (Int × Int) → O β) → O β)  (v0 : Int) (v1 : Int) (v2 : Int) (v3 : Int) (v4 : List (Int × Int)) (rec_ : Int → Int → Int → Int → List (Int × Int) → O β) (k0 : List (Int × Int) → O β) : O β :=
(cond ((decide (v1 < v0)))
(zq119  N v1 v0 v1 ((w64 (v1 + 1))) 0 v2 v3 v4 (fun e5_0 e5_1 e5_2 e5_3 e5_4 =>
rec_ e5_0 ((w64 (e5_1 + 1))) e5_2 e5_3 e5_4))
(k0 v4))
theorem zt120 (N : Nat)  (v0 : Int) (v1 : Int) (v2 : Int) (v3 : Int) (v4 : List (Int × Int)) (rec_ : Int → Int → Int → Int → List (Int × Int) → O β) (k0 : List (Int × Int) → O β) : zj120 N v0 v1 v2 v3 v4 rec_ k0 = zb120 N (zj119 N) v0 v1 v2 v3 v4 rec_ k0 := by
  unfold zj120 zb120
  rfl
theorem vst35_0_0 (N : Nat) (zq108 : (a0 : Int) → (a1 : Int) → (k : Int → O β) → O β) (zq117 : (a0 : Int) → (a1 : Int) → (a2 : Int) → (a3 : Int) → (k : Bool → O β) → O β) (zq121 : Nat → Int → Int → Int → Int → List (Int × Int) → (List (Int × Int) → O β) → O β) (zq119 : Nat → Int → Int → Int → Int → Int → Int → Int → List (Int × Int) → (Int → Int → Int → Int → List (Int × Int) → O β) → O β)  (v0 : Int) (v1 : Int) (v2 : Int) (v3 : Int) (v4 : List (Int × Int)) (rec_ : St → O β) (K : Exit → St → O β) :
    ev lay (VE35 N zq108 zq117 zq121 zq119) (retMask Tryz.f35) (lp Tryz.f35 0).body (lp Tryz.f35 0).ex ((lp Tryz.f35 0).lv (retMask Tryz.f35)) (h35_0_0  v0 v1 v2 v3 v4) (nextR (fun s' => rec_ (s'.tidy ((lp Tryz.f35 0).lv (retMask Tryz.f35)))) K) = zb120 N zq119  v0 v1 v2 v3 v4 (fun v0 v1 v2 v3 v4 => rec_ (h35_0_0  v0 v1 v2 v3 v4)) (fun y0 => K (.exit 0) (x35_0_0_k0  y0)) := by kernel_rfl
theorem st35_0_0 (N : Nat)  (v0 : Int) (v1 : Int) (v2 : Int) (v3 : Int) (v4 : List (Int × Int)) (rec_ : St → O β) (K : Exit → St → O β) :
    ev lay (E35 N) (retMask Tryz.f35) (lp Tryz.f35 0).body (lp Tryz.f35 0).ex ((lp Tryz.f35 0).lv (retMask Tryz.f35)) (h35_0_0  v0 v1 v2 v3 v4) (nextR (fun s' => rec_ (s'.tidy ((lp Tryz.f35 0).lv (retMask Tryz.f35)))) K) = zj120 N  v0 v1 v2 v3 v4 (fun v0 v1 v2 v3 v4 => rec_ (h35_0_0  v0 v1 v2 v3 v4)) (fun y0 => K (.exit 0) (x35_0_0_k0  y0)) := (vst35_0_0 N (zj108 N) (zj117 N) (zj121 N) (zj119 N) v0 v1 v2 v3 v4 rec_ K).trans (zt120 N  v0 v1 v2 v3 v4 (fun v0 v1 v2 v3 v4 => rec_ (h35_0_0  v0 v1 v2 v3 v4)) (fun y0 => K (.exit 0) (x35_0_0_k0  y0))).symm
theorem ro35_0_0 (N : Nat)  (K : Exit → St → O β) : ∀ (F : Nat) (v0 : Int) (v1 : Int) (v2 : Int) (v3 : Int) (v4 : List (Int × Int)), (lp Tryz.f35 0).rounds lay (E35 N) (retMask Tryz.f35) F (h35_0_0  v0 v1 v2 v3 v4) K = zj121 N  F v0 v1 v2 v3 v4 (fun y0 => K (.exit 0) (x35_0_0_k0  y0)) := by
  intro F
  induction F with
  | zero => intros; rfl
  | succ F ih =>
    intros
    rw [rounds_next]
    refine (st35_0_0 N  _ _ _ _ _ (fun s => (lp Tryz.f35 0).rounds lay (E35 N) (retMask Tryz.f35) F s K) K).trans ?_
    simp only [ih]
    rfl
theorem lk35_0 (N : Nat) : lookL (E35 (β := β) N).loops (lp Tryz.f35 0).id = LS35_0 N := by kernel_rfl
theorem rk35_0 (N : Nat) : RoundsOK lay (E35 (β := β) N) (retMask Tryz.f35) (lp Tryz.f35 0) := by
  intro s K r h
  rw [lk35_0] at h
  unfold LS35_0 VLS35_0 at h
  cases hb : shpSt (h35_0_0 0 0 0 0 []) s with
  | true =>
    rw [hb, cond_true] at h
    exact ⟨N, by rw [← shpSt_ref hb, fl35_0_0 s]; exact (ro35_0_0 N  K N (intS (oneA (vT (nx tund s.tmps 8)))) (intS (oneA (vT (nx tund s.tmps 9)))) (intS (nx .und (cellsB (nx .dead s.blks 0)) 0)) (intS (nx .und (cellsB (nx .dead s.blks 0)) 1)) (rPairs (rowB_ (nx .dead s.blks 1)))).trans h⟩
  | false =>
  rw [hb, cond_false] at h
  clear hb
  cases h
def zb118 (N : Nat) (zq117 : (a0 : Int) → (a1 : Int) → (a2 : Int) → (a3 : Int) → (k : Bool → O β) → O β)  (v0 : Int) (v1 : Int) (v2 : Int) (v3 : Int) (v4 : Int) (v5 : Int) (v6 : Int) (v7 : List (Int × Int)) (rec_ : Int → Int → Int → Int → Int → Int → Int → List (Int × Int) → O β) (k0 : Int → Int → Int → Int → List (Int × Int) → O β) : O β :=
(cond ((decide (v4 < v3)))
((cond (((bits .andNot .i64 v4 v0) == 0))
(zq117 v5 v6 v0 v4 fun r4 =>
(cond r4
((gd ((decide ((v7.length + ((([] : List (Int × Int)) ++ [(v0, v4)])).length) * 16 ≤ 140737488355328)))
(rec_ v0 v1 v2 v3 ((w64 (v4 + 1))) v5 v6 ((v7 ++ (([] : List (Int × Int)) ++ [(v0, v4)]))))))
(rec_ v0 v1 v2 v3 ((w64 (v4 + 1))) v5 v6 v7)))
(rec_ v0 v1 v2 v3 ((w64 (v4 + 1))) v5 v6 v7)))
(k0 v1 v2 v5 v6 v7))
theorem zt118 (N : Nat)  (v0 : Int) (v1 : Int) (v2 : Int) (v3 : Int) (v4 : Int) (v5 : Int) (v6 : Int) (v7 : List (Int × Int)) (rec_ : Int → Int → Int → Int → Int → Int → Int → List (Int × Int) → O β) (k0 : Int → Int → Int → Int → List (Int × Int) → O β) : zj118 N v0 v1 v2 v3 v4 v5 v6 v7 rec_ k0 = zb118 N (zj117 N) v0 v1 v2 v3 v4 v5 v6 v7 rec_ k0 := by
  unfold zj118 zb118
  rfl
theorem vst35_1_0 (N : Nat) (zq108 : (a0 : Int) → (a1 : Int) → (k : Int → O β) → O β) (zq117 : (a0 : Int) → (a1 : Int) → (a2 : Int) → (a3 : Int) → (k : Bool → O β) → O β) (zq121 : Nat → Int → Int → Int → Int → List (Int × Int) → (List (Int × Int) → O β) → O β) (zq119 : Nat → Int → Int → Int → Int → Int → Int → Int → List (Int × Int) → (Int → Int → Int → Int → List (Int × Int) → O β) → O β)  (v0 : Int) (v1 : Int) (v2 : Int) (v3 : Int) (v4 : Int) (v5 : Int) (v6 : Int) (v7 : List (Int × Int)) (rec_ : St → O β) (K : Exit → St → O β) :
    ev lay (VE35 N zq108 zq117 zq121 zq119) (retMask Tryz.f35) (lp Tryz.f35 1).body (lp Tryz.f35 1).ex ((lp Tryz.f35 1).lv (retMask Tryz.f35)) (h35_1_0  v0 v1 v2 v3 v4 v5 v6 v7) (nextR (fun s' => rec_ (s'.tidy ((lp Tryz.f35 1).lv (retMask Tryz.f35)))) K) = zb118 N zq117  v0 v1 v2 v3 v4 v5 v6 v7 (fun v0 v1 v2 v3 v4 v5 v6 v7 => rec_ (h35_1_0  v0 v1 v2 v3 v4 v5 v6 v7)) (fun y0 y1 y2 y3 y4 => K (.exit 2) (x35_1_0_k0  y0 y1 y2 y3 y4)) := by kernel_rfl
theorem st35_1_0 (N : Nat)  (v0 : Int) (v1 : Int) (v2 : Int) (v3 : Int) (v4 : Int) (v5 : Int) (v6 : Int) (v7 : List (Int × Int)) (rec_ : St → O β) (K : Exit → St → O β) :
    ev lay (E35 N) (retMask Tryz.f35) (lp Tryz.f35 1).body (lp Tryz.f35 1).ex ((lp Tryz.f35 1).lv (retMask Tryz.f35)) (h35_1_0  v0 v1 v2 v3 v4 v5 v6 v7) (nextR (fun s' => rec_ (s'.tidy ((lp Tryz.f35 1).lv (retMask Tryz.f35)))) K) = zj118 N  v0 v1 v2 v3 v4 v5 v6 v7 (fun v0 v1 v2 v3 v4 v5 v6 v7 => rec_ (h35_1_0  v0 v1 v2 v3 v4 v5 v6 v7)) (fun y0 y1 y2 y3 y4 => K (.exit 2) (x35_1_0_k0  y0 y1 y2 y3 y4)) := (vst35_1_0 N (zj108 N) (zj117 N) (zj121 N) (zj119 N) v0 v1 v2 v3 v4 v5 v6 v7 rec_ K).trans (zt118 N  v0 v1 v2 v3 v4 v5 v6 v7 (fun v0 v1 v2 v3 v4 v5 v6 v7 => rec_ (h35_1_0  v0 v1 v2 v3 v4 v5 v6 v7)) (fun y0 y1 y2 y3 y4 => K (.exit 2) (x35_1_0_k0  y0 y1 y2 y3 y4))).symm
theorem ro35_1_0 (N : Nat)  (K : Exit → St → O β) : ∀ (F : Nat) (v0 : Int) (v1 : Int) (v2 : Int) (v3 : Int) (v4 : Int) (v5 : Int) (v6 : Int) (v7 : List (Int × Int)), (lp Tryz.f35 1).rounds lay (E35 N) (retMask Tryz.f35) F (h35_1_0  v0 v1 v2 v3 v4 v5 v6 v7) K = zj119 N  F v0 v1 v2 v3 v4 v5 v6 v7 (fun y0 y1 y2 y3 y4 => K (.exit 2) (x35_1_0_k0  y0 y1 y2 y3 y4)) := by
  intro F
  induction F with
  | zero => intros; rfl
  | succ F ih =>
    intros
    rw [rounds_next]
    refine (st35_1_0 N  _ _ _ _ _ _ _ _ (fun s => (lp Tryz.f35 1).rounds lay (E35 N) (retMask Tryz.f35) F s K) K).trans ?_
    simp only [ih]
    rfl
theorem lk35_2 (N : Nat) : lookL (E35 (β := β) N).loops (lp Tryz.f35 1).id = LS35_2 N := by kernel_rfl
theorem rk35_2 (N : Nat) : RoundsOK lay (E35 (β := β) N) (retMask Tryz.f35) (lp Tryz.f35 1) := by
  intro s K r h
  rw [lk35_2] at h
  unfold LS35_2 VLS35_2 at h
  cases hb : shpSt (h35_1_0 0 0 0 0 0 0 0 []) s with
  | true =>
    rw [hb, cond_true] at h
    exact ⟨N, by rw [← shpSt_ref hb, fl35_1_0 s]; exact (ro35_1_0 N  K N (intS (oneA (vT (nx tund s.tmps 4)))) (intS (oneA (vT (nx tund s.tmps 8)))) (intS (oneA (vT (nx tund s.tmps 9)))) (intS (oneA (vT (nx tund s.tmps 13)))) (intS (oneA (vT (nx tund s.tmps 14)))) (intS (nx .und (cellsB (nx .dead s.blks 0)) 0)) (intS (nx .und (cellsB (nx .dead s.blks 0)) 1)) (rPairs (rowB_ (nx .dead s.blks 1)))).trans h⟩
  | false =>
  rw [hb, cond_false] at h
  clear hb
  cases h
def zb122 (N : Nat) (zq108 : (a0 : Int) → (a1 : Int) → (k : Int → O β) → O β) (zq121 : Nat → Int → Int → Int → Int → List (Int × Int) → (List (Int × Int) → O β) → O β) (a0 : Int) (a1 : Int) (k : List (Int × Int) → O β) : O β :=
zq108 a0 a1 fun r3 =>
zq121  N r3 0 a0 a1 (([] : List (Int × Int))) (fun e6_0 =>
k e6_0)
theorem zt122 (N : Nat) (a0 : Int) (a1 : Int) (k : List (Int × Int) → O β) : zj122 N a0 a1 k = zb122 N (zj108 N) (zj121 N) a0 a1 k := by
  unfold zj122 zb122
  rfl
theorem ve35_0 (N : Nat) (zq108 : (a0 : Int) → (a1 : Int) → (k : Int → O β) → O β) (zq117 : (a0 : Int) → (a1 : Int) → (a2 : Int) → (a3 : Int) → (k : Bool → O β) → O β) (zq121 : Nat → Int → Int → Int → Int → List (Int × Int) → (List (Int × Int) → O β) → O β) (zq119 : Nat → Int → Int → Int → Int → Int → Int → Int → List (Int × Int) → (Int → Int → Int → Int → List (Int × Int) → O β) → O β)  (a0 : Int) (a1 : Int) (K : TV → O β) : evFn lay (VE35 N zq108 zq117 zq121 zq119) Tryz.f35 [.v (.agg [.int .i64 a0, .int .i64 a1])] K = zb122 N zq108 zq121 a0 a1 (fun z2 => K (.v (.one (.sl 50 (.pairs z2))))) := by kernel_rfl
theorem e35_0 (N : Nat)  (a0 : Int) (a1 : Int) (K : TV → O β) : evFn lay (E35 N) Tryz.f35 [.v (.agg [.int .i64 a0, .int .i64 a1])] K = zj122 N a0 a1 (fun z2 => K (.v (.one (.sl 50 (.pairs z2))))) := (ve35_0 N (zj108 N) (zj117 N) (zj121 N) (zj119 N) a0 a1 K).trans (zt122 N a0 a1 (fun z2 => K (.v (.one (.sl 50 (.pairs z2)))))).symm
theorem o35 (N : Nat) : SpecOK (β := β) inv Tryz.prog 35 (S35 N) := by
  refine spec_of lay_ok mixed (E := E35 N) (specs_loops (specs_cons (o57 N) (specs_cons (o58 N) specs_nil))) muts_nil gs_nil Tryz.func35 (by kernel_rfl) 2 (by kernel_rfl) ⟨⟨trivial, rk35_0 N⟩, rk35_2 N⟩ fun args K r h => ?_
  unfold S35 VS35 at h
  split at h
  · exact (e35_0 N _ _ _).trans h
  · cases h
def VS14 (N : Nat) (zq123 : (a0 : Int) → (a1 : Int) → (k : List (Int × Int) → Bool → O β) → O β) : Rv.Spec β := fun args K => match args with
  | [.v (.agg [.int .i64 a0, .int .i64 a1])] => zq123 a0 a1 (fun z2 z3 => K (.tup [.one (.sl 50 (.pairs z2)), .one (.bool z3)]))
  | _ => none
def S14 (N : Nat) : Rv.Spec β := VS14 N (zj123 N)
def VE14 (N : Nat) (zq109 : (a0 : Int) → (a1 : Int) → (k : Bool → O β) → O β) (zq122 : (a0 : Int) → (a1 : Int) → (k : List (Int × Int) → O β) → O β) : Env β := ⟨[(34, VS34 N zq109), (35, VS35 N zq122)], [], [], [], ⟨[], [], [], []⟩⟩
def E14 (N : Nat) : Env β := VE14 N (zj109 N) (zj122 N)
def zb123 (N : Nat) (zq109 : (a0 : Int) → (a1 : Int) → (k : Bool → O β) → O β) (zq122 : (a0 : Int) → (a1 : Int) → (k : List (Int × Int) → O β) → O β) (a0 : Int) (a1 : Int) (k : List (Int × Int) → Bool → O β) : O β :=
zq109 a0 a1 fun r4 =>
(cond (!r4)
(k (([] : List (Int × Int))) false)
(zq122 a0 a1 fun r5 =>
k r5 true))
theorem zt123 (N : Nat) (a0 : Int) (a1 : Int) (k : List (Int × Int) → Bool → O β) : zj123 N a0 a1 k = zb123 N (zj109 N) (zj122 N) a0 a1 k := by
  unfold zj123 zb123
  rfl
theorem ve14_0 (N : Nat) (zq109 : (a0 : Int) → (a1 : Int) → (k : Bool → O β) → O β) (zq122 : (a0 : Int) → (a1 : Int) → (k : List (Int × Int) → O β) → O β)  (a0 : Int) (a1 : Int) (K : TV → O β) : evFn lay (VE14 N zq109 zq122) Tryz.f14 [.v (.agg [.int .i64 a0, .int .i64 a1])] K = zb123 N zq109 zq122 a0 a1 (fun z2 z3 => K (.tup [.one (.sl 50 (.pairs z2)), .one (.bool z3)])) := by kernel_rfl
theorem e14_0 (N : Nat)  (a0 : Int) (a1 : Int) (K : TV → O β) : evFn lay (E14 N) Tryz.f14 [.v (.agg [.int .i64 a0, .int .i64 a1])] K = zj123 N a0 a1 (fun z2 z3 => K (.tup [.one (.sl 50 (.pairs z2)), .one (.bool z3)])) := (ve14_0 N (zj109 N) (zj122 N) a0 a1 K).trans (zt123 N a0 a1 (fun z2 z3 => K (.tup [.one (.sl 50 (.pairs z2)), .one (.bool z3)]))).symm
theorem o14 (N : Nat) : SpecOK (β := β) inv Tryz.prog 14 (S14 N) := by
  refine spec_of lay_ok mixed (E := E14 N) (specs_loops (specs_cons (o34 N) (specs_cons (o35 N) specs_nil))) muts_nil gs_nil Tryz.func14 (by kernel_rfl) 0 (by kernel_rfl) trivial fun args K r h => ?_
  unfold S14 VS14 at h
  split at h
  · exact (e14_0 N _ _ _).trans h
  · cases h
end Go.Proofs.YtddflpokemgnmaaGreatDoor
