/- The functions that the claims reach answer as their texts do. -/
import Derived.Test.YtddflpokemgnmaaGreatDoorE7
namespace Go.Proofs.YtddflpokemgnmaaGreatDoor
open Go.Rv
set_option maxRecDepth 100000
set_option maxHeartbeats 2000000
set_option linter.unusedVariables false
variable {β : Type}
def VS48 (N : Nat) (zq143 : (a0 : Int) → (a1 : Int) → (a2 : Int) → (k : ByteArray → O β) → O β) : Rv.Spec β := fun args K => match args with
  | [.v (.one (.int .i64 a0)), .v (.agg [.int .i64 a1, .int .i64 a2])] => zq143 a0 a1 a2 (fun z3 => K (.v (.one (.str z3))))
  | _ => none
def S48 (N : Nat) : Rv.Spec β := VS48 N (zj143 N)
def h48_0_0  (v0 : Int) (v1 : ByteArray) (v2 : Int) (v3 : Int) (v4 : Int) : St := ⟨.v (.one (.int .i64 v0)) :: tund :: tund :: .v (.one (.ptr 0 0)) :: tund :: .v (.one (.str v1)) :: .v (.one (.int .i64 v2)) :: tund :: tund :: tund :: tund :: tund :: tund :: tund :: tund :: tund :: tund :: tund :: tund :: tund :: tund :: tund :: tund :: tund :: tund :: tund :: tund :: tund :: tund :: tund :: tund :: tund :: tund :: tund :: tund :: tund :: tund :: tund :: tund :: tund :: tund :: tund :: tund :: tund :: tund :: [], [.cells 50 [.int .i64 v3, .int .i64 v4]]⟩
def x48_0_0_k0  (y0 : Int) (y1 : ByteArray) (y2 : Int) (y3 : Int) : St := ⟨.v (.one (.int .i64 y0)) :: tund :: tund :: .v (.one (.ptr 0 0)) :: tund :: .v (.one (.str y1)) :: tund :: tund :: tund :: tund :: tund :: tund :: tund :: tund :: tund :: tund :: tund :: tund :: tund :: tund :: tund :: tund :: tund :: tund :: tund :: tund :: tund :: tund :: tund :: tund :: tund :: tund :: tund :: tund :: tund :: tund :: tund :: tund :: tund :: tund :: tund :: tund :: tund :: tund :: tund :: [], [.cells 50 [.int .i64 y2, .int .i64 y3]]⟩
theorem fl48_0_0 (s : St) : refSt (h48_0_0 0 ByteArray.empty 0 0 0) s = h48_0_0 (intS (oneA (vT (nx tund s.tmps 0)))) (strS (oneA (vT (nx tund s.tmps 5)))) (intS (oneA (vT (nx tund s.tmps 6)))) (intS (nx .und (cellsB (nx .dead s.blks 0)) 0)) (intS (nx .und (cellsB (nx .dead s.blks 0)) 1)) := by kernel_rfl
def VLS48_0 (N : Nat) (zq142 : Nat → Int → ByteArray → Int → Int → Int → (Int → ByteArray → Int → Int → O β) → O β) : LSpec β := fun s K => cond (shpSt (h48_0_0 0 ByteArray.empty 0 0 0) s) ((fun (v0 : Int) (v1 : ByteArray) (v2 : Int) (v3 : Int) (v4 : Int) => zq142  N v0 v1 v2 v3 v4 (fun y0 y1 y2 y3 => K (.exit 0) (x48_0_0_k0  y0 y1 y2 y3))) (intS (oneA (vT (nx tund s.tmps 0)))) (strS (oneA (vT (nx tund s.tmps 5)))) (intS (oneA (vT (nx tund s.tmps 6)))) (intS (nx .und (cellsB (nx .dead s.blks 0)) 0)) (intS (nx .und (cellsB (nx .dead s.blks 0)) 1))) (none)
def LS48_0 (N : Nat) : LSpec β := VLS48_0 N (zj142 N)
def VE48 (N : Nat) (zq76 : (a0 : Int) → (a1 : Int) → (a2 : Int) → (k : Bool → O β) → O β) (zq142 : Nat → Int → ByteArray → Int → Int → Int → (Int → ByteArray → Int → Int → O β) → O β) : Env β := ⟨[(50, VS50 N zq76)], [], [(0, VLS48_0 N zq142)], [], ⟨[], [], [], []⟩⟩
def E48 (N : Nat) : Env β := VE48 N (zj76 N) (zj142 N)
def zb141 (N : Nat) (zq76 : (a0 : Int) → (a1 : Int) → (a2 : Int) → (k : Bool → O β) → O β)  (v0 : Int) (v1 : ByteArray) (v2 : Int) (v3 : Int) (v4 : Int) (rec_ : Int → ByteArray → Int → Int → Int → O β) (k0 : Int → ByteArray → Int → Int → O β) : O β :=
zq76 v0 v3 v4 fun r4 =>
(cond r4
((cond ((decide (v2 < v0)))
((gd ((decide (0 ≤ v2)))
((cond (((bits .and .i64 (shrI .i64 v3 v2) 1) == 0))
(rec_ v0 v1 ((w64 (v2 + 1))) v3 v4)
((gd ((decide (0 ≤ v2)))
((cond (((bits .and .i64 (shrI .i64 v4 v2) 1) == 0))
((gd ((decide (v1.size + ((strOf [33])).size ≤ 9223372036854775807)))
((gd ((decide (0 ≤ (w64 (v2 + 1)))))
((gd ((decide ((w64 (v2 + 1)) ≤ (((strOf [97, 98, 99, 100, 101])).size : Int))))
((gd ((decide (0 ≤ v2)))
((gd ((decide (v2 ≤ (w64 (v2 + 1)))))
((gd ((decide (((v1 ++ (strOf [33]))).size + ((((strOf [97, 98, 99, 100, 101])).extract (Int.toNat v2) (Int.toNat (w64 (v2 + 1))))).size ≤ 9223372036854775807)))
(rec_ v0 (((v1 ++ (strOf [33])) ++ (((strOf [97, 98, 99, 100, 101])).extract (Int.toNat v2) (Int.toNat (w64 (v2 + 1)))))) ((w64 (v2 + 1))) v3 v4)))))))))))))
((gd ((decide (0 ≤ (w64 (v2 + 1)))))
((gd ((decide ((w64 (v2 + 1)) ≤ (((strOf [97, 98, 99, 100, 101])).size : Int))))
((gd ((decide (0 ≤ v2)))
((gd ((decide (v2 ≤ (w64 (v2 + 1)))))
((gd ((decide (v1.size + ((((strOf [97, 98, 99, 100, 101])).extract (Int.toNat v2) (Int.toNat (w64 (v2 + 1))))).size ≤ 9223372036854775807)))
(rec_ v0 ((v1 ++ (((strOf [97, 98, 99, 100, 101])).extract (Int.toNat v2) (Int.toNat (w64 (v2 + 1)))))) ((w64 (v2 + 1))) v3 v4)))))))))))))))))))
(k0 v0 v1 v3 v4)))
(k0 v0 v1 v3 v4))
theorem zt141 (N : Nat)  (v0 : Int) (v1 : ByteArray) (v2 : Int) (v3 : Int) (v4 : Int) (rec_ : Int → ByteArray → Int → Int → Int → O β) (k0 : Int → ByteArray → Int → Int → O β) : zj141 N v0 v1 v2 v3 v4 rec_ k0 = zb141 N (zj76 N) v0 v1 v2 v3 v4 rec_ k0 := by
  unfold zj141 zb141
  rfl
theorem vst48_0_0 (N : Nat) (zq76 : (a0 : Int) → (a1 : Int) → (a2 : Int) → (k : Bool → O β) → O β) (zq142 : Nat → Int → ByteArray → Int → Int → Int → (Int → ByteArray → Int → Int → O β) → O β)  (v0 : Int) (v1 : ByteArray) (v2 : Int) (v3 : Int) (v4 : Int) (rec_ : St → O β) (K : Exit → St → O β) :
    ev lay (VE48 N zq76 zq142) (retMask Tryz.f48) (lp Tryz.f48 0).body (lp Tryz.f48 0).ex ((lp Tryz.f48 0).lv (retMask Tryz.f48)) (h48_0_0  v0 v1 v2 v3 v4) (nextR (fun s' => rec_ (s'.tidy ((lp Tryz.f48 0).lv (retMask Tryz.f48)))) K) = zb141 N zq76  v0 v1 v2 v3 v4 (fun v0 v1 v2 v3 v4 => rec_ (h48_0_0  v0 v1 v2 v3 v4)) (fun y0 y1 y2 y3 => K (.exit 0) (x48_0_0_k0  y0 y1 y2 y3)) := by kernel_rfl
theorem st48_0_0 (N : Nat)  (v0 : Int) (v1 : ByteArray) (v2 : Int) (v3 : Int) (v4 : Int) (rec_ : St → O β) (K : Exit → St → O β) :
    ev lay (E48 N) (retMask Tryz.f48) (lp Tryz.f48 0).body (lp Tryz.f48 0).ex ((lp Tryz.f48 0).lv (retMask Tryz.f48)) (h48_0_0  v0 v1 v2 v3 v4) (nextR (fun s' => rec_ (s'.tidy ((lp Tryz.f48 0).lv (retMask Tryz.f48)))) K) = zj141 N  v0 v1 v2 v3 v4 (fun v0 v1 v2 v3 v4 => rec_ (h48_0_0  v0 v1 v2 v3 v4)) (fun y0 y1 y2 y3 => K (.exit 0) (x48_0_0_k0  y0 y1 y2 y3)) := (vst48_0_0 N (zj76 N) (zj142 N) v0 v1 v2 v3 v4 rec_ K).trans (zt141 N  v0 v1 v2 v3 v4 (fun v0 v1 v2 v3 v4 => rec_ (h48_0_0  v0 v1 v2 v3 v4)) (fun y0 y1 y2 y3 => K (.exit 0) (x48_0_0_k0  y0 y1 y2 y3))).symm
theorem ro48_0_0 (N : Nat)  (K : Exit → St → O β) : ∀ (F : Nat) (v0 : Int) (v1 : ByteArray) (v2 : Int) (v3 : Int) (v4 : Int), (lp Tryz.f48 0).rounds lay (E48 N) (retMask Tryz.f48) F (h48_0_0  v0 v1 v2 v3 v4) K = zj142 N  F v0 v1 v2 v3 v4 (fun y0 y1 y2 y3 => K (.exit 0) (x48_0_0_k0  y0 y1 y2 y3)) := by
  intro F
  induction F with
  | zero => intros; rfl
  | succ F ih =>
    intros
    rw [rounds_next]
    refine (st48_0_0 N  _ _ _ _ _ (fun s => (lp Tryz.f48 0).rounds lay (E48 N) (retMask Tryz.f48) F s K) K).trans ?_
    simp only [ih]
    rfl
theorem lk48_0 (N : Nat) : lookL (E48 (β := β) N).loops (lp Tryz.f48 0).id = LS48_0 N := by kernel_rfl
theorem rk48_0 (N : Nat) : RoundsOK lay (E48 (β := β) N) (retMask Tryz.f48) (lp Tryz.f48 0) := by
  intro s K r h
  rw [lk48_0] at h
  unfold LS48_0 VLS48_0 at h
  cases hb : shpSt (h48_0_0 0 ByteArray.empty 0 0 0) s with
  | true =>
    rw [hb, cond_true] at h
    exact ⟨N, by rw [← shpSt_ref hb, fl48_0_0 s]; exact (ro48_0_0 N  K N (intS (oneA (vT (nx tund s.tmps 0)))) (strS (oneA (vT (nx tund s.tmps 5)))) (intS (oneA (vT (nx tund s.tmps 6)))) (intS (nx .und (cellsB (nx .dead s.blks 0)) 0)) (intS (nx .und (cellsB (nx .dead s.blks 0)) 1))).trans h⟩
  | false =>
  rw [hb, cond_false] at h
  clear hb
  cases h
def zb143 (N : Nat) (zq142 : Nat → Int → ByteArray → Int → Int → Int → (Int → ByteArray → Int → Int → O β) → O β) (zq76 : (a0 : Int) → (a1 : Int) → (a2 : Int) → (k : Bool → O β) → O β) (a0 : Int) (a1 : Int) (a2 : Int) (k : ByteArray → O β) : O β :=
zq142  N a0 ByteArray.empty 0 a1 a2 (fun e5_0 e5_1 e5_2 e5_3 =>
(cond ((e5_1.toList == ByteArray.empty.toList))
(zq76 e5_0 e5_2 e5_3 fun r6 =>
(cond r6
(k ((strOf [49])))
(k e5_1)))
(k e5_1)))
theorem zt143 (N : Nat) (a0 : Int) (a1 : Int) (a2 : Int) (k : ByteArray → O β) : zj143 N a0 a1 a2 k = zb143 N (zj142 N) (zj76 N) a0 a1 a2 k := by
  unfold zj143 zb143
  rfl
theorem ve48_0 (N : Nat) (zq76 : (a0 : Int) → (a1 : Int) → (a2 : Int) → (k : Bool → O β) → O β) (zq142 : Nat → Int → ByteArray → Int → Int → Int → (Int → ByteArray → Int → Int → O β) → O β)  (a0 : Int) (a1 : Int) (a2 : Int) (K : TV → O β) : evFn lay (VE48 N zq76 zq142) Tryz.f48 [.v (.one (.int .i64 a0)), .v (.agg [.int .i64 a1, .int .i64 a2])] K = zb143 N zq142 zq76 a0 a1 a2 (fun z3 => K (.v (.one (.str z3)))) := by kernel_rfl
theorem e48_0 (N : Nat)  (a0 : Int) (a1 : Int) (a2 : Int) (K : TV → O β) : evFn lay (E48 N) Tryz.f48 [.v (.one (.int .i64 a0)), .v (.agg [.int .i64 a1, .int .i64 a2])] K = zj143 N a0 a1 a2 (fun z3 => K (.v (.one (.str z3)))) := (ve48_0 N (zj76 N) (zj142 N) a0 a1 a2 K).trans (zt143 N a0 a1 a2 (fun z3 => K (.v (.one (.str z3))))).symm
theorem o48 (N : Nat) : SpecOK (β := β) inv Tryz.prog 48 (S48 N) := by
  refine spec_of lay_ok mixed (E := E48 N) (specs_loops (specs_cons (o50 N) specs_nil)) muts_nil gs_nil Tryz.func48 (by kernel_rfl) 1 (by kernel_rfl) ⟨trivial, rk48_0 N⟩ fun args K r h => ?_
  unfold S48 VS48 at h
  split at h
  · exact (e48_0 N _ _ _ _).trans h
  · cases h
def VS22 (N : Nat) (zq146 : (a0 : Int) → (a1 : List (Int × Int)) → (k : ByteArray → O β) → O β) : Rv.Spec β := fun args K => match args with
  | [.v (.one (.int .i64 a0)), .v (.one (.sl 50 (.pairs a1)))] => zq146 a0 a1 (fun z2 => K (.v (.one (.str z2))))
  | _ => none
def S22 (N : Nat) : Rv.Spec β := VS22 N (zj146 N)
def h22_0_0  (v0 : Int) (v1 : List (Int × Int)) (v2 : ByteArray) (v3 : Int) : St := ⟨.v (.one (.int .i64 v0)) :: .v (.one (.sl 50 (.pairs v1))) :: tund :: tund :: tund :: .v (.one (.str v2)) :: .v (.one (.int .i64 v3)) :: tund :: tund :: tund :: tund :: tund :: tund :: tund :: tund :: tund :: tund :: tund :: tund :: tund :: tund :: tund :: tund :: tund :: tund :: tund :: tund :: tund :: tund :: tund :: tund :: tund :: tund :: tund :: tund :: tund :: tund :: tund :: [], []⟩
def x22_0_0_k0  (y0 : Int) (y1 : List (Int × Int)) (y2 : ByteArray) : St := ⟨.v (.one (.int .i64 y0)) :: .v (.one (.sl 50 (.pairs y1))) :: tund :: tund :: tund :: .v (.one (.str y2)) :: tund :: tund :: tund :: tund :: tund :: tund :: tund :: tund :: tund :: tund :: tund :: tund :: tund :: tund :: tund :: tund :: tund :: tund :: tund :: tund :: tund :: tund :: tund :: tund :: tund :: tund :: tund :: tund :: tund :: tund :: tund :: tund :: [], []⟩
theorem fl22_0_0 (s : St) : refSt (h22_0_0 0 [] ByteArray.empty 0) s = h22_0_0 (intS (oneA (vT (nx tund s.tmps 0)))) (rPairs (rowV (oneA (vT (nx tund s.tmps 1))))) (strS (oneA (vT (nx tund s.tmps 5)))) (intS (oneA (vT (nx tund s.tmps 6)))) := by kernel_rfl
def VLS22_0 (N : Nat) (zq145 : Nat → Int → List (Int × Int) → ByteArray → Int → (Int → List (Int × Int) → ByteArray → O β) → O β) : LSpec β := fun s K => cond (shpSt (h22_0_0 0 [] ByteArray.empty 0) s) ((fun (v0 : Int) (v1 : List (Int × Int)) (v2 : ByteArray) (v3 : Int) => zq145  N v0 v1 v2 v3 (fun y0 y1 y2 => K (.exit 0) (x22_0_0_k0  y0 y1 y2))) (intS (oneA (vT (nx tund s.tmps 0)))) (rPairs (rowV (oneA (vT (nx tund s.tmps 1))))) (strS (oneA (vT (nx tund s.tmps 5)))) (intS (oneA (vT (nx tund s.tmps 6))))) (none)
def LS22_0 (N : Nat) : LSpec β := VLS22_0 N (zj145 N)
def VE22 (N : Nat) (zq79 : (a0 : Int) → (a1 : List (Int × Int)) → (k : Bool → O β) → O β) (zq143 : (a0 : Int) → (a1 : Int) → (a2 : Int) → (k : ByteArray → O β) → O β) (zq145 : Nat → Int → List (Int × Int) → ByteArray → Int → (Int → List (Int × Int) → ByteArray → O β) → O β) : Env β := ⟨[(30, VS30 N zq79), (48, VS48 N zq143)], [], [(0, VLS22_0 N zq145)], [], ⟨[], [], [], []⟩⟩
def E22 (N : Nat) : Env β := VE22 N (zj79 N) (zj143 N) (zj145 N)
def zb144 (N : Nat) (zq79 : (a0 : Int) → (a1 : List (Int × Int)) → (k : Bool → O β) → O β) (zq143 : (a0 : Int) → (a1 : Int) → (a2 : Int) → (k : ByteArray → O β) → O β)  (v0 : Int) (v1 : List (Int × Int)) (v2 : ByteArray) (v3 : Int) (rec_ : Int → List (Int × Int) → ByteArray → Int → O β) (k0 : Int → List (Int × Int) → ByteArray → O β) : O β :=
(cond ((decide (v3 < (v1.length : Int))))
(zq79 v0 v1 fun r3 =>
(cond r3
((cond ((decide (v3 > 0)))
((gd ((decide (v2.size + ((strOf [124])).size ≤ 9223372036854775807)))
((gd ((decide (0 ≤ v3)))
((gd ((decide (v3 < (v1.length : Int))))
(zq143 v0 ((rd (0, 0) v1 v3).1) ((rd (0, 0) v1 v3).2) fun r4 =>
(gd ((decide (((v2 ++ (strOf [124]))).size + r4.size ≤ 9223372036854775807)))
(rec_ v0 v1 (((v2 ++ (strOf [124])) ++ r4)) ((w64 (v3 + 1))))))))))))
((gd ((decide (0 ≤ v3)))
((gd ((decide (v3 < (v1.length : Int))))
(zq143 v0 ((rd (0, 0) v1 v3).1) ((rd (0, 0) v1 v3).2) fun r5 =>
(gd ((decide (v2.size + r5.size ≤ 9223372036854775807)))
(rec_ v0 v1 ((v2 ++ r5)) ((w64 (v3 + 1))))))))))))
(k0 v0 v1 v2)))
(k0 v0 v1 v2))
theorem zt144 (N : Nat)  (v0 : Int) (v1 : List (Int × Int)) (v2 : ByteArray) (v3 : Int) (rec_ : Int → List (Int × Int) → ByteArray → Int → O β) (k0 : Int → List (Int × Int) → ByteArray → O β) : zj144 N v0 v1 v2 v3 rec_ k0 = zb144 N (zj79 N) (zj143 N) v0 v1 v2 v3 rec_ k0 := by
  unfold zj144 zb144
  rfl
theorem vst22_0_0 (N : Nat) (zq79 : (a0 : Int) → (a1 : List (Int × Int)) → (k : Bool → O β) → O β) (zq143 : (a0 : Int) → (a1 : Int) → (a2 : Int) → (k : ByteArray → O β) → O β) (zq145 : Nat → Int → List (Int × Int) → ByteArray → Int → (Int → List (Int × Int) → ByteArray → O β) → O β)  (v0 : Int) (v1 : List (Int × Int)) (v2 : ByteArray) (v3 : Int) (rec_ : St → O β) (K : Exit → St → O β) :
    ev lay (VE22 N zq79 zq143 zq145) (retMask Tryz.f22) (lp Tryz.f22 0).body (lp Tryz.f22 0).ex ((lp Tryz.f22 0).lv (retMask Tryz.f22)) (h22_0_0  v0 v1 v2 v3) (nextR (fun s' => rec_ (s'.tidy ((lp Tryz.f22 0).lv (retMask Tryz.f22)))) K) = zb144 N zq79 zq143  v0 v1 v2 v3 (fun v0 v1 v2 v3 => rec_ (h22_0_0  v0 v1 v2 v3)) (fun y0 y1 y2 => K (.exit 0) (x22_0_0_k0  y0 y1 y2)) := by kernel_rfl
theorem st22_0_0 (N : Nat)  (v0 : Int) (v1 : List (Int × Int)) (v2 : ByteArray) (v3 : Int) (rec_ : St → O β) (K : Exit → St → O β) :
    ev lay (E22 N) (retMask Tryz.f22) (lp Tryz.f22 0).body (lp Tryz.f22 0).ex ((lp Tryz.f22 0).lv (retMask Tryz.f22)) (h22_0_0  v0 v1 v2 v3) (nextR (fun s' => rec_ (s'.tidy ((lp Tryz.f22 0).lv (retMask Tryz.f22)))) K) = zj144 N  v0 v1 v2 v3 (fun v0 v1 v2 v3 => rec_ (h22_0_0  v0 v1 v2 v3)) (fun y0 y1 y2 => K (.exit 0) (x22_0_0_k0  y0 y1 y2)) := (vst22_0_0 N (zj79 N) (zj143 N) (zj145 N) v0 v1 v2 v3 rec_ K).trans (zt144 N  v0 v1 v2 v3 (fun v0 v1 v2 v3 => rec_ (h22_0_0  v0 v1 v2 v3)) (fun y0 y1 y2 => K (.exit 0) (x22_0_0_k0  y0 y1 y2))).symm
theorem ro22_0_0 (N : Nat)  (K : Exit → St → O β) : ∀ (F : Nat) (v0 : Int) (v1 : List (Int × Int)) (v2 : ByteArray) (v3 : Int), (lp Tryz.f22 0).rounds lay (E22 N) (retMask Tryz.f22) F (h22_0_0  v0 v1 v2 v3) K = zj145 N  F v0 v1 v2 v3 (fun y0 y1 y2 => K (.exit 0) (x22_0_0_k0  y0 y1 y2)) := by
  intro F
  induction F with
  | zero => intros; rfl
  | succ F ih =>
    intros
    rw [rounds_next]
    refine (st22_0_0 N  _ _ _ _ (fun s => (lp Tryz.f22 0).rounds lay (E22 N) (retMask Tryz.f22) F s K) K).trans ?_
    simp only [ih]
    rfl
theorem lk22_0 (N : Nat) : lookL (E22 (β := β) N).loops (lp Tryz.f22 0).id = LS22_0 N := by kernel_rfl
theorem rk22_0 (N : Nat) : RoundsOK lay (E22 (β := β) N) (retMask Tryz.f22) (lp Tryz.f22 0) := by
  intro s K r h
  rw [lk22_0] at h
  unfold LS22_0 VLS22_0 at h
  cases hb : shpSt (h22_0_0 0 [] ByteArray.empty 0) s with
  | true =>
    rw [hb, cond_true] at h
    exact ⟨N, by rw [← shpSt_ref hb, fl22_0_0 s]; exact (ro22_0_0 N  K N (intS (oneA (vT (nx tund s.tmps 0)))) (rPairs (rowV (oneA (vT (nx tund s.tmps 1))))) (strS (oneA (vT (nx tund s.tmps 5)))) (intS (oneA (vT (nx tund s.tmps 6))))).trans h⟩
  | false =>
  rw [hb, cond_false] at h
  clear hb
  cases h
def zb146 (N : Nat) (zq145 : Nat → Int → List (Int × Int) → ByteArray → Int → (Int → List (Int × Int) → ByteArray → O β) → O β) (zq79 : (a0 : Int) → (a1 : List (Int × Int)) → (k : Bool → O β) → O β) (a0 : Int) (a1 : List (Int × Int)) (k : ByteArray → O β) : O β :=
zq145  N a0 a1 ByteArray.empty 0 (fun e6_0 e6_1 e6_2 =>
(cond ((e6_2.toList == ByteArray.empty.toList))
(zq79 e6_0 e6_1 fun r7 =>
(cond r7
(k ((strOf [48])))
(k e6_2)))
(k e6_2)))
theorem zt146 (N : Nat) (a0 : Int) (a1 : List (Int × Int)) (k : ByteArray → O β) : zj146 N a0 a1 k = zb146 N (zj145 N) (zj79 N) a0 a1 k := by
  unfold zj146 zb146
  rfl
theorem ve22_0 (N : Nat) (zq79 : (a0 : Int) → (a1 : List (Int × Int)) → (k : Bool → O β) → O β) (zq143 : (a0 : Int) → (a1 : Int) → (a2 : Int) → (k : ByteArray → O β) → O β) (zq145 : Nat → Int → List (Int × Int) → ByteArray → Int → (Int → List (Int × Int) → ByteArray → O β) → O β)  (a0 : Int) (a1 : List (Int × Int)) (K : TV → O β) : evFn lay (VE22 N zq79 zq143 zq145) Tryz.f22 [.v (.one (.int .i64 a0)), .v (.one (.sl 50 (.pairs a1)))] K = zb146 N zq145 zq79 a0 a1 (fun z2 => K (.v (.one (.str z2)))) := by kernel_rfl
theorem e22_0 (N : Nat)  (a0 : Int) (a1 : List (Int × Int)) (K : TV → O β) : evFn lay (E22 N) Tryz.f22 [.v (.one (.int .i64 a0)), .v (.one (.sl 50 (.pairs a1)))] K = zj146 N a0 a1 (fun z2 => K (.v (.one (.str z2)))) := (ve22_0 N (zj79 N) (zj143 N) (zj145 N) a0 a1 K).trans (zt146 N a0 a1 (fun z2 => K (.v (.one (.str z2))))).symm
theorem o22 (N : Nat) : SpecOK (β := β) inv Tryz.prog 22 (S22 N) := by
  refine spec_of lay_ok mixed (E := E22 N) (specs_loops (specs_cons (o30 N) (specs_cons (o48 N) specs_nil))) muts_nil gs_nil Tryz.func22 (by kernel_rfl) 1 (by kernel_rfl) ⟨trivial, rk22_0 N⟩ fun args K r h => ?_
  unfold S22 VS22 at h
  split at h
  · exact (e22_0 N _ _ _).trans h
  · cases h
def VS68 (N : Nat) (zq149 : (a0 : Int) → (a1 : List Int) → (a2 : Int) → (a3 : Int) → (k0 : ByteArray → List Int → Int → Int → O β) → O β) : GSpec β := fun args bl K => match args, bl with
  | [.v (.one (.ptr 0 0)), .v (.one (.int .i64 a0))], [.pcells 0 80 [.sl 5 (.ints .u8 a1), .int .i64 a2, .int .i64 a3]] => zq149 a0 a1 a2 a3 (fun y0 y1 y2 y3 => K (.v (.one (.str y0))) [.pcells 0 80 [.sl 5 (.ints .u8 y1), .int .i64 y2, .int .i64 y3]])
  | _, _ => none
def S68 (N : Nat) : GSpec β := VS68 N (zj149 N)
def h68_0_0  (v0 : Int) (v1 : Int) (v2 : List Int) (v3 : Int) (v4 : Int) (v5 : List Int) : St := ⟨.v (.one (.ptr 0 0)) :: tund :: tund :: tund :: tund :: .v (.one (.row 1)) :: .v (.one (.int .i64 v0)) :: .v (.one (.int .i64 v1)) :: tund :: tund :: tund :: tund :: tund :: tund :: tund :: tund :: tund :: tund :: tund :: tund :: tund :: tund :: tund :: tund :: tund :: tund :: tund :: tund :: tund :: tund :: tund :: tund :: tund :: tund :: tund :: tund :: tund :: tund :: [], [.pcells 0 80 [.sl 5 (.ints .u8 v2), .int .i64 v3, .int .i64 v4], .row 5 (.ints .u8 v5)]⟩
def x68_0_0_k0  (y0 : List Int) (y1 : Int) (y2 : Int) (y3 : List Int) : St := ⟨tund :: tund :: tund :: tund :: tund :: .v (.one (.row 1)) :: tund :: tund :: tund :: tund :: tund :: tund :: tund :: tund :: tund :: tund :: tund :: tund :: tund :: tund :: tund :: tund :: tund :: tund :: tund :: tund :: tund :: tund :: tund :: tund :: tund :: tund :: tund :: tund :: tund :: tund :: tund :: tund :: [], [.pcells 0 80 [.sl 5 (.ints .u8 y0), .int .i64 y1, .int .i64 y2], .row 5 (.ints .u8 y3)]⟩
theorem fl68_0_0 (s : St) : refSt (h68_0_0 0 0 [] 0 0 []) s = h68_0_0 (intS (oneA (vT (nx tund s.tmps 6)))) (intS (oneA (vT (nx tund s.tmps 7)))) (rInts (rowV (nx .und (cellsB (nx .dead s.blks 0)) 0))) (intS (nx .und (cellsB (nx .dead s.blks 0)) 1)) (intS (nx .und (cellsB (nx .dead s.blks 0)) 2)) (rInts (rowB_ (nx .dead s.blks 1))) := by kernel_rfl
def VLS68_0 (N : Nat) (zq148 : Nat → Int → Int → List Int → Int → Int → List Int → (List Int → Int → Int → List Int → O β) → O β) : LSpec β := fun s K => cond (shpSt (h68_0_0 0 0 [] 0 0 []) s) ((fun (v0 : Int) (v1 : Int) (v2 : List Int) (v3 : Int) (v4 : Int) (v5 : List Int) => zq148  N v0 v1 v2 v3 v4 v5 (fun y0 y1 y2 y3 => K (.exit 0) (x68_0_0_k0  y0 y1 y2 y3))) (intS (oneA (vT (nx tund s.tmps 6)))) (intS (oneA (vT (nx tund s.tmps 7)))) (rInts (rowV (nx .und (cellsB (nx .dead s.blks 0)) 0))) (intS (nx .und (cellsB (nx .dead s.blks 0)) 1)) (intS (nx .und (cellsB (nx .dead s.blks 0)) 2)) (rInts (rowB_ (nx .dead s.blks 1)))) (none)
def LS68_0 (N : Nat) : LSpec β := VLS68_0 N (zj148 N)
def VE68 (N : Nat) (zq148 : Nat → Int → Int → List Int → Int → Int → List Int → (List Int → Int → Int → List Int → O β) → O β) (zq27 : (a0 : Int) → (a1 : List Int) → (a2 : Int) → (a3 : Int) → (k0 : Int → List Int → Int → Int → O β) → O β) (zq26 : (a0 : List Int) → (a1 : Int) → (a2 : Int) → (k0 : Int → List Int → Int → Int → O β) → O β) : Env β := ⟨[], [], [(0, VLS68_0 N zq148)], [(43, VS43 N zq27), (67, VS67 N zq26)], ⟨[], [], [], []⟩⟩
def E68 (N : Nat) : Env β := VE68 N (zj148 N) (zj27 N) (zj26 N)
def zb147 (N : Nat) (zq26 : (a0 : List Int) → (a1 : Int) → (a2 : Int) → (k0 : Int → List Int → Int → Int → O β) → O β)  (v0 : Int) (v1 : Int) (v2 : List Int) (v3 : Int) (v4 : Int) (v5 : List Int) (rec_ : Int → Int → List Int → Int → Int → List Int → O β) (k0 : List Int → Int → Int → List Int → O β) : O β :=
(cond ((decide (v1 > 0)))
(zq26 v2 v3 v4 (fun r9_0 r9_1 r9_2 r9_3 =>
(cond ((v0 == 1))
((cond ((v0 == 2))
((gd ((decide ((v5.length + ((([] : List Int) ++ [(w8 ((w64 (97 + (remI (remI r9_0 2) 4)))))])).length) * 1 ≤ 140737488355328)))
(rec_ v0 ((w64 (v1 - 1))) r9_1 r9_2 r9_3 ((v5 ++ (([] : List Int) ++ [(w8 ((w64 (97 + (remI (remI r9_0 2) 4)))))]))))))
((gd ((decide ((v5.length + ((([] : List Int) ++ [(w8 ((remI r9_0 2)))])).length) * 1 ≤ 140737488355328)))
(rec_ v0 ((w64 (v1 - 1))) r9_1 r9_2 r9_3 ((v5 ++ (([] : List Int) ++ [(w8 ((remI r9_0 2)))]))))))))
((cond ((v0 == 2))
((gd ((decide ((v5.length + ((([] : List Int) ++ [(w8 ((w64 (97 + (remI r9_0 4)))))])).length) * 1 ≤ 140737488355328)))
(rec_ v0 ((w64 (v1 - 1))) r9_1 r9_2 r9_3 ((v5 ++ (([] : List Int) ++ [(w8 ((w64 (97 + (remI r9_0 4)))))]))))))
((gd ((decide ((v5.length + ((([] : List Int) ++ [(w8 (r9_0))])).length) * 1 ≤ 140737488355328)))
(rec_ v0 ((w64 (v1 - 1))) r9_1 r9_2 r9_3 ((v5 ++ (([] : List Int) ++ [(w8 (r9_0))])))))))))))
(k0 v2 v3 v4 v5))
theorem zt147 (N : Nat)  (v0 : Int) (v1 : Int) (v2 : List Int) (v3 : Int) (v4 : Int) (v5 : List Int) (rec_ : Int → Int → List Int → Int → Int → List Int → O β) (k0 : List Int → Int → Int → List Int → O β) : zj147 N v0 v1 v2 v3 v4 v5 rec_ k0 = zb147 N (zj26 N) v0 v1 v2 v3 v4 v5 rec_ k0 := by
  unfold zj147 zb147
  rfl
theorem vst68_0_0 (N : Nat) (zq148 : Nat → Int → Int → List Int → Int → Int → List Int → (List Int → Int → Int → List Int → O β) → O β) (zq27 : (a0 : Int) → (a1 : List Int) → (a2 : Int) → (a3 : Int) → (k0 : Int → List Int → Int → Int → O β) → O β) (zq26 : (a0 : List Int) → (a1 : Int) → (a2 : Int) → (k0 : Int → List Int → Int → Int → O β) → O β)  (v0 : Int) (v1 : Int) (v2 : List Int) (v3 : Int) (v4 : Int) (v5 : List Int) (rec_ : St → O β) (K : Exit → St → O β) :
    ev lay (VE68 N zq148 zq27 zq26) (retMask Tryz.f68) (lp Tryz.f68 0).body (lp Tryz.f68 0).ex ((lp Tryz.f68 0).lv (retMask Tryz.f68)) (h68_0_0  v0 v1 v2 v3 v4 v5) (nextR (fun s' => rec_ (s'.tidy ((lp Tryz.f68 0).lv (retMask Tryz.f68)))) K) = zb147 N zq26  v0 v1 v2 v3 v4 v5 (fun v0 v1 v2 v3 v4 v5 => rec_ (h68_0_0  v0 v1 v2 v3 v4 v5)) (fun y0 y1 y2 y3 => K (.exit 0) (x68_0_0_k0  y0 y1 y2 y3)) := by kernel_rfl
theorem st68_0_0 (N : Nat)  (v0 : Int) (v1 : Int) (v2 : List Int) (v3 : Int) (v4 : Int) (v5 : List Int) (rec_ : St → O β) (K : Exit → St → O β) :
    ev lay (E68 N) (retMask Tryz.f68) (lp Tryz.f68 0).body (lp Tryz.f68 0).ex ((lp Tryz.f68 0).lv (retMask Tryz.f68)) (h68_0_0  v0 v1 v2 v3 v4 v5) (nextR (fun s' => rec_ (s'.tidy ((lp Tryz.f68 0).lv (retMask Tryz.f68)))) K) = zj147 N  v0 v1 v2 v3 v4 v5 (fun v0 v1 v2 v3 v4 v5 => rec_ (h68_0_0  v0 v1 v2 v3 v4 v5)) (fun y0 y1 y2 y3 => K (.exit 0) (x68_0_0_k0  y0 y1 y2 y3)) := (vst68_0_0 N (zj148 N) (zj27 N) (zj26 N) v0 v1 v2 v3 v4 v5 rec_ K).trans (zt147 N  v0 v1 v2 v3 v4 v5 (fun v0 v1 v2 v3 v4 v5 => rec_ (h68_0_0  v0 v1 v2 v3 v4 v5)) (fun y0 y1 y2 y3 => K (.exit 0) (x68_0_0_k0  y0 y1 y2 y3))).symm
theorem ro68_0_0 (N : Nat)  (K : Exit → St → O β) : ∀ (F : Nat) (v0 : Int) (v1 : Int) (v2 : List Int) (v3 : Int) (v4 : Int) (v5 : List Int), (lp Tryz.f68 0).rounds lay (E68 N) (retMask Tryz.f68) F (h68_0_0  v0 v1 v2 v3 v4 v5) K = zj148 N  F v0 v1 v2 v3 v4 v5 (fun y0 y1 y2 y3 => K (.exit 0) (x68_0_0_k0  y0 y1 y2 y3)) := by
  intro F
  induction F with
  | zero => intros; rfl
  | succ F ih =>
    intros
    rw [rounds_next]
    refine (st68_0_0 N  _ _ _ _ _ _ (fun s => (lp Tryz.f68 0).rounds lay (E68 N) (retMask Tryz.f68) F s K) K).trans ?_
    simp only [ih]
    rfl
theorem lk68_0 (N : Nat) : lookL (E68 (β := β) N).loops (lp Tryz.f68 0).id = LS68_0 N := by kernel_rfl
theorem rk68_0 (N : Nat) : RoundsOK lay (E68 (β := β) N) (retMask Tryz.f68) (lp Tryz.f68 0) := by
  intro s K r h
  rw [lk68_0] at h
  unfold LS68_0 VLS68_0 at h
  cases hb : shpSt (h68_0_0 0 0 [] 0 0 []) s with
  | true =>
    rw [hb, cond_true] at h
    exact ⟨N, by rw [← shpSt_ref hb, fl68_0_0 s]; exact (ro68_0_0 N  K N (intS (oneA (vT (nx tund s.tmps 6)))) (intS (oneA (vT (nx tund s.tmps 7)))) (rInts (rowV (nx .und (cellsB (nx .dead s.blks 0)) 0))) (intS (nx .und (cellsB (nx .dead s.blks 0)) 1)) (intS (nx .und (cellsB (nx .dead s.blks 0)) 2)) (rInts (rowB_ (nx .dead s.blks 1)))).trans h⟩
  | false =>
  rw [hb, cond_false] at h
  clear hb
  cases h
def zb149 (N : Nat) (zq27 : (a0 : Int) → (a1 : List Int) → (a2 : Int) → (a3 : Int) → (k0 : Int → List Int → Int → Int → O β) → O β) (zq148 : Nat → Int → Int → List Int → Int → Int → List Int → (List Int → Int → Int → List Int → O β) → O β) (a0 : Int) (a1 : List Int) (a2 : Int) (a3 : Int) (k0 : ByteArray → List Int → Int → Int → O β) : O β :=
zq27 4 a1 a2 a3 (fun r7_0 r7_1 r7_2 r7_3 =>
zq27 ((w64 (a0 + 1))) r7_1 r7_2 r7_3 (fun r8_0 r8_1 r8_2 r8_3 =>
zq148  N r7_0 r8_0 r8_1 r8_2 r8_3 (([] : List Int)) (fun e10_0 e10_1 e10_2 e10_3 =>
k0 ((strOf e10_3)) e10_0 e10_1 e10_2)))
theorem zt149 (N : Nat) (a0 : Int) (a1 : List Int) (a2 : Int) (a3 : Int) (k0 : ByteArray → List Int → Int → Int → O β) : zj149 N a0 a1 a2 a3 k0 = zb149 N (zj27 N) (zj148 N) a0 a1 a2 a3 k0 := by
  unfold zj149 zb149
  rfl
theorem ve68_0 (N : Nat) (zq148 : Nat → Int → Int → List Int → Int → Int → List Int → (List Int → Int → Int → List Int → O β) → O β) (zq27 : (a0 : Int) → (a1 : List Int) → (a2 : Int) → (a3 : Int) → (k0 : Int → List Int → Int → Int → O β) → O β) (zq26 : (a0 : List Int) → (a1 : Int) → (a2 : Int) → (k0 : Int → List Int → Int → Int → O β) → O β) (a0 : Int) (a1 : List Int) (a2 : Int) (a3 : Int) (K : TV → List Blk → O β) : evFnG lay (VE68 N zq148 zq27 zq26) Tryz.f68 [.v (.one (.ptr 0 0)), .v (.one (.int .i64 a0))] [.pcells 0 80 [.sl 5 (.ints .u8 a1), .int .i64 a2, .int .i64 a3]] K = zb149 N zq27 zq148 a0 a1 a2 a3 (fun y0 y1 y2 y3 => K (.v (.one (.str y0))) [.pcells 0 80 [.sl 5 (.ints .u8 y1), .int .i64 y2, .int .i64 y3]]) := by kernel_rfl
theorem e68_0 (N : Nat) (a0 : Int) (a1 : List Int) (a2 : Int) (a3 : Int) (K : TV → List Blk → O β) : evFnG lay (E68 N) Tryz.f68 [.v (.one (.ptr 0 0)), .v (.one (.int .i64 a0))] [.pcells 0 80 [.sl 5 (.ints .u8 a1), .int .i64 a2, .int .i64 a3]] K = zj149 N a0 a1 a2 a3 (fun y0 y1 y2 y3 => K (.v (.one (.str y0))) [.pcells 0 80 [.sl 5 (.ints .u8 y1), .int .i64 y2, .int .i64 y3]]) := (ve68_0 N (zj148 N) (zj27 N) (zj26 N) a0 a1 a2 a3 K).trans (zt149 N a0 a1 a2 a3 (fun y0 y1 y2 y3 => K (.v (.one (.str y0))) [.pcells 0 80 [.sl 5 (.ints .u8 y1), .int .i64 y2, .int .i64 y3]])).symm
theorem o68 (N : Nat) : GOK (β := β) inv Tryz.prog 68 (S68 N) := by
  refine g_of lay_ok mixed (E := E68 N) (specs_loops specs_nil) muts_nil (gs_cons (o43 N) (gs_cons (o67 N) gs_nil)) Tryz.func68 (by kernel_rfl) 1 (by kernel_rfl) ⟨trivial, rk68_0 N⟩ fun args bl K r h => ?_
  unfold S68 VS68 at h
  split at h
  · exact (e68_0 N _ _ _ _ _).trans h
  · cases h
def VS44 (N : Nat) (zq150 : (a0 : ByteArray) → (a1 : List Int) → (a2 : Int) → (a3 : Int) → (k0 : ByteArray → List Int → Int → Int → O β) → O β) : GSpec β := fun args bl K => match args, bl with
  | [.v (.one (.ptr 0 0)), .v (.one (.str a0))], [.pcells 0 80 [.sl 5 (.ints .u8 a1), .int .i64 a2, .int .i64 a3]] => zq150 a0 a1 a2 a3 (fun y0 y1 y2 y3 => K (.v (.one (.str y0))) [.pcells 0 80 [.sl 5 (.ints .u8 y1), .int .i64 y2, .int .i64 y3]])
  | _, _ => none
def S44 (N : Nat) : GSpec β := VS44 N (zj150 N)
def VE44 (N : Nat) (zq149 : (a0 : Int) → (a1 : List Int) → (a2 : Int) → (a3 : Int) → (k0 : ByteArray → List Int → Int → Int → O β) → O β) (zq27 : (a0 : Int) → (a1 : List Int) → (a2 : Int) → (a3 : Int) → (k0 : Int → List Int → Int → Int → O β) → O β) (zq26 : (a0 : List Int) → (a1 : Int) → (a2 : Int) → (k0 : Int → List Int → Int → Int → O β) → O β) : Env β := ⟨[], [], [], [(68, VS68 N zq149), (43, VS43 N zq27), (67, VS67 N zq26)], ⟨[], [], [], []⟩⟩
def E44 (N : Nat) : Env β := VE44 N (zj149 N) (zj27 N) (zj26 N)
def zb150 (N : Nat) (zq149 : (a0 : Int) → (a1 : List Int) → (a2 : Int) → (a3 : Int) → (k0 : ByteArray → List Int → Int → Int → O β) → O β) (zq27 : (a0 : Int) → (a1 : List Int) → (a2 : Int) → (a3 : Int) → (k0 : Int → List Int → Int → Int → O β) → O β) (zq26 : (a0 : List Int) → (a1 : Int) → (a2 : Int) → (k0 : Int → List Int → Int → Int → O β) → O β) (a0 : ByteArray) (a1 : List Int) (a2 : Int) (a3 : Int) (k0 : ByteArray → List Int → Int → Int → O β) : O β :=
(cond (((a0.size : Int) == 0))
(zq149 3 a1 a2 a3 (fun r11_0 r11_1 r11_2 r11_3 =>
k0 r11_0 r11_1 r11_2 r11_3))
(zq27 ((a0.size : Int)) a1 a2 a3 (fun r12_0 r12_1 r12_2 r12_3 =>
zq27 4 r12_1 r12_2 r12_3 (fun r13_0 r13_1 r13_2 r13_3 =>
(cond ((r13_0 == 0))
((gd ((decide (0 ≤ r12_0)))
((gd ((decide (r12_0 ≤ (a0.size : Int))))
((gd ((decide (0 ≤ (w64 (r12_0 + 1)))))
((gd ((decide ((w64 (r12_0 + 1)) ≤ (a0.size : Int))))
((gd ((decide (((a0.extract 0 (Int.toNat r12_0))).size + ((a0.extract (Int.toNat (w64 (r12_0 + 1))) a0.size)).size ≤ 9223372036854775807)))
(k0 (((a0.extract 0 (Int.toNat r12_0)) ++ (a0.extract (Int.toNat (w64 (r12_0 + 1))) a0.size))) r13_1 r13_2 r13_3)))))))))))
((cond ((r13_0 == 1))
((gd ((decide (0 ≤ r12_0)))
((gd ((decide (r12_0 ≤ (a0.size : Int))))
((gd ((decide (0 ≤ r12_0)))
((gd ((decide (r12_0 ≤ (a0.size : Int))))
(zq26 r13_1 r13_2 r13_3 (fun r14_0 r14_1 r14_2 r14_3 =>
(gd ((decide (((a0.extract 0 (Int.toNat r12_0))).size + ((strOf ((([] : List Int) ++ [(w8 (r14_0))])))).size ≤ 9223372036854775807)))
((gd ((decide ((((a0.extract 0 (Int.toNat r12_0)) ++ (strOf ((([] : List Int) ++ [(w8 (r14_0))]))))).size + ((a0.extract (Int.toNat r12_0) a0.size)).size ≤ 9223372036854775807)))
(k0 ((((a0.extract 0 (Int.toNat r12_0)) ++ (strOf ((([] : List Int) ++ [(w8 (r14_0))])))) ++ (a0.extract (Int.toNat r12_0) a0.size))) r14_1 r14_2 r14_3))))))))))))))
((cond ((r13_0 == 2))
((gd ((decide (0 ≤ r12_0)))
((gd ((decide (r12_0 ≤ (a0.size : Int))))
(k0 ((a0.extract 0 (Int.toNat r12_0))) r13_1 r13_2 r13_3)))))
((gd ((decide (0 ≤ r12_0)))
((gd ((decide (r12_0 ≤ (a0.size : Int))))
((gd ((decide (0 ≤ r12_0)))
((gd ((decide (r12_0 < (a0.size : Int))))
((gd ((decide (0 ≤ (w64 (r12_0 + 1)))))
((gd ((decide ((w64 (r12_0 + 1)) ≤ (a0.size : Int))))
(zq27 255 r13_1 r13_2 r13_3 (fun r15_0 r15_1 r15_2 r15_3 =>
(gd ((decide (((a0.extract 0 (Int.toNat r12_0))).size + ((strOf ((([] : List Int) ++ [(w8 ((bits .xor .i64 (w64 ((bt a0 r12_0))) (w64 (1 + r15_0)))))])))).size ≤ 9223372036854775807)))
((gd ((decide ((((a0.extract 0 (Int.toNat r12_0)) ++ (strOf ((([] : List Int) ++ [(w8 ((bits .xor .i64 (w64 ((bt a0 r12_0))) (w64 (1 + r15_0)))))]))))).size + ((a0.extract (Int.toNat (w64 (r12_0 + 1))) a0.size)).size ≤ 9223372036854775807)))
(k0 ((((a0.extract 0 (Int.toNat r12_0)) ++ (strOf ((([] : List Int) ++ [(w8 ((bits .xor .i64 (w64 ((bt a0 r12_0))) (w64 (1 + r15_0)))))])))) ++ (a0.extract (Int.toNat (w64 (r12_0 + 1))) a0.size))) r15_1 r15_2 r15_3)))))))))))))))))))))))))))
theorem zt150 (N : Nat) (a0 : ByteArray) (a1 : List Int) (a2 : Int) (a3 : Int) (k0 : ByteArray → List Int → Int → Int → O β) : zj150 N a0 a1 a2 a3 k0 = zb150 N (zj149 N) (zj27 N) (zj26 N) a0 a1 a2 a3 k0 := by
  unfold zj150 zb150
  rfl
theorem ve44_0 (N : Nat) (zq149 : (a0 : Int) → (a1 : List Int) → (a2 : Int) → (a3 : Int) → (k0 : ByteArray → List Int → Int → Int → O β) → O β) (zq27 : (a0 : Int) → (a1 : List Int) → (a2 : Int) → (a3 : Int) → (k0 : Int → List Int → Int → Int → O β) → O β) (zq26 : (a0 : List Int) → (a1 : Int) → (a2 : Int) → (k0 : Int → List Int → Int → Int → O β) → O β) (a0 : ByteArray) (a1 : List Int) (a2 : Int) (a3 : Int) (K : TV → List Blk → O β) : evFnG lay (VE44 N zq149 zq27 zq26) Tryz.f44 [.v (.one (.ptr 0 0)), .v (.one (.str a0))] [.pcells 0 80 [.sl 5 (.ints .u8 a1), .int .i64 a2, .int .i64 a3]] K = zb150 N zq149 zq27 zq26 a0 a1 a2 a3 (fun y0 y1 y2 y3 => K (.v (.one (.str y0))) [.pcells 0 80 [.sl 5 (.ints .u8 y1), .int .i64 y2, .int .i64 y3]]) := by kernel_rfl
theorem e44_0 (N : Nat) (a0 : ByteArray) (a1 : List Int) (a2 : Int) (a3 : Int) (K : TV → List Blk → O β) : evFnG lay (E44 N) Tryz.f44 [.v (.one (.ptr 0 0)), .v (.one (.str a0))] [.pcells 0 80 [.sl 5 (.ints .u8 a1), .int .i64 a2, .int .i64 a3]] K = zj150 N a0 a1 a2 a3 (fun y0 y1 y2 y3 => K (.v (.one (.str y0))) [.pcells 0 80 [.sl 5 (.ints .u8 y1), .int .i64 y2, .int .i64 y3]]) := (ve44_0 N (zj149 N) (zj27 N) (zj26 N) a0 a1 a2 a3 K).trans (zt150 N a0 a1 a2 a3 (fun y0 y1 y2 y3 => K (.v (.one (.str y0))) [.pcells 0 80 [.sl 5 (.ints .u8 y1), .int .i64 y2, .int .i64 y3]])).symm
theorem o44 (N : Nat) : GOK (β := β) inv Tryz.prog 44 (S44 N) := by
  refine g_of lay_ok mixed (E := E44 N) (specs_loops specs_nil) muts_nil (gs_cons (o68 N) (gs_cons (o43 N) (gs_cons (o67 N) gs_nil))) Tryz.func44 (by kernel_rfl) 0 (by kernel_rfl) trivial fun args bl K r h => ?_
  unfold S44 VS44 at h
  split at h
  · exact (e44_0 N _ _ _ _ _).trans h
  · cases h
def VS45 (N : Nat) (zq151 : (a0 : List Int) → (a1 : Int) → (a2 : Int) → (a3 : List ByteArray) → (k0 : ByteArray → List Int → Int → Int → List ByteArray → O β) → O β) : GSpec β := fun args bl K => match args, bl with
  | [.v (.one (.ptr 0 0)), .v (.one (.row 1))], [.pcells 0 80 [.sl 5 (.ints .u8 a0), .int .i64 a1, .int .i64 a2], .prow 1 9 (.strs a3)] => zq151 a0 a1 a2 a3 (fun y0 y1 y2 y3 y4 => K (.v (.one (.str y0))) [.pcells 0 80 [.sl 5 (.ints .u8 y1), .int .i64 y2, .int .i64 y3], .prow 1 9 (.strs y4)])
  | _, _ => none
def S45 (N : Nat) : GSpec β := VS45 N (zj151 N)
def VE45 (N : Nat) (zq27 : (a0 : Int) → (a1 : List Int) → (a2 : Int) → (a3 : Int) → (k0 : Int → List Int → Int → Int → O β) → O β) : Env β := ⟨[], [], [], [(43, VS43 N zq27)], ⟨[], [], [], []⟩⟩
def E45 (N : Nat) : Env β := VE45 N (zj27 N)
def zb151 (N : Nat) (zq27 : (a0 : Int) → (a1 : List Int) → (a2 : Int) → (a3 : Int) → (k0 : Int → List Int → Int → Int → O β) → O β) (a0 : List Int) (a1 : Int) (a2 : Int) (a3 : List ByteArray) (k0 : ByteArray → List Int → Int → Int → List ByteArray → O β) : O β :=
zq27 ((a3.length : Int)) a0 a1 a2 (fun r17_0 r17_1 r17_2 r17_3 =>
(gd ((decide (0 ≤ r17_0)))
((gd ((decide (r17_0 < (a3.length : Int))))
(k0 ((rd ByteArray.empty a3 r17_0)) r17_1 r17_2 r17_3 a3)))))
theorem zt151 (N : Nat) (a0 : List Int) (a1 : Int) (a2 : Int) (a3 : List ByteArray) (k0 : ByteArray → List Int → Int → Int → List ByteArray → O β) : zj151 N a0 a1 a2 a3 k0 = zb151 N (zj27 N) a0 a1 a2 a3 k0 := by
  unfold zj151 zb151
  rfl
theorem ve45_0 (N : Nat) (zq27 : (a0 : Int) → (a1 : List Int) → (a2 : Int) → (a3 : Int) → (k0 : Int → List Int → Int → Int → O β) → O β) (a0 : List Int) (a1 : Int) (a2 : Int) (a3 : List ByteArray) (K : TV → List Blk → O β) : evFnG lay (VE45 N zq27) Tryz.f45 [.v (.one (.ptr 0 0)), .v (.one (.row 1))] [.pcells 0 80 [.sl 5 (.ints .u8 a0), .int .i64 a1, .int .i64 a2], .prow 1 9 (.strs a3)] K = zb151 N zq27 a0 a1 a2 a3 (fun y0 y1 y2 y3 y4 => K (.v (.one (.str y0))) [.pcells 0 80 [.sl 5 (.ints .u8 y1), .int .i64 y2, .int .i64 y3], .prow 1 9 (.strs y4)]) := by kernel_rfl
theorem e45_0 (N : Nat) (a0 : List Int) (a1 : Int) (a2 : Int) (a3 : List ByteArray) (K : TV → List Blk → O β) : evFnG lay (E45 N) Tryz.f45 [.v (.one (.ptr 0 0)), .v (.one (.row 1))] [.pcells 0 80 [.sl 5 (.ints .u8 a0), .int .i64 a1, .int .i64 a2], .prow 1 9 (.strs a3)] K = zj151 N a0 a1 a2 a3 (fun y0 y1 y2 y3 y4 => K (.v (.one (.str y0))) [.pcells 0 80 [.sl 5 (.ints .u8 y1), .int .i64 y2, .int .i64 y3], .prow 1 9 (.strs y4)]) := (ve45_0 N (zj27 N) a0 a1 a2 a3 K).trans (zt151 N a0 a1 a2 a3 (fun y0 y1 y2 y3 y4 => K (.v (.one (.str y0))) [.pcells 0 80 [.sl 5 (.ints .u8 y1), .int .i64 y2, .int .i64 y3], .prow 1 9 (.strs y4)])).symm
theorem o45 (N : Nat) : GOK (β := β) inv Tryz.prog 45 (S45 N) := by
  refine g_of lay_ok mixed (E := E45 N) (specs_loops specs_nil) muts_nil (gs_cons (o43 N) gs_nil) Tryz.func45 (by kernel_rfl) 0 (by kernel_rfl) trivial fun args bl K r h => ?_
  unfold S45 VS45 at h
  split at h
  · exact (e45_0 N _ _ _ _ _).trans h
  · cases h
def VS19 (N : Nat) (zq152 : (a0 : List Int) → (k : Int → ByteArray → O β) → O β) : Rv.Spec β := fun args K => match args with
  | [.v (.one (.sl 5 (.ints .u8 a0)))] => zq152 a0 (fun z1 z2 => K (.tup [.one (.int .i64 z1), .one (.str z2)]))
  | _ => none
def S19 (N : Nat) : Rv.Spec β := VS19 N (zj152 N)
def VE19 (N : Nat) (zq146 : (a0 : Int) → (a1 : List (Int × Int)) → (k : ByteArray → O β) → O β) (zq3 : (a0 : List Int) → (k0 : List Int → Int → Int → O β) → O β) (zq50 : (a0 : List Int) → (a1 : Int) → (a2 : Int) → (k0 : Int → List Int → Int → Int → List (Int × Int) → O β) → O β) (zq27 : (a0 : Int) → (a1 : List Int) → (a2 : Int) → (a3 : Int) → (k0 : Int → List Int → Int → Int → O β) → O β) (zq150 : (a0 : ByteArray) → (a1 : List Int) → (a2 : Int) → (a3 : Int) → (k0 : ByteArray → List Int → Int → Int → O β) → O β) (zq151 : (a0 : List Int) → (a1 : Int) → (a2 : Int) → (a3 : List ByteArray) → (k0 : ByteArray → List Int → Int → Int → List ByteArray → O β) → O β) : Env β := ⟨[(22, VS22 N zq146)], [], [], [(41, VS41 N zq3), (42, VS42 N zq50), (43, VS43 N zq27), (44, VS44 N zq150), (45, VS45 N zq151)], ⟨[], [], [], []⟩⟩
def E19 (N : Nat) : Env β := VE19 N (zj146 N) (zj3 N) (zj50 N) (zj27 N) (zj150 N) (zj151 N)
def zb152 (N : Nat) (zq3 : (a0 : List Int) → (k0 : List Int → Int → Int → O β) → O β) (zq50 : (a0 : List Int) → (a1 : Int) → (a2 : Int) → (k0 : Int → List Int → Int → Int → List (Int × Int) → O β) → O β) (zq146 : (a0 : Int) → (a1 : List (Int × Int)) → (k : ByteArray → O β) → O β) (zq27 : (a0 : Int) → (a1 : List Int) → (a2 : Int) → (a3 : Int) → (k0 : Int → List Int → Int → Int → O β) → O β) (zq150 : (a0 : ByteArray) → (a1 : List Int) → (a2 : Int) → (a3 : Int) → (k0 : ByteArray → List Int → Int → Int → O β) → O β) (zq151 : (a0 : List Int) → (a1 : Int) → (a2 : Int) → (a3 : List ByteArray) → (k0 : ByteArray → List Int → Int → Int → List ByteArray → O β) → O β) (a0 : List Int) (k : Int → ByteArray → O β) : O β :=
zq3 a0 (fun r3_0 r3_1 r3_2 =>
zq50 r3_0 r3_1 r3_2 (fun r4_0 r4_1 r4_2 r4_3 r4_4 =>
zq146 r4_0 r4_4 fun r5 =>
zq27 4 r4_1 r4_2 r4_3 (fun r6_0 r6_1 r6_2 r6_3 =>
(cond ((r6_0 == 0))
(zq150 r5 r6_1 r6_2 r6_3 (fun r7_0 r7_1 r7_2 r7_3 =>
k r4_0 r7_0))
((cond ((r6_0 == 1))
(zq151 r6_1 r6_2 r6_3 ((((((((((([] : List ByteArray) ++ [ByteArray.empty]) ++ [(strOf [48])]) ++ [(strOf [49])]) ++ [(strOf [97, 124])]) ++ [(strOf [124, 97])]) ++ [(strOf [97, 124, 97])]) ++ [(strOf [97, 98, 124, 33, 97])]) ++ [(strOf [97, 124, 124, 98])]) ++ [(strOf [97, 124, 48])])) (fun r8_0 r8_1 r8_2 r8_3 r8_4 =>
k r4_0 r8_0))
(k r4_0 r5)))))))
theorem zt152 (N : Nat) (a0 : List Int) (k : Int → ByteArray → O β) : zj152 N a0 k = zb152 N (zj3 N) (zj50 N) (zj146 N) (zj27 N) (zj150 N) (zj151 N) a0 k := by
  unfold zj152 zb152
  rfl
theorem ve19_0 (N : Nat) (zq146 : (a0 : Int) → (a1 : List (Int × Int)) → (k : ByteArray → O β) → O β) (zq3 : (a0 : List Int) → (k0 : List Int → Int → Int → O β) → O β) (zq50 : (a0 : List Int) → (a1 : Int) → (a2 : Int) → (k0 : Int → List Int → Int → Int → List (Int × Int) → O β) → O β) (zq27 : (a0 : Int) → (a1 : List Int) → (a2 : Int) → (a3 : Int) → (k0 : Int → List Int → Int → Int → O β) → O β) (zq150 : (a0 : ByteArray) → (a1 : List Int) → (a2 : Int) → (a3 : Int) → (k0 : ByteArray → List Int → Int → Int → O β) → O β) (zq151 : (a0 : List Int) → (a1 : Int) → (a2 : Int) → (a3 : List ByteArray) → (k0 : ByteArray → List Int → Int → Int → List ByteArray → O β) → O β)  (a0 : List Int) (K : TV → O β) : evFn lay (VE19 N zq146 zq3 zq50 zq27 zq150 zq151) Tryz.f19 [.v (.one (.sl 5 (.ints .u8 a0)))] K = zb152 N zq3 zq50 zq146 zq27 zq150 zq151 a0 (fun z1 z2 => K (.tup [.one (.int .i64 z1), .one (.str z2)])) := by kernel_rfl
theorem e19_0 (N : Nat)  (a0 : List Int) (K : TV → O β) : evFn lay (E19 N) Tryz.f19 [.v (.one (.sl 5 (.ints .u8 a0)))] K = zj152 N a0 (fun z1 z2 => K (.tup [.one (.int .i64 z1), .one (.str z2)])) := (ve19_0 N (zj146 N) (zj3 N) (zj50 N) (zj27 N) (zj150 N) (zj151 N) a0 K).trans (zt152 N a0 (fun z1 z2 => K (.tup [.one (.int .i64 z1), .one (.str z2)]))).symm
theorem o19 (N : Nat) : SpecOK (β := β) inv Tryz.prog 19 (S19 N) := by
  refine spec_of lay_ok mixed (E := E19 N) (specs_loops (specs_cons (o22 N) specs_nil)) muts_nil (gs_cons (o41 N) (gs_cons (o42 N) (gs_cons (o43 N) (gs_cons (o44 N) (gs_cons (o45 N) gs_nil))))) Tryz.func19 (by kernel_rfl) 0 (by kernel_rfl) trivial fun args K r h => ?_
  unfold S19 VS19 at h
  split at h
  · exact (e19_0 N _ _).trans h
  · cases h
def VS47 (N : Nat) (zq155 : (a0 : Int) → (a1 : ByteArray) → (k : Int → Int → Bool → O β) → O β) : Rv.Spec β := fun args K => match args with
  | [.v (.one (.int .i64 a0)), .v (.one (.str a1))] => zq155 a0 a1 (fun z2 z3 z4 => K (.tup [.agg [.int .i64 z2, .int .i64 z3], .one (.bool z4)]))
  | _ => none
def S47 (N : Nat) : Rv.Spec β := VS47 N (zj155 N)
def h47_0_0  (v0 : Int) (v1 : ByteArray) (v2 : Bool) (v3 : Int) (v4 : Int) (v5 : Int) (v6 : Int) (v7 : Int) : St := ⟨.v (.one (.int .i64 v0)) :: .v (.one (.str v1)) :: tund :: tund :: .v (.one (.ptr 0 0)) :: tund :: .v (.one (.ptr 1 0)) :: .v (.one (.bool v2)) :: .v (.one (.int .i64 v3)) :: tund :: tund :: tund :: tund :: tund :: tund :: tund :: tund :: tund :: tund :: tund :: tund :: tund :: tund :: tund :: tund :: tund :: tund :: tund :: tund :: tund :: tund :: tund :: tund :: tund :: tund :: tund :: tund :: tund :: tund :: tund :: tund :: tund :: tund :: tund :: tund :: tund :: tund :: tund :: tund :: tund :: tund :: tund :: tund :: tund :: tund :: tund :: tund :: tund :: tund :: tund :: tund :: tund :: tund :: tund :: tund :: tund :: [], [.cells 50 [.int .i64 v4, .int .i64 v5], .cells 50 [.int .i64 v6, .int .i64 v7]]⟩
def x47_0_0_k0  (y0 : Bool) (y1 : Int) (y2 : Int) : St := ⟨tund :: tund :: tund :: tund :: .v (.one (.ptr 0 0)) :: .v (.one (.bool y0)) :: tund :: tund :: tund :: tund :: tund :: tund :: tund :: tund :: tund :: tund :: tund :: tund :: tund :: tund :: tund :: tund :: tund :: tund :: tund :: tund :: tund :: tund :: tund :: tund :: tund :: tund :: tund :: tund :: tund :: tund :: tund :: tund :: tund :: tund :: tund :: tund :: tund :: tund :: tund :: tund :: tund :: tund :: tund :: tund :: tund :: tund :: tund :: tund :: tund :: tund :: tund :: tund :: tund :: tund :: tund :: tund :: tund :: tund :: tund :: tund :: [], [.cells 50 [.int .i64 y1, .int .i64 y2]]⟩
def x47_0_0_k1  (y0 : Int) (y1 : ByteArray) (y2 : Int) (y3 : Int) (y4 : Int) (y5 : Int) : St := ⟨.v (.one (.int .i64 y0)) :: .v (.one (.str y1)) :: tund :: tund :: .v (.one (.ptr 0 0)) :: tund :: .v (.one (.ptr 1 0)) :: tund :: tund :: tund :: tund :: tund :: tund :: tund :: tund :: tund :: tund :: tund :: tund :: tund :: tund :: tund :: tund :: tund :: tund :: tund :: tund :: tund :: tund :: tund :: tund :: tund :: tund :: tund :: tund :: tund :: tund :: tund :: tund :: tund :: tund :: tund :: tund :: tund :: tund :: tund :: tund :: tund :: tund :: tund :: tund :: tund :: tund :: tund :: tund :: tund :: tund :: tund :: tund :: tund :: tund :: tund :: tund :: tund :: tund :: tund :: [], [.cells 50 [.int .i64 y2, .int .i64 y3], .cells 50 [.int .i64 y4, .int .i64 y5]]⟩
theorem fl47_0_0 (s : St) : refSt (h47_0_0 0 ByteArray.empty false 0 0 0 0 0) s = h47_0_0 (intS (oneA (vT (nx tund s.tmps 0)))) (strS (oneA (vT (nx tund s.tmps 1)))) (boolS (oneA (vT (nx tund s.tmps 7)))) (intS (oneA (vT (nx tund s.tmps 8)))) (intS (nx .und (cellsB (nx .dead s.blks 0)) 0)) (intS (nx .und (cellsB (nx .dead s.blks 0)) 1)) (intS (nx .und (cellsB (nx .dead s.blks 1)) 0)) (intS (nx .und (cellsB (nx .dead s.blks 1)) 1)) := by kernel_rfl
def VLS47_0 (N : Nat) (zq154 : Nat → Int → ByteArray → Bool → Int → Int → Int → Int → Int → (Bool → Int → Int → O β) → (Int → ByteArray → Int → Int → Int → Int → O β) → O β) : LSpec β := fun s K => cond (shpSt (h47_0_0 0 ByteArray.empty false 0 0 0 0 0) s) ((fun (v0 : Int) (v1 : ByteArray) (v2 : Bool) (v3 : Int) (v4 : Int) (v5 : Int) (v6 : Int) (v7 : Int) => zq154  N v0 v1 v2 v3 v4 v5 v6 v7 (fun y0 y1 y2 => K .ret (x47_0_0_k0  y0 y1 y2)) (fun y0 y1 y2 y3 y4 y5 => K (.exit 0) (x47_0_0_k1  y0 y1 y2 y3 y4 y5))) (intS (oneA (vT (nx tund s.tmps 0)))) (strS (oneA (vT (nx tund s.tmps 1)))) (boolS (oneA (vT (nx tund s.tmps 7)))) (intS (oneA (vT (nx tund s.tmps 8)))) (intS (nx .und (cellsB (nx .dead s.blks 0)) 0)) (intS (nx .und (cellsB (nx .dead s.blks 0)) 1)) (intS (nx .und (cellsB (nx .dead s.blks 1)) 0)) (intS (nx .und (cellsB (nx .dead s.blks 1)) 1))) (none)
def LS47_0 (N : Nat) : LSpec β := VLS47_0 N (zj154 N)
def VE47 (N : Nat) (zq4 : (a0 : Int) → (a1 : Int) → (a2 : Int) → (k : Bool → O β) → O β) (zq143 : (a0 : Int) → (a1 : Int) → (a2 : Int) → (k : ByteArray → O β) → O β) (zq154 : Nat → Int → ByteArray → Bool → Int → Int → Int → Int → Int → (Bool → Int → Int → O β) → (Int → ByteArray → Int → Int → Int → Int → O β) → O β) : Env β := ⟨[(46, VS46 N zq4), (48, VS48 N zq143)], [], [(0, VLS47_0 N zq154)], [], ⟨[], [], [], []⟩⟩
def E47 (N : Nat) : Env β := VE47 N (zj4 N) (zj143 N) (zj154 N)
def zb153 (N : Nat) (zq4 : (a0 : Int) → (a1 : Int) → (a2 : Int) → (k : Bool → O β) → O β)  (v0 : Int) (v1 : ByteArray) (v2 : Bool) (v3 : Int) (v4 : Int) (v5 : Int) (v6 : Int) (v7 : Int) (rec_ : Int → ByteArray → Bool → Int → Int → Int → Int → Int → O β) (k0 : Bool → Int → Int → O β) (k1 : Int → ByteArray → Int → Int → Int → Int → O β) : O β :=
(cond ((decide (v3 < (v1.size : Int))))
((cond ((!(v1.toList == ((strOf [49])).toList)))
((gd ((decide (0 ≤ v3)))
((gd ((decide (v3 < (v1.size : Int))))
((cond (((bt v1 v3) == 33))
(rec_ v0 v1 true ((w64 (v3 + 1))) v4 v5 v6 v7)
((gd ((decide (0 ≤ v3)))
((gd ((decide (v3 < (v1.size : Int))))
(zq4 v0 0 5 fun r5 =>
(cond (!r5)
(k0 false 0 0)
(zq4 ((w64 ((w64 ((bt v1 v3))) - 97))) 0 ((w64 (v0 - 1))) fun r6 =>
(cond (!r6)
(k0 false 0 0)
((gd ((decide (0 ≤ (w64 ((w64 ((bt v1 v3))) - 97)))))
((cond (!v2)
((gd ((decide (0 ≤ (w64 ((w64 ((bt v1 v3))) - 97)))))
(rec_ v0 v1 false ((w64 (v3 + 1))) v4 v5 ((bits .or .i64 v6 (shlI .i64 1 (w64 ((w64 ((bt v1 v3))) - 97))))) ((bits .or .i64 v7 (shlI .i64 1 (w64 ((w64 ((bt v1 v3))) - 97))))))))
(rec_ v0 v1 false ((w64 (v3 + 1))) v4 v5 ((bits .or .i64 v6 (shlI .i64 1 (w64 ((w64 ((bt v1 v3))) - 97))))) v7)))))))))))))))))))
(k1 v0 v1 v4 v5 v6 v7)))
(k1 v0 v1 v4 v5 v6 v7))
theorem zt153 (N : Nat)  (v0 : Int) (v1 : ByteArray) (v2 : Bool) (v3 : Int) (v4 : Int) (v5 : Int) (v6 : Int) (v7 : Int) (rec_ : Int → ByteArray → Bool → Int → Int → Int → Int → Int → O β) (k0 : Bool → Int → Int → O β) (k1 : Int → ByteArray → Int → Int → Int → Int → O β) : zj153 N v0 v1 v2 v3 v4 v5 v6 v7 rec_ k0 k1 = zb153 N (zj4 N) v0 v1 v2 v3 v4 v5 v6 v7 rec_ k0 k1 := by
  unfold zj153 zb153
  rfl
theorem vst47_0_0 (N : Nat) (zq4 : (a0 : Int) → (a1 : Int) → (a2 : Int) → (k : Bool → O β) → O β) (zq143 : (a0 : Int) → (a1 : Int) → (a2 : Int) → (k : ByteArray → O β) → O β) (zq154 : Nat → Int → ByteArray → Bool → Int → Int → Int → Int → Int → (Bool → Int → Int → O β) → (Int → ByteArray → Int → Int → Int → Int → O β) → O β)  (v0 : Int) (v1 : ByteArray) (v2 : Bool) (v3 : Int) (v4 : Int) (v5 : Int) (v6 : Int) (v7 : Int) (rec_ : St → O β) (K : Exit → St → O β) :
    ev lay (VE47 N zq4 zq143 zq154) (retMask Tryz.f47) (lp Tryz.f47 0).body (lp Tryz.f47 0).ex ((lp Tryz.f47 0).lv (retMask Tryz.f47)) (h47_0_0  v0 v1 v2 v3 v4 v5 v6 v7) (nextR (fun s' => rec_ (s'.tidy ((lp Tryz.f47 0).lv (retMask Tryz.f47)))) K) = zb153 N zq4  v0 v1 v2 v3 v4 v5 v6 v7 (fun v0 v1 v2 v3 v4 v5 v6 v7 => rec_ (h47_0_0  v0 v1 v2 v3 v4 v5 v6 v7)) (fun y0 y1 y2 => K .ret (x47_0_0_k0  y0 y1 y2)) (fun y0 y1 y2 y3 y4 y5 => K (.exit 0) (x47_0_0_k1  y0 y1 y2 y3 y4 y5)) := by kernel_rfl
theorem st47_0_0 (N : Nat)  (v0 : Int) (v1 : ByteArray) (v2 : Bool) (v3 : Int) (v4 : Int) (v5 : Int) (v6 : Int) (v7 : Int) (rec_ : St → O β) (K : Exit → St → O β) :
    ev lay (E47 N) (retMask Tryz.f47) (lp Tryz.f47 0).body (lp Tryz.f47 0).ex ((lp Tryz.f47 0).lv (retMask Tryz.f47)) (h47_0_0  v0 v1 v2 v3 v4 v5 v6 v7) (nextR (fun s' => rec_ (s'.tidy ((lp Tryz.f47 0).lv (retMask Tryz.f47)))) K) = zj153 N  v0 v1 v2 v3 v4 v5 v6 v7 (fun v0 v1 v2 v3 v4 v5 v6 v7 => rec_ (h47_0_0  v0 v1 v2 v3 v4 v5 v6 v7)) (fun y0 y1 y2 => K .ret (x47_0_0_k0  y0 y1 y2)) (fun y0 y1 y2 y3 y4 y5 => K (.exit 0) (x47_0_0_k1  y0 y1 y2 y3 y4 y5)) := (vst47_0_0 N (zj4 N) (zj143 N) (zj154 N) v0 v1 v2 v3 v4 v5 v6 v7 rec_ K).trans (zt153 N  v0 v1 v2 v3 v4 v5 v6 v7 (fun v0 v1 v2 v3 v4 v5 v6 v7 => rec_ (h47_0_0  v0 v1 v2 v3 v4 v5 v6 v7)) (fun y0 y1 y2 => K .ret (x47_0_0_k0  y0 y1 y2)) (fun y0 y1 y2 y3 y4 y5 => K (.exit 0) (x47_0_0_k1  y0 y1 y2 y3 y4 y5))).symm
theorem ro47_0_0 (N : Nat)  (K : Exit → St → O β) : ∀ (F : Nat) (v0 : Int) (v1 : ByteArray) (v2 : Bool) (v3 : Int) (v4 : Int) (v5 : Int) (v6 : Int) (v7 : Int), (lp Tryz.f47 0).rounds lay (E47 N) (retMask Tryz.f47) F (h47_0_0  v0 v1 v2 v3 v4 v5 v6 v7) K = zj154 N  F v0 v1 v2 v3 v4 v5 v6 v7 (fun y0 y1 y2 => K .ret (x47_0_0_k0  y0 y1 y2)) (fun y0 y1 y2 y3 y4 y5 => K (.exit 0) (x47_0_0_k1  y0 y1 y2 y3 y4 y5)) := by
  intro F
  induction F with
  | zero => intros; rfl
  | succ F ih =>
    intros
    rw [rounds_next]
    refine (st47_0_0 N  _ _ _ _ _ _ _ _ (fun s => (lp Tryz.f47 0).rounds lay (E47 N) (retMask Tryz.f47) F s K) K).trans ?_
    simp only [ih]
    rfl
theorem lk47_0 (N : Nat) : lookL (E47 (β := β) N).loops (lp Tryz.f47 0).id = LS47_0 N := by kernel_rfl
theorem rk47_0 (N : Nat) : RoundsOK lay (E47 (β := β) N) (retMask Tryz.f47) (lp Tryz.f47 0) := by
  intro s K r h
  rw [lk47_0] at h
  unfold LS47_0 VLS47_0 at h
  cases hb : shpSt (h47_0_0 0 ByteArray.empty false 0 0 0 0 0) s with
  | true =>
    rw [hb, cond_true] at h
    exact ⟨N, by rw [← shpSt_ref hb, fl47_0_0 s]; exact (ro47_0_0 N  K N (intS (oneA (vT (nx tund s.tmps 0)))) (strS (oneA (vT (nx tund s.tmps 1)))) (boolS (oneA (vT (nx tund s.tmps 7)))) (intS (oneA (vT (nx tund s.tmps 8)))) (intS (nx .und (cellsB (nx .dead s.blks 0)) 0)) (intS (nx .und (cellsB (nx .dead s.blks 0)) 1)) (intS (nx .und (cellsB (nx .dead s.blks 1)) 0)) (intS (nx .und (cellsB (nx .dead s.blks 1)) 1))).trans h⟩
  | false =>
  rw [hb, cond_false] at h
  clear hb
  cases h
def zb155 (N : Nat) (zq154 : Nat → Int → ByteArray → Bool → Int → Int → Int → Int → Int → (Bool → Int → Int → O β) → (Int → ByteArray → Int → Int → Int → Int → O β) → O β) (zq143 : (a0 : Int) → (a1 : Int) → (a2 : Int) → (k : ByteArray → O β) → O β) (a0 : Int) (a1 : ByteArray) (k : Int → Int → Bool → O β) : O β :=
zq154  N a0 a1 false 0 0 0 0 0 (fun e7_0 e7_1 e7_2 =>
k e7_1 e7_2 e7_0) (fun e8_0 e8_1 e8_2 e8_3 e8_4 e8_5 =>
(cond ((e8_1.toList == ByteArray.empty.toList))
(k 0 0 false)
(zq143 e8_0 e8_4 e8_5 fun r9 =>
(cond ((!(r9.toList == e8_1.toList)))
(k 0 0 false)
(k e8_4 e8_5 true)))))
theorem zt155 (N : Nat) (a0 : Int) (a1 : ByteArray) (k : Int → Int → Bool → O β) : zj155 N a0 a1 k = zb155 N (zj154 N) (zj143 N) a0 a1 k := by
  unfold zj155 zb155
  rfl
theorem ve47_0 (N : Nat) (zq4 : (a0 : Int) → (a1 : Int) → (a2 : Int) → (k : Bool → O β) → O β) (zq143 : (a0 : Int) → (a1 : Int) → (a2 : Int) → (k : ByteArray → O β) → O β) (zq154 : Nat → Int → ByteArray → Bool → Int → Int → Int → Int → Int → (Bool → Int → Int → O β) → (Int → ByteArray → Int → Int → Int → Int → O β) → O β)  (a0 : Int) (a1 : ByteArray) (K : TV → O β) : evFn lay (VE47 N zq4 zq143 zq154) Tryz.f47 [.v (.one (.int .i64 a0)), .v (.one (.str a1))] K = zb155 N zq154 zq143 a0 a1 (fun z2 z3 z4 => K (.tup [.agg [.int .i64 z2, .int .i64 z3], .one (.bool z4)])) := by kernel_rfl
theorem e47_0 (N : Nat)  (a0 : Int) (a1 : ByteArray) (K : TV → O β) : evFn lay (E47 N) Tryz.f47 [.v (.one (.int .i64 a0)), .v (.one (.str a1))] K = zj155 N a0 a1 (fun z2 z3 z4 => K (.tup [.agg [.int .i64 z2, .int .i64 z3], .one (.bool z4)])) := (ve47_0 N (zj4 N) (zj143 N) (zj154 N) a0 a1 K).trans (zt155 N a0 a1 (fun z2 z3 z4 => K (.tup [.agg [.int .i64 z2, .int .i64 z3], .one (.bool z4)]))).symm
theorem o47 (N : Nat) : SpecOK (β := β) inv Tryz.prog 47 (S47 N) := by
  refine spec_of lay_ok mixed (E := E47 N) (specs_loops (specs_cons (o46 N) (specs_cons (o48 N) specs_nil))) muts_nil gs_nil Tryz.func47 (by kernel_rfl) 1 (by kernel_rfl) ⟨trivial, rk47_0 N⟩ fun args K r h => ?_
  unfold S47 VS47 at h
  split at h
  · exact (e47_0 N _ _ _).trans h
  · cases h
end Go.Proofs.YtddflpokemgnmaaGreatDoor
