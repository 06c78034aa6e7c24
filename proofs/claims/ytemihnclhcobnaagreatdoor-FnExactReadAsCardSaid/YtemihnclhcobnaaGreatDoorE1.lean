/- The functions that the claims reach answer as their texts do. -/
import Derived.Test.YtemihnclhcobnaaGreatDoorE0
namespace Go.Proofs.YtemihnclhcobnaaGreatDoor
open Go.Rv
set_option maxRecDepth 100000
set_option maxHeartbeats 2000000
set_option linter.unusedVariables false
def VS70 {β : Type} (N : Nat) (zq21 : (a0 : Int) → (a1 : Int) → (k : ByteArray → Option β) → Option β) : Rv.Spec β := fun args K => match args with
  | [.v (.agg [.int .i64 a0, .int .i64 a1])] => zq21 a0 a1 (fun z2 => K (.v (.one (.str z2))))
  | _ => none
def S70 {β : Type} (N : Nat) : Rv.Spec β := VS70 N (zj21 N)
def h70_0_0  (v0 : ByteArray) (v1 : Int) (v2 : Int) (v3 : Int) (v4 : Int) : St := ⟨tund :: .v (.one (.ptr 0 0)) :: tund :: .v (.one (.str v0)) :: .v (.one (.int .i64 v1)) :: .v (.one (.int .i64 v2)) :: tund :: tund :: tund :: tund :: tund :: tund :: tund :: tund :: tund :: tund :: tund :: tund :: tund :: tund :: tund :: tund :: tund :: tund :: tund :: tund :: tund :: tund :: tund :: tund :: tund :: tund :: tund :: tund :: tund :: tund :: tund :: tund :: [], [.cells 25 [.int .i64 v3, .int .i64 v4]]⟩
def x70_0_0_k0  (y0 : ByteArray) : St := ⟨tund :: tund :: tund :: .v (.one (.str y0)) :: tund :: tund :: tund :: tund :: tund :: tund :: tund :: tund :: tund :: tund :: tund :: tund :: tund :: tund :: tund :: tund :: tund :: tund :: tund :: tund :: tund :: tund :: tund :: tund :: tund :: tund :: tund :: tund :: tund :: tund :: tund :: tund :: tund :: tund :: [], []⟩
theorem fl70_0_0 (s : St) : refSt (h70_0_0 ByteArray.empty 0 0 0 0) s = h70_0_0 (strS (oneA (vT (nx tund s.tmps 3)))) (intS (oneA (vT (nx tund s.tmps 4)))) (intS (oneA (vT (nx tund s.tmps 5)))) (intS (nx .und (cellsB (nx .dead s.blks 0)) 0)) (intS (nx .und (cellsB (nx .dead s.blks 0)) 1)) := by kernel_rfl
def VLS70_0 {β : Type} (N : Nat) (zq20 : Nat → ByteArray → Int → Int → Int → Int → (ByteArray → Option β) → Option β) : LSpec β := fun s K => cond (shpSt (h70_0_0 ByteArray.empty 0 0 0 0) s) ((fun (v0 : ByteArray) (v1 : Int) (v2 : Int) (v3 : Int) (v4 : Int) => zq20  N v0 v1 v2 v3 v4 (fun y0 => K (.exit 0) (x70_0_0_k0  y0))) (strS (oneA (vT (nx tund s.tmps 3)))) (intS (oneA (vT (nx tund s.tmps 4)))) (intS (oneA (vT (nx tund s.tmps 5)))) (intS (nx .und (cellsB (nx .dead s.blks 0)) 0)) (intS (nx .und (cellsB (nx .dead s.blks 0)) 1))) (none)
def LS70_0 {β : Type} (N : Nat) : LSpec β := VLS70_0 N (zj20 N)
def VE70 {β : Type} (N : Nat) (zq18 : (a0 : Int) → (a1 : Int) → (k : Bool → Option β) → Option β) (zq17 : (a0 : Int) → (a1 : Int) → (k : Int → Option β) → Option β) (zq9 : (a0 : Int) → (a1 : Int) → (a2 : Int) → (k : ByteArray → Option β) → Option β) (zq20 : Nat → ByteArray → Int → Int → Int → Int → (ByteArray → Option β) → Option β) : Env β := ⟨[(20, VS20 N zq18), (121, VS121 N zq17), (140, VS140 N zq9)], [], [(0, VLS70_0 N zq20)], [], ⟨[], [], [], []⟩⟩
def E70 {β : Type} (N : Nat) : Env β := VE70 N (zj18 N) (zj17 N) (zj9 N) (zj20 N)
def zb19 {β : Type} (N : Nat) (zq9 : (a0 : Int) → (a1 : Int) → (a2 : Int) → (k : ByteArray → Option β) → Option β)  (v0 : ByteArray) (v1 : Int) (v2 : Int) (v3 : Int) (v4 : Int) (rec_ : ByteArray → Int → Int → Int → Int → Option β) (k0 : ByteArray → Option β) : Option β :=
(gd ((decide (0 ≤ v3)))
((cond ((decide (v2 < (shlI .i64 1 v3))))
((gd ((decide (0 ≤ v2)))
((cond (((bits .and .i64 (shrI .i64 v1 v2) 1) == 0))
(rec_ v0 v1 ((w64 (v2 + 1))) v3 v4)
((cond ((!(v0.toList == ByteArray.empty.toList)))
((gd ((decide (v0.size + ((strOf [43])).size ≤ 9223372036854775807)))
(zq9 v3 v2 v2 fun r5 =>
(gd ((decide (((v0 ++ (strOf [43]))).size + r5.size ≤ 9223372036854775807)))
(rec_ (((v0 ++ (strOf [43])) ++ r5)) v1 ((w64 (v2 + 1))) v3 v4)))))
(zq9 v3 v2 v2 fun r6 =>
(gd ((decide (v0.size + r6.size ≤ 9223372036854775807)))
(rec_ ((v0 ++ r6)) v1 ((w64 (v2 + 1))) v3 v4)))))))))
(k0 v0))))
theorem zt19 {β : Type} (N : Nat)  (v0 : ByteArray) (v1 : Int) (v2 : Int) (v3 : Int) (v4 : Int) (rec_ : ByteArray → Int → Int → Int → Int → Option β) (k0 : ByteArray → Option β) : zj19 N v0 v1 v2 v3 v4 rec_ k0 = zb19 N (zj9 N) v0 v1 v2 v3 v4 rec_ k0 := by
  unfold zj19 zb19
  rfl
theorem vst70_0_0 {β : Type} (N : Nat) (zq18 : (a0 : Int) → (a1 : Int) → (k : Bool → Option β) → Option β) (zq17 : (a0 : Int) → (a1 : Int) → (k : Int → Option β) → Option β) (zq9 : (a0 : Int) → (a1 : Int) → (a2 : Int) → (k : ByteArray → Option β) → Option β) (zq20 : Nat → ByteArray → Int → Int → Int → Int → (ByteArray → Option β) → Option β)  (v0 : ByteArray) (v1 : Int) (v2 : Int) (v3 : Int) (v4 : Int) (rec_ : St → Option β) (K : Exit → St → Option β) :
    ev lay (VE70 N zq18 zq17 zq9 zq20) (retMask Tryz.f70) (lp Tryz.f70 0).body (lp Tryz.f70 0).ex ((lp Tryz.f70 0).lv (retMask Tryz.f70)) (h70_0_0  v0 v1 v2 v3 v4) (nextR (fun s' => rec_ (s'.tidy ((lp Tryz.f70 0).lv (retMask Tryz.f70)))) K) = zb19 N zq9  v0 v1 v2 v3 v4 (fun v0 v1 v2 v3 v4 => rec_ (h70_0_0  v0 v1 v2 v3 v4)) (fun y0 => K (.exit 0) (x70_0_0_k0  y0)) := by kernel_rfl
theorem st70_0_0 {β : Type} (N : Nat)  (v0 : ByteArray) (v1 : Int) (v2 : Int) (v3 : Int) (v4 : Int) (rec_ : St → Option β) (K : Exit → St → Option β) :
    ev lay (E70 N) (retMask Tryz.f70) (lp Tryz.f70 0).body (lp Tryz.f70 0).ex ((lp Tryz.f70 0).lv (retMask Tryz.f70)) (h70_0_0  v0 v1 v2 v3 v4) (nextR (fun s' => rec_ (s'.tidy ((lp Tryz.f70 0).lv (retMask Tryz.f70)))) K) = zj19 N  v0 v1 v2 v3 v4 (fun v0 v1 v2 v3 v4 => rec_ (h70_0_0  v0 v1 v2 v3 v4)) (fun y0 => K (.exit 0) (x70_0_0_k0  y0)) := (vst70_0_0 N (zj18 N) (zj17 N) (zj9 N) (zj20 N) v0 v1 v2 v3 v4 rec_ K).trans (zt19 N  v0 v1 v2 v3 v4 (fun v0 v1 v2 v3 v4 => rec_ (h70_0_0  v0 v1 v2 v3 v4)) (fun y0 => K (.exit 0) (x70_0_0_k0  y0))).symm
theorem ro70_0_0 {β : Type} (N : Nat)  (K : Exit → St → Option β) : ∀ (F : Nat) (v0 : ByteArray) (v1 : Int) (v2 : Int) (v3 : Int) (v4 : Int), (lp Tryz.f70 0).rounds lay (E70 N) (retMask Tryz.f70) F (h70_0_0  v0 v1 v2 v3 v4) K = zj20 N  F v0 v1 v2 v3 v4 (fun y0 => K (.exit 0) (x70_0_0_k0  y0)) := by
  intro F
  induction F with
  | zero => intros; rfl
  | succ F ih =>
    intros
    rw [rounds_next]
    refine (st70_0_0 N  _ _ _ _ _ (fun s => (lp Tryz.f70 0).rounds lay (E70 N) (retMask Tryz.f70) F s K) K).trans ?_
    simp only [ih]
    rfl
theorem lk70_0 {β : Type} (N : Nat) : lookL (E70 (β := β) N).loops (lp Tryz.f70 0).id = LS70_0 N := by kernel_rfl
theorem rk70_0 {β : Type} (N : Nat) : RoundsOK lay (E70 (β := β) N) (retMask Tryz.f70) (lp Tryz.f70 0) := by
  intro s K r h
  rw [lk70_0] at h
  unfold LS70_0 VLS70_0 at h
  cases hb : shpSt (h70_0_0 ByteArray.empty 0 0 0 0) s with
  | true =>
    rw [hb, cond_true] at h
    exact ⟨N, by rw [← shpSt_ref hb, fl70_0_0 s]; exact (ro70_0_0 N  K N (strS (oneA (vT (nx tund s.tmps 3)))) (intS (oneA (vT (nx tund s.tmps 4)))) (intS (oneA (vT (nx tund s.tmps 5)))) (intS (nx .und (cellsB (nx .dead s.blks 0)) 0)) (intS (nx .und (cellsB (nx .dead s.blks 0)) 1))).trans h⟩
  | false =>
  rw [hb, cond_false] at h
  clear hb
  cases h
def zb21 {β : Type} (N : Nat) (zq18 : (a0 : Int) → (a1 : Int) → (k : Bool → Option β) → Option β) (zq17 : (a0 : Int) → (a1 : Int) → (k : Int → Option β) → Option β) (zq20 : Nat → ByteArray → Int → Int → Int → Int → (ByteArray → Option β) → Option β) (a0 : Int) (a1 : Int) (k : ByteArray → Option β) : Option β :=
zq18 a0 a1 fun r3 =>
(cond (!r3)
(k ByteArray.empty)
(zq17 a0 a1 fun r4 =>
zq20  N ByteArray.empty r4 0 a0 a1 (fun e7_0 =>
(cond ((e7_0.toList == ByteArray.empty.toList))
(k ((strOf [48])))
(k e7_0)))))
theorem zt21 {β : Type} (N : Nat) (a0 : Int) (a1 : Int) (k : ByteArray → Option β) : zj21 N a0 a1 k = zb21 N (zj18 N) (zj17 N) (zj20 N) a0 a1 k := by
  unfold zj21 zb21
  rfl
theorem ve70_0 {β : Type} (N : Nat) (zq18 : (a0 : Int) → (a1 : Int) → (k : Bool → Option β) → Option β) (zq17 : (a0 : Int) → (a1 : Int) → (k : Int → Option β) → Option β) (zq9 : (a0 : Int) → (a1 : Int) → (a2 : Int) → (k : ByteArray → Option β) → Option β) (zq20 : Nat → ByteArray → Int → Int → Int → Int → (ByteArray → Option β) → Option β)  (a0 : Int) (a1 : Int) (K : TV → Option β) : evFn lay (VE70 N zq18 zq17 zq9 zq20) Tryz.f70 [.v (.agg [.int .i64 a0, .int .i64 a1])] K = zb21 N zq18 zq17 zq20 a0 a1 (fun z2 => K (.v (.one (.str z2)))) := by kernel_rfl
theorem e70_0 {β : Type} (N : Nat)  (a0 : Int) (a1 : Int) (K : TV → Option β) : evFn lay (E70 N) Tryz.f70 [.v (.agg [.int .i64 a0, .int .i64 a1])] K = zj21 N a0 a1 (fun z2 => K (.v (.one (.str z2)))) := (ve70_0 N (zj18 N) (zj17 N) (zj9 N) (zj20 N) a0 a1 K).trans (zt21 N a0 a1 (fun z2 => K (.v (.one (.str z2))))).symm
theorem o70 {β : Type} (N : Nat) : SpecOK (β := β) inv Tryz.prog 70 (S70 N) := by
  refine spec_of lay_ok mixed (E := E70 N) (specs_loops (specs_cons (o20 N) (specs_cons (o121 N) (specs_cons (o140 N) specs_nil)))) muts_nil gs_nil Tryz.func70 (by kernel_rfl) 1 (by kernel_rfl) ⟨trivial, rk70_0 N⟩ fun args K r h => ?_
  unfold S70 VS70 at h
  split at h
  · exact (e70_0 N _ _ _).trans h
  · cases h
def VS59 {β : Type} (N : Nat) (zq24 : (a0 : Int) → (a1 : ByteArray) → (k : Int → Int → Bool → Option β) → Option β) : Rv.Spec β := fun args K => match args with
  | [.v (.one (.int .i64 a0)), .v (.one (.str a1))] => zq24 a0 a1 (fun z2 z3 z4 => K (.tup [.agg [.int .i64 z2, .int .i64 z3], .one (.bool z4)]))
  | _ => none
def S59 {β : Type} (N : Nat) : Rv.Spec β := VS59 N (zj24 N)
def h59_0_0  (v0 : Int) (v1 : ByteArray) (v2 : Int) (v3 : ByteArray) (v4 : Int) (v5 : Int) (v6 : Int) : St := ⟨.v (.one (.int .i64 v0)) :: .v (.one (.str v1)) :: tund :: tund :: .v (.one (.ptr 0 0)) :: tund :: .v (.one (.int .i64 v2)) :: .v (.one (.str v3)) :: .v (.one (.int .i64 v4)) :: tund :: tund :: tund :: tund :: tund :: tund :: tund :: tund :: tund :: tund :: tund :: tund :: tund :: tund :: tund :: tund :: tund :: tund :: tund :: tund :: tund :: tund :: tund :: tund :: tund :: tund :: tund :: tund :: tund :: tund :: tund :: tund :: tund :: tund :: tund :: tund :: tund :: tund :: tund :: tund :: tund :: tund :: tund :: tund :: tund :: tund :: tund :: tund :: tund :: tund :: tund :: tund :: tund :: tund :: tund :: tund :: tund :: tund :: tund :: tund :: tund :: tund :: tund :: tund :: tund :: tund :: tund :: tund :: tund :: tund :: tund :: tund :: [], [.cells 25 [.int .i64 v5, .int .i64 v6]]⟩
def x59_0_0_k0  (y0 : Bool) (y1 : Int) (y2 : Int) : St := ⟨tund :: tund :: tund :: tund :: .v (.one (.ptr 0 0)) :: .v (.one (.bool y0)) :: tund :: tund :: tund :: tund :: tund :: tund :: tund :: tund :: tund :: tund :: tund :: tund :: tund :: tund :: tund :: tund :: tund :: tund :: tund :: tund :: tund :: tund :: tund :: tund :: tund :: tund :: tund :: tund :: tund :: tund :: tund :: tund :: tund :: tund :: tund :: tund :: tund :: tund :: tund :: tund :: tund :: tund :: tund :: tund :: tund :: tund :: tund :: tund :: tund :: tund :: tund :: tund :: tund :: tund :: tund :: tund :: tund :: tund :: tund :: tund :: tund :: tund :: tund :: tund :: tund :: tund :: tund :: tund :: tund :: tund :: tund :: tund :: tund :: tund :: tund :: [], [.cells 25 [.int .i64 y1, .int .i64 y2]]⟩
def x59_0_0_k1  (y0 : Int) (y1 : ByteArray) (y2 : Int) (y3 : Int) (y4 : Int) : St := ⟨.v (.one (.int .i64 y0)) :: .v (.one (.str y1)) :: tund :: tund :: .v (.one (.ptr 0 0)) :: tund :: .v (.one (.int .i64 y2)) :: tund :: tund :: tund :: tund :: tund :: tund :: tund :: tund :: tund :: tund :: tund :: tund :: tund :: tund :: tund :: tund :: tund :: tund :: tund :: tund :: tund :: tund :: tund :: tund :: tund :: tund :: tund :: tund :: tund :: tund :: tund :: tund :: tund :: tund :: tund :: tund :: tund :: tund :: tund :: tund :: tund :: tund :: tund :: tund :: tund :: tund :: tund :: tund :: tund :: tund :: tund :: tund :: tund :: tund :: tund :: tund :: tund :: tund :: tund :: tund :: tund :: tund :: tund :: tund :: tund :: tund :: tund :: tund :: tund :: tund :: tund :: tund :: tund :: tund :: [], [.cells 25 [.int .i64 y3, .int .i64 y4]]⟩
theorem fl59_0_0 (s : St) : refSt (h59_0_0 0 ByteArray.empty 0 ByteArray.empty 0 0 0) s = h59_0_0 (intS (oneA (vT (nx tund s.tmps 0)))) (strS (oneA (vT (nx tund s.tmps 1)))) (intS (oneA (vT (nx tund s.tmps 6)))) (strS (oneA (vT (nx tund s.tmps 7)))) (intS (oneA (vT (nx tund s.tmps 8)))) (intS (nx .und (cellsB (nx .dead s.blks 0)) 0)) (intS (nx .und (cellsB (nx .dead s.blks 0)) 1)) := by kernel_rfl
def VLS59_0 {β : Type} (N : Nat) (zq23 : Nat → Int → ByteArray → Int → ByteArray → Int → Int → Int → (Bool → Int → Int → Option β) → (Int → ByteArray → Int → Int → Int → Option β) → Option β) : LSpec β := fun s K => cond (shpSt (h59_0_0 0 ByteArray.empty 0 ByteArray.empty 0 0 0) s) ((fun (v0 : Int) (v1 : ByteArray) (v2 : Int) (v3 : ByteArray) (v4 : Int) (v5 : Int) (v6 : Int) => zq23  N v0 v1 v2 v3 v4 v5 v6 (fun y0 y1 y2 => K .ret (x59_0_0_k0  y0 y1 y2)) (fun y0 y1 y2 y3 y4 => K (.exit 0) (x59_0_0_k1  y0 y1 y2 y3 y4))) (intS (oneA (vT (nx tund s.tmps 0)))) (strS (oneA (vT (nx tund s.tmps 1)))) (intS (oneA (vT (nx tund s.tmps 6)))) (strS (oneA (vT (nx tund s.tmps 7)))) (intS (oneA (vT (nx tund s.tmps 8)))) (intS (nx .und (cellsB (nx .dead s.blks 0)) 0)) (intS (nx .und (cellsB (nx .dead s.blks 0)) 1))) (none)
def LS59_0 {β : Type} (N : Nat) : LSpec β := VLS59_0 N (zj23 N)
def VE59 {β : Type} (N : Nat) (zq0 : (a0 : Int) → (a1 : Int) → (a2 : Int) → (k : Bool → Option β) → Option β) (zq12 : (a0 : Int) → (a1 : ByteArray) → (k : Int → Int → Bool → Option β) → Option β) (zq17 : (a0 : Int) → (a1 : Int) → (k : Int → Option β) → Option β) (zq21 : (a0 : Int) → (a1 : Int) → (k : ByteArray → Option β) → Option β) (zq23 : Nat → Int → ByteArray → Int → ByteArray → Int → Int → Int → (Bool → Int → Int → Option β) → (Int → ByteArray → Int → Int → Int → Option β) → Option β) : Env β := ⟨[(57, VS57 N zq0), (120, VS120 N zq12), (121, VS121 N zq17), (70, VS70 N zq21)], [], [(0, VLS59_0 N zq23)], [], ⟨[], [], [], []⟩⟩
def E59 {β : Type} (N : Nat) : Env β := VE59 N (zj0 N) (zj12 N) (zj17 N) (zj21 N) (zj23 N)
def zb22 {β : Type} (N : Nat) (zq12 : (a0 : Int) → (a1 : ByteArray) → (k : Int → Int → Bool → Option β) → Option β)  (v0 : Int) (v1 : ByteArray) (v2 : Int) (v3 : ByteArray) (v4 : Int) (v5 : Int) (v6 : Int) (rec_ : Int → ByteArray → Int → ByteArray → Int → Int → Int → Option β) (k0 : Bool → Int → Int → Option β) (k1 : Int → ByteArray → Int → Int → Int → Option β) : Option β :=
(cond ((decide (v4 ≤ (v1.size : Int))))
((cond ((!(v1.toList == ((strOf [48])).toList)))
((cond ((decide (v4 < (v1.size : Int))))
((gd ((decide (0 ≤ v4)))
((gd ((decide (v4 < (v1.size : Int))))
((cond (((bt v1 v4) != 43))
((gd ((decide (0 ≤ (w64 (v4 + 1)))))
((gd ((decide ((w64 (v4 + 1)) ≤ (v1.size : Int))))
((gd ((decide (0 ≤ v4)))
((gd ((decide (v4 ≤ (w64 (v4 + 1)))))
((gd ((decide (v3.size + ((v1.extract (Int.toNat v4) (Int.toNat (w64 (v4 + 1))))).size ≤ 9223372036854775807)))
(rec_ v0 v1 v2 ((v3 ++ (v1.extract (Int.toNat v4) (Int.toNat (w64 (v4 + 1)))))) ((w64 (v4 + 1))) v5 v6)))))))))))
(zq12 v0 v3 fun r6 r7 r8 =>
(cond (!r8)
(k0 false 0 0)
((cond ((r6 != r7))
(k0 false 0 0)
((gd ((decide (0 ≤ r6)))
(rec_ v0 v1 ((bits .or .i64 v2 (shlI .i64 1 r6))) ByteArray.empty ((w64 (v4 + 1))) v5 v6)))))))))))))
(zq12 v0 v3 fun r9 r10 r11 =>
(cond (!r11)
(k0 false 0 0)
((cond ((r9 != r10))
(k0 false 0 0)
((gd ((decide (0 ≤ r9)))
(rec_ v0 v1 ((bits .or .i64 v2 (shlI .i64 1 r9))) ByteArray.empty ((w64 (v4 + 1))) v5 v6)))))))))
(k1 v0 v1 v2 v5 v6)))
(k1 v0 v1 v2 v5 v6))
theorem zt22 {β : Type} (N : Nat)  (v0 : Int) (v1 : ByteArray) (v2 : Int) (v3 : ByteArray) (v4 : Int) (v5 : Int) (v6 : Int) (rec_ : Int → ByteArray → Int → ByteArray → Int → Int → Int → Option β) (k0 : Bool → Int → Int → Option β) (k1 : Int → ByteArray → Int → Int → Int → Option β) : zj22 N v0 v1 v2 v3 v4 v5 v6 rec_ k0 k1 = zb22 N (zj12 N) v0 v1 v2 v3 v4 v5 v6 rec_ k0 k1 := by
  unfold zj22 zb22
  rfl
theorem vst59_0_0 {β : Type} (N : Nat) (zq0 : (a0 : Int) → (a1 : Int) → (a2 : Int) → (k : Bool → Option β) → Option β) (zq12 : (a0 : Int) → (a1 : ByteArray) → (k : Int → Int → Bool → Option β) → Option β) (zq17 : (a0 : Int) → (a1 : Int) → (k : Int → Option β) → Option β) (zq21 : (a0 : Int) → (a1 : Int) → (k : ByteArray → Option β) → Option β) (zq23 : Nat → Int → ByteArray → Int → ByteArray → Int → Int → Int → (Bool → Int → Int → Option β) → (Int → ByteArray → Int → Int → Int → Option β) → Option β)  (v0 : Int) (v1 : ByteArray) (v2 : Int) (v3 : ByteArray) (v4 : Int) (v5 : Int) (v6 : Int) (rec_ : St → Option β) (K : Exit → St → Option β) :
    ev lay (VE59 N zq0 zq12 zq17 zq21 zq23) (retMask Tryz.f59) (lp Tryz.f59 0).body (lp Tryz.f59 0).ex ((lp Tryz.f59 0).lv (retMask Tryz.f59)) (h59_0_0  v0 v1 v2 v3 v4 v5 v6) (nextR (fun s' => rec_ (s'.tidy ((lp Tryz.f59 0).lv (retMask Tryz.f59)))) K) = zb22 N zq12  v0 v1 v2 v3 v4 v5 v6 (fun v0 v1 v2 v3 v4 v5 v6 => rec_ (h59_0_0  v0 v1 v2 v3 v4 v5 v6)) (fun y0 y1 y2 => K .ret (x59_0_0_k0  y0 y1 y2)) (fun y0 y1 y2 y3 y4 => K (.exit 0) (x59_0_0_k1  y0 y1 y2 y3 y4)) := by kernel_rfl
theorem st59_0_0 {β : Type} (N : Nat)  (v0 : Int) (v1 : ByteArray) (v2 : Int) (v3 : ByteArray) (v4 : Int) (v5 : Int) (v6 : Int) (rec_ : St → Option β) (K : Exit → St → Option β) :
    ev lay (E59 N) (retMask Tryz.f59) (lp Tryz.f59 0).body (lp Tryz.f59 0).ex ((lp Tryz.f59 0).lv (retMask Tryz.f59)) (h59_0_0  v0 v1 v2 v3 v4 v5 v6) (nextR (fun s' => rec_ (s'.tidy ((lp Tryz.f59 0).lv (retMask Tryz.f59)))) K) = zj22 N  v0 v1 v2 v3 v4 v5 v6 (fun v0 v1 v2 v3 v4 v5 v6 => rec_ (h59_0_0  v0 v1 v2 v3 v4 v5 v6)) (fun y0 y1 y2 => K .ret (x59_0_0_k0  y0 y1 y2)) (fun y0 y1 y2 y3 y4 => K (.exit 0) (x59_0_0_k1  y0 y1 y2 y3 y4)) := (vst59_0_0 N (zj0 N) (zj12 N) (zj17 N) (zj21 N) (zj23 N) v0 v1 v2 v3 v4 v5 v6 rec_ K).trans (zt22 N  v0 v1 v2 v3 v4 v5 v6 (fun v0 v1 v2 v3 v4 v5 v6 => rec_ (h59_0_0  v0 v1 v2 v3 v4 v5 v6)) (fun y0 y1 y2 => K .ret (x59_0_0_k0  y0 y1 y2)) (fun y0 y1 y2 y3 y4 => K (.exit 0) (x59_0_0_k1  y0 y1 y2 y3 y4))).symm
theorem ro59_0_0 {β : Type} (N : Nat)  (K : Exit → St → Option β) : ∀ (F : Nat) (v0 : Int) (v1 : ByteArray) (v2 : Int) (v3 : ByteArray) (v4 : Int) (v5 : Int) (v6 : Int), (lp Tryz.f59 0).rounds lay (E59 N) (retMask Tryz.f59) F (h59_0_0  v0 v1 v2 v3 v4 v5 v6) K = zj23 N  F v0 v1 v2 v3 v4 v5 v6 (fun y0 y1 y2 => K .ret (x59_0_0_k0  y0 y1 y2)) (fun y0 y1 y2 y3 y4 => K (.exit 0) (x59_0_0_k1  y0 y1 y2 y3 y4)) := by
  intro F
  induction F with
  | zero => intros; rfl
  | succ F ih =>
    intros
    rw [rounds_next]
    refine (st59_0_0 N  _ _ _ _ _ _ _ (fun s => (lp Tryz.f59 0).rounds lay (E59 N) (retMask Tryz.f59) F s K) K).trans ?_
    simp only [ih]
    rfl
theorem lk59_0 {β : Type} (N : Nat) : lookL (E59 (β := β) N).loops (lp Tryz.f59 0).id = LS59_0 N := by kernel_rfl
theorem rk59_0 {β : Type} (N : Nat) : RoundsOK lay (E59 (β := β) N) (retMask Tryz.f59) (lp Tryz.f59 0) := by
  intro s K r h
  rw [lk59_0] at h
  unfold LS59_0 VLS59_0 at h
  cases hb : shpSt (h59_0_0 0 ByteArray.empty 0 ByteArray.empty 0 0 0) s with
  | true =>
    rw [hb, cond_true] at h
    exact ⟨N, by rw [← shpSt_ref hb, fl59_0_0 s]; exact (ro59_0_0 N  K N (intS (oneA (vT (nx tund s.tmps 0)))) (strS (oneA (vT (nx tund s.tmps 1)))) (intS (oneA (vT (nx tund s.tmps 6)))) (strS (oneA (vT (nx tund s.tmps 7)))) (intS (oneA (vT (nx tund s.tmps 8)))) (intS (nx .und (cellsB (nx .dead s.blks 0)) 0)) (intS (nx .und (cellsB (nx .dead s.blks 0)) 1))).trans h⟩
  | false =>
  rw [hb, cond_false] at h
  clear hb
  cases h
def zb24 {β : Type} (N : Nat) (zq0 : (a0 : Int) → (a1 : Int) → (a2 : Int) → (k : Bool → Option β) → Option β) (zq23 : Nat → Int → ByteArray → Int → ByteArray → Int → Int → Int → (Bool → Int → Int → Option β) → (Int → ByteArray → Int → Int → Int → Option β) → Option β) (zq17 : (a0 : Int) → (a1 : Int) → (k : Int → Option β) → Option β) (zq21 : (a0 : Int) → (a1 : Int) → (k : ByteArray → Option β) → Option β) (a0 : Int) (a1 : ByteArray) (k : Int → Int → Bool → Option β) : Option β :=
zq0 a0 0 5 fun r5 =>
(cond (!r5)
(k 0 0 false)
((cond ((decide ((a1.size : Int) > 200)))
(k 0 0 false)
(zq23  N a0 a1 0 ByteArray.empty 0 0 0 (fun e12_0 e12_1 e12_2 =>
k e12_1 e12_2 e12_0) (fun e13_0 e13_1 e13_2 e13_3 e13_4 =>
zq17 e13_0 e13_2 fun r14 =>
zq21 e13_0 r14 fun r15 =>
(cond ((!(r15.toList == e13_1.toList)))
(k 0 0 false)
(k e13_0 r14 true)))))))
theorem zt24 {β : Type} (N : Nat) (a0 : Int) (a1 : ByteArray) (k : Int → Int → Bool → Option β) : zj24 N a0 a1 k = zb24 N (zj0 N) (zj23 N) (zj17 N) (zj21 N) a0 a1 k := by
  unfold zj24 zb24
  rfl
theorem ve59_0 {β : Type} (N : Nat) (zq0 : (a0 : Int) → (a1 : Int) → (a2 : Int) → (k : Bool → Option β) → Option β) (zq12 : (a0 : Int) → (a1 : ByteArray) → (k : Int → Int → Bool → Option β) → Option β) (zq17 : (a0 : Int) → (a1 : Int) → (k : Int → Option β) → Option β) (zq21 : (a0 : Int) → (a1 : Int) → (k : ByteArray → Option β) → Option β) (zq23 : Nat → Int → ByteArray → Int → ByteArray → Int → Int → Int → (Bool → Int → Int → Option β) → (Int → ByteArray → Int → Int → Int → Option β) → Option β)  (a0 : Int) (a1 : ByteArray) (K : TV → Option β) : evFn lay (VE59 N zq0 zq12 zq17 zq21 zq23) Tryz.f59 [.v (.one (.int .i64 a0)), .v (.one (.str a1))] K = zb24 N zq0 zq23 zq17 zq21 a0 a1 (fun z2 z3 z4 => K (.tup [.agg [.int .i64 z2, .int .i64 z3], .one (.bool z4)])) := by kernel_rfl
theorem e59_0 {β : Type} (N : Nat)  (a0 : Int) (a1 : ByteArray) (K : TV → Option β) : evFn lay (E59 N) Tryz.f59 [.v (.one (.int .i64 a0)), .v (.one (.str a1))] K = zj24 N a0 a1 (fun z2 z3 z4 => K (.tup [.agg [.int .i64 z2, .int .i64 z3], .one (.bool z4)])) := (ve59_0 N (zj0 N) (zj12 N) (zj17 N) (zj21 N) (zj23 N) a0 a1 K).trans (zt24 N a0 a1 (fun z2 z3 z4 => K (.tup [.agg [.int .i64 z2, .int .i64 z3], .one (.bool z4)]))).symm
theorem o59 {β : Type} (N : Nat) : SpecOK (β := β) inv Tryz.prog 59 (S59 N) := by
  refine spec_of lay_ok mixed (E := E59 N) (specs_loops (specs_cons (o57 N) (specs_cons (o120 N) (specs_cons (o121 N) (specs_cons (o70 N) specs_nil))))) muts_nil gs_nil Tryz.func59 (by kernel_rfl) 1 (by kernel_rfl) ⟨trivial, rk59_0 N⟩ fun args K r h => ?_
  unfold S59 VS59 at h
  split at h
  · exact (e59_0 N _ _ _).trans h
  · cases h
def VS122 {β : Type} (N : Nat) (zq27 : (a0 : Int) → (a1 : List (Int × Int)) → (k : Bool → Option β) → Option β) : Rv.Spec β := fun args K => match args with
  | [.v (.one (.int .i64 a0)), .v (.one (.sl 93 (.pairs a1)))] => zq27 a0 a1 (fun z2 => K (.v (.one (.bool z2))))
  | _ => none
def S122 {β : Type} (N : Nat) : Rv.Spec β := VS122 N (zj27 N)
def h122_0_0  (v0 : Int) (v1 : List (Int × Int)) (v2 : Int) : St := ⟨.v (.one (.int .i64 v0)) :: .v (.one (.sl 93 (.pairs v1))) :: tund :: tund :: tund :: .v (.one (.int .i64 v2)) :: tund :: tund :: tund :: tund :: tund :: tund :: tund :: tund :: tund :: tund :: tund :: tund :: tund :: tund :: tund :: tund :: tund :: tund :: tund :: tund :: [], []⟩
def x122_0_0_k0  (y0 : Bool) : St := ⟨tund :: tund :: tund :: tund :: .v (.one (.bool y0)) :: tund :: tund :: tund :: tund :: tund :: tund :: tund :: tund :: tund :: tund :: tund :: tund :: tund :: tund :: tund :: tund :: tund :: tund :: tund :: tund :: tund :: [], []⟩
def x122_0_0_k1  (y0 : Int) (y1 : List (Int × Int)) : St := ⟨.v (.one (.int .i64 y0)) :: .v (.one (.sl 93 (.pairs y1))) :: tund :: tund :: tund :: tund :: tund :: tund :: tund :: tund :: tund :: tund :: tund :: tund :: tund :: tund :: tund :: tund :: tund :: tund :: tund :: tund :: tund :: tund :: tund :: tund :: [], []⟩
theorem fl122_0_0 (s : St) : refSt (h122_0_0 0 [] 0) s = h122_0_0 (intS (oneA (vT (nx tund s.tmps 0)))) (rPairs (rowV (oneA (vT (nx tund s.tmps 1))))) (intS (oneA (vT (nx tund s.tmps 5)))) := by kernel_rfl
def VLS122_0 {β : Type} (N : Nat) (zq26 : Nat → Int → List (Int × Int) → Int → (Bool → Option β) → (Int → List (Int × Int) → Option β) → Option β) : LSpec β := fun s K => cond (shpSt (h122_0_0 0 [] 0) s) ((fun (v0 : Int) (v1 : List (Int × Int)) (v2 : Int) => zq26  N v0 v1 v2 (fun y0 => K .ret (x122_0_0_k0  y0)) (fun y0 y1 => K (.exit 0) (x122_0_0_k1  y0 y1))) (intS (oneA (vT (nx tund s.tmps 0)))) (rPairs (rowV (oneA (vT (nx tund s.tmps 1))))) (intS (oneA (vT (nx tund s.tmps 5))))) (none)
def LS122_0 {β : Type} (N : Nat) : LSpec β := VLS122_0 N (zj26 N)
def VE122 {β : Type} (N : Nat) (zq6 : (a0 : Int) → (a1 : Int) → (a2 : Int) → (k : Bool → Option β) → Option β) (zq0 : (a0 : Int) → (a1 : Int) → (a2 : Int) → (k : Bool → Option β) → Option β) (zq26 : Nat → Int → List (Int × Int) → Int → (Bool → Option β) → (Int → List (Int × Int) → Option β) → Option β) : Env β := ⟨[(123, VS123 N zq6), (57, VS57 N zq0)], [], [(0, VLS122_0 N zq26)], [], ⟨[], [], [], []⟩⟩
def E122 {β : Type} (N : Nat) : Env β := VE122 N (zj6 N) (zj0 N) (zj26 N)
def zb25 {β : Type} (N : Nat) (zq6 : (a0 : Int) → (a1 : Int) → (a2 : Int) → (k : Bool → Option β) → Option β)  (v0 : Int) (v1 : List (Int × Int)) (v2 : Int) (rec_ : Int → List (Int × Int) → Int → Option β) (k0 : Bool → Option β) (k1 : Int → List (Int × Int) → Option β) : Option β :=
(cond ((decide (v2 < (v1.length : Int))))
((gd ((decide (0 ≤ v2)))
((gd ((decide (v2 < (v1.length : Int))))
(zq6 v0 ((rd (0, 0) v1 v2).1) ((rd (0, 0) v1 v2).2) fun r3 =>
(cond (!r3)
(k0 false)
(rec_ v0 v1 ((w64 (v2 + 1))))))))))
(k1 v0 v1))
theorem zt25 {β : Type} (N : Nat)  (v0 : Int) (v1 : List (Int × Int)) (v2 : Int) (rec_ : Int → List (Int × Int) → Int → Option β) (k0 : Bool → Option β) (k1 : Int → List (Int × Int) → Option β) : zj25 N v0 v1 v2 rec_ k0 k1 = zb25 N (zj6 N) v0 v1 v2 rec_ k0 k1 := by
  unfold zj25 zb25
  rfl
theorem vst122_0_0 {β : Type} (N : Nat) (zq6 : (a0 : Int) → (a1 : Int) → (a2 : Int) → (k : Bool → Option β) → Option β) (zq0 : (a0 : Int) → (a1 : Int) → (a2 : Int) → (k : Bool → Option β) → Option β) (zq26 : Nat → Int → List (Int × Int) → Int → (Bool → Option β) → (Int → List (Int × Int) → Option β) → Option β)  (v0 : Int) (v1 : List (Int × Int)) (v2 : Int) (rec_ : St → Option β) (K : Exit → St → Option β) :
    ev lay (VE122 N zq6 zq0 zq26) (retMask Tryz.f122) (lp Tryz.f122 0).body (lp Tryz.f122 0).ex ((lp Tryz.f122 0).lv (retMask Tryz.f122)) (h122_0_0  v0 v1 v2) (nextR (fun s' => rec_ (s'.tidy ((lp Tryz.f122 0).lv (retMask Tryz.f122)))) K) = zb25 N zq6  v0 v1 v2 (fun v0 v1 v2 => rec_ (h122_0_0  v0 v1 v2)) (fun y0 => K .ret (x122_0_0_k0  y0)) (fun y0 y1 => K (.exit 0) (x122_0_0_k1  y0 y1)) := by kernel_rfl
theorem st122_0_0 {β : Type} (N : Nat)  (v0 : Int) (v1 : List (Int × Int)) (v2 : Int) (rec_ : St → Option β) (K : Exit → St → Option β) :
    ev lay (E122 N) (retMask Tryz.f122) (lp Tryz.f122 0).body (lp Tryz.f122 0).ex ((lp Tryz.f122 0).lv (retMask Tryz.f122)) (h122_0_0  v0 v1 v2) (nextR (fun s' => rec_ (s'.tidy ((lp Tryz.f122 0).lv (retMask Tryz.f122)))) K) = zj25 N  v0 v1 v2 (fun v0 v1 v2 => rec_ (h122_0_0  v0 v1 v2)) (fun y0 => K .ret (x122_0_0_k0  y0)) (fun y0 y1 => K (.exit 0) (x122_0_0_k1  y0 y1)) := (vst122_0_0 N (zj6 N) (zj0 N) (zj26 N) v0 v1 v2 rec_ K).trans (zt25 N  v0 v1 v2 (fun v0 v1 v2 => rec_ (h122_0_0  v0 v1 v2)) (fun y0 => K .ret (x122_0_0_k0  y0)) (fun y0 y1 => K (.exit 0) (x122_0_0_k1  y0 y1))).symm
theorem ro122_0_0 {β : Type} (N : Nat)  (K : Exit → St → Option β) : ∀ (F : Nat) (v0 : Int) (v1 : List (Int × Int)) (v2 : Int), (lp Tryz.f122 0).rounds lay (E122 N) (retMask Tryz.f122) F (h122_0_0  v0 v1 v2) K = zj26 N  F v0 v1 v2 (fun y0 => K .ret (x122_0_0_k0  y0)) (fun y0 y1 => K (.exit 0) (x122_0_0_k1  y0 y1)) := by
  intro F
  induction F with
  | zero => intros; rfl
  | succ F ih =>
    intros
    rw [rounds_next]
    refine (st122_0_0 N  _ _ _ (fun s => (lp Tryz.f122 0).rounds lay (E122 N) (retMask Tryz.f122) F s K) K).trans ?_
    simp only [ih]
    rfl
theorem lk122_0 {β : Type} (N : Nat) : lookL (E122 (β := β) N).loops (lp Tryz.f122 0).id = LS122_0 N := by kernel_rfl
theorem rk122_0 {β : Type} (N : Nat) : RoundsOK lay (E122 (β := β) N) (retMask Tryz.f122) (lp Tryz.f122 0) := by
  intro s K r h
  rw [lk122_0] at h
  unfold LS122_0 VLS122_0 at h
  cases hb : shpSt (h122_0_0 0 [] 0) s with
  | true =>
    rw [hb, cond_true] at h
    exact ⟨N, by rw [← shpSt_ref hb, fl122_0_0 s]; exact (ro122_0_0 N  K N (intS (oneA (vT (nx tund s.tmps 0)))) (rPairs (rowV (oneA (vT (nx tund s.tmps 1))))) (intS (oneA (vT (nx tund s.tmps 5))))).trans h⟩
  | false =>
  rw [hb, cond_false] at h
  clear hb
  cases h
def zb27 {β : Type} (N : Nat) (zq26 : Nat → Int → List (Int × Int) → Int → (Bool → Option β) → (Int → List (Int × Int) → Option β) → Option β) (zq0 : (a0 : Int) → (a1 : Int) → (a2 : Int) → (k : Bool → Option β) → Option β) (a0 : Int) (a1 : List (Int × Int)) (k : Bool → Option β) : Option β :=
zq26  N a0 a1 0 (fun e4_0 =>
k e4_0) (fun e5_0 e5_1 =>
zq0 e5_0 0 5 fun r6 =>
(cond r6
(k ((decide ((e5_1.length : Int) ≤ 40))))
(k false)))
theorem zt27 {β : Type} (N : Nat) (a0 : Int) (a1 : List (Int × Int)) (k : Bool → Option β) : zj27 N a0 a1 k = zb27 N (zj26 N) (zj0 N) a0 a1 k := by
  unfold zj27 zb27
  rfl
theorem ve122_0 {β : Type} (N : Nat) (zq6 : (a0 : Int) → (a1 : Int) → (a2 : Int) → (k : Bool → Option β) → Option β) (zq0 : (a0 : Int) → (a1 : Int) → (a2 : Int) → (k : Bool → Option β) → Option β) (zq26 : Nat → Int → List (Int × Int) → Int → (Bool → Option β) → (Int → List (Int × Int) → Option β) → Option β)  (a0 : Int) (a1 : List (Int × Int)) (K : TV → Option β) : evFn lay (VE122 N zq6 zq0 zq26) Tryz.f122 [.v (.one (.int .i64 a0)), .v (.one (.sl 93 (.pairs a1)))] K = zb27 N zq26 zq0 a0 a1 (fun z2 => K (.v (.one (.bool z2)))) := by kernel_rfl
theorem e122_0 {β : Type} (N : Nat)  (a0 : Int) (a1 : List (Int × Int)) (K : TV → Option β) : evFn lay (E122 N) Tryz.f122 [.v (.one (.int .i64 a0)), .v (.one (.sl 93 (.pairs a1)))] K = zj27 N a0 a1 (fun z2 => K (.v (.one (.bool z2)))) := (ve122_0 N (zj6 N) (zj0 N) (zj26 N) a0 a1 K).trans (zt27 N a0 a1 (fun z2 => K (.v (.one (.bool z2))))).symm
theorem o122 {β : Type} (N : Nat) : SpecOK (β := β) inv Tryz.prog 122 (S122 N) := by
  refine spec_of lay_ok mixed (E := E122 N) (specs_loops (specs_cons (o123 N) (specs_cons (o57 N) specs_nil))) muts_nil gs_nil Tryz.func122 (by kernel_rfl) 1 (by kernel_rfl) ⟨trivial, rk122_0 N⟩ fun args K r h => ?_
  unfold S122 VS122 at h
  split at h
  · exact (e122_0 N _ _ _).trans h
  · cases h
def VS60 {β : Type} (N : Nat) (zq30 : (a0 : Int) → (a1 : ByteArray) → (k : List (Int × Int) → Bool → Option β) → Option β) : Rv.Spec β := fun args K => match args with
  | [.v (.one (.int .i64 a0)), .v (.one (.str a1))] => zq30 a0 a1 (fun z2 z3 => K (.tup [.one (.sl 93 (.pairs z2)), .one (.bool z3)]))
  | _ => none
def S60 {β : Type} (N : Nat) : Rv.Spec β := VS60 N (zj30 N)
def h60_0_0  (v0 : Int) (v1 : ByteArray) (v2 : ByteArray) (v3 : Int) (v4 : List (Int × Int)) : St := ⟨.v (.one (.int .i64 v0)) :: .v (.one (.str v1)) :: tund :: tund :: tund :: tund :: .v (.one (.row 0)) :: .v (.one (.str v2)) :: .v (.one (.int .i64 v3)) :: tund :: tund :: tund :: tund :: tund :: tund :: tund :: tund :: tund :: tund :: tund :: tund :: tund :: tund :: tund :: tund :: tund :: tund :: tund :: tund :: tund :: tund :: tund :: tund :: tund :: tund :: tund :: tund :: tund :: tund :: tund :: tund :: tund :: tund :: tund :: tund :: tund :: tund :: tund :: tund :: tund :: tund :: tund :: tund :: tund :: tund :: tund :: tund :: tund :: tund :: tund :: tund :: tund :: tund :: tund :: tund :: tund :: tund :: tund :: tund :: [], [.row 93 (.pairs v4)]⟩
def x60_0_0_k0  (y0 : Bool) (y1 : List (Int × Int)) : St := ⟨tund :: tund :: tund :: tund :: .v (.one (.row 0)) :: .v (.one (.bool y0)) :: tund :: tund :: tund :: tund :: tund :: tund :: tund :: tund :: tund :: tund :: tund :: tund :: tund :: tund :: tund :: tund :: tund :: tund :: tund :: tund :: tund :: tund :: tund :: tund :: tund :: tund :: tund :: tund :: tund :: tund :: tund :: tund :: tund :: tund :: tund :: tund :: tund :: tund :: tund :: tund :: tund :: tund :: tund :: tund :: tund :: tund :: tund :: tund :: tund :: tund :: tund :: tund :: tund :: tund :: tund :: tund :: tund :: tund :: tund :: tund :: tund :: tund :: tund :: [], [.row 93 (.pairs y1)]⟩
def x60_0_0_k1  (y0 : Int) (y1 : ByteArray) (y2 : List (Int × Int)) : St := ⟨.v (.one (.int .i64 y0)) :: .v (.one (.str y1)) :: tund :: tund :: tund :: tund :: .v (.one (.row 0)) :: tund :: tund :: tund :: tund :: tund :: tund :: tund :: tund :: tund :: tund :: tund :: tund :: tund :: tund :: tund :: tund :: tund :: tund :: tund :: tund :: tund :: tund :: tund :: tund :: tund :: tund :: tund :: tund :: tund :: tund :: tund :: tund :: tund :: tund :: tund :: tund :: tund :: tund :: tund :: tund :: tund :: tund :: tund :: tund :: tund :: tund :: tund :: tund :: tund :: tund :: tund :: tund :: tund :: tund :: tund :: tund :: tund :: tund :: tund :: tund :: tund :: tund :: [], [.row 93 (.pairs y2)]⟩
theorem fl60_0_0 (s : St) : refSt (h60_0_0 0 ByteArray.empty ByteArray.empty 0 []) s = h60_0_0 (intS (oneA (vT (nx tund s.tmps 0)))) (strS (oneA (vT (nx tund s.tmps 1)))) (strS (oneA (vT (nx tund s.tmps 7)))) (intS (oneA (vT (nx tund s.tmps 8)))) (rPairs (rowB_ (nx .dead s.blks 0))) := by kernel_rfl
def VLS60_0 {β : Type} (N : Nat) (zq29 : Nat → Int → ByteArray → ByteArray → Int → List (Int × Int) → (Bool → List (Int × Int) → Option β) → (Int → ByteArray → List (Int × Int) → Option β) → Option β) : LSpec β := fun s K => cond (shpSt (h60_0_0 0 ByteArray.empty ByteArray.empty 0 []) s) ((fun (v0 : Int) (v1 : ByteArray) (v2 : ByteArray) (v3 : Int) (v4 : List (Int × Int)) => zq29  N v0 v1 v2 v3 v4 (fun y0 y1 => K .ret (x60_0_0_k0  y0 y1)) (fun y0 y1 y2 => K (.exit 0) (x60_0_0_k1  y0 y1 y2))) (intS (oneA (vT (nx tund s.tmps 0)))) (strS (oneA (vT (nx tund s.tmps 1)))) (strS (oneA (vT (nx tund s.tmps 7)))) (intS (oneA (vT (nx tund s.tmps 8)))) (rPairs (rowB_ (nx .dead s.blks 0)))) (none)
def LS60_0 {β : Type} (N : Nat) : LSpec β := VLS60_0 N (zj29 N)
def VE60 {β : Type} (N : Nat) (zq0 : (a0 : Int) → (a1 : Int) → (a2 : Int) → (k : Bool → Option β) → Option β) (zq12 : (a0 : Int) → (a1 : ByteArray) → (k : Int → Int → Bool → Option β) → Option β) (zq27 : (a0 : Int) → (a1 : List (Int × Int)) → (k : Bool → Option β) → Option β) (zq29 : Nat → Int → ByteArray → ByteArray → Int → List (Int × Int) → (Bool → List (Int × Int) → Option β) → (Int → ByteArray → List (Int × Int) → Option β) → Option β) : Env β := ⟨[(57, VS57 N zq0), (120, VS120 N zq12), (122, VS122 N zq27)], [], [(0, VLS60_0 N zq29)], [], ⟨[], [], [], []⟩⟩
def E60 {β : Type} (N : Nat) : Env β := VE60 N (zj0 N) (zj12 N) (zj27 N) (zj29 N)
def zb28 {β : Type} (N : Nat) (zq12 : (a0 : Int) → (a1 : ByteArray) → (k : Int → Int → Bool → Option β) → Option β)  (v0 : Int) (v1 : ByteArray) (v2 : ByteArray) (v3 : Int) (v4 : List (Int × Int)) (rec_ : Int → ByteArray → ByteArray → Int → List (Int × Int) → Option β) (k0 : Bool → List (Int × Int) → Option β) (k1 : Int → ByteArray → List (Int × Int) → Option β) : Option β :=
(cond ((decide (v3 ≤ (v1.size : Int))))
((cond ((decide ((v1.size : Int) ≤ 200)))
((cond ((decide (v3 < (v1.size : Int))))
((gd ((decide (0 ≤ v3)))
((gd ((decide (v3 < (v1.size : Int))))
((cond (((bt v1 v3) != 124))
((gd ((decide (0 ≤ (w64 (v3 + 1)))))
((gd ((decide ((w64 (v3 + 1)) ≤ (v1.size : Int))))
((gd ((decide (0 ≤ v3)))
((gd ((decide (v3 ≤ (w64 (v3 + 1)))))
((gd ((decide (v2.size + ((v1.extract (Int.toNat v3) (Int.toNat (w64 (v3 + 1))))).size ≤ 9223372036854775807)))
(rec_ v0 v1 ((v2 ++ (v1.extract (Int.toNat v3) (Int.toNat (w64 (v3 + 1)))))) ((w64 (v3 + 1))) v4)))))))))))
(zq12 v0 v2 fun r5 r6 r7 =>
(cond (!r7)
(k0 false (([] : List (Int × Int))))
((gd ((decide ((v4.length + ((([] : List (Int × Int)) ++ [(r5, r6)])).length) * 16 ≤ 140737488355328)))
(rec_ v0 v1 ByteArray.empty ((w64 (v3 + 1))) ((v4 ++ (([] : List (Int × Int)) ++ [(r5, r6)]))))))))))))))
(zq12 v0 v2 fun r8 r9 r10 =>
(cond (!r10)
(k0 false (([] : List (Int × Int))))
((gd ((decide ((v4.length + ((([] : List (Int × Int)) ++ [(r8, r9)])).length) * 16 ≤ 140737488355328)))
(rec_ v0 v1 ByteArray.empty ((w64 (v3 + 1))) ((v4 ++ (([] : List (Int × Int)) ++ [(r8, r9)]))))))))))
(k1 v0 v1 v4)))
(k1 v0 v1 v4))
theorem zt28 {β : Type} (N : Nat)  (v0 : Int) (v1 : ByteArray) (v2 : ByteArray) (v3 : Int) (v4 : List (Int × Int)) (rec_ : Int → ByteArray → ByteArray → Int → List (Int × Int) → Option β) (k0 : Bool → List (Int × Int) → Option β) (k1 : Int → ByteArray → List (Int × Int) → Option β) : zj28 N v0 v1 v2 v3 v4 rec_ k0 k1 = zb28 N (zj12 N) v0 v1 v2 v3 v4 rec_ k0 k1 := by
  unfold zj28 zb28
  rfl
theorem vst60_0_0 {β : Type} (N : Nat) (zq0 : (a0 : Int) → (a1 : Int) → (a2 : Int) → (k : Bool → Option β) → Option β) (zq12 : (a0 : Int) → (a1 : ByteArray) → (k : Int → Int → Bool → Option β) → Option β) (zq27 : (a0 : Int) → (a1 : List (Int × Int)) → (k : Bool → Option β) → Option β) (zq29 : Nat → Int → ByteArray → ByteArray → Int → List (Int × Int) → (Bool → List (Int × Int) → Option β) → (Int → ByteArray → List (Int × Int) → Option β) → Option β)  (v0 : Int) (v1 : ByteArray) (v2 : ByteArray) (v3 : Int) (v4 : List (Int × Int)) (rec_ : St → Option β) (K : Exit → St → Option β) :
    ev lay (VE60 N zq0 zq12 zq27 zq29) (retMask Tryz.f60) (lp Tryz.f60 0).body (lp Tryz.f60 0).ex ((lp Tryz.f60 0).lv (retMask Tryz.f60)) (h60_0_0  v0 v1 v2 v3 v4) (nextR (fun s' => rec_ (s'.tidy ((lp Tryz.f60 0).lv (retMask Tryz.f60)))) K) = zb28 N zq12  v0 v1 v2 v3 v4 (fun v0 v1 v2 v3 v4 => rec_ (h60_0_0  v0 v1 v2 v3 v4)) (fun y0 y1 => K .ret (x60_0_0_k0  y0 y1)) (fun y0 y1 y2 => K (.exit 0) (x60_0_0_k1  y0 y1 y2)) := by kernel_rfl
theorem st60_0_0 {β : Type} (N : Nat)  (v0 : Int) (v1 : ByteArray) (v2 : ByteArray) (v3 : Int) (v4 : List (Int × Int)) (rec_ : St → Option β) (K : Exit → St → Option β) :
    ev lay (E60 N) (retMask Tryz.f60) (lp Tryz.f60 0).body (lp Tryz.f60 0).ex ((lp Tryz.f60 0).lv (retMask Tryz.f60)) (h60_0_0  v0 v1 v2 v3 v4) (nextR (fun s' => rec_ (s'.tidy ((lp Tryz.f60 0).lv (retMask Tryz.f60)))) K) = zj28 N  v0 v1 v2 v3 v4 (fun v0 v1 v2 v3 v4 => rec_ (h60_0_0  v0 v1 v2 v3 v4)) (fun y0 y1 => K .ret (x60_0_0_k0  y0 y1)) (fun y0 y1 y2 => K (.exit 0) (x60_0_0_k1  y0 y1 y2)) := (vst60_0_0 N (zj0 N) (zj12 N) (zj27 N) (zj29 N) v0 v1 v2 v3 v4 rec_ K).trans (zt28 N  v0 v1 v2 v3 v4 (fun v0 v1 v2 v3 v4 => rec_ (h60_0_0  v0 v1 v2 v3 v4)) (fun y0 y1 => K .ret (x60_0_0_k0  y0 y1)) (fun y0 y1 y2 => K (.exit 0) (x60_0_0_k1  y0 y1 y2))).symm
theorem ro60_0_0 {β : Type} (N : Nat)  (K : Exit → St → Option β) : ∀ (F : Nat) (v0 : Int) (v1 : ByteArray) (v2 : ByteArray) (v3 : Int) (v4 : List (Int × Int)), (lp Tryz.f60 0).rounds lay (E60 N) (retMask Tryz.f60) F (h60_0_0  v0 v1 v2 v3 v4) K = zj29 N  F v0 v1 v2 v3 v4 (fun y0 y1 => K .ret (x60_0_0_k0  y0 y1)) (fun y0 y1 y2 => K (.exit 0) (x60_0_0_k1  y0 y1 y2)) := by
  intro F
  induction F with
  | zero => intros; rfl
  | succ F ih =>
    intros
    rw [rounds_next]
    refine (st60_0_0 N  _ _ _ _ _ (fun s => (lp Tryz.f60 0).rounds lay (E60 N) (retMask Tryz.f60) F s K) K).trans ?_
    simp only [ih]
    rfl
theorem lk60_0 {β : Type} (N : Nat) : lookL (E60 (β := β) N).loops (lp Tryz.f60 0).id = LS60_0 N := by kernel_rfl
theorem rk60_0 {β : Type} (N : Nat) : RoundsOK lay (E60 (β := β) N) (retMask Tryz.f60) (lp Tryz.f60 0) := by
  intro s K r h
  rw [lk60_0] at h
  unfold LS60_0 VLS60_0 at h
  cases hb : shpSt (h60_0_0 0 ByteArray.empty ByteArray.empty 0 []) s with
  | true =>
    rw [hb, cond_true] at h
    exact ⟨N, by rw [← shpSt_ref hb, fl60_0_0 s]; exact (ro60_0_0 N  K N (intS (oneA (vT (nx tund s.tmps 0)))) (strS (oneA (vT (nx tund s.tmps 1)))) (strS (oneA (vT (nx tund s.tmps 7)))) (intS (oneA (vT (nx tund s.tmps 8)))) (rPairs (rowB_ (nx .dead s.blks 0)))).trans h⟩
  | false =>
  rw [hb, cond_false] at h
  clear hb
  cases h
def zb30 {β : Type} (N : Nat) (zq0 : (a0 : Int) → (a1 : Int) → (a2 : Int) → (k : Bool → Option β) → Option β) (zq29 : Nat → Int → ByteArray → ByteArray → Int → List (Int × Int) → (Bool → List (Int × Int) → Option β) → (Int → ByteArray → List (Int × Int) → Option β) → Option β) (zq27 : (a0 : Int) → (a1 : List (Int × Int)) → (k : Bool → Option β) → Option β) (a0 : Int) (a1 : ByteArray) (k : List (Int × Int) → Bool → Option β) : Option β :=
(cond ((a1.toList == ((strOf [48])).toList))
(zq0 a0 0 5 fun r4 =>
k (([] : List (Int × Int))) r4)
(zq29  N a0 a1 ByteArray.empty 0 (([] : List (Int × Int))) (fun e11_0 e11_1 =>
k e11_1 e11_0) (fun e12_0 e12_1 e12_2 =>
(cond ((decide ((e12_1.size : Int) > 200)))
(k (([] : List (Int × Int))) false)
(zq27 e12_0 e12_2 fun r13 =>
(cond (!r13)
(k (([] : List (Int × Int))) false)
(k e12_2 true)))))))
theorem zt30 {β : Type} (N : Nat) (a0 : Int) (a1 : ByteArray) (k : List (Int × Int) → Bool → Option β) : zj30 N a0 a1 k = zb30 N (zj0 N) (zj29 N) (zj27 N) a0 a1 k := by
  unfold zj30 zb30
  rfl
theorem ve60_0 {β : Type} (N : Nat) (zq0 : (a0 : Int) → (a1 : Int) → (a2 : Int) → (k : Bool → Option β) → Option β) (zq12 : (a0 : Int) → (a1 : ByteArray) → (k : Int → Int → Bool → Option β) → Option β) (zq27 : (a0 : Int) → (a1 : List (Int × Int)) → (k : Bool → Option β) → Option β) (zq29 : Nat → Int → ByteArray → ByteArray → Int → List (Int × Int) → (Bool → List (Int × Int) → Option β) → (Int → ByteArray → List (Int × Int) → Option β) → Option β)  (a0 : Int) (a1 : ByteArray) (K : TV → Option β) : evFn lay (VE60 N zq0 zq12 zq27 zq29) Tryz.f60 [.v (.one (.int .i64 a0)), .v (.one (.str a1))] K = zb30 N zq0 zq29 zq27 a0 a1 (fun z2 z3 => K (.tup [.one (.sl 93 (.pairs z2)), .one (.bool z3)])) := by kernel_rfl
theorem e60_0 {β : Type} (N : Nat)  (a0 : Int) (a1 : ByteArray) (K : TV → Option β) : evFn lay (E60 N) Tryz.f60 [.v (.one (.int .i64 a0)), .v (.one (.str a1))] K = zj30 N a0 a1 (fun z2 z3 => K (.tup [.one (.sl 93 (.pairs z2)), .one (.bool z3)])) := (ve60_0 N (zj0 N) (zj12 N) (zj27 N) (zj29 N) a0 a1 K).trans (zt30 N a0 a1 (fun z2 z3 => K (.tup [.one (.sl 93 (.pairs z2)), .one (.bool z3)]))).symm
theorem o60 {β : Type} (N : Nat) : SpecOK (β := β) inv Tryz.prog 60 (S60 N) := by
  refine spec_of lay_ok mixed (E := E60 N) (specs_loops (specs_cons (o57 N) (specs_cons (o120 N) (specs_cons (o122 N) specs_nil)))) muts_nil gs_nil Tryz.func60 (by kernel_rfl) 1 (by kernel_rfl) ⟨trivial, rk60_0 N⟩ fun args K r h => ?_
  unfold S60 VS60 at h
  split at h
  · exact (e60_0 N _ _ _).trans h
  · cases h
def VS124 {β : Type} (N : Nat) (zq33 : (a0 : Int) → (a1 : Int) → (a2 : Int) → (k : Int → Option β) → Option β) : Rv.Spec β := fun args K => match args with
  | [.v (.one (.int .i64 a0)), .v (.agg [.int .i64 a1, .int .i64 a2])] => zq33 a0 a1 a2 (fun z3 => K (.v (.one (.int .i64 z3))))
  | _ => none
def S124 {β : Type} (N : Nat) : Rv.Spec β := VS124 N (zj33 N)
def h124_0_0  (v0 : Int) (v1 : Int) (v2 : Int) (v3 : Int) (v4 : Int) : St := ⟨.v (.one (.int .i64 v0)) :: tund :: tund :: .v (.one (.ptr 0 0)) :: tund :: .v (.one (.int .i64 v1)) :: .v (.one (.int .i64 v2)) :: tund :: tund :: tund :: tund :: tund :: tund :: tund :: tund :: tund :: tund :: tund :: tund :: tund :: tund :: tund :: tund :: tund :: tund :: [], [.cells 93 [.int .i64 v3, .int .i64 v4]]⟩
def x124_0_0_k0  (y0 : Int) : St := ⟨tund :: tund :: tund :: tund :: tund :: .v (.one (.int .i64 y0)) :: tund :: tund :: tund :: tund :: tund :: tund :: tund :: tund :: tund :: tund :: tund :: tund :: tund :: tund :: tund :: tund :: tund :: tund :: tund :: [], []⟩
theorem fl124_0_0 (s : St) : refSt (h124_0_0 0 0 0 0 0) s = h124_0_0 (intS (oneA (vT (nx tund s.tmps 0)))) (intS (oneA (vT (nx tund s.tmps 5)))) (intS (oneA (vT (nx tund s.tmps 6)))) (intS (nx .und (cellsB (nx .dead s.blks 0)) 0)) (intS (nx .und (cellsB (nx .dead s.blks 0)) 1)) := by kernel_rfl
def VLS124_0 {β : Type} (N : Nat) (zq32 : Nat → Int → Int → Int → Int → Int → (Int → Option β) → Option β) : LSpec β := fun s K => cond (shpSt (h124_0_0 0 0 0 0 0) s) ((fun (v0 : Int) (v1 : Int) (v2 : Int) (v3 : Int) (v4 : Int) => zq32  N v0 v1 v2 v3 v4 (fun y0 => K (.exit 0) (x124_0_0_k0  y0))) (intS (oneA (vT (nx tund s.tmps 0)))) (intS (oneA (vT (nx tund s.tmps 5)))) (intS (oneA (vT (nx tund s.tmps 6)))) (intS (nx .und (cellsB (nx .dead s.blks 0)) 0)) (intS (nx .und (cellsB (nx .dead s.blks 0)) 1))) (none)
def LS124_0 {β : Type} (N : Nat) : LSpec β := VLS124_0 N (zj32 N)
def VE124 {β : Type} (N : Nat) (zq32 : Nat → Int → Int → Int → Int → Int → (Int → Option β) → Option β) : Env β := ⟨[], [], [(0, VLS124_0 N zq32)], [], ⟨[], [], [], []⟩⟩
def E124 {β : Type} (N : Nat) : Env β := VE124 N (zj32 N)
def zb31 {β : Type} (N : Nat)  (v0 : Int) (v1 : Int) (v2 : Int) (v3 : Int) (v4 : Int) (rec_ : Int → Int → Int → Int → Int → Option β) (k0 : Int → Option β) : Option β :=
(gd ((decide (0 ≤ v0)))
((cond ((decide (v2 < (shlI .i64 1 v0))))
((cond (((bits .and .i64 v2 v3) == v4))
((gd ((decide (0 ≤ v2)))
(rec_ v0 ((bits .or .i64 v1 (shlI .i64 1 v2))) ((w64 (v2 + 1))) v3 v4)))
(rec_ v0 v1 ((w64 (v2 + 1))) v3 v4)))
(k0 v1))))
theorem zt31 {β : Type} (N : Nat)  (v0 : Int) (v1 : Int) (v2 : Int) (v3 : Int) (v4 : Int) (rec_ : Int → Int → Int → Int → Int → Option β) (k0 : Int → Option β) : zj31 N v0 v1 v2 v3 v4 rec_ k0 = zb31 N v0 v1 v2 v3 v4 rec_ k0 := by
  unfold zj31 zb31
  rfl
theorem vst124_0_0 {β : Type} (N : Nat) (zq32 : Nat → Int → Int → Int → Int → Int → (Int → Option β) → Option β)  (v0 : Int) (v1 : Int) (v2 : Int) (v3 : Int) (v4 : Int) (rec_ : St → Option β) (K : Exit → St → Option β) :
    ev lay (VE124 N zq32) (retMask Tryz.f124) (lp Tryz.f124 0).body (lp Tryz.f124 0).ex ((lp Tryz.f124 0).lv (retMask Tryz.f124)) (h124_0_0  v0 v1 v2 v3 v4) (nextR (fun s' => rec_ (s'.tidy ((lp Tryz.f124 0).lv (retMask Tryz.f124)))) K) = zb31 N  v0 v1 v2 v3 v4 (fun v0 v1 v2 v3 v4 => rec_ (h124_0_0  v0 v1 v2 v3 v4)) (fun y0 => K (.exit 0) (x124_0_0_k0  y0)) := by kernel_rfl
theorem st124_0_0 {β : Type} (N : Nat)  (v0 : Int) (v1 : Int) (v2 : Int) (v3 : Int) (v4 : Int) (rec_ : St → Option β) (K : Exit → St → Option β) :
    ev lay (E124 N) (retMask Tryz.f124) (lp Tryz.f124 0).body (lp Tryz.f124 0).ex ((lp Tryz.f124 0).lv (retMask Tryz.f124)) (h124_0_0  v0 v1 v2 v3 v4) (nextR (fun s' => rec_ (s'.tidy ((lp Tryz.f124 0).lv (retMask Tryz.f124)))) K) = zj31 N  v0 v1 v2 v3 v4 (fun v0 v1 v2 v3 v4 => rec_ (h124_0_0  v0 v1 v2 v3 v4)) (fun y0 => K (.exit 0) (x124_0_0_k0  y0)) := (vst124_0_0 N (zj32 N) v0 v1 v2 v3 v4 rec_ K).trans (zt31 N  v0 v1 v2 v3 v4 (fun v0 v1 v2 v3 v4 => rec_ (h124_0_0  v0 v1 v2 v3 v4)) (fun y0 => K (.exit 0) (x124_0_0_k0  y0))).symm
theorem ro124_0_0 {β : Type} (N : Nat)  (K : Exit → St → Option β) : ∀ (F : Nat) (v0 : Int) (v1 : Int) (v2 : Int) (v3 : Int) (v4 : Int), (lp Tryz.f124 0).rounds lay (E124 N) (retMask Tryz.f124) F (h124_0_0  v0 v1 v2 v3 v4) K = zj32 N  F v0 v1 v2 v3 v4 (fun y0 => K (.exit 0) (x124_0_0_k0  y0)) := by
  intro F
  induction F with
  | zero => intros; rfl
  | succ F ih =>
    intros
    rw [rounds_next]
    refine (st124_0_0 N  _ _ _ _ _ (fun s => (lp Tryz.f124 0).rounds lay (E124 N) (retMask Tryz.f124) F s K) K).trans ?_
    simp only [ih]
    rfl
theorem lk124_0 {β : Type} (N : Nat) : lookL (E124 (β := β) N).loops (lp Tryz.f124 0).id = LS124_0 N := by kernel_rfl
theorem rk124_0 {β : Type} (N : Nat) : RoundsOK lay (E124 (β := β) N) (retMask Tryz.f124) (lp Tryz.f124 0) := by
  intro s K r h
  rw [lk124_0] at h
  unfold LS124_0 VLS124_0 at h
  cases hb : shpSt (h124_0_0 0 0 0 0 0) s with
  | true =>
    rw [hb, cond_true] at h
    exact ⟨N, by rw [← shpSt_ref hb, fl124_0_0 s]; exact (ro124_0_0 N  K N (intS (oneA (vT (nx tund s.tmps 0)))) (intS (oneA (vT (nx tund s.tmps 5)))) (intS (oneA (vT (nx tund s.tmps 6)))) (intS (nx .und (cellsB (nx .dead s.blks 0)) 0)) (intS (nx .und (cellsB (nx .dead s.blks 0)) 1))).trans h⟩
  | false =>
  rw [hb, cond_false] at h
  clear hb
  cases h
def zb33 {β : Type} (N : Nat) (zq32 : Nat → Int → Int → Int → Int → Int → (Int → Option β) → Option β) (a0 : Int) (a1 : Int) (a2 : Int) (k : Int → Option β) : Option β :=
zq32  N a0 0 0 a1 a2 (fun e4_0 =>
k e4_0)
theorem zt33 {β : Type} (N : Nat) (a0 : Int) (a1 : Int) (a2 : Int) (k : Int → Option β) : zj33 N a0 a1 a2 k = zb33 N (zj32 N) a0 a1 a2 k := by
  unfold zj33 zb33
  rfl
theorem ve124_0 {β : Type} (N : Nat) (zq32 : Nat → Int → Int → Int → Int → Int → (Int → Option β) → Option β)  (a0 : Int) (a1 : Int) (a2 : Int) (K : TV → Option β) : evFn lay (VE124 N zq32) Tryz.f124 [.v (.one (.int .i64 a0)), .v (.agg [.int .i64 a1, .int .i64 a2])] K = zb33 N zq32 a0 a1 a2 (fun z3 => K (.v (.one (.int .i64 z3)))) := by kernel_rfl
theorem e124_0 {β : Type} (N : Nat)  (a0 : Int) (a1 : Int) (a2 : Int) (K : TV → Option β) : evFn lay (E124 N) Tryz.f124 [.v (.one (.int .i64 a0)), .v (.agg [.int .i64 a1, .int .i64 a2])] K = zj33 N a0 a1 a2 (fun z3 => K (.v (.one (.int .i64 z3)))) := (ve124_0 N (zj32 N) a0 a1 a2 K).trans (zt33 N a0 a1 a2 (fun z3 => K (.v (.one (.int .i64 z3))))).symm
theorem o124 {β : Type} (N : Nat) : SpecOK (β := β) inv Tryz.prog 124 (S124 N) := by
  refine spec_of lay_ok mixed (E := E124 N) (specs_loops specs_nil) muts_nil gs_nil Tryz.func124 (by kernel_rfl) 1 (by kernel_rfl) ⟨trivial, rk124_0 N⟩ fun args K r h => ?_
  unfold S124 VS124 at h
  split at h
  · exact (e124_0 N _ _ _ _).trans h
  · cases h
end Go.Proofs.YtemihnclhcobnaaGreatDoor
