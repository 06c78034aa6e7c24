/- The functions that the claims reach answer as their texts do. -/
import Derived.Test.YtddflpokemgnmaaDoorE4
namespace Go.Proofs.YtddflpokemgnmaaDoor
open Go.Rv
set_option maxRecDepth 100000
set_option maxHeartbeats 2000000
set_option linter.unusedVariables false
variable {β : Type}
def VS28 (N : Nat) (zq65 : (a0 : Int) → (a1 : Int) → (a2 : Int) → (k : List Int → Bool → O β) → O β) : Rv.Spec β := fun args K => match args with
  | [.v (.agg [.int .i64 a0, .int .i64 a1]), .v (.one (.int .i64 a2))] => zq65 a0 a1 a2 (fun z3 z4 => K (.tup [.one (.sl 3 (.ints .i64 z3)), .one (.bool z4)]))
  | _ => none
def S28 (N : Nat) : Rv.Spec β := VS28 N (zj65 N)
def h28_0_0  (v0 : Int) (v1 : Int) (v2 : Int) (v3 : Int) (v4 : List Int) : St := ⟨tund :: .v (.one (.int .i64 v0)) :: .v (.one (.ptr 0 0)) :: tund :: tund :: tund :: .v (.one (.row 1)) :: .v (.one (.int .i64 v1)) :: tund :: tund :: tund :: tund :: tund :: tund :: tund :: tund :: tund :: tund :: tund :: tund :: tund :: tund :: tund :: tund :: tund :: tund :: tund :: tund :: tund :: tund :: tund :: tund :: tund :: tund :: tund :: tund :: tund :: tund :: tund :: tund :: tund :: tund :: tund :: tund :: tund :: tund :: tund :: tund :: tund :: tund :: tund :: tund :: tund :: tund :: tund :: [], [.cells 25 [.int .i64 v2, .int .i64 v3], .row 3 (.ints .i64 v4)]⟩
def x28_0_0_k0  (y0 : List Int) : St := ⟨tund :: tund :: tund :: tund :: tund :: tund :: .v (.one (.row 0)) :: tund :: tund :: tund :: tund :: tund :: tund :: tund :: tund :: tund :: tund :: tund :: tund :: tund :: tund :: tund :: tund :: tund :: tund :: tund :: tund :: tund :: tund :: tund :: tund :: tund :: tund :: tund :: tund :: tund :: tund :: tund :: tund :: tund :: tund :: tund :: tund :: tund :: tund :: tund :: tund :: tund :: tund :: tund :: tund :: tund :: tund :: tund :: tund :: [], [.row 3 (.ints .i64 y0)]⟩
def h28_1_0  (v0 : Int) (v1 : Int) (v2 : Int) (v3 : Int) (v4 : Int) (v5 : Int) (v6 : List Int) : St := ⟨tund :: .v (.one (.int .i64 v0)) :: .v (.one (.ptr 0 0)) :: tund :: tund :: tund :: .v (.one (.row 1)) :: .v (.one (.int .i64 v1)) :: .v (.one (.int .i64 v2)) :: .v (.one (.int .i64 v3)) :: tund :: tund :: tund :: tund :: tund :: tund :: tund :: tund :: tund :: tund :: tund :: tund :: tund :: tund :: tund :: tund :: tund :: tund :: tund :: tund :: tund :: tund :: tund :: tund :: tund :: tund :: tund :: tund :: tund :: tund :: tund :: tund :: tund :: tund :: tund :: tund :: tund :: tund :: tund :: tund :: tund :: tund :: tund :: tund :: tund :: [], [.cells 25 [.int .i64 v4, .int .i64 v5], .row 3 (.ints .i64 v6)]⟩
def x28_1_0_k0  (y0 : Int) (y1 : Int) (y2 : Int) (y3 : Int) (y4 : Int) (y5 : List Int) : St := ⟨tund :: .v (.one (.int .i64 y0)) :: .v (.one (.ptr 0 0)) :: tund :: tund :: tund :: .v (.one (.row 1)) :: .v (.one (.int .i64 y1)) :: .v (.one (.int .i64 y2)) :: tund :: tund :: tund :: tund :: tund :: tund :: tund :: tund :: tund :: tund :: tund :: tund :: tund :: tund :: tund :: tund :: tund :: tund :: tund :: tund :: tund :: tund :: tund :: tund :: tund :: tund :: tund :: tund :: tund :: tund :: tund :: tund :: tund :: tund :: tund :: tund :: tund :: tund :: tund :: tund :: tund :: tund :: tund :: tund :: tund :: tund :: [], [.cells 25 [.int .i64 y3, .int .i64 y4], .row 3 (.ints .i64 y5)]⟩
theorem fl28_0_0 (s : St) : refSt (h28_0_0 0 0 0 0 []) s = h28_0_0 (intS (oneA (vT (nx tund s.tmps 1)))) (intS (oneA (vT (nx tund s.tmps 7)))) (intS (nx .und (cellsB (nx .dead s.blks 0)) 0)) (intS (nx .und (cellsB (nx .dead s.blks 0)) 1)) (rInts (rowB_ (nx .dead s.blks 1))) := by kernel_rfl
def VLS28_0 (N : Nat) (zq64 : Nat → Int → Int → Int → Int → List Int → (List Int → O β) → O β) : LSpec β := fun s K => cond (shpSt (h28_0_0 0 0 0 0 []) s) ((fun (v0 : Int) (v1 : Int) (v2 : Int) (v3 : Int) (v4 : List Int) => zq64  N v0 v1 v2 v3 v4 (fun y0 => K (.exit 0) (x28_0_0_k0  y0))) (intS (oneA (vT (nx tund s.tmps 1)))) (intS (oneA (vT (nx tund s.tmps 7)))) (intS (nx .und (cellsB (nx .dead s.blks 0)) 0)) (intS (nx .und (cellsB (nx .dead s.blks 0)) 1)) (rInts (rowB_ (nx .dead s.blks 1)))) (none)
def LS28_0 (N : Nat) : LSpec β := VLS28_0 N (zj64 N)
theorem fl28_1_0 (s : St) : refSt (h28_1_0 0 0 0 0 0 0 []) s = h28_1_0 (intS (oneA (vT (nx tund s.tmps 1)))) (intS (oneA (vT (nx tund s.tmps 7)))) (intS (oneA (vT (nx tund s.tmps 8)))) (intS (oneA (vT (nx tund s.tmps 9)))) (intS (nx .und (cellsB (nx .dead s.blks 0)) 0)) (intS (nx .und (cellsB (nx .dead s.blks 0)) 1)) (rInts (rowB_ (nx .dead s.blks 1))) := by kernel_rfl
def VLS28_2 (N : Nat) (zq62 : Nat → Int → Int → Int → Int → Int → Int → List Int → (Int → Int → Int → Int → Int → List Int → O β) → O β) : LSpec β := fun s K => cond (shpSt (h28_1_0 0 0 0 0 0 0 []) s) ((fun (v0 : Int) (v1 : Int) (v2 : Int) (v3 : Int) (v4 : Int) (v5 : Int) (v6 : List Int) => zq62  N v0 v1 v2 v3 v4 v5 v6 (fun y0 y1 y2 y3 y4 y5 => K (.exit 2) (x28_1_0_k0  y0 y1 y2 y3 y4 y5))) (intS (oneA (vT (nx tund s.tmps 1)))) (intS (oneA (vT (nx tund s.tmps 7)))) (intS (oneA (vT (nx tund s.tmps 8)))) (intS (oneA (vT (nx tund s.tmps 9)))) (intS (nx .und (cellsB (nx .dead s.blks 0)) 0)) (intS (nx .und (cellsB (nx .dead s.blks 0)) 1)) (rInts (rowB_ (nx .dead s.blks 1)))) (none)
def LS28_2 (N : Nat) : LSpec β := VLS28_2 N (zj62 N)
def VE28 (N : Nat) (zq59 : (a0 : Int) → (a1 : Int) → (k : Bool → O β) → O β) (zq58 : (a0 : Int) → (a1 : Int) → (a2 : Int) → (k : Bool → O β) → O β) (zq64 : Nat → Int → Int → Int → Int → List Int → (List Int → O β) → O β) (zq62 : Nat → Int → Int → Int → Int → Int → Int → List Int → (Int → Int → Int → Int → Int → List Int → O β) → O β) : Env β := ⟨[(59, VS59 N zq59), (46, VS46 N zq58)], [], [(0, VLS28_0 N zq64), (2, VLS28_2 N zq62)], [], ⟨[], [], [], []⟩⟩
def E28 (N : Nat) : Env β := VE28 N (zj59 N) (zj58 N) (zj64 N) (zj62 N)
def zb63 (N : Nat) (zq62 : Nat → Int → Int → Int → Int → Int → Int → List Int → (Int → Int → Int → Int → Int → List Int → O β) → O β)  (v0 : Int) (v1 : Int) (v2 : Int) (v3 : Int) (v4 : List Int) (rec_ : Int → Int → Int → Int → List Int → O β) (k0 : List Int → O β) : O β :=
(gd ((decide (0 ≤ v0)))
((cond ((decide (v1 < (shlI .i64 1 v0))))
(zq62  N v0 v1 0 0 v2 v3 v4 (fun e7_0 e7_1 e7_2 e7_3 e7_4 e7_5 =>
(gd ((decide ((e7_5.length + ((([] : List Int) ++ [e7_2])).length) * 8 ≤ 140737488355328)))
(rec_ e7_0 ((w64 (e7_1 + 1))) e7_3 e7_4 ((e7_5 ++ (([] : List Int) ++ [e7_2])))))))
(k0 v4))))
theorem zt63 (N : Nat)  (v0 : Int) (v1 : Int) (v2 : Int) (v3 : Int) (v4 : List Int) (rec_ : Int → Int → Int → Int → List Int → O β) (k0 : List Int → O β) : zj63 N v0 v1 v2 v3 v4 rec_ k0 = zb63 N (zj62 N) v0 v1 v2 v3 v4 rec_ k0 := by
  unfold zj63 zb63
  rfl
theorem vst28_0_0 (N : Nat) (zq59 : (a0 : Int) → (a1 : Int) → (k : Bool → O β) → O β) (zq58 : (a0 : Int) → (a1 : Int) → (a2 : Int) → (k : Bool → O β) → O β) (zq64 : Nat → Int → Int → Int → Int → List Int → (List Int → O β) → O β) (zq62 : Nat → Int → Int → Int → Int → Int → Int → List Int → (Int → Int → Int → Int → Int → List Int → O β) → O β)  (v0 : Int) (v1 : Int) (v2 : Int) (v3 : Int) (v4 : List Int) (rec_ : St → O β) (K : Exit → St → O β) :
    ev lay (VE28 N zq59 zq58 zq64 zq62) (retMask Tryd.f28) (lp Tryd.f28 0).body (lp Tryd.f28 0).ex ((lp Tryd.f28 0).lv (retMask Tryd.f28)) (h28_0_0  v0 v1 v2 v3 v4) (nextR (fun s' => rec_ (s'.tidy ((lp Tryd.f28 0).lv (retMask Tryd.f28)))) K) = zb63 N zq62  v0 v1 v2 v3 v4 (fun v0 v1 v2 v3 v4 => rec_ (h28_0_0  v0 v1 v2 v3 v4)) (fun y0 => K (.exit 0) (x28_0_0_k0  y0)) := by kernel_rfl
theorem st28_0_0 (N : Nat)  (v0 : Int) (v1 : Int) (v2 : Int) (v3 : Int) (v4 : List Int) (rec_ : St → O β) (K : Exit → St → O β) :
    ev lay (E28 N) (retMask Tryd.f28) (lp Tryd.f28 0).body (lp Tryd.f28 0).ex ((lp Tryd.f28 0).lv (retMask Tryd.f28)) (h28_0_0  v0 v1 v2 v3 v4) (nextR (fun s' => rec_ (s'.tidy ((lp Tryd.f28 0).lv (retMask Tryd.f28)))) K) = zj63 N  v0 v1 v2 v3 v4 (fun v0 v1 v2 v3 v4 => rec_ (h28_0_0  v0 v1 v2 v3 v4)) (fun y0 => K (.exit 0) (x28_0_0_k0  y0)) := (vst28_0_0 N (zj59 N) (zj58 N) (zj64 N) (zj62 N) v0 v1 v2 v3 v4 rec_ K).trans (zt63 N  v0 v1 v2 v3 v4 (fun v0 v1 v2 v3 v4 => rec_ (h28_0_0  v0 v1 v2 v3 v4)) (fun y0 => K (.exit 0) (x28_0_0_k0  y0))).symm
theorem ro28_0_0 (N : Nat)  (K : Exit → St → O β) : ∀ (F : Nat) (v0 : Int) (v1 : Int) (v2 : Int) (v3 : Int) (v4 : List Int), (lp Tryd.f28 0).rounds lay (E28 N) (retMask Tryd.f28) F (h28_0_0  v0 v1 v2 v3 v4) K = zj64 N  F v0 v1 v2 v3 v4 (fun y0 => K (.exit 0) (x28_0_0_k0  y0)) := by
  intro F
  induction F with
  | zero => intros; rfl
  | succ F ih =>
    intros
    rw [rounds_next]
    refine (st28_0_0 N  _ _ _ _ _ (fun s => (lp Tryd.f28 0).rounds lay (E28 N) (retMask Tryd.f28) F s K) K).trans ?_
    simp only [ih]
    rfl
theorem lk28_0 (N : Nat) : lookL (E28 (β := β) N).loops (lp Tryd.f28 0).id = LS28_0 N := by kernel_rfl
theorem rk28_0 (N : Nat) : RoundsOK lay (E28 (β := β) N) (retMask Tryd.f28) (lp Tryd.f28 0) := by
  intro s K r h
  rw [lk28_0] at h
  unfold LS28_0 VLS28_0 at h
  cases hb : shpSt (h28_0_0 0 0 0 0 []) s with
  | true =>
    rw [hb, cond_true] at h
    exact ⟨N, by rw [← shpSt_ref hb, fl28_0_0 s]; exact (ro28_0_0 N  K N (intS (oneA (vT (nx tund s.tmps 1)))) (intS (oneA (vT (nx tund s.tmps 7)))) (intS (nx .und (cellsB (nx .dead s.blks 0)) 0)) (intS (nx .und (cellsB (nx .dead s.blks 0)) 1)) (rInts (rowB_ (nx .dead s.blks 1)))).trans h⟩
  | false =>
  rw [hb, cond_false] at h
  clear hb
  cases h
def zb61 (N : Nat)  (v0 : Int) (v1 : Int) (v2 : Int) (v3 : Int) (v4 : Int) (v5 : Int) (v6 : List Int) (rec_ : Int → Int → Int → Int → Int → Int → List Int → O β) (k0 : Int → Int → Int → Int → Int → List Int → O β) : O β :=
(gd ((decide (0 ≤ (w64 (v4 - v0)))))
((cond ((decide (v3 < (shlI .i64 1 (w64 (v4 - v0))))))
((gd ((decide (0 ≤ v0)))
((gd ((decide (0 ≤ (bits .or .i64 v1 (shlI .i64 v3 v0)))))
((gd ((decide (0 ≤ v3)))
(rec_ v0 v1 ((bits .or .i64 v2 (shlI .i64 (bits .and .i64 (shrI .i64 v5 (bits .or .i64 v1 (shlI .i64 v3 v0))) 1) v3))) ((w64 (v3 + 1))) v4 v5 v6)))))))
(k0 v0 v1 v2 v4 v5 v6))))
theorem zt61 (N : Nat)  (v0 : Int) (v1 : Int) (v2 : Int) (v3 : Int) (v4 : Int) (v5 : Int) (v6 : List Int) (rec_ : Int → Int → Int → Int → Int → Int → List Int → O β) (k0 : Int → Int → Int → Int → Int → List Int → O β) : zj61 N v0 v1 v2 v3 v4 v5 v6 rec_ k0 = zb61 N v0 v1 v2 v3 v4 v5 v6 rec_ k0 := by
  unfold zj61 zb61
  rfl
theorem vst28_1_0 (N : Nat) (zq59 : (a0 : Int) → (a1 : Int) → (k : Bool → O β) → O β) (zq58 : (a0 : Int) → (a1 : Int) → (a2 : Int) → (k : Bool → O β) → O β) (zq64 : Nat → Int → Int → Int → Int → List Int → (List Int → O β) → O β) (zq62 : Nat → Int → Int → Int → Int → Int → Int → List Int → (Int → Int → Int → Int → Int → List Int → O β) → O β)  (v0 : Int) (v1 : Int) (v2 : Int) (v3 : Int) (v4 : Int) (v5 : Int) (v6 : List Int) (rec_ : St → O β) (K : Exit → St → O β) :
    ev lay (VE28 N zq59 zq58 zq64 zq62) (retMask Tryd.f28) (lp Tryd.f28 1).body (lp Tryd.f28 1).ex ((lp Tryd.f28 1).lv (retMask Tryd.f28)) (h28_1_0  v0 v1 v2 v3 v4 v5 v6) (nextR (fun s' => rec_ (s'.tidy ((lp Tryd.f28 1).lv (retMask Tryd.f28)))) K) = zb61 N  v0 v1 v2 v3 v4 v5 v6 (fun v0 v1 v2 v3 v4 v5 v6 => rec_ (h28_1_0  v0 v1 v2 v3 v4 v5 v6)) (fun y0 y1 y2 y3 y4 y5 => K (.exit 2) (x28_1_0_k0  y0 y1 y2 y3 y4 y5)) := by kernel_rfl
theorem st28_1_0 (N : Nat)  (v0 : Int) (v1 : Int) (v2 : Int) (v3 : Int) (v4 : Int) (v5 : Int) (v6 : List Int) (rec_ : St → O β) (K : Exit → St → O β) :
    ev lay (E28 N) (retMask Tryd.f28) (lp Tryd.f28 1).body (lp Tryd.f28 1).ex ((lp Tryd.f28 1).lv (retMask Tryd.f28)) (h28_1_0  v0 v1 v2 v3 v4 v5 v6) (nextR (fun s' => rec_ (s'.tidy ((lp Tryd.f28 1).lv (retMask Tryd.f28)))) K) = zj61 N  v0 v1 v2 v3 v4 v5 v6 (fun v0 v1 v2 v3 v4 v5 v6 => rec_ (h28_1_0  v0 v1 v2 v3 v4 v5 v6)) (fun y0 y1 y2 y3 y4 y5 => K (.exit 2) (x28_1_0_k0  y0 y1 y2 y3 y4 y5)) := (vst28_1_0 N (zj59 N) (zj58 N) (zj64 N) (zj62 N) v0 v1 v2 v3 v4 v5 v6 rec_ K).trans (zt61 N  v0 v1 v2 v3 v4 v5 v6 (fun v0 v1 v2 v3 v4 v5 v6 => rec_ (h28_1_0  v0 v1 v2 v3 v4 v5 v6)) (fun y0 y1 y2 y3 y4 y5 => K (.exit 2) (x28_1_0_k0  y0 y1 y2 y3 y4 y5))).symm
theorem ro28_1_0 (N : Nat)  (K : Exit → St → O β) : ∀ (F : Nat) (v0 : Int) (v1 : Int) (v2 : Int) (v3 : Int) (v4 : Int) (v5 : Int) (v6 : List Int), (lp Tryd.f28 1).rounds lay (E28 N) (retMask Tryd.f28) F (h28_1_0  v0 v1 v2 v3 v4 v5 v6) K = zj62 N  F v0 v1 v2 v3 v4 v5 v6 (fun y0 y1 y2 y3 y4 y5 => K (.exit 2) (x28_1_0_k0  y0 y1 y2 y3 y4 y5)) := by
  intro F
  induction F with
  | zero => intros; rfl
  | succ F ih =>
    intros
    rw [rounds_next]
    refine (st28_1_0 N  _ _ _ _ _ _ _ (fun s => (lp Tryd.f28 1).rounds lay (E28 N) (retMask Tryd.f28) F s K) K).trans ?_
    simp only [ih]
    rfl
theorem lk28_2 (N : Nat) : lookL (E28 (β := β) N).loops (lp Tryd.f28 1).id = LS28_2 N := by kernel_rfl
theorem rk28_2 (N : Nat) : RoundsOK lay (E28 (β := β) N) (retMask Tryd.f28) (lp Tryd.f28 1) := by
  intro s K r h
  rw [lk28_2] at h
  unfold LS28_2 VLS28_2 at h
  cases hb : shpSt (h28_1_0 0 0 0 0 0 0 []) s with
  | true =>
    rw [hb, cond_true] at h
    exact ⟨N, by rw [← shpSt_ref hb, fl28_1_0 s]; exact (ro28_1_0 N  K N (intS (oneA (vT (nx tund s.tmps 1)))) (intS (oneA (vT (nx tund s.tmps 7)))) (intS (oneA (vT (nx tund s.tmps 8)))) (intS (oneA (vT (nx tund s.tmps 9)))) (intS (nx .und (cellsB (nx .dead s.blks 0)) 0)) (intS (nx .und (cellsB (nx .dead s.blks 0)) 1)) (rInts (rowB_ (nx .dead s.blks 1)))).trans h⟩
  | false =>
  rw [hb, cond_false] at h
  clear hb
  cases h
def zb65 (N : Nat) (zq59 : (a0 : Int) → (a1 : Int) → (k : Bool → O β) → O β) (zq58 : (a0 : Int) → (a1 : Int) → (a2 : Int) → (k : Bool → O β) → O β) (zq64 : Nat → Int → Int → Int → Int → List Int → (List Int → O β) → O β) (a0 : Int) (a1 : Int) (a2 : Int) (k : List Int → Bool → O β) : O β :=
zq59 a0 a1 fun r5 =>
(cond (!r5)
(k (([] : List Int)) false)
(zq58 a2 0 a0 fun r6 =>
(cond (!r6)
(k (([] : List Int)) false)
(zq64  N a2 0 a0 a1 (([] : List Int)) (fun e8_0 =>
k e8_0 true)))))
theorem zt65 (N : Nat) (a0 : Int) (a1 : Int) (a2 : Int) (k : List Int → Bool → O β) : zj65 N a0 a1 a2 k = zb65 N (zj59 N) (zj58 N) (zj64 N) a0 a1 a2 k := by
  unfold zj65 zb65
  rfl
theorem ve28_0 (N : Nat) (zq59 : (a0 : Int) → (a1 : Int) → (k : Bool → O β) → O β) (zq58 : (a0 : Int) → (a1 : Int) → (a2 : Int) → (k : Bool → O β) → O β) (zq64 : Nat → Int → Int → Int → Int → List Int → (List Int → O β) → O β) (zq62 : Nat → Int → Int → Int → Int → Int → Int → List Int → (Int → Int → Int → Int → Int → List Int → O β) → O β)  (a0 : Int) (a1 : Int) (a2 : Int) (K : TV → O β) : evFn lay (VE28 N zq59 zq58 zq64 zq62) Tryd.f28 [.v (.agg [.int .i64 a0, .int .i64 a1]), .v (.one (.int .i64 a2))] K = zb65 N zq59 zq58 zq64 a0 a1 a2 (fun z3 z4 => K (.tup [.one (.sl 3 (.ints .i64 z3)), .one (.bool z4)])) := by kernel_rfl
theorem e28_0 (N : Nat)  (a0 : Int) (a1 : Int) (a2 : Int) (K : TV → O β) : evFn lay (E28 N) Tryd.f28 [.v (.agg [.int .i64 a0, .int .i64 a1]), .v (.one (.int .i64 a2))] K = zj65 N a0 a1 a2 (fun z3 z4 => K (.tup [.one (.sl 3 (.ints .i64 z3)), .one (.bool z4)])) := (ve28_0 N (zj59 N) (zj58 N) (zj64 N) (zj62 N) a0 a1 a2 K).trans (zt65 N a0 a1 a2 (fun z3 z4 => K (.tup [.one (.sl 3 (.ints .i64 z3)), .one (.bool z4)]))).symm
theorem o28 (N : Nat) : SpecOK (β := β) inv Tryd.prog 28 (S28 N) := by
  refine spec_of lay_ok mixed (E := E28 N) (specs_loops (specs_cons (o59 N) (specs_cons (o46 N) specs_nil))) muts_nil gs_nil Tryd.func28 (by kernel_rfl) 2 (by kernel_rfl) ⟨⟨trivial, rk28_0 N⟩, rk28_2 N⟩ fun args K r h => ?_
  unfold S28 VS28 at h
  split at h
  · exact (e28_0 N _ _ _ _).trans h
  · cases h
def VS60 (N : Nat) (zq70 : (a0 : List Int) → (a1 : Int) → (a2 : Int) → (k : Int → O β) → O β) : Rv.Spec β := fun args K => match args with
  | [.v (.one (.sl 3 (.ints .i64 a0))), .v (.one (.int .i64 a1)), .v (.one (.int .i64 a2))] => zq70 a0 a1 a2 (fun z3 => K (.v (.one (.int .i64 z3))))
  | _ => none
def S60 (N : Nat) : Rv.Spec β := VS60 N (zj70 N)
def h60_0_0  (v0 : List Int) (v1 : Int) (v2 : Int) (v3 : Int) (v4 : Int) : St := ⟨.v (.one (.sl 3 (.ints .i64 v0))) :: .v (.one (.int .i64 v1)) :: .v (.one (.int .i64 v2)) :: tund :: tund :: tund :: tund :: .v (.one (.int .i64 v3)) :: .v (.one (.int .i64 v4)) :: tund :: tund :: tund :: tund :: tund :: tund :: tund :: tund :: tund :: tund :: tund :: tund :: tund :: tund :: tund :: tund :: tund :: tund :: tund :: tund :: tund :: tund :: tund :: tund :: tund :: tund :: tund :: tund :: tund :: tund :: tund :: tund :: tund :: tund :: tund :: tund :: tund :: tund :: tund :: tund :: [], []⟩
def x60_0_0_k0  (y0 : Int) : St := ⟨tund :: tund :: tund :: tund :: tund :: tund :: .v (.one (.int .i64 y0)) :: tund :: tund :: tund :: tund :: tund :: tund :: tund :: tund :: tund :: tund :: tund :: tund :: tund :: tund :: tund :: tund :: tund :: tund :: tund :: tund :: tund :: tund :: tund :: tund :: tund :: tund :: tund :: tund :: tund :: tund :: tund :: tund :: tund :: tund :: tund :: tund :: tund :: tund :: tund :: tund :: tund :: tund :: [], []⟩
def x60_0_0_k1  (y0 : Int) : St := ⟨tund :: tund :: tund :: tund :: tund :: tund :: tund :: .v (.one (.int .i64 y0)) :: tund :: tund :: tund :: tund :: tund :: tund :: tund :: tund :: tund :: tund :: tund :: tund :: tund :: tund :: tund :: tund :: tund :: tund :: tund :: tund :: tund :: tund :: tund :: tund :: tund :: tund :: tund :: tund :: tund :: tund :: tund :: tund :: tund :: tund :: tund :: tund :: tund :: tund :: tund :: tund :: tund :: [], []⟩
def h60_1_0  (v0 : List Int) (v1 : Int) (v2 : Int) (v3 : Int) (v4 : Int) (v5 : Int) : St := ⟨.v (.one (.sl 3 (.ints .i64 v0))) :: .v (.one (.int .i64 v1)) :: .v (.one (.int .i64 v2)) :: tund :: tund :: tund :: tund :: .v (.one (.int .i64 v3)) :: .v (.one (.int .i64 v4)) :: .v (.one (.int .i64 v5)) :: tund :: tund :: tund :: tund :: tund :: tund :: tund :: tund :: tund :: tund :: tund :: tund :: tund :: tund :: tund :: tund :: tund :: tund :: tund :: tund :: tund :: tund :: tund :: tund :: tund :: tund :: tund :: tund :: tund :: tund :: tund :: tund :: tund :: tund :: tund :: tund :: tund :: tund :: tund :: [], []⟩
def x60_1_0_k0  (y0 : Int) : St := ⟨tund :: tund :: tund :: tund :: tund :: tund :: .v (.one (.int .i64 y0)) :: tund :: tund :: tund :: tund :: tund :: tund :: tund :: tund :: tund :: tund :: tund :: tund :: tund :: tund :: tund :: tund :: tund :: tund :: tund :: tund :: tund :: tund :: tund :: tund :: tund :: tund :: tund :: tund :: tund :: tund :: tund :: tund :: tund :: tund :: tund :: tund :: tund :: tund :: tund :: tund :: tund :: tund :: [], []⟩
def x60_1_0_k1  (y0 : List Int) (y1 : Int) (y2 : Int) (y3 : Int) (y4 : Int) : St := ⟨.v (.one (.sl 3 (.ints .i64 y0))) :: .v (.one (.int .i64 y1)) :: .v (.one (.int .i64 y2)) :: tund :: tund :: tund :: tund :: .v (.one (.int .i64 y3)) :: .v (.one (.int .i64 y4)) :: tund :: tund :: tund :: tund :: tund :: tund :: tund :: tund :: tund :: tund :: tund :: tund :: tund :: tund :: tund :: tund :: tund :: tund :: tund :: tund :: tund :: tund :: tund :: tund :: tund :: tund :: tund :: tund :: tund :: tund :: tund :: tund :: tund :: tund :: tund :: tund :: tund :: tund :: tund :: tund :: [], []⟩
theorem fl60_0_0 (s : St) : refSt (h60_0_0 [] 0 0 0 0) s = h60_0_0 (rInts (rowV (oneA (vT (nx tund s.tmps 0))))) (intS (oneA (vT (nx tund s.tmps 1)))) (intS (oneA (vT (nx tund s.tmps 2)))) (intS (oneA (vT (nx tund s.tmps 7)))) (intS (oneA (vT (nx tund s.tmps 8)))) := by kernel_rfl
def VLS60_0 (N : Nat) (zq69 : Nat → List Int → Int → Int → Int → Int → (Int → O β) → (Int → O β) → O β) : LSpec β := fun s K => cond (shpSt (h60_0_0 [] 0 0 0 0) s) ((fun (v0 : List Int) (v1 : Int) (v2 : Int) (v3 : Int) (v4 : Int) => zq69  N v0 v1 v2 v3 v4 (fun y0 => K .ret (x60_0_0_k0  y0)) (fun y0 => K (.exit 0) (x60_0_0_k1  y0))) (rInts (rowV (oneA (vT (nx tund s.tmps 0))))) (intS (oneA (vT (nx tund s.tmps 1)))) (intS (oneA (vT (nx tund s.tmps 2)))) (intS (oneA (vT (nx tund s.tmps 7)))) (intS (oneA (vT (nx tund s.tmps 8))))) (none)
def LS60_0 (N : Nat) : LSpec β := VLS60_0 N (zj69 N)
theorem fl60_1_0 (s : St) : refSt (h60_1_0 [] 0 0 0 0 0) s = h60_1_0 (rInts (rowV (oneA (vT (nx tund s.tmps 0))))) (intS (oneA (vT (nx tund s.tmps 1)))) (intS (oneA (vT (nx tund s.tmps 2)))) (intS (oneA (vT (nx tund s.tmps 7)))) (intS (oneA (vT (nx tund s.tmps 8)))) (intS (oneA (vT (nx tund s.tmps 9)))) := by kernel_rfl
def VLS60_2 (N : Nat) (zq67 : Nat → List Int → Int → Int → Int → Int → Int → (Int → O β) → (List Int → Int → Int → Int → Int → O β) → O β) : LSpec β := fun s K => cond (shpSt (h60_1_0 [] 0 0 0 0 0) s) ((fun (v0 : List Int) (v1 : Int) (v2 : Int) (v3 : Int) (v4 : Int) (v5 : Int) => zq67  N v0 v1 v2 v3 v4 v5 (fun y0 => K .ret (x60_1_0_k0  y0)) (fun y0 y1 y2 y3 y4 => K (.exit 2) (x60_1_0_k1  y0 y1 y2 y3 y4))) (rInts (rowV (oneA (vT (nx tund s.tmps 0))))) (intS (oneA (vT (nx tund s.tmps 1)))) (intS (oneA (vT (nx tund s.tmps 2)))) (intS (oneA (vT (nx tund s.tmps 7)))) (intS (oneA (vT (nx tund s.tmps 8)))) (intS (oneA (vT (nx tund s.tmps 9))))) (none)
def LS60_2 (N : Nat) : LSpec β := VLS60_2 N (zj67 N)
def VE60 (N : Nat) (zq69 : Nat → List Int → Int → Int → Int → Int → (Int → O β) → (Int → O β) → O β) (zq67 : Nat → List Int → Int → Int → Int → Int → Int → (Int → O β) → (List Int → Int → Int → Int → Int → O β) → O β) : Env β := ⟨[], [], [(0, VLS60_0 N zq69), (2, VLS60_2 N zq67)], [], ⟨[], [], [], []⟩⟩
def E60 (N : Nat) : Env β := VE60 N (zj69 N) (zj67 N)
def zb68 (N : Nat) (zq67 : Nat → List Int → Int → Int → Int → Int → Int → (Int → O β) → (List Int → Int → Int → Int → Int → O β) → O β)  (v0 : List Int) (v1 : Int) (v2 : Int) (v3 : Int) (v4 : Int) (rec_ : List Int → Int → Int → Int → Int → O β) (k0 : Int → O β) (k1 : Int → O β) : O β :=
(cond ((decide (v4 < (v0.length : Int))))
((gd ((decide (0 ≤ v4)))
((cond (((bits .and .i64 (shrI .i64 v1 v4) 1) == 0))
(rec_ v0 v1 v2 v3 ((w64 (v4 + 1))))
(zq67  N v0 v1 v2 v3 v4 0 (fun e4_0 =>
k0 e4_0) (fun e5_0 e5_1 e5_2 e5_3 e5_4 =>
rec_ e5_0 e5_1 e5_2 e5_3 ((w64 (e5_4 + 1)))))))))
(k1 v3))
theorem zt68 (N : Nat)  (v0 : List Int) (v1 : Int) (v2 : Int) (v3 : Int) (v4 : Int) (rec_ : List Int → Int → Int → Int → Int → O β) (k0 : Int → O β) (k1 : Int → O β) : zj68 N v0 v1 v2 v3 v4 rec_ k0 k1 = zb68 N (zj67 N) v0 v1 v2 v3 v4 rec_ k0 k1 := by
  unfold zj68 zb68
  rfl
theorem vst60_0_0 (N : Nat) (zq69 : Nat → List Int → Int → Int → Int → Int → (Int → O β) → (Int → O β) → O β) (zq67 : Nat → List Int → Int → Int → Int → Int → Int → (Int → O β) → (List Int → Int → Int → Int → Int → O β) → O β)  (v0 : List Int) (v1 : Int) (v2 : Int) (v3 : Int) (v4 : Int) (rec_ : St → O β) (K : Exit → St → O β) :
    ev lay (VE60 N zq69 zq67) (retMask Tryd.f60) (lp Tryd.f60 0).body (lp Tryd.f60 0).ex ((lp Tryd.f60 0).lv (retMask Tryd.f60)) (h60_0_0  v0 v1 v2 v3 v4) (nextR (fun s' => rec_ (s'.tidy ((lp Tryd.f60 0).lv (retMask Tryd.f60)))) K) = zb68 N zq67  v0 v1 v2 v3 v4 (fun v0 v1 v2 v3 v4 => rec_ (h60_0_0  v0 v1 v2 v3 v4)) (fun y0 => K .ret (x60_0_0_k0  y0)) (fun y0 => K (.exit 0) (x60_0_0_k1  y0)) := by kernel_rfl
theorem st60_0_0 (N : Nat)  (v0 : List Int) (v1 : Int) (v2 : Int) (v3 : Int) (v4 : Int) (rec_ : St → O β) (K : Exit → St → O β) :
    ev lay (E60 N) (retMask Tryd.f60) (lp Tryd.f60 0).body (lp Tryd.f60 0).ex ((lp Tryd.f60 0).lv (retMask Tryd.f60)) (h60_0_0  v0 v1 v2 v3 v4) (nextR (fun s' => rec_ (s'.tidy ((lp Tryd.f60 0).lv (retMask Tryd.f60)))) K) = zj68 N  v0 v1 v2 v3 v4 (fun v0 v1 v2 v3 v4 => rec_ (h60_0_0  v0 v1 v2 v3 v4)) (fun y0 => K .ret (x60_0_0_k0  y0)) (fun y0 => K (.exit 0) (x60_0_0_k1  y0)) := (vst60_0_0 N (zj69 N) (zj67 N) v0 v1 v2 v3 v4 rec_ K).trans (zt68 N  v0 v1 v2 v3 v4 (fun v0 v1 v2 v3 v4 => rec_ (h60_0_0  v0 v1 v2 v3 v4)) (fun y0 => K .ret (x60_0_0_k0  y0)) (fun y0 => K (.exit 0) (x60_0_0_k1  y0))).symm
theorem ro60_0_0 (N : Nat)  (K : Exit → St → O β) : ∀ (F : Nat) (v0 : List Int) (v1 : Int) (v2 : Int) (v3 : Int) (v4 : Int), (lp Tryd.f60 0).rounds lay (E60 N) (retMask Tryd.f60) F (h60_0_0  v0 v1 v2 v3 v4) K = zj69 N  F v0 v1 v2 v3 v4 (fun y0 => K .ret (x60_0_0_k0  y0)) (fun y0 => K (.exit 0) (x60_0_0_k1  y0)) := by
  intro F
  induction F with
  | zero => intros; rfl
  | succ F ih =>
    intros
    rw [rounds_next]
    refine (st60_0_0 N  _ _ _ _ _ (fun s => (lp Tryd.f60 0).rounds lay (E60 N) (retMask Tryd.f60) F s K) K).trans ?_
    simp only [ih]
    rfl
theorem lk60_0 (N : Nat) : lookL (E60 (β := β) N).loops (lp Tryd.f60 0).id = LS60_0 N := by kernel_rfl
theorem rk60_0 (N : Nat) : RoundsOK lay (E60 (β := β) N) (retMask Tryd.f60) (lp Tryd.f60 0) := by
  intro s K r h
  rw [lk60_0] at h
  unfold LS60_0 VLS60_0 at h
  cases hb : shpSt (h60_0_0 [] 0 0 0 0) s with
  | true =>
    rw [hb, cond_true] at h
    exact ⟨N, by rw [← shpSt_ref hb, fl60_0_0 s]; exact (ro60_0_0 N  K N (rInts (rowV (oneA (vT (nx tund s.tmps 0))))) (intS (oneA (vT (nx tund s.tmps 1)))) (intS (oneA (vT (nx tund s.tmps 2)))) (intS (oneA (vT (nx tund s.tmps 7)))) (intS (oneA (vT (nx tund s.tmps 8))))).trans h⟩
  | false =>
  rw [hb, cond_false] at h
  clear hb
  cases h
def zb66 (N : Nat)  (v0 : List Int) (v1 : Int) (v2 : Int) (v3 : Int) (v4 : Int) (v5 : Int) (rec_ : List Int → Int → Int → Int → Int → Int → O β) (k0 : Int → O β) (k1 : List Int → Int → Int → Int → Int → O β) : O β :=
(gd ((decide (0 ≤ v5)))
((cond ((decide ((shrI .i64 v2 v5) > 0)))
((gd ((decide (0 ≤ v5)))
((cond (((bits .and .i64 (shrI .i64 v2 v5) 1) == 0))
(rec_ v0 v1 v2 v3 v4 ((w64 (v5 + 1))))
((gd ((decide (0 ≤ v4)))
((gd ((decide (v4 < (v0.length : Int))))
((gd ((decide (0 ≤ v5)))
((cond ((decide (v3 ≥ 0)))
((cond (((bits .and .i64 (shrI .i64 (rd 0 v0 v4) v5) 1) != v3))
(k0 2)
(rec_ v0 v1 v2 ((bits .and .i64 (shrI .i64 (rd 0 v0 v4) v5) 1)) v4 ((w64 (v5 + 1))))))
(rec_ v0 v1 v2 ((bits .and .i64 (shrI .i64 (rd 0 v0 v4) v5) 1)) v4 ((w64 (v5 + 1))))))))))))))))
(k1 v0 v1 v2 v3 v4))))
theorem zt66 (N : Nat)  (v0 : List Int) (v1 : Int) (v2 : Int) (v3 : Int) (v4 : Int) (v5 : Int) (rec_ : List Int → Int → Int → Int → Int → Int → O β) (k0 : Int → O β) (k1 : List Int → Int → Int → Int → Int → O β) : zj66 N v0 v1 v2 v3 v4 v5 rec_ k0 k1 = zb66 N v0 v1 v2 v3 v4 v5 rec_ k0 k1 := by
  unfold zj66 zb66
  rfl
theorem vst60_1_0 (N : Nat) (zq69 : Nat → List Int → Int → Int → Int → Int → (Int → O β) → (Int → O β) → O β) (zq67 : Nat → List Int → Int → Int → Int → Int → Int → (Int → O β) → (List Int → Int → Int → Int → Int → O β) → O β)  (v0 : List Int) (v1 : Int) (v2 : Int) (v3 : Int) (v4 : Int) (v5 : Int) (rec_ : St → O β) (K : Exit → St → O β) :
    ev lay (VE60 N zq69 zq67) (retMask Tryd.f60) (lp Tryd.f60 1).body (lp Tryd.f60 1).ex ((lp Tryd.f60 1).lv (retMask Tryd.f60)) (h60_1_0  v0 v1 v2 v3 v4 v5) (nextR (fun s' => rec_ (s'.tidy ((lp Tryd.f60 1).lv (retMask Tryd.f60)))) K) = zb66 N  v0 v1 v2 v3 v4 v5 (fun v0 v1 v2 v3 v4 v5 => rec_ (h60_1_0  v0 v1 v2 v3 v4 v5)) (fun y0 => K .ret (x60_1_0_k0  y0)) (fun y0 y1 y2 y3 y4 => K (.exit 2) (x60_1_0_k1  y0 y1 y2 y3 y4)) := by kernel_rfl
theorem st60_1_0 (N : Nat)  (v0 : List Int) (v1 : Int) (v2 : Int) (v3 : Int) (v4 : Int) (v5 : Int) (rec_ : St → O β) (K : Exit → St → O β) :
    ev lay (E60 N) (retMask Tryd.f60) (lp Tryd.f60 1).body (lp Tryd.f60 1).ex ((lp Tryd.f60 1).lv (retMask Tryd.f60)) (h60_1_0  v0 v1 v2 v3 v4 v5) (nextR (fun s' => rec_ (s'.tidy ((lp Tryd.f60 1).lv (retMask Tryd.f60)))) K) = zj66 N  v0 v1 v2 v3 v4 v5 (fun v0 v1 v2 v3 v4 v5 => rec_ (h60_1_0  v0 v1 v2 v3 v4 v5)) (fun y0 => K .ret (x60_1_0_k0  y0)) (fun y0 y1 y2 y3 y4 => K (.exit 2) (x60_1_0_k1  y0 y1 y2 y3 y4)) := (vst60_1_0 N (zj69 N) (zj67 N) v0 v1 v2 v3 v4 v5 rec_ K).trans (zt66 N  v0 v1 v2 v3 v4 v5 (fun v0 v1 v2 v3 v4 v5 => rec_ (h60_1_0  v0 v1 v2 v3 v4 v5)) (fun y0 => K .ret (x60_1_0_k0  y0)) (fun y0 y1 y2 y3 y4 => K (.exit 2) (x60_1_0_k1  y0 y1 y2 y3 y4))).symm
theorem ro60_1_0 (N : Nat)  (K : Exit → St → O β) : ∀ (F : Nat) (v0 : List Int) (v1 : Int) (v2 : Int) (v3 : Int) (v4 : Int) (v5 : Int), (lp Tryd.f60 1).rounds lay (E60 N) (retMask Tryd.f60) F (h60_1_0  v0 v1 v2 v3 v4 v5) K = zj67 N  F v0 v1 v2 v3 v4 v5 (fun y0 => K .ret (x60_1_0_k0  y0)) (fun y0 y1 y2 y3 y4 => K (.exit 2) (x60_1_0_k1  y0 y1 y2 y3 y4)) := by
  intro F
  induction F with
  | zero => intros; rfl
  | succ F ih =>
    intros
    rw [rounds_next]
    refine (st60_1_0 N  _ _ _ _ _ _ (fun s => (lp Tryd.f60 1).rounds lay (E60 N) (retMask Tryd.f60) F s K) K).trans ?_
    simp only [ih]
    rfl
theorem lk60_2 (N : Nat) : lookL (E60 (β := β) N).loops (lp Tryd.f60 1).id = LS60_2 N := by kernel_rfl
theorem rk60_2 (N : Nat) : RoundsOK lay (E60 (β := β) N) (retMask Tryd.f60) (lp Tryd.f60 1) := by
  intro s K r h
  rw [lk60_2] at h
  unfold LS60_2 VLS60_2 at h
  cases hb : shpSt (h60_1_0 [] 0 0 0 0 0) s with
  | true =>
    rw [hb, cond_true] at h
    exact ⟨N, by rw [← shpSt_ref hb, fl60_1_0 s]; exact (ro60_1_0 N  K N (rInts (rowV (oneA (vT (nx tund s.tmps 0))))) (intS (oneA (vT (nx tund s.tmps 1)))) (intS (oneA (vT (nx tund s.tmps 2)))) (intS (oneA (vT (nx tund s.tmps 7)))) (intS (oneA (vT (nx tund s.tmps 8)))) (intS (oneA (vT (nx tund s.tmps 9))))).trans h⟩
  | false =>
  rw [hb, cond_false] at h
  clear hb
  cases h
def zb70 (N : Nat) (zq69 : Nat → List Int → Int → Int → Int → Int → (Int → O β) → (Int → O β) → O β) (a0 : List Int) (a1 : Int) (a2 : Int) (k : Int → O β) : O β :=
zq69  N a0 a1 a2 (-1) 0 (fun e6_0 =>
k e6_0) (fun e7_0 =>
k e7_0)
theorem zt70 (N : Nat) (a0 : List Int) (a1 : Int) (a2 : Int) (k : Int → O β) : zj70 N a0 a1 a2 k = zb70 N (zj69 N) a0 a1 a2 k := by
  unfold zj70 zb70
  rfl
theorem ve60_0 (N : Nat) (zq69 : Nat → List Int → Int → Int → Int → Int → (Int → O β) → (Int → O β) → O β) (zq67 : Nat → List Int → Int → Int → Int → Int → Int → (Int → O β) → (List Int → Int → Int → Int → Int → O β) → O β)  (a0 : List Int) (a1 : Int) (a2 : Int) (K : TV → O β) : evFn lay (VE60 N zq69 zq67) Tryd.f60 [.v (.one (.sl 3 (.ints .i64 a0))), .v (.one (.int .i64 a1)), .v (.one (.int .i64 a2))] K = zb70 N zq69 a0 a1 a2 (fun z3 => K (.v (.one (.int .i64 z3)))) := by kernel_rfl
theorem e60_0 (N : Nat)  (a0 : List Int) (a1 : Int) (a2 : Int) (K : TV → O β) : evFn lay (E60 N) Tryd.f60 [.v (.one (.sl 3 (.ints .i64 a0))), .v (.one (.int .i64 a1)), .v (.one (.int .i64 a2))] K = zj70 N a0 a1 a2 (fun z3 => K (.v (.one (.int .i64 z3)))) := (ve60_0 N (zj69 N) (zj67 N) a0 a1 a2 K).trans (zt70 N a0 a1 a2 (fun z3 => K (.v (.one (.int .i64 z3))))).symm
theorem o60 (N : Nat) : SpecOK (β := β) inv Tryd.prog 60 (S60 N) := by
  refine spec_of lay_ok mixed (E := E60 N) (specs_loops specs_nil) muts_nil gs_nil Tryd.func60 (by kernel_rfl) 2 (by kernel_rfl) ⟨⟨trivial, rk60_0 N⟩, rk60_2 N⟩ fun args K r h => ?_
  unfold S60 VS60 at h
  split at h
  · exact (e60_0 N _ _ _ _).trans h
  · cases h
def VSF31 (N : Nat) (zq76 : Nat → List Int → Int → Int → Int → (Int → O β) → O β) (G : Nat) : Rv.Spec β := fun args K => match args with
  | [.v (.one (.sl 3 (.ints .i64 a0))), .v (.one (.int .i64 a1)), .v (.one (.int .i64 a2)), .v (.one (.int .i64 a3))] => zq76 G a0 a1 a2 a3 (fun z4 => K (.v (.one (.int .i64 z4))))
  | _ => none
def SF31 (N : Nat) (G : Nat) : Rv.Spec β := VSF31 N (zj76 N) G
def VS31 (N : Nat) (zq76 : Nat → List Int → Int → Int → Int → (Int → O β) → O β) : Rv.Spec β := VSF31 N zq76 N
def S31 (N : Nat) : Rv.Spec β := SF31 N N
def h31_0_0  (v0 : List Int) (v1 : Int) (v2 : Int) (v3 : Int) (v4 : Int) : St := ⟨.v (.one (.sl 3 (.ints .i64 v0))) :: .v (.one (.int .i64 v1)) :: .v (.one (.int .i64 v2)) :: tund :: tund :: tund :: tund :: tund :: tund :: .v (.one (.int .i64 v3)) :: .v (.one (.int .i64 v4)) :: tund :: tund :: tund :: tund :: tund :: tund :: tund :: tund :: tund :: tund :: tund :: tund :: tund :: tund :: tund :: tund :: tund :: tund :: tund :: tund :: tund :: tund :: tund :: tund :: tund :: tund :: tund :: tund :: tund :: tund :: tund :: tund :: tund :: tund :: tund :: tund :: tund :: tund :: tund :: tund :: tund :: tund :: tund :: tund :: tund :: tund :: tund :: tund :: tund :: tund :: tund :: tund :: tund :: tund :: tund :: tund :: tund :: tund :: tund :: tund :: tund :: tund :: tund :: tund :: tund :: tund :: tund :: tund :: tund :: tund :: tund :: tund :: tund :: tund :: tund :: tund :: tund :: tund :: tund :: tund :: tund :: tund :: tund :: tund :: tund :: tund :: tund :: tund :: tund :: tund :: tund :: tund :: tund :: tund :: tund :: tund :: tund :: tund :: [], []⟩
def x31_0_0_k0  (y0 : Int) : St := ⟨tund :: tund :: tund :: tund :: tund :: tund :: tund :: tund :: .v (.one (.int .i64 y0)) :: tund :: tund :: tund :: tund :: tund :: tund :: tund :: tund :: tund :: tund :: tund :: tund :: tund :: tund :: tund :: tund :: tund :: tund :: tund :: tund :: tund :: tund :: tund :: tund :: tund :: tund :: tund :: tund :: tund :: tund :: tund :: tund :: tund :: tund :: tund :: tund :: tund :: tund :: tund :: tund :: tund :: tund :: tund :: tund :: tund :: tund :: tund :: tund :: tund :: tund :: tund :: tund :: tund :: tund :: tund :: tund :: tund :: tund :: tund :: tund :: tund :: tund :: tund :: tund :: tund :: tund :: tund :: tund :: tund :: tund :: tund :: tund :: tund :: tund :: tund :: tund :: tund :: tund :: tund :: tund :: tund :: tund :: tund :: tund :: tund :: tund :: tund :: tund :: tund :: tund :: tund :: tund :: tund :: tund :: tund :: tund :: tund :: tund :: tund :: tund :: [], []⟩
def x31_0_0_k1  (y0 : List Int) (y1 : Int) (y2 : Int) (y3 : Int) : St := ⟨.v (.one (.sl 3 (.ints .i64 y0))) :: .v (.one (.int .i64 y1)) :: .v (.one (.int .i64 y2)) :: tund :: tund :: tund :: tund :: tund :: tund :: .v (.one (.int .i64 y3)) :: tund :: tund :: tund :: tund :: tund :: tund :: tund :: tund :: tund :: tund :: tund :: tund :: tund :: tund :: tund :: tund :: tund :: tund :: tund :: tund :: tund :: tund :: tund :: tund :: tund :: tund :: tund :: tund :: tund :: tund :: tund :: tund :: tund :: tund :: tund :: tund :: tund :: tund :: tund :: tund :: tund :: tund :: tund :: tund :: tund :: tund :: tund :: tund :: tund :: tund :: tund :: tund :: tund :: tund :: tund :: tund :: tund :: tund :: tund :: tund :: tund :: tund :: tund :: tund :: tund :: tund :: tund :: tund :: tund :: tund :: tund :: tund :: tund :: tund :: tund :: tund :: tund :: tund :: tund :: tund :: tund :: tund :: tund :: tund :: tund :: tund :: tund :: tund :: tund :: tund :: tund :: tund :: tund :: tund :: tund :: tund :: tund :: tund :: tund :: [], []⟩
def h31_1_0  (v0 : List Int) (v1 : Int) (v2 : Int) (v3 : Int) (v4 : Int) : St := ⟨.v (.one (.sl 3 (.ints .i64 v0))) :: .v (.one (.int .i64 v1)) :: .v (.one (.int .i64 v2)) :: tund :: tund :: tund :: tund :: tund :: tund :: .v (.one (.int .i64 v3)) :: tund :: tund :: .v (.one (.int .i64 v4)) :: tund :: tund :: tund :: tund :: tund :: tund :: tund :: tund :: tund :: tund :: tund :: tund :: tund :: tund :: tund :: tund :: tund :: tund :: tund :: tund :: tund :: tund :: tund :: tund :: tund :: tund :: tund :: tund :: tund :: tund :: tund :: tund :: tund :: tund :: tund :: tund :: tund :: tund :: tund :: tund :: tund :: tund :: tund :: tund :: tund :: tund :: tund :: tund :: tund :: tund :: tund :: tund :: tund :: tund :: tund :: tund :: tund :: tund :: tund :: tund :: tund :: tund :: tund :: tund :: tund :: tund :: tund :: tund :: tund :: tund :: tund :: tund :: tund :: tund :: tund :: tund :: tund :: tund :: tund :: tund :: tund :: tund :: tund :: tund :: tund :: tund :: tund :: tund :: tund :: tund :: tund :: tund :: tund :: tund :: tund :: tund :: [], []⟩
def x31_1_0_k0  (y0 : Int) : St := ⟨tund :: tund :: tund :: tund :: tund :: tund :: tund :: tund :: tund :: .v (.one (.int .i64 y0)) :: tund :: tund :: tund :: tund :: tund :: tund :: tund :: tund :: tund :: tund :: tund :: tund :: tund :: tund :: tund :: tund :: tund :: tund :: tund :: tund :: tund :: tund :: tund :: tund :: tund :: tund :: tund :: tund :: tund :: tund :: tund :: tund :: tund :: tund :: tund :: tund :: tund :: tund :: tund :: tund :: tund :: tund :: tund :: tund :: tund :: tund :: tund :: tund :: tund :: tund :: tund :: tund :: tund :: tund :: tund :: tund :: tund :: tund :: tund :: tund :: tund :: tund :: tund :: tund :: tund :: tund :: tund :: tund :: tund :: tund :: tund :: tund :: tund :: tund :: tund :: tund :: tund :: tund :: tund :: tund :: tund :: tund :: tund :: tund :: tund :: tund :: tund :: tund :: tund :: tund :: tund :: tund :: tund :: tund :: tund :: tund :: tund :: tund :: tund :: [], []⟩
theorem fl31_0_0 (s : St) : refSt (h31_0_0 [] 0 0 0 0) s = h31_0_0 (rInts (rowV (oneA (vT (nx tund s.tmps 0))))) (intS (oneA (vT (nx tund s.tmps 1)))) (intS (oneA (vT (nx tund s.tmps 2)))) (intS (oneA (vT (nx tund s.tmps 9)))) (intS (oneA (vT (nx tund s.tmps 10)))) := by kernel_rfl
def VLS31_0 (N : Nat) (zq72 : (self : List Int → Int → Int → Int → (Int → O β) → O β) → Nat → List Int → Int → Int → Int → Int → (Int → O β) → (List Int → Int → Int → Int → O β) → O β) (zq76 : Nat → List Int → Int → Int → Int → (Int → O β) → O β) (G : Nat) : LSpec β := fun s K => cond (shpSt (h31_0_0 [] 0 0 0 0) s) ((fun (v0 : List Int) (v1 : Int) (v2 : Int) (v3 : Int) (v4 : Int) => zq72 (zq76 G)  N v0 v1 v2 v3 v4 (fun y0 => K .ret (x31_0_0_k0  y0)) (fun y0 y1 y2 y3 => K (.exit 0) (x31_0_0_k1  y0 y1 y2 y3))) (rInts (rowV (oneA (vT (nx tund s.tmps 0))))) (intS (oneA (vT (nx tund s.tmps 1)))) (intS (oneA (vT (nx tund s.tmps 2)))) (intS (oneA (vT (nx tund s.tmps 9)))) (intS (oneA (vT (nx tund s.tmps 10))))) (none)
def LS31_0 (N : Nat) (G : Nat) : LSpec β := VLS31_0 N (zj72 N) (zj76 N) G
theorem fl31_1_0 (s : St) : refSt (h31_1_0 [] 0 0 0 0) s = h31_1_0 (rInts (rowV (oneA (vT (nx tund s.tmps 0))))) (intS (oneA (vT (nx tund s.tmps 1)))) (intS (oneA (vT (nx tund s.tmps 2)))) (intS (oneA (vT (nx tund s.tmps 9)))) (intS (oneA (vT (nx tund s.tmps 12)))) := by kernel_rfl
def VLS31_2 (N : Nat) (zq74 : (self : List Int → Int → Int → Int → (Int → O β) → O β) → Nat → List Int → Int → Int → Int → Int → (Int → O β) → O β) (zq76 : Nat → List Int → Int → Int → Int → (Int → O β) → O β) (G : Nat) : LSpec β := fun s K => cond (shpSt (h31_1_0 [] 0 0 0 0) s) ((fun (v0 : List Int) (v1 : Int) (v2 : Int) (v3 : Int) (v4 : Int) => zq74 (zq76 G)  N v0 v1 v2 v3 v4 (fun y0 => K (.exit 2) (x31_1_0_k0  y0))) (rInts (rowV (oneA (vT (nx tund s.tmps 0))))) (intS (oneA (vT (nx tund s.tmps 1)))) (intS (oneA (vT (nx tund s.tmps 2)))) (intS (oneA (vT (nx tund s.tmps 9)))) (intS (oneA (vT (nx tund s.tmps 12))))) (none)
def LS31_2 (N : Nat) (G : Nat) : LSpec β := VLS31_2 N (zj74 N) (zj76 N) G
def VE31 (N : Nat) (zq70 : (a0 : List Int) → (a1 : Int) → (a2 : Int) → (k : Int → O β) → O β) (zq76 : Nat → List Int → Int → Int → Int → (Int → O β) → O β) (zq72 : (self : List Int → Int → Int → Int → (Int → O β) → O β) → Nat → List Int → Int → Int → Int → Int → (Int → O β) → (List Int → Int → Int → Int → O β) → O β) (zq74 : (self : List Int → Int → Int → Int → (Int → O β) → O β) → Nat → List Int → Int → Int → Int → Int → (Int → O β) → O β) (G : Nat) : Env β := ⟨[(60, VS60 N zq70), (31, VSF31 N zq76 G)], [], [(0, VLS31_0 N zq72 zq76 G), (2, VLS31_2 N zq74 zq76 G)], [], ⟨[], [], [], []⟩⟩
def E31 (N : Nat) (G : Nat) : Env β := VE31 N (zj70 N) (zj76 N) (zj72 N) (zj74 N) G
def zb71 (N : Nat) (self : List Int → Int → Int → Int → (Int → O β) → O β)  (v0 : List Int) (v1 : Int) (v2 : Int) (v3 : Int) (v4 : Int) (rec_ : List Int → Int → Int → Int → Int → O β) (k0 : Int → O β) (k1 : List Int → Int → Int → Int → O β) : O β :=
(cond ((decide (v4 > 0)))
((cond ((decide (v4 < (w64 (v1 - v4)))))
(rec_ v0 v1 v2 v3 ((bits .and .i64 (w64 (v4 - 1)) v1)))
(self v0 v4 v2 ((w64 (v3 - 2))) fun r6 =>
(cond ((decide ((w64 (1 + r6)) < v3)))
(self v0 ((w64 (v1 - v4))) v2 ((w64 (v3 - 2))) fun r7 =>
(cond (((mnI v3 (mxI (w64 (1 + r6)) (w64 (1 + r7)))) == 1))
(k0 ((mnI v3 (mxI (w64 (1 + r6)) (w64 (1 + r7))))))
(rec_ v0 v1 v2 ((mnI v3 (mxI (w64 (1 + r6)) (w64 (1 + r7))))) ((bits .and .i64 (w64 (v4 - 1)) v1)))))
((cond ((v3 == 1))
(k0 v3)
(rec_ v0 v1 v2 v3 ((bits .and .i64 (w64 (v4 - 1)) v1)))))))))
(k1 v0 v1 v2 v3))
theorem zt71 (N : Nat) (self : List Int → Int → Int → Int → (Int → O β) → O β)  (v0 : List Int) (v1 : Int) (v2 : Int) (v3 : Int) (v4 : Int) (rec_ : List Int → Int → Int → Int → Int → O β) (k0 : Int → O β) (k1 : List Int → Int → Int → Int → O β) : zj71 N self v0 v1 v2 v3 v4 rec_ k0 k1 = zb71 N self v0 v1 v2 v3 v4 rec_ k0 k1 := by
  unfold zj71 zb71
  rfl
theorem vst31_0_0 (N : Nat) (zq70 : (a0 : List Int) → (a1 : Int) → (a2 : Int) → (k : Int → O β) → O β) (zq76 : Nat → List Int → Int → Int → Int → (Int → O β) → O β) (zq72 : (self : List Int → Int → Int → Int → (Int → O β) → O β) → Nat → List Int → Int → Int → Int → Int → (Int → O β) → (List Int → Int → Int → Int → O β) → O β) (zq74 : (self : List Int → Int → Int → Int → (Int → O β) → O β) → Nat → List Int → Int → Int → Int → Int → (Int → O β) → O β) (G : Nat)  (v0 : List Int) (v1 : Int) (v2 : Int) (v3 : Int) (v4 : Int) (rec_ : St → O β) (K : Exit → St → O β) :
    ev lay (VE31 N zq70 zq76 zq72 zq74 G) (retMask Tryd.f31) (lp Tryd.f31 0).body (lp Tryd.f31 0).ex ((lp Tryd.f31 0).lv (retMask Tryd.f31)) (h31_0_0  v0 v1 v2 v3 v4) (nextR (fun s' => rec_ (s'.tidy ((lp Tryd.f31 0).lv (retMask Tryd.f31)))) K) = zb71 N (zq76 G)  v0 v1 v2 v3 v4 (fun v0 v1 v2 v3 v4 => rec_ (h31_0_0  v0 v1 v2 v3 v4)) (fun y0 => K .ret (x31_0_0_k0  y0)) (fun y0 y1 y2 y3 => K (.exit 0) (x31_0_0_k1  y0 y1 y2 y3)) := by kernel_rfl
theorem st31_0_0 (N : Nat) (G : Nat)  (v0 : List Int) (v1 : Int) (v2 : Int) (v3 : Int) (v4 : Int) (rec_ : St → O β) (K : Exit → St → O β) :
    ev lay (E31 N G) (retMask Tryd.f31) (lp Tryd.f31 0).body (lp Tryd.f31 0).ex ((lp Tryd.f31 0).lv (retMask Tryd.f31)) (h31_0_0  v0 v1 v2 v3 v4) (nextR (fun s' => rec_ (s'.tidy ((lp Tryd.f31 0).lv (retMask Tryd.f31)))) K) = zj71 N (zj76 N G)  v0 v1 v2 v3 v4 (fun v0 v1 v2 v3 v4 => rec_ (h31_0_0  v0 v1 v2 v3 v4)) (fun y0 => K .ret (x31_0_0_k0  y0)) (fun y0 y1 y2 y3 => K (.exit 0) (x31_0_0_k1  y0 y1 y2 y3)) := (vst31_0_0 N (zj70 N) (zj76 N) (zj72 N) (zj74 N) G v0 v1 v2 v3 v4 rec_ K).trans (zt71 N (zj76 N G)  v0 v1 v2 v3 v4 (fun v0 v1 v2 v3 v4 => rec_ (h31_0_0  v0 v1 v2 v3 v4)) (fun y0 => K .ret (x31_0_0_k0  y0)) (fun y0 y1 y2 y3 => K (.exit 0) (x31_0_0_k1  y0 y1 y2 y3))).symm
theorem ro31_0_0 (N : Nat) (G : Nat)  (K : Exit → St → O β) : ∀ (F : Nat) (v0 : List Int) (v1 : Int) (v2 : Int) (v3 : Int) (v4 : Int), (lp Tryd.f31 0).rounds lay (E31 N G) (retMask Tryd.f31) F (h31_0_0  v0 v1 v2 v3 v4) K = zj72 N (zj76 N G)  F v0 v1 v2 v3 v4 (fun y0 => K .ret (x31_0_0_k0  y0)) (fun y0 y1 y2 y3 => K (.exit 0) (x31_0_0_k1  y0 y1 y2 y3)) := by
  intro F
  induction F with
  | zero => intros; rfl
  | succ F ih =>
    intros
    rw [rounds_next]
    refine (st31_0_0 N G  _ _ _ _ _ (fun s => (lp Tryd.f31 0).rounds lay (E31 N G) (retMask Tryd.f31) F s K) K).trans ?_
    simp only [ih]
    rfl
theorem lk31_0 (N : Nat) (G : Nat) : lookL (E31 (β := β) N G).loops (lp Tryd.f31 0).id = LS31_0 N G := by kernel_rfl
theorem rk31_0 (N : Nat) (G : Nat) : RoundsOK lay (E31 (β := β) N G) (retMask Tryd.f31) (lp Tryd.f31 0) := by
  intro s K r h
  rw [lk31_0] at h
  unfold LS31_0 VLS31_0 at h
  cases hb : shpSt (h31_0_0 [] 0 0 0 0) s with
  | true =>
    rw [hb, cond_true] at h
    exact ⟨N, by rw [← shpSt_ref hb, fl31_0_0 s]; exact (ro31_0_0 N G  K N (rInts (rowV (oneA (vT (nx tund s.tmps 0))))) (intS (oneA (vT (nx tund s.tmps 1)))) (intS (oneA (vT (nx tund s.tmps 2)))) (intS (oneA (vT (nx tund s.tmps 9)))) (intS (oneA (vT (nx tund s.tmps 10))))).trans h⟩
  | false =>
  rw [hb, cond_false] at h
  clear hb
  cases h
def zb73 (N : Nat) (self : List Int → Int → Int → Int → (Int → O β) → O β)  (v0 : List Int) (v1 : Int) (v2 : Int) (v3 : Int) (v4 : Int) (rec_ : List Int → Int → Int → Int → Int → O β) (k0 : Int → O β) : O β :=
(cond ((decide (v4 > 0)))
((cond ((decide (v4 < (w64 (v2 - v4)))))
(rec_ v0 v1 v2 v3 ((bits .and .i64 (w64 (v4 - 1)) v2)))
((cond ((v3 == 1))
(rec_ v0 v1 v2 v3 ((bits .and .i64 (w64 (v4 - 1)) v2)))
(self v0 v1 v4 ((w64 (v3 - 2))) fun r10 =>
(cond ((decide ((w64 (1 + r10)) < v3)))
(self v0 v1 ((w64 (v2 - v4))) ((w64 (v3 - 2))) fun r11 =>
rec_ v0 v1 v2 ((mnI v3 (mxI (w64 (1 + r10)) (w64 (1 + r11))))) ((bits .and .i64 (w64 (v4 - 1)) v2)))
(rec_ v0 v1 v2 v3 ((bits .and .i64 (w64 (v4 - 1)) v2)))))))))
(k0 v3))
theorem zt73 (N : Nat) (self : List Int → Int → Int → Int → (Int → O β) → O β)  (v0 : List Int) (v1 : Int) (v2 : Int) (v3 : Int) (v4 : Int) (rec_ : List Int → Int → Int → Int → Int → O β) (k0 : Int → O β) : zj73 N self v0 v1 v2 v3 v4 rec_ k0 = zb73 N self v0 v1 v2 v3 v4 rec_ k0 := by
  unfold zj73 zb73
  rfl
theorem vst31_1_0 (N : Nat) (zq70 : (a0 : List Int) → (a1 : Int) → (a2 : Int) → (k : Int → O β) → O β) (zq76 : Nat → List Int → Int → Int → Int → (Int → O β) → O β) (zq72 : (self : List Int → Int → Int → Int → (Int → O β) → O β) → Nat → List Int → Int → Int → Int → Int → (Int → O β) → (List Int → Int → Int → Int → O β) → O β) (zq74 : (self : List Int → Int → Int → Int → (Int → O β) → O β) → Nat → List Int → Int → Int → Int → Int → (Int → O β) → O β) (G : Nat)  (v0 : List Int) (v1 : Int) (v2 : Int) (v3 : Int) (v4 : Int) (rec_ : St → O β) (K : Exit → St → O β) :
    ev lay (VE31 N zq70 zq76 zq72 zq74 G) (retMask Tryd.f31) (lp Tryd.f31 1).body (lp Tryd.f31 1).ex ((lp Tryd.f31 1).lv (retMask Tryd.f31)) (h31_1_0  v0 v1 v2 v3 v4) (nextR (fun s' => rec_ (s'.tidy ((lp Tryd.f31 1).lv (retMask Tryd.f31)))) K) = zb73 N (zq76 G)  v0 v1 v2 v3 v4 (fun v0 v1 v2 v3 v4 => rec_ (h31_1_0  v0 v1 v2 v3 v4)) (fun y0 => K (.exit 2) (x31_1_0_k0  y0)) := by kernel_rfl
theorem st31_1_0 (N : Nat) (G : Nat)  (v0 : List Int) (v1 : Int) (v2 : Int) (v3 : Int) (v4 : Int) (rec_ : St → O β) (K : Exit → St → O β) :
    ev lay (E31 N G) (retMask Tryd.f31) (lp Tryd.f31 1).body (lp Tryd.f31 1).ex ((lp Tryd.f31 1).lv (retMask Tryd.f31)) (h31_1_0  v0 v1 v2 v3 v4) (nextR (fun s' => rec_ (s'.tidy ((lp Tryd.f31 1).lv (retMask Tryd.f31)))) K) = zj73 N (zj76 N G)  v0 v1 v2 v3 v4 (fun v0 v1 v2 v3 v4 => rec_ (h31_1_0  v0 v1 v2 v3 v4)) (fun y0 => K (.exit 2) (x31_1_0_k0  y0)) := (vst31_1_0 N (zj70 N) (zj76 N) (zj72 N) (zj74 N) G v0 v1 v2 v3 v4 rec_ K).trans (zt73 N (zj76 N G)  v0 v1 v2 v3 v4 (fun v0 v1 v2 v3 v4 => rec_ (h31_1_0  v0 v1 v2 v3 v4)) (fun y0 => K (.exit 2) (x31_1_0_k0  y0))).symm
theorem ro31_1_0 (N : Nat) (G : Nat)  (K : Exit → St → O β) : ∀ (F : Nat) (v0 : List Int) (v1 : Int) (v2 : Int) (v3 : Int) (v4 : Int), (lp Tryd.f31 1).rounds lay (E31 N G) (retMask Tryd.f31) F (h31_1_0  v0 v1 v2 v3 v4) K = zj74 N (zj76 N G)  F v0 v1 v2 v3 v4 (fun y0 => K (.exit 2) (x31_1_0_k0  y0)) := by
  intro F
  induction F with
  | zero => intros; rfl
  | succ F ih =>
    intros
    rw [rounds_next]
    refine (st31_1_0 N G  _ _ _ _ _ (fun s => (lp Tryd.f31 1).rounds lay (E31 N G) (retMask Tryd.f31) F s K) K).trans ?_
    simp only [ih]
    rfl
theorem lk31_2 (N : Nat) (G : Nat) : lookL (E31 (β := β) N G).loops (lp Tryd.f31 1).id = LS31_2 N G := by kernel_rfl
theorem rk31_2 (N : Nat) (G : Nat) : RoundsOK lay (E31 (β := β) N G) (retMask Tryd.f31) (lp Tryd.f31 1) := by
  intro s K r h
  rw [lk31_2] at h
  unfold LS31_2 VLS31_2 at h
  cases hb : shpSt (h31_1_0 [] 0 0 0 0) s with
  | true =>
    rw [hb, cond_true] at h
    exact ⟨N, by rw [← shpSt_ref hb, fl31_1_0 s]; exact (ro31_1_0 N G  K N (rInts (rowV (oneA (vT (nx tund s.tmps 0))))) (intS (oneA (vT (nx tund s.tmps 1)))) (intS (oneA (vT (nx tund s.tmps 2)))) (intS (oneA (vT (nx tund s.tmps 9)))) (intS (oneA (vT (nx tund s.tmps 12))))).trans h⟩
  | false =>
  rw [hb, cond_false] at h
  clear hb
  cases h
def zb75 (N : Nat) (zq70 : (a0 : List Int) → (a1 : Int) → (a2 : Int) → (k : Int → O β) → O β) (zq72 : (self : List Int → Int → Int → Int → (Int → O β) → O β) → Nat → List Int → Int → Int → Int → Int → (Int → O β) → (List Int → Int → Int → Int → O β) → O β) (zq74 : (self : List Int → Int → Int → Int → (Int → O β) → O β) → Nat → List Int → Int → Int → Int → Int → (Int → O β) → O β) (self : List Int → Int → Int → Int → (Int → O β) → O β) (a0 : List Int) (a1 : Int) (a2 : Int) (a3 : Int) (k : Int → O β) : O β :=
zq70 a0 a1 a2 fun r5 =>
(cond ((decide (r5 < 2)))
(k 0)
((cond ((a3 == 0))
(k 1)
(zq72 self  N a0 a1 a2 ((w64 (a3 + 1))) ((bits .and .i64 (w64 (a1 - 1)) a1)) (fun e8_0 =>
k e8_0) (fun e9_0 e9_1 e9_2 e9_3 =>
zq74 self  N e9_0 e9_1 e9_2 e9_3 ((bits .and .i64 (w64 (e9_2 - 1)) e9_2)) (fun e12_0 =>
k e12_0))))))
theorem zt75 (N : Nat) (self : List Int → Int → Int → Int → (Int → O β) → O β) (a0 : List Int) (a1 : Int) (a2 : Int) (a3 : Int) (k : Int → O β) : zj75 N self a0 a1 a2 a3 k = zb75 N (zj70 N) (zj72 N) (zj74 N) self a0 a1 a2 a3 k := by
  unfold zj75 zb75
  rfl
theorem ve31_0 (N : Nat) (zq70 : (a0 : List Int) → (a1 : Int) → (a2 : Int) → (k : Int → O β) → O β) (zq76 : Nat → List Int → Int → Int → Int → (Int → O β) → O β) (zq72 : (self : List Int → Int → Int → Int → (Int → O β) → O β) → Nat → List Int → Int → Int → Int → Int → (Int → O β) → (List Int → Int → Int → Int → O β) → O β) (zq74 : (self : List Int → Int → Int → Int → (Int → O β) → O β) → Nat → List Int → Int → Int → Int → Int → (Int → O β) → O β) (G : Nat)  (a0 : List Int) (a1 : Int) (a2 : Int) (a3 : Int) (K : TV → O β) : evFn lay (VE31 N zq70 zq76 zq72 zq74 G) Tryd.f31 [.v (.one (.sl 3 (.ints .i64 a0))), .v (.one (.int .i64 a1)), .v (.one (.int .i64 a2)), .v (.one (.int .i64 a3))] K = zb75 N zq70 zq72 zq74 (zq76 G) a0 a1 a2 a3 (fun z4 => K (.v (.one (.int .i64 z4)))) := by kernel_rfl
theorem e31_0 (N : Nat) (G : Nat)  (a0 : List Int) (a1 : Int) (a2 : Int) (a3 : Int) (K : TV → O β) : evFn lay (E31 N G) Tryd.f31 [.v (.one (.sl 3 (.ints .i64 a0))), .v (.one (.int .i64 a1)), .v (.one (.int .i64 a2)), .v (.one (.int .i64 a3))] K = zj76 N (G + 1) a0 a1 a2 a3 (fun z4 => K (.v (.one (.int .i64 z4)))) := (ve31_0 N (zj70 N) (zj76 N) (zj72 N) (zj74 N) G a0 a1 a2 a3 K).trans (zt75 N (zj76 N G) a0 a1 a2 a3 (fun z4 => K (.v (.one (.int .i64 z4))))).symm
theorem z31 (N : Nat) : ∀ args K r, SF31 (β := β) N 0 args K = some r → (none : O β) = some r := by
  intro args K r h
  unfold SF31 VSF31 at h
  split at h <;> exact h
theorem of31 (N : Nat) : ∀ G, SpecOK (β := β) inv Tryd.prog 31 (SF31 N G) := by
  intro G
  induction G with
  | zero => exact s_zero Tryd.func31 (by kernel_rfl) (z31 N)
  | succ G ih =>
    refine spec_of lay_ok mixed (E := E31 N G) (specs_loops (specs_cons (o60 N) (specs_cons ih specs_nil))) muts_nil gs_nil Tryd.func31 (by kernel_rfl) 2 (by kernel_rfl) ⟨⟨trivial, rk31_0 N G⟩, rk31_2 N G⟩ fun args K r h => ?_
    unfold SF31 VSF31 at h
    split at h
    · exact (e31_0 N G _ _ _ _ _).trans h
    · cases h
theorem o31 (N : Nat) : SpecOK (β := β) inv Tryd.prog 31 (S31 N) := of31 N N
end Go.Proofs.YtddflpokemgnmaaDoor
