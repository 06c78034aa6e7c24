/- The functions that the claims reach answer as their texts do. -/
import Derived.Test.YtddflpokemgnmaaGreatDoorE6
namespace Go.Proofs.YtddflpokemgnmaaGreatDoor
open Go.Rv
set_option maxRecDepth 100000
set_option maxHeartbeats 2000000
set_option linter.unusedVariables false
variable {β : Type}
def VS15 (N : Nat) (zq124 : (a0 : Int) → (a1 : List (Int × Int)) → (a2 : Int) → (a3 : Int) → (k : Bool → O β) → O β) : Rv.Spec β := fun args K => match args with
  | [.v (.one (.int .i64 a0)), .v (.one (.sl 50 (.pairs a1))), .v (.one (.int .i64 a2)), .v (.one (.int .i64 a3))] => zq124 a0 a1 a2 a3 (fun z4 => K (.v (.one (.bool z4))))
  | _ => none
def S15 (N : Nat) : Rv.Spec β := VS15 N (zj124 N)
def VE15 (N : Nat) (zq64 : (a0 : Int) → (a1 : List (Int × Int)) → (k : Bool → O β) → O β) (zq54 : (a0 : Int) → (a1 : Int) → (k : Bool → O β) → O β) (zq67 : (a0 : List (Int × Int)) → (a1 : Int) → (a2 : Int) → (k : Bool → O β) → O β) : Env β := ⟨[(25, VS25 N zq64), (36, VS36 N zq54), (28, VS28 N zq67)], [], [], [], ⟨[], [], [], []⟩⟩
def E15 (N : Nat) : Env β := VE15 N (zj64 N) (zj54 N) (zj67 N)
def zb124 (N : Nat) (zq64 : (a0 : Int) → (a1 : List (Int × Int)) → (k : Bool → O β) → O β) (zq54 : (a0 : Int) → (a1 : Int) → (k : Bool → O β) → O β) (zq67 : (a0 : List (Int × Int)) → (a1 : Int) → (a2 : Int) → (k : Bool → O β) → O β) (a0 : Int) (a1 : List (Int × Int)) (a2 : Int) (a3 : Int) (k : Bool → O β) : O β :=
zq64 a0 a1 fun r5 =>
(cond r5
(zq54 a0 a2 fun r6 =>
(cond r6
((cond ((decide (a3 ≥ 0)))
((cond ((decide (a3 < a0)))
((gd ((decide (0 ≤ a3)))
(zq67 a1 a2 ((bits .xor .i64 a2 (shlI .i64 1 a3))) fun r7 =>
k r7)))
(k false)))
(k false)))
(k false)))
(k false))
theorem zt124 (N : Nat) (a0 : Int) (a1 : List (Int × Int)) (a2 : Int) (a3 : Int) (k : Bool → O β) : zj124 N a0 a1 a2 a3 k = zb124 N (zj64 N) (zj54 N) (zj67 N) a0 a1 a2 a3 k := by
  unfold zj124 zb124
  rfl
theorem ve15_0 (N : Nat) (zq64 : (a0 : Int) → (a1 : List (Int × Int)) → (k : Bool → O β) → O β) (zq54 : (a0 : Int) → (a1 : Int) → (k : Bool → O β) → O β) (zq67 : (a0 : List (Int × Int)) → (a1 : Int) → (a2 : Int) → (k : Bool → O β) → O β)  (a0 : Int) (a1 : List (Int × Int)) (a2 : Int) (a3 : Int) (K : TV → O β) : evFn lay (VE15 N zq64 zq54 zq67) Tryz.f15 [.v (.one (.int .i64 a0)), .v (.one (.sl 50 (.pairs a1))), .v (.one (.int .i64 a2)), .v (.one (.int .i64 a3))] K = zb124 N zq64 zq54 zq67 a0 a1 a2 a3 (fun z4 => K (.v (.one (.bool z4)))) := by kernel_rfl
theorem e15_0 (N : Nat)  (a0 : Int) (a1 : List (Int × Int)) (a2 : Int) (a3 : Int) (K : TV → O β) : evFn lay (E15 N) Tryz.f15 [.v (.one (.int .i64 a0)), .v (.one (.sl 50 (.pairs a1))), .v (.one (.int .i64 a2)), .v (.one (.int .i64 a3))] K = zj124 N a0 a1 a2 a3 (fun z4 => K (.v (.one (.bool z4)))) := (ve15_0 N (zj64 N) (zj54 N) (zj67 N) a0 a1 a2 a3 K).trans (zt124 N a0 a1 a2 a3 (fun z4 => K (.v (.one (.bool z4))))).symm
theorem o15 (N : Nat) : SpecOK (β := β) inv Tryz.prog 15 (S15 N) := by
  refine spec_of lay_ok mixed (E := E15 N) (specs_loops (specs_cons (o25 N) (specs_cons (o36 N) (specs_cons (o28 N) specs_nil)))) muts_nil gs_nil Tryz.func15 (by kernel_rfl) 0 (by kernel_rfl) trivial fun args K r h => ?_
  unfold S15 VS15 at h
  split at h
  · exact (e15_0 N _ _ _ _ _).trans h
  · cases h
def VS62 (N : Nat) (zq127 : (a0 : Int) → (a1 : Int) → (a2 : Int) → (k : ByteArray → O β) → O β) : Rv.Spec β := fun args K => match args with
  | [.v (.one (.int .i64 a0)), .v (.agg [.int .i64 a1, .int .i64 a2])] => zq127 a0 a1 a2 (fun z3 => K (.v (.one (.str z3))))
  | _ => none
def S62 (N : Nat) : Rv.Spec β := VS62 N (zj127 N)
def h62_0_0  (v0 : Int) (v1 : Int) (v2 : Int) (v3 : Int) (v4 : List Int) : St := ⟨tund :: tund :: tund :: .v (.one (.ptr 0 0)) :: tund :: .v (.one (.row 1)) :: tund :: tund :: tund :: tund :: tund :: .v (.one (.int .i64 v0)) :: .v (.one (.int .i64 v1)) :: tund :: tund :: tund :: tund :: tund :: tund :: tund :: tund :: tund :: tund :: tund :: tund :: tund :: tund :: tund :: tund :: tund :: tund :: tund :: tund :: tund :: tund :: tund :: tund :: tund :: tund :: tund :: tund :: tund :: [], [.cells 50 [.int .i64 v2, .int .i64 v3], .row 5 (.ints .u8 v4)]⟩
def x62_0_0_k0  (y0 : List Int) : St := ⟨tund :: tund :: tund :: tund :: tund :: .v (.one (.row 0)) :: tund :: tund :: tund :: tund :: tund :: tund :: tund :: tund :: tund :: tund :: tund :: tund :: tund :: tund :: tund :: tund :: tund :: tund :: tund :: tund :: tund :: tund :: tund :: tund :: tund :: tund :: tund :: tund :: tund :: tund :: tund :: tund :: tund :: tund :: tund :: tund :: [], [.row 5 (.ints .u8 y0)]⟩
theorem fl62_0_0 (s : St) : refSt (h62_0_0 0 0 0 0 []) s = h62_0_0 (intS (oneA (vT (nx tund s.tmps 11)))) (intS (oneA (vT (nx tund s.tmps 12)))) (intS (nx .und (cellsB (nx .dead s.blks 0)) 0)) (intS (nx .und (cellsB (nx .dead s.blks 0)) 1)) (rInts (rowB_ (nx .dead s.blks 1))) := by kernel_rfl
def VLS62_0 (N : Nat) (zq126 : Nat → Int → Int → Int → Int → List Int → (List Int → O β) → O β) : LSpec β := fun s K => cond (shpSt (h62_0_0 0 0 0 0 []) s) ((fun (v0 : Int) (v1 : Int) (v2 : Int) (v3 : Int) (v4 : List Int) => zq126  N v0 v1 v2 v3 v4 (fun y0 => K (.exit 0) (x62_0_0_k0  y0))) (intS (oneA (vT (nx tund s.tmps 11)))) (intS (oneA (vT (nx tund s.tmps 12)))) (intS (nx .und (cellsB (nx .dead s.blks 0)) 0)) (intS (nx .und (cellsB (nx .dead s.blks 0)) 1)) (rInts (rowB_ (nx .dead s.blks 1)))) (none)
def LS62_0 (N : Nat) : LSpec β := VLS62_0 N (zj126 N)
def VE62 (N : Nat) (zq55 : (a0 : Int) → (a1 : Int) → (a2 : Int) → (k : Bool → O β) → O β) (zq126 : Nat → Int → Int → Int → Int → List Int → (List Int → O β) → O β) : Env β := ⟨[(53, VS53 N zq55)], [], [(0, VLS62_0 N zq126)], [], ⟨[], [], [], []⟩⟩
def E62 (N : Nat) : Env β := VE62 N (zj55 N) (zj126 N)
def zb125 (N : Nat)  (v0 : Int) (v1 : Int) (v2 : Int) (v3 : Int) (v4 : List Int) (rec_ : Int → Int → Int → Int → List Int → O β) (k0 : List Int → O β) : O β :=
(cond ((decide (v1 < v0)))
((gd ((decide (0 ≤ v1)))
((cond (((bits .and .i64 (shrI .i64 v2 v1) 1) == 0))
(rec_ v0 ((w64 (v1 + 1))) v2 v3 v4)
((gd ((decide (0 ≤ v1)))
((cond (((bits .and .i64 (shrI .i64 v3 v1) 1) == 0))
((gd ((decide ((v4.length + ((([] : List Int) ++ [33])).length) * 1 ≤ 140737488355328)))
((gd ((decide ((((v4 ++ (([] : List Int) ++ [33]))).length + ((([] : List Int) ++ [(w8 (97 + (w8 (v1))))])).length) * 1 ≤ 140737488355328)))
(rec_ v0 ((w64 (v1 + 1))) v2 v3 (((v4 ++ (([] : List Int) ++ [33])) ++ (([] : List Int) ++ [(w8 (97 + (w8 (v1))))]))))))))
((gd ((decide ((v4.length + ((([] : List Int) ++ [(w8 (97 + (w8 (v1))))])).length) * 1 ≤ 140737488355328)))
(rec_ v0 ((w64 (v1 + 1))) v2 v3 ((v4 ++ (([] : List Int) ++ [(w8 (97 + (w8 (v1))))]))))))))))))))
(k0 v4))
theorem zt125 (N : Nat)  (v0 : Int) (v1 : Int) (v2 : Int) (v3 : Int) (v4 : List Int) (rec_ : Int → Int → Int → Int → List Int → O β) (k0 : List Int → O β) : zj125 N v0 v1 v2 v3 v4 rec_ k0 = zb125 N v0 v1 v2 v3 v4 rec_ k0 := by
  unfold zj125 zb125
  rfl
theorem vst62_0_0 (N : Nat) (zq55 : (a0 : Int) → (a1 : Int) → (a2 : Int) → (k : Bool → O β) → O β) (zq126 : Nat → Int → Int → Int → Int → List Int → (List Int → O β) → O β)  (v0 : Int) (v1 : Int) (v2 : Int) (v3 : Int) (v4 : List Int) (rec_ : St → O β) (K : Exit → St → O β) :
    ev lay (VE62 N zq55 zq126) (retMask Tryz.f62) (lp Tryz.f62 0).body (lp Tryz.f62 0).ex ((lp Tryz.f62 0).lv (retMask Tryz.f62)) (h62_0_0  v0 v1 v2 v3 v4) (nextR (fun s' => rec_ (s'.tidy ((lp Tryz.f62 0).lv (retMask Tryz.f62)))) K) = zb125 N  v0 v1 v2 v3 v4 (fun v0 v1 v2 v3 v4 => rec_ (h62_0_0  v0 v1 v2 v3 v4)) (fun y0 => K (.exit 0) (x62_0_0_k0  y0)) := by kernel_rfl
theorem st62_0_0 (N : Nat)  (v0 : Int) (v1 : Int) (v2 : Int) (v3 : Int) (v4 : List Int) (rec_ : St → O β) (K : Exit → St → O β) :
    ev lay (E62 N) (retMask Tryz.f62) (lp Tryz.f62 0).body (lp Tryz.f62 0).ex ((lp Tryz.f62 0).lv (retMask Tryz.f62)) (h62_0_0  v0 v1 v2 v3 v4) (nextR (fun s' => rec_ (s'.tidy ((lp Tryz.f62 0).lv (retMask Tryz.f62)))) K) = zj125 N  v0 v1 v2 v3 v4 (fun v0 v1 v2 v3 v4 => rec_ (h62_0_0  v0 v1 v2 v3 v4)) (fun y0 => K (.exit 0) (x62_0_0_k0  y0)) := (vst62_0_0 N (zj55 N) (zj126 N) v0 v1 v2 v3 v4 rec_ K).trans (zt125 N  v0 v1 v2 v3 v4 (fun v0 v1 v2 v3 v4 => rec_ (h62_0_0  v0 v1 v2 v3 v4)) (fun y0 => K (.exit 0) (x62_0_0_k0  y0))).symm
theorem ro62_0_0 (N : Nat)  (K : Exit → St → O β) : ∀ (F : Nat) (v0 : Int) (v1 : Int) (v2 : Int) (v3 : Int) (v4 : List Int), (lp Tryz.f62 0).rounds lay (E62 N) (retMask Tryz.f62) F (h62_0_0  v0 v1 v2 v3 v4) K = zj126 N  F v0 v1 v2 v3 v4 (fun y0 => K (.exit 0) (x62_0_0_k0  y0)) := by
  intro F
  induction F with
  | zero => intros; rfl
  | succ F ih =>
    intros
    rw [rounds_next]
    refine (st62_0_0 N  _ _ _ _ _ (fun s => (lp Tryz.f62 0).rounds lay (E62 N) (retMask Tryz.f62) F s K) K).trans ?_
    simp only [ih]
    rfl
theorem lk62_0 (N : Nat) : lookL (E62 (β := β) N).loops (lp Tryz.f62 0).id = LS62_0 N := by kernel_rfl
theorem rk62_0 (N : Nat) : RoundsOK lay (E62 (β := β) N) (retMask Tryz.f62) (lp Tryz.f62 0) := by
  intro s K r h
  rw [lk62_0] at h
  unfold LS62_0 VLS62_0 at h
  cases hb : shpSt (h62_0_0 0 0 0 0 []) s with
  | true =>
    rw [hb, cond_true] at h
    exact ⟨N, by rw [← shpSt_ref hb, fl62_0_0 s]; exact (ro62_0_0 N  K N (intS (oneA (vT (nx tund s.tmps 11)))) (intS (oneA (vT (nx tund s.tmps 12)))) (intS (nx .und (cellsB (nx .dead s.blks 0)) 0)) (intS (nx .und (cellsB (nx .dead s.blks 0)) 1)) (rInts (rowB_ (nx .dead s.blks 1)))).trans h⟩
  | false =>
  rw [hb, cond_false] at h
  clear hb
  cases h
def zb127 (N : Nat) (zq55 : (a0 : Int) → (a1 : Int) → (a2 : Int) → (k : Bool → O β) → O β) (zq126 : Nat → Int → Int → Int → Int → List Int → (List Int → O β) → O β) (a0 : Int) (a1 : Int) (a2 : Int) (k : ByteArray → O β) : O β :=
zq55 a0 a1 a2 fun r4 =>
(cond (!r4)
(k ByteArray.empty)
(zq126  N a0 0 a1 a2 (([] : List Int)) (fun e5_0 =>
(cond (((e5_0.length : Int) == 0))
(k ((strOf [49])))
(k ((strOf e5_0)))))))
theorem zt127 (N : Nat) (a0 : Int) (a1 : Int) (a2 : Int) (k : ByteArray → O β) : zj127 N a0 a1 a2 k = zb127 N (zj55 N) (zj126 N) a0 a1 a2 k := by
  unfold zj127 zb127
  rfl
theorem ve62_0 (N : Nat) (zq55 : (a0 : Int) → (a1 : Int) → (a2 : Int) → (k : Bool → O β) → O β) (zq126 : Nat → Int → Int → Int → Int → List Int → (List Int → O β) → O β)  (a0 : Int) (a1 : Int) (a2 : Int) (K : TV → O β) : evFn lay (VE62 N zq55 zq126) Tryz.f62 [.v (.one (.int .i64 a0)), .v (.agg [.int .i64 a1, .int .i64 a2])] K = zb127 N zq55 zq126 a0 a1 a2 (fun z3 => K (.v (.one (.str z3)))) := by kernel_rfl
theorem e62_0 (N : Nat)  (a0 : Int) (a1 : Int) (a2 : Int) (K : TV → O β) : evFn lay (E62 N) Tryz.f62 [.v (.one (.int .i64 a0)), .v (.agg [.int .i64 a1, .int .i64 a2])] K = zj127 N a0 a1 a2 (fun z3 => K (.v (.one (.str z3)))) := (ve62_0 N (zj55 N) (zj126 N) a0 a1 a2 K).trans (zt127 N a0 a1 a2 (fun z3 => K (.v (.one (.str z3))))).symm
theorem o62 (N : Nat) : SpecOK (β := β) inv Tryz.prog 62 (S62 N) := by
  refine spec_of lay_ok mixed (E := E62 N) (specs_loops (specs_cons (o53 N) specs_nil)) muts_nil gs_nil Tryz.func62 (by kernel_rfl) 1 (by kernel_rfl) ⟨trivial, rk62_0 N⟩ fun args K r h => ?_
  unfold S62 VS62 at h
  split at h
  · exact (e62_0 N _ _ _ _).trans h
  · cases h
def VS59 (N : Nat) (zq130 : (a0 : Int) → (a1 : List (Int × Int)) → (a2 : ByteArray) → (k : ByteArray → O β) → O β) : Rv.Spec β := fun args K => match args with
  | [.v (.one (.int .i64 a0)), .v (.one (.sl 50 (.pairs a1))), .v (.one (.str a2))] => zq130 a0 a1 a2 (fun z3 => K (.v (.one (.str z3))))
  | _ => none
def S59 (N : Nat) : Rv.Spec β := VS59 N (zj130 N)
def h59_0_0  (v0 : Int) (v1 : ByteArray) (v2 : List (Int × Int)) (v3 : Int) (v4 : Int) (v5 : List ByteArray) : St := ⟨.v (.one (.int .i64 v0)) :: tund :: .v (.one (.str v1)) :: tund :: tund :: tund :: tund :: .v (.one (.row 0)) :: tund :: tund :: tund :: tund :: tund :: .v (.one (.sl 50 (.pairs v2))) :: .v (.one (.int .i64 v3)) :: .v (.one (.int .i64 v4)) :: tund :: tund :: tund :: tund :: tund :: tund :: tund :: tund :: tund :: tund :: tund :: tund :: tund :: tund :: [], [.row 9 (.strs v5)]⟩
def x59_0_0_k0  (y0 : ByteArray) (y1 : List ByteArray) : St := ⟨tund :: tund :: .v (.one (.str y0)) :: tund :: tund :: tund :: tund :: .v (.one (.row 0)) :: tund :: tund :: tund :: tund :: tund :: tund :: tund :: tund :: tund :: tund :: tund :: tund :: tund :: tund :: tund :: tund :: tund :: tund :: tund :: tund :: tund :: tund :: [], [.row 9 (.strs y1)]⟩
theorem fl59_0_0 (s : St) : refSt (h59_0_0 0 ByteArray.empty [] 0 0 []) s = h59_0_0 (intS (oneA (vT (nx tund s.tmps 0)))) (strS (oneA (vT (nx tund s.tmps 2)))) (rPairs (rowV (oneA (vT (nx tund s.tmps 13))))) (intS (oneA (vT (nx tund s.tmps 14)))) (intS (oneA (vT (nx tund s.tmps 15)))) (rStrs (rowB_ (nx .dead s.blks 0))) := by kernel_rfl
def VLS59_0 (N : Nat) (zq129 : Nat → Int → ByteArray → List (Int × Int) → Int → Int → List ByteArray → (ByteArray → List ByteArray → O β) → O β) : LSpec β := fun s K => cond (shpSt (h59_0_0 0 ByteArray.empty [] 0 0 []) s) ((fun (v0 : Int) (v1 : ByteArray) (v2 : List (Int × Int)) (v3 : Int) (v4 : Int) (v5 : List ByteArray) => zq129  N v0 v1 v2 v3 v4 v5 (fun y0 y1 => K (.exit 0) (x59_0_0_k0  y0 y1))) (intS (oneA (vT (nx tund s.tmps 0)))) (strS (oneA (vT (nx tund s.tmps 2)))) (rPairs (rowV (oneA (vT (nx tund s.tmps 13))))) (intS (oneA (vT (nx tund s.tmps 14)))) (intS (oneA (vT (nx tund s.tmps 15)))) (rStrs (rowB_ (nx .dead s.blks 0)))) (none)
def LS59_0 (N : Nat) : LSpec β := VLS59_0 N (zj129 N)
def VE59 (N : Nat) (zq127 : (a0 : Int) → (a1 : Int) → (a2 : Int) → (k : ByteArray → O β) → O β) (zq129 : Nat → Int → ByteArray → List (Int × Int) → Int → Int → List ByteArray → (ByteArray → List ByteArray → O β) → O β) : Env β := ⟨[(62, VS62 N zq127), (71, S71 N)], [], [(0, VLS59_0 N zq129)], [], ⟨[], [], [], []⟩⟩
def E59 (N : Nat) : Env β := VE59 N (zj127 N) (zj129 N)
def zb128 (N : Nat) (zq127 : (a0 : Int) → (a1 : Int) → (a2 : Int) → (k : ByteArray → O β) → O β)  (v0 : Int) (v1 : ByteArray) (v2 : List (Int × Int)) (v3 : Int) (v4 : Int) (v5 : List ByteArray) (rec_ : Int → ByteArray → List (Int × Int) → Int → Int → List ByteArray → O β) (k0 : ByteArray → List ByteArray → O β) : O β :=
(cond ((decide (v4 < v3)))
((gd ((decide (0 ≤ v4)))
((gd ((decide (v4 < (v2.length : Int))))
(zq127 v0 ((rd (0, 0) v2 v4).1) ((rd (0, 0) v2 v4).2) fun r4 =>
(gd ((decide (0 ≤ v4)))
((gd ((decide (v4 < (v5.length : Int))))
(rec_ v0 v1 v2 v3 ((w64 (v4 + 1))) ((wr v5 v4 r4)))))))))))
(k0 v1 v5))
theorem zt128 (N : Nat)  (v0 : Int) (v1 : ByteArray) (v2 : List (Int × Int)) (v3 : Int) (v4 : Int) (v5 : List ByteArray) (rec_ : Int → ByteArray → List (Int × Int) → Int → Int → List ByteArray → O β) (k0 : ByteArray → List ByteArray → O β) : zj128 N v0 v1 v2 v3 v4 v5 rec_ k0 = zb128 N (zj127 N) v0 v1 v2 v3 v4 v5 rec_ k0 := by
  unfold zj128 zb128
  rfl
theorem vst59_0_0 (N : Nat) (zq127 : (a0 : Int) → (a1 : Int) → (a2 : Int) → (k : ByteArray → O β) → O β) (zq129 : Nat → Int → ByteArray → List (Int × Int) → Int → Int → List ByteArray → (ByteArray → List ByteArray → O β) → O β)  (v0 : Int) (v1 : ByteArray) (v2 : List (Int × Int)) (v3 : Int) (v4 : Int) (v5 : List ByteArray) (rec_ : St → O β) (K : Exit → St → O β) :
    ev lay (VE59 N zq127 zq129) (retMask Tryz.f59) (lp Tryz.f59 0).body (lp Tryz.f59 0).ex ((lp Tryz.f59 0).lv (retMask Tryz.f59)) (h59_0_0  v0 v1 v2 v3 v4 v5) (nextR (fun s' => rec_ (s'.tidy ((lp Tryz.f59 0).lv (retMask Tryz.f59)))) K) = zb128 N zq127  v0 v1 v2 v3 v4 v5 (fun v0 v1 v2 v3 v4 v5 => rec_ (h59_0_0  v0 v1 v2 v3 v4 v5)) (fun y0 y1 => K (.exit 0) (x59_0_0_k0  y0 y1)) := by kernel_rfl
theorem st59_0_0 (N : Nat)  (v0 : Int) (v1 : ByteArray) (v2 : List (Int × Int)) (v3 : Int) (v4 : Int) (v5 : List ByteArray) (rec_ : St → O β) (K : Exit → St → O β) :
    ev lay (E59 N) (retMask Tryz.f59) (lp Tryz.f59 0).body (lp Tryz.f59 0).ex ((lp Tryz.f59 0).lv (retMask Tryz.f59)) (h59_0_0  v0 v1 v2 v3 v4 v5) (nextR (fun s' => rec_ (s'.tidy ((lp Tryz.f59 0).lv (retMask Tryz.f59)))) K) = zj128 N  v0 v1 v2 v3 v4 v5 (fun v0 v1 v2 v3 v4 v5 => rec_ (h59_0_0  v0 v1 v2 v3 v4 v5)) (fun y0 y1 => K (.exit 0) (x59_0_0_k0  y0 y1)) := (vst59_0_0 N (zj127 N) (zj129 N) v0 v1 v2 v3 v4 v5 rec_ K).trans (zt128 N  v0 v1 v2 v3 v4 v5 (fun v0 v1 v2 v3 v4 v5 => rec_ (h59_0_0  v0 v1 v2 v3 v4 v5)) (fun y0 y1 => K (.exit 0) (x59_0_0_k0  y0 y1))).symm
theorem ro59_0_0 (N : Nat)  (K : Exit → St → O β) : ∀ (F : Nat) (v0 : Int) (v1 : ByteArray) (v2 : List (Int × Int)) (v3 : Int) (v4 : Int) (v5 : List ByteArray), (lp Tryz.f59 0).rounds lay (E59 N) (retMask Tryz.f59) F (h59_0_0  v0 v1 v2 v3 v4 v5) K = zj129 N  F v0 v1 v2 v3 v4 v5 (fun y0 y1 => K (.exit 0) (x59_0_0_k0  y0 y1)) := by
  intro F
  induction F with
  | zero => intros; rfl
  | succ F ih =>
    intros
    rw [rounds_next]
    refine (st59_0_0 N  _ _ _ _ _ _ (fun s => (lp Tryz.f59 0).rounds lay (E59 N) (retMask Tryz.f59) F s K) K).trans ?_
    simp only [ih]
    rfl
theorem lk59_0 (N : Nat) : lookL (E59 (β := β) N).loops (lp Tryz.f59 0).id = LS59_0 N := by kernel_rfl
theorem rk59_0 (N : Nat) : RoundsOK lay (E59 (β := β) N) (retMask Tryz.f59) (lp Tryz.f59 0) := by
  intro s K r h
  rw [lk59_0] at h
  unfold LS59_0 VLS59_0 at h
  cases hb : shpSt (h59_0_0 0 ByteArray.empty [] 0 0 []) s with
  | true =>
    rw [hb, cond_true] at h
    exact ⟨N, by rw [← shpSt_ref hb, fl59_0_0 s]; exact (ro59_0_0 N  K N (intS (oneA (vT (nx tund s.tmps 0)))) (strS (oneA (vT (nx tund s.tmps 2)))) (rPairs (rowV (oneA (vT (nx tund s.tmps 13))))) (intS (oneA (vT (nx tund s.tmps 14)))) (intS (oneA (vT (nx tund s.tmps 15)))) (rStrs (rowB_ (nx .dead s.blks 0)))).trans h⟩
  | false =>
  rw [hb, cond_false] at h
  clear hb
  cases h
def zb130 (N : Nat) (zq129 : Nat → Int → ByteArray → List (Int × Int) → Int → Int → List ByteArray → (ByteArray → List ByteArray → O β) → O β) (a0 : Int) (a1 : List (Int × Int)) (a2 : ByteArray) (k : ByteArray → O β) : O β :=
(gd ((decide (0 ≤ (a1.length : Int))))
((gd ((decide ((a1.length : Int) ≤ (a1.length : Int))))
((gd ((decide (16 * (a1.length : Int) ≤ 281474976710656)))
(zq129  N a0 a2 a1 ((a1.length : Int)) 0 ((List.replicate (Int.toNat (a1.length : Int)) ByteArray.empty)) (fun e5_0 e5_1 =>
strings_Join N e5_1 e5_0 fun r6 =>
k r6)))))))
theorem zt130 (N : Nat) (a0 : Int) (a1 : List (Int × Int)) (a2 : ByteArray) (k : ByteArray → O β) : zj130 N a0 a1 a2 k = zb130 N (zj129 N) a0 a1 a2 k := by
  unfold zj130 zb130
  rfl
theorem ve59_0 (N : Nat) (zq127 : (a0 : Int) → (a1 : Int) → (a2 : Int) → (k : ByteArray → O β) → O β) (zq129 : Nat → Int → ByteArray → List (Int × Int) → Int → Int → List ByteArray → (ByteArray → List ByteArray → O β) → O β)  (a0 : Int) (a1 : List (Int × Int)) (a2 : ByteArray) (K : TV → O β) : evFn lay (VE59 N zq127 zq129) Tryz.f59 [.v (.one (.int .i64 a0)), .v (.one (.sl 50 (.pairs a1))), .v (.one (.str a2))] K = zb130 N zq129 a0 a1 a2 (fun z3 => K (.v (.one (.str z3)))) := by kernel_rfl
theorem e59_0 (N : Nat)  (a0 : Int) (a1 : List (Int × Int)) (a2 : ByteArray) (K : TV → O β) : evFn lay (E59 N) Tryz.f59 [.v (.one (.int .i64 a0)), .v (.one (.sl 50 (.pairs a1))), .v (.one (.str a2))] K = zj130 N a0 a1 a2 (fun z3 => K (.v (.one (.str z3)))) := (ve59_0 N (zj127 N) (zj129 N) a0 a1 a2 K).trans (zt130 N a0 a1 a2 (fun z3 => K (.v (.one (.str z3))))).symm
theorem o59 (N : Nat) : SpecOK (β := β) inv Tryz.prog 59 (S59 N) := by
  refine spec_of lay_ok mixed (E := E59 N) (specs_loops (specs_cons (o62 N) (specs_cons (o71 N) specs_nil))) muts_nil gs_nil Tryz.func59 (by kernel_rfl) 1 (by kernel_rfl) ⟨trivial, rk59_0 N⟩ fun args K r h => ?_
  unfold S59 VS59 at h
  split at h
  · exact (e59_0 N _ _ _ _).trans h
  · cases h
def VS37 (N : Nat) (zq131 : (a0 : Int) → (a1 : List (Int × Int)) → (k : ByteArray → O β) → O β) : Rv.Spec β := fun args K => match args with
  | [.v (.one (.int .i64 a0)), .v (.one (.sl 50 (.pairs a1)))] => zq131 a0 a1 (fun z2 => K (.v (.one (.str z2))))
  | _ => none
def S37 (N : Nat) : Rv.Spec β := VS37 N (zj131 N)
def VE37 (N : Nat) (zq130 : (a0 : Int) → (a1 : List (Int × Int)) → (a2 : ByteArray) → (k : ByteArray → O β) → O β) : Env β := ⟨[(59, VS59 N zq130)], [], [], [], ⟨[], [], [], []⟩⟩
def E37 (N : Nat) : Env β := VE37 N (zj130 N)
def zb131 (N : Nat) (zq130 : (a0 : Int) → (a1 : List (Int × Int)) → (a2 : ByteArray) → (k : ByteArray → O β) → O β) (a0 : Int) (a1 : List (Int × Int)) (k : ByteArray → O β) : O β :=
(cond (((a1.length : Int) == 0))
(k ((strOf [48])))
(zq130 a0 a1 ((strOf [124])) fun r3 =>
k r3))
theorem zt131 (N : Nat) (a0 : Int) (a1 : List (Int × Int)) (k : ByteArray → O β) : zj131 N a0 a1 k = zb131 N (zj130 N) a0 a1 k := by
  unfold zj131 zb131
  rfl
theorem ve37_0 (N : Nat) (zq130 : (a0 : Int) → (a1 : List (Int × Int)) → (a2 : ByteArray) → (k : ByteArray → O β) → O β)  (a0 : Int) (a1 : List (Int × Int)) (K : TV → O β) : evFn lay (VE37 N zq130) Tryz.f37 [.v (.one (.int .i64 a0)), .v (.one (.sl 50 (.pairs a1)))] K = zb131 N zq130 a0 a1 (fun z2 => K (.v (.one (.str z2)))) := by kernel_rfl
theorem e37_0 (N : Nat)  (a0 : Int) (a1 : List (Int × Int)) (K : TV → O β) : evFn lay (E37 N) Tryz.f37 [.v (.one (.int .i64 a0)), .v (.one (.sl 50 (.pairs a1)))] K = zj131 N a0 a1 (fun z2 => K (.v (.one (.str z2)))) := (ve37_0 N (zj130 N) a0 a1 K).trans (zt131 N a0 a1 (fun z2 => K (.v (.one (.str z2))))).symm
theorem o37 (N : Nat) : SpecOK (β := β) inv Tryz.prog 37 (S37 N) := by
  refine spec_of lay_ok mixed (E := E37 N) (specs_loops (specs_cons (o59 N) specs_nil)) muts_nil gs_nil Tryz.func37 (by kernel_rfl) 0 (by kernel_rfl) trivial fun args K r h => ?_
  unfold S37 VS37 at h
  split at h
  · exact (e37_0 N _ _ _).trans h
  · cases h
def VS16 (N : Nat) (zq132 : (a0 : Int) → (a1 : List (Int × Int)) → (k : ByteArray → O β) → O β) : Rv.Spec β := fun args K => match args with
  | [.v (.one (.int .i64 a0)), .v (.one (.sl 50 (.pairs a1)))] => zq132 a0 a1 (fun z2 => K (.v (.one (.str z2))))
  | _ => none
def S16 (N : Nat) : Rv.Spec β := VS16 N (zj132 N)
def VE16 (N : Nat) (zq64 : (a0 : Int) → (a1 : List (Int × Int)) → (k : Bool → O β) → O β) (zq131 : (a0 : Int) → (a1 : List (Int × Int)) → (k : ByteArray → O β) → O β) : Env β := ⟨[(25, VS25 N zq64), (37, VS37 N zq131)], [], [], [], ⟨[], [], [], []⟩⟩
def E16 (N : Nat) : Env β := VE16 N (zj64 N) (zj131 N)
def zb132 (N : Nat) (zq64 : (a0 : Int) → (a1 : List (Int × Int)) → (k : Bool → O β) → O β) (zq131 : (a0 : Int) → (a1 : List (Int × Int)) → (k : ByteArray → O β) → O β) (a0 : Int) (a1 : List (Int × Int)) (k : ByteArray → O β) : O β :=
zq64 a0 a1 fun r3 =>
(cond (!r3)
(k ByteArray.empty)
(zq131 a0 a1 fun r4 =>
k r4))
theorem zt132 (N : Nat) (a0 : Int) (a1 : List (Int × Int)) (k : ByteArray → O β) : zj132 N a0 a1 k = zb132 N (zj64 N) (zj131 N) a0 a1 k := by
  unfold zj132 zb132
  rfl
theorem ve16_0 (N : Nat) (zq64 : (a0 : Int) → (a1 : List (Int × Int)) → (k : Bool → O β) → O β) (zq131 : (a0 : Int) → (a1 : List (Int × Int)) → (k : ByteArray → O β) → O β)  (a0 : Int) (a1 : List (Int × Int)) (K : TV → O β) : evFn lay (VE16 N zq64 zq131) Tryz.f16 [.v (.one (.int .i64 a0)), .v (.one (.sl 50 (.pairs a1)))] K = zb132 N zq64 zq131 a0 a1 (fun z2 => K (.v (.one (.str z2)))) := by kernel_rfl
theorem e16_0 (N : Nat)  (a0 : Int) (a1 : List (Int × Int)) (K : TV → O β) : evFn lay (E16 N) Tryz.f16 [.v (.one (.int .i64 a0)), .v (.one (.sl 50 (.pairs a1)))] K = zj132 N a0 a1 (fun z2 => K (.v (.one (.str z2)))) := (ve16_0 N (zj64 N) (zj131 N) a0 a1 K).trans (zt132 N a0 a1 (fun z2 => K (.v (.one (.str z2))))).symm
theorem o16 (N : Nat) : SpecOK (β := β) inv Tryz.prog 16 (S16 N) := by
  refine spec_of lay_ok mixed (E := E16 N) (specs_loops (specs_cons (o25 N) (specs_cons (o37 N) specs_nil))) muts_nil gs_nil Tryz.func16 (by kernel_rfl) 0 (by kernel_rfl) trivial fun args K r h => ?_
  unfold S16 VS16 at h
  split at h
  · exact (e16_0 N _ _ _).trans h
  · cases h
def VS61 (N : Nat) (zq133 : (a0 : Int) → (k : Bool → O β) → O β) : Rv.Spec β := fun args K => match args with
  | [.v (.one (.int .u8 a0))] => zq133 a0 (fun z1 => K (.v (.one (.bool z1))))
  | _ => none
def S61 (N : Nat) : Rv.Spec β := VS61 N (zj133 N)
def VE61 (N : Nat) : Env β := ⟨[], [], [], [], ⟨[], [], [], []⟩⟩
def E61 (N : Nat) : Env β := VE61 N
def zb133 (N : Nat) (a0 : Int) (k : Bool → O β) : O β :=
(cond ((decide (a0 ≥ 97)))
(k ((decide (a0 < 102))))
(k false))
theorem zt133 (N : Nat) (a0 : Int) (k : Bool → O β) : zj133 N a0 k = zb133 N a0 k := by
  unfold zj133 zb133
  rfl
theorem ve61_0 (N : Nat)  (a0 : Int) (K : TV → O β) : evFn lay (VE61 N) Tryz.f61 [.v (.one (.int .u8 a0))] K = zb133 N a0 (fun z1 => K (.v (.one (.bool z1)))) := by kernel_rfl
theorem e61_0 (N : Nat)  (a0 : Int) (K : TV → O β) : evFn lay (E61 N) Tryz.f61 [.v (.one (.int .u8 a0))] K = zj133 N a0 (fun z1 => K (.v (.one (.bool z1)))) := (ve61_0 N a0 K).trans (zt133 N a0 (fun z1 => K (.v (.one (.bool z1))))).symm
theorem o61 (N : Nat) : SpecOK (β := β) inv Tryz.prog 61 (S61 N) := by
  refine spec_of lay_ok mixed (E := E61 N) (specs_loops specs_nil) muts_nil gs_nil Tryz.func61 (by kernel_rfl) 0 (by kernel_rfl) trivial fun args K r h => ?_
  unfold S61 VS61 at h
  split at h
  · exact (e61_0 N _ _).trans h
  · cases h
def VS40 (N : Nat) (zq136 : (a0 : Int) → (a1 : ByteArray) → (k : Int → Int → Bool → O β) → O β) : Rv.Spec β := fun args K => match args with
  | [.v (.one (.int .i64 a0)), .v (.one (.str a1))] => zq136 a0 a1 (fun z2 z3 z4 => K (.tup [.agg [.int .i64 z2, .int .i64 z3], .one (.bool z4)]))
  | _ => none
def S40 (N : Nat) : Rv.Spec β := VS40 N (zj136 N)
def h40_0_0  (v0 : Int) (v1 : ByteArray) (v2 : Int) (v3 : Int) (v4 : Int) (v5 : Int) (v6 : Int) (v7 : Int) (v8 : Int) : St := ⟨.v (.one (.int .i64 v0)) :: .v (.one (.str v1)) :: tund :: tund :: .v (.one (.ptr 0 0)) :: tund :: .v (.one (.ptr 1 0)) :: .v (.one (.int .i64 v2)) :: tund :: tund :: tund :: tund :: .v (.one (.int .i64 v3)) :: .v (.one (.int .i64 v4)) :: tund :: tund :: tund :: tund :: tund :: tund :: tund :: tund :: tund :: tund :: tund :: tund :: tund :: tund :: tund :: tund :: tund :: tund :: tund :: tund :: tund :: tund :: tund :: tund :: tund :: tund :: tund :: tund :: tund :: tund :: tund :: tund :: tund :: tund :: tund :: tund :: tund :: tund :: tund :: tund :: tund :: tund :: tund :: [], [.cells 50 [.int .i64 v5, .int .i64 v6], .cells 50 [.int .i64 v7, .int .i64 v8]]⟩
def x40_0_0_k0  (y0 : Int) (y1 : ByteArray) (y2 : Int) (y3 : Int) (y4 : Int) (y5 : Int) : St := ⟨.v (.one (.int .i64 y0)) :: .v (.one (.str y1)) :: tund :: tund :: .v (.one (.ptr 0 0)) :: tund :: .v (.one (.ptr 1 0)) :: tund :: tund :: tund :: tund :: tund :: tund :: tund :: tund :: tund :: tund :: tund :: tund :: tund :: tund :: tund :: tund :: tund :: tund :: tund :: tund :: tund :: tund :: tund :: tund :: tund :: tund :: tund :: tund :: tund :: tund :: tund :: tund :: tund :: tund :: tund :: tund :: tund :: tund :: tund :: tund :: tund :: tund :: tund :: tund :: tund :: tund :: tund :: tund :: tund :: tund :: [], [.cells 50 [.int .i64 y2, .int .i64 y3], .cells 50 [.int .i64 y4, .int .i64 y5]]⟩
theorem fl40_0_0 (s : St) : refSt (h40_0_0 0 ByteArray.empty 0 0 0 0 0 0 0) s = h40_0_0 (intS (oneA (vT (nx tund s.tmps 0)))) (strS (oneA (vT (nx tund s.tmps 1)))) (intS (oneA (vT (nx tund s.tmps 7)))) (intS (oneA (vT (nx tund s.tmps 12)))) (intS (oneA (vT (nx tund s.tmps 13)))) (intS (nx .und (cellsB (nx .dead s.blks 0)) 0)) (intS (nx .und (cellsB (nx .dead s.blks 0)) 1)) (intS (nx .und (cellsB (nx .dead s.blks 1)) 0)) (intS (nx .und (cellsB (nx .dead s.blks 1)) 1)) := by kernel_rfl
def VLS40_0 (N : Nat) (zq135 : Nat → Int → ByteArray → Int → Int → Int → Int → Int → Int → Int → (Int → ByteArray → Int → Int → Int → Int → O β) → O β) : LSpec β := fun s K => cond (shpSt (h40_0_0 0 ByteArray.empty 0 0 0 0 0 0 0) s) ((fun (v0 : Int) (v1 : ByteArray) (v2 : Int) (v3 : Int) (v4 : Int) (v5 : Int) (v6 : Int) (v7 : Int) (v8 : Int) => zq135  N v0 v1 v2 v3 v4 v5 v6 v7 v8 (fun y0 y1 y2 y3 y4 y5 => K (.exit 0) (x40_0_0_k0  y0 y1 y2 y3 y4 y5))) (intS (oneA (vT (nx tund s.tmps 0)))) (strS (oneA (vT (nx tund s.tmps 1)))) (intS (oneA (vT (nx tund s.tmps 7)))) (intS (oneA (vT (nx tund s.tmps 12)))) (intS (oneA (vT (nx tund s.tmps 13)))) (intS (nx .und (cellsB (nx .dead s.blks 0)) 0)) (intS (nx .und (cellsB (nx .dead s.blks 0)) 1)) (intS (nx .und (cellsB (nx .dead s.blks 1)) 0)) (intS (nx .und (cellsB (nx .dead s.blks 1)) 1))) (none)
def LS40_0 (N : Nat) : LSpec β := VLS40_0 N (zj135 N)
def VE40 (N : Nat) (zq133 : (a0 : Int) → (k : Bool → O β) → O β) (zq127 : (a0 : Int) → (a1 : Int) → (a2 : Int) → (k : ByteArray → O β) → O β) (zq135 : Nat → Int → ByteArray → Int → Int → Int → Int → Int → Int → Int → (Int → ByteArray → Int → Int → Int → Int → O β) → O β) : Env β := ⟨[(61, VS61 N zq133), (62, VS62 N zq127)], [], [(0, VLS40_0 N zq135)], [], ⟨[], [], [], []⟩⟩
def E40 (N : Nat) : Env β := VE40 N (zj133 N) (zj127 N) (zj135 N)
def zb134 (N : Nat) (zq133 : (a0 : Int) → (k : Bool → O β) → O β)  (v0 : Int) (v1 : ByteArray) (v2 : Int) (v3 : Int) (v4 : Int) (v5 : Int) (v6 : Int) (v7 : Int) (v8 : Int) (rec_ : Int → ByteArray → Int → Int → Int → Int → Int → Int → Int → O β) (k0 : Int → ByteArray → Int → Int → Int → Int → O β) : O β :=
(cond ((decide (v4 < v3)))
((gd ((decide (0 ≤ v4)))
((gd ((decide (v4 < (v1.size : Int))))
((cond (((bt v1 v4) == 33))
(rec_ v0 v1 0 v3 ((w64 (v4 + 1))) v5 v6 v7 v8)
((gd ((decide (0 ≤ v4)))
((gd ((decide (v4 < (v1.size : Int))))
(zq133 ((bt v1 v4)) fun r5 =>
(cond r5
((gd ((decide (0 ≤ v4)))
((gd ((decide (v4 < (v1.size : Int))))
((gd ((decide (0 ≤ (w8 ((bt v1 v4) - 97)))))
((gd ((decide (0 ≤ v4)))
((gd ((decide (v4 < (v1.size : Int))))
((gd ((decide (0 ≤ (w8 ((bt v1 v4) - 97)))))
(rec_ v0 v1 1 v3 ((w64 (v4 + 1))) v5 v6 ((bits .or .i64 v7 (shlI .i64 1 (w8 ((bt v1 v4) - 97))))) ((bits .or .i64 v8 (shlI .i64 v2 (w8 ((bt v1 v4) - 97))))))))))))))))))
(rec_ v0 v1 v2 v3 ((w64 (v4 + 1))) v5 v6 v7 v8)))))))))))))
(k0 v0 v1 v5 v6 v7 v8))
theorem zt134 (N : Nat)  (v0 : Int) (v1 : ByteArray) (v2 : Int) (v3 : Int) (v4 : Int) (v5 : Int) (v6 : Int) (v7 : Int) (v8 : Int) (rec_ : Int → ByteArray → Int → Int → Int → Int → Int → Int → Int → O β) (k0 : Int → ByteArray → Int → Int → Int → Int → O β) : zj134 N v0 v1 v2 v3 v4 v5 v6 v7 v8 rec_ k0 = zb134 N (zj133 N) v0 v1 v2 v3 v4 v5 v6 v7 v8 rec_ k0 := by
  unfold zj134 zb134
  rfl
theorem vst40_0_0 (N : Nat) (zq133 : (a0 : Int) → (k : Bool → O β) → O β) (zq127 : (a0 : Int) → (a1 : Int) → (a2 : Int) → (k : ByteArray → O β) → O β) (zq135 : Nat → Int → ByteArray → Int → Int → Int → Int → Int → Int → Int → (Int → ByteArray → Int → Int → Int → Int → O β) → O β)  (v0 : Int) (v1 : ByteArray) (v2 : Int) (v3 : Int) (v4 : Int) (v5 : Int) (v6 : Int) (v7 : Int) (v8 : Int) (rec_ : St → O β) (K : Exit → St → O β) :
    ev lay (VE40 N zq133 zq127 zq135) (retMask Tryz.f40) (lp Tryz.f40 0).body (lp Tryz.f40 0).ex ((lp Tryz.f40 0).lv (retMask Tryz.f40)) (h40_0_0  v0 v1 v2 v3 v4 v5 v6 v7 v8) (nextR (fun s' => rec_ (s'.tidy ((lp Tryz.f40 0).lv (retMask Tryz.f40)))) K) = zb134 N zq133  v0 v1 v2 v3 v4 v5 v6 v7 v8 (fun v0 v1 v2 v3 v4 v5 v6 v7 v8 => rec_ (h40_0_0  v0 v1 v2 v3 v4 v5 v6 v7 v8)) (fun y0 y1 y2 y3 y4 y5 => K (.exit 0) (x40_0_0_k0  y0 y1 y2 y3 y4 y5)) := by kernel_rfl
theorem st40_0_0 (N : Nat)  (v0 : Int) (v1 : ByteArray) (v2 : Int) (v3 : Int) (v4 : Int) (v5 : Int) (v6 : Int) (v7 : Int) (v8 : Int) (rec_ : St → O β) (K : Exit → St → O β) :
    ev lay (E40 N) (retMask Tryz.f40) (lp Tryz.f40 0).body (lp Tryz.f40 0).ex ((lp Tryz.f40 0).lv (retMask Tryz.f40)) (h40_0_0  v0 v1 v2 v3 v4 v5 v6 v7 v8) (nextR (fun s' => rec_ (s'.tidy ((lp Tryz.f40 0).lv (retMask Tryz.f40)))) K) = zj134 N  v0 v1 v2 v3 v4 v5 v6 v7 v8 (fun v0 v1 v2 v3 v4 v5 v6 v7 v8 => rec_ (h40_0_0  v0 v1 v2 v3 v4 v5 v6 v7 v8)) (fun y0 y1 y2 y3 y4 y5 => K (.exit 0) (x40_0_0_k0  y0 y1 y2 y3 y4 y5)) := (vst40_0_0 N (zj133 N) (zj127 N) (zj135 N) v0 v1 v2 v3 v4 v5 v6 v7 v8 rec_ K).trans (zt134 N  v0 v1 v2 v3 v4 v5 v6 v7 v8 (fun v0 v1 v2 v3 v4 v5 v6 v7 v8 => rec_ (h40_0_0  v0 v1 v2 v3 v4 v5 v6 v7 v8)) (fun y0 y1 y2 y3 y4 y5 => K (.exit 0) (x40_0_0_k0  y0 y1 y2 y3 y4 y5))).symm
theorem ro40_0_0 (N : Nat)  (K : Exit → St → O β) : ∀ (F : Nat) (v0 : Int) (v1 : ByteArray) (v2 : Int) (v3 : Int) (v4 : Int) (v5 : Int) (v6 : Int) (v7 : Int) (v8 : Int), (lp Tryz.f40 0).rounds lay (E40 N) (retMask Tryz.f40) F (h40_0_0  v0 v1 v2 v3 v4 v5 v6 v7 v8) K = zj135 N  F v0 v1 v2 v3 v4 v5 v6 v7 v8 (fun y0 y1 y2 y3 y4 y5 => K (.exit 0) (x40_0_0_k0  y0 y1 y2 y3 y4 y5)) := by
  intro F
  induction F with
  | zero => intros; rfl
  | succ F ih =>
    intros
    rw [rounds_next]
    refine (st40_0_0 N  _ _ _ _ _ _ _ _ _ (fun s => (lp Tryz.f40 0).rounds lay (E40 N) (retMask Tryz.f40) F s K) K).trans ?_
    simp only [ih]
    rfl
theorem lk40_0 (N : Nat) : lookL (E40 (β := β) N).loops (lp Tryz.f40 0).id = LS40_0 N := by kernel_rfl
theorem rk40_0 (N : Nat) : RoundsOK lay (E40 (β := β) N) (retMask Tryz.f40) (lp Tryz.f40 0) := by
  intro s K r h
  rw [lk40_0] at h
  unfold LS40_0 VLS40_0 at h
  cases hb : shpSt (h40_0_0 0 ByteArray.empty 0 0 0 0 0 0 0) s with
  | true =>
    rw [hb, cond_true] at h
    exact ⟨N, by rw [← shpSt_ref hb, fl40_0_0 s]; exact (ro40_0_0 N  K N (intS (oneA (vT (nx tund s.tmps 0)))) (strS (oneA (vT (nx tund s.tmps 1)))) (intS (oneA (vT (nx tund s.tmps 7)))) (intS (oneA (vT (nx tund s.tmps 12)))) (intS (oneA (vT (nx tund s.tmps 13)))) (intS (nx .und (cellsB (nx .dead s.blks 0)) 0)) (intS (nx .und (cellsB (nx .dead s.blks 0)) 1)) (intS (nx .und (cellsB (nx .dead s.blks 1)) 0)) (intS (nx .und (cellsB (nx .dead s.blks 1)) 1))).trans h⟩
  | false =>
  rw [hb, cond_false] at h
  clear hb
  cases h
def zb136 (N : Nat) (zq135 : Nat → Int → ByteArray → Int → Int → Int → Int → Int → Int → Int → (Int → ByteArray → Int → Int → Int → Int → O β) → O β) (zq127 : (a0 : Int) → (a1 : Int) → (a2 : Int) → (k : ByteArray → O β) → O β) (a0 : Int) (a1 : ByteArray) (k : Int → Int → Bool → O β) : O β :=
(cond ((!(a1.toList == ((strOf [49])).toList)))
(zq135  N a0 a1 1 ((a1.size : Int)) 0 0 0 0 0 (fun e6_0 e6_1 e6_2 e6_3 e6_4 e6_5 =>
(cond ((e6_1.toList == ByteArray.empty.toList))
(k 0 0 false)
(zq127 e6_0 e6_4 e6_5 fun r7 =>
(cond ((!(r7.toList == e6_1.toList)))
(k 0 0 false)
(k e6_4 e6_5 true))))))
((cond ((a1.toList == ByteArray.empty.toList))
(k 0 0 false)
(zq127 a0 0 0 fun r8 =>
(cond ((!(r8.toList == a1.toList)))
(k 0 0 false)
(k 0 0 true))))))
theorem zt136 (N : Nat) (a0 : Int) (a1 : ByteArray) (k : Int → Int → Bool → O β) : zj136 N a0 a1 k = zb136 N (zj135 N) (zj127 N) a0 a1 k := by
  unfold zj136 zb136
  rfl
theorem ve40_0 (N : Nat) (zq133 : (a0 : Int) → (k : Bool → O β) → O β) (zq127 : (a0 : Int) → (a1 : Int) → (a2 : Int) → (k : ByteArray → O β) → O β) (zq135 : Nat → Int → ByteArray → Int → Int → Int → Int → Int → Int → Int → (Int → ByteArray → Int → Int → Int → Int → O β) → O β)  (a0 : Int) (a1 : ByteArray) (K : TV → O β) : evFn lay (VE40 N zq133 zq127 zq135) Tryz.f40 [.v (.one (.int .i64 a0)), .v (.one (.str a1))] K = zb136 N zq135 zq127 a0 a1 (fun z2 z3 z4 => K (.tup [.agg [.int .i64 z2, .int .i64 z3], .one (.bool z4)])) := by kernel_rfl
theorem e40_0 (N : Nat)  (a0 : Int) (a1 : ByteArray) (K : TV → O β) : evFn lay (E40 N) Tryz.f40 [.v (.one (.int .i64 a0)), .v (.one (.str a1))] K = zj136 N a0 a1 (fun z2 z3 z4 => K (.tup [.agg [.int .i64 z2, .int .i64 z3], .one (.bool z4)])) := (ve40_0 N (zj133 N) (zj127 N) (zj135 N) a0 a1 K).trans (zt136 N a0 a1 (fun z2 z3 z4 => K (.tup [.agg [.int .i64 z2, .int .i64 z3], .one (.bool z4)]))).symm
theorem o40 (N : Nat) : SpecOK (β := β) inv Tryz.prog 40 (S40 N) := by
  refine spec_of lay_ok mixed (E := E40 N) (specs_loops (specs_cons (o61 N) (specs_cons (o62 N) specs_nil))) muts_nil gs_nil Tryz.func40 (by kernel_rfl) 1 (by kernel_rfl) ⟨trivial, rk40_0 N⟩ fun args K r h => ?_
  unfold S40 VS40 at h
  split at h
  · exact (e40_0 N _ _ _).trans h
  · cases h
def VS17 (N : Nat) (zq139 : (a0 : Int) → (a1 : ByteArray) → (k : List (Int × Int) → Bool → O β) → O β) : Rv.Spec β := fun args K => match args with
  | [.v (.one (.int .i64 a0)), .v (.one (.str a1))] => zq139 a0 a1 (fun z2 z3 => K (.tup [.one (.sl 50 (.pairs z2)), .one (.bool z3)]))
  | _ => none
def S17 (N : Nat) : Rv.Spec β := VS17 N (zj139 N)
def h17_0_0  (v0 : Int) (v1 : Int) (v2 : Int) (v3 : List (Int × Int)) (v4 : List ByteArray) : St := ⟨.v (.one (.int .i64 v0)) :: tund :: tund :: tund :: tund :: tund :: .v (.one (.row 0)) :: tund :: tund :: tund :: tund :: tund :: tund :: tund :: tund :: tund :: tund :: tund :: tund :: tund :: tund :: tund :: .v (.one (.row 1)) :: .v (.one (.int .i64 v1)) :: .v (.one (.int .i64 v2)) :: tund :: tund :: tund :: tund :: tund :: tund :: tund :: tund :: tund :: tund :: tund :: tund :: tund :: tund :: tund :: tund :: tund :: tund :: tund :: tund :: tund :: [], [.row 50 (.pairs v3), .row 9 (.strs v4)]⟩
def x17_0_0_k0  (y0 : Bool) (y1 : List (Int × Int)) : St := ⟨tund :: tund :: tund :: tund :: .v (.one (.row 0)) :: .v (.one (.bool y0)) :: tund :: tund :: tund :: tund :: tund :: tund :: tund :: tund :: tund :: tund :: tund :: tund :: tund :: tund :: tund :: tund :: tund :: tund :: tund :: tund :: tund :: tund :: tund :: tund :: tund :: tund :: tund :: tund :: tund :: tund :: tund :: tund :: tund :: tund :: tund :: tund :: tund :: tund :: tund :: tund :: [], [.row 50 (.pairs y1)]⟩
def x17_0_0_k1  (y0 : Int) (y1 : List (Int × Int)) : St := ⟨.v (.one (.int .i64 y0)) :: tund :: tund :: tund :: tund :: tund :: .v (.one (.row 0)) :: tund :: tund :: tund :: tund :: tund :: tund :: tund :: tund :: tund :: tund :: tund :: tund :: tund :: tund :: tund :: tund :: tund :: tund :: tund :: tund :: tund :: tund :: tund :: tund :: tund :: tund :: tund :: tund :: tund :: tund :: tund :: tund :: tund :: tund :: tund :: tund :: tund :: tund :: tund :: [], [.row 50 (.pairs y1)]⟩
theorem fl17_0_0 (s : St) : refSt (h17_0_0 0 0 0 [] []) s = h17_0_0 (intS (oneA (vT (nx tund s.tmps 0)))) (intS (oneA (vT (nx tund s.tmps 23)))) (intS (oneA (vT (nx tund s.tmps 24)))) (rPairs (rowB_ (nx .dead s.blks 0))) (rStrs (rowB_ (nx .dead s.blks 1))) := by kernel_rfl
def VLS17_0 (N : Nat) (zq138 : Nat → Int → Int → Int → List (Int × Int) → List ByteArray → (Bool → List (Int × Int) → O β) → (Int → List (Int × Int) → O β) → O β) : LSpec β := fun s K => cond (shpSt (h17_0_0 0 0 0 [] []) s) ((fun (v0 : Int) (v1 : Int) (v2 : Int) (v3 : List (Int × Int)) (v4 : List ByteArray) => zq138  N v0 v1 v2 v3 v4 (fun y0 y1 => K .ret (x17_0_0_k0  y0 y1)) (fun y0 y1 => K (.exit 0) (x17_0_0_k1  y0 y1))) (intS (oneA (vT (nx tund s.tmps 0)))) (intS (oneA (vT (nx tund s.tmps 23)))) (intS (oneA (vT (nx tund s.tmps 24)))) (rPairs (rowB_ (nx .dead s.blks 0))) (rStrs (rowB_ (nx .dead s.blks 1)))) (none)
def LS17_0 (N : Nat) : LSpec β := VLS17_0 N (zj138 N)
def VE17 (N : Nat) (zq53 : (a0 : Int) → (k : Bool → O β) → O β) (zq136 : (a0 : Int) → (a1 : ByteArray) → (k : Int → Int → Bool → O β) → O β) (zq64 : (a0 : Int) → (a1 : List (Int × Int)) → (k : Bool → O β) → O β) (zq138 : Nat → Int → Int → Int → List (Int × Int) → List ByteArray → (Bool → List (Int × Int) → O β) → (Int → List (Int × Int) → O β) → O β) : Env β := ⟨[(38, VS38 N zq53), (39, S39 N), (40, VS40 N zq136), (25, VS25 N zq64)], [], [(0, VLS17_0 N zq138)], [], ⟨[], [], [], []⟩⟩
def E17 (N : Nat) : Env β := VE17 N (zj53 N) (zj136 N) (zj64 N) (zj138 N)
def zb137 (N : Nat) (zq136 : (a0 : Int) → (a1 : ByteArray) → (k : Int → Int → Bool → O β) → O β)  (v0 : Int) (v1 : Int) (v2 : Int) (v3 : List (Int × Int)) (v4 : List ByteArray) (rec_ : Int → Int → Int → List (Int × Int) → List ByteArray → O β) (k0 : Bool → List (Int × Int) → O β) (k1 : Int → List (Int × Int) → O β) : O β :=
(cond ((decide (v2 < v1)))
((gd ((decide (0 ≤ v2)))
((gd ((decide (v2 < (v4.length : Int))))
(zq136 v0 ((rd ByteArray.empty v4 v2)) fun r6 r7 r8 =>
(cond (!r8)
(k0 false (([] : List (Int × Int))))
((gd ((decide ((v3.length + ((([] : List (Int × Int)) ++ [(r6, r7)])).length) * 16 ≤ 140737488355328)))
(rec_ v0 v1 ((w64 (v2 + 1))) ((v3 ++ (([] : List (Int × Int)) ++ [(r6, r7)]))) v4)))))))))
(k1 v0 v3))
theorem zt137 (N : Nat)  (v0 : Int) (v1 : Int) (v2 : Int) (v3 : List (Int × Int)) (v4 : List ByteArray) (rec_ : Int → Int → Int → List (Int × Int) → List ByteArray → O β) (k0 : Bool → List (Int × Int) → O β) (k1 : Int → List (Int × Int) → O β) : zj137 N v0 v1 v2 v3 v4 rec_ k0 k1 = zb137 N (zj136 N) v0 v1 v2 v3 v4 rec_ k0 k1 := by
  unfold zj137 zb137
  rfl
theorem vst17_0_0 (N : Nat) (zq53 : (a0 : Int) → (k : Bool → O β) → O β) (zq136 : (a0 : Int) → (a1 : ByteArray) → (k : Int → Int → Bool → O β) → O β) (zq64 : (a0 : Int) → (a1 : List (Int × Int)) → (k : Bool → O β) → O β) (zq138 : Nat → Int → Int → Int → List (Int × Int) → List ByteArray → (Bool → List (Int × Int) → O β) → (Int → List (Int × Int) → O β) → O β)  (v0 : Int) (v1 : Int) (v2 : Int) (v3 : List (Int × Int)) (v4 : List ByteArray) (rec_ : St → O β) (K : Exit → St → O β) :
    ev lay (VE17 N zq53 zq136 zq64 zq138) (retMask Tryz.f17) (lp Tryz.f17 0).body (lp Tryz.f17 0).ex ((lp Tryz.f17 0).lv (retMask Tryz.f17)) (h17_0_0  v0 v1 v2 v3 v4) (nextR (fun s' => rec_ (s'.tidy ((lp Tryz.f17 0).lv (retMask Tryz.f17)))) K) = zb137 N zq136  v0 v1 v2 v3 v4 (fun v0 v1 v2 v3 v4 => rec_ (h17_0_0  v0 v1 v2 v3 v4)) (fun y0 y1 => K .ret (x17_0_0_k0  y0 y1)) (fun y0 y1 => K (.exit 0) (x17_0_0_k1  y0 y1)) := by kernel_rfl
theorem st17_0_0 (N : Nat)  (v0 : Int) (v1 : Int) (v2 : Int) (v3 : List (Int × Int)) (v4 : List ByteArray) (rec_ : St → O β) (K : Exit → St → O β) :
    ev lay (E17 N) (retMask Tryz.f17) (lp Tryz.f17 0).body (lp Tryz.f17 0).ex ((lp Tryz.f17 0).lv (retMask Tryz.f17)) (h17_0_0  v0 v1 v2 v3 v4) (nextR (fun s' => rec_ (s'.tidy ((lp Tryz.f17 0).lv (retMask Tryz.f17)))) K) = zj137 N  v0 v1 v2 v3 v4 (fun v0 v1 v2 v3 v4 => rec_ (h17_0_0  v0 v1 v2 v3 v4)) (fun y0 y1 => K .ret (x17_0_0_k0  y0 y1)) (fun y0 y1 => K (.exit 0) (x17_0_0_k1  y0 y1)) := (vst17_0_0 N (zj53 N) (zj136 N) (zj64 N) (zj138 N) v0 v1 v2 v3 v4 rec_ K).trans (zt137 N  v0 v1 v2 v3 v4 (fun v0 v1 v2 v3 v4 => rec_ (h17_0_0  v0 v1 v2 v3 v4)) (fun y0 y1 => K .ret (x17_0_0_k0  y0 y1)) (fun y0 y1 => K (.exit 0) (x17_0_0_k1  y0 y1))).symm
theorem ro17_0_0 (N : Nat)  (K : Exit → St → O β) : ∀ (F : Nat) (v0 : Int) (v1 : Int) (v2 : Int) (v3 : List (Int × Int)) (v4 : List ByteArray), (lp Tryz.f17 0).rounds lay (E17 N) (retMask Tryz.f17) F (h17_0_0  v0 v1 v2 v3 v4) K = zj138 N  F v0 v1 v2 v3 v4 (fun y0 y1 => K .ret (x17_0_0_k0  y0 y1)) (fun y0 y1 => K (.exit 0) (x17_0_0_k1  y0 y1)) := by
  intro F
  induction F with
  | zero => intros; rfl
  | succ F ih =>
    intros
    rw [rounds_next]
    refine (st17_0_0 N  _ _ _ _ _ (fun s => (lp Tryz.f17 0).rounds lay (E17 N) (retMask Tryz.f17) F s K) K).trans ?_
    simp only [ih]
    rfl
theorem lk17_0 (N : Nat) : lookL (E17 (β := β) N).loops (lp Tryz.f17 0).id = LS17_0 N := by kernel_rfl
theorem rk17_0 (N : Nat) : RoundsOK lay (E17 (β := β) N) (retMask Tryz.f17) (lp Tryz.f17 0) := by
  intro s K r h
  rw [lk17_0] at h
  unfold LS17_0 VLS17_0 at h
  cases hb : shpSt (h17_0_0 0 0 0 [] []) s with
  | true =>
    rw [hb, cond_true] at h
    exact ⟨N, by rw [← shpSt_ref hb, fl17_0_0 s]; exact (ro17_0_0 N  K N (intS (oneA (vT (nx tund s.tmps 0)))) (intS (oneA (vT (nx tund s.tmps 23)))) (intS (oneA (vT (nx tund s.tmps 24)))) (rPairs (rowB_ (nx .dead s.blks 0))) (rStrs (rowB_ (nx .dead s.blks 1)))).trans h⟩
  | false =>
  rw [hb, cond_false] at h
  clear hb
  cases h
def zb139 (N : Nat) (zq53 : (a0 : Int) → (k : Bool → O β) → O β) (zq138 : Nat → Int → Int → Int → List (Int × Int) → List ByteArray → (Bool → List (Int × Int) → O β) → (Int → List (Int × Int) → O β) → O β) (zq64 : (a0 : Int) → (a1 : List (Int × Int)) → (k : Bool → O β) → O β) (a0 : Int) (a1 : ByteArray) (k : List (Int × Int) → Bool → O β) : O β :=
zq53 a0 fun r4 =>
(cond (!r4)
(k (([] : List (Int × Int))) false)
((cond ((decide ((a1.size : Int) > 200)))
(k (([] : List (Int × Int))) false)
((cond ((a1.toList == ((strOf [48])).toList))
(k (([] : List (Int × Int))) true)
(strings_Split N a1 ((strOf [124])) fun r5 =>
zq138  N a0 ((r5.length : Int)) 0 (([] : List (Int × Int))) r5 (fun e9_0 e9_1 =>
k e9_1 e9_0) (fun e10_0 e10_1 =>
zq64 e10_0 e10_1 fun r11 =>
(cond (!r11)
(k (([] : List (Int × Int))) false)
(k e10_1 true)))))))))
theorem zt139 (N : Nat) (a0 : Int) (a1 : ByteArray) (k : List (Int × Int) → Bool → O β) : zj139 N a0 a1 k = zb139 N (zj53 N) (zj138 N) (zj64 N) a0 a1 k := by
  unfold zj139 zb139
  rfl
theorem ve17_0 (N : Nat) (zq53 : (a0 : Int) → (k : Bool → O β) → O β) (zq136 : (a0 : Int) → (a1 : ByteArray) → (k : Int → Int → Bool → O β) → O β) (zq64 : (a0 : Int) → (a1 : List (Int × Int)) → (k : Bool → O β) → O β) (zq138 : Nat → Int → Int → Int → List (Int × Int) → List ByteArray → (Bool → List (Int × Int) → O β) → (Int → List (Int × Int) → O β) → O β)  (a0 : Int) (a1 : ByteArray) (K : TV → O β) : evFn lay (VE17 N zq53 zq136 zq64 zq138) Tryz.f17 [.v (.one (.int .i64 a0)), .v (.one (.str a1))] K = zb139 N zq53 zq138 zq64 a0 a1 (fun z2 z3 => K (.tup [.one (.sl 50 (.pairs z2)), .one (.bool z3)])) := by kernel_rfl
theorem e17_0 (N : Nat)  (a0 : Int) (a1 : ByteArray) (K : TV → O β) : evFn lay (E17 N) Tryz.f17 [.v (.one (.int .i64 a0)), .v (.one (.str a1))] K = zj139 N a0 a1 (fun z2 z3 => K (.tup [.one (.sl 50 (.pairs z2)), .one (.bool z3)])) := (ve17_0 N (zj53 N) (zj136 N) (zj64 N) (zj138 N) a0 a1 K).trans (zt139 N a0 a1 (fun z2 z3 => K (.tup [.one (.sl 50 (.pairs z2)), .one (.bool z3)]))).symm
theorem o17 (N : Nat) : SpecOK (β := β) inv Tryz.prog 17 (S17 N) := by
  refine spec_of lay_ok mixed (E := E17 N) (specs_loops (specs_cons (o38 N) (specs_cons (o39 N) (specs_cons (o40 N) (specs_cons (o25 N) specs_nil))))) muts_nil gs_nil Tryz.func17 (by kernel_rfl) 1 (by kernel_rfl) ⟨trivial, rk17_0 N⟩ fun args K r h => ?_
  unfold S17 VS17 at h
  split at h
  · exact (e17_0 N _ _ _).trans h
  · cases h
def VS18 (N : Nat) (zq140 : (a0 : List Int) → (k : Int → List (Int × Int) → O β) → O β) : Rv.Spec β := fun args K => match args with
  | [.v (.one (.sl 5 (.ints .u8 a0)))] => zq140 a0 (fun z1 z2 => K (.tup [.one (.int .i64 z1), .one (.sl 50 (.pairs z2))]))
  | _ => none
def S18 (N : Nat) : Rv.Spec β := VS18 N (zj140 N)
def VE18 (N : Nat) (zq51 : (a0 : List Int) → (k : Int → List (Int × Int) → O β) → O β) : Env β := ⟨[(24, VS24 N zq51)], [], [], [], ⟨[], [], [], []⟩⟩
def E18 (N : Nat) : Env β := VE18 N (zj51 N)
def zb140 (N : Nat) (zq51 : (a0 : List Int) → (k : Int → List (Int × Int) → O β) → O β) (a0 : List Int) (k : Int → List (Int × Int) → O β) : O β :=
zq51 a0 fun r3 r4 =>
k r3 r4
theorem zt140 (N : Nat) (a0 : List Int) (k : Int → List (Int × Int) → O β) : zj140 N a0 k = zb140 N (zj51 N) a0 k := by
  unfold zj140 zb140
  rfl
theorem ve18_0 (N : Nat) (zq51 : (a0 : List Int) → (k : Int → List (Int × Int) → O β) → O β)  (a0 : List Int) (K : TV → O β) : evFn lay (VE18 N zq51) Tryz.f18 [.v (.one (.sl 5 (.ints .u8 a0)))] K = zb140 N zq51 a0 (fun z1 z2 => K (.tup [.one (.int .i64 z1), .one (.sl 50 (.pairs z2))])) := by kernel_rfl
theorem e18_0 (N : Nat)  (a0 : List Int) (K : TV → O β) : evFn lay (E18 N) Tryz.f18 [.v (.one (.sl 5 (.ints .u8 a0)))] K = zj140 N a0 (fun z1 z2 => K (.tup [.one (.int .i64 z1), .one (.sl 50 (.pairs z2))])) := (ve18_0 N (zj51 N) a0 K).trans (zt140 N a0 (fun z1 z2 => K (.tup [.one (.int .i64 z1), .one (.sl 50 (.pairs z2))]))).symm
theorem o18 (N : Nat) : SpecOK (β := β) inv Tryz.prog 18 (S18 N) := by
  refine spec_of lay_ok mixed (E := E18 N) (specs_loops (specs_cons (o24 N) specs_nil)) muts_nil gs_nil Tryz.func18 (by kernel_rfl) 0 (by kernel_rfl) trivial fun args K r h => ?_
  unfold S18 VS18 at h
  split at h
  · exact (e18_0 N _ _).trans h
  · cases h
end Go.Proofs.YtddflpokemgnmaaGreatDoor
