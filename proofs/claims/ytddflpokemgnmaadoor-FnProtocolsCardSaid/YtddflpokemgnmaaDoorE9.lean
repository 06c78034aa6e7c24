/- The functions that the claims reach answer as their texts do. -/
import Derived.Test.YtddflpokemgnmaaDoorE8
namespace Go.Proofs.YtddflpokemgnmaaDoor
open Go.Rv
set_option maxRecDepth 100000
set_option maxHeartbeats 2000000
set_option linter.unusedVariables false
variable {β : Type}
def VS78 (N : Nat) (zq135 : (a0 : Int) → (a1 : List Int) → (a2 : Int) → (a3 : Int) → (k0 : ByteArray → List Int → Int → Int → O β) → O β) : GSpec β := fun args bl K => match args, bl with
  | [.v (.one (.ptr 0 0)), .v (.one (.int .i64 a0))], [.pcells 0 96 [.sl 5 (.ints .u8 a1), .int .i64 a2, .int .i64 a3]] => zq135 a0 a1 a2 a3 (fun y0 y1 y2 y3 => K (.v (.one (.str y0))) [.pcells 0 96 [.sl 5 (.ints .u8 y1), .int .i64 y2, .int .i64 y3]])
  | _, _ => none
def S78 (N : Nat) : GSpec β := VS78 N (zj135 N)
def h78_0_0  (v0 : Int) (v1 : Int) (v2 : List Int) (v3 : Int) (v4 : Int) (v5 : List Int) : St := ⟨.v (.one (.ptr 0 0)) :: tund :: tund :: tund :: tund :: .v (.one (.row 1)) :: .v (.one (.int .i64 v0)) :: .v (.one (.int .i64 v1)) :: tund :: tund :: tund :: tund :: tund :: tund :: tund :: tund :: tund :: tund :: tund :: tund :: tund :: tund :: tund :: tund :: tund :: tund :: tund :: tund :: tund :: tund :: tund :: tund :: tund :: tund :: tund :: tund :: tund :: tund :: [], [.pcells 0 96 [.sl 5 (.ints .u8 v2), .int .i64 v3, .int .i64 v4], .row 5 (.ints .u8 v5)]⟩
def x78_0_0_k0  (y0 : List Int) (y1 : Int) (y2 : Int) (y3 : List Int) : St := ⟨tund :: tund :: tund :: tund :: tund :: .v (.one (.row 1)) :: tund :: tund :: tund :: tund :: tund :: tund :: tund :: tund :: tund :: tund :: tund :: tund :: tund :: tund :: tund :: tund :: tund :: tund :: tund :: tund :: tund :: tund :: tund :: tund :: tund :: tund :: tund :: tund :: tund :: tund :: tund :: tund :: [], [.pcells 0 96 [.sl 5 (.ints .u8 y0), .int .i64 y1, .int .i64 y2], .row 5 (.ints .u8 y3)]⟩
theorem fl78_0_0 (s : St) : refSt (h78_0_0 0 0 [] 0 0 []) s = h78_0_0 (intS (oneA (vT (nx tund s.tmps 6)))) (intS (oneA (vT (nx tund s.tmps 7)))) (rInts (rowV (nx .und (cellsB (nx .dead s.blks 0)) 0))) (intS (nx .und (cellsB (nx .dead s.blks 0)) 1)) (intS (nx .und (cellsB (nx .dead s.blks 0)) 2)) (rInts (rowB_ (nx .dead s.blks 1))) := by kernel_rfl
def VLS78_0 (N : Nat) (zq134 : Nat → Int → Int → List Int → Int → Int → List Int → (List Int → Int → Int → List Int → O β) → O β) : LSpec β := fun s K => cond (shpSt (h78_0_0 0 0 [] 0 0 []) s) ((fun (v0 : Int) (v1 : Int) (v2 : List Int) (v3 : Int) (v4 : Int) (v5 : List Int) => zq134  N v0 v1 v2 v3 v4 v5 (fun y0 y1 y2 y3 => K (.exit 0) (x78_0_0_k0  y0 y1 y2 y3))) (intS (oneA (vT (nx tund s.tmps 6)))) (intS (oneA (vT (nx tund s.tmps 7)))) (rInts (rowV (nx .und (cellsB (nx .dead s.blks 0)) 0))) (intS (nx .und (cellsB (nx .dead s.blks 0)) 1)) (intS (nx .und (cellsB (nx .dead s.blks 0)) 2)) (rInts (rowB_ (nx .dead s.blks 1)))) (none)
def LS78_0 (N : Nat) : LSpec β := VLS78_0 N (zj134 N)
def VE78 (N : Nat) (zq134 : Nat → Int → Int → List Int → Int → Int → List Int → (List Int → Int → Int → List Int → O β) → O β) (zq5 : (a0 : Int) → (a1 : List Int) → (a2 : Int) → (a3 : Int) → (k0 : Int → List Int → Int → Int → O β) → O β) (zq4 : (a0 : List Int) → (a1 : Int) → (a2 : Int) → (k0 : Int → List Int → Int → Int → O β) → O β) : Env β := ⟨[], [], [(0, VLS78_0 N zq134)], [(70, VS70 N zq5), (79, VS79 N zq4)], ⟨[], [], [], []⟩⟩
def E78 (N : Nat) : Env β := VE78 N (zj134 N) (zj5 N) (zj4 N)
def zb133 (N : Nat) (zq4 : (a0 : List Int) → (a1 : Int) → (a2 : Int) → (k0 : Int → List Int → Int → Int → O β) → O β)  (v0 : Int) (v1 : Int) (v2 : List Int) (v3 : Int) (v4 : Int) (v5 : List Int) (rec_ : Int → Int → List Int → Int → Int → List Int → O β) (k0 : List Int → Int → Int → List Int → O β) : O β :=
(cond ((decide (v1 > 0)))
(zq4 v2 v3 v4 (fun r11_0 r11_1 r11_2 r11_3 =>
(cond ((v0 == 1))
((cond ((v0 == 2))
((gd ((decide ((v5.length + ((([] : List Int) ++ [(w8 ((w64 (97 + (remI (remI r11_0 2) 4)))))])).length) * 1 ≤ 140737488355328)))
(rec_ v0 ((w64 (v1 - 1))) r11_1 r11_2 r11_3 ((v5 ++ (([] : List Int) ++ [(w8 ((w64 (97 + (remI (remI r11_0 2) 4)))))]))))))
((gd ((decide ((v5.length + ((([] : List Int) ++ [(w8 ((remI r11_0 2)))])).length) * 1 ≤ 140737488355328)))
(rec_ v0 ((w64 (v1 - 1))) r11_1 r11_2 r11_3 ((v5 ++ (([] : List Int) ++ [(w8 ((remI r11_0 2)))]))))))))
((cond ((v0 == 2))
((gd ((decide ((v5.length + ((([] : List Int) ++ [(w8 ((w64 (97 + (remI r11_0 4)))))])).length) * 1 ≤ 140737488355328)))
(rec_ v0 ((w64 (v1 - 1))) r11_1 r11_2 r11_3 ((v5 ++ (([] : List Int) ++ [(w8 ((w64 (97 + (remI r11_0 4)))))]))))))
((gd ((decide ((v5.length + ((([] : List Int) ++ [(w8 (r11_0))])).length) * 1 ≤ 140737488355328)))
(rec_ v0 ((w64 (v1 - 1))) r11_1 r11_2 r11_3 ((v5 ++ (([] : List Int) ++ [(w8 (r11_0))])))))))))))
(k0 v2 v3 v4 v5))
theorem zt133 (N : Nat)  (v0 : Int) (v1 : Int) (v2 : List Int) (v3 : Int) (v4 : Int) (v5 : List Int) (rec_ : Int → Int → List Int → Int → Int → List Int → O β) (k0 : List Int → Int → Int → List Int → O β) : zj133 N v0 v1 v2 v3 v4 v5 rec_ k0 = zb133 N (zj4 N) v0 v1 v2 v3 v4 v5 rec_ k0 := by
  unfold zj133 zb133
  rfl
theorem vst78_0_0 (N : Nat) (zq134 : Nat → Int → Int → List Int → Int → Int → List Int → (List Int → Int → Int → List Int → O β) → O β) (zq5 : (a0 : Int) → (a1 : List Int) → (a2 : Int) → (a3 : Int) → (k0 : Int → List Int → Int → Int → O β) → O β) (zq4 : (a0 : List Int) → (a1 : Int) → (a2 : Int) → (k0 : Int → List Int → Int → Int → O β) → O β)  (v0 : Int) (v1 : Int) (v2 : List Int) (v3 : Int) (v4 : Int) (v5 : List Int) (rec_ : St → O β) (K : Exit → St → O β) :
    ev lay (VE78 N zq134 zq5 zq4) (retMask Tryd.f78) (lp Tryd.f78 0).body (lp Tryd.f78 0).ex ((lp Tryd.f78 0).lv (retMask Tryd.f78)) (h78_0_0  v0 v1 v2 v3 v4 v5) (nextR (fun s' => rec_ (s'.tidy ((lp Tryd.f78 0).lv (retMask Tryd.f78)))) K) = zb133 N zq4  v0 v1 v2 v3 v4 v5 (fun v0 v1 v2 v3 v4 v5 => rec_ (h78_0_0  v0 v1 v2 v3 v4 v5)) (fun y0 y1 y2 y3 => K (.exit 0) (x78_0_0_k0  y0 y1 y2 y3)) := by kernel_rfl
theorem st78_0_0 (N : Nat)  (v0 : Int) (v1 : Int) (v2 : List Int) (v3 : Int) (v4 : Int) (v5 : List Int) (rec_ : St → O β) (K : Exit → St → O β) :
    ev lay (E78 N) (retMask Tryd.f78) (lp Tryd.f78 0).body (lp Tryd.f78 0).ex ((lp Tryd.f78 0).lv (retMask Tryd.f78)) (h78_0_0  v0 v1 v2 v3 v4 v5) (nextR (fun s' => rec_ (s'.tidy ((lp Tryd.f78 0).lv (retMask Tryd.f78)))) K) = zj133 N  v0 v1 v2 v3 v4 v5 (fun v0 v1 v2 v3 v4 v5 => rec_ (h78_0_0  v0 v1 v2 v3 v4 v5)) (fun y0 y1 y2 y3 => K (.exit 0) (x78_0_0_k0  y0 y1 y2 y3)) := (vst78_0_0 N (zj134 N) (zj5 N) (zj4 N) v0 v1 v2 v3 v4 v5 rec_ K).trans (zt133 N  v0 v1 v2 v3 v4 v5 (fun v0 v1 v2 v3 v4 v5 => rec_ (h78_0_0  v0 v1 v2 v3 v4 v5)) (fun y0 y1 y2 y3 => K (.exit 0) (x78_0_0_k0  y0 y1 y2 y3))).symm
theorem ro78_0_0 (N : Nat)  (K : Exit → St → O β) : ∀ (F : Nat) (v0 : Int) (v1 : Int) (v2 : List Int) (v3 : Int) (v4 : Int) (v5 : List Int), (lp Tryd.f78 0).rounds lay (E78 N) (retMask Tryd.f78) F (h78_0_0  v0 v1 v2 v3 v4 v5) K = zj134 N  F v0 v1 v2 v3 v4 v5 (fun y0 y1 y2 y3 => K (.exit 0) (x78_0_0_k0  y0 y1 y2 y3)) := by
  intro F
  induction F with
  | zero => intros; rfl
  | succ F ih =>
    intros
    rw [rounds_next]
    refine (st78_0_0 N  _ _ _ _ _ _ (fun s => (lp Tryd.f78 0).rounds lay (E78 N) (retMask Tryd.f78) F s K) K).trans ?_
    simp only [ih]
    rfl
theorem lk78_0 (N : Nat) : lookL (E78 (β := β) N).loops (lp Tryd.f78 0).id = LS78_0 N := by kernel_rfl
theorem rk78_0 (N : Nat) : RoundsOK lay (E78 (β := β) N) (retMask Tryd.f78) (lp Tryd.f78 0) := by
  intro s K r h
  rw [lk78_0] at h
  unfold LS78_0 VLS78_0 at h
  cases hb : shpSt (h78_0_0 0 0 [] 0 0 []) s with
  | true =>
    rw [hb, cond_true] at h
    exact ⟨N, by rw [← shpSt_ref hb, fl78_0_0 s]; exact (ro78_0_0 N  K N (intS (oneA (vT (nx tund s.tmps 6)))) (intS (oneA (vT (nx tund s.tmps 7)))) (rInts (rowV (nx .und (cellsB (nx .dead s.blks 0)) 0))) (intS (nx .und (cellsB (nx .dead s.blks 0)) 1)) (intS (nx .und (cellsB (nx .dead s.blks 0)) 2)) (rInts (rowB_ (nx .dead s.blks 1)))).trans h⟩
  | false =>
  rw [hb, cond_false] at h
  clear hb
  cases h
def zb135 (N : Nat) (zq5 : (a0 : Int) → (a1 : List Int) → (a2 : Int) → (a3 : Int) → (k0 : Int → List Int → Int → Int → O β) → O β) (zq134 : Nat → Int → Int → List Int → Int → Int → List Int → (List Int → Int → Int → List Int → O β) → O β) (a0 : Int) (a1 : List Int) (a2 : Int) (a3 : Int) (k0 : ByteArray → List Int → Int → Int → O β) : O β :=
zq5 4 a1 a2 a3 (fun r9_0 r9_1 r9_2 r9_3 =>
zq5 ((w64 (a0 + 1))) r9_1 r9_2 r9_3 (fun r10_0 r10_1 r10_2 r10_3 =>
zq134  N r9_0 r10_0 r10_1 r10_2 r10_3 (([] : List Int)) (fun e12_0 e12_1 e12_2 e12_3 =>
k0 ((strOf e12_3)) e12_0 e12_1 e12_2)))
theorem zt135 (N : Nat) (a0 : Int) (a1 : List Int) (a2 : Int) (a3 : Int) (k0 : ByteArray → List Int → Int → Int → O β) : zj135 N a0 a1 a2 a3 k0 = zb135 N (zj5 N) (zj134 N) a0 a1 a2 a3 k0 := by
  unfold zj135 zb135
  rfl
theorem ve78_0 (N : Nat) (zq134 : Nat → Int → Int → List Int → Int → Int → List Int → (List Int → Int → Int → List Int → O β) → O β) (zq5 : (a0 : Int) → (a1 : List Int) → (a2 : Int) → (a3 : Int) → (k0 : Int → List Int → Int → Int → O β) → O β) (zq4 : (a0 : List Int) → (a1 : Int) → (a2 : Int) → (k0 : Int → List Int → Int → Int → O β) → O β) (a0 : Int) (a1 : List Int) (a2 : Int) (a3 : Int) (K : TV → List Blk → O β) : evFnG lay (VE78 N zq134 zq5 zq4) Tryd.f78 [.v (.one (.ptr 0 0)), .v (.one (.int .i64 a0))] [.pcells 0 96 [.sl 5 (.ints .u8 a1), .int .i64 a2, .int .i64 a3]] K = zb135 N zq5 zq134 a0 a1 a2 a3 (fun y0 y1 y2 y3 => K (.v (.one (.str y0))) [.pcells 0 96 [.sl 5 (.ints .u8 y1), .int .i64 y2, .int .i64 y3]]) := by kernel_rfl
theorem e78_0 (N : Nat) (a0 : Int) (a1 : List Int) (a2 : Int) (a3 : Int) (K : TV → List Blk → O β) : evFnG lay (E78 N) Tryd.f78 [.v (.one (.ptr 0 0)), .v (.one (.int .i64 a0))] [.pcells 0 96 [.sl 5 (.ints .u8 a1), .int .i64 a2, .int .i64 a3]] K = zj135 N a0 a1 a2 a3 (fun y0 y1 y2 y3 => K (.v (.one (.str y0))) [.pcells 0 96 [.sl 5 (.ints .u8 y1), .int .i64 y2, .int .i64 y3]]) := (ve78_0 N (zj134 N) (zj5 N) (zj4 N) a0 a1 a2 a3 K).trans (zt135 N a0 a1 a2 a3 (fun y0 y1 y2 y3 => K (.v (.one (.str y0))) [.pcells 0 96 [.sl 5 (.ints .u8 y1), .int .i64 y2, .int .i64 y3]])).symm
theorem o78 (N : Nat) : GOK (β := β) inv Tryd.prog 78 (S78 N) := by
  refine g_of lay_ok mixed (E := E78 N) (specs_loops specs_nil) muts_nil (gs_cons (o70 N) (gs_cons (o79 N) gs_nil)) Tryd.func78 (by kernel_rfl) 1 (by kernel_rfl) ⟨trivial, rk78_0 N⟩ fun args bl K r h => ?_
  unfold S78 VS78 at h
  split at h
  · exact (e78_0 N _ _ _ _ _).trans h
  · cases h
def VS69 (N : Nat) (zq136 : (a0 : ByteArray) → (a1 : List Int) → (a2 : Int) → (a3 : Int) → (k0 : ByteArray → List Int → Int → Int → O β) → O β) : GSpec β := fun args bl K => match args, bl with
  | [.v (.one (.ptr 0 0)), .v (.one (.str a0))], [.pcells 0 96 [.sl 5 (.ints .u8 a1), .int .i64 a2, .int .i64 a3]] => zq136 a0 a1 a2 a3 (fun y0 y1 y2 y3 => K (.v (.one (.str y0))) [.pcells 0 96 [.sl 5 (.ints .u8 y1), .int .i64 y2, .int .i64 y3]])
  | _, _ => none
def S69 (N : Nat) : GSpec β := VS69 N (zj136 N)
def VE69 (N : Nat) (zq135 : (a0 : Int) → (a1 : List Int) → (a2 : Int) → (a3 : Int) → (k0 : ByteArray → List Int → Int → Int → O β) → O β) (zq5 : (a0 : Int) → (a1 : List Int) → (a2 : Int) → (a3 : Int) → (k0 : Int → List Int → Int → Int → O β) → O β) (zq4 : (a0 : List Int) → (a1 : Int) → (a2 : Int) → (k0 : Int → List Int → Int → Int → O β) → O β) : Env β := ⟨[], [], [], [(78, VS78 N zq135), (70, VS70 N zq5), (79, VS79 N zq4)], ⟨[], [], [], []⟩⟩
def E69 (N : Nat) : Env β := VE69 N (zj135 N) (zj5 N) (zj4 N)
def zb136 (N : Nat) (zq135 : (a0 : Int) → (a1 : List Int) → (a2 : Int) → (a3 : Int) → (k0 : ByteArray → List Int → Int → Int → O β) → O β) (zq5 : (a0 : Int) → (a1 : List Int) → (a2 : Int) → (a3 : Int) → (k0 : Int → List Int → Int → Int → O β) → O β) (zq4 : (a0 : List Int) → (a1 : Int) → (a2 : Int) → (k0 : Int → List Int → Int → Int → O β) → O β) (a0 : ByteArray) (a1 : List Int) (a2 : Int) (a3 : Int) (k0 : ByteArray → List Int → Int → Int → O β) : O β :=
(cond (((a0.size : Int) == 0))
(zq135 3 a1 a2 a3 (fun r13_0 r13_1 r13_2 r13_3 =>
k0 r13_0 r13_1 r13_2 r13_3))
(zq5 ((a0.size : Int)) a1 a2 a3 (fun r14_0 r14_1 r14_2 r14_3 =>
zq5 4 r14_1 r14_2 r14_3 (fun r15_0 r15_1 r15_2 r15_3 =>
(cond ((r15_0 == 0))
((gd ((decide (0 ≤ r14_0)))
((gd ((decide (r14_0 ≤ (a0.size : Int))))
((gd ((decide (0 ≤ (w64 (r14_0 + 1)))))
((gd ((decide ((w64 (r14_0 + 1)) ≤ (a0.size : Int))))
((gd ((decide (((a0.extract 0 (Int.toNat r14_0))).size + ((a0.extract (Int.toNat (w64 (r14_0 + 1))) a0.size)).size ≤ 9223372036854775807)))
(k0 (((a0.extract 0 (Int.toNat r14_0)) ++ (a0.extract (Int.toNat (w64 (r14_0 + 1))) a0.size))) r15_1 r15_2 r15_3)))))))))))
((cond ((r15_0 == 1))
((gd ((decide (0 ≤ r14_0)))
((gd ((decide (r14_0 ≤ (a0.size : Int))))
((gd ((decide (0 ≤ r14_0)))
((gd ((decide (r14_0 ≤ (a0.size : Int))))
(zq4 r15_1 r15_2 r15_3 (fun r16_0 r16_1 r16_2 r16_3 =>
(gd ((decide (((a0.extract 0 (Int.toNat r14_0))).size + ((strOf ((([] : List Int) ++ [(w8 (r16_0))])))).size ≤ 9223372036854775807)))
((gd ((decide ((((a0.extract 0 (Int.toNat r14_0)) ++ (strOf ((([] : List Int) ++ [(w8 (r16_0))]))))).size + ((a0.extract (Int.toNat r14_0) a0.size)).size ≤ 9223372036854775807)))
(k0 ((((a0.extract 0 (Int.toNat r14_0)) ++ (strOf ((([] : List Int) ++ [(w8 (r16_0))])))) ++ (a0.extract (Int.toNat r14_0) a0.size))) r16_1 r16_2 r16_3))))))))))))))
((cond ((r15_0 == 2))
((gd ((decide (0 ≤ r14_0)))
((gd ((decide (r14_0 ≤ (a0.size : Int))))
(k0 ((a0.extract 0 (Int.toNat r14_0))) r15_1 r15_2 r15_3)))))
((gd ((decide (0 ≤ r14_0)))
((gd ((decide (r14_0 ≤ (a0.size : Int))))
((gd ((decide (0 ≤ r14_0)))
((gd ((decide (r14_0 < (a0.size : Int))))
((gd ((decide (0 ≤ (w64 (r14_0 + 1)))))
((gd ((decide ((w64 (r14_0 + 1)) ≤ (a0.size : Int))))
(zq5 255 r15_1 r15_2 r15_3 (fun r17_0 r17_1 r17_2 r17_3 =>
(gd ((decide (((a0.extract 0 (Int.toNat r14_0))).size + ((strOf ((([] : List Int) ++ [(w8 ((bits .xor .i64 (w64 ((bt a0 r14_0))) (w64 (1 + r17_0)))))])))).size ≤ 9223372036854775807)))
((gd ((decide ((((a0.extract 0 (Int.toNat r14_0)) ++ (strOf ((([] : List Int) ++ [(w8 ((bits .xor .i64 (w64 ((bt a0 r14_0))) (w64 (1 + r17_0)))))]))))).size + ((a0.extract (Int.toNat (w64 (r14_0 + 1))) a0.size)).size ≤ 9223372036854775807)))
(k0 ((((a0.extract 0 (Int.toNat r14_0)) ++ (strOf ((([] : List Int) ++ [(w8 ((bits .xor .i64 (w64 ((bt a0 r14_0))) (w64 (1 + r17_0)))))])))) ++ (a0.extract (Int.toNat (w64 (r14_0 + 1))) a0.size))) r17_1 r17_2 r17_3)))))))))))))))))))))))))))
theorem zt136 (N : Nat) (a0 : ByteArray) (a1 : List Int) (a2 : Int) (a3 : Int) (k0 : ByteArray → List Int → Int → Int → O β) : zj136 N a0 a1 a2 a3 k0 = zb136 N (zj135 N) (zj5 N) (zj4 N) a0 a1 a2 a3 k0 := by
  unfold zj136 zb136
  rfl
theorem ve69_0 (N : Nat) (zq135 : (a0 : Int) → (a1 : List Int) → (a2 : Int) → (a3 : Int) → (k0 : ByteArray → List Int → Int → Int → O β) → O β) (zq5 : (a0 : Int) → (a1 : List Int) → (a2 : Int) → (a3 : Int) → (k0 : Int → List Int → Int → Int → O β) → O β) (zq4 : (a0 : List Int) → (a1 : Int) → (a2 : Int) → (k0 : Int → List Int → Int → Int → O β) → O β) (a0 : ByteArray) (a1 : List Int) (a2 : Int) (a3 : Int) (K : TV → List Blk → O β) : evFnG lay (VE69 N zq135 zq5 zq4) Tryd.f69 [.v (.one (.ptr 0 0)), .v (.one (.str a0))] [.pcells 0 96 [.sl 5 (.ints .u8 a1), .int .i64 a2, .int .i64 a3]] K = zb136 N zq135 zq5 zq4 a0 a1 a2 a3 (fun y0 y1 y2 y3 => K (.v (.one (.str y0))) [.pcells 0 96 [.sl 5 (.ints .u8 y1), .int .i64 y2, .int .i64 y3]]) := by kernel_rfl
theorem e69_0 (N : Nat) (a0 : ByteArray) (a1 : List Int) (a2 : Int) (a3 : Int) (K : TV → List Blk → O β) : evFnG lay (E69 N) Tryd.f69 [.v (.one (.ptr 0 0)), .v (.one (.str a0))] [.pcells 0 96 [.sl 5 (.ints .u8 a1), .int .i64 a2, .int .i64 a3]] K = zj136 N a0 a1 a2 a3 (fun y0 y1 y2 y3 => K (.v (.one (.str y0))) [.pcells 0 96 [.sl 5 (.ints .u8 y1), .int .i64 y2, .int .i64 y3]]) := (ve69_0 N (zj135 N) (zj5 N) (zj4 N) a0 a1 a2 a3 K).trans (zt136 N a0 a1 a2 a3 (fun y0 y1 y2 y3 => K (.v (.one (.str y0))) [.pcells 0 96 [.sl 5 (.ints .u8 y1), .int .i64 y2, .int .i64 y3]])).symm
theorem o69 (N : Nat) : GOK (β := β) inv Tryd.prog 69 (S69 N) := by
  refine g_of lay_ok mixed (E := E69 N) (specs_loops specs_nil) muts_nil (gs_cons (o78 N) (gs_cons (o70 N) (gs_cons (o79 N) gs_nil))) Tryd.func69 (by kernel_rfl) 0 (by kernel_rfl) trivial fun args bl K r h => ?_
  unfold S69 VS69 at h
  split at h
  · exact (e69_0 N _ _ _ _ _).trans h
  · cases h
def VS45 (N : Nat) (zq137 : (a0 : List Int) → (k : ByteArray → O β) → O β) : Rv.Spec β := fun args K => match args with
  | [.v (.one (.sl 5 (.ints .u8 a0)))] => zq137 a0 (fun z1 => K (.v (.one (.str z1))))
  | _ => none
def S45 (N : Nat) : Rv.Spec β := VS45 N (zj137 N)
def VE45 (N : Nat) (zq26 : (a0 : List Int) → (k : Int → Int → Int → O β) → O β) (zq87 : (a0 : Int) → (a1 : Int) → (a2 : Int) → (k : ByteArray → Bool → O β) → O β) (zq3 : (a0 : List Int) → (k0 : List Int → Int → Int → O β) → O β) (zq24 : (a0 : Int) → (a1 : List Int) → (a2 : Int) → (a3 : Int) → (k0 : Bool → List Int → Int → Int → O β) → O β) (zq136 : (a0 : ByteArray) → (a1 : List Int) → (a2 : Int) → (a3 : Int) → (k0 : ByteArray → List Int → Int → Int → O β) → O β) : Env β := ⟨[(24, VS24 N zq26), (7, VS7 N zq87)], [], [], [(51, VS51 N zq3), (52, VS52 N zq24), (69, VS69 N zq136)], ⟨[], [], [], []⟩⟩
def E45 (N : Nat) : Env β := VE45 N (zj26 N) (zj87 N) (zj3 N) (zj24 N) (zj136 N)
def zb137 (N : Nat) (zq26 : (a0 : List Int) → (k : Int → Int → Int → O β) → O β) (zq87 : (a0 : Int) → (a1 : Int) → (a2 : Int) → (k : ByteArray → Bool → O β) → O β) (zq3 : (a0 : List Int) → (k0 : List Int → Int → Int → O β) → O β) (zq24 : (a0 : Int) → (a1 : List Int) → (a2 : Int) → (a3 : Int) → (k0 : Bool → List Int → Int → Int → O β) → O β) (zq136 : (a0 : ByteArray) → (a1 : List Int) → (a2 : Int) → (a3 : Int) → (k0 : ByteArray → List Int → Int → Int → O β) → O β) (a0 : List Int) (k : ByteArray → O β) : O β :=
zq26 a0 fun r2 r3 r4 =>
zq87 r2 r3 r4 fun r5 r6 =>
(cond (!r6)
(k ((strOf [65, 49, 48, 49])))
(zq3 a0 (fun r7_0 r7_1 r7_2 =>
zq24 8 r7_0 r7_1 r7_2 (fun r8_0 r8_1 r8_2 r8_3 =>
(cond r8_0
(zq136 r5 r8_1 r8_2 r8_3 (fun r9_0 r9_1 r9_2 r9_3 =>
k r9_0))
(k r5))))))
theorem zt137 (N : Nat) (a0 : List Int) (k : ByteArray → O β) : zj137 N a0 k = zb137 N (zj26 N) (zj87 N) (zj3 N) (zj24 N) (zj136 N) a0 k := by
  unfold zj137 zb137
  rfl
theorem ve45_0 (N : Nat) (zq26 : (a0 : List Int) → (k : Int → Int → Int → O β) → O β) (zq87 : (a0 : Int) → (a1 : Int) → (a2 : Int) → (k : ByteArray → Bool → O β) → O β) (zq3 : (a0 : List Int) → (k0 : List Int → Int → Int → O β) → O β) (zq24 : (a0 : Int) → (a1 : List Int) → (a2 : Int) → (a3 : Int) → (k0 : Bool → List Int → Int → Int → O β) → O β) (zq136 : (a0 : ByteArray) → (a1 : List Int) → (a2 : Int) → (a3 : Int) → (k0 : ByteArray → List Int → Int → Int → O β) → O β)  (a0 : List Int) (K : TV → O β) : evFn lay (VE45 N zq26 zq87 zq3 zq24 zq136) Tryd.f45 [.v (.one (.sl 5 (.ints .u8 a0)))] K = zb137 N zq26 zq87 zq3 zq24 zq136 a0 (fun z1 => K (.v (.one (.str z1)))) := by kernel_rfl
theorem e45_0 (N : Nat)  (a0 : List Int) (K : TV → O β) : evFn lay (E45 N) Tryd.f45 [.v (.one (.sl 5 (.ints .u8 a0)))] K = zj137 N a0 (fun z1 => K (.v (.one (.str z1)))) := (ve45_0 N (zj26 N) (zj87 N) (zj3 N) (zj24 N) (zj136 N) a0 K).trans (zt137 N a0 (fun z1 => K (.v (.one (.str z1))))).symm
theorem o45 (N : Nat) : SpecOK (β := β) inv Tryd.prog 45 (S45 N) := by
  refine spec_of lay_ok mixed (E := E45 N) (specs_loops (specs_cons (o24 N) (specs_cons (o7 N) specs_nil))) muts_nil (gs_cons (o51 N) (gs_cons (o52 N) (gs_cons (o69 N) gs_nil))) Tryd.func45 (by kernel_rfl) 0 (by kernel_rfl) trivial fun args K r h => ?_
  unfold S45 VS45 at h
  split at h
  · exact (e45_0 N _ _).trans h
  · cases h
def VS18 (N : Nat) (zq138 : (a0 : List Int) → (k : ByteArray → O β) → O β) : Rv.Spec β := fun args K => match args with
  | [.v (.one (.sl 5 (.ints .u8 a0)))] => zq138 a0 (fun z1 => K (.v (.one (.str z1))))
  | _ => none
def S18 (N : Nat) : Rv.Spec β := VS18 N (zj138 N)
def VE18 (N : Nat) (zq137 : (a0 : List Int) → (k : ByteArray → O β) → O β) : Env β := ⟨[(45, VS45 N zq137)], [], [], [], ⟨[], [], [], []⟩⟩
def E18 (N : Nat) : Env β := VE18 N (zj137 N)
def zb138 (N : Nat) (zq137 : (a0 : List Int) → (k : ByteArray → O β) → O β) (a0 : List Int) (k : ByteArray → O β) : O β :=
zq137 a0 fun r2 =>
k r2
theorem zt138 (N : Nat) (a0 : List Int) (k : ByteArray → O β) : zj138 N a0 k = zb138 N (zj137 N) a0 k := by
  unfold zj138 zb138
  rfl
theorem ve18_0 (N : Nat) (zq137 : (a0 : List Int) → (k : ByteArray → O β) → O β)  (a0 : List Int) (K : TV → O β) : evFn lay (VE18 N zq137) Tryd.f18 [.v (.one (.sl 5 (.ints .u8 a0)))] K = zb138 N zq137 a0 (fun z1 => K (.v (.one (.str z1)))) := by kernel_rfl
theorem e18_0 (N : Nat)  (a0 : List Int) (K : TV → O β) : evFn lay (E18 N) Tryd.f18 [.v (.one (.sl 5 (.ints .u8 a0)))] K = zj138 N a0 (fun z1 => K (.v (.one (.str z1)))) := (ve18_0 N (zj137 N) a0 K).trans (zt138 N a0 (fun z1 => K (.v (.one (.str z1))))).symm
theorem o18 (N : Nat) : SpecOK (β := β) inv Tryd.prog 18 (S18 N) := by
  refine spec_of lay_ok mixed (E := E18 N) (specs_loops (specs_cons (o45 N) specs_nil)) muts_nil gs_nil Tryd.func18 (by kernel_rfl) 0 (by kernel_rfl) trivial fun args K r h => ?_
  unfold S18 VS18 at h
  split at h
  · exact (e18_0 N _ _).trans h
  · cases h
def VS19 (N : Nat) (zq139 : (a0 : List Int) → (k : ByteArray → Int → Int → O β) → O β) : Rv.Spec β := fun args K => match args with
  | [.v (.one (.sl 5 (.ints .u8 a0)))] => zq139 a0 (fun z1 z2 z3 => K (.tup [.one (.str z1), .one (.int .i64 z2), .one (.int .i64 z3)]))
  | _ => none
def S19 (N : Nat) : Rv.Spec β := VS19 N (zj139 N)
def VE19 (N : Nat) (zq137 : (a0 : List Int) → (k : ByteArray → O β) → O β) : Env β := ⟨[(45, VS45 N zq137)], [], [], [], ⟨[], [], [], []⟩⟩
def E19 (N : Nat) : Env β := VE19 N (zj137 N)
def zb139 (N : Nat) (zq137 : (a0 : List Int) → (k : ByteArray → O β) → O β) (a0 : List Int) (k : ByteArray → Int → Int → O β) : O β :=
zq137 a0 fun r4 =>
k r4 ((w64 ((remI (a0.length : Int) 5) - 1))) ((remI (a0.length : Int) 4))
theorem zt139 (N : Nat) (a0 : List Int) (k : ByteArray → Int → Int → O β) : zj139 N a0 k = zb139 N (zj137 N) a0 k := by
  unfold zj139 zb139
  rfl
theorem ve19_0 (N : Nat) (zq137 : (a0 : List Int) → (k : ByteArray → O β) → O β)  (a0 : List Int) (K : TV → O β) : evFn lay (VE19 N zq137) Tryd.f19 [.v (.one (.sl 5 (.ints .u8 a0)))] K = zb139 N zq137 a0 (fun z1 z2 z3 => K (.tup [.one (.str z1), .one (.int .i64 z2), .one (.int .i64 z3)])) := by kernel_rfl
theorem e19_0 (N : Nat)  (a0 : List Int) (K : TV → O β) : evFn lay (E19 N) Tryd.f19 [.v (.one (.sl 5 (.ints .u8 a0)))] K = zj139 N a0 (fun z1 z2 z3 => K (.tup [.one (.str z1), .one (.int .i64 z2), .one (.int .i64 z3)])) := (ve19_0 N (zj137 N) a0 K).trans (zt139 N a0 (fun z1 z2 z3 => K (.tup [.one (.str z1), .one (.int .i64 z2), .one (.int .i64 z3)]))).symm
theorem o19 (N : Nat) : SpecOK (β := β) inv Tryd.prog 19 (S19 N) := by
  refine spec_of lay_ok mixed (E := E19 N) (specs_loops (specs_cons (o45 N) specs_nil)) muts_nil gs_nil Tryd.func19 (by kernel_rfl) 0 (by kernel_rfl) trivial fun args K r h => ?_
  unfold S19 VS19 at h
  split at h
  · exact (e19_0 N _ _).trans h
  · cases h
def VS47 (N : Nat) (zq140 : (a0 : Int) → (k : Int → O β) → O β) : Rv.Spec β := fun args K => match args with
  | [.v (.one (.int .u8 a0))] => zq140 a0 (fun z1 => K (.v (.one (.int .i64 z1))))
  | _ => none
def S47 (N : Nat) : Rv.Spec β := VS47 N (zj140 N)
def VE47 (N : Nat) : Env β := ⟨[], [], [], [], ⟨[], [], [], []⟩⟩
def E47 (N : Nat) : Env β := VE47 N
def zb140 (N : Nat) (a0 : Int) (k : Int → O β) : O β :=
(cond ((decide (a0 ≥ 48)))
((cond ((decide (a0 ≤ 57)))
(k ((w64 ((w8 (a0 - 48))))))
((cond ((decide (a0 ≥ 97)))
((cond ((decide (a0 ≤ 102)))
(k ((w64 ((w64 ((w8 (a0 - 97)))) + 10))))
(k (-1))))
(k (-1))))))
((cond ((decide (a0 ≥ 97)))
((cond ((decide (a0 ≤ 102)))
(k ((w64 ((w64 ((w8 (a0 - 97)))) + 10))))
(k (-1))))
(k (-1)))))
theorem zt140 (N : Nat) (a0 : Int) (k : Int → O β) : zj140 N a0 k = zb140 N a0 k := by
  unfold zj140 zb140
  rfl
theorem ve47_0 (N : Nat)  (a0 : Int) (K : TV → O β) : evFn lay (VE47 N) Tryd.f47 [.v (.one (.int .u8 a0))] K = zb140 N a0 (fun z1 => K (.v (.one (.int .i64 z1)))) := by kernel_rfl
theorem e47_0 (N : Nat)  (a0 : Int) (K : TV → O β) : evFn lay (E47 N) Tryd.f47 [.v (.one (.int .u8 a0))] K = zj140 N a0 (fun z1 => K (.v (.one (.int .i64 z1)))) := (ve47_0 N a0 K).trans (zt140 N a0 (fun z1 => K (.v (.one (.int .i64 z1))))).symm
theorem o47 (N : Nat) : SpecOK (β := β) inv Tryd.prog 47 (S47 N) := by
  refine spec_of lay_ok mixed (E := E47 N) (specs_loops specs_nil) muts_nil gs_nil Tryd.func47 (by kernel_rfl) 0 (by kernel_rfl) trivial fun args K r h => ?_
  unfold S47 VS47 at h
  split at h
  · exact (e47_0 N _ _).trans h
  · cases h
def VSF48 (N : Nat) (zq142 : Nat → ByteArray → Int → (Int → O β) → O β) (G : Nat) : Rv.Spec β := fun args K => match args with
  | [.v (.one (.str a0)), .v (.one (.int .i64 a1))] => zq142 G a0 a1 (fun z2 => K (.v (.one (.int .i64 z2))))
  | _ => none
def SF48 (N : Nat) (G : Nat) : Rv.Spec β := VSF48 N (zj142 N) G
def VS48 (N : Nat) (zq142 : Nat → ByteArray → Int → (Int → O β) → O β) : Rv.Spec β := VSF48 N zq142 N
def S48 (N : Nat) : Rv.Spec β := SF48 N N
def VE48 (N : Nat) (zq140 : (a0 : Int) → (k : Int → O β) → O β) (zq142 : Nat → ByteArray → Int → (Int → O β) → O β) (G : Nat) : Env β := ⟨[(47, VS47 N zq140), (48, VSF48 N zq142 G)], [], [], [], ⟨[], [], [], []⟩⟩
def E48 (N : Nat) (G : Nat) : Env β := VE48 N (zj140 N) (zj142 N) G
def zb141 (N : Nat) (zq140 : (a0 : Int) → (k : Int → O β) → O β) (self : ByteArray → Int → (Int → O β) → O β) (a0 : ByteArray) (a1 : Int) (k : Int → O β) : O β :=
(cond ((decide (a1 ≥ (a0.size : Int))))
(k (-1))
((gd ((decide (0 ≤ a1)))
((gd ((decide (a1 < (a0.size : Int))))
((cond (((bt a0 a1) == 48))
(k ((w64 (a1 + 1))))
((gd ((decide (0 ≤ a1)))
((gd ((decide (a1 < (a0.size : Int))))
((cond (((bt a0 a1) == 49))
(k ((w64 (a1 + 1))))
((gd ((decide (0 ≤ a1)))
((gd ((decide (a1 < (a0.size : Int))))
((cond (((bt a0 a1) != 65))
((gd ((decide (0 ≤ a1)))
((gd ((decide (a1 < (a0.size : Int))))
((cond (((bt a0 a1) != 66))
(k (-1))
((cond ((decide ((w64 (a1 + 1)) ≥ (a0.size : Int))))
(k (-1))
((gd ((decide (0 ≤ (w64 (a1 + 1)))))
((gd ((decide ((w64 (a1 + 1)) < (a0.size : Int))))
(zq140 ((bt a0 (w64 (a1 + 1)))) fun r3 =>
(cond ((decide (r3 < 0)))
(k (-1))
(self a0 ((w64 (a1 + 2))) fun r4 =>
(cond ((decide (r4 < 0)))
(k (-1))
(self a0 r4 fun r5 =>
k r5)))))))))))))))))
((cond ((decide ((w64 (a1 + 1)) ≥ (a0.size : Int))))
(k (-1))
((gd ((decide (0 ≤ (w64 (a1 + 1)))))
((gd ((decide ((w64 (a1 + 1)) < (a0.size : Int))))
(zq140 ((bt a0 (w64 (a1 + 1)))) fun r6 =>
(cond ((decide (r6 < 0)))
(k (-1))
(self a0 ((w64 (a1 + 2))) fun r7 =>
(cond ((decide (r7 < 0)))
(k (-1))
(self a0 r7 fun r8 =>
k r8))))))))))))))))))))))))))))))
theorem zt141 (N : Nat) (self : ByteArray → Int → (Int → O β) → O β) (a0 : ByteArray) (a1 : Int) (k : Int → O β) : zj141 N self a0 a1 k = zb141 N (zj140 N) self a0 a1 k := by
  unfold zj141 zb141
  rfl
theorem ve48_0 (N : Nat) (zq140 : (a0 : Int) → (k : Int → O β) → O β) (zq142 : Nat → ByteArray → Int → (Int → O β) → O β) (G : Nat)  (a0 : ByteArray) (a1 : Int) (K : TV → O β) : evFn lay (VE48 N zq140 zq142 G) Tryd.f48 [.v (.one (.str a0)), .v (.one (.int .i64 a1))] K = zb141 N zq140 (zq142 G) a0 a1 (fun z2 => K (.v (.one (.int .i64 z2)))) := by kernel_rfl
theorem e48_0 (N : Nat) (G : Nat)  (a0 : ByteArray) (a1 : Int) (K : TV → O β) : evFn lay (E48 N G) Tryd.f48 [.v (.one (.str a0)), .v (.one (.int .i64 a1))] K = zj142 N (G + 1) a0 a1 (fun z2 => K (.v (.one (.int .i64 z2)))) := (ve48_0 N (zj140 N) (zj142 N) G a0 a1 K).trans (zt141 N (zj142 N G) a0 a1 (fun z2 => K (.v (.one (.int .i64 z2))))).symm
theorem z48 (N : Nat) : ∀ args K r, SF48 (β := β) N 0 args K = some r → (none : O β) = some r := by
  intro args K r h
  unfold SF48 VSF48 at h
  split at h <;> exact h
theorem of48 (N : Nat) : ∀ G, SpecOK (β := β) inv Tryd.prog 48 (SF48 N G) := by
  intro G
  induction G with
  | zero => exact s_zero Tryd.func48 (by kernel_rfl) (z48 N)
  | succ G ih =>
    refine spec_of lay_ok mixed (E := E48 N G) (specs_loops (specs_cons (o47 N) (specs_cons ih specs_nil))) muts_nil gs_nil Tryd.func48 (by kernel_rfl) 0 (by kernel_rfl) trivial fun args K r h => ?_
    unfold SF48 VSF48 at h
    split at h
    · exact (e48_0 N G _ _ _).trans h
    · cases h
theorem o48 (N : Nat) : SpecOK (β := β) inv Tryd.prog 48 (S48 N) := of48 N N
def VS21 (N : Nat) (zq144 : (a0 : ByteArray) → (k : Bool → O β) → O β) : Rv.Spec β := fun args K => match args with
  | [.v (.one (.str a0))] => zq144 a0 (fun z1 => K (.v (.one (.bool z1))))
  | _ => none
def S21 (N : Nat) : Rv.Spec β := VS21 N (zj144 N)
def VE21 (N : Nat) (zq142 : Nat → ByteArray → Int → (Int → O β) → O β) : Env β := ⟨[(48, VS48 N zq142)], [], [], [], ⟨[], [], [], []⟩⟩
def E21 (N : Nat) : Env β := VE21 N (zj142 N)
def zb144 (N : Nat) (zq142 : Nat → ByteArray → Int → (Int → O β) → O β) (a0 : ByteArray) (k : Bool → O β) : O β :=
(cond ((decide ((a0.size : Int) ≤ 100)))
((cond ((decide ((a0.size : Int) > 0)))
(zq142 N a0 0 fun r2 =>
k ((r2 == (a0.size : Int))))
(k false)))
(k false))
theorem zt144 (N : Nat) (a0 : ByteArray) (k : Bool → O β) : zj144 N a0 k = zb144 N (zj142 N) a0 k := by
  unfold zj144 zb144
  rfl
theorem ve21_0 (N : Nat) (zq142 : Nat → ByteArray → Int → (Int → O β) → O β)  (a0 : ByteArray) (K : TV → O β) : evFn lay (VE21 N zq142) Tryd.f21 [.v (.one (.str a0))] K = zb144 N zq142 a0 (fun z1 => K (.v (.one (.bool z1)))) := by kernel_rfl
theorem e21_0 (N : Nat)  (a0 : ByteArray) (K : TV → O β) : evFn lay (E21 N) Tryd.f21 [.v (.one (.str a0))] K = zj144 N a0 (fun z1 => K (.v (.one (.bool z1)))) := (ve21_0 N (zj142 N) a0 K).trans (zt144 N a0 (fun z1 => K (.v (.one (.bool z1))))).symm
theorem o21 (N : Nat) : SpecOK (β := β) inv Tryd.prog 21 (S21 N) := by
  refine spec_of lay_ok mixed (E := E21 N) (specs_loops (specs_cons (o48 N) specs_nil)) muts_nil gs_nil Tryd.func21 (by kernel_rfl) 0 (by kernel_rfl) trivial fun args K r h => ?_
  unfold S21 VS21 at h
  split at h
  · exact (e21_0 N _ _).trans h
  · cases h
def VS20 (N : Nat) (zq147 : (a0 : ByteArray) → (a1 : Int) → (a2 : Int) → (k : Int → Int → Bool → O β) → O β) : Rv.Spec β := fun args K => match args with
  | [.v (.one (.str a0)), .v (.one (.int .i64 a1)), .v (.one (.int .i64 a2))] => zq147 a0 a1 a2 (fun z3 z4 z5 => K (.tup [.one (.int .i64 z3), .one (.int .i64 z4), .one (.bool z5)]))
  | _ => none
def S20 (N : Nat) : Rv.Spec β := VS20 N (zj147 N)
def h20_0_0  (v0 : ByteArray) (v1 : Int) (v2 : Int) (v3 : Int) (v4 : Int) : St := ⟨.v (.one (.str v0)) :: .v (.one (.int .i64 v1)) :: .v (.one (.int .i64 v2)) :: tund :: tund :: tund :: tund :: tund :: tund :: .v (.one (.int .i64 v3)) :: .v (.one (.int .i64 v4)) :: tund :: tund :: tund :: tund :: tund :: tund :: tund :: tund :: tund :: tund :: tund :: tund :: tund :: tund :: tund :: tund :: tund :: tund :: tund :: tund :: tund :: tund :: tund :: tund :: tund :: tund :: tund :: tund :: tund :: tund :: tund :: tund :: tund :: tund :: tund :: tund :: tund :: tund :: tund :: tund :: tund :: tund :: tund :: tund :: tund :: tund :: tund :: tund :: tund :: tund :: tund :: tund :: tund :: tund :: tund :: tund :: tund :: [], []⟩
def x20_0_0_k0  (y0 : ByteArray) (y1 : Int) (y2 : Int) : St := ⟨.v (.one (.str y0)) :: tund :: tund :: tund :: tund :: tund :: tund :: tund :: tund :: .v (.one (.int .i64 y1)) :: .v (.one (.int .i64 y2)) :: tund :: tund :: tund :: tund :: tund :: tund :: tund :: tund :: tund :: tund :: tund :: tund :: tund :: tund :: tund :: tund :: tund :: tund :: tund :: tund :: tund :: tund :: tund :: tund :: tund :: tund :: tund :: tund :: tund :: tund :: tund :: tund :: tund :: tund :: tund :: tund :: tund :: tund :: tund :: tund :: tund :: tund :: tund :: tund :: tund :: tund :: tund :: tund :: tund :: tund :: tund :: tund :: tund :: tund :: tund :: tund :: tund :: [], []⟩
theorem fl20_0_0 (s : St) : refSt (h20_0_0 ByteArray.empty 0 0 0 0) s = h20_0_0 (strS (oneA (vT (nx tund s.tmps 0)))) (intS (oneA (vT (nx tund s.tmps 1)))) (intS (oneA (vT (nx tund s.tmps 2)))) (intS (oneA (vT (nx tund s.tmps 9)))) (intS (oneA (vT (nx tund s.tmps 10)))) := by kernel_rfl
def VLS20_0 (N : Nat) (zq146 : Nat → ByteArray → Int → Int → Int → Int → (ByteArray → Int → Int → O β) → O β) : LSpec β := fun s K => cond (shpSt (h20_0_0 ByteArray.empty 0 0 0 0) s) ((fun (v0 : ByteArray) (v1 : Int) (v2 : Int) (v3 : Int) (v4 : Int) => zq146  N v0 v1 v2 v3 v4 (fun y0 y1 y2 => K (.exit 0) (x20_0_0_k0  y0 y1 y2))) (strS (oneA (vT (nx tund s.tmps 0)))) (intS (oneA (vT (nx tund s.tmps 1)))) (intS (oneA (vT (nx tund s.tmps 2)))) (intS (oneA (vT (nx tund s.tmps 9)))) (intS (oneA (vT (nx tund s.tmps 10))))) (none)
def LS20_0 (N : Nat) : LSpec β := VLS20_0 N (zj146 N)
def VE20 (N : Nat) (zq144 : (a0 : ByteArray) → (k : Bool → O β) → O β) (zq58 : (a0 : Int) → (a1 : Int) → (a2 : Int) → (k : Bool → O β) → O β) (zq140 : (a0 : Int) → (k : Int → O β) → O β) (zq142 : Nat → ByteArray → Int → (Int → O β) → O β) (zq146 : Nat → ByteArray → Int → Int → Int → Int → (ByteArray → Int → Int → O β) → O β) : Env β := ⟨[(21, VS21 N zq144), (46, VS46 N zq58), (47, VS47 N zq140), (48, VS48 N zq142)], [], [(0, VLS20_0 N zq146)], [], ⟨[], [], [], []⟩⟩
def E20 (N : Nat) : Env β := VE20 N (zj144 N) (zj58 N) (zj140 N) (zj142 N) (zj146 N)
def zb145 (N : Nat) (zq140 : (a0 : Int) → (k : Int → O β) → O β) (zq142 : Nat → ByteArray → Int → (Int → O β) → O β)  (v0 : ByteArray) (v1 : Int) (v2 : Int) (v3 : Int) (v4 : Int) (rec_ : ByteArray → Int → Int → Int → Int → O β) (k0 : ByteArray → Int → Int → O β) : O β :=
(gd ((decide (0 ≤ v3)))
((gd ((decide (v3 < (v0.size : Int))))
((cond (((bt v0 v3) != 48))
((gd ((decide (0 ≤ v3)))
((gd ((decide (v3 < (v0.size : Int))))
((cond (((bt v0 v3) != 49))
((gd ((decide (0 ≤ (w64 (v3 + 1)))))
((gd ((decide ((w64 (v3 + 1)) < (v0.size : Int))))
(zq140 ((bt v0 (w64 (v3 + 1)))) fun r9 =>
(gd ((decide (0 ≤ v1)))
((gd ((decide (0 ≤ v3)))
((gd ((decide (v3 < (v0.size : Int))))
((cond (((bt v0 v3) == 66))
((gd ((decide (0 ≤ v2)))
((cond (((bits .and .i64 (shrI .i64 r9 v2) 1) == 1))
(zq142 N v0 ((w64 (v3 + 2))) fun r10 =>
rec_ v0 v1 v2 r10 ((w64 (v4 + 1))))
(rec_ v0 v1 v2 ((w64 (v3 + 2))) ((w64 (v4 + 1))))))))
((cond (((bits .and .i64 (shrI .i64 r9 v1) 1) == 1))
(zq142 N v0 ((w64 (v3 + 2))) fun r11 =>
rec_ v0 v1 v2 r11 ((w64 (v4 + 1))))
(rec_ v0 v1 v2 ((w64 (v3 + 2))) ((w64 (v4 + 1))))))))))))))))))
(k0 v0 v3 v4)))))))
(k0 v0 v3 v4))))))
theorem zt145 (N : Nat)  (v0 : ByteArray) (v1 : Int) (v2 : Int) (v3 : Int) (v4 : Int) (rec_ : ByteArray → Int → Int → Int → Int → O β) (k0 : ByteArray → Int → Int → O β) : zj145 N v0 v1 v2 v3 v4 rec_ k0 = zb145 N (zj140 N) (zj142 N) v0 v1 v2 v3 v4 rec_ k0 := by
  unfold zj145 zb145
  rfl
theorem vst20_0_0 (N : Nat) (zq144 : (a0 : ByteArray) → (k : Bool → O β) → O β) (zq58 : (a0 : Int) → (a1 : Int) → (a2 : Int) → (k : Bool → O β) → O β) (zq140 : (a0 : Int) → (k : Int → O β) → O β) (zq142 : Nat → ByteArray → Int → (Int → O β) → O β) (zq146 : Nat → ByteArray → Int → Int → Int → Int → (ByteArray → Int → Int → O β) → O β)  (v0 : ByteArray) (v1 : Int) (v2 : Int) (v3 : Int) (v4 : Int) (rec_ : St → O β) (K : Exit → St → O β) :
    ev lay (VE20 N zq144 zq58 zq140 zq142 zq146) (retMask Tryd.f20) (lp Tryd.f20 0).body (lp Tryd.f20 0).ex ((lp Tryd.f20 0).lv (retMask Tryd.f20)) (h20_0_0  v0 v1 v2 v3 v4) (nextR (fun s' => rec_ (s'.tidy ((lp Tryd.f20 0).lv (retMask Tryd.f20)))) K) = zb145 N zq140 zq142  v0 v1 v2 v3 v4 (fun v0 v1 v2 v3 v4 => rec_ (h20_0_0  v0 v1 v2 v3 v4)) (fun y0 y1 y2 => K (.exit 0) (x20_0_0_k0  y0 y1 y2)) := by kernel_rfl
theorem st20_0_0 (N : Nat)  (v0 : ByteArray) (v1 : Int) (v2 : Int) (v3 : Int) (v4 : Int) (rec_ : St → O β) (K : Exit → St → O β) :
    ev lay (E20 N) (retMask Tryd.f20) (lp Tryd.f20 0).body (lp Tryd.f20 0).ex ((lp Tryd.f20 0).lv (retMask Tryd.f20)) (h20_0_0  v0 v1 v2 v3 v4) (nextR (fun s' => rec_ (s'.tidy ((lp Tryd.f20 0).lv (retMask Tryd.f20)))) K) = zj145 N  v0 v1 v2 v3 v4 (fun v0 v1 v2 v3 v4 => rec_ (h20_0_0  v0 v1 v2 v3 v4)) (fun y0 y1 y2 => K (.exit 0) (x20_0_0_k0  y0 y1 y2)) := (vst20_0_0 N (zj144 N) (zj58 N) (zj140 N) (zj142 N) (zj146 N) v0 v1 v2 v3 v4 rec_ K).trans (zt145 N  v0 v1 v2 v3 v4 (fun v0 v1 v2 v3 v4 => rec_ (h20_0_0  v0 v1 v2 v3 v4)) (fun y0 y1 y2 => K (.exit 0) (x20_0_0_k0  y0 y1 y2))).symm
theorem ro20_0_0 (N : Nat)  (K : Exit → St → O β) : ∀ (F : Nat) (v0 : ByteArray) (v1 : Int) (v2 : Int) (v3 : Int) (v4 : Int), (lp Tryd.f20 0).rounds lay (E20 N) (retMask Tryd.f20) F (h20_0_0  v0 v1 v2 v3 v4) K = zj146 N  F v0 v1 v2 v3 v4 (fun y0 y1 y2 => K (.exit 0) (x20_0_0_k0  y0 y1 y2)) := by
  intro F
  induction F with
  | zero => intros; rfl
  | succ F ih =>
    intros
    rw [rounds_next]
    refine (st20_0_0 N  _ _ _ _ _ (fun s => (lp Tryd.f20 0).rounds lay (E20 N) (retMask Tryd.f20) F s K) K).trans ?_
    simp only [ih]
    rfl
theorem lk20_0 (N : Nat) : lookL (E20 (β := β) N).loops (lp Tryd.f20 0).id = LS20_0 N := by kernel_rfl
theorem rk20_0 (N : Nat) : RoundsOK lay (E20 (β := β) N) (retMask Tryd.f20) (lp Tryd.f20 0) := by
  intro s K r h
  rw [lk20_0] at h
  unfold LS20_0 VLS20_0 at h
  cases hb : shpSt (h20_0_0 ByteArray.empty 0 0 0 0) s with
  | true =>
    rw [hb, cond_true] at h
    exact ⟨N, by rw [← shpSt_ref hb, fl20_0_0 s]; exact (ro20_0_0 N  K N (strS (oneA (vT (nx tund s.tmps 0)))) (intS (oneA (vT (nx tund s.tmps 1)))) (intS (oneA (vT (nx tund s.tmps 2)))) (intS (oneA (vT (nx tund s.tmps 9)))) (intS (oneA (vT (nx tund s.tmps 10))))).trans h⟩
  | false =>
  rw [hb, cond_false] at h
  clear hb
  cases h
def zb147 (N : Nat) (zq144 : (a0 : ByteArray) → (k : Bool → O β) → O β) (zq58 : (a0 : Int) → (a1 : Int) → (a2 : Int) → (k : Bool → O β) → O β) (zq146 : Nat → ByteArray → Int → Int → Int → Int → (ByteArray → Int → Int → O β) → O β) (a0 : ByteArray) (a1 : Int) (a2 : Int) (k : Int → Int → Bool → O β) : O β :=
zq144 a0 fun r6 =>
(cond (!r6)
(k 0 0 false)
(zq58 a1 0 3 fun r7 =>
(cond (!r7)
(k 0 0 false)
(zq58 a2 0 3 fun r8 =>
(cond (!r8)
(k 0 0 false)
(zq146  N a0 a1 a2 0 0 (fun e12_0 e12_1 e12_2 =>
(gd ((decide (0 ≤ e12_1)))
((gd ((decide (e12_1 < (e12_0.size : Int))))
(k ((w64 ((w8 ((bt e12_0 e12_1) - 48))))) e12_2 true)))))))))))
theorem zt147 (N : Nat) (a0 : ByteArray) (a1 : Int) (a2 : Int) (k : Int → Int → Bool → O β) : zj147 N a0 a1 a2 k = zb147 N (zj144 N) (zj58 N) (zj146 N) a0 a1 a2 k := by
  unfold zj147 zb147
  rfl
theorem ve20_0 (N : Nat) (zq144 : (a0 : ByteArray) → (k : Bool → O β) → O β) (zq58 : (a0 : Int) → (a1 : Int) → (a2 : Int) → (k : Bool → O β) → O β) (zq140 : (a0 : Int) → (k : Int → O β) → O β) (zq142 : Nat → ByteArray → Int → (Int → O β) → O β) (zq146 : Nat → ByteArray → Int → Int → Int → Int → (ByteArray → Int → Int → O β) → O β)  (a0 : ByteArray) (a1 : Int) (a2 : Int) (K : TV → O β) : evFn lay (VE20 N zq144 zq58 zq140 zq142 zq146) Tryd.f20 [.v (.one (.str a0)), .v (.one (.int .i64 a1)), .v (.one (.int .i64 a2))] K = zb147 N zq144 zq58 zq146 a0 a1 a2 (fun z3 z4 z5 => K (.tup [.one (.int .i64 z3), .one (.int .i64 z4), .one (.bool z5)])) := by kernel_rfl
theorem e20_0 (N : Nat)  (a0 : ByteArray) (a1 : Int) (a2 : Int) (K : TV → O β) : evFn lay (E20 N) Tryd.f20 [.v (.one (.str a0)), .v (.one (.int .i64 a1)), .v (.one (.int .i64 a2))] K = zj147 N a0 a1 a2 (fun z3 z4 z5 => K (.tup [.one (.int .i64 z3), .one (.int .i64 z4), .one (.bool z5)])) := (ve20_0 N (zj144 N) (zj58 N) (zj140 N) (zj142 N) (zj146 N) a0 a1 a2 K).trans (zt147 N a0 a1 a2 (fun z3 z4 z5 => K (.tup [.one (.int .i64 z3), .one (.int .i64 z4), .one (.bool z5)]))).symm
theorem o20 (N : Nat) : SpecOK (β := β) inv Tryd.prog 20 (S20 N) := by
  refine spec_of lay_ok mixed (E := E20 N) (specs_loops (specs_cons (o21 N) (specs_cons (o46 N) (specs_cons (o47 N) (specs_cons (o48 N) specs_nil))))) muts_nil gs_nil Tryd.func20 (by kernel_rfl) 1 (by kernel_rfl) ⟨trivial, rk20_0 N⟩ fun args K r h => ?_
  unfold S20 VS20 at h
  split at h
  · exact (e20_0 N _ _ _ _).trans h
  · cases h
def VSF49 (N : Nat) (zq149 : Nat → ByteArray → Int → (Int → O β) → O β) (G : Nat) : Rv.Spec β := fun args K => match args with
  | [.v (.one (.str a0)), .v (.one (.int .i64 a1))] => zq149 G a0 a1 (fun z2 => K (.v (.one (.int .i64 z2))))
  | _ => none
def SF49 (N : Nat) (G : Nat) : Rv.Spec β := VSF49 N (zj149 N) G
def VS49 (N : Nat) (zq149 : Nat → ByteArray → Int → (Int → O β) → O β) : Rv.Spec β := VSF49 N zq149 N
def S49 (N : Nat) : Rv.Spec β := SF49 N N
def VE49 (N : Nat) (zq142 : Nat → ByteArray → Int → (Int → O β) → O β) (zq149 : Nat → ByteArray → Int → (Int → O β) → O β) (G : Nat) : Env β := ⟨[(48, VS48 N zq142), (49, VSF49 N zq149 G)], [], [], [], ⟨[], [], [], []⟩⟩
def E49 (N : Nat) (G : Nat) : Env β := VE49 N (zj142 N) (zj149 N) G
def zb148 (N : Nat) (zq142 : Nat → ByteArray → Int → (Int → O β) → O β) (self : ByteArray → Int → (Int → O β) → O β) (a0 : ByteArray) (a1 : Int) (k : Int → O β) : O β :=
(gd ((decide (0 ≤ a1)))
((gd ((decide (a1 < (a0.size : Int))))
((cond (((bt a0 a1) == 48))
(k 0)
((gd ((decide (0 ≤ a1)))
((gd ((decide (a1 < (a0.size : Int))))
((cond (((bt a0 a1) == 49))
(k 0)
(self a0 ((w64 (a1 + 2))) fun r3 =>
zq142 N a0 ((w64 (a1 + 2))) fun r4 =>
self a0 r4 fun r5 =>
k ((w64 (1 + (mxI r3 r5))))))))))))))))
theorem zt148 (N : Nat) (self : ByteArray → Int → (Int → O β) → O β) (a0 : ByteArray) (a1 : Int) (k : Int → O β) : zj148 N self a0 a1 k = zb148 N (zj142 N) self a0 a1 k := by
  unfold zj148 zb148
  rfl
theorem ve49_0 (N : Nat) (zq142 : Nat → ByteArray → Int → (Int → O β) → O β) (zq149 : Nat → ByteArray → Int → (Int → O β) → O β) (G : Nat)  (a0 : ByteArray) (a1 : Int) (K : TV → O β) : evFn lay (VE49 N zq142 zq149 G) Tryd.f49 [.v (.one (.str a0)), .v (.one (.int .i64 a1))] K = zb148 N zq142 (zq149 G) a0 a1 (fun z2 => K (.v (.one (.int .i64 z2)))) := by kernel_rfl
theorem e49_0 (N : Nat) (G : Nat)  (a0 : ByteArray) (a1 : Int) (K : TV → O β) : evFn lay (E49 N G) Tryd.f49 [.v (.one (.str a0)), .v (.one (.int .i64 a1))] K = zj149 N (G + 1) a0 a1 (fun z2 => K (.v (.one (.int .i64 z2)))) := (ve49_0 N (zj142 N) (zj149 N) G a0 a1 K).trans (zt148 N (zj149 N G) a0 a1 (fun z2 => K (.v (.one (.int .i64 z2))))).symm
theorem z49 (N : Nat) : ∀ args K r, SF49 (β := β) N 0 args K = some r → (none : O β) = some r := by
  intro args K r h
  unfold SF49 VSF49 at h
  split at h <;> exact h
theorem of49 (N : Nat) : ∀ G, SpecOK (β := β) inv Tryd.prog 49 (SF49 N G) := by
  intro G
  induction G with
  | zero => exact s_zero Tryd.func49 (by kernel_rfl) (z49 N)
  | succ G ih =>
    refine spec_of lay_ok mixed (E := E49 N G) (specs_loops (specs_cons (o48 N) (specs_cons ih specs_nil))) muts_nil gs_nil Tryd.func49 (by kernel_rfl) 0 (by kernel_rfl) trivial fun args K r h => ?_
    unfold SF49 VSF49 at h
    split at h
    · exact (e49_0 N G _ _ _).trans h
    · cases h
theorem o49 (N : Nat) : SpecOK (β := β) inv Tryd.prog 49 (S49 N) := of49 N N
def VS22 (N : Nat) (zq151 : (a0 : ByteArray) → (k : Int → O β) → O β) : Rv.Spec β := fun args K => match args with
  | [.v (.one (.str a0))] => zq151 a0 (fun z1 => K (.v (.one (.int .i64 z1))))
  | _ => none
def S22 (N : Nat) : Rv.Spec β := VS22 N (zj151 N)
def VE22 (N : Nat) (zq144 : (a0 : ByteArray) → (k : Bool → O β) → O β) (zq149 : Nat → ByteArray → Int → (Int → O β) → O β) : Env β := ⟨[(21, VS21 N zq144), (49, VS49 N zq149)], [], [], [], ⟨[], [], [], []⟩⟩
def E22 (N : Nat) : Env β := VE22 N (zj144 N) (zj149 N)
def zb151 (N : Nat) (zq144 : (a0 : ByteArray) → (k : Bool → O β) → O β) (zq149 : Nat → ByteArray → Int → (Int → O β) → O β) (a0 : ByteArray) (k : Int → O β) : O β :=
zq144 a0 fun r2 =>
(cond (!r2)
(k (-1))
(zq149 N a0 0 fun r3 =>
k r3))
theorem zt151 (N : Nat) (a0 : ByteArray) (k : Int → O β) : zj151 N a0 k = zb151 N (zj144 N) (zj149 N) a0 k := by
  unfold zj151 zb151
  rfl
theorem ve22_0 (N : Nat) (zq144 : (a0 : ByteArray) → (k : Bool → O β) → O β) (zq149 : Nat → ByteArray → Int → (Int → O β) → O β)  (a0 : ByteArray) (K : TV → O β) : evFn lay (VE22 N zq144 zq149) Tryd.f22 [.v (.one (.str a0))] K = zb151 N zq144 zq149 a0 (fun z1 => K (.v (.one (.int .i64 z1)))) := by kernel_rfl
theorem e22_0 (N : Nat)  (a0 : ByteArray) (K : TV → O β) : evFn lay (E22 N) Tryd.f22 [.v (.one (.str a0))] K = zj151 N a0 (fun z1 => K (.v (.one (.int .i64 z1)))) := (ve22_0 N (zj144 N) (zj149 N) a0 K).trans (zt151 N a0 (fun z1 => K (.v (.one (.int .i64 z1))))).symm
theorem o22 (N : Nat) : SpecOK (β := β) inv Tryd.prog 22 (S22 N) := by
  refine spec_of lay_ok mixed (E := E22 N) (specs_loops (specs_cons (o21 N) (specs_cons (o49 N) specs_nil))) muts_nil gs_nil Tryd.func22 (by kernel_rfl) 0 (by kernel_rfl) trivial fun args K r h => ?_
  unfold S22 VS22 at h
  split at h
  · exact (e22_0 N _ _).trans h
  · cases h
def VSF50 (N : Nat) (zq153 : Nat → ByteArray → Int → (Int → O β) → O β) (G : Nat) : Rv.Spec β := fun args K => match args with
  | [.v (.one (.str a0)), .v (.one (.int .i64 a1))] => zq153 G a0 a1 (fun z2 => K (.v (.one (.int .i64 z2))))
  | _ => none
def SF50 (N : Nat) (G : Nat) : Rv.Spec β := VSF50 N (zj153 N) G
def VS50 (N : Nat) (zq153 : Nat → ByteArray → Int → (Int → O β) → O β) : Rv.Spec β := VSF50 N zq153 N
def S50 (N : Nat) : Rv.Spec β := SF50 N N
def VE50 (N : Nat) (zq142 : Nat → ByteArray → Int → (Int → O β) → O β) (zq153 : Nat → ByteArray → Int → (Int → O β) → O β) (G : Nat) : Env β := ⟨[(48, VS48 N zq142), (50, VSF50 N zq153 G)], [], [], [], ⟨[], [], [], []⟩⟩
def E50 (N : Nat) (G : Nat) : Env β := VE50 N (zj142 N) (zj153 N) G
def zb152 (N : Nat) (zq142 : Nat → ByteArray → Int → (Int → O β) → O β) (self : ByteArray → Int → (Int → O β) → O β) (a0 : ByteArray) (a1 : Int) (k : Int → O β) : O β :=
(gd ((decide (0 ≤ a1)))
((gd ((decide (a1 < (a0.size : Int))))
((cond (((bt a0 a1) == 48))
(k 1)
((gd ((decide (0 ≤ a1)))
((gd ((decide (a1 < (a0.size : Int))))
((cond (((bt a0 a1) == 49))
(k 1)
(self a0 ((w64 (a1 + 2))) fun r3 =>
zq142 N a0 ((w64 (a1 + 2))) fun r4 =>
self a0 r4 fun r5 =>
k ((w64 (r3 + r5)))))))))))))))
theorem zt152 (N : Nat) (self : ByteArray → Int → (Int → O β) → O β) (a0 : ByteArray) (a1 : Int) (k : Int → O β) : zj152 N self a0 a1 k = zb152 N (zj142 N) self a0 a1 k := by
  unfold zj152 zb152
  rfl
theorem ve50_0 (N : Nat) (zq142 : Nat → ByteArray → Int → (Int → O β) → O β) (zq153 : Nat → ByteArray → Int → (Int → O β) → O β) (G : Nat)  (a0 : ByteArray) (a1 : Int) (K : TV → O β) : evFn lay (VE50 N zq142 zq153 G) Tryd.f50 [.v (.one (.str a0)), .v (.one (.int .i64 a1))] K = zb152 N zq142 (zq153 G) a0 a1 (fun z2 => K (.v (.one (.int .i64 z2)))) := by kernel_rfl
theorem e50_0 (N : Nat) (G : Nat)  (a0 : ByteArray) (a1 : Int) (K : TV → O β) : evFn lay (E50 N G) Tryd.f50 [.v (.one (.str a0)), .v (.one (.int .i64 a1))] K = zj153 N (G + 1) a0 a1 (fun z2 => K (.v (.one (.int .i64 z2)))) := (ve50_0 N (zj142 N) (zj153 N) G a0 a1 K).trans (zt152 N (zj153 N G) a0 a1 (fun z2 => K (.v (.one (.int .i64 z2))))).symm
theorem z50 (N : Nat) : ∀ args K r, SF50 (β := β) N 0 args K = some r → (none : O β) = some r := by
  intro args K r h
  unfold SF50 VSF50 at h
  split at h <;> exact h
theorem of50 (N : Nat) : ∀ G, SpecOK (β := β) inv Tryd.prog 50 (SF50 N G) := by
  intro G
  induction G with
  | zero => exact s_zero Tryd.func50 (by kernel_rfl) (z50 N)
  | succ G ih =>
    refine spec_of lay_ok mixed (E := E50 N G) (specs_loops (specs_cons (o48 N) (specs_cons ih specs_nil))) muts_nil gs_nil Tryd.func50 (by kernel_rfl) 0 (by kernel_rfl) trivial fun args K r h => ?_
    unfold SF50 VSF50 at h
    split at h
    · exact (e50_0 N G _ _ _).trans h
    · cases h
theorem o50 (N : Nat) : SpecOK (β := β) inv Tryd.prog 50 (S50 N) := of50 N N
def VS23 (N : Nat) (zq155 : (a0 : ByteArray) → (k : Int → O β) → O β) : Rv.Spec β := fun args K => match args with
  | [.v (.one (.str a0))] => zq155 a0 (fun z1 => K (.v (.one (.int .i64 z1))))
  | _ => none
def S23 (N : Nat) : Rv.Spec β := VS23 N (zj155 N)
def VE23 (N : Nat) (zq144 : (a0 : ByteArray) → (k : Bool → O β) → O β) (zq153 : Nat → ByteArray → Int → (Int → O β) → O β) : Env β := ⟨[(21, VS21 N zq144), (50, VS50 N zq153)], [], [], [], ⟨[], [], [], []⟩⟩
def E23 (N : Nat) : Env β := VE23 N (zj144 N) (zj153 N)
def zb155 (N : Nat) (zq144 : (a0 : ByteArray) → (k : Bool → O β) → O β) (zq153 : Nat → ByteArray → Int → (Int → O β) → O β) (a0 : ByteArray) (k : Int → O β) : O β :=
zq144 a0 fun r2 =>
(cond (!r2)
(k (-1))
(zq153 N a0 0 fun r3 =>
k r3))
theorem zt155 (N : Nat) (a0 : ByteArray) (k : Int → O β) : zj155 N a0 k = zb155 N (zj144 N) (zj153 N) a0 k := by
  unfold zj155 zb155
  rfl
theorem ve23_0 (N : Nat) (zq144 : (a0 : ByteArray) → (k : Bool → O β) → O β) (zq153 : Nat → ByteArray → Int → (Int → O β) → O β)  (a0 : ByteArray) (K : TV → O β) : evFn lay (VE23 N zq144 zq153) Tryd.f23 [.v (.one (.str a0))] K = zb155 N zq144 zq153 a0 (fun z1 => K (.v (.one (.int .i64 z1)))) := by kernel_rfl
theorem e23_0 (N : Nat)  (a0 : ByteArray) (K : TV → O β) : evFn lay (E23 N) Tryd.f23 [.v (.one (.str a0))] K = zj155 N a0 (fun z1 => K (.v (.one (.int .i64 z1)))) := (ve23_0 N (zj144 N) (zj153 N) a0 K).trans (zt155 N a0 (fun z1 => K (.v (.one (.int .i64 z1))))).symm
theorem o23 (N : Nat) : SpecOK (β := β) inv Tryd.prog 23 (S23 N) := by
  refine spec_of lay_ok mixed (E := E23 N) (specs_loops (specs_cons (o21 N) (specs_cons (o50 N) specs_nil))) muts_nil gs_nil Tryd.func23 (by kernel_rfl) 0 (by kernel_rfl) trivial fun args K r h => ?_
  unfold S23 VS23 at h
  split at h
  · exact (e23_0 N _ _).trans h
  · cases h
end Go.Proofs.YtddflpokemgnmaaDoor
