/- The functions that the claims reach answer as their texts do. -/
import Derived.Test.YtfdggelojmofmaaE1
namespace Go.Proofs.Ytfdggelojmofmaa
open Go.Rv
set_option maxRecDepth 100000
set_option maxHeartbeats 2000000
set_option linter.unusedVariables false
def VS165 {β : Type} (N : Nat) (zq48 : (a0 : Int) → (a1 : Int) → (k : List Int → Option β) → Option β) : Rv.Spec β := fun args K => match args with
  | [.v (.agg [.int .i64 a0, .int .i64 a1])] => zq48 a0 a1 (fun z2 => K (.v (.one (.sl 3 (.ints .i64 z2)))))
  | _ => none
def S165 {β : Type} (N : Nat) : Rv.Spec β := VS165 N (zj48 N)
def h165_0_0  (v0 : Int) (v1 : Int) (v2 : Int) (v3 : List Int) : St := ⟨tund :: .v (.one (.ptr 0 0)) :: tund :: .v (.one (.row 1)) :: .v (.one (.int .i64 v0)) :: tund :: tund :: tund :: tund :: tund :: tund :: tund :: tund :: tund :: tund :: tund :: tund :: tund :: tund :: tund :: tund :: tund :: tund :: tund :: tund :: tund :: tund :: tund :: tund :: tund :: tund :: tund :: tund :: tund :: tund :: tund :: tund :: tund :: tund :: tund :: tund :: tund :: tund :: tund :: tund :: tund :: tund :: tund :: tund :: tund :: tund :: tund :: tund :: tund :: [], [.cells 27 [.int .i64 v1, .int .i64 v2], .row 3 (.ints .i64 v3)]⟩
def x165_0_0_k0  (y0 : List Int) : St := ⟨tund :: tund :: tund :: .v (.one (.row 0)) :: tund :: tund :: tund :: tund :: tund :: tund :: tund :: tund :: tund :: tund :: tund :: tund :: tund :: tund :: tund :: tund :: tund :: tund :: tund :: tund :: tund :: tund :: tund :: tund :: tund :: tund :: tund :: tund :: tund :: tund :: tund :: tund :: tund :: tund :: tund :: tund :: tund :: tund :: tund :: tund :: tund :: tund :: tund :: tund :: tund :: tund :: tund :: tund :: tund :: tund :: [], [.row 3 (.ints .i64 y0)]⟩
def h165_1_0  (v0 : Int) (v1 : Int) (v2 : Int) (v3 : Int) (v4 : Int) (v5 : List Int) : St := ⟨tund :: .v (.one (.ptr 0 0)) :: tund :: .v (.one (.row 1)) :: .v (.one (.int .i64 v0)) :: .v (.one (.int .i64 v1)) :: .v (.one (.int .i64 v2)) :: tund :: tund :: tund :: tund :: tund :: tund :: tund :: tund :: tund :: tund :: tund :: tund :: tund :: tund :: tund :: tund :: tund :: tund :: tund :: tund :: tund :: tund :: tund :: tund :: tund :: tund :: tund :: tund :: tund :: tund :: tund :: tund :: tund :: tund :: tund :: tund :: tund :: tund :: tund :: tund :: tund :: tund :: tund :: tund :: tund :: tund :: tund :: [], [.cells 27 [.int .i64 v3, .int .i64 v4], .row 3 (.ints .i64 v5)]⟩
def x165_1_0_k0  (y0 : Int) (y1 : Int) (y2 : Int) (y3 : Int) (y4 : List Int) : St := ⟨tund :: .v (.one (.ptr 0 0)) :: tund :: .v (.one (.row 1)) :: .v (.one (.int .i64 y0)) :: .v (.one (.int .i64 y1)) :: tund :: tund :: tund :: tund :: tund :: tund :: tund :: tund :: tund :: tund :: tund :: tund :: tund :: tund :: tund :: tund :: tund :: tund :: tund :: tund :: tund :: tund :: tund :: tund :: tund :: tund :: tund :: tund :: tund :: tund :: tund :: tund :: tund :: tund :: tund :: tund :: tund :: tund :: tund :: tund :: tund :: tund :: tund :: tund :: tund :: tund :: tund :: tund :: [], [.cells 27 [.int .i64 y2, .int .i64 y3], .row 3 (.ints .i64 y4)]⟩
theorem fl165_0_0 (s : St) : refSt (h165_0_0 0 0 0 []) s = h165_0_0 (intS (oneA (vT (nx tund s.tmps 4)))) (intS (nx .und (cellsB (nx .dead s.blks 0)) 0)) (intS (nx .und (cellsB (nx .dead s.blks 0)) 1)) (rInts (rowB_ (nx .dead s.blks 1))) := by kernel_rfl
def VLS165_0 {β : Type} (N : Nat) (zq47 : Nat → Int → Int → Int → List Int → (List Int → Option β) → Option β) : LSpec β := fun s K => cond (shpSt (h165_0_0 0 0 0 []) s) ((fun (v0 : Int) (v1 : Int) (v2 : Int) (v3 : List Int) => zq47  N v0 v1 v2 v3 (fun y0 => K (.exit 0) (x165_0_0_k0  y0))) (intS (oneA (vT (nx tund s.tmps 4)))) (intS (nx .und (cellsB (nx .dead s.blks 0)) 0)) (intS (nx .und (cellsB (nx .dead s.blks 0)) 1)) (rInts (rowB_ (nx .dead s.blks 1)))) (none)
def LS165_0 {β : Type} (N : Nat) : LSpec β := VLS165_0 N (zj47 N)
theorem fl165_1_0 (s : St) : refSt (h165_1_0 0 0 0 0 0 []) s = h165_1_0 (intS (oneA (vT (nx tund s.tmps 4)))) (intS (oneA (vT (nx tund s.tmps 5)))) (intS (oneA (vT (nx tund s.tmps 6)))) (intS (nx .und (cellsB (nx .dead s.blks 0)) 0)) (intS (nx .und (cellsB (nx .dead s.blks 0)) 1)) (rInts (rowB_ (nx .dead s.blks 1))) := by kernel_rfl
def VLS165_2 {β : Type} (N : Nat) (zq45 : Nat → Int → Int → Int → Int → Int → List Int → (Int → Int → Int → Int → List Int → Option β) → Option β) : LSpec β := fun s K => cond (shpSt (h165_1_0 0 0 0 0 0 []) s) ((fun (v0 : Int) (v1 : Int) (v2 : Int) (v3 : Int) (v4 : Int) (v5 : List Int) => zq45  N v0 v1 v2 v3 v4 v5 (fun y0 y1 y2 y3 y4 => K (.exit 2) (x165_1_0_k0  y0 y1 y2 y3 y4))) (intS (oneA (vT (nx tund s.tmps 4)))) (intS (oneA (vT (nx tund s.tmps 5)))) (intS (oneA (vT (nx tund s.tmps 6)))) (intS (nx .und (cellsB (nx .dead s.blks 0)) 0)) (intS (nx .und (cellsB (nx .dead s.blks 0)) 1)) (rInts (rowB_ (nx .dead s.blks 1)))) (none)
def LS165_2 {β : Type} (N : Nat) : LSpec β := VLS165_2 N (zj45 N)
def VE165 {β : Type} (N : Nat) (zq2 : (a0 : Int) → (a1 : Int) → (k : Bool → Option β) → Option β) (zq27 : (a0 : Int) → (k : Int → Option β) → Option β) (zq47 : Nat → Int → Int → Int → List Int → (List Int → Option β) → Option β) (zq45 : Nat → Int → Int → Int → Int → Int → List Int → (Int → Int → Int → Int → List Int → Option β) → Option β) : Env β := ⟨[(58, VS58 N zq2), (166, VS166 N zq27)], [], [(0, VLS165_0 N zq47), (2, VLS165_2 N zq45)], [], ⟨[], [], [], [61]⟩⟩
def E165 {β : Type} (N : Nat) : Env β := VE165 N (zj2 N) (zj27 N) (zj47 N) (zj45 N)
def zb46 {β : Type} (N : Nat) (zq2 : (a0 : Int) → (a1 : Int) → (k : Bool → Option β) → Option β) (zq45 : Nat → Int → Int → Int → Int → Int → List Int → (Int → Int → Int → Int → List Int → Option β) → Option β)  (v0 : Int) (v1 : Int) (v2 : Int) (v3 : List Int) (rec_ : Int → Int → Int → List Int → Option β) (k0 : List Int → Option β) : Option β :=
zq2 v1 v2 fun r3 =>
(cond r3
((gd ((decide (0 ≤ v1)))
((cond ((decide (v0 < (shlI .i64 1 v1))))
(zq45  N v0 0 0 v1 v2 v3 (fun e5_0 e5_1 e5_2 e5_3 e5_4 =>
(gd ((decide ((e5_4.length + ((([] : List Int) ++ [e5_1])).length) * 8 ≤ 140737488355328)))
(rec_ ((w64 (e5_0 + 1))) e5_2 e5_3 ((e5_4 ++ (([] : List Int) ++ [e5_1])))))))
(k0 v3)))))
(k0 v3))
theorem zt46 {β : Type} (N : Nat)  (v0 : Int) (v1 : Int) (v2 : Int) (v3 : List Int) (rec_ : Int → Int → Int → List Int → Option β) (k0 : List Int → Option β) : zj46 N v0 v1 v2 v3 rec_ k0 = zb46 N (zj2 N) (zj45 N) v0 v1 v2 v3 rec_ k0 := by
  unfold zj46 zb46
  rfl
theorem vst165_0_0 {β : Type} (N : Nat) (zq2 : (a0 : Int) → (a1 : Int) → (k : Bool → Option β) → Option β) (zq27 : (a0 : Int) → (k : Int → Option β) → Option β) (zq47 : Nat → Int → Int → Int → List Int → (List Int → Option β) → Option β) (zq45 : Nat → Int → Int → Int → Int → Int → List Int → (Int → Int → Int → Int → List Int → Option β) → Option β)  (v0 : Int) (v1 : Int) (v2 : Int) (v3 : List Int) (rec_ : St → Option β) (K : Exit → St → Option β) :
    ev lay (VE165 N zq2 zq27 zq47 zq45) (retMask Try.f165) (lp Try.f165 0).body (lp Try.f165 0).ex ((lp Try.f165 0).lv (retMask Try.f165)) (h165_0_0  v0 v1 v2 v3) (nextR (fun s' => rec_ (s'.tidy ((lp Try.f165 0).lv (retMask Try.f165)))) K) = zb46 N zq2 zq45  v0 v1 v2 v3 (fun v0 v1 v2 v3 => rec_ (h165_0_0  v0 v1 v2 v3)) (fun y0 => K (.exit 0) (x165_0_0_k0  y0)) := by kernel_rfl
theorem st165_0_0 {β : Type} (N : Nat)  (v0 : Int) (v1 : Int) (v2 : Int) (v3 : List Int) (rec_ : St → Option β) (K : Exit → St → Option β) :
    ev lay (E165 N) (retMask Try.f165) (lp Try.f165 0).body (lp Try.f165 0).ex ((lp Try.f165 0).lv (retMask Try.f165)) (h165_0_0  v0 v1 v2 v3) (nextR (fun s' => rec_ (s'.tidy ((lp Try.f165 0).lv (retMask Try.f165)))) K) = zj46 N  v0 v1 v2 v3 (fun v0 v1 v2 v3 => rec_ (h165_0_0  v0 v1 v2 v3)) (fun y0 => K (.exit 0) (x165_0_0_k0  y0)) := (vst165_0_0 N (zj2 N) (zj27 N) (zj47 N) (zj45 N) v0 v1 v2 v3 rec_ K).trans (zt46 N  v0 v1 v2 v3 (fun v0 v1 v2 v3 => rec_ (h165_0_0  v0 v1 v2 v3)) (fun y0 => K (.exit 0) (x165_0_0_k0  y0))).symm
theorem ro165_0_0 {β : Type} (N : Nat)  (K : Exit → St → Option β) : ∀ (F : Nat) (v0 : Int) (v1 : Int) (v2 : Int) (v3 : List Int), (lp Try.f165 0).rounds lay (E165 N) (retMask Try.f165) F (h165_0_0  v0 v1 v2 v3) K = zj47 N  F v0 v1 v2 v3 (fun y0 => K (.exit 0) (x165_0_0_k0  y0)) := by
  intro F
  induction F with
  | zero => intros; rfl
  | succ F ih =>
    intros
    rw [rounds_next]
    refine (st165_0_0 N  _ _ _ _ (fun s => (lp Try.f165 0).rounds lay (E165 N) (retMask Try.f165) F s K) K).trans ?_
    simp only [ih]
    rfl
theorem lk165_0 {β : Type} (N : Nat) : lookL (E165 (β := β) N).loops (lp Try.f165 0).id = LS165_0 N := by kernel_rfl
theorem rk165_0 {β : Type} (N : Nat) : RoundsOK lay (E165 (β := β) N) (retMask Try.f165) (lp Try.f165 0) := by
  intro s K r h
  rw [lk165_0] at h
  unfold LS165_0 VLS165_0 at h
  cases hb : shpSt (h165_0_0 0 0 0 []) s with
  | true =>
    rw [hb, cond_true] at h
    exact ⟨N, by rw [← shpSt_ref hb, fl165_0_0 s]; exact (ro165_0_0 N  K N (intS (oneA (vT (nx tund s.tmps 4)))) (intS (nx .und (cellsB (nx .dead s.blks 0)) 0)) (intS (nx .und (cellsB (nx .dead s.blks 0)) 1)) (rInts (rowB_ (nx .dead s.blks 1)))).trans h⟩
  | false =>
  rw [hb, cond_false] at h
  clear hb
  cases h
def zb44 {β : Type} (N : Nat) (zq27 : (a0 : Int) → (k : Int → Option β) → Option β)  (v0 : Int) (v1 : Int) (v2 : Int) (v3 : Int) (v4 : Int) (v5 : List Int) (rec_ : Int → Int → Int → Int → Int → List Int → Option β) (k0 : Int → Int → Int → Int → List Int → Option β) : Option β :=
(cond ((decide (v2 ≤ v0)))
((cond (((bits .and .i64 v2 v0) != v2))
(rec_ v0 v1 ((w64 (v2 + 1))) v3 v4 v5)
(zq27 ((bits .xor .i64 v0 v2)) fun r4 =>
(cond (((remI r4 2) == 1))
((gd ((decide (0 ≤ v2)))
(rec_ v0 ((w64 (v1 - (bits .and .i64 (shrI .i64 v4 v2) 1)))) ((w64 (v2 + 1))) v3 v4 v5)))
((gd ((decide (0 ≤ v2)))
(rec_ v0 ((w64 (v1 + (bits .and .i64 (shrI .i64 v4 v2) 1)))) ((w64 (v2 + 1))) v3 v4 v5)))))))
(k0 v0 v1 v3 v4 v5))
theorem zt44 {β : Type} (N : Nat)  (v0 : Int) (v1 : Int) (v2 : Int) (v3 : Int) (v4 : Int) (v5 : List Int) (rec_ : Int → Int → Int → Int → Int → List Int → Option β) (k0 : Int → Int → Int → Int → List Int → Option β) : zj44 N v0 v1 v2 v3 v4 v5 rec_ k0 = zb44 N (zj27 N) v0 v1 v2 v3 v4 v5 rec_ k0 := by
  unfold zj44 zb44
  rfl
theorem vst165_1_0 {β : Type} (N : Nat) (zq2 : (a0 : Int) → (a1 : Int) → (k : Bool → Option β) → Option β) (zq27 : (a0 : Int) → (k : Int → Option β) → Option β) (zq47 : Nat → Int → Int → Int → List Int → (List Int → Option β) → Option β) (zq45 : Nat → Int → Int → Int → Int → Int → List Int → (Int → Int → Int → Int → List Int → Option β) → Option β)  (v0 : Int) (v1 : Int) (v2 : Int) (v3 : Int) (v4 : Int) (v5 : List Int) (rec_ : St → Option β) (K : Exit → St → Option β) :
    ev lay (VE165 N zq2 zq27 zq47 zq45) (retMask Try.f165) (lp Try.f165 1).body (lp Try.f165 1).ex ((lp Try.f165 1).lv (retMask Try.f165)) (h165_1_0  v0 v1 v2 v3 v4 v5) (nextR (fun s' => rec_ (s'.tidy ((lp Try.f165 1).lv (retMask Try.f165)))) K) = zb44 N zq27  v0 v1 v2 v3 v4 v5 (fun v0 v1 v2 v3 v4 v5 => rec_ (h165_1_0  v0 v1 v2 v3 v4 v5)) (fun y0 y1 y2 y3 y4 => K (.exit 2) (x165_1_0_k0  y0 y1 y2 y3 y4)) := by kernel_rfl
theorem st165_1_0 {β : Type} (N : Nat)  (v0 : Int) (v1 : Int) (v2 : Int) (v3 : Int) (v4 : Int) (v5 : List Int) (rec_ : St → Option β) (K : Exit → St → Option β) :
    ev lay (E165 N) (retMask Try.f165) (lp Try.f165 1).body (lp Try.f165 1).ex ((lp Try.f165 1).lv (retMask Try.f165)) (h165_1_0  v0 v1 v2 v3 v4 v5) (nextR (fun s' => rec_ (s'.tidy ((lp Try.f165 1).lv (retMask Try.f165)))) K) = zj44 N  v0 v1 v2 v3 v4 v5 (fun v0 v1 v2 v3 v4 v5 => rec_ (h165_1_0  v0 v1 v2 v3 v4 v5)) (fun y0 y1 y2 y3 y4 => K (.exit 2) (x165_1_0_k0  y0 y1 y2 y3 y4)) := (vst165_1_0 N (zj2 N) (zj27 N) (zj47 N) (zj45 N) v0 v1 v2 v3 v4 v5 rec_ K).trans (zt44 N  v0 v1 v2 v3 v4 v5 (fun v0 v1 v2 v3 v4 v5 => rec_ (h165_1_0  v0 v1 v2 v3 v4 v5)) (fun y0 y1 y2 y3 y4 => K (.exit 2) (x165_1_0_k0  y0 y1 y2 y3 y4))).symm
theorem ro165_1_0 {β : Type} (N : Nat)  (K : Exit → St → Option β) : ∀ (F : Nat) (v0 : Int) (v1 : Int) (v2 : Int) (v3 : Int) (v4 : Int) (v5 : List Int), (lp Try.f165 1).rounds lay (E165 N) (retMask Try.f165) F (h165_1_0  v0 v1 v2 v3 v4 v5) K = zj45 N  F v0 v1 v2 v3 v4 v5 (fun y0 y1 y2 y3 y4 => K (.exit 2) (x165_1_0_k0  y0 y1 y2 y3 y4)) := by
  intro F
  induction F with
  | zero => intros; rfl
  | succ F ih =>
    intros
    rw [rounds_next]
    refine (st165_1_0 N  _ _ _ _ _ _ (fun s => (lp Try.f165 1).rounds lay (E165 N) (retMask Try.f165) F s K) K).trans ?_
    simp only [ih]
    rfl
theorem lk165_2 {β : Type} (N : Nat) : lookL (E165 (β := β) N).loops (lp Try.f165 1).id = LS165_2 N := by kernel_rfl
theorem rk165_2 {β : Type} (N : Nat) : RoundsOK lay (E165 (β := β) N) (retMask Try.f165) (lp Try.f165 1) := by
  intro s K r h
  rw [lk165_2] at h
  unfold LS165_2 VLS165_2 at h
  cases hb : shpSt (h165_1_0 0 0 0 0 0 []) s with
  | true =>
    rw [hb, cond_true] at h
    exact ⟨N, by rw [← shpSt_ref hb, fl165_1_0 s]; exact (ro165_1_0 N  K N (intS (oneA (vT (nx tund s.tmps 4)))) (intS (oneA (vT (nx tund s.tmps 5)))) (intS (oneA (vT (nx tund s.tmps 6)))) (intS (nx .und (cellsB (nx .dead s.blks 0)) 0)) (intS (nx .und (cellsB (nx .dead s.blks 0)) 1)) (rInts (rowB_ (nx .dead s.blks 1)))).trans h⟩
  | false =>
  rw [hb, cond_false] at h
  clear hb
  cases h
def zb48 {β : Type} (N : Nat) (zq47 : Nat → Int → Int → Int → List Int → (List Int → Option β) → Option β) (a0 : Int) (a1 : Int) (k : List Int → Option β) : Option β :=
zq47  N 0 a0 a1 (([] : List Int)) (fun e6_0 =>
k e6_0)
theorem zt48 {β : Type} (N : Nat) (a0 : Int) (a1 : Int) (k : List Int → Option β) : zj48 N a0 a1 k = zb48 N (zj47 N) a0 a1 k := by
  unfold zj48 zb48
  rfl
theorem ve165_0 {β : Type} (N : Nat) (zq2 : (a0 : Int) → (a1 : Int) → (k : Bool → Option β) → Option β) (zq27 : (a0 : Int) → (k : Int → Option β) → Option β) (zq47 : Nat → Int → Int → Int → List Int → (List Int → Option β) → Option β) (zq45 : Nat → Int → Int → Int → Int → Int → List Int → (Int → Int → Int → Int → List Int → Option β) → Option β)  (a0 : Int) (a1 : Int) (K : TV → Option β) : evFn lay (VE165 N zq2 zq27 zq47 zq45) Try.f165 [.v (.agg [.int .i64 a0, .int .i64 a1])] K = zb48 N zq47 a0 a1 (fun z2 => K (.v (.one (.sl 3 (.ints .i64 z2))))) := by kernel_rfl
theorem e165_0 {β : Type} (N : Nat)  (a0 : Int) (a1 : Int) (K : TV → Option β) : evFn lay (E165 N) Try.f165 [.v (.agg [.int .i64 a0, .int .i64 a1])] K = zj48 N a0 a1 (fun z2 => K (.v (.one (.sl 3 (.ints .i64 z2))))) := (ve165_0 N (zj2 N) (zj27 N) (zj47 N) (zj45 N) a0 a1 K).trans (zt48 N a0 a1 (fun z2 => K (.v (.one (.sl 3 (.ints .i64 z2)))))).symm
theorem o165 {β : Type} (N : Nat) : SpecOK (β := β) inv Try.prog 165 (S165 N) := by
  refine spec_of lay_ok mixed (E := E165 N) (specs_loops (specs_cons (o58 N) (specs_cons (o166 N) specs_nil))) muts_nil gs_nil Try.func165 (by kernel_rfl) 2 (by kernel_rfl) ⟨⟨trivial, rk165_0 N⟩, rk165_2 N⟩ fun args K r h => ?_
  unfold S165 VS165 at h
  split at h
  · exact (e165_0 N _ _ _).trans h
  · cases h
def VS130 {β : Type} (N : Nat) (zq51 : (a0 : Int) → (a1 : Int) → (k : Int → Option β) → Option β) : Rv.Spec β := fun args K => match args with
  | [.v (.agg [.int .i64 a0, .int .i64 a1])] => zq51 a0 a1 (fun z2 => K (.v (.one (.int .i64 z2))))
  | _ => none
def S130 {β : Type} (N : Nat) : Rv.Spec β := VS130 N (zj51 N)
def h130_0_0  (v0 : Int) (v1 : Int) (v2 : List Int) : St := ⟨tund :: tund :: tund :: .v (.one (.row 0)) :: .v (.one (.int .i64 v0)) :: .v (.one (.int .i64 v1)) :: tund :: tund :: tund :: tund :: tund :: tund :: tund :: tund :: tund :: tund :: tund :: tund :: tund :: tund :: tund :: tund :: tund :: tund :: tund :: tund :: tund :: [], [.row 3 (.ints .i64 v2)]⟩
def x130_0_0_k0  (y0 : Int) : St := ⟨tund :: tund :: tund :: tund :: .v (.one (.int .i64 y0)) :: tund :: tund :: tund :: tund :: tund :: tund :: tund :: tund :: tund :: tund :: tund :: tund :: tund :: tund :: tund :: tund :: tund :: tund :: tund :: tund :: tund :: tund :: [], []⟩
theorem fl130_0_0 (s : St) : refSt (h130_0_0 0 0 []) s = h130_0_0 (intS (oneA (vT (nx tund s.tmps 4)))) (intS (oneA (vT (nx tund s.tmps 5)))) (rInts (rowB_ (nx .dead s.blks 0))) := by kernel_rfl
def VLS130_0 {β : Type} (N : Nat) (zq50 : Nat → Int → Int → List Int → (Int → Option β) → Option β) : LSpec β := fun s K => cond (shpSt (h130_0_0 0 0 []) s) ((fun (v0 : Int) (v1 : Int) (v2 : List Int) => zq50  N v0 v1 v2 (fun y0 => K (.exit 0) (x130_0_0_k0  y0))) (intS (oneA (vT (nx tund s.tmps 4)))) (intS (oneA (vT (nx tund s.tmps 5)))) (rInts (rowB_ (nx .dead s.blks 0)))) (none)
def LS130_0 {β : Type} (N : Nat) : LSpec β := VLS130_0 N (zj50 N)
def VE130 {β : Type} (N : Nat) (zq2 : (a0 : Int) → (a1 : Int) → (k : Bool → Option β) → Option β) (zq48 : (a0 : Int) → (a1 : Int) → (k : List Int → Option β) → Option β) (zq27 : (a0 : Int) → (k : Int → Option β) → Option β) (zq50 : Nat → Int → Int → List Int → (Int → Option β) → Option β) : Env β := ⟨[(58, VS58 N zq2), (165, VS165 N zq48), (166, VS166 N zq27)], [], [(0, VLS130_0 N zq50)], [], ⟨[], [], [], [61]⟩⟩
def E130 {β : Type} (N : Nat) : Env β := VE130 N (zj2 N) (zj48 N) (zj27 N) (zj50 N)
def zb49 {β : Type} (N : Nat) (zq27 : (a0 : Int) → (k : Int → Option β) → Option β)  (v0 : Int) (v1 : Int) (v2 : List Int) (rec_ : Int → Int → List Int → Option β) (k0 : Int → Option β) : Option β :=
(cond ((decide (v1 < (v2.length : Int))))
((gd ((decide (0 ≤ v1)))
((gd ((decide (v1 < (v2.length : Int))))
((cond (((rd 0 v2 v1) != 0))
(zq27 v1 fun r5 =>
rec_ ((mxI v0 r5)) ((w64 (v1 + 1))) v2)
(rec_ v0 ((w64 (v1 + 1))) v2)))))))
(k0 v0))
theorem zt49 {β : Type} (N : Nat)  (v0 : Int) (v1 : Int) (v2 : List Int) (rec_ : Int → Int → List Int → Option β) (k0 : Int → Option β) : zj49 N v0 v1 v2 rec_ k0 = zb49 N (zj27 N) v0 v1 v2 rec_ k0 := by
  unfold zj49 zb49
  rfl
theorem vst130_0_0 {β : Type} (N : Nat) (zq2 : (a0 : Int) → (a1 : Int) → (k : Bool → Option β) → Option β) (zq48 : (a0 : Int) → (a1 : Int) → (k : List Int → Option β) → Option β) (zq27 : (a0 : Int) → (k : Int → Option β) → Option β) (zq50 : Nat → Int → Int → List Int → (Int → Option β) → Option β)  (v0 : Int) (v1 : Int) (v2 : List Int) (rec_ : St → Option β) (K : Exit → St → Option β) :
    ev lay (VE130 N zq2 zq48 zq27 zq50) (retMask Try.f130) (lp Try.f130 0).body (lp Try.f130 0).ex ((lp Try.f130 0).lv (retMask Try.f130)) (h130_0_0  v0 v1 v2) (nextR (fun s' => rec_ (s'.tidy ((lp Try.f130 0).lv (retMask Try.f130)))) K) = zb49 N zq27  v0 v1 v2 (fun v0 v1 v2 => rec_ (h130_0_0  v0 v1 v2)) (fun y0 => K (.exit 0) (x130_0_0_k0  y0)) := by kernel_rfl
theorem st130_0_0 {β : Type} (N : Nat)  (v0 : Int) (v1 : Int) (v2 : List Int) (rec_ : St → Option β) (K : Exit → St → Option β) :
    ev lay (E130 N) (retMask Try.f130) (lp Try.f130 0).body (lp Try.f130 0).ex ((lp Try.f130 0).lv (retMask Try.f130)) (h130_0_0  v0 v1 v2) (nextR (fun s' => rec_ (s'.tidy ((lp Try.f130 0).lv (retMask Try.f130)))) K) = zj49 N  v0 v1 v2 (fun v0 v1 v2 => rec_ (h130_0_0  v0 v1 v2)) (fun y0 => K (.exit 0) (x130_0_0_k0  y0)) := (vst130_0_0 N (zj2 N) (zj48 N) (zj27 N) (zj50 N) v0 v1 v2 rec_ K).trans (zt49 N  v0 v1 v2 (fun v0 v1 v2 => rec_ (h130_0_0  v0 v1 v2)) (fun y0 => K (.exit 0) (x130_0_0_k0  y0))).symm
theorem ro130_0_0 {β : Type} (N : Nat)  (K : Exit → St → Option β) : ∀ (F : Nat) (v0 : Int) (v1 : Int) (v2 : List Int), (lp Try.f130 0).rounds lay (E130 N) (retMask Try.f130) F (h130_0_0  v0 v1 v2) K = zj50 N  F v0 v1 v2 (fun y0 => K (.exit 0) (x130_0_0_k0  y0)) := by
  intro F
  induction F with
  | zero => intros; rfl
  | succ F ih =>
    intros
    rw [rounds_next]
    refine (st130_0_0 N  _ _ _ (fun s => (lp Try.f130 0).rounds lay (E130 N) (retMask Try.f130) F s K) K).trans ?_
    simp only [ih]
    rfl
theorem lk130_0 {β : Type} (N : Nat) : lookL (E130 (β := β) N).loops (lp Try.f130 0).id = LS130_0 N := by kernel_rfl
theorem rk130_0 {β : Type} (N : Nat) : RoundsOK lay (E130 (β := β) N) (retMask Try.f130) (lp Try.f130 0) := by
  intro s K r h
  rw [lk130_0] at h
  unfold LS130_0 VLS130_0 at h
  cases hb : shpSt (h130_0_0 0 0 []) s with
  | true =>
    rw [hb, cond_true] at h
    exact ⟨N, by rw [← shpSt_ref hb, fl130_0_0 s]; exact (ro130_0_0 N  K N (intS (oneA (vT (nx tund s.tmps 4)))) (intS (oneA (vT (nx tund s.tmps 5)))) (rInts (rowB_ (nx .dead s.blks 0)))).trans h⟩
  | false =>
  rw [hb, cond_false] at h
  clear hb
  cases h
def zb51 {β : Type} (N : Nat) (zq2 : (a0 : Int) → (a1 : Int) → (k : Bool → Option β) → Option β) (zq48 : (a0 : Int) → (a1 : Int) → (k : List Int → Option β) → Option β) (zq50 : Nat → Int → Int → List Int → (Int → Option β) → Option β) (a0 : Int) (a1 : Int) (k : Int → Option β) : Option β :=
zq2 a0 a1 fun r3 =>
(cond (!r3)
(k (-2))
(zq48 a0 a1 fun r4 =>
zq50  N (-1) 0 r4 (fun e6_0 =>
k e6_0)))
theorem zt51 {β : Type} (N : Nat) (a0 : Int) (a1 : Int) (k : Int → Option β) : zj51 N a0 a1 k = zb51 N (zj2 N) (zj48 N) (zj50 N) a0 a1 k := by
  unfold zj51 zb51
  rfl
theorem ve130_0 {β : Type} (N : Nat) (zq2 : (a0 : Int) → (a1 : Int) → (k : Bool → Option β) → Option β) (zq48 : (a0 : Int) → (a1 : Int) → (k : List Int → Option β) → Option β) (zq27 : (a0 : Int) → (k : Int → Option β) → Option β) (zq50 : Nat → Int → Int → List Int → (Int → Option β) → Option β)  (a0 : Int) (a1 : Int) (K : TV → Option β) : evFn lay (VE130 N zq2 zq48 zq27 zq50) Try.f130 [.v (.agg [.int .i64 a0, .int .i64 a1])] K = zb51 N zq2 zq48 zq50 a0 a1 (fun z2 => K (.v (.one (.int .i64 z2)))) := by kernel_rfl
theorem e130_0 {β : Type} (N : Nat)  (a0 : Int) (a1 : Int) (K : TV → Option β) : evFn lay (E130 N) Try.f130 [.v (.agg [.int .i64 a0, .int .i64 a1])] K = zj51 N a0 a1 (fun z2 => K (.v (.one (.int .i64 z2)))) := (ve130_0 N (zj2 N) (zj48 N) (zj27 N) (zj50 N) a0 a1 K).trans (zt51 N a0 a1 (fun z2 => K (.v (.one (.int .i64 z2))))).symm
theorem o130 {β : Type} (N : Nat) : SpecOK (β := β) inv Try.prog 130 (S130 N) := by
  refine spec_of lay_ok mixed (E := E130 N) (specs_loops (specs_cons (o58 N) (specs_cons (o165 N) (specs_cons (o166 N) specs_nil)))) muts_nil gs_nil Try.func130 (by kernel_rfl) 1 (by kernel_rfl) ⟨trivial, rk130_0 N⟩ fun args K r h => ?_
  unfold S130 VS130 at h
  split at h
  · exact (e130_0 N _ _ _).trans h
  · cases h
def VS167 {β : Type} (N : Nat) (zq56 : (a0 : Int) → (a1 : Int) → (k : Int → Option β) → Option β) : Rv.Spec β := fun args K => match args with
  | [.v (.agg [.int .i64 a0, .int .i64 a1])] => zq56 a0 a1 (fun z2 => K (.v (.one (.int .i64 z2))))
  | _ => none
def S167 {β : Type} (N : Nat) : Rv.Spec β := VS167 N (zj56 N)
def h167_0_0  (v0 : Int) (v1 : Int) (v2 : Int) (v3 : Int) : St := ⟨tund :: .v (.one (.ptr 0 0)) :: tund :: .v (.one (.int .i64 v0)) :: .v (.one (.int .i64 v1)) :: tund :: tund :: tund :: tund :: tund :: tund :: tund :: tund :: tund :: tund :: tund :: tund :: tund :: tund :: tund :: tund :: tund :: tund :: tund :: tund :: tund :: tund :: tund :: tund :: tund :: tund :: tund :: tund :: tund :: tund :: tund :: tund :: tund :: [], [.cells 27 [.int .i64 v2, .int .i64 v3]]⟩
def x167_0_0_k0  (y0 : Int) : St := ⟨tund :: tund :: tund :: .v (.one (.int .i64 y0)) :: tund :: tund :: tund :: tund :: tund :: tund :: tund :: tund :: tund :: tund :: tund :: tund :: tund :: tund :: tund :: tund :: tund :: tund :: tund :: tund :: tund :: tund :: tund :: tund :: tund :: tund :: tund :: tund :: tund :: tund :: tund :: tund :: tund :: tund :: [], []⟩
def h167_1_0  (v0 : Int) (v1 : Int) (v2 : Int) (v3 : Int) (v4 : Int) (v5 : Int) : St := ⟨tund :: .v (.one (.ptr 0 0)) :: tund :: .v (.one (.int .i64 v0)) :: .v (.one (.int .i64 v1)) :: .v (.one (.int .i64 v2)) :: .v (.one (.int .i64 v3)) :: tund :: tund :: tund :: tund :: tund :: tund :: tund :: tund :: tund :: tund :: tund :: tund :: tund :: tund :: tund :: tund :: tund :: tund :: tund :: tund :: tund :: tund :: tund :: tund :: tund :: tund :: tund :: tund :: tund :: tund :: tund :: [], [.cells 27 [.int .i64 v4, .int .i64 v5]]⟩
def x167_1_0_k0  (y0 : Int) (y1 : Int) (y2 : Int) (y3 : Int) (y4 : Int) : St := ⟨tund :: .v (.one (.ptr 0 0)) :: tund :: .v (.one (.int .i64 y0)) :: .v (.one (.int .i64 y1)) :: .v (.one (.int .i64 y2)) :: tund :: tund :: tund :: tund :: tund :: tund :: tund :: tund :: tund :: tund :: tund :: tund :: tund :: tund :: tund :: tund :: tund :: tund :: tund :: tund :: tund :: tund :: tund :: tund :: tund :: tund :: tund :: tund :: tund :: tund :: tund :: tund :: [], [.cells 27 [.int .i64 y3, .int .i64 y4]]⟩
theorem fl167_0_0 (s : St) : refSt (h167_0_0 0 0 0 0) s = h167_0_0 (intS (oneA (vT (nx tund s.tmps 3)))) (intS (oneA (vT (nx tund s.tmps 4)))) (intS (nx .und (cellsB (nx .dead s.blks 0)) 0)) (intS (nx .und (cellsB (nx .dead s.blks 0)) 1)) := by kernel_rfl
def VLS167_0 {β : Type} (N : Nat) (zq55 : Nat → Int → Int → Int → Int → (Int → Option β) → Option β) : LSpec β := fun s K => cond (shpSt (h167_0_0 0 0 0 0) s) ((fun (v0 : Int) (v1 : Int) (v2 : Int) (v3 : Int) => zq55  N v0 v1 v2 v3 (fun y0 => K (.exit 0) (x167_0_0_k0  y0))) (intS (oneA (vT (nx tund s.tmps 3)))) (intS (oneA (vT (nx tund s.tmps 4)))) (intS (nx .und (cellsB (nx .dead s.blks 0)) 0)) (intS (nx .und (cellsB (nx .dead s.blks 0)) 1))) (none)
def LS167_0 {β : Type} (N : Nat) : LSpec β := VLS167_0 N (zj55 N)
theorem fl167_1_0 (s : St) : refSt (h167_1_0 0 0 0 0 0 0) s = h167_1_0 (intS (oneA (vT (nx tund s.tmps 3)))) (intS (oneA (vT (nx tund s.tmps 4)))) (intS (oneA (vT (nx tund s.tmps 5)))) (intS (oneA (vT (nx tund s.tmps 6)))) (intS (nx .und (cellsB (nx .dead s.blks 0)) 0)) (intS (nx .und (cellsB (nx .dead s.blks 0)) 1)) := by kernel_rfl
def VLS167_2 {β : Type} (N : Nat) (zq53 : Nat → Int → Int → Int → Int → Int → Int → (Int → Int → Int → Int → Int → Option β) → Option β) : LSpec β := fun s K => cond (shpSt (h167_1_0 0 0 0 0 0 0) s) ((fun (v0 : Int) (v1 : Int) (v2 : Int) (v3 : Int) (v4 : Int) (v5 : Int) => zq53  N v0 v1 v2 v3 v4 v5 (fun y0 y1 y2 y3 y4 => K (.exit 2) (x167_1_0_k0  y0 y1 y2 y3 y4))) (intS (oneA (vT (nx tund s.tmps 3)))) (intS (oneA (vT (nx tund s.tmps 4)))) (intS (oneA (vT (nx tund s.tmps 5)))) (intS (oneA (vT (nx tund s.tmps 6)))) (intS (nx .und (cellsB (nx .dead s.blks 0)) 0)) (intS (nx .und (cellsB (nx .dead s.blks 0)) 1))) (none)
def LS167_2 {β : Type} (N : Nat) : LSpec β := VLS167_2 N (zj53 N)
def VE167 {β : Type} (N : Nat) (zq55 : Nat → Int → Int → Int → Int → (Int → Option β) → Option β) (zq53 : Nat → Int → Int → Int → Int → Int → Int → (Int → Int → Int → Int → Int → Option β) → Option β) : Env β := ⟨[], [], [(0, VLS167_0 N zq55), (2, VLS167_2 N zq53)], [], ⟨[], [], [], [61]⟩⟩
def E167 {β : Type} (N : Nat) : Env β := VE167 N (zj55 N) (zj53 N)
def zb54 {β : Type} (N : Nat) (zq53 : Nat → Int → Int → Int → Int → Int → Int → (Int → Int → Int → Int → Int → Option β) → Option β)  (v0 : Int) (v1 : Int) (v2 : Int) (v3 : Int) (rec_ : Int → Int → Int → Int → Option β) (k0 : Int → Option β) : Option β :=
(gd ((decide (0 ≤ v2)))
((cond ((decide (v1 < (shlI .i64 1 v2))))
(zq53  N v0 v1 0 0 v2 v3 (fun e3_0 e3_1 e3_2 e3_3 e3_4 =>
(gd ((decide (0 ≤ e3_1)))
(rec_ ((bits .or .i64 e3_0 (shlI .i64 (remI e3_2 2) e3_1))) ((w64 (e3_1 + 1))) e3_3 e3_4))))
(k0 v0))))
theorem zt54 {β : Type} (N : Nat)  (v0 : Int) (v1 : Int) (v2 : Int) (v3 : Int) (rec_ : Int → Int → Int → Int → Option β) (k0 : Int → Option β) : zj54 N v0 v1 v2 v3 rec_ k0 = zb54 N (zj53 N) v0 v1 v2 v3 rec_ k0 := by
  unfold zj54 zb54
  rfl
theorem vst167_0_0 {β : Type} (N : Nat) (zq55 : Nat → Int → Int → Int → Int → (Int → Option β) → Option β) (zq53 : Nat → Int → Int → Int → Int → Int → Int → (Int → Int → Int → Int → Int → Option β) → Option β)  (v0 : Int) (v1 : Int) (v2 : Int) (v3 : Int) (rec_ : St → Option β) (K : Exit → St → Option β) :
    ev lay (VE167 N zq55 zq53) (retMask Try.f167) (lp Try.f167 0).body (lp Try.f167 0).ex ((lp Try.f167 0).lv (retMask Try.f167)) (h167_0_0  v0 v1 v2 v3) (nextR (fun s' => rec_ (s'.tidy ((lp Try.f167 0).lv (retMask Try.f167)))) K) = zb54 N zq53  v0 v1 v2 v3 (fun v0 v1 v2 v3 => rec_ (h167_0_0  v0 v1 v2 v3)) (fun y0 => K (.exit 0) (x167_0_0_k0  y0)) := by kernel_rfl
theorem st167_0_0 {β : Type} (N : Nat)  (v0 : Int) (v1 : Int) (v2 : Int) (v3 : Int) (rec_ : St → Option β) (K : Exit → St → Option β) :
    ev lay (E167 N) (retMask Try.f167) (lp Try.f167 0).body (lp Try.f167 0).ex ((lp Try.f167 0).lv (retMask Try.f167)) (h167_0_0  v0 v1 v2 v3) (nextR (fun s' => rec_ (s'.tidy ((lp Try.f167 0).lv (retMask Try.f167)))) K) = zj54 N  v0 v1 v2 v3 (fun v0 v1 v2 v3 => rec_ (h167_0_0  v0 v1 v2 v3)) (fun y0 => K (.exit 0) (x167_0_0_k0  y0)) := (vst167_0_0 N (zj55 N) (zj53 N) v0 v1 v2 v3 rec_ K).trans (zt54 N  v0 v1 v2 v3 (fun v0 v1 v2 v3 => rec_ (h167_0_0  v0 v1 v2 v3)) (fun y0 => K (.exit 0) (x167_0_0_k0  y0))).symm
theorem ro167_0_0 {β : Type} (N : Nat)  (K : Exit → St → Option β) : ∀ (F : Nat) (v0 : Int) (v1 : Int) (v2 : Int) (v3 : Int), (lp Try.f167 0).rounds lay (E167 N) (retMask Try.f167) F (h167_0_0  v0 v1 v2 v3) K = zj55 N  F v0 v1 v2 v3 (fun y0 => K (.exit 0) (x167_0_0_k0  y0)) := by
  intro F
  induction F with
  | zero => intros; rfl
  | succ F ih =>
    intros
    rw [rounds_next]
    refine (st167_0_0 N  _ _ _ _ (fun s => (lp Try.f167 0).rounds lay (E167 N) (retMask Try.f167) F s K) K).trans ?_
    simp only [ih]
    rfl
theorem lk167_0 {β : Type} (N : Nat) : lookL (E167 (β := β) N).loops (lp Try.f167 0).id = LS167_0 N := by kernel_rfl
theorem rk167_0 {β : Type} (N : Nat) : RoundsOK lay (E167 (β := β) N) (retMask Try.f167) (lp Try.f167 0) := by
  intro s K r h
  rw [lk167_0] at h
  unfold LS167_0 VLS167_0 at h
  cases hb : shpSt (h167_0_0 0 0 0 0) s with
  | true =>
    rw [hb, cond_true] at h
    exact ⟨N, by rw [← shpSt_ref hb, fl167_0_0 s]; exact (ro167_0_0 N  K N (intS (oneA (vT (nx tund s.tmps 3)))) (intS (oneA (vT (nx tund s.tmps 4)))) (intS (nx .und (cellsB (nx .dead s.blks 0)) 0)) (intS (nx .und (cellsB (nx .dead s.blks 0)) 1))).trans h⟩
  | false =>
  rw [hb, cond_false] at h
  clear hb
  cases h
def zb52 {β : Type} (N : Nat)  (v0 : Int) (v1 : Int) (v2 : Int) (v3 : Int) (v4 : Int) (v5 : Int) (rec_ : Int → Int → Int → Int → Int → Int → Option β) (k0 : Int → Int → Int → Int → Int → Option β) : Option β :=
(cond ((decide (v3 ≤ v1)))
((cond (((bits .and .i64 v3 v1) == v3))
((gd ((decide (0 ≤ v3)))
(rec_ v0 v1 ((w64 (v2 + (bits .and .i64 (shrI .i64 v5 v3) 1)))) ((w64 (v3 + 1))) v4 v5)))
(rec_ v0 v1 v2 ((w64 (v3 + 1))) v4 v5)))
(k0 v0 v1 v2 v4 v5))
theorem zt52 {β : Type} (N : Nat)  (v0 : Int) (v1 : Int) (v2 : Int) (v3 : Int) (v4 : Int) (v5 : Int) (rec_ : Int → Int → Int → Int → Int → Int → Option β) (k0 : Int → Int → Int → Int → Int → Option β) : zj52 N v0 v1 v2 v3 v4 v5 rec_ k0 = zb52 N v0 v1 v2 v3 v4 v5 rec_ k0 := by
  unfold zj52 zb52
  rfl
theorem vst167_1_0 {β : Type} (N : Nat) (zq55 : Nat → Int → Int → Int → Int → (Int → Option β) → Option β) (zq53 : Nat → Int → Int → Int → Int → Int → Int → (Int → Int → Int → Int → Int → Option β) → Option β)  (v0 : Int) (v1 : Int) (v2 : Int) (v3 : Int) (v4 : Int) (v5 : Int) (rec_ : St → Option β) (K : Exit → St → Option β) :
    ev lay (VE167 N zq55 zq53) (retMask Try.f167) (lp Try.f167 1).body (lp Try.f167 1).ex ((lp Try.f167 1).lv (retMask Try.f167)) (h167_1_0  v0 v1 v2 v3 v4 v5) (nextR (fun s' => rec_ (s'.tidy ((lp Try.f167 1).lv (retMask Try.f167)))) K) = zb52 N  v0 v1 v2 v3 v4 v5 (fun v0 v1 v2 v3 v4 v5 => rec_ (h167_1_0  v0 v1 v2 v3 v4 v5)) (fun y0 y1 y2 y3 y4 => K (.exit 2) (x167_1_0_k0  y0 y1 y2 y3 y4)) := by kernel_rfl
theorem st167_1_0 {β : Type} (N : Nat)  (v0 : Int) (v1 : Int) (v2 : Int) (v3 : Int) (v4 : Int) (v5 : Int) (rec_ : St → Option β) (K : Exit → St → Option β) :
    ev lay (E167 N) (retMask Try.f167) (lp Try.f167 1).body (lp Try.f167 1).ex ((lp Try.f167 1).lv (retMask Try.f167)) (h167_1_0  v0 v1 v2 v3 v4 v5) (nextR (fun s' => rec_ (s'.tidy ((lp Try.f167 1).lv (retMask Try.f167)))) K) = zj52 N  v0 v1 v2 v3 v4 v5 (fun v0 v1 v2 v3 v4 v5 => rec_ (h167_1_0  v0 v1 v2 v3 v4 v5)) (fun y0 y1 y2 y3 y4 => K (.exit 2) (x167_1_0_k0  y0 y1 y2 y3 y4)) := (vst167_1_0 N (zj55 N) (zj53 N) v0 v1 v2 v3 v4 v5 rec_ K).trans (zt52 N  v0 v1 v2 v3 v4 v5 (fun v0 v1 v2 v3 v4 v5 => rec_ (h167_1_0  v0 v1 v2 v3 v4 v5)) (fun y0 y1 y2 y3 y4 => K (.exit 2) (x167_1_0_k0  y0 y1 y2 y3 y4))).symm
theorem ro167_1_0 {β : Type} (N : Nat)  (K : Exit → St → Option β) : ∀ (F : Nat) (v0 : Int) (v1 : Int) (v2 : Int) (v3 : Int) (v4 : Int) (v5 : Int), (lp Try.f167 1).rounds lay (E167 N) (retMask Try.f167) F (h167_1_0  v0 v1 v2 v3 v4 v5) K = zj53 N  F v0 v1 v2 v3 v4 v5 (fun y0 y1 y2 y3 y4 => K (.exit 2) (x167_1_0_k0  y0 y1 y2 y3 y4)) := by
  intro F
  induction F with
  | zero => intros; rfl
  | succ F ih =>
    intros
    rw [rounds_next]
    refine (st167_1_0 N  _ _ _ _ _ _ (fun s => (lp Try.f167 1).rounds lay (E167 N) (retMask Try.f167) F s K) K).trans ?_
    simp only [ih]
    rfl
theorem lk167_2 {β : Type} (N : Nat) : lookL (E167 (β := β) N).loops (lp Try.f167 1).id = LS167_2 N := by kernel_rfl
theorem rk167_2 {β : Type} (N : Nat) : RoundsOK lay (E167 (β := β) N) (retMask Try.f167) (lp Try.f167 1) := by
  intro s K r h
  rw [lk167_2] at h
  unfold LS167_2 VLS167_2 at h
  cases hb : shpSt (h167_1_0 0 0 0 0 0 0) s with
  | true =>
    rw [hb, cond_true] at h
    exact ⟨N, by rw [← shpSt_ref hb, fl167_1_0 s]; exact (ro167_1_0 N  K N (intS (oneA (vT (nx tund s.tmps 3)))) (intS (oneA (vT (nx tund s.tmps 4)))) (intS (oneA (vT (nx tund s.tmps 5)))) (intS (oneA (vT (nx tund s.tmps 6)))) (intS (nx .und (cellsB (nx .dead s.blks 0)) 0)) (intS (nx .und (cellsB (nx .dead s.blks 0)) 1))).trans h⟩
  | false =>
  rw [hb, cond_false] at h
  clear hb
  cases h
def zb56 {β : Type} (N : Nat) (zq55 : Nat → Int → Int → Int → Int → (Int → Option β) → Option β) (a0 : Int) (a1 : Int) (k : Int → Option β) : Option β :=
zq55  N 0 0 a0 a1 (fun e4_0 =>
k e4_0)
theorem zt56 {β : Type} (N : Nat) (a0 : Int) (a1 : Int) (k : Int → Option β) : zj56 N a0 a1 k = zb56 N (zj55 N) a0 a1 k := by
  unfold zj56 zb56
  rfl
theorem ve167_0 {β : Type} (N : Nat) (zq55 : Nat → Int → Int → Int → Int → (Int → Option β) → Option β) (zq53 : Nat → Int → Int → Int → Int → Int → Int → (Int → Int → Int → Int → Int → Option β) → Option β)  (a0 : Int) (a1 : Int) (K : TV → Option β) : evFn lay (VE167 N zq55 zq53) Try.f167 [.v (.agg [.int .i64 a0, .int .i64 a1])] K = zb56 N zq55 a0 a1 (fun z2 => K (.v (.one (.int .i64 z2)))) := by kernel_rfl
theorem e167_0 {β : Type} (N : Nat)  (a0 : Int) (a1 : Int) (K : TV → Option β) : evFn lay (E167 N) Try.f167 [.v (.agg [.int .i64 a0, .int .i64 a1])] K = zj56 N a0 a1 (fun z2 => K (.v (.one (.int .i64 z2)))) := (ve167_0 N (zj55 N) (zj53 N) a0 a1 K).trans (zt56 N a0 a1 (fun z2 => K (.v (.one (.int .i64 z2))))).symm
theorem o167 {β : Type} (N : Nat) : SpecOK (β := β) inv Try.prog 167 (S167 N) := by
  refine spec_of lay_ok mixed (E := E167 N) (specs_loops specs_nil) muts_nil gs_nil Try.func167 (by kernel_rfl) 2 (by kernel_rfl) ⟨⟨trivial, rk167_0 N⟩, rk167_2 N⟩ fun args K r h => ?_
  unfold S167 VS167 at h
  split at h
  · exact (e167_0 N _ _ _).trans h
  · cases h
def VS131 {β : Type} (N : Nat) (zq59 : (a0 : Int) → (a1 : Int) → (k : Int → Option β) → Option β) : Rv.Spec β := fun args K => match args with
  | [.v (.agg [.int .i64 a0, .int .i64 a1])] => zq59 a0 a1 (fun z2 => K (.v (.one (.int .i64 z2))))
  | _ => none
def S131 {β : Type} (N : Nat) : Rv.Spec β := VS131 N (zj59 N)
def h131_0_0  (v0 : Int) (v1 : Int) (v2 : Int) (v3 : Int) (v4 : Int) : St := ⟨tund :: .v (.one (.ptr 0 0)) :: tund :: .v (.one (.int .i64 v0)) :: .v (.one (.int .i64 v1)) :: .v (.one (.int .i64 v2)) :: tund :: tund :: tund :: tund :: tund :: tund :: tund :: tund :: tund :: tund :: tund :: tund :: tund :: tund :: tund :: tund :: tund :: tund :: tund :: tund :: tund :: tund :: [], [.cells 27 [.int .i64 v3, .int .i64 v4]]⟩
def x131_0_0_k0  (y0 : Int) : St := ⟨tund :: tund :: tund :: tund :: .v (.one (.int .i64 y0)) :: tund :: tund :: tund :: tund :: tund :: tund :: tund :: tund :: tund :: tund :: tund :: tund :: tund :: tund :: tund :: tund :: tund :: tund :: tund :: tund :: tund :: tund :: tund :: [], []⟩
theorem fl131_0_0 (s : St) : refSt (h131_0_0 0 0 0 0 0) s = h131_0_0 (intS (oneA (vT (nx tund s.tmps 3)))) (intS (oneA (vT (nx tund s.tmps 4)))) (intS (oneA (vT (nx tund s.tmps 5)))) (intS (nx .und (cellsB (nx .dead s.blks 0)) 0)) (intS (nx .und (cellsB (nx .dead s.blks 0)) 1)) := by kernel_rfl
def VLS131_0 {β : Type} (N : Nat) (zq58 : Nat → Int → Int → Int → Int → Int → (Int → Option β) → Option β) : LSpec β := fun s K => cond (shpSt (h131_0_0 0 0 0 0 0) s) ((fun (v0 : Int) (v1 : Int) (v2 : Int) (v3 : Int) (v4 : Int) => zq58  N v0 v1 v2 v3 v4 (fun y0 => K (.exit 0) (x131_0_0_k0  y0))) (intS (oneA (vT (nx tund s.tmps 3)))) (intS (oneA (vT (nx tund s.tmps 4)))) (intS (oneA (vT (nx tund s.tmps 5)))) (intS (nx .und (cellsB (nx .dead s.blks 0)) 0)) (intS (nx .und (cellsB (nx .dead s.blks 0)) 1))) (none)
def LS131_0 {β : Type} (N : Nat) : LSpec β := VLS131_0 N (zj58 N)
def VE131 {β : Type} (N : Nat) (zq2 : (a0 : Int) → (a1 : Int) → (k : Bool → Option β) → Option β) (zq56 : (a0 : Int) → (a1 : Int) → (k : Int → Option β) → Option β) (zq27 : (a0 : Int) → (k : Int → Option β) → Option β) (zq58 : Nat → Int → Int → Int → Int → Int → (Int → Option β) → Option β) : Env β := ⟨[(58, VS58 N zq2), (167, VS167 N zq56), (166, VS166 N zq27)], [], [(0, VLS131_0 N zq58)], [], ⟨[], [], [], [61]⟩⟩
def E131 {β : Type} (N : Nat) : Env β := VE131 N (zj2 N) (zj56 N) (zj27 N) (zj58 N)
def zb57 {β : Type} (N : Nat) (zq27 : (a0 : Int) → (k : Int → Option β) → Option β)  (v0 : Int) (v1 : Int) (v2 : Int) (v3 : Int) (v4 : Int) (rec_ : Int → Int → Int → Int → Int → Option β) (k0 : Int → Option β) : Option β :=
(gd ((decide (0 ≤ v3)))
((cond ((decide (v2 < (shlI .i64 1 v3))))
((gd ((decide (0 ≤ v2)))
((cond (((bits .and .i64 (shrI .i64 v0 v2) 1) == 1))
(zq27 v2 fun r5 =>
rec_ v0 ((mxI v1 r5)) ((w64 (v2 + 1))) v3 v4)
(rec_ v0 v1 ((w64 (v2 + 1))) v3 v4)))))
(k0 v1))))
theorem zt57 {β : Type} (N : Nat)  (v0 : Int) (v1 : Int) (v2 : Int) (v3 : Int) (v4 : Int) (rec_ : Int → Int → Int → Int → Int → Option β) (k0 : Int → Option β) : zj57 N v0 v1 v2 v3 v4 rec_ k0 = zb57 N (zj27 N) v0 v1 v2 v3 v4 rec_ k0 := by
  unfold zj57 zb57
  rfl
theorem vst131_0_0 {β : Type} (N : Nat) (zq2 : (a0 : Int) → (a1 : Int) → (k : Bool → Option β) → Option β) (zq56 : (a0 : Int) → (a1 : Int) → (k : Int → Option β) → Option β) (zq27 : (a0 : Int) → (k : Int → Option β) → Option β) (zq58 : Nat → Int → Int → Int → Int → Int → (Int → Option β) → Option β)  (v0 : Int) (v1 : Int) (v2 : Int) (v3 : Int) (v4 : Int) (rec_ : St → Option β) (K : Exit → St → Option β) :
    ev lay (VE131 N zq2 zq56 zq27 zq58) (retMask Try.f131) (lp Try.f131 0).body (lp Try.f131 0).ex ((lp Try.f131 0).lv (retMask Try.f131)) (h131_0_0  v0 v1 v2 v3 v4) (nextR (fun s' => rec_ (s'.tidy ((lp Try.f131 0).lv (retMask Try.f131)))) K) = zb57 N zq27  v0 v1 v2 v3 v4 (fun v0 v1 v2 v3 v4 => rec_ (h131_0_0  v0 v1 v2 v3 v4)) (fun y0 => K (.exit 0) (x131_0_0_k0  y0)) := by kernel_rfl
theorem st131_0_0 {β : Type} (N : Nat)  (v0 : Int) (v1 : Int) (v2 : Int) (v3 : Int) (v4 : Int) (rec_ : St → Option β) (K : Exit → St → Option β) :
    ev lay (E131 N) (retMask Try.f131) (lp Try.f131 0).body (lp Try.f131 0).ex ((lp Try.f131 0).lv (retMask Try.f131)) (h131_0_0  v0 v1 v2 v3 v4) (nextR (fun s' => rec_ (s'.tidy ((lp Try.f131 0).lv (retMask Try.f131)))) K) = zj57 N  v0 v1 v2 v3 v4 (fun v0 v1 v2 v3 v4 => rec_ (h131_0_0  v0 v1 v2 v3 v4)) (fun y0 => K (.exit 0) (x131_0_0_k0  y0)) := (vst131_0_0 N (zj2 N) (zj56 N) (zj27 N) (zj58 N) v0 v1 v2 v3 v4 rec_ K).trans (zt57 N  v0 v1 v2 v3 v4 (fun v0 v1 v2 v3 v4 => rec_ (h131_0_0  v0 v1 v2 v3 v4)) (fun y0 => K (.exit 0) (x131_0_0_k0  y0))).symm
theorem ro131_0_0 {β : Type} (N : Nat)  (K : Exit → St → Option β) : ∀ (F : Nat) (v0 : Int) (v1 : Int) (v2 : Int) (v3 : Int) (v4 : Int), (lp Try.f131 0).rounds lay (E131 N) (retMask Try.f131) F (h131_0_0  v0 v1 v2 v3 v4) K = zj58 N  F v0 v1 v2 v3 v4 (fun y0 => K (.exit 0) (x131_0_0_k0  y0)) := by
  intro F
  induction F with
  | zero => intros; rfl
  | succ F ih =>
    intros
    rw [rounds_next]
    refine (st131_0_0 N  _ _ _ _ _ (fun s => (lp Try.f131 0).rounds lay (E131 N) (retMask Try.f131) F s K) K).trans ?_
    simp only [ih]
    rfl
theorem lk131_0 {β : Type} (N : Nat) : lookL (E131 (β := β) N).loops (lp Try.f131 0).id = LS131_0 N := by kernel_rfl
theorem rk131_0 {β : Type} (N : Nat) : RoundsOK lay (E131 (β := β) N) (retMask Try.f131) (lp Try.f131 0) := by
  intro s K r h
  rw [lk131_0] at h
  unfold LS131_0 VLS131_0 at h
  cases hb : shpSt (h131_0_0 0 0 0 0 0) s with
  | true =>
    rw [hb, cond_true] at h
    exact ⟨N, by rw [← shpSt_ref hb, fl131_0_0 s]; exact (ro131_0_0 N  K N (intS (oneA (vT (nx tund s.tmps 3)))) (intS (oneA (vT (nx tund s.tmps 4)))) (intS (oneA (vT (nx tund s.tmps 5)))) (intS (nx .und (cellsB (nx .dead s.blks 0)) 0)) (intS (nx .und (cellsB (nx .dead s.blks 0)) 1))).trans h⟩
  | false =>
  rw [hb, cond_false] at h
  clear hb
  cases h
def zb59 {β : Type} (N : Nat) (zq2 : (a0 : Int) → (a1 : Int) → (k : Bool → Option β) → Option β) (zq56 : (a0 : Int) → (a1 : Int) → (k : Int → Option β) → Option β) (zq58 : Nat → Int → Int → Int → Int → Int → (Int → Option β) → Option β) (a0 : Int) (a1 : Int) (k : Int → Option β) : Option β :=
zq2 a0 a1 fun r3 =>
(cond (!r3)
(k (-2))
(zq56 a0 a1 fun r4 =>
zq58  N r4 (-1) 0 a0 a1 (fun e6_0 =>
k e6_0)))
theorem zt59 {β : Type} (N : Nat) (a0 : Int) (a1 : Int) (k : Int → Option β) : zj59 N a0 a1 k = zb59 N (zj2 N) (zj56 N) (zj58 N) a0 a1 k := by
  unfold zj59 zb59
  rfl
theorem ve131_0 {β : Type} (N : Nat) (zq2 : (a0 : Int) → (a1 : Int) → (k : Bool → Option β) → Option β) (zq56 : (a0 : Int) → (a1 : Int) → (k : Int → Option β) → Option β) (zq27 : (a0 : Int) → (k : Int → Option β) → Option β) (zq58 : Nat → Int → Int → Int → Int → Int → (Int → Option β) → Option β)  (a0 : Int) (a1 : Int) (K : TV → Option β) : evFn lay (VE131 N zq2 zq56 zq27 zq58) Try.f131 [.v (.agg [.int .i64 a0, .int .i64 a1])] K = zb59 N zq2 zq56 zq58 a0 a1 (fun z2 => K (.v (.one (.int .i64 z2)))) := by kernel_rfl
theorem e131_0 {β : Type} (N : Nat)  (a0 : Int) (a1 : Int) (K : TV → Option β) : evFn lay (E131 N) Try.f131 [.v (.agg [.int .i64 a0, .int .i64 a1])] K = zj59 N a0 a1 (fun z2 => K (.v (.one (.int .i64 z2)))) := (ve131_0 N (zj2 N) (zj56 N) (zj27 N) (zj58 N) a0 a1 K).trans (zt59 N a0 a1 (fun z2 => K (.v (.one (.int .i64 z2))))).symm
theorem o131 {β : Type} (N : Nat) : SpecOK (β := β) inv Try.prog 131 (S131 N) := by
  refine spec_of lay_ok mixed (E := E131 N) (specs_loops (specs_cons (o58 N) (specs_cons (o167 N) (specs_cons (o166 N) specs_nil)))) muts_nil gs_nil Try.func131 (by kernel_rfl) 1 (by kernel_rfl) ⟨trivial, rk131_0 N⟩ fun args K r h => ?_
  unfold S131 VS131 at h
  split at h
  · exact (e131_0 N _ _ _).trans h
  · cases h
def VS132 {β : Type} (N : Nat) (zq60 : (a0 : Int) → (a1 : Int) → (k : Int → Option β) → Option β) : Rv.Spec β := fun args K => match args with
  | [.v (.agg [.int .i64 a0, .int .i64 a1])] => zq60 a0 a1 (fun z2 => K (.v (.one (.int .i64 z2))))
  | _ => none
def S132 {β : Type} (N : Nat) : Rv.Spec β := VS132 N (zj60 N)
def VE132 {β : Type} (N : Nat) (zq2 : (a0 : Int) → (a1 : Int) → (k : Bool → Option β) → Option β) (zq27 : (a0 : Int) → (k : Int → Option β) → Option β) : Env β := ⟨[(58, VS58 N zq2), (166, VS166 N zq27)], [], [], [], ⟨[], [], [], [61]⟩⟩
def E132 {β : Type} (N : Nat) : Env β := VE132 N (zj2 N) (zj27 N)
def zb60 {β : Type} (N : Nat) (zq2 : (a0 : Int) → (a1 : Int) → (k : Bool → Option β) → Option β) (zq27 : (a0 : Int) → (k : Int → Option β) → Option β) (a0 : Int) (a1 : Int) (k : Int → Option β) : Option β :=
zq2 a0 a1 fun r3 =>
(cond (!r3)
(k (-1))
(zq27 a1 fun r4 =>
k r4))
theorem zt60 {β : Type} (N : Nat) (a0 : Int) (a1 : Int) (k : Int → Option β) : zj60 N a0 a1 k = zb60 N (zj2 N) (zj27 N) a0 a1 k := by
  unfold zj60 zb60
  rfl
theorem ve132_0 {β : Type} (N : Nat) (zq2 : (a0 : Int) → (a1 : Int) → (k : Bool → Option β) → Option β) (zq27 : (a0 : Int) → (k : Int → Option β) → Option β)  (a0 : Int) (a1 : Int) (K : TV → Option β) : evFn lay (VE132 N zq2 zq27) Try.f132 [.v (.agg [.int .i64 a0, .int .i64 a1])] K = zb60 N zq2 zq27 a0 a1 (fun z2 => K (.v (.one (.int .i64 z2)))) := by kernel_rfl
theorem e132_0 {β : Type} (N : Nat)  (a0 : Int) (a1 : Int) (K : TV → Option β) : evFn lay (E132 N) Try.f132 [.v (.agg [.int .i64 a0, .int .i64 a1])] K = zj60 N a0 a1 (fun z2 => K (.v (.one (.int .i64 z2)))) := (ve132_0 N (zj2 N) (zj27 N) a0 a1 K).trans (zt60 N a0 a1 (fun z2 => K (.v (.one (.int .i64 z2))))).symm
theorem o132 {β : Type} (N : Nat) : SpecOK (β := β) inv Try.prog 132 (S132 N) := by
  refine spec_of lay_ok mixed (E := E132 N) (specs_loops (specs_cons (o58 N) (specs_cons (o166 N) specs_nil))) muts_nil gs_nil Try.func132 (by kernel_rfl) 0 (by kernel_rfl) trivial fun args K r h => ?_
  unfold S132 VS132 at h
  split at h
  · exact (e132_0 N _ _ _).trans h
  · cases h
def VS168 {β : Type} (N : Nat) (zq63 : (a0 : Int) → (a1 : Int) → (k : Int → Option β) → Option β) : Rv.Spec β := fun args K => match args with
  | [.v (.agg [.int .i64 a0, .int .i64 a1])] => zq63 a0 a1 (fun z2 => K (.v (.one (.int .i64 z2))))
  | _ => none
def S168 {β : Type} (N : Nat) : Rv.Spec β := VS168 N (zj63 N)
def h168_0_0  (v0 : Int) (v1 : Int) (v2 : Int) (v3 : Int) : St := ⟨tund :: .v (.one (.ptr 0 0)) :: tund :: .v (.one (.int .i64 v0)) :: .v (.one (.int .i64 v1)) :: tund :: tund :: tund :: tund :: tund :: tund :: tund :: tund :: tund :: tund :: tund :: tund :: tund :: tund :: tund :: tund :: tund :: [], [.cells 27 [.int .i64 v2, .int .i64 v3]]⟩
def x168_0_0_k0  (y0 : Int) : St := ⟨tund :: tund :: tund :: .v (.one (.int .i64 y0)) :: tund :: tund :: tund :: tund :: tund :: tund :: tund :: tund :: tund :: tund :: tund :: tund :: tund :: tund :: tund :: tund :: tund :: tund :: [], []⟩
theorem fl168_0_0 (s : St) : refSt (h168_0_0 0 0 0 0) s = h168_0_0 (intS (oneA (vT (nx tund s.tmps 3)))) (intS (oneA (vT (nx tund s.tmps 4)))) (intS (nx .und (cellsB (nx .dead s.blks 0)) 0)) (intS (nx .und (cellsB (nx .dead s.blks 0)) 1)) := by kernel_rfl
def VLS168_0 {β : Type} (N : Nat) (zq62 : Nat → Int → Int → Int → Int → (Int → Option β) → Option β) : LSpec β := fun s K => cond (shpSt (h168_0_0 0 0 0 0) s) ((fun (v0 : Int) (v1 : Int) (v2 : Int) (v3 : Int) => zq62  N v0 v1 v2 v3 (fun y0 => K (.exit 0) (x168_0_0_k0  y0))) (intS (oneA (vT (nx tund s.tmps 3)))) (intS (oneA (vT (nx tund s.tmps 4)))) (intS (nx .und (cellsB (nx .dead s.blks 0)) 0)) (intS (nx .und (cellsB (nx .dead s.blks 0)) 1))) (none)
def LS168_0 {β : Type} (N : Nat) : LSpec β := VLS168_0 N (zj62 N)
def VE168 {β : Type} (N : Nat) (zq2 : (a0 : Int) → (a1 : Int) → (k : Bool → Option β) → Option β) (zq6 : (a0 : Int) → (a1 : Int) → (a2 : Int) → (k : Int → Option β) → Option β) (zq62 : Nat → Int → Int → Int → Int → (Int → Option β) → Option β) : Env β := ⟨[(58, VS58 N zq2), (162, VS162 N zq6)], [], [(0, VLS168_0 N zq62)], [], ⟨[], [], [], [61]⟩⟩
def E168 {β : Type} (N : Nat) : Env β := VE168 N (zj2 N) (zj6 N) (zj62 N)
def zb61 {β : Type} (N : Nat) (zq6 : (a0 : Int) → (a1 : Int) → (a2 : Int) → (k : Int → Option β) → Option β)  (v0 : Int) (v1 : Int) (v2 : Int) (v3 : Int) (rec_ : Int → Int → Int → Int → Option β) (k0 : Int → Option β) : Option β :=
(gd ((decide (0 ≤ v2)))
((cond ((decide (v1 < (shlI .i64 1 v2))))
(zq6 v2 v3 v1 fun r4 =>
rec_ ((w64 (v0 + r4))) ((w64 (v1 + 1))) v2 v3)
(k0 v0))))
theorem zt61 {β : Type} (N : Nat)  (v0 : Int) (v1 : Int) (v2 : Int) (v3 : Int) (rec_ : Int → Int → Int → Int → Option β) (k0 : Int → Option β) : zj61 N v0 v1 v2 v3 rec_ k0 = zb61 N (zj6 N) v0 v1 v2 v3 rec_ k0 := by
  unfold zj61 zb61
  rfl
theorem vst168_0_0 {β : Type} (N : Nat) (zq2 : (a0 : Int) → (a1 : Int) → (k : Bool → Option β) → Option β) (zq6 : (a0 : Int) → (a1 : Int) → (a2 : Int) → (k : Int → Option β) → Option β) (zq62 : Nat → Int → Int → Int → Int → (Int → Option β) → Option β)  (v0 : Int) (v1 : Int) (v2 : Int) (v3 : Int) (rec_ : St → Option β) (K : Exit → St → Option β) :
    ev lay (VE168 N zq2 zq6 zq62) (retMask Try.f168) (lp Try.f168 0).body (lp Try.f168 0).ex ((lp Try.f168 0).lv (retMask Try.f168)) (h168_0_0  v0 v1 v2 v3) (nextR (fun s' => rec_ (s'.tidy ((lp Try.f168 0).lv (retMask Try.f168)))) K) = zb61 N zq6  v0 v1 v2 v3 (fun v0 v1 v2 v3 => rec_ (h168_0_0  v0 v1 v2 v3)) (fun y0 => K (.exit 0) (x168_0_0_k0  y0)) := by kernel_rfl
theorem st168_0_0 {β : Type} (N : Nat)  (v0 : Int) (v1 : Int) (v2 : Int) (v3 : Int) (rec_ : St → Option β) (K : Exit → St → Option β) :
    ev lay (E168 N) (retMask Try.f168) (lp Try.f168 0).body (lp Try.f168 0).ex ((lp Try.f168 0).lv (retMask Try.f168)) (h168_0_0  v0 v1 v2 v3) (nextR (fun s' => rec_ (s'.tidy ((lp Try.f168 0).lv (retMask Try.f168)))) K) = zj61 N  v0 v1 v2 v3 (fun v0 v1 v2 v3 => rec_ (h168_0_0  v0 v1 v2 v3)) (fun y0 => K (.exit 0) (x168_0_0_k0  y0)) := (vst168_0_0 N (zj2 N) (zj6 N) (zj62 N) v0 v1 v2 v3 rec_ K).trans (zt61 N  v0 v1 v2 v3 (fun v0 v1 v2 v3 => rec_ (h168_0_0  v0 v1 v2 v3)) (fun y0 => K (.exit 0) (x168_0_0_k0  y0))).symm
theorem ro168_0_0 {β : Type} (N : Nat)  (K : Exit → St → Option β) : ∀ (F : Nat) (v0 : Int) (v1 : Int) (v2 : Int) (v3 : Int), (lp Try.f168 0).rounds lay (E168 N) (retMask Try.f168) F (h168_0_0  v0 v1 v2 v3) K = zj62 N  F v0 v1 v2 v3 (fun y0 => K (.exit 0) (x168_0_0_k0  y0)) := by
  intro F
  induction F with
  | zero => intros; rfl
  | succ F ih =>
    intros
    rw [rounds_next]
    refine (st168_0_0 N  _ _ _ _ (fun s => (lp Try.f168 0).rounds lay (E168 N) (retMask Try.f168) F s K) K).trans ?_
    simp only [ih]
    rfl
theorem lk168_0 {β : Type} (N : Nat) : lookL (E168 (β := β) N).loops (lp Try.f168 0).id = LS168_0 N := by kernel_rfl
theorem rk168_0 {β : Type} (N : Nat) : RoundsOK lay (E168 (β := β) N) (retMask Try.f168) (lp Try.f168 0) := by
  intro s K r h
  rw [lk168_0] at h
  unfold LS168_0 VLS168_0 at h
  cases hb : shpSt (h168_0_0 0 0 0 0) s with
  | true =>
    rw [hb, cond_true] at h
    exact ⟨N, by rw [← shpSt_ref hb, fl168_0_0 s]; exact (ro168_0_0 N  K N (intS (oneA (vT (nx tund s.tmps 3)))) (intS (oneA (vT (nx tund s.tmps 4)))) (intS (nx .und (cellsB (nx .dead s.blks 0)) 0)) (intS (nx .und (cellsB (nx .dead s.blks 0)) 1))).trans h⟩
  | false =>
  rw [hb, cond_false] at h
  clear hb
  cases h
def zb63 {β : Type} (N : Nat) (zq2 : (a0 : Int) → (a1 : Int) → (k : Bool → Option β) → Option β) (zq62 : Nat → Int → Int → Int → Int → (Int → Option β) → Option β) (a0 : Int) (a1 : Int) (k : Int → Option β) : Option β :=
zq2 a0 a1 fun r3 =>
(cond (!r3)
(k (-1))
(zq62  N 0 0 a0 a1 (fun e5_0 =>
k ((quoI .i64 e5_0 2)))))
theorem zt63 {β : Type} (N : Nat) (a0 : Int) (a1 : Int) (k : Int → Option β) : zj63 N a0 a1 k = zb63 N (zj2 N) (zj62 N) a0 a1 k := by
  unfold zj63 zb63
  rfl
theorem ve168_0 {β : Type} (N : Nat) (zq2 : (a0 : Int) → (a1 : Int) → (k : Bool → Option β) → Option β) (zq6 : (a0 : Int) → (a1 : Int) → (a2 : Int) → (k : Int → Option β) → Option β) (zq62 : Nat → Int → Int → Int → Int → (Int → Option β) → Option β)  (a0 : Int) (a1 : Int) (K : TV → Option β) : evFn lay (VE168 N zq2 zq6 zq62) Try.f168 [.v (.agg [.int .i64 a0, .int .i64 a1])] K = zb63 N zq2 zq62 a0 a1 (fun z2 => K (.v (.one (.int .i64 z2)))) := by kernel_rfl
theorem e168_0 {β : Type} (N : Nat)  (a0 : Int) (a1 : Int) (K : TV → Option β) : evFn lay (E168 N) Try.f168 [.v (.agg [.int .i64 a0, .int .i64 a1])] K = zj63 N a0 a1 (fun z2 => K (.v (.one (.int .i64 z2)))) := (ve168_0 N (zj2 N) (zj6 N) (zj62 N) a0 a1 K).trans (zt63 N a0 a1 (fun z2 => K (.v (.one (.int .i64 z2))))).symm
theorem o168 {β : Type} (N : Nat) : SpecOK (β := β) inv Try.prog 168 (S168 N) := by
  refine spec_of lay_ok mixed (E := E168 N) (specs_loops (specs_cons (o58 N) (specs_cons (o162 N) specs_nil))) muts_nil gs_nil Try.func168 (by kernel_rfl) 1 (by kernel_rfl) ⟨trivial, rk168_0 N⟩ fun args K r h => ?_
  unfold S168 VS168 at h
  split at h
  · exact (e168_0 N _ _ _).trans h
  · cases h
def VS133 {β : Type} (N : Nat) (zq64 : (a0 : Int) → (a1 : Int) → (k : Int → Option β) → Option β) : Rv.Spec β := fun args K => match args with
  | [.v (.agg [.int .i64 a0, .int .i64 a1])] => zq64 a0 a1 (fun z2 => K (.v (.one (.int .i64 z2))))
  | _ => none
def S133 {β : Type} (N : Nat) : Rv.Spec β := VS133 N (zj64 N)
def VE133 {β : Type} (N : Nat) (zq2 : (a0 : Int) → (a1 : Int) → (k : Bool → Option β) → Option β) (zq63 : (a0 : Int) → (a1 : Int) → (k : Int → Option β) → Option β) : Env β := ⟨[(58, VS58 N zq2), (168, VS168 N zq63)], [], [], [], ⟨[], [], [], [61]⟩⟩
def E133 {β : Type} (N : Nat) : Env β := VE133 N (zj2 N) (zj63 N)
def zb64 {β : Type} (N : Nat) (zq2 : (a0 : Int) → (a1 : Int) → (k : Bool → Option β) → Option β) (zq63 : (a0 : Int) → (a1 : Int) → (k : Int → Option β) → Option β) (a0 : Int) (a1 : Int) (k : Int → Option β) : Option β :=
zq2 a0 a1 fun r3 =>
(cond (!r3)
(k (-1))
(zq63 a0 a1 fun r4 =>
k ((w64 (2 * r4)))))
theorem zt64 {β : Type} (N : Nat) (a0 : Int) (a1 : Int) (k : Int → Option β) : zj64 N a0 a1 k = zb64 N (zj2 N) (zj63 N) a0 a1 k := by
  unfold zj64 zb64
  rfl
theorem ve133_0 {β : Type} (N : Nat) (zq2 : (a0 : Int) → (a1 : Int) → (k : Bool → Option β) → Option β) (zq63 : (a0 : Int) → (a1 : Int) → (k : Int → Option β) → Option β)  (a0 : Int) (a1 : Int) (K : TV → Option β) : evFn lay (VE133 N zq2 zq63) Try.f133 [.v (.agg [.int .i64 a0, .int .i64 a1])] K = zb64 N zq2 zq63 a0 a1 (fun z2 => K (.v (.one (.int .i64 z2)))) := by kernel_rfl
theorem e133_0 {β : Type} (N : Nat)  (a0 : Int) (a1 : Int) (K : TV → Option β) : evFn lay (E133 N) Try.f133 [.v (.agg [.int .i64 a0, .int .i64 a1])] K = zj64 N a0 a1 (fun z2 => K (.v (.one (.int .i64 z2)))) := (ve133_0 N (zj2 N) (zj63 N) a0 a1 K).trans (zt64 N a0 a1 (fun z2 => K (.v (.one (.int .i64 z2))))).symm
theorem o133 {β : Type} (N : Nat) : SpecOK (β := β) inv Try.prog 133 (S133 N) := by
  refine spec_of lay_ok mixed (E := E133 N) (specs_loops (specs_cons (o58 N) (specs_cons (o168 N) specs_nil))) muts_nil gs_nil Try.func133 (by kernel_rfl) 0 (by kernel_rfl) trivial fun args K r h => ?_
  unfold S133 VS133 at h
  split at h
  · exact (e133_0 N _ _ _).trans h
  · cases h
end Go.Proofs.Ytfdggelojmofmaa
