/- The functions that the claims reach answer as their texts do. -/
import Derived.Test.YtdkjnadhgdneaaaE1
namespace Go.Proofs.Ytdkjnadhgdneaaa
open Go.Rv
set_option maxRecDepth 100000
set_option maxHeartbeats 2000000
set_option linter.unusedVariables false
def VS126 {β : Type} (N : Nat) (q_spec_RealCoefficients : (a0 : Int) → (a1 : Int) → (k : List Int → Option β) → Option β) : Rv.Spec β := fun args K => match args with
  | [.v (.agg [.int .i64 a0, .int .i64 a1])] => q_spec_RealCoefficients a0 a1 (fun z2 => K (.v (.one (.sl 3 (.ints .i64 z2)))))
  | _ => none
def S126 {β : Type} (N : Nat) : Rv.Spec β := VS126 N (spec_RealCoefficients N)
def h126_0_0  (v0 : Int) (v1 : Int) (v2 : Int) (v3 : List Int) : St := ⟨.v (.one .und) :: .v (.one (.ptr 0 0)) :: .v (.one .und) :: .v (.one (.row 1)) :: .v (.one (.int .i64 v0)) :: .v (.one .und) :: .v (.one .und) :: .v (.one .und) :: .v (.one .und) :: .v (.one .und) :: .v (.one .und) :: .v (.one .und) :: .v (.one .und) :: .v (.one .und) :: .v (.one .und) :: .v (.one .und) :: .v (.one .und) :: .v (.one .und) :: .v (.one .und) :: .v (.one .und) :: .v (.one .und) :: .v (.one .und) :: .v (.one .und) :: .v (.one .und) :: .v (.one .und) :: .v (.one .und) :: .v (.one .und) :: .v (.one .und) :: .v (.one .und) :: .v (.one .und) :: .v (.one .und) :: .v (.one .und) :: .v (.one .und) :: .v (.one .und) :: .v (.one .und) :: .v (.one .und) :: .v (.one .und) :: .v (.one .und) :: .v (.one .und) :: .v (.one .und) :: .v (.one .und) :: .v (.one .und) :: .v (.one .und) :: .v (.one .und) :: .v (.one .und) :: .v (.one .und) :: .v (.one .und) :: .v (.one .und) :: .v (.one .und) :: .v (.one .und) :: .v (.one .und) :: .v (.one .und) :: .v (.one .und) :: .v (.one .und) :: [], [.cells 25 [.int .i64 v1, .int .i64 v2], .row 3 (.ints .i64 v3)]⟩
def x126_0_0_k0  (y0 : List Int) : St := ⟨.v (.one .und) :: .v (.one .und) :: .v (.one .und) :: .v (.one (.row 0)) :: .v (.one .und) :: .v (.one .und) :: .v (.one .und) :: .v (.one .und) :: .v (.one .und) :: .v (.one .und) :: .v (.one .und) :: .v (.one .und) :: .v (.one .und) :: .v (.one .und) :: .v (.one .und) :: .v (.one .und) :: .v (.one .und) :: .v (.one .und) :: .v (.one .und) :: .v (.one .und) :: .v (.one .und) :: .v (.one .und) :: .v (.one .und) :: .v (.one .und) :: .v (.one .und) :: .v (.one .und) :: .v (.one .und) :: .v (.one .und) :: .v (.one .und) :: .v (.one .und) :: .v (.one .und) :: .v (.one .und) :: .v (.one .und) :: .v (.one .und) :: .v (.one .und) :: .v (.one .und) :: .v (.one .und) :: .v (.one .und) :: .v (.one .und) :: .v (.one .und) :: .v (.one .und) :: .v (.one .und) :: .v (.one .und) :: .v (.one .und) :: .v (.one .und) :: .v (.one .und) :: .v (.one .und) :: .v (.one .und) :: .v (.one .und) :: .v (.one .und) :: .v (.one .und) :: .v (.one .und) :: .v (.one .und) :: .v (.one .und) :: [], [.row 3 (.ints .i64 y0)]⟩
def h126_1_0  (v0 : Int) (v1 : Int) (v2 : Int) (v3 : Int) (v4 : Int) (v5 : List Int) : St := ⟨.v (.one .und) :: .v (.one (.ptr 0 0)) :: .v (.one .und) :: .v (.one (.row 1)) :: .v (.one (.int .i64 v0)) :: .v (.one (.int .i64 v1)) :: .v (.one (.int .i64 v2)) :: .v (.one .und) :: .v (.one .und) :: .v (.one .und) :: .v (.one .und) :: .v (.one .und) :: .v (.one .und) :: .v (.one .und) :: .v (.one .und) :: .v (.one .und) :: .v (.one .und) :: .v (.one .und) :: .v (.one .und) :: .v (.one .und) :: .v (.one .und) :: .v (.one .und) :: .v (.one .und) :: .v (.one .und) :: .v (.one .und) :: .v (.one .und) :: .v (.one .und) :: .v (.one .und) :: .v (.one .und) :: .v (.one .und) :: .v (.one .und) :: .v (.one .und) :: .v (.one .und) :: .v (.one .und) :: .v (.one .und) :: .v (.one .und) :: .v (.one .und) :: .v (.one .und) :: .v (.one .und) :: .v (.one .und) :: .v (.one .und) :: .v (.one .und) :: .v (.one .und) :: .v (.one .und) :: .v (.one .und) :: .v (.one .und) :: .v (.one .und) :: .v (.one .und) :: .v (.one .und) :: .v (.one .und) :: .v (.one .und) :: .v (.one .und) :: .v (.one .und) :: .v (.one .und) :: [], [.cells 25 [.int .i64 v3, .int .i64 v4], .row 3 (.ints .i64 v5)]⟩
def x126_1_0_k0  (y0 : Int) (y1 : Int) (y2 : Int) (y3 : Int) (y4 : List Int) : St := ⟨.v (.one .und) :: .v (.one (.ptr 0 0)) :: .v (.one .und) :: .v (.one (.row 1)) :: .v (.one (.int .i64 y0)) :: .v (.one (.int .i64 y1)) :: .v (.one .und) :: .v (.one .und) :: .v (.one .und) :: .v (.one .und) :: .v (.one .und) :: .v (.one .und) :: .v (.one .und) :: .v (.one .und) :: .v (.one .und) :: .v (.one .und) :: .v (.one .und) :: .v (.one .und) :: .v (.one .und) :: .v (.one .und) :: .v (.one .und) :: .v (.one .und) :: .v (.one .und) :: .v (.one .und) :: .v (.one .und) :: .v (.one .und) :: .v (.one .und) :: .v (.one .und) :: .v (.one .und) :: .v (.one .und) :: .v (.one .und) :: .v (.one .und) :: .v (.one .und) :: .v (.one .und) :: .v (.one .und) :: .v (.one .und) :: .v (.one .und) :: .v (.one .und) :: .v (.one .und) :: .v (.one .und) :: .v (.one .und) :: .v (.one .und) :: .v (.one .und) :: .v (.one .und) :: .v (.one .und) :: .v (.one .und) :: .v (.one .und) :: .v (.one .und) :: .v (.one .und) :: .v (.one .und) :: .v (.one .und) :: .v (.one .und) :: .v (.one .und) :: .v (.one .und) :: [], [.cells 25 [.int .i64 y2, .int .i64 y3], .row 3 (.ints .i64 y4)]⟩
theorem fl126_0_0 (s : St) : refSt (h126_0_0 0 0 0 []) s = h126_0_0 (intS (oneA (vT (nx tund s.tmps 4)))) (intS (nx .und (cellsB (nx .dead s.blks 0)) 0)) (intS (nx .und (cellsB (nx .dead s.blks 0)) 1)) (rInts (rowB_ (nx .dead s.blks 1))) := by kernel_rfl
def VLS126_0 {β : Type} (N : Nat) (q_spec_RealCoefficients_l0 : Nat → Int → Int → Int → List Int → (List Int → Option β) → Option β) : LSpec β := fun s K => cond (shpSt (h126_0_0 0 0 0 []) s) ((fun (v0 : Int) (v1 : Int) (v2 : Int) (v3 : List Int) => q_spec_RealCoefficients_l0  N v0 v1 v2 v3 (fun y0 => K (.exit 0) (x126_0_0_k0  y0))) (intS (oneA (vT (nx tund s.tmps 4)))) (intS (nx .und (cellsB (nx .dead s.blks 0)) 0)) (intS (nx .und (cellsB (nx .dead s.blks 0)) 1)) (rInts (rowB_ (nx .dead s.blks 1)))) (none)
def LS126_0 {β : Type} (N : Nat) : LSpec β := VLS126_0 N (spec_RealCoefficients_l0 N)
theorem fl126_1_0 (s : St) : refSt (h126_1_0 0 0 0 0 0 []) s = h126_1_0 (intS (oneA (vT (nx tund s.tmps 4)))) (intS (oneA (vT (nx tund s.tmps 5)))) (intS (oneA (vT (nx tund s.tmps 6)))) (intS (nx .und (cellsB (nx .dead s.blks 0)) 0)) (intS (nx .und (cellsB (nx .dead s.blks 0)) 1)) (rInts (rowB_ (nx .dead s.blks 1))) := by kernel_rfl
def VLS126_2 {β : Type} (N : Nat) (q_spec_RealCoefficients_l2 : Nat → Int → Int → Int → Int → Int → List Int → (Int → Int → Int → Int → List Int → Option β) → Option β) : LSpec β := fun s K => cond (shpSt (h126_1_0 0 0 0 0 0 []) s) ((fun (v0 : Int) (v1 : Int) (v2 : Int) (v3 : Int) (v4 : Int) (v5 : List Int) => q_spec_RealCoefficients_l2  N v0 v1 v2 v3 v4 v5 (fun y0 y1 y2 y3 y4 => K (.exit 2) (x126_1_0_k0  y0 y1 y2 y3 y4))) (intS (oneA (vT (nx tund s.tmps 4)))) (intS (oneA (vT (nx tund s.tmps 5)))) (intS (oneA (vT (nx tund s.tmps 6)))) (intS (nx .und (cellsB (nx .dead s.blks 0)) 0)) (intS (nx .und (cellsB (nx .dead s.blks 0)) 1)) (rInts (rowB_ (nx .dead s.blks 1)))) (none)
def LS126_2 {β : Type} (N : Nat) : LSpec β := VLS126_2 N (spec_RealCoefficients_l2 N)
def VE126 {β : Type} (N : Nat) (q_spec_IsTable : (a0 : Int) → (a1 : Int) → (k : Bool → Option β) → Option β) (q_spec_l2Count : (a0 : Int) → (k : Int → Option β) → Option β) (q_spec_RealCoefficients_l0 : Nat → Int → Int → Int → List Int → (List Int → Option β) → Option β) (q_spec_RealCoefficients_l2 : Nat → Int → Int → Int → Int → Int → List Int → (Int → Int → Int → Int → List Int → Option β) → Option β) : Env β := ⟨[(69, VS69 N q_spec_IsTable), (70, VS70 N q_spec_l2Count)], [], [(0, VLS126_0 N q_spec_RealCoefficients_l0), (2, VLS126_2 N q_spec_RealCoefficients_l2)], []⟩
def E126 {β : Type} (N : Nat) : Env β := VE126 N (spec_IsTable N) (spec_l2Count N) (spec_RealCoefficients_l0 N) (spec_RealCoefficients_l2 N)
def BV_spec_RealCoefficients_l0b {β : Type} (N : Nat) (q_spec_IsTable : (a0 : Int) → (a1 : Int) → (k : Bool → Option β) → Option β) (q_spec_RealCoefficients_l2 : Nat → Int → Int → Int → Int → Int → List Int → (Int → Int → Int → Int → List Int → Option β) → Option β)  (v0 : Int) (v1 : Int) (v2 : Int) (v3 : List Int) (rec_ : Int → Int → Int → List Int → Option β) (k0 : List Int → Option β) : Option β :=
q_spec_IsTable v1 v2 fun r3 =>
(cond r3
((gd ((decide (0 ≤ v1)))
((cond ((decide (v0 < (shlI .i64 1 v1))))
(q_spec_RealCoefficients_l2  N v0 0 0 v1 v2 v3 (fun e5_0 e5_1 e5_2 e5_3 e5_4 =>
(gd ((decide ((e5_4.length + ((([] : List Int) ++ [e5_1])).length) * 8 ≤ 140737488355328)))
(rec_ ((w64 (e5_0 + 1))) e5_2 e5_3 ((e5_4 ++ (([] : List Int) ++ [e5_1])))))))
(k0 v3)))))
(k0 v3))
theorem t_spec_RealCoefficients_l0b {β : Type} (N : Nat)  (v0 : Int) (v1 : Int) (v2 : Int) (v3 : List Int) (rec_ : Int → Int → Int → List Int → Option β) (k0 : List Int → Option β) : spec_RealCoefficients_l0b N v0 v1 v2 v3 rec_ k0 = BV_spec_RealCoefficients_l0b N (spec_IsTable N) (spec_RealCoefficients_l2 N) v0 v1 v2 v3 rec_ k0 := by
  unfold spec_RealCoefficients_l0b BV_spec_RealCoefficients_l0b
  rfl
theorem vst126_0_0 {β : Type} (N : Nat) (q_spec_IsTable : (a0 : Int) → (a1 : Int) → (k : Bool → Option β) → Option β) (q_spec_l2Count : (a0 : Int) → (k : Int → Option β) → Option β) (q_spec_RealCoefficients_l0 : Nat → Int → Int → Int → List Int → (List Int → Option β) → Option β) (q_spec_RealCoefficients_l2 : Nat → Int → Int → Int → Int → Int → List Int → (Int → Int → Int → Int → List Int → Option β) → Option β)  (v0 : Int) (v1 : Int) (v2 : Int) (v3 : List Int) (rec_ : St → Option β) (K : Exit → St → Option β) :
    ev lay (VE126 N q_spec_IsTable q_spec_l2Count q_spec_RealCoefficients_l0 q_spec_RealCoefficients_l2) (retMask Try.f126) (lp Try.f126 0).body (lp Try.f126 0).ex ((lp Try.f126 0).lv (retMask Try.f126)) (h126_0_0  v0 v1 v2 v3) (nextR (fun s' => rec_ (s'.tidy ((lp Try.f126 0).lv (retMask Try.f126)))) K) = BV_spec_RealCoefficients_l0b N q_spec_IsTable q_spec_RealCoefficients_l2  v0 v1 v2 v3 (fun v0 v1 v2 v3 => rec_ (h126_0_0  v0 v1 v2 v3)) (fun y0 => K (.exit 0) (x126_0_0_k0  y0)) := by kernel_rfl
theorem st126_0_0 {β : Type} (N : Nat)  (v0 : Int) (v1 : Int) (v2 : Int) (v3 : List Int) (rec_ : St → Option β) (K : Exit → St → Option β) :
    ev lay (E126 N) (retMask Try.f126) (lp Try.f126 0).body (lp Try.f126 0).ex ((lp Try.f126 0).lv (retMask Try.f126)) (h126_0_0  v0 v1 v2 v3) (nextR (fun s' => rec_ (s'.tidy ((lp Try.f126 0).lv (retMask Try.f126)))) K) = spec_RealCoefficients_l0b N  v0 v1 v2 v3 (fun v0 v1 v2 v3 => rec_ (h126_0_0  v0 v1 v2 v3)) (fun y0 => K (.exit 0) (x126_0_0_k0  y0)) := (vst126_0_0 N (spec_IsTable N) (spec_l2Count N) (spec_RealCoefficients_l0 N) (spec_RealCoefficients_l2 N) v0 v1 v2 v3 rec_ K).trans (t_spec_RealCoefficients_l0b N  v0 v1 v2 v3 (fun v0 v1 v2 v3 => rec_ (h126_0_0  v0 v1 v2 v3)) (fun y0 => K (.exit 0) (x126_0_0_k0  y0))).symm
theorem ro126_0_0 {β : Type} (N : Nat)  (K : Exit → St → Option β) : ∀ (F : Nat) (v0 : Int) (v1 : Int) (v2 : Int) (v3 : List Int), (lp Try.f126 0).rounds lay (E126 N) (retMask Try.f126) F (h126_0_0  v0 v1 v2 v3) K = spec_RealCoefficients_l0 N  F v0 v1 v2 v3 (fun y0 => K (.exit 0) (x126_0_0_k0  y0)) := by
  intro F
  induction F with
  | zero => intros; rfl
  | succ F ih =>
    intros
    rw [rounds_next]
    refine (st126_0_0 N  _ _ _ _ (fun s => (lp Try.f126 0).rounds lay (E126 N) (retMask Try.f126) F s K) K).trans ?_
    simp only [ih]
    rfl
theorem lk126_0 {β : Type} (N : Nat) : lookL (E126 (β := β) N).loops (lp Try.f126 0).id = LS126_0 N := by kernel_rfl
theorem rk126_0 {β : Type} (N : Nat) : RoundsOK lay (E126 (β := β) N) (retMask Try.f126) (lp Try.f126 0) := by
  intro s K r h
  rw [lk126_0] at h
  unfold LS126_0 VLS126_0 at h
  cases hb : shpSt (h126_0_0 0 0 0 []) s with
  | true =>
    rw [hb, cond_true] at h
    exact ⟨N, by rw [← shpSt_ref hb, fl126_0_0 s]; exact (ro126_0_0 N  K N (intS (oneA (vT (nx tund s.tmps 4)))) (intS (nx .und (cellsB (nx .dead s.blks 0)) 0)) (intS (nx .und (cellsB (nx .dead s.blks 0)) 1)) (rInts (rowB_ (nx .dead s.blks 1)))).trans h⟩
  | false =>
  rw [hb, cond_false] at h
  clear hb
  cases h
def BV_spec_RealCoefficients_l2b {β : Type} (N : Nat) (q_spec_l2Count : (a0 : Int) → (k : Int → Option β) → Option β)  (v0 : Int) (v1 : Int) (v2 : Int) (v3 : Int) (v4 : Int) (v5 : List Int) (rec_ : Int → Int → Int → Int → Int → List Int → Option β) (k0 : Int → Int → Int → Int → List Int → Option β) : Option β :=
(cond ((decide (v2 ≤ v0)))
((cond (((bits .and .i64 v2 v0) != v2))
(rec_ v0 v1 ((w64 (v2 + 1))) v3 v4 v5)
(q_spec_l2Count ((bits .xor .i64 v0 v2)) fun r4 =>
(cond (((remI r4 2) == 1))
((gd ((decide (0 ≤ v2)))
(rec_ v0 ((w64 (v1 - (bits .and .i64 (shrI .i64 v4 v2) 1)))) ((w64 (v2 + 1))) v3 v4 v5)))
((gd ((decide (0 ≤ v2)))
(rec_ v0 ((w64 (v1 + (bits .and .i64 (shrI .i64 v4 v2) 1)))) ((w64 (v2 + 1))) v3 v4 v5)))))))
(k0 v0 v1 v3 v4 v5))
theorem t_spec_RealCoefficients_l2b {β : Type} (N : Nat)  (v0 : Int) (v1 : Int) (v2 : Int) (v3 : Int) (v4 : Int) (v5 : List Int) (rec_ : Int → Int → Int → Int → Int → List Int → Option β) (k0 : Int → Int → Int → Int → List Int → Option β) : spec_RealCoefficients_l2b N v0 v1 v2 v3 v4 v5 rec_ k0 = BV_spec_RealCoefficients_l2b N (spec_l2Count N) v0 v1 v2 v3 v4 v5 rec_ k0 := by
  unfold spec_RealCoefficients_l2b BV_spec_RealCoefficients_l2b
  rfl
theorem vst126_1_0 {β : Type} (N : Nat) (q_spec_IsTable : (a0 : Int) → (a1 : Int) → (k : Bool → Option β) → Option β) (q_spec_l2Count : (a0 : Int) → (k : Int → Option β) → Option β) (q_spec_RealCoefficients_l0 : Nat → Int → Int → Int → List Int → (List Int → Option β) → Option β) (q_spec_RealCoefficients_l2 : Nat → Int → Int → Int → Int → Int → List Int → (Int → Int → Int → Int → List Int → Option β) → Option β)  (v0 : Int) (v1 : Int) (v2 : Int) (v3 : Int) (v4 : Int) (v5 : List Int) (rec_ : St → Option β) (K : Exit → St → Option β) :
    ev lay (VE126 N q_spec_IsTable q_spec_l2Count q_spec_RealCoefficients_l0 q_spec_RealCoefficients_l2) (retMask Try.f126) (lp Try.f126 1).body (lp Try.f126 1).ex ((lp Try.f126 1).lv (retMask Try.f126)) (h126_1_0  v0 v1 v2 v3 v4 v5) (nextR (fun s' => rec_ (s'.tidy ((lp Try.f126 1).lv (retMask Try.f126)))) K) = BV_spec_RealCoefficients_l2b N q_spec_l2Count  v0 v1 v2 v3 v4 v5 (fun v0 v1 v2 v3 v4 v5 => rec_ (h126_1_0  v0 v1 v2 v3 v4 v5)) (fun y0 y1 y2 y3 y4 => K (.exit 2) (x126_1_0_k0  y0 y1 y2 y3 y4)) := by kernel_rfl
theorem st126_1_0 {β : Type} (N : Nat)  (v0 : Int) (v1 : Int) (v2 : Int) (v3 : Int) (v4 : Int) (v5 : List Int) (rec_ : St → Option β) (K : Exit → St → Option β) :
    ev lay (E126 N) (retMask Try.f126) (lp Try.f126 1).body (lp Try.f126 1).ex ((lp Try.f126 1).lv (retMask Try.f126)) (h126_1_0  v0 v1 v2 v3 v4 v5) (nextR (fun s' => rec_ (s'.tidy ((lp Try.f126 1).lv (retMask Try.f126)))) K) = spec_RealCoefficients_l2b N  v0 v1 v2 v3 v4 v5 (fun v0 v1 v2 v3 v4 v5 => rec_ (h126_1_0  v0 v1 v2 v3 v4 v5)) (fun y0 y1 y2 y3 y4 => K (.exit 2) (x126_1_0_k0  y0 y1 y2 y3 y4)) := (vst126_1_0 N (spec_IsTable N) (spec_l2Count N) (spec_RealCoefficients_l0 N) (spec_RealCoefficients_l2 N) v0 v1 v2 v3 v4 v5 rec_ K).trans (t_spec_RealCoefficients_l2b N  v0 v1 v2 v3 v4 v5 (fun v0 v1 v2 v3 v4 v5 => rec_ (h126_1_0  v0 v1 v2 v3 v4 v5)) (fun y0 y1 y2 y3 y4 => K (.exit 2) (x126_1_0_k0  y0 y1 y2 y3 y4))).symm
theorem ro126_1_0 {β : Type} (N : Nat)  (K : Exit → St → Option β) : ∀ (F : Nat) (v0 : Int) (v1 : Int) (v2 : Int) (v3 : Int) (v4 : Int) (v5 : List Int), (lp Try.f126 1).rounds lay (E126 N) (retMask Try.f126) F (h126_1_0  v0 v1 v2 v3 v4 v5) K = spec_RealCoefficients_l2 N  F v0 v1 v2 v3 v4 v5 (fun y0 y1 y2 y3 y4 => K (.exit 2) (x126_1_0_k0  y0 y1 y2 y3 y4)) := by
  intro F
  induction F with
  | zero => intros; rfl
  | succ F ih =>
    intros
    rw [rounds_next]
    refine (st126_1_0 N  _ _ _ _ _ _ (fun s => (lp Try.f126 1).rounds lay (E126 N) (retMask Try.f126) F s K) K).trans ?_
    simp only [ih]
    rfl
theorem lk126_2 {β : Type} (N : Nat) : lookL (E126 (β := β) N).loops (lp Try.f126 1).id = LS126_2 N := by kernel_rfl
theorem rk126_2 {β : Type} (N : Nat) : RoundsOK lay (E126 (β := β) N) (retMask Try.f126) (lp Try.f126 1) := by
  intro s K r h
  rw [lk126_2] at h
  unfold LS126_2 VLS126_2 at h
  cases hb : shpSt (h126_1_0 0 0 0 0 0 []) s with
  | true =>
    rw [hb, cond_true] at h
    exact ⟨N, by rw [← shpSt_ref hb, fl126_1_0 s]; exact (ro126_1_0 N  K N (intS (oneA (vT (nx tund s.tmps 4)))) (intS (oneA (vT (nx tund s.tmps 5)))) (intS (oneA (vT (nx tund s.tmps 6)))) (intS (nx .und (cellsB (nx .dead s.blks 0)) 0)) (intS (nx .und (cellsB (nx .dead s.blks 0)) 1)) (rInts (rowB_ (nx .dead s.blks 1)))).trans h⟩
  | false =>
  rw [hb, cond_false] at h
  clear hb
  cases h
def BV_spec_RealCoefficients {β : Type} (N : Nat) (q_spec_RealCoefficients_l0 : Nat → Int → Int → Int → List Int → (List Int → Option β) → Option β) (a0 : Int) (a1 : Int) (k : List Int → Option β) : Option β :=
q_spec_RealCoefficients_l0  N 0 a0 a1 (([] : List Int)) (fun e6_0 =>
k e6_0)
theorem t_spec_RealCoefficients {β : Type} (N : Nat) (a0 : Int) (a1 : Int) (k : List Int → Option β) : spec_RealCoefficients N a0 a1 k = BV_spec_RealCoefficients N (spec_RealCoefficients_l0 N) a0 a1 k := by
  unfold spec_RealCoefficients BV_spec_RealCoefficients
  rfl
theorem ve126_0 {β : Type} (N : Nat) (q_spec_IsTable : (a0 : Int) → (a1 : Int) → (k : Bool → Option β) → Option β) (q_spec_l2Count : (a0 : Int) → (k : Int → Option β) → Option β) (q_spec_RealCoefficients_l0 : Nat → Int → Int → Int → List Int → (List Int → Option β) → Option β) (q_spec_RealCoefficients_l2 : Nat → Int → Int → Int → Int → Int → List Int → (Int → Int → Int → Int → List Int → Option β) → Option β)  (a0 : Int) (a1 : Int) (K : TV → Option β) : evFn lay (VE126 N q_spec_IsTable q_spec_l2Count q_spec_RealCoefficients_l0 q_spec_RealCoefficients_l2) Try.f126 [.v (.agg [.int .i64 a0, .int .i64 a1])] K = BV_spec_RealCoefficients N q_spec_RealCoefficients_l0 a0 a1 (fun z2 => K (.v (.one (.sl 3 (.ints .i64 z2))))) := by kernel_rfl
theorem e126_0 {β : Type} (N : Nat)  (a0 : Int) (a1 : Int) (K : TV → Option β) : evFn lay (E126 N) Try.f126 [.v (.agg [.int .i64 a0, .int .i64 a1])] K = spec_RealCoefficients N a0 a1 (fun z2 => K (.v (.one (.sl 3 (.ints .i64 z2))))) := (ve126_0 N (spec_IsTable N) (spec_l2Count N) (spec_RealCoefficients_l0 N) (spec_RealCoefficients_l2 N) a0 a1 K).trans (t_spec_RealCoefficients N a0 a1 (fun z2 => K (.v (.one (.sl 3 (.ints .i64 z2)))))).symm
theorem o126 {β : Type} (N : Nat) : SpecOK (β := β) Try.prog 126 (S126 N) := by
  refine spec_of lay_ok mixed (E := E126 N) (specs_loops (specs_cons (o69 N) (specs_cons (o70 N) specs_nil))) muts_nil gs_nil Try.func126 (by kernel_rfl) 2 (by kernel_rfl) ⟨⟨trivial, rk126_0 N⟩, rk126_2 N⟩ fun args K r h => ?_
  unfold S126 VS126 at h
  split at h
  · exact (e126_0 N _ _ _).trans h
  · cases h
def VS99 {β : Type} (N : Nat) (q_spec_RealDegree : (a0 : Int) → (a1 : Int) → (k : Int → Option β) → Option β) : Rv.Spec β := fun args K => match args with
  | [.v (.agg [.int .i64 a0, .int .i64 a1])] => q_spec_RealDegree a0 a1 (fun z2 => K (.v (.one (.int .i64 z2))))
  | _ => none
def S99 {β : Type} (N : Nat) : Rv.Spec β := VS99 N (spec_RealDegree N)
def h99_0_0  (v0 : Int) (v1 : Int) (v2 : List Int) : St := ⟨.v (.one .und) :: .v (.one .und) :: .v (.one .und) :: .v (.one (.row 0)) :: .v (.one (.int .i64 v0)) :: .v (.one (.int .i64 v1)) :: .v (.one .und) :: .v (.one .und) :: .v (.one .und) :: .v (.one .und) :: .v (.one .und) :: .v (.one .und) :: .v (.one .und) :: .v (.one .und) :: .v (.one .und) :: .v (.one .und) :: .v (.one .und) :: .v (.one .und) :: .v (.one .und) :: .v (.one .und) :: .v (.one .und) :: .v (.one .und) :: .v (.one .und) :: .v (.one .und) :: .v (.one .und) :: .v (.one .und) :: .v (.one .und) :: [], [.row 3 (.ints .i64 v2)]⟩
def x99_0_0_k0  (y0 : Int) : St := ⟨.v (.one .und) :: .v (.one .und) :: .v (.one .und) :: .v (.one .und) :: .v (.one (.int .i64 y0)) :: .v (.one .und) :: .v (.one .und) :: .v (.one .und) :: .v (.one .und) :: .v (.one .und) :: .v (.one .und) :: .v (.one .und) :: .v (.one .und) :: .v (.one .und) :: .v (.one .und) :: .v (.one .und) :: .v (.one .und) :: .v (.one .und) :: .v (.one .und) :: .v (.one .und) :: .v (.one .und) :: .v (.one .und) :: .v (.one .und) :: .v (.one .und) :: .v (.one .und) :: .v (.one .und) :: .v (.one .und) :: [], []⟩
theorem fl99_0_0 (s : St) : refSt (h99_0_0 0 0 []) s = h99_0_0 (intS (oneA (vT (nx tund s.tmps 4)))) (intS (oneA (vT (nx tund s.tmps 5)))) (rInts (rowB_ (nx .dead s.blks 0))) := by kernel_rfl
def VLS99_0 {β : Type} (N : Nat) (q_spec_RealDegree_l0 : Nat → Int → Int → List Int → (Int → Option β) → Option β) : LSpec β := fun s K => cond (shpSt (h99_0_0 0 0 []) s) ((fun (v0 : Int) (v1 : Int) (v2 : List Int) => q_spec_RealDegree_l0  N v0 v1 v2 (fun y0 => K (.exit 0) (x99_0_0_k0  y0))) (intS (oneA (vT (nx tund s.tmps 4)))) (intS (oneA (vT (nx tund s.tmps 5)))) (rInts (rowB_ (nx .dead s.blks 0)))) (none)
def LS99_0 {β : Type} (N : Nat) : LSpec β := VLS99_0 N (spec_RealDegree_l0 N)
def VE99 {β : Type} (N : Nat) (q_spec_IsTable : (a0 : Int) → (a1 : Int) → (k : Bool → Option β) → Option β) (q_spec_RealCoefficients : (a0 : Int) → (a1 : Int) → (k : List Int → Option β) → Option β) (q_spec_l2Count : (a0 : Int) → (k : Int → Option β) → Option β) (q_spec_RealDegree_l0 : Nat → Int → Int → List Int → (Int → Option β) → Option β) : Env β := ⟨[(69, VS69 N q_spec_IsTable), (126, VS126 N q_spec_RealCoefficients), (70, VS70 N q_spec_l2Count)], [], [(0, VLS99_0 N q_spec_RealDegree_l0)], []⟩
def E99 {β : Type} (N : Nat) : Env β := VE99 N (spec_IsTable N) (spec_RealCoefficients N) (spec_l2Count N) (spec_RealDegree_l0 N)
def BV_spec_RealDegree_l0b {β : Type} (N : Nat) (q_spec_l2Count : (a0 : Int) → (k : Int → Option β) → Option β)  (v0 : Int) (v1 : Int) (v2 : List Int) (rec_ : Int → Int → List Int → Option β) (k0 : Int → Option β) : Option β :=
(cond ((decide (v1 < (v2.length : Int))))
((gd ((decide (0 ≤ v1)))
((gd ((decide (v1 < (v2.length : Int))))
((cond (((rd 0 v2 v1) != 0))
(q_spec_l2Count v1 fun r5 =>
rec_ ((mxI v0 r5)) ((w64 (v1 + 1))) v2)
(rec_ v0 ((w64 (v1 + 1))) v2)))))))
(k0 v0))
theorem t_spec_RealDegree_l0b {β : Type} (N : Nat)  (v0 : Int) (v1 : Int) (v2 : List Int) (rec_ : Int → Int → List Int → Option β) (k0 : Int → Option β) : spec_RealDegree_l0b N v0 v1 v2 rec_ k0 = BV_spec_RealDegree_l0b N (spec_l2Count N) v0 v1 v2 rec_ k0 := by
  unfold spec_RealDegree_l0b BV_spec_RealDegree_l0b
  rfl
theorem vst99_0_0 {β : Type} (N : Nat) (q_spec_IsTable : (a0 : Int) → (a1 : Int) → (k : Bool → Option β) → Option β) (q_spec_RealCoefficients : (a0 : Int) → (a1 : Int) → (k : List Int → Option β) → Option β) (q_spec_l2Count : (a0 : Int) → (k : Int → Option β) → Option β) (q_spec_RealDegree_l0 : Nat → Int → Int → List Int → (Int → Option β) → Option β)  (v0 : Int) (v1 : Int) (v2 : List Int) (rec_ : St → Option β) (K : Exit → St → Option β) :
    ev lay (VE99 N q_spec_IsTable q_spec_RealCoefficients q_spec_l2Count q_spec_RealDegree_l0) (retMask Try.f99) (lp Try.f99 0).body (lp Try.f99 0).ex ((lp Try.f99 0).lv (retMask Try.f99)) (h99_0_0  v0 v1 v2) (nextR (fun s' => rec_ (s'.tidy ((lp Try.f99 0).lv (retMask Try.f99)))) K) = BV_spec_RealDegree_l0b N q_spec_l2Count  v0 v1 v2 (fun v0 v1 v2 => rec_ (h99_0_0  v0 v1 v2)) (fun y0 => K (.exit 0) (x99_0_0_k0  y0)) := by kernel_rfl
theorem st99_0_0 {β : Type} (N : Nat)  (v0 : Int) (v1 : Int) (v2 : List Int) (rec_ : St → Option β) (K : Exit → St → Option β) :
    ev lay (E99 N) (retMask Try.f99) (lp Try.f99 0).body (lp Try.f99 0).ex ((lp Try.f99 0).lv (retMask Try.f99)) (h99_0_0  v0 v1 v2) (nextR (fun s' => rec_ (s'.tidy ((lp Try.f99 0).lv (retMask Try.f99)))) K) = spec_RealDegree_l0b N  v0 v1 v2 (fun v0 v1 v2 => rec_ (h99_0_0  v0 v1 v2)) (fun y0 => K (.exit 0) (x99_0_0_k0  y0)) := (vst99_0_0 N (spec_IsTable N) (spec_RealCoefficients N) (spec_l2Count N) (spec_RealDegree_l0 N) v0 v1 v2 rec_ K).trans (t_spec_RealDegree_l0b N  v0 v1 v2 (fun v0 v1 v2 => rec_ (h99_0_0  v0 v1 v2)) (fun y0 => K (.exit 0) (x99_0_0_k0  y0))).symm
theorem ro99_0_0 {β : Type} (N : Nat)  (K : Exit → St → Option β) : ∀ (F : Nat) (v0 : Int) (v1 : Int) (v2 : List Int), (lp Try.f99 0).rounds lay (E99 N) (retMask Try.f99) F (h99_0_0  v0 v1 v2) K = spec_RealDegree_l0 N  F v0 v1 v2 (fun y0 => K (.exit 0) (x99_0_0_k0  y0)) := by
  intro F
  induction F with
  | zero => intros; rfl
  | succ F ih =>
    intros
    rw [rounds_next]
    refine (st99_0_0 N  _ _ _ (fun s => (lp Try.f99 0).rounds lay (E99 N) (retMask Try.f99) F s K) K).trans ?_
    simp only [ih]
    rfl
theorem lk99_0 {β : Type} (N : Nat) : lookL (E99 (β := β) N).loops (lp Try.f99 0).id = LS99_0 N := by kernel_rfl
theorem rk99_0 {β : Type} (N : Nat) : RoundsOK lay (E99 (β := β) N) (retMask Try.f99) (lp Try.f99 0) := by
  intro s K r h
  rw [lk99_0] at h
  unfold LS99_0 VLS99_0 at h
  cases hb : shpSt (h99_0_0 0 0 []) s with
  | true =>
    rw [hb, cond_true] at h
    exact ⟨N, by rw [← shpSt_ref hb, fl99_0_0 s]; exact (ro99_0_0 N  K N (intS (oneA (vT (nx tund s.tmps 4)))) (intS (oneA (vT (nx tund s.tmps 5)))) (rInts (rowB_ (nx .dead s.blks 0)))).trans h⟩
  | false =>
  rw [hb, cond_false] at h
  clear hb
  cases h
def BV_spec_RealDegree {β : Type} (N : Nat) (q_spec_IsTable : (a0 : Int) → (a1 : Int) → (k : Bool → Option β) → Option β) (q_spec_RealCoefficients : (a0 : Int) → (a1 : Int) → (k : List Int → Option β) → Option β) (q_spec_RealDegree_l0 : Nat → Int → Int → List Int → (Int → Option β) → Option β) (a0 : Int) (a1 : Int) (k : Int → Option β) : Option β :=
q_spec_IsTable a0 a1 fun r3 =>
(cond (!r3)
(k (-2))
(q_spec_RealCoefficients a0 a1 fun r4 =>
q_spec_RealDegree_l0  N (-1) 0 r4 (fun e6_0 =>
k e6_0)))
theorem t_spec_RealDegree {β : Type} (N : Nat) (a0 : Int) (a1 : Int) (k : Int → Option β) : spec_RealDegree N a0 a1 k = BV_spec_RealDegree N (spec_IsTable N) (spec_RealCoefficients N) (spec_RealDegree_l0 N) a0 a1 k := by
  unfold spec_RealDegree BV_spec_RealDegree
  rfl
theorem ve99_0 {β : Type} (N : Nat) (q_spec_IsTable : (a0 : Int) → (a1 : Int) → (k : Bool → Option β) → Option β) (q_spec_RealCoefficients : (a0 : Int) → (a1 : Int) → (k : List Int → Option β) → Option β) (q_spec_l2Count : (a0 : Int) → (k : Int → Option β) → Option β) (q_spec_RealDegree_l0 : Nat → Int → Int → List Int → (Int → Option β) → Option β)  (a0 : Int) (a1 : Int) (K : TV → Option β) : evFn lay (VE99 N q_spec_IsTable q_spec_RealCoefficients q_spec_l2Count q_spec_RealDegree_l0) Try.f99 [.v (.agg [.int .i64 a0, .int .i64 a1])] K = BV_spec_RealDegree N q_spec_IsTable q_spec_RealCoefficients q_spec_RealDegree_l0 a0 a1 (fun z2 => K (.v (.one (.int .i64 z2)))) := by kernel_rfl
theorem e99_0 {β : Type} (N : Nat)  (a0 : Int) (a1 : Int) (K : TV → Option β) : evFn lay (E99 N) Try.f99 [.v (.agg [.int .i64 a0, .int .i64 a1])] K = spec_RealDegree N a0 a1 (fun z2 => K (.v (.one (.int .i64 z2)))) := (ve99_0 N (spec_IsTable N) (spec_RealCoefficients N) (spec_l2Count N) (spec_RealDegree_l0 N) a0 a1 K).trans (t_spec_RealDegree N a0 a1 (fun z2 => K (.v (.one (.int .i64 z2))))).symm
theorem o99 {β : Type} (N : Nat) : SpecOK (β := β) Try.prog 99 (S99 N) := by
  refine spec_of lay_ok mixed (E := E99 N) (specs_loops (specs_cons (o69 N) (specs_cons (o126 N) (specs_cons (o70 N) specs_nil)))) muts_nil gs_nil Try.func99 (by kernel_rfl) 1 (by kernel_rfl) ⟨trivial, rk99_0 N⟩ fun args K r h => ?_
  unfold S99 VS99 at h
  split at h
  · exact (e99_0 N _ _ _).trans h
  · cases h
def VS127 {β : Type} (N : Nat) (q_spec_l11Anf : (a0 : Int) → (a1 : Int) → (k : Int → Option β) → Option β) : Rv.Spec β := fun args K => match args with
  | [.v (.agg [.int .i64 a0, .int .i64 a1])] => q_spec_l11Anf a0 a1 (fun z2 => K (.v (.one (.int .i64 z2))))
  | _ => none
def S127 {β : Type} (N : Nat) : Rv.Spec β := VS127 N (spec_l11Anf N)
def h127_0_0  (v0 : Int) (v1 : Int) (v2 : Int) (v3 : Int) : St := ⟨.v (.one .und) :: .v (.one (.ptr 0 0)) :: .v (.one .und) :: .v (.one (.int .i64 v0)) :: .v (.one (.int .i64 v1)) :: .v (.one .und) :: .v (.one .und) :: .v (.one .und) :: .v (.one .und) :: .v (.one .und) :: .v (.one .und) :: .v (.one .und) :: .v (.one .und) :: .v (.one .und) :: .v (.one .und) :: .v (.one .und) :: .v (.one .und) :: .v (.one .und) :: .v (.one .und) :: .v (.one .und) :: .v (.one .und) :: .v (.one .und) :: .v (.one .und) :: .v (.one .und) :: .v (.one .und) :: .v (.one .und) :: .v (.one .und) :: .v (.one .und) :: .v (.one .und) :: .v (.one .und) :: .v (.one .und) :: .v (.one .und) :: .v (.one .und) :: .v (.one .und) :: .v (.one .und) :: .v (.one .und) :: .v (.one .und) :: .v (.one .und) :: [], [.cells 25 [.int .i64 v2, .int .i64 v3]]⟩
def x127_0_0_k0  (y0 : Int) : St := ⟨.v (.one .und) :: .v (.one .und) :: .v (.one .und) :: .v (.one (.int .i64 y0)) :: .v (.one .und) :: .v (.one .und) :: .v (.one .und) :: .v (.one .und) :: .v (.one .und) :: .v (.one .und) :: .v (.one .und) :: .v (.one .und) :: .v (.one .und) :: .v (.one .und) :: .v (.one .und) :: .v (.one .und) :: .v (.one .und) :: .v (.one .und) :: .v (.one .und) :: .v (.one .und) :: .v (.one .und) :: .v (.one .und) :: .v (.one .und) :: .v (.one .und) :: .v (.one .und) :: .v (.one .und) :: .v (.one .und) :: .v (.one .und) :: .v (.one .und) :: .v (.one .und) :: .v (.one .und) :: .v (.one .und) :: .v (.one .und) :: .v (.one .und) :: .v (.one .und) :: .v (.one .und) :: .v (.one .und) :: .v (.one .und) :: [], []⟩
def h127_1_0  (v0 : Int) (v1 : Int) (v2 : Int) (v3 : Int) (v4 : Int) (v5 : Int) : St := ⟨.v (.one .und) :: .v (.one (.ptr 0 0)) :: .v (.one .und) :: .v (.one (.int .i64 v0)) :: .v (.one (.int .i64 v1)) :: .v (.one (.int .i64 v2)) :: .v (.one (.int .i64 v3)) :: .v (.one .und) :: .v (.one .und) :: .v (.one .und) :: .v (.one .und) :: .v (.one .und) :: .v (.one .und) :: .v (.one .und) :: .v (.one .und) :: .v (.one .und) :: .v (.one .und) :: .v (.one .und) :: .v (.one .und) :: .v (.one .und) :: .v (.one .und) :: .v (.one .und) :: .v (.one .und) :: .v (.one .und) :: .v (.one .und) :: .v (.one .und) :: .v (.one .und) :: .v (.one .und) :: .v (.one .und) :: .v (.one .und) :: .v (.one .und) :: .v (.one .und) :: .v (.one .und) :: .v (.one .und) :: .v (.one .und) :: .v (.one .und) :: .v (.one .und) :: .v (.one .und) :: [], [.cells 25 [.int .i64 v4, .int .i64 v5]]⟩
def x127_1_0_k0  (y0 : Int) (y1 : Int) (y2 : Int) (y3 : Int) (y4 : Int) : St := ⟨.v (.one .und) :: .v (.one (.ptr 0 0)) :: .v (.one .und) :: .v (.one (.int .i64 y0)) :: .v (.one (.int .i64 y1)) :: .v (.one (.int .i64 y2)) :: .v (.one .und) :: .v (.one .und) :: .v (.one .und) :: .v (.one .und) :: .v (.one .und) :: .v (.one .und) :: .v (.one .und) :: .v (.one .und) :: .v (.one .und) :: .v (.one .und) :: .v (.one .und) :: .v (.one .und) :: .v (.one .und) :: .v (.one .und) :: .v (.one .und) :: .v (.one .und) :: .v (.one .und) :: .v (.one .und) :: .v (.one .und) :: .v (.one .und) :: .v (.one .und) :: .v (.one .und) :: .v (.one .und) :: .v (.one .und) :: .v (.one .und) :: .v (.one .und) :: .v (.one .und) :: .v (.one .und) :: .v (.one .und) :: .v (.one .und) :: .v (.one .und) :: .v (.one .und) :: [], [.cells 25 [.int .i64 y3, .int .i64 y4]]⟩
theorem fl127_0_0 (s : St) : refSt (h127_0_0 0 0 0 0) s = h127_0_0 (intS (oneA (vT (nx tund s.tmps 3)))) (intS (oneA (vT (nx tund s.tmps 4)))) (intS (nx .und (cellsB (nx .dead s.blks 0)) 0)) (intS (nx .und (cellsB (nx .dead s.blks 0)) 1)) := by kernel_rfl
def VLS127_0 {β : Type} (N : Nat) (q_spec_l11Anf_l0 : Nat → Int → Int → Int → Int → (Int → Option β) → Option β) : LSpec β := fun s K => cond (shpSt (h127_0_0 0 0 0 0) s) ((fun (v0 : Int) (v1 : Int) (v2 : Int) (v3 : Int) => q_spec_l11Anf_l0  N v0 v1 v2 v3 (fun y0 => K (.exit 0) (x127_0_0_k0  y0))) (intS (oneA (vT (nx tund s.tmps 3)))) (intS (oneA (vT (nx tund s.tmps 4)))) (intS (nx .und (cellsB (nx .dead s.blks 0)) 0)) (intS (nx .und (cellsB (nx .dead s.blks 0)) 1))) (none)
def LS127_0 {β : Type} (N : Nat) : LSpec β := VLS127_0 N (spec_l11Anf_l0 N)
theorem fl127_1_0 (s : St) : refSt (h127_1_0 0 0 0 0 0 0) s = h127_1_0 (intS (oneA (vT (nx tund s.tmps 3)))) (intS (oneA (vT (nx tund s.tmps 4)))) (intS (oneA (vT (nx tund s.tmps 5)))) (intS (oneA (vT (nx tund s.tmps 6)))) (intS (nx .und (cellsB (nx .dead s.blks 0)) 0)) (intS (nx .und (cellsB (nx .dead s.blks 0)) 1)) := by kernel_rfl
def VLS127_2 {β : Type} (N : Nat) (q_spec_l11Anf_l2 : Nat → Int → Int → Int → Int → Int → Int → (Int → Int → Int → Int → Int → Option β) → Option β) : LSpec β := fun s K => cond (shpSt (h127_1_0 0 0 0 0 0 0) s) ((fun (v0 : Int) (v1 : Int) (v2 : Int) (v3 : Int) (v4 : Int) (v5 : Int) => q_spec_l11Anf_l2  N v0 v1 v2 v3 v4 v5 (fun y0 y1 y2 y3 y4 => K (.exit 2) (x127_1_0_k0  y0 y1 y2 y3 y4))) (intS (oneA (vT (nx tund s.tmps 3)))) (intS (oneA (vT (nx tund s.tmps 4)))) (intS (oneA (vT (nx tund s.tmps 5)))) (intS (oneA (vT (nx tund s.tmps 6)))) (intS (nx .und (cellsB (nx .dead s.blks 0)) 0)) (intS (nx .und (cellsB (nx .dead s.blks 0)) 1))) (none)
def LS127_2 {β : Type} (N : Nat) : LSpec β := VLS127_2 N (spec_l11Anf_l2 N)
def VE127 {β : Type} (N : Nat) (q_spec_l11Anf_l0 : Nat → Int → Int → Int → Int → (Int → Option β) → Option β) (q_spec_l11Anf_l2 : Nat → Int → Int → Int → Int → Int → Int → (Int → Int → Int → Int → Int → Option β) → Option β) : Env β := ⟨[], [], [(0, VLS127_0 N q_spec_l11Anf_l0), (2, VLS127_2 N q_spec_l11Anf_l2)], []⟩
def E127 {β : Type} (N : Nat) : Env β := VE127 N (spec_l11Anf_l0 N) (spec_l11Anf_l2 N)
def BV_spec_l11Anf_l0b {β : Type} (N : Nat) (q_spec_l11Anf_l2 : Nat → Int → Int → Int → Int → Int → Int → (Int → Int → Int → Int → Int → Option β) → Option β)  (v0 : Int) (v1 : Int) (v2 : Int) (v3 : Int) (rec_ : Int → Int → Int → Int → Option β) (k0 : Int → Option β) : Option β :=
(gd ((decide (0 ≤ v2)))
((cond ((decide (v1 < (shlI .i64 1 v2))))
(q_spec_l11Anf_l2  N v0 v1 0 0 v2 v3 (fun e3_0 e3_1 e3_2 e3_3 e3_4 =>
(gd ((decide (0 ≤ e3_1)))
(rec_ ((bits .or .i64 e3_0 (shlI .i64 (remI e3_2 2) e3_1))) ((w64 (e3_1 + 1))) e3_3 e3_4))))
(k0 v0))))
theorem t_spec_l11Anf_l0b {β : Type} (N : Nat)  (v0 : Int) (v1 : Int) (v2 : Int) (v3 : Int) (rec_ : Int → Int → Int → Int → Option β) (k0 : Int → Option β) : spec_l11Anf_l0b N v0 v1 v2 v3 rec_ k0 = BV_spec_l11Anf_l0b N (spec_l11Anf_l2 N) v0 v1 v2 v3 rec_ k0 := by
  unfold spec_l11Anf_l0b BV_spec_l11Anf_l0b
  rfl
theorem vst127_0_0 {β : Type} (N : Nat) (q_spec_l11Anf_l0 : Nat → Int → Int → Int → Int → (Int → Option β) → Option β) (q_spec_l11Anf_l2 : Nat → Int → Int → Int → Int → Int → Int → (Int → Int → Int → Int → Int → Option β) → Option β)  (v0 : Int) (v1 : Int) (v2 : Int) (v3 : Int) (rec_ : St → Option β) (K : Exit → St → Option β) :
    ev lay (VE127 N q_spec_l11Anf_l0 q_spec_l11Anf_l2) (retMask Try.f127) (lp Try.f127 0).body (lp Try.f127 0).ex ((lp Try.f127 0).lv (retMask Try.f127)) (h127_0_0  v0 v1 v2 v3) (nextR (fun s' => rec_ (s'.tidy ((lp Try.f127 0).lv (retMask Try.f127)))) K) = BV_spec_l11Anf_l0b N q_spec_l11Anf_l2  v0 v1 v2 v3 (fun v0 v1 v2 v3 => rec_ (h127_0_0  v0 v1 v2 v3)) (fun y0 => K (.exit 0) (x127_0_0_k0  y0)) := by kernel_rfl
theorem st127_0_0 {β : Type} (N : Nat)  (v0 : Int) (v1 : Int) (v2 : Int) (v3 : Int) (rec_ : St → Option β) (K : Exit → St → Option β) :
    ev lay (E127 N) (retMask Try.f127) (lp Try.f127 0).body (lp Try.f127 0).ex ((lp Try.f127 0).lv (retMask Try.f127)) (h127_0_0  v0 v1 v2 v3) (nextR (fun s' => rec_ (s'.tidy ((lp Try.f127 0).lv (retMask Try.f127)))) K) = spec_l11Anf_l0b N  v0 v1 v2 v3 (fun v0 v1 v2 v3 => rec_ (h127_0_0  v0 v1 v2 v3)) (fun y0 => K (.exit 0) (x127_0_0_k0  y0)) := (vst127_0_0 N (spec_l11Anf_l0 N) (spec_l11Anf_l2 N) v0 v1 v2 v3 rec_ K).trans (t_spec_l11Anf_l0b N  v0 v1 v2 v3 (fun v0 v1 v2 v3 => rec_ (h127_0_0  v0 v1 v2 v3)) (fun y0 => K (.exit 0) (x127_0_0_k0  y0))).symm
theorem ro127_0_0 {β : Type} (N : Nat)  (K : Exit → St → Option β) : ∀ (F : Nat) (v0 : Int) (v1 : Int) (v2 : Int) (v3 : Int), (lp Try.f127 0).rounds lay (E127 N) (retMask Try.f127) F (h127_0_0  v0 v1 v2 v3) K = spec_l11Anf_l0 N  F v0 v1 v2 v3 (fun y0 => K (.exit 0) (x127_0_0_k0  y0)) := by
  intro F
  induction F with
  | zero => intros; rfl
  | succ F ih =>
    intros
    rw [rounds_next]
    refine (st127_0_0 N  _ _ _ _ (fun s => (lp Try.f127 0).rounds lay (E127 N) (retMask Try.f127) F s K) K).trans ?_
    simp only [ih]
    rfl
theorem lk127_0 {β : Type} (N : Nat) : lookL (E127 (β := β) N).loops (lp Try.f127 0).id = LS127_0 N := by kernel_rfl
theorem rk127_0 {β : Type} (N : Nat) : RoundsOK lay (E127 (β := β) N) (retMask Try.f127) (lp Try.f127 0) := by
  intro s K r h
  rw [lk127_0] at h
  unfold LS127_0 VLS127_0 at h
  cases hb : shpSt (h127_0_0 0 0 0 0) s with
  | true =>
    rw [hb, cond_true] at h
    exact ⟨N, by rw [← shpSt_ref hb, fl127_0_0 s]; exact (ro127_0_0 N  K N (intS (oneA (vT (nx tund s.tmps 3)))) (intS (oneA (vT (nx tund s.tmps 4)))) (intS (nx .und (cellsB (nx .dead s.blks 0)) 0)) (intS (nx .und (cellsB (nx .dead s.blks 0)) 1))).trans h⟩
  | false =>
  rw [hb, cond_false] at h
  clear hb
  cases h
def BV_spec_l11Anf_l2b {β : Type} (N : Nat)  (v0 : Int) (v1 : Int) (v2 : Int) (v3 : Int) (v4 : Int) (v5 : Int) (rec_ : Int → Int → Int → Int → Int → Int → Option β) (k0 : Int → Int → Int → Int → Int → Option β) : Option β :=
(cond ((decide (v3 ≤ v1)))
((cond (((bits .and .i64 v3 v1) == v3))
((gd ((decide (0 ≤ v3)))
(rec_ v0 v1 ((w64 (v2 + (bits .and .i64 (shrI .i64 v5 v3) 1)))) ((w64 (v3 + 1))) v4 v5)))
(rec_ v0 v1 v2 ((w64 (v3 + 1))) v4 v5)))
(k0 v0 v1 v2 v4 v5))
theorem t_spec_l11Anf_l2b {β : Type} (N : Nat)  (v0 : Int) (v1 : Int) (v2 : Int) (v3 : Int) (v4 : Int) (v5 : Int) (rec_ : Int → Int → Int → Int → Int → Int → Option β) (k0 : Int → Int → Int → Int → Int → Option β) : spec_l11Anf_l2b N v0 v1 v2 v3 v4 v5 rec_ k0 = BV_spec_l11Anf_l2b N v0 v1 v2 v3 v4 v5 rec_ k0 := by
  unfold spec_l11Anf_l2b BV_spec_l11Anf_l2b
  rfl
theorem vst127_1_0 {β : Type} (N : Nat) (q_spec_l11Anf_l0 : Nat → Int → Int → Int → Int → (Int → Option β) → Option β) (q_spec_l11Anf_l2 : Nat → Int → Int → Int → Int → Int → Int → (Int → Int → Int → Int → Int → Option β) → Option β)  (v0 : Int) (v1 : Int) (v2 : Int) (v3 : Int) (v4 : Int) (v5 : Int) (rec_ : St → Option β) (K : Exit → St → Option β) :
    ev lay (VE127 N q_spec_l11Anf_l0 q_spec_l11Anf_l2) (retMask Try.f127) (lp Try.f127 1).body (lp Try.f127 1).ex ((lp Try.f127 1).lv (retMask Try.f127)) (h127_1_0  v0 v1 v2 v3 v4 v5) (nextR (fun s' => rec_ (s'.tidy ((lp Try.f127 1).lv (retMask Try.f127)))) K) = BV_spec_l11Anf_l2b N  v0 v1 v2 v3 v4 v5 (fun v0 v1 v2 v3 v4 v5 => rec_ (h127_1_0  v0 v1 v2 v3 v4 v5)) (fun y0 y1 y2 y3 y4 => K (.exit 2) (x127_1_0_k0  y0 y1 y2 y3 y4)) := by kernel_rfl
theorem st127_1_0 {β : Type} (N : Nat)  (v0 : Int) (v1 : Int) (v2 : Int) (v3 : Int) (v4 : Int) (v5 : Int) (rec_ : St → Option β) (K : Exit → St → Option β) :
    ev lay (E127 N) (retMask Try.f127) (lp Try.f127 1).body (lp Try.f127 1).ex ((lp Try.f127 1).lv (retMask Try.f127)) (h127_1_0  v0 v1 v2 v3 v4 v5) (nextR (fun s' => rec_ (s'.tidy ((lp Try.f127 1).lv (retMask Try.f127)))) K) = spec_l11Anf_l2b N  v0 v1 v2 v3 v4 v5 (fun v0 v1 v2 v3 v4 v5 => rec_ (h127_1_0  v0 v1 v2 v3 v4 v5)) (fun y0 y1 y2 y3 y4 => K (.exit 2) (x127_1_0_k0  y0 y1 y2 y3 y4)) := (vst127_1_0 N (spec_l11Anf_l0 N) (spec_l11Anf_l2 N) v0 v1 v2 v3 v4 v5 rec_ K).trans (t_spec_l11Anf_l2b N  v0 v1 v2 v3 v4 v5 (fun v0 v1 v2 v3 v4 v5 => rec_ (h127_1_0  v0 v1 v2 v3 v4 v5)) (fun y0 y1 y2 y3 y4 => K (.exit 2) (x127_1_0_k0  y0 y1 y2 y3 y4))).symm
theorem ro127_1_0 {β : Type} (N : Nat)  (K : Exit → St → Option β) : ∀ (F : Nat) (v0 : Int) (v1 : Int) (v2 : Int) (v3 : Int) (v4 : Int) (v5 : Int), (lp Try.f127 1).rounds lay (E127 N) (retMask Try.f127) F (h127_1_0  v0 v1 v2 v3 v4 v5) K = spec_l11Anf_l2 N  F v0 v1 v2 v3 v4 v5 (fun y0 y1 y2 y3 y4 => K (.exit 2) (x127_1_0_k0  y0 y1 y2 y3 y4)) := by
  intro F
  induction F with
  | zero => intros; rfl
  | succ F ih =>
    intros
    rw [rounds_next]
    refine (st127_1_0 N  _ _ _ _ _ _ (fun s => (lp Try.f127 1).rounds lay (E127 N) (retMask Try.f127) F s K) K).trans ?_
    simp only [ih]
    rfl
theorem lk127_2 {β : Type} (N : Nat) : lookL (E127 (β := β) N).loops (lp Try.f127 1).id = LS127_2 N := by kernel_rfl
theorem rk127_2 {β : Type} (N : Nat) : RoundsOK lay (E127 (β := β) N) (retMask Try.f127) (lp Try.f127 1) := by
  intro s K r h
  rw [lk127_2] at h
  unfold LS127_2 VLS127_2 at h
  cases hb : shpSt (h127_1_0 0 0 0 0 0 0) s with
  | true =>
    rw [hb, cond_true] at h
    exact ⟨N, by rw [← shpSt_ref hb, fl127_1_0 s]; exact (ro127_1_0 N  K N (intS (oneA (vT (nx tund s.tmps 3)))) (intS (oneA (vT (nx tund s.tmps 4)))) (intS (oneA (vT (nx tund s.tmps 5)))) (intS (oneA (vT (nx tund s.tmps 6)))) (intS (nx .und (cellsB (nx .dead s.blks 0)) 0)) (intS (nx .und (cellsB (nx .dead s.blks 0)) 1))).trans h⟩
  | false =>
  rw [hb, cond_false] at h
  clear hb
  cases h
def BV_spec_l11Anf {β : Type} (N : Nat) (q_spec_l11Anf_l0 : Nat → Int → Int → Int → Int → (Int → Option β) → Option β) (a0 : Int) (a1 : Int) (k : Int → Option β) : Option β :=
q_spec_l11Anf_l0  N 0 0 a0 a1 (fun e4_0 =>
k e4_0)
theorem t_spec_l11Anf {β : Type} (N : Nat) (a0 : Int) (a1 : Int) (k : Int → Option β) : spec_l11Anf N a0 a1 k = BV_spec_l11Anf N (spec_l11Anf_l0 N) a0 a1 k := by
  unfold spec_l11Anf BV_spec_l11Anf
  rfl
theorem ve127_0 {β : Type} (N : Nat) (q_spec_l11Anf_l0 : Nat → Int → Int → Int → Int → (Int → Option β) → Option β) (q_spec_l11Anf_l2 : Nat → Int → Int → Int → Int → Int → Int → (Int → Int → Int → Int → Int → Option β) → Option β)  (a0 : Int) (a1 : Int) (K : TV → Option β) : evFn lay (VE127 N q_spec_l11Anf_l0 q_spec_l11Anf_l2) Try.f127 [.v (.agg [.int .i64 a0, .int .i64 a1])] K = BV_spec_l11Anf N q_spec_l11Anf_l0 a0 a1 (fun z2 => K (.v (.one (.int .i64 z2)))) := by kernel_rfl
theorem e127_0 {β : Type} (N : Nat)  (a0 : Int) (a1 : Int) (K : TV → Option β) : evFn lay (E127 N) Try.f127 [.v (.agg [.int .i64 a0, .int .i64 a1])] K = spec_l11Anf N a0 a1 (fun z2 => K (.v (.one (.int .i64 z2)))) := (ve127_0 N (spec_l11Anf_l0 N) (spec_l11Anf_l2 N) a0 a1 K).trans (t_spec_l11Anf N a0 a1 (fun z2 => K (.v (.one (.int .i64 z2))))).symm
theorem o127 {β : Type} (N : Nat) : SpecOK (β := β) Try.prog 127 (S127 N) := by
  refine spec_of lay_ok mixed (E := E127 N) (specs_loops specs_nil) muts_nil gs_nil Try.func127 (by kernel_rfl) 2 (by kernel_rfl) ⟨⟨trivial, rk127_0 N⟩, rk127_2 N⟩ fun args K r h => ?_
  unfold S127 VS127 at h
  split at h
  · exact (e127_0 N _ _ _).trans h
  · cases h
def VS100 {β : Type} (N : Nat) (q_spec_DegreeMod2 : (a0 : Int) → (a1 : Int) → (k : Int → Option β) → Option β) : Rv.Spec β := fun args K => match args with
  | [.v (.agg [.int .i64 a0, .int .i64 a1])] => q_spec_DegreeMod2 a0 a1 (fun z2 => K (.v (.one (.int .i64 z2))))
  | _ => none
def S100 {β : Type} (N : Nat) : Rv.Spec β := VS100 N (spec_DegreeMod2 N)
def h100_0_0  (v0 : Int) (v1 : Int) (v2 : Int) (v3 : Int) (v4 : Int) : St := ⟨.v (.one .und) :: .v (.one (.ptr 0 0)) :: .v (.one .und) :: .v (.one (.int .i64 v0)) :: .v (.one (.int .i64 v1)) :: .v (.one (.int .i64 v2)) :: .v (.one .und) :: .v (.one .und) :: .v (.one .und) :: .v (.one .und) :: .v (.one .und) :: .v (.one .und) :: .v (.one .und) :: .v (.one .und) :: .v (.one .und) :: .v (.one .und) :: .v (.one .und) :: .v (.one .und) :: .v (.one .und) :: .v (.one .und) :: .v (.one .und) :: .v (.one .und) :: .v (.one .und) :: .v (.one .und) :: .v (.one .und) :: .v (.one .und) :: .v (.one .und) :: .v (.one .und) :: [], [.cells 25 [.int .i64 v3, .int .i64 v4]]⟩
def x100_0_0_k0  (y0 : Int) : St := ⟨.v (.one .und) :: .v (.one .und) :: .v (.one .und) :: .v (.one .und) :: .v (.one (.int .i64 y0)) :: .v (.one .und) :: .v (.one .und) :: .v (.one .und) :: .v (.one .und) :: .v (.one .und) :: .v (.one .und) :: .v (.one .und) :: .v (.one .und) :: .v (.one .und) :: .v (.one .und) :: .v (.one .und) :: .v (.one .und) :: .v (.one .und) :: .v (.one .und) :: .v (.one .und) :: .v (.one .und) :: .v (.one .und) :: .v (.one .und) :: .v (.one .und) :: .v (.one .und) :: .v (.one .und) :: .v (.one .und) :: .v (.one .und) :: [], []⟩
theorem fl100_0_0 (s : St) : refSt (h100_0_0 0 0 0 0 0) s = h100_0_0 (intS (oneA (vT (nx tund s.tmps 3)))) (intS (oneA (vT (nx tund s.tmps 4)))) (intS (oneA (vT (nx tund s.tmps 5)))) (intS (nx .und (cellsB (nx .dead s.blks 0)) 0)) (intS (nx .und (cellsB (nx .dead s.blks 0)) 1)) := by kernel_rfl
def VLS100_0 {β : Type} (N : Nat) (q_spec_DegreeMod2_l0 : Nat → Int → Int → Int → Int → Int → (Int → Option β) → Option β) : LSpec β := fun s K => cond (shpSt (h100_0_0 0 0 0 0 0) s) ((fun (v0 : Int) (v1 : Int) (v2 : Int) (v3 : Int) (v4 : Int) => q_spec_DegreeMod2_l0  N v0 v1 v2 v3 v4 (fun y0 => K (.exit 0) (x100_0_0_k0  y0))) (intS (oneA (vT (nx tund s.tmps 3)))) (intS (oneA (vT (nx tund s.tmps 4)))) (intS (oneA (vT (nx tund s.tmps 5)))) (intS (nx .und (cellsB (nx .dead s.blks 0)) 0)) (intS (nx .und (cellsB (nx .dead s.blks 0)) 1))) (none)
def LS100_0 {β : Type} (N : Nat) : LSpec β := VLS100_0 N (spec_DegreeMod2_l0 N)
def VE100 {β : Type} (N : Nat) (q_spec_IsTable : (a0 : Int) → (a1 : Int) → (k : Bool → Option β) → Option β) (q_spec_l11Anf : (a0 : Int) → (a1 : Int) → (k : Int → Option β) → Option β) (q_spec_l2Count : (a0 : Int) → (k : Int → Option β) → Option β) (q_spec_DegreeMod2_l0 : Nat → Int → Int → Int → Int → Int → (Int → Option β) → Option β) : Env β := ⟨[(69, VS69 N q_spec_IsTable), (127, VS127 N q_spec_l11Anf), (70, VS70 N q_spec_l2Count)], [], [(0, VLS100_0 N q_spec_DegreeMod2_l0)], []⟩
def E100 {β : Type} (N : Nat) : Env β := VE100 N (spec_IsTable N) (spec_l11Anf N) (spec_l2Count N) (spec_DegreeMod2_l0 N)
def BV_spec_DegreeMod2_l0b {β : Type} (N : Nat) (q_spec_l2Count : (a0 : Int) → (k : Int → Option β) → Option β)  (v0 : Int) (v1 : Int) (v2 : Int) (v3 : Int) (v4 : Int) (rec_ : Int → Int → Int → Int → Int → Option β) (k0 : Int → Option β) : Option β :=
(gd ((decide (0 ≤ v3)))
((cond ((decide (v2 < (shlI .i64 1 v3))))
((gd ((decide (0 ≤ v2)))
((cond (((bits .and .i64 (shrI .i64 v0 v2) 1) == 1))
(q_spec_l2Count v2 fun r5 =>
rec_ v0 ((mxI v1 r5)) ((w64 (v2 + 1))) v3 v4)
(rec_ v0 v1 ((w64 (v2 + 1))) v3 v4)))))
(k0 v1))))
theorem t_spec_DegreeMod2_l0b {β : Type} (N : Nat)  (v0 : Int) (v1 : Int) (v2 : Int) (v3 : Int) (v4 : Int) (rec_ : Int → Int → Int → Int → Int → Option β) (k0 : Int → Option β) : spec_DegreeMod2_l0b N v0 v1 v2 v3 v4 rec_ k0 = BV_spec_DegreeMod2_l0b N (spec_l2Count N) v0 v1 v2 v3 v4 rec_ k0 := by
  unfold spec_DegreeMod2_l0b BV_spec_DegreeMod2_l0b
  rfl
theorem vst100_0_0 {β : Type} (N : Nat) (q_spec_IsTable : (a0 : Int) → (a1 : Int) → (k : Bool → Option β) → Option β) (q_spec_l11Anf : (a0 : Int) → (a1 : Int) → (k : Int → Option β) → Option β) (q_spec_l2Count : (a0 : Int) → (k : Int → Option β) → Option β) (q_spec_DegreeMod2_l0 : Nat → Int → Int → Int → Int → Int → (Int → Option β) → Option β)  (v0 : Int) (v1 : Int) (v2 : Int) (v3 : Int) (v4 : Int) (rec_ : St → Option β) (K : Exit → St → Option β) :
    ev lay (VE100 N q_spec_IsTable q_spec_l11Anf q_spec_l2Count q_spec_DegreeMod2_l0) (retMask Try.f100) (lp Try.f100 0).body (lp Try.f100 0).ex ((lp Try.f100 0).lv (retMask Try.f100)) (h100_0_0  v0 v1 v2 v3 v4) (nextR (fun s' => rec_ (s'.tidy ((lp Try.f100 0).lv (retMask Try.f100)))) K) = BV_spec_DegreeMod2_l0b N q_spec_l2Count  v0 v1 v2 v3 v4 (fun v0 v1 v2 v3 v4 => rec_ (h100_0_0  v0 v1 v2 v3 v4)) (fun y0 => K (.exit 0) (x100_0_0_k0  y0)) := by kernel_rfl
theorem st100_0_0 {β : Type} (N : Nat)  (v0 : Int) (v1 : Int) (v2 : Int) (v3 : Int) (v4 : Int) (rec_ : St → Option β) (K : Exit → St → Option β) :
    ev lay (E100 N) (retMask Try.f100) (lp Try.f100 0).body (lp Try.f100 0).ex ((lp Try.f100 0).lv (retMask Try.f100)) (h100_0_0  v0 v1 v2 v3 v4) (nextR (fun s' => rec_ (s'.tidy ((lp Try.f100 0).lv (retMask Try.f100)))) K) = spec_DegreeMod2_l0b N  v0 v1 v2 v3 v4 (fun v0 v1 v2 v3 v4 => rec_ (h100_0_0  v0 v1 v2 v3 v4)) (fun y0 => K (.exit 0) (x100_0_0_k0  y0)) := (vst100_0_0 N (spec_IsTable N) (spec_l11Anf N) (spec_l2Count N) (spec_DegreeMod2_l0 N) v0 v1 v2 v3 v4 rec_ K).trans (t_spec_DegreeMod2_l0b N  v0 v1 v2 v3 v4 (fun v0 v1 v2 v3 v4 => rec_ (h100_0_0  v0 v1 v2 v3 v4)) (fun y0 => K (.exit 0) (x100_0_0_k0  y0))).symm
theorem ro100_0_0 {β : Type} (N : Nat)  (K : Exit → St → Option β) : ∀ (F : Nat) (v0 : Int) (v1 : Int) (v2 : Int) (v3 : Int) (v4 : Int), (lp Try.f100 0).rounds lay (E100 N) (retMask Try.f100) F (h100_0_0  v0 v1 v2 v3 v4) K = spec_DegreeMod2_l0 N  F v0 v1 v2 v3 v4 (fun y0 => K (.exit 0) (x100_0_0_k0  y0)) := by
  intro F
  induction F with
  | zero => intros; rfl
  | succ F ih =>
    intros
    rw [rounds_next]
    refine (st100_0_0 N  _ _ _ _ _ (fun s => (lp Try.f100 0).rounds lay (E100 N) (retMask Try.f100) F s K) K).trans ?_
    simp only [ih]
    rfl
theorem lk100_0 {β : Type} (N : Nat) : lookL (E100 (β := β) N).loops (lp Try.f100 0).id = LS100_0 N := by kernel_rfl
theorem rk100_0 {β : Type} (N : Nat) : RoundsOK lay (E100 (β := β) N) (retMask Try.f100) (lp Try.f100 0) := by
  intro s K r h
  rw [lk100_0] at h
  unfold LS100_0 VLS100_0 at h
  cases hb : shpSt (h100_0_0 0 0 0 0 0) s with
  | true =>
    rw [hb, cond_true] at h
    exact ⟨N, by rw [← shpSt_ref hb, fl100_0_0 s]; exact (ro100_0_0 N  K N (intS (oneA (vT (nx tund s.tmps 3)))) (intS (oneA (vT (nx tund s.tmps 4)))) (intS (oneA (vT (nx tund s.tmps 5)))) (intS (nx .und (cellsB (nx .dead s.blks 0)) 0)) (intS (nx .und (cellsB (nx .dead s.blks 0)) 1))).trans h⟩
  | false =>
  rw [hb, cond_false] at h
  clear hb
  cases h
def BV_spec_DegreeMod2 {β : Type} (N : Nat) (q_spec_IsTable : (a0 : Int) → (a1 : Int) → (k : Bool → Option β) → Option β) (q_spec_l11Anf : (a0 : Int) → (a1 : Int) → (k : Int → Option β) → Option β) (q_spec_DegreeMod2_l0 : Nat → Int → Int → Int → Int → Int → (Int → Option β) → Option β) (a0 : Int) (a1 : Int) (k : Int → Option β) : Option β :=
q_spec_IsTable a0 a1 fun r3 =>
(cond (!r3)
(k (-2))
(q_spec_l11Anf a0 a1 fun r4 =>
q_spec_DegreeMod2_l0  N r4 (-1) 0 a0 a1 (fun e6_0 =>
k e6_0)))
theorem t_spec_DegreeMod2 {β : Type} (N : Nat) (a0 : Int) (a1 : Int) (k : Int → Option β) : spec_DegreeMod2 N a0 a1 k = BV_spec_DegreeMod2 N (spec_IsTable N) (spec_l11Anf N) (spec_DegreeMod2_l0 N) a0 a1 k := by
  unfold spec_DegreeMod2 BV_spec_DegreeMod2
  rfl
theorem ve100_0 {β : Type} (N : Nat) (q_spec_IsTable : (a0 : Int) → (a1 : Int) → (k : Bool → Option β) → Option β) (q_spec_l11Anf : (a0 : Int) → (a1 : Int) → (k : Int → Option β) → Option β) (q_spec_l2Count : (a0 : Int) → (k : Int → Option β) → Option β) (q_spec_DegreeMod2_l0 : Nat → Int → Int → Int → Int → Int → (Int → Option β) → Option β)  (a0 : Int) (a1 : Int) (K : TV → Option β) : evFn lay (VE100 N q_spec_IsTable q_spec_l11Anf q_spec_l2Count q_spec_DegreeMod2_l0) Try.f100 [.v (.agg [.int .i64 a0, .int .i64 a1])] K = BV_spec_DegreeMod2 N q_spec_IsTable q_spec_l11Anf q_spec_DegreeMod2_l0 a0 a1 (fun z2 => K (.v (.one (.int .i64 z2)))) := by kernel_rfl
theorem e100_0 {β : Type} (N : Nat)  (a0 : Int) (a1 : Int) (K : TV → Option β) : evFn lay (E100 N) Try.f100 [.v (.agg [.int .i64 a0, .int .i64 a1])] K = spec_DegreeMod2 N a0 a1 (fun z2 => K (.v (.one (.int .i64 z2)))) := (ve100_0 N (spec_IsTable N) (spec_l11Anf N) (spec_l2Count N) (spec_DegreeMod2_l0 N) a0 a1 K).trans (t_spec_DegreeMod2 N a0 a1 (fun z2 => K (.v (.one (.int .i64 z2))))).symm
theorem o100 {β : Type} (N : Nat) : SpecOK (β := β) Try.prog 100 (S100 N) := by
  refine spec_of lay_ok mixed (E := E100 N) (specs_loops (specs_cons (o69 N) (specs_cons (o127 N) (specs_cons (o70 N) specs_nil)))) muts_nil gs_nil Try.func100 (by kernel_rfl) 1 (by kernel_rfl) ⟨trivial, rk100_0 N⟩ fun args K r h => ?_
  unfold S100 VS100 at h
  split at h
  · exact (e100_0 N _ _ _).trans h
  · cases h
def VS101 {β : Type} (N : Nat) (q_spec_CountOnes : (a0 : Int) → (a1 : Int) → (k : Int → Option β) → Option β) : Rv.Spec β := fun args K => match args with
  | [.v (.agg [.int .i64 a0, .int .i64 a1])] => q_spec_CountOnes a0 a1 (fun z2 => K (.v (.one (.int .i64 z2))))
  | _ => none
def S101 {β : Type} (N : Nat) : Rv.Spec β := VS101 N (spec_CountOnes N)
def VE101 {β : Type} (N : Nat) (q_spec_IsTable : (a0 : Int) → (a1 : Int) → (k : Bool → Option β) → Option β) (q_spec_l2Count : (a0 : Int) → (k : Int → Option β) → Option β) : Env β := ⟨[(69, VS69 N q_spec_IsTable), (70, VS70 N q_spec_l2Count)], [], [], []⟩
def E101 {β : Type} (N : Nat) : Env β := VE101 N (spec_IsTable N) (spec_l2Count N)
def BV_spec_CountOnes {β : Type} (N : Nat) (q_spec_IsTable : (a0 : Int) → (a1 : Int) → (k : Bool → Option β) → Option β) (q_spec_l2Count : (a0 : Int) → (k : Int → Option β) → Option β) (a0 : Int) (a1 : Int) (k : Int → Option β) : Option β :=
q_spec_IsTable a0 a1 fun r3 =>
(cond (!r3)
(k (-1))
(q_spec_l2Count a1 fun r4 =>
k r4))
theorem t_spec_CountOnes {β : Type} (N : Nat) (a0 : Int) (a1 : Int) (k : Int → Option β) : spec_CountOnes N a0 a1 k = BV_spec_CountOnes N (spec_IsTable N) (spec_l2Count N) a0 a1 k := by
  unfold spec_CountOnes BV_spec_CountOnes
  rfl
theorem ve101_0 {β : Type} (N : Nat) (q_spec_IsTable : (a0 : Int) → (a1 : Int) → (k : Bool → Option β) → Option β) (q_spec_l2Count : (a0 : Int) → (k : Int → Option β) → Option β)  (a0 : Int) (a1 : Int) (K : TV → Option β) : evFn lay (VE101 N q_spec_IsTable q_spec_l2Count) Try.f101 [.v (.agg [.int .i64 a0, .int .i64 a1])] K = BV_spec_CountOnes N q_spec_IsTable q_spec_l2Count a0 a1 (fun z2 => K (.v (.one (.int .i64 z2)))) := by kernel_rfl
theorem e101_0 {β : Type} (N : Nat)  (a0 : Int) (a1 : Int) (K : TV → Option β) : evFn lay (E101 N) Try.f101 [.v (.agg [.int .i64 a0, .int .i64 a1])] K = spec_CountOnes N a0 a1 (fun z2 => K (.v (.one (.int .i64 z2)))) := (ve101_0 N (spec_IsTable N) (spec_l2Count N) a0 a1 K).trans (t_spec_CountOnes N a0 a1 (fun z2 => K (.v (.one (.int .i64 z2))))).symm
theorem o101 {β : Type} (N : Nat) : SpecOK (β := β) Try.prog 101 (S101 N) := by
  refine spec_of lay_ok mixed (E := E101 N) (specs_loops (specs_cons (o69 N) (specs_cons (o70 N) specs_nil))) muts_nil gs_nil Try.func101 (by kernel_rfl) 0 (by kernel_rfl) trivial fun args K r h => ?_
  unfold S101 VS101 at h
  split at h
  · exact (e101_0 N _ _ _).trans h
  · cases h
def VS128 {β : Type} (N : Nat) (q_spec_SensitiveEdges : (a0 : Int) → (a1 : Int) → (k : Int → Option β) → Option β) : Rv.Spec β := fun args K => match args with
  | [.v (.agg [.int .i64 a0, .int .i64 a1])] => q_spec_SensitiveEdges a0 a1 (fun z2 => K (.v (.one (.int .i64 z2))))
  | _ => none
def S128 {β : Type} (N : Nat) : Rv.Spec β := VS128 N (spec_SensitiveEdges N)
def h128_0_0  (v0 : Int) (v1 : Int) (v2 : Int) (v3 : Int) : St := ⟨.v (.one .und) :: .v (.one (.ptr 0 0)) :: .v (.one .und) :: .v (.one (.int .i64 v0)) :: .v (.one (.int .i64 v1)) :: .v (.one .und) :: .v (.one .und) :: .v (.one .und) :: .v (.one .und) :: .v (.one .und) :: .v (.one .und) :: .v (.one .und) :: .v (.one .und) :: .v (.one .und) :: .v (.one .und) :: .v (.one .und) :: .v (.one .und) :: .v (.one .und) :: .v (.one .und) :: .v (.one .und) :: .v (.one .und) :: .v (.one .und) :: [], [.cells 25 [.int .i64 v2, .int .i64 v3]]⟩
def x128_0_0_k0  (y0 : Int) : St := ⟨.v (.one .und) :: .v (.one .und) :: .v (.one .und) :: .v (.one (.int .i64 y0)) :: .v (.one .und) :: .v (.one .und) :: .v (.one .und) :: .v (.one .und) :: .v (.one .und) :: .v (.one .und) :: .v (.one .und) :: .v (.one .und) :: .v (.one .und) :: .v (.one .und) :: .v (.one .und) :: .v (.one .und) :: .v (.one .und) :: .v (.one .und) :: .v (.one .und) :: .v (.one .und) :: .v (.one .und) :: .v (.one .und) :: [], []⟩
theorem fl128_0_0 (s : St) : refSt (h128_0_0 0 0 0 0) s = h128_0_0 (intS (oneA (vT (nx tund s.tmps 3)))) (intS (oneA (vT (nx tund s.tmps 4)))) (intS (nx .und (cellsB (nx .dead s.blks 0)) 0)) (intS (nx .und (cellsB (nx .dead s.blks 0)) 1)) := by kernel_rfl
def VLS128_0 {β : Type} (N : Nat) (q_spec_SensitiveEdges_l0 : Nat → Int → Int → Int → Int → (Int → Option β) → Option β) : LSpec β := fun s K => cond (shpSt (h128_0_0 0 0 0 0) s) ((fun (v0 : Int) (v1 : Int) (v2 : Int) (v3 : Int) => q_spec_SensitiveEdges_l0  N v0 v1 v2 v3 (fun y0 => K (.exit 0) (x128_0_0_k0  y0))) (intS (oneA (vT (nx tund s.tmps 3)))) (intS (oneA (vT (nx tund s.tmps 4)))) (intS (nx .und (cellsB (nx .dead s.blks 0)) 0)) (intS (nx .und (cellsB (nx .dead s.blks 0)) 1))) (none)
def LS128_0 {β : Type} (N : Nat) : LSpec β := VLS128_0 N (spec_SensitiveEdges_l0 N)
def VE128 {β : Type} (N : Nat) (q_spec_IsTable : (a0 : Int) → (a1 : Int) → (k : Bool → Option β) → Option β) (q_spec_l10At : (a0 : Int) → (a1 : Int) → (a2 : Int) → (k : Int → Option β) → Option β) (q_spec_SensitiveEdges_l0 : Nat → Int → Int → Int → Int → (Int → Option β) → Option β) : Env β := ⟨[(69, VS69 N q_spec_IsTable), (122, VS122 N q_spec_l10At)], [], [(0, VLS128_0 N q_spec_SensitiveEdges_l0)], []⟩
def E128 {β : Type} (N : Nat) : Env β := VE128 N (spec_IsTable N) (spec_l10At N) (spec_SensitiveEdges_l0 N)
def BV_spec_SensitiveEdges_l0b {β : Type} (N : Nat) (q_spec_l10At : (a0 : Int) → (a1 : Int) → (a2 : Int) → (k : Int → Option β) → Option β)  (v0 : Int) (v1 : Int) (v2 : Int) (v3 : Int) (rec_ : Int → Int → Int → Int → Option β) (k0 : Int → Option β) : Option β :=
(gd ((decide (0 ≤ v2)))
((cond ((decide (v1 < (shlI .i64 1 v2))))
(q_spec_l10At v2 v3 v1 fun r4 =>
rec_ ((w64 (v0 + r4))) ((w64 (v1 + 1))) v2 v3)
(k0 v0))))
theorem t_spec_SensitiveEdges_l0b {β : Type} (N : Nat)  (v0 : Int) (v1 : Int) (v2 : Int) (v3 : Int) (rec_ : Int → Int → Int → Int → Option β) (k0 : Int → Option β) : spec_SensitiveEdges_l0b N v0 v1 v2 v3 rec_ k0 = BV_spec_SensitiveEdges_l0b N (spec_l10At N) v0 v1 v2 v3 rec_ k0 := by
  unfold spec_SensitiveEdges_l0b BV_spec_SensitiveEdges_l0b
  rfl
theorem vst128_0_0 {β : Type} (N : Nat) (q_spec_IsTable : (a0 : Int) → (a1 : Int) → (k : Bool → Option β) → Option β) (q_spec_l10At : (a0 : Int) → (a1 : Int) → (a2 : Int) → (k : Int → Option β) → Option β) (q_spec_SensitiveEdges_l0 : Nat → Int → Int → Int → Int → (Int → Option β) → Option β)  (v0 : Int) (v1 : Int) (v2 : Int) (v3 : Int) (rec_ : St → Option β) (K : Exit → St → Option β) :
    ev lay (VE128 N q_spec_IsTable q_spec_l10At q_spec_SensitiveEdges_l0) (retMask Try.f128) (lp Try.f128 0).body (lp Try.f128 0).ex ((lp Try.f128 0).lv (retMask Try.f128)) (h128_0_0  v0 v1 v2 v3) (nextR (fun s' => rec_ (s'.tidy ((lp Try.f128 0).lv (retMask Try.f128)))) K) = BV_spec_SensitiveEdges_l0b N q_spec_l10At  v0 v1 v2 v3 (fun v0 v1 v2 v3 => rec_ (h128_0_0  v0 v1 v2 v3)) (fun y0 => K (.exit 0) (x128_0_0_k0  y0)) := by kernel_rfl
theorem st128_0_0 {β : Type} (N : Nat)  (v0 : Int) (v1 : Int) (v2 : Int) (v3 : Int) (rec_ : St → Option β) (K : Exit → St → Option β) :
    ev lay (E128 N) (retMask Try.f128) (lp Try.f128 0).body (lp Try.f128 0).ex ((lp Try.f128 0).lv (retMask Try.f128)) (h128_0_0  v0 v1 v2 v3) (nextR (fun s' => rec_ (s'.tidy ((lp Try.f128 0).lv (retMask Try.f128)))) K) = spec_SensitiveEdges_l0b N  v0 v1 v2 v3 (fun v0 v1 v2 v3 => rec_ (h128_0_0  v0 v1 v2 v3)) (fun y0 => K (.exit 0) (x128_0_0_k0  y0)) := (vst128_0_0 N (spec_IsTable N) (spec_l10At N) (spec_SensitiveEdges_l0 N) v0 v1 v2 v3 rec_ K).trans (t_spec_SensitiveEdges_l0b N  v0 v1 v2 v3 (fun v0 v1 v2 v3 => rec_ (h128_0_0  v0 v1 v2 v3)) (fun y0 => K (.exit 0) (x128_0_0_k0  y0))).symm
theorem ro128_0_0 {β : Type} (N : Nat)  (K : Exit → St → Option β) : ∀ (F : Nat) (v0 : Int) (v1 : Int) (v2 : Int) (v3 : Int), (lp Try.f128 0).rounds lay (E128 N) (retMask Try.f128) F (h128_0_0  v0 v1 v2 v3) K = spec_SensitiveEdges_l0 N  F v0 v1 v2 v3 (fun y0 => K (.exit 0) (x128_0_0_k0  y0)) := by
  intro F
  induction F with
  | zero => intros; rfl
  | succ F ih =>
    intros
    rw [rounds_next]
    refine (st128_0_0 N  _ _ _ _ (fun s => (lp Try.f128 0).rounds lay (E128 N) (retMask Try.f128) F s K) K).trans ?_
    simp only [ih]
    rfl
theorem lk128_0 {β : Type} (N : Nat) : lookL (E128 (β := β) N).loops (lp Try.f128 0).id = LS128_0 N := by kernel_rfl
theorem rk128_0 {β : Type} (N : Nat) : RoundsOK lay (E128 (β := β) N) (retMask Try.f128) (lp Try.f128 0) := by
  intro s K r h
  rw [lk128_0] at h
  unfold LS128_0 VLS128_0 at h
  cases hb : shpSt (h128_0_0 0 0 0 0) s with
  | true =>
    rw [hb, cond_true] at h
    exact ⟨N, by rw [← shpSt_ref hb, fl128_0_0 s]; exact (ro128_0_0 N  K N (intS (oneA (vT (nx tund s.tmps 3)))) (intS (oneA (vT (nx tund s.tmps 4)))) (intS (nx .und (cellsB (nx .dead s.blks 0)) 0)) (intS (nx .und (cellsB (nx .dead s.blks 0)) 1))).trans h⟩
  | false =>
  rw [hb, cond_false] at h
  clear hb
  cases h
def BV_spec_SensitiveEdges {β : Type} (N : Nat) (q_spec_IsTable : (a0 : Int) → (a1 : Int) → (k : Bool → Option β) → Option β) (q_spec_SensitiveEdges_l0 : Nat → Int → Int → Int → Int → (Int → Option β) → Option β) (a0 : Int) (a1 : Int) (k : Int → Option β) : Option β :=
q_spec_IsTable a0 a1 fun r3 =>
(cond (!r3)
(k (-1))
(q_spec_SensitiveEdges_l0  N 0 0 a0 a1 (fun e5_0 =>
k ((quoI .i64 e5_0 2)))))
theorem t_spec_SensitiveEdges {β : Type} (N : Nat) (a0 : Int) (a1 : Int) (k : Int → Option β) : spec_SensitiveEdges N a0 a1 k = BV_spec_SensitiveEdges N (spec_IsTable N) (spec_SensitiveEdges_l0 N) a0 a1 k := by
  unfold spec_SensitiveEdges BV_spec_SensitiveEdges
  rfl
theorem ve128_0 {β : Type} (N : Nat) (q_spec_IsTable : (a0 : Int) → (a1 : Int) → (k : Bool → Option β) → Option β) (q_spec_l10At : (a0 : Int) → (a1 : Int) → (a2 : Int) → (k : Int → Option β) → Option β) (q_spec_SensitiveEdges_l0 : Nat → Int → Int → Int → Int → (Int → Option β) → Option β)  (a0 : Int) (a1 : Int) (K : TV → Option β) : evFn lay (VE128 N q_spec_IsTable q_spec_l10At q_spec_SensitiveEdges_l0) Try.f128 [.v (.agg [.int .i64 a0, .int .i64 a1])] K = BV_spec_SensitiveEdges N q_spec_IsTable q_spec_SensitiveEdges_l0 a0 a1 (fun z2 => K (.v (.one (.int .i64 z2)))) := by kernel_rfl
theorem e128_0 {β : Type} (N : Nat)  (a0 : Int) (a1 : Int) (K : TV → Option β) : evFn lay (E128 N) Try.f128 [.v (.agg [.int .i64 a0, .int .i64 a1])] K = spec_SensitiveEdges N a0 a1 (fun z2 => K (.v (.one (.int .i64 z2)))) := (ve128_0 N (spec_IsTable N) (spec_l10At N) (spec_SensitiveEdges_l0 N) a0 a1 K).trans (t_spec_SensitiveEdges N a0 a1 (fun z2 => K (.v (.one (.int .i64 z2))))).symm
theorem o128 {β : Type} (N : Nat) : SpecOK (β := β) Try.prog 128 (S128 N) := by
  refine spec_of lay_ok mixed (E := E128 N) (specs_loops (specs_cons (o69 N) (specs_cons (o122 N) specs_nil))) muts_nil gs_nil Try.func128 (by kernel_rfl) 1 (by kernel_rfl) ⟨trivial, rk128_0 N⟩ fun args K r h => ?_
  unfold S128 VS128 at h
  split at h
  · exact (e128_0 N _ _ _).trans h
  · cases h
def VS102 {β : Type} (N : Nat) (q_spec_TotalInfluence : (a0 : Int) → (a1 : Int) → (k : Int → Option β) → Option β) : Rv.Spec β := fun args K => match args with
  | [.v (.agg [.int .i64 a0, .int .i64 a1])] => q_spec_TotalInfluence a0 a1 (fun z2 => K (.v (.one (.int .i64 z2))))
  | _ => none
def S102 {β : Type} (N : Nat) : Rv.Spec β := VS102 N (spec_TotalInfluence N)
def VE102 {β : Type} (N : Nat) (q_spec_IsTable : (a0 : Int) → (a1 : Int) → (k : Bool → Option β) → Option β) (q_spec_SensitiveEdges : (a0 : Int) → (a1 : Int) → (k : Int → Option β) → Option β) : Env β := ⟨[(69, VS69 N q_spec_IsTable), (128, VS128 N q_spec_SensitiveEdges)], [], [], []⟩
def E102 {β : Type} (N : Nat) : Env β := VE102 N (spec_IsTable N) (spec_SensitiveEdges N)
def BV_spec_TotalInfluence {β : Type} (N : Nat) (q_spec_IsTable : (a0 : Int) → (a1 : Int) → (k : Bool → Option β) → Option β) (q_spec_SensitiveEdges : (a0 : Int) → (a1 : Int) → (k : Int → Option β) → Option β) (a0 : Int) (a1 : Int) (k : Int → Option β) : Option β :=
q_spec_IsTable a0 a1 fun r3 =>
(cond (!r3)
(k (-1))
(q_spec_SensitiveEdges a0 a1 fun r4 =>
k ((w64 (2 * r4)))))
theorem t_spec_TotalInfluence {β : Type} (N : Nat) (a0 : Int) (a1 : Int) (k : Int → Option β) : spec_TotalInfluence N a0 a1 k = BV_spec_TotalInfluence N (spec_IsTable N) (spec_SensitiveEdges N) a0 a1 k := by
  unfold spec_TotalInfluence BV_spec_TotalInfluence
  rfl
theorem ve102_0 {β : Type} (N : Nat) (q_spec_IsTable : (a0 : Int) → (a1 : Int) → (k : Bool → Option β) → Option β) (q_spec_SensitiveEdges : (a0 : Int) → (a1 : Int) → (k : Int → Option β) → Option β)  (a0 : Int) (a1 : Int) (K : TV → Option β) : evFn lay (VE102 N q_spec_IsTable q_spec_SensitiveEdges) Try.f102 [.v (.agg [.int .i64 a0, .int .i64 a1])] K = BV_spec_TotalInfluence N q_spec_IsTable q_spec_SensitiveEdges a0 a1 (fun z2 => K (.v (.one (.int .i64 z2)))) := by kernel_rfl
theorem e102_0 {β : Type} (N : Nat)  (a0 : Int) (a1 : Int) (K : TV → Option β) : evFn lay (E102 N) Try.f102 [.v (.agg [.int .i64 a0, .int .i64 a1])] K = spec_TotalInfluence N a0 a1 (fun z2 => K (.v (.one (.int .i64 z2)))) := (ve102_0 N (spec_IsTable N) (spec_SensitiveEdges N) a0 a1 K).trans (t_spec_TotalInfluence N a0 a1 (fun z2 => K (.v (.one (.int .i64 z2))))).symm
theorem o102 {β : Type} (N : Nat) : SpecOK (β := β) Try.prog 102 (S102 N) := by
  refine spec_of lay_ok mixed (E := E102 N) (specs_loops (specs_cons (o69 N) (specs_cons (o128 N) specs_nil))) muts_nil gs_nil Try.func102 (by kernel_rfl) 0 (by kernel_rfl) trivial fun args K r h => ?_
  unfold S102 VS102 at h
  split at h
  · exact (e102_0 N _ _ _).trans h
  · cases h
end Go.Proofs.Ytdkjnadhgdneaaa
