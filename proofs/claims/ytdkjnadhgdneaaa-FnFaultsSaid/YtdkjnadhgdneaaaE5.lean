/- The functions that the claims reach answer as their texts do. -/
import Derived.Test.YtdkjnadhgdneaaaE4
namespace Go.Proofs.Ytdkjnadhgdneaaa
open Go.Rv
set_option maxRecDepth 100000
set_option maxHeartbeats 2000000
set_option linter.unusedVariables false
def VS34 {β : Type} (N : Nat) (q_spec_LeastTestSet : (a0 : Int) → (a1 : Int) → (k : List Int → Bool → Option β) → Option β) : Rv.Spec β := fun args K => match args with
  | [.v (.agg [.int .i64 a0, .int .i64 a1])] => q_spec_LeastTestSet a0 a1 (fun z2 z3 => K (.tup [.one (.sl 3 (.ints .i64 z2)), .one (.bool z3)]))
  | _ => none
def S34 {β : Type} (N : Nat) : Rv.Spec β := VS34 N (spec_LeastTestSet N)
def h34_0_0  (v0 : Int) (v1 : Int) (v2 : Int) (v3 : Int) : St := ⟨.v (.one .und) :: .v (.one (.ptr 0 0)) :: .v (.one .und) :: .v (.one .und) :: .v (.one (.int .i64 v0)) :: .v (.one (.int .i64 v1)) :: .v (.one .und) :: .v (.one .und) :: .v (.one .und) :: .v (.one .und) :: .v (.one .und) :: .v (.one .und) :: .v (.one .und) :: .v (.one .und) :: .v (.one .und) :: .v (.one .und) :: .v (.one .und) :: .v (.one .und) :: .v (.one .und) :: .v (.one .und) :: .v (.one .und) :: .v (.one .und) :: .v (.one .und) :: .v (.one .und) :: .v (.one .und) :: .v (.one .und) :: .v (.one .und) :: .v (.one .und) :: .v (.one .und) :: .v (.one .und) :: .v (.one .und) :: .v (.one .und) :: .v (.one .und) :: .v (.one .und) :: .v (.one .und) :: .v (.one .und) :: .v (.one .und) :: .v (.one .und) :: .v (.one .und) :: .v (.one .und) :: .v (.one .und) :: .v (.one .und) :: .v (.one .und) :: .v (.one .und) :: .v (.one .und) :: .v (.one .und) :: .v (.one .und) :: .v (.one .und) :: .v (.one .und) :: .v (.one .und) :: .v (.one .und) :: .v (.one .und) :: .v (.one .und) :: .v (.one .und) :: .v (.one .und) :: .v (.one .und) :: [], [.cells 25 [.int .i64 v2, .int .i64 v3]]⟩
def x34_0_0_k0  (y0 : Int) (y1 : Int) (y2 : Int) : St := ⟨.v (.one .und) :: .v (.one (.ptr 0 0)) :: .v (.one .und) :: .v (.one .und) :: .v (.one (.int .i64 y0)) :: .v (.one .und) :: .v (.one .und) :: .v (.one .und) :: .v (.one .und) :: .v (.one .und) :: .v (.one .und) :: .v (.one .und) :: .v (.one .und) :: .v (.one .und) :: .v (.one .und) :: .v (.one .und) :: .v (.one .und) :: .v (.one .und) :: .v (.one .und) :: .v (.one .und) :: .v (.one .und) :: .v (.one .und) :: .v (.one .und) :: .v (.one .und) :: .v (.one .und) :: .v (.one .und) :: .v (.one .und) :: .v (.one .und) :: .v (.one .und) :: .v (.one .und) :: .v (.one .und) :: .v (.one .und) :: .v (.one .und) :: .v (.one .und) :: .v (.one .und) :: .v (.one .und) :: .v (.one .und) :: .v (.one .und) :: .v (.one .und) :: .v (.one .und) :: .v (.one .und) :: .v (.one .und) :: .v (.one .und) :: .v (.one .und) :: .v (.one .und) :: .v (.one .und) :: .v (.one .und) :: .v (.one .und) :: .v (.one .und) :: .v (.one .und) :: .v (.one .und) :: .v (.one .und) :: .v (.one .und) :: .v (.one .und) :: .v (.one .und) :: .v (.one .und) :: [], [.cells 25 [.int .i64 y1, .int .i64 y2]]⟩
def h34_1_0  (v0 : Int) (v1 : Int) (v2 : Int) (v3 : Int) (v4 : List Int) : St := ⟨.v (.one .und) :: .v (.one (.ptr 0 0)) :: .v (.one .und) :: .v (.one .und) :: .v (.one (.int .i64 v0)) :: .v (.one .und) :: .v (.one (.row 1)) :: .v (.one (.int .i64 v1)) :: .v (.one .und) :: .v (.one .und) :: .v (.one .und) :: .v (.one .und) :: .v (.one .und) :: .v (.one .und) :: .v (.one .und) :: .v (.one .und) :: .v (.one .und) :: .v (.one .und) :: .v (.one .und) :: .v (.one .und) :: .v (.one .und) :: .v (.one .und) :: .v (.one .und) :: .v (.one .und) :: .v (.one .und) :: .v (.one .und) :: .v (.one .und) :: .v (.one .und) :: .v (.one .und) :: .v (.one .und) :: .v (.one .und) :: .v (.one .und) :: .v (.one .und) :: .v (.one .und) :: .v (.one .und) :: .v (.one .und) :: .v (.one .und) :: .v (.one .und) :: .v (.one .und) :: .v (.one .und) :: .v (.one .und) :: .v (.one .und) :: .v (.one .und) :: .v (.one .und) :: .v (.one .und) :: .v (.one .und) :: .v (.one .und) :: .v (.one .und) :: .v (.one .und) :: .v (.one .und) :: .v (.one .und) :: .v (.one .und) :: .v (.one .und) :: .v (.one .und) :: .v (.one .und) :: .v (.one .und) :: [], [.cells 25 [.int .i64 v2, .int .i64 v3], .row 3 (.ints .i64 v4)]⟩
def x34_1_0_k0  (y0 : List Int) : St := ⟨.v (.one .und) :: .v (.one .und) :: .v (.one .und) :: .v (.one .und) :: .v (.one .und) :: .v (.one .und) :: .v (.one (.row 0)) :: .v (.one .und) :: .v (.one .und) :: .v (.one .und) :: .v (.one .und) :: .v (.one .und) :: .v (.one .und) :: .v (.one .und) :: .v (.one .und) :: .v (.one .und) :: .v (.one .und) :: .v (.one .und) :: .v (.one .und) :: .v (.one .und) :: .v (.one .und) :: .v (.one .und) :: .v (.one .und) :: .v (.one .und) :: .v (.one .und) :: .v (.one .und) :: .v (.one .und) :: .v (.one .und) :: .v (.one .und) :: .v (.one .und) :: .v (.one .und) :: .v (.one .und) :: .v (.one .und) :: .v (.one .und) :: .v (.one .und) :: .v (.one .und) :: .v (.one .und) :: .v (.one .und) :: .v (.one .und) :: .v (.one .und) :: .v (.one .und) :: .v (.one .und) :: .v (.one .und) :: .v (.one .und) :: .v (.one .und) :: .v (.one .und) :: .v (.one .und) :: .v (.one .und) :: .v (.one .und) :: .v (.one .und) :: .v (.one .und) :: .v (.one .und) :: .v (.one .und) :: .v (.one .und) :: .v (.one .und) :: .v (.one .und) :: [], [.row 3 (.ints .i64 y0)]⟩
theorem fl34_0_0 (s : St) : refSt (h34_0_0 0 0 0 0) s = h34_0_0 (intS (oneA (vT (nx tund s.tmps 4)))) (intS (oneA (vT (nx tund s.tmps 5)))) (intS (nx .und (cellsB (nx .dead s.blks 0)) 0)) (intS (nx .und (cellsB (nx .dead s.blks 0)) 1)) := by kernel_rfl
def VLS34_0 {β : Type} (N : Nat) (q_spec_LeastTestSet_l0 : Nat → Int → Int → Int → Int → (Int → Int → Int → Option β) → Option β) : LSpec β := fun s K => cond (shpSt (h34_0_0 0 0 0 0) s) ((fun (v0 : Int) (v1 : Int) (v2 : Int) (v3 : Int) => q_spec_LeastTestSet_l0  N v0 v1 v2 v3 (fun y0 y1 y2 => K (.exit 0) (x34_0_0_k0  y0 y1 y2))) (intS (oneA (vT (nx tund s.tmps 4)))) (intS (oneA (vT (nx tund s.tmps 5)))) (intS (nx .und (cellsB (nx .dead s.blks 0)) 0)) (intS (nx .und (cellsB (nx .dead s.blks 0)) 1))) (none)
def LS34_0 {β : Type} (N : Nat) : LSpec β := VLS34_0 N (spec_LeastTestSet_l0 N)
theorem fl34_1_0 (s : St) : refSt (h34_1_0 0 0 0 0 []) s = h34_1_0 (intS (oneA (vT (nx tund s.tmps 4)))) (intS (oneA (vT (nx tund s.tmps 7)))) (intS (nx .und (cellsB (nx .dead s.blks 0)) 0)) (intS (nx .und (cellsB (nx .dead s.blks 0)) 1)) (rInts (rowB_ (nx .dead s.blks 1))) := by kernel_rfl
def VLS34_2 {β : Type} (N : Nat) (q_spec_LeastTestSet_l2 : Nat → Int → Int → Int → Int → List Int → (List Int → Option β) → Option β) : LSpec β := fun s K => cond (shpSt (h34_1_0 0 0 0 0 []) s) ((fun (v0 : Int) (v1 : Int) (v2 : Int) (v3 : Int) (v4 : List Int) => q_spec_LeastTestSet_l2  N v0 v1 v2 v3 v4 (fun y0 => K (.exit 2) (x34_1_0_k0  y0))) (intS (oneA (vT (nx tund s.tmps 4)))) (intS (oneA (vT (nx tund s.tmps 7)))) (intS (nx .und (cellsB (nx .dead s.blks 0)) 0)) (intS (nx .und (cellsB (nx .dead s.blks 0)) 1)) (rInts (rowB_ (nx .dead s.blks 1)))) (none)
def LS34_2 {β : Type} (N : Nat) : LSpec β := VLS34_2 N (spec_LeastTestSet_l2 N)
def VE34 {β : Type} (N : Nat) (q_spec_IsTable : (a0 : Int) → (a1 : Int) → (k : Bool → Option β) → Option β) (q_spec_l2Full : (a0 : Int) → (k : Int → Option β) → Option β) (q_spec_l2Count : (a0 : Int) → (k : Int → Option β) → Option β) (q_spec_l29Shows : (a0 : Int) → (a1 : Int) → (a2 : Int) → (k : Bool → Option β) → Option β) (q_spec_LeastTestSet_l0 : Nat → Int → Int → Int → Int → (Int → Int → Int → Option β) → Option β) (q_spec_LeastTestSet_l2 : Nat → Int → Int → Int → Int → List Int → (List Int → Option β) → Option β) : Env β := ⟨[(69, VS69 N q_spec_IsTable), (84, VS84 N q_spec_l2Full), (70, VS70 N q_spec_l2Count), (85, VS85 N q_spec_l29Shows)], [], [(0, VLS34_0 N q_spec_LeastTestSet_l0), (2, VLS34_2 N q_spec_LeastTestSet_l2)], []⟩
def E34 {β : Type} (N : Nat) : Env β := VE34 N (spec_IsTable N) (spec_l2Full N) (spec_l2Count N) (spec_l29Shows N) (spec_LeastTestSet_l0 N) (spec_LeastTestSet_l2 N)
def BV_spec_LeastTestSet_l0b {β : Type} (N : Nat) (q_spec_l2Full : (a0 : Int) → (k : Int → Option β) → Option β) (q_spec_l2Count : (a0 : Int) → (k : Int → Option β) → Option β) (q_spec_l29Shows : (a0 : Int) → (a1 : Int) → (a2 : Int) → (k : Bool → Option β) → Option β)  (v0 : Int) (v1 : Int) (v2 : Int) (v3 : Int) (rec_ : Int → Int → Int → Int → Option β) (k0 : Int → Int → Int → Option β) : Option β :=
q_spec_l2Full v2 fun r6 =>
(cond ((decide (v1 < r6)))
(q_spec_l2Count v1 fun r7 =>
q_spec_l2Count v0 fun r8 =>
(cond ((decide (r7 < r8)))
(q_spec_l29Shows v2 v3 v1 fun r9 =>
(cond r9
(rec_ v1 ((w64 (v1 + 1))) v2 v3)
(rec_ v0 ((w64 (v1 + 1))) v2 v3)))
(rec_ v0 ((w64 (v1 + 1))) v2 v3)))
(k0 v0 v2 v3))
theorem t_spec_LeastTestSet_l0b {β : Type} (N : Nat)  (v0 : Int) (v1 : Int) (v2 : Int) (v3 : Int) (rec_ : Int → Int → Int → Int → Option β) (k0 : Int → Int → Int → Option β) : spec_LeastTestSet_l0b N v0 v1 v2 v3 rec_ k0 = BV_spec_LeastTestSet_l0b N (spec_l2Full N) (spec_l2Count N) (spec_l29Shows N) v0 v1 v2 v3 rec_ k0 := by
  unfold spec_LeastTestSet_l0b BV_spec_LeastTestSet_l0b
  rfl
theorem vst34_0_0 {β : Type} (N : Nat) (q_spec_IsTable : (a0 : Int) → (a1 : Int) → (k : Bool → Option β) → Option β) (q_spec_l2Full : (a0 : Int) → (k : Int → Option β) → Option β) (q_spec_l2Count : (a0 : Int) → (k : Int → Option β) → Option β) (q_spec_l29Shows : (a0 : Int) → (a1 : Int) → (a2 : Int) → (k : Bool → Option β) → Option β) (q_spec_LeastTestSet_l0 : Nat → Int → Int → Int → Int → (Int → Int → Int → Option β) → Option β) (q_spec_LeastTestSet_l2 : Nat → Int → Int → Int → Int → List Int → (List Int → Option β) → Option β)  (v0 : Int) (v1 : Int) (v2 : Int) (v3 : Int) (rec_ : St → Option β) (K : Exit → St → Option β) :
    ev lay (VE34 N q_spec_IsTable q_spec_l2Full q_spec_l2Count q_spec_l29Shows q_spec_LeastTestSet_l0 q_spec_LeastTestSet_l2) (retMask Try.f34) (lp Try.f34 0).body (lp Try.f34 0).ex ((lp Try.f34 0).lv (retMask Try.f34)) (h34_0_0  v0 v1 v2 v3) (nextR (fun s' => rec_ (s'.tidy ((lp Try.f34 0).lv (retMask Try.f34)))) K) = BV_spec_LeastTestSet_l0b N q_spec_l2Full q_spec_l2Count q_spec_l29Shows  v0 v1 v2 v3 (fun v0 v1 v2 v3 => rec_ (h34_0_0  v0 v1 v2 v3)) (fun y0 y1 y2 => K (.exit 0) (x34_0_0_k0  y0 y1 y2)) := by kernel_rfl
theorem st34_0_0 {β : Type} (N : Nat)  (v0 : Int) (v1 : Int) (v2 : Int) (v3 : Int) (rec_ : St → Option β) (K : Exit → St → Option β) :
    ev lay (E34 N) (retMask Try.f34) (lp Try.f34 0).body (lp Try.f34 0).ex ((lp Try.f34 0).lv (retMask Try.f34)) (h34_0_0  v0 v1 v2 v3) (nextR (fun s' => rec_ (s'.tidy ((lp Try.f34 0).lv (retMask Try.f34)))) K) = spec_LeastTestSet_l0b N  v0 v1 v2 v3 (fun v0 v1 v2 v3 => rec_ (h34_0_0  v0 v1 v2 v3)) (fun y0 y1 y2 => K (.exit 0) (x34_0_0_k0  y0 y1 y2)) := (vst34_0_0 N (spec_IsTable N) (spec_l2Full N) (spec_l2Count N) (spec_l29Shows N) (spec_LeastTestSet_l0 N) (spec_LeastTestSet_l2 N) v0 v1 v2 v3 rec_ K).trans (t_spec_LeastTestSet_l0b N  v0 v1 v2 v3 (fun v0 v1 v2 v3 => rec_ (h34_0_0  v0 v1 v2 v3)) (fun y0 y1 y2 => K (.exit 0) (x34_0_0_k0  y0 y1 y2))).symm
theorem ro34_0_0 {β : Type} (N : Nat)  (K : Exit → St → Option β) : ∀ (F : Nat) (v0 : Int) (v1 : Int) (v2 : Int) (v3 : Int), (lp Try.f34 0).rounds lay (E34 N) (retMask Try.f34) F (h34_0_0  v0 v1 v2 v3) K = spec_LeastTestSet_l0 N  F v0 v1 v2 v3 (fun y0 y1 y2 => K (.exit 0) (x34_0_0_k0  y0 y1 y2)) := by
  intro F
  induction F with
  | zero => intros; rfl
  | succ F ih =>
    intros
    rw [rounds_next]
    refine (st34_0_0 N  _ _ _ _ (fun s => (lp Try.f34 0).rounds lay (E34 N) (retMask Try.f34) F s K) K).trans ?_
    simp only [ih]
    rfl
theorem lk34_0 {β : Type} (N : Nat) : lookL (E34 (β := β) N).loops (lp Try.f34 0).id = LS34_0 N := by kernel_rfl
theorem rk34_0 {β : Type} (N : Nat) : RoundsOK lay (E34 (β := β) N) (retMask Try.f34) (lp Try.f34 0) := by
  intro s K r h
  rw [lk34_0] at h
  unfold LS34_0 VLS34_0 at h
  cases hb : shpSt (h34_0_0 0 0 0 0) s with
  | true =>
    rw [hb, cond_true] at h
    exact ⟨N, by rw [← shpSt_ref hb, fl34_0_0 s]; exact (ro34_0_0 N  K N (intS (oneA (vT (nx tund s.tmps 4)))) (intS (oneA (vT (nx tund s.tmps 5)))) (intS (nx .und (cellsB (nx .dead s.blks 0)) 0)) (intS (nx .und (cellsB (nx .dead s.blks 0)) 1))).trans h⟩
  | false =>
  rw [hb, cond_false] at h
  clear hb
  cases h
def BV_spec_LeastTestSet_l2b {β : Type} (N : Nat)  (v0 : Int) (v1 : Int) (v2 : Int) (v3 : Int) (v4 : List Int) (rec_ : Int → Int → Int → Int → List Int → Option β) (k0 : List Int → Option β) : Option β :=
(gd ((decide (0 ≤ v2)))
((cond ((decide (v1 < (shlI .i64 1 v2))))
((gd ((decide (0 ≤ v1)))
((cond (((bits .and .i64 (shrI .i64 v0 v1) 1) == 1))
((gd ((decide ((v4.length + ((([] : List Int) ++ [v1])).length) * 8 ≤ 140737488355328)))
(rec_ v0 ((w64 (v1 + 1))) v2 v3 ((v4 ++ (([] : List Int) ++ [v1]))))))
(rec_ v0 ((w64 (v1 + 1))) v2 v3 v4)))))
(k0 v4))))
theorem t_spec_LeastTestSet_l2b {β : Type} (N : Nat)  (v0 : Int) (v1 : Int) (v2 : Int) (v3 : Int) (v4 : List Int) (rec_ : Int → Int → Int → Int → List Int → Option β) (k0 : List Int → Option β) : spec_LeastTestSet_l2b N v0 v1 v2 v3 v4 rec_ k0 = BV_spec_LeastTestSet_l2b N v0 v1 v2 v3 v4 rec_ k0 := by
  unfold spec_LeastTestSet_l2b BV_spec_LeastTestSet_l2b
  rfl
theorem vst34_1_0 {β : Type} (N : Nat) (q_spec_IsTable : (a0 : Int) → (a1 : Int) → (k : Bool → Option β) → Option β) (q_spec_l2Full : (a0 : Int) → (k : Int → Option β) → Option β) (q_spec_l2Count : (a0 : Int) → (k : Int → Option β) → Option β) (q_spec_l29Shows : (a0 : Int) → (a1 : Int) → (a2 : Int) → (k : Bool → Option β) → Option β) (q_spec_LeastTestSet_l0 : Nat → Int → Int → Int → Int → (Int → Int → Int → Option β) → Option β) (q_spec_LeastTestSet_l2 : Nat → Int → Int → Int → Int → List Int → (List Int → Option β) → Option β)  (v0 : Int) (v1 : Int) (v2 : Int) (v3 : Int) (v4 : List Int) (rec_ : St → Option β) (K : Exit → St → Option β) :
    ev lay (VE34 N q_spec_IsTable q_spec_l2Full q_spec_l2Count q_spec_l29Shows q_spec_LeastTestSet_l0 q_spec_LeastTestSet_l2) (retMask Try.f34) (lp Try.f34 1).body (lp Try.f34 1).ex ((lp Try.f34 1).lv (retMask Try.f34)) (h34_1_0  v0 v1 v2 v3 v4) (nextR (fun s' => rec_ (s'.tidy ((lp Try.f34 1).lv (retMask Try.f34)))) K) = BV_spec_LeastTestSet_l2b N  v0 v1 v2 v3 v4 (fun v0 v1 v2 v3 v4 => rec_ (h34_1_0  v0 v1 v2 v3 v4)) (fun y0 => K (.exit 2) (x34_1_0_k0  y0)) := by kernel_rfl
theorem st34_1_0 {β : Type} (N : Nat)  (v0 : Int) (v1 : Int) (v2 : Int) (v3 : Int) (v4 : List Int) (rec_ : St → Option β) (K : Exit → St → Option β) :
    ev lay (E34 N) (retMask Try.f34) (lp Try.f34 1).body (lp Try.f34 1).ex ((lp Try.f34 1).lv (retMask Try.f34)) (h34_1_0  v0 v1 v2 v3 v4) (nextR (fun s' => rec_ (s'.tidy ((lp Try.f34 1).lv (retMask Try.f34)))) K) = spec_LeastTestSet_l2b N  v0 v1 v2 v3 v4 (fun v0 v1 v2 v3 v4 => rec_ (h34_1_0  v0 v1 v2 v3 v4)) (fun y0 => K (.exit 2) (x34_1_0_k0  y0)) := (vst34_1_0 N (spec_IsTable N) (spec_l2Full N) (spec_l2Count N) (spec_l29Shows N) (spec_LeastTestSet_l0 N) (spec_LeastTestSet_l2 N) v0 v1 v2 v3 v4 rec_ K).trans (t_spec_LeastTestSet_l2b N  v0 v1 v2 v3 v4 (fun v0 v1 v2 v3 v4 => rec_ (h34_1_0  v0 v1 v2 v3 v4)) (fun y0 => K (.exit 2) (x34_1_0_k0  y0))).symm
theorem ro34_1_0 {β : Type} (N : Nat)  (K : Exit → St → Option β) : ∀ (F : Nat) (v0 : Int) (v1 : Int) (v2 : Int) (v3 : Int) (v4 : List Int), (lp Try.f34 1).rounds lay (E34 N) (retMask Try.f34) F (h34_1_0  v0 v1 v2 v3 v4) K = spec_LeastTestSet_l2 N  F v0 v1 v2 v3 v4 (fun y0 => K (.exit 2) (x34_1_0_k0  y0)) := by
  intro F
  induction F with
  | zero => intros; rfl
  | succ F ih =>
    intros
    rw [rounds_next]
    refine (st34_1_0 N  _ _ _ _ _ (fun s => (lp Try.f34 1).rounds lay (E34 N) (retMask Try.f34) F s K) K).trans ?_
    simp only [ih]
    rfl
theorem lk34_2 {β : Type} (N : Nat) : lookL (E34 (β := β) N).loops (lp Try.f34 1).id = LS34_2 N := by kernel_rfl
theorem rk34_2 {β : Type} (N : Nat) : RoundsOK lay (E34 (β := β) N) (retMask Try.f34) (lp Try.f34 1) := by
  intro s K r h
  rw [lk34_2] at h
  unfold LS34_2 VLS34_2 at h
  cases hb : shpSt (h34_1_0 0 0 0 0 []) s with
  | true =>
    rw [hb, cond_true] at h
    exact ⟨N, by rw [← shpSt_ref hb, fl34_1_0 s]; exact (ro34_1_0 N  K N (intS (oneA (vT (nx tund s.tmps 4)))) (intS (oneA (vT (nx tund s.tmps 7)))) (intS (nx .und (cellsB (nx .dead s.blks 0)) 0)) (intS (nx .und (cellsB (nx .dead s.blks 0)) 1)) (rInts (rowB_ (nx .dead s.blks 1)))).trans h⟩
  | false =>
  rw [hb, cond_false] at h
  clear hb
  cases h
def BV_spec_LeastTestSet {β : Type} (N : Nat) (q_spec_IsTable : (a0 : Int) → (a1 : Int) → (k : Bool → Option β) → Option β) (q_spec_l2Full : (a0 : Int) → (k : Int → Option β) → Option β) (q_spec_LeastTestSet_l0 : Nat → Int → Int → Int → Int → (Int → Int → Int → Option β) → Option β) (q_spec_LeastTestSet_l2 : Nat → Int → Int → Int → Int → List Int → (List Int → Option β) → Option β) (a0 : Int) (a1 : Int) (k : List Int → Bool → Option β) : Option β :=
q_spec_IsTable a0 a1 fun r4 =>
(cond (!r4)
(k (([] : List Int)) false)
((cond ((decide (a0 > 3)))
(k (([] : List Int)) false)
(q_spec_l2Full a0 fun r5 =>
q_spec_LeastTestSet_l0  N r5 0 a0 a1 (fun e10_0 e10_1 e10_2 =>
q_spec_LeastTestSet_l2  N e10_0 0 e10_1 e10_2 (([] : List Int)) (fun e11_0 =>
k e11_0 true))))))
theorem t_spec_LeastTestSet {β : Type} (N : Nat) (a0 : Int) (a1 : Int) (k : List Int → Bool → Option β) : spec_LeastTestSet N a0 a1 k = BV_spec_LeastTestSet N (spec_IsTable N) (spec_l2Full N) (spec_LeastTestSet_l0 N) (spec_LeastTestSet_l2 N) a0 a1 k := by
  unfold spec_LeastTestSet BV_spec_LeastTestSet
  rfl
theorem ve34_0 {β : Type} (N : Nat) (q_spec_IsTable : (a0 : Int) → (a1 : Int) → (k : Bool → Option β) → Option β) (q_spec_l2Full : (a0 : Int) → (k : Int → Option β) → Option β) (q_spec_l2Count : (a0 : Int) → (k : Int → Option β) → Option β) (q_spec_l29Shows : (a0 : Int) → (a1 : Int) → (a2 : Int) → (k : Bool → Option β) → Option β) (q_spec_LeastTestSet_l0 : Nat → Int → Int → Int → Int → (Int → Int → Int → Option β) → Option β) (q_spec_LeastTestSet_l2 : Nat → Int → Int → Int → Int → List Int → (List Int → Option β) → Option β)  (a0 : Int) (a1 : Int) (K : TV → Option β) : evFn lay (VE34 N q_spec_IsTable q_spec_l2Full q_spec_l2Count q_spec_l29Shows q_spec_LeastTestSet_l0 q_spec_LeastTestSet_l2) Try.f34 [.v (.agg [.int .i64 a0, .int .i64 a1])] K = BV_spec_LeastTestSet N q_spec_IsTable q_spec_l2Full q_spec_LeastTestSet_l0 q_spec_LeastTestSet_l2 a0 a1 (fun z2 z3 => K (.tup [.one (.sl 3 (.ints .i64 z2)), .one (.bool z3)])) := by kernel_rfl
theorem e34_0 {β : Type} (N : Nat)  (a0 : Int) (a1 : Int) (K : TV → Option β) : evFn lay (E34 N) Try.f34 [.v (.agg [.int .i64 a0, .int .i64 a1])] K = spec_LeastTestSet N a0 a1 (fun z2 z3 => K (.tup [.one (.sl 3 (.ints .i64 z2)), .one (.bool z3)])) := (ve34_0 N (spec_IsTable N) (spec_l2Full N) (spec_l2Count N) (spec_l29Shows N) (spec_LeastTestSet_l0 N) (spec_LeastTestSet_l2 N) a0 a1 K).trans (t_spec_LeastTestSet N a0 a1 (fun z2 z3 => K (.tup [.one (.sl 3 (.ints .i64 z2)), .one (.bool z3)]))).symm
theorem o34 {β : Type} (N : Nat) : SpecOK (β := β) Try.prog 34 (S34 N) := by
  refine spec_of lay_ok mixed (E := E34 N) (specs_loops (specs_cons (o69 N) (specs_cons (o84 N) (specs_cons (o70 N) (specs_cons (o85 N) specs_nil))))) muts_nil gs_nil Try.func34 (by kernel_rfl) 2 (by kernel_rfl) ⟨⟨trivial, rk34_0 N⟩, rk34_2 N⟩ fun args K r h => ?_
  unfold S34 VS34 at h
  split at h
  · exact (e34_0 N _ _ _).trans h
  · cases h
def VS87 {β : Type} (N : Nat) (q_impl_IsTestSet_1 : (a0 : Int) → (c0 : Int) → (c1 : Int) → (k : Bool → Option β) → Option β) : Rv.Spec β := fun args K => match args with
  | [.v (.one (.int .i64 a0)), .v (.one (.cref [.int .i64 c0, .int .i64 c1] 0))] => q_impl_IsTestSet_1 a0 c0 c1 (fun z1 => K (.v (.one (.bool z1))))
  | _ => none
def S87 {β : Type} (N : Nat) : Rv.Spec β := VS87 N (impl_IsTestSet_1 N)
def VE87 {β : Type} (N : Nat) (q_impl_isInput : (a0 : Int) → (a1 : Int) → (k : Bool → Option β) → Option β) : Env β := ⟨[(67, VS67 N q_impl_isInput)], [], [], []⟩
def E87 {β : Type} (N : Nat) : Env β := VE87 N (impl_isInput N)
def BV_impl_IsTestSet_1 {β : Type} (N : Nat) (q_impl_isInput : (a0 : Int) → (a1 : Int) → (k : Bool → Option β) → Option β) (a0 : Int) (c0 : Int) (c1 : Int) (k : Bool → Option β) : Option β :=
q_impl_isInput c0 a0 fun r2 =>
k (!r2)
theorem t_impl_IsTestSet_1 {β : Type} (N : Nat) (a0 : Int) (c0 : Int) (c1 : Int) (k : Bool → Option β) : impl_IsTestSet_1 N a0 c0 c1 k = BV_impl_IsTestSet_1 N (impl_isInput N) a0 c0 c1 k := by
  unfold impl_IsTestSet_1 BV_impl_IsTestSet_1
  rfl
theorem ve87_0 {β : Type} (N : Nat) (q_impl_isInput : (a0 : Int) → (a1 : Int) → (k : Bool → Option β) → Option β)  (a0 : Int) (c0 : Int) (c1 : Int) (K : TV → Option β) : evFn lay (VE87 N q_impl_isInput) Try.f87 [.v (.one (.int .i64 a0)), .v (.one (.cref [.int .i64 c0, .int .i64 c1] 0))] K = BV_impl_IsTestSet_1 N q_impl_isInput a0 c0 c1 (fun z1 => K (.v (.one (.bool z1)))) := by kernel_rfl
theorem e87_0 {β : Type} (N : Nat)  (a0 : Int) (c0 : Int) (c1 : Int) (K : TV → Option β) : evFn lay (E87 N) Try.f87 [.v (.one (.int .i64 a0)), .v (.one (.cref [.int .i64 c0, .int .i64 c1] 0))] K = impl_IsTestSet_1 N a0 c0 c1 (fun z1 => K (.v (.one (.bool z1)))) := (ve87_0 N (impl_isInput N) a0 c0 c1 K).trans (t_impl_IsTestSet_1 N a0 c0 c1 (fun z1 => K (.v (.one (.bool z1))))).symm
theorem o87 {β : Type} (N : Nat) : SpecOK (β := β) Try.prog 87 (S87 N) := by
  refine spec_of lay_ok mixed (E := E87 N) (specs_loops (specs_cons (o67 N) specs_nil)) muts_nil gs_nil Try.func87 (by kernel_rfl) 0 (by kernel_rfl) trivial fun args K r h => ?_
  unfold S87 VS87 at h
  split at h
  · exact (e87_0 N _ _ _ _).trans h
  · cases h
def VS116 {β : Type} (N : Nat) (q_slices_IndexFunc_Sint_int : (a0 : List Int) → (a1 : (Int → (Bool → Option β) → Option β)) → (k : Int → Option β) → Option β) (q_impl_IsTestSet_1 : (a0 : Int) → (c0 : Int) → (c1 : Int) → (k : Bool → Option β) → Option β) : Rv.Spec β := fun args K => match args with
  | [.v (.one (.sl 3 (.ints .i64 a0))), .v (.one (.dfn 87 [([.int .i64 q0, .int .i64 q1], 0)]))] => q_slices_IndexFunc_Sint_int a0 (fun x0 k => q_impl_IsTestSet_1 x0 q0 q1 k) (fun z2 => K (.v (.one (.int .i64 z2))))
  | _ => none
def S116 {β : Type} (N : Nat) : Rv.Spec β := VS116 N (slices_IndexFunc_Sint_int N) (impl_IsTestSet_1 N)
def h116_0_0 (q0 : Int) (q1 : Int) (v0 : List Int) (v1 : Int) (v2 : Int) : St := ⟨.v (.one (.sl 3 (.ints .i64 v0))) :: .v (.one (.dfn 87 [([.int .i64 q0, .int .i64 q1], 0)])) :: .v (.one .und) :: .v (.one .und) :: .v (.one .und) :: .v (.one .und) :: .v (.one .und) :: .v (.one (.int .i64 v1)) :: .v (.one (.int .i64 v2)) :: .v (.one .und) :: .v (.one .und) :: .v (.one .und) :: .v (.one .und) :: .v (.one .und) :: .v (.one .und) :: .v (.one .und) :: .v (.one .und) :: .v (.one .und) :: .v (.one .und) :: [], []⟩
def x116_0_0_k0 (q0 : Int) (q1 : Int) (y0 : Int) : St := ⟨.v (.one .und) :: .v (.one .und) :: .v (.one .und) :: .v (.one .und) :: .v (.one (.int .i64 y0)) :: .v (.one .und) :: .v (.one .und) :: .v (.one .und) :: .v (.one .und) :: .v (.one .und) :: .v (.one .und) :: .v (.one .und) :: .v (.one .und) :: .v (.one .und) :: .v (.one .und) :: .v (.one .und) :: .v (.one .und) :: .v (.one .und) :: .v (.one .und) :: [], []⟩
def x116_0_0_k1 (q0 : Int) (q1 : Int)  : St := ⟨.v (.one .und) :: .v (.one .und) :: .v (.one .und) :: .v (.one .und) :: .v (.one .und) :: .v (.one .und) :: .v (.one .und) :: .v (.one .und) :: .v (.one .und) :: .v (.one .und) :: .v (.one .und) :: .v (.one .und) :: .v (.one .und) :: .v (.one .und) :: .v (.one .und) :: .v (.one .und) :: .v (.one .und) :: .v (.one .und) :: .v (.one .und) :: [], []⟩
theorem fl116_0_0 (s : St) : refSt (h116_0_0 0 0 [] 0 0) s = h116_0_0 (intF (nx .no (nx ([], 0) (dfnS (oneA (vT (nx tund s.tmps 1)))) 0).1 0)) (intF (nx .no (nx ([], 0) (dfnS (oneA (vT (nx tund s.tmps 1)))) 0).1 1)) (rInts (rowV (oneA (vT (nx tund s.tmps 0))))) (intS (oneA (vT (nx tund s.tmps 7)))) (intS (oneA (vT (nx tund s.tmps 8)))) := by kernel_rfl
def VLS116_0 {β : Type} (N : Nat) (q_slices_IndexFunc_Sint_int_l0 : (a1 : (Int → (Bool → Option β) → Option β)) → Nat → List Int → Int → Int → (Int → Option β) → (Option β) → Option β) (q_impl_IsTestSet_1 : (a0 : Int) → (c0 : Int) → (c1 : Int) → (k : Bool → Option β) → Option β) : LSpec β := fun s K => cond (shpSt (h116_0_0 0 0 [] 0 0) s) ((fun (q0 : Int) (q1 : Int) (v0 : List Int) (v1 : Int) (v2 : Int) => q_slices_IndexFunc_Sint_int_l0 (fun x0 k => q_impl_IsTestSet_1 x0 q0 q1 k) N v0 v1 v2 (fun y0 => K .ret (x116_0_0_k0 q0 q1 y0)) (K (.exit 0) (x116_0_0_k1 q0 q1 ))) (intF (nx .no (nx ([], 0) (dfnS (oneA (vT (nx tund s.tmps 1)))) 0).1 0)) (intF (nx .no (nx ([], 0) (dfnS (oneA (vT (nx tund s.tmps 1)))) 0).1 1)) (rInts (rowV (oneA (vT (nx tund s.tmps 0))))) (intS (oneA (vT (nx tund s.tmps 7)))) (intS (oneA (vT (nx tund s.tmps 8))))) (none)
def LS116_0 {β : Type} (N : Nat) : LSpec β := VLS116_0 N (slices_IndexFunc_Sint_int_l0 N) (impl_IsTestSet_1 N)
def VE116 {β : Type} (N : Nat) (q_impl_IsTestSet_1 : (a0 : Int) → (c0 : Int) → (c1 : Int) → (k : Bool → Option β) → Option β) (q_slices_IndexFunc_Sint_int_l0 : (a1 : (Int → (Bool → Option β) → Option β)) → Nat → List Int → Int → Int → (Int → Option β) → (Option β) → Option β) : Env β := ⟨[(87, VS87 N q_impl_IsTestSet_1)], [], [(0, VLS116_0 N q_slices_IndexFunc_Sint_int_l0 q_impl_IsTestSet_1)], []⟩
def E116 {β : Type} (N : Nat) : Env β := VE116 N (impl_IsTestSet_1 N) (slices_IndexFunc_Sint_int_l0 N)
def BV_slices_IndexFunc_Sint_int_l0b {β : Type} (N : Nat) (a1 : (Int → (Bool → Option β) → Option β)) (v0 : List Int) (v1 : Int) (v2 : Int) (rec_ : List Int → Int → Int → Option β) (k0 : Int → Option β) (k1 : Option β) : Option β :=
(cond ((decide (v2 < v1)))
((gd ((decide (0 ≤ v2)))
((gd ((decide (v2 < (v0.length : Int))))
(a1 ((rd 0 v0 v2)) fun r3 =>
(cond r3
(k0 v2)
(rec_ v0 v1 ((w64 (v2 + 1))))))))))
(k1 ))
theorem t_slices_IndexFunc_Sint_int_l0b {β : Type} (N : Nat) (a1 : (Int → (Bool → Option β) → Option β)) (v0 : List Int) (v1 : Int) (v2 : Int) (rec_ : List Int → Int → Int → Option β) (k0 : Int → Option β) (k1 : Option β) : slices_IndexFunc_Sint_int_l0b N a1 v0 v1 v2 rec_ k0 k1 = BV_slices_IndexFunc_Sint_int_l0b N a1 v0 v1 v2 rec_ k0 k1 := by
  unfold slices_IndexFunc_Sint_int_l0b BV_slices_IndexFunc_Sint_int_l0b
  rfl
theorem vst116_0_0 {β : Type} (N : Nat) (q_impl_IsTestSet_1 : (a0 : Int) → (c0 : Int) → (c1 : Int) → (k : Bool → Option β) → Option β) (q_slices_IndexFunc_Sint_int_l0 : (a1 : (Int → (Bool → Option β) → Option β)) → Nat → List Int → Int → Int → (Int → Option β) → (Option β) → Option β) (q0 : Int) (q1 : Int) (v0 : List Int) (v1 : Int) (v2 : Int) (rec_ : St → Option β) (K : Exit → St → Option β) :
    ev lay (VE116 N q_impl_IsTestSet_1 q_slices_IndexFunc_Sint_int_l0) (retMask Try.f116) (lp Try.f116 0).body (lp Try.f116 0).ex ((lp Try.f116 0).lv (retMask Try.f116)) (h116_0_0 q0 q1 v0 v1 v2) (nextR (fun s' => rec_ (s'.tidy ((lp Try.f116 0).lv (retMask Try.f116)))) K) = BV_slices_IndexFunc_Sint_int_l0b N (fun x0 k => q_impl_IsTestSet_1 x0 q0 q1 k) v0 v1 v2 (fun v0 v1 v2 => rec_ (h116_0_0 q0 q1 v0 v1 v2)) (fun y0 => K .ret (x116_0_0_k0 q0 q1 y0)) (K (.exit 0) (x116_0_0_k1 q0 q1 )) := by kernel_rfl
theorem st116_0_0 {β : Type} (N : Nat) (q0 : Int) (q1 : Int) (v0 : List Int) (v1 : Int) (v2 : Int) (rec_ : St → Option β) (K : Exit → St → Option β) :
    ev lay (E116 N) (retMask Try.f116) (lp Try.f116 0).body (lp Try.f116 0).ex ((lp Try.f116 0).lv (retMask Try.f116)) (h116_0_0 q0 q1 v0 v1 v2) (nextR (fun s' => rec_ (s'.tidy ((lp Try.f116 0).lv (retMask Try.f116)))) K) = slices_IndexFunc_Sint_int_l0b N (fun x0 k => impl_IsTestSet_1 N x0 q0 q1 k) v0 v1 v2 (fun v0 v1 v2 => rec_ (h116_0_0 q0 q1 v0 v1 v2)) (fun y0 => K .ret (x116_0_0_k0 q0 q1 y0)) (K (.exit 0) (x116_0_0_k1 q0 q1 )) := (vst116_0_0 N (impl_IsTestSet_1 N) (slices_IndexFunc_Sint_int_l0 N) q0 q1 v0 v1 v2 rec_ K).trans (t_slices_IndexFunc_Sint_int_l0b N (fun x0 k => impl_IsTestSet_1 N x0 q0 q1 k) v0 v1 v2 (fun v0 v1 v2 => rec_ (h116_0_0 q0 q1 v0 v1 v2)) (fun y0 => K .ret (x116_0_0_k0 q0 q1 y0)) (K (.exit 0) (x116_0_0_k1 q0 q1 ))).symm
theorem ro116_0_0 {β : Type} (N : Nat) (q0 : Int) (q1 : Int) (K : Exit → St → Option β) : ∀ (F : Nat) (v0 : List Int) (v1 : Int) (v2 : Int), (lp Try.f116 0).rounds lay (E116 N) (retMask Try.f116) F (h116_0_0 q0 q1 v0 v1 v2) K = slices_IndexFunc_Sint_int_l0 N (fun x0 k => impl_IsTestSet_1 N x0 q0 q1 k) F v0 v1 v2 (fun y0 => K .ret (x116_0_0_k0 q0 q1 y0)) (K (.exit 0) (x116_0_0_k1 q0 q1 )) := by
  intro F
  induction F with
  | zero => intros; rfl
  | succ F ih =>
    intros
    rw [rounds_next]
    refine (st116_0_0 N q0 q1 _ _ _ (fun s => (lp Try.f116 0).rounds lay (E116 N) (retMask Try.f116) F s K) K).trans ?_
    simp only [ih]
    rfl
theorem lk116_0 {β : Type} (N : Nat) : lookL (E116 (β := β) N).loops (lp Try.f116 0).id = LS116_0 N := by kernel_rfl
theorem rk116_0 {β : Type} (N : Nat) : RoundsOK lay (E116 (β := β) N) (retMask Try.f116) (lp Try.f116 0) := by
  intro s K r h
  rw [lk116_0] at h
  unfold LS116_0 VLS116_0 at h
  cases hb : shpSt (h116_0_0 0 0 [] 0 0) s with
  | true =>
    rw [hb, cond_true] at h
    exact ⟨N, by rw [← shpSt_ref hb, fl116_0_0 s]; exact (ro116_0_0 N (intF (nx .no (nx ([], 0) (dfnS (oneA (vT (nx tund s.tmps 1)))) 0).1 0)) (intF (nx .no (nx ([], 0) (dfnS (oneA (vT (nx tund s.tmps 1)))) 0).1 1)) K N (rInts (rowV (oneA (vT (nx tund s.tmps 0))))) (intS (oneA (vT (nx tund s.tmps 7)))) (intS (oneA (vT (nx tund s.tmps 8))))).trans h⟩
  | false =>
  rw [hb, cond_false] at h
  clear hb
  cases h
def BV_slices_IndexFunc_Sint_int {β : Type} (N : Nat) (q_slices_IndexFunc_Sint_int_l0 : (a1 : (Int → (Bool → Option β) → Option β)) → Nat → List Int → Int → Int → (Int → Option β) → (Option β) → Option β) (a0 : List Int) (a1 : (Int → (Bool → Option β) → Option β)) (k : Int → Option β) : Option β :=
q_slices_IndexFunc_Sint_int_l0 a1 N a0 ((a0.length : Int)) 0 (fun e4_0 =>
k e4_0) (k (-1))
theorem t_slices_IndexFunc_Sint_int {β : Type} (N : Nat) (a0 : List Int) (a1 : (Int → (Bool → Option β) → Option β)) (k : Int → Option β) : slices_IndexFunc_Sint_int N a0 a1 k = BV_slices_IndexFunc_Sint_int N (slices_IndexFunc_Sint_int_l0 N) a0 a1 k := by
  unfold slices_IndexFunc_Sint_int BV_slices_IndexFunc_Sint_int
  rfl
theorem ve116_0 {β : Type} (N : Nat) (q_impl_IsTestSet_1 : (a0 : Int) → (c0 : Int) → (c1 : Int) → (k : Bool → Option β) → Option β) (q_slices_IndexFunc_Sint_int_l0 : (a1 : (Int → (Bool → Option β) → Option β)) → Nat → List Int → Int → Int → (Int → Option β) → (Option β) → Option β) (q0 : Int) (q1 : Int) (a0 : List Int) (K : TV → Option β) : evFn lay (VE116 N q_impl_IsTestSet_1 q_slices_IndexFunc_Sint_int_l0) Try.f116 [.v (.one (.sl 3 (.ints .i64 a0))), .v (.one (.dfn 87 [([.int .i64 q0, .int .i64 q1], 0)]))] K = BV_slices_IndexFunc_Sint_int N q_slices_IndexFunc_Sint_int_l0 a0 (fun x0 k => q_impl_IsTestSet_1 x0 q0 q1 k) (fun z2 => K (.v (.one (.int .i64 z2)))) := by kernel_rfl
theorem e116_0 {β : Type} (N : Nat) (q0 : Int) (q1 : Int) (a0 : List Int) (K : TV → Option β) : evFn lay (E116 N) Try.f116 [.v (.one (.sl 3 (.ints .i64 a0))), .v (.one (.dfn 87 [([.int .i64 q0, .int .i64 q1], 0)]))] K = slices_IndexFunc_Sint_int N a0 (fun x0 k => impl_IsTestSet_1 N x0 q0 q1 k) (fun z2 => K (.v (.one (.int .i64 z2)))) := (ve116_0 N (impl_IsTestSet_1 N) (slices_IndexFunc_Sint_int_l0 N) q0 q1 a0 K).trans (t_slices_IndexFunc_Sint_int N a0 (fun x0 k => impl_IsTestSet_1 N x0 q0 q1 k) (fun z2 => K (.v (.one (.int .i64 z2))))).symm
theorem o116 {β : Type} (N : Nat) : SpecOK (β := β) Try.prog 116 (S116 N) := by
  refine spec_of lay_ok mixed (E := E116 N) (specs_loops (specs_cons (o87 N) specs_nil)) muts_nil gs_nil Try.func116 (by kernel_rfl) 1 (by kernel_rfl) ⟨trivial, rk116_0 N⟩ fun args K r h => ?_
  unfold S116 VS116 at h
  split at h
  · exact (e116_0 N _ _ _ _).trans h
  · cases h
def VS86 {β : Type} (N : Nat) (q_slices_ContainsFunc_Sint_int : (a0 : List Int) → (a1 : (Int → (Bool → Option β) → Option β)) → (k : Bool → Option β) → Option β) (q_impl_IsTestSet_1 : (a0 : Int) → (c0 : Int) → (c1 : Int) → (k : Bool → Option β) → Option β) : Rv.Spec β := fun args K => match args with
  | [.v (.one (.sl 3 (.ints .i64 a0))), .v (.one (.dfn 87 [([.int .i64 q0, .int .i64 q1], 0)]))] => q_slices_ContainsFunc_Sint_int a0 (fun x0 k => q_impl_IsTestSet_1 x0 q0 q1 k) (fun z2 => K (.v (.one (.bool z2))))
  | _ => none
def S86 {β : Type} (N : Nat) : Rv.Spec β := VS86 N (slices_ContainsFunc_Sint_int N) (impl_IsTestSet_1 N)
def VE86 {β : Type} (N : Nat) (q_slices_IndexFunc_Sint_int : (a0 : List Int) → (a1 : (Int → (Bool → Option β) → Option β)) → (k : Int → Option β) → Option β) (q_impl_IsTestSet_1 : (a0 : Int) → (c0 : Int) → (c1 : Int) → (k : Bool → Option β) → Option β) : Env β := ⟨[(116, VS116 N q_slices_IndexFunc_Sint_int q_impl_IsTestSet_1), (87, VS87 N q_impl_IsTestSet_1)], [], [], []⟩
def E86 {β : Type} (N : Nat) : Env β := VE86 N (slices_IndexFunc_Sint_int N) (impl_IsTestSet_1 N)
def BV_slices_ContainsFunc_Sint_int {β : Type} (N : Nat) (q_slices_IndexFunc_Sint_int : (a0 : List Int) → (a1 : (Int → (Bool → Option β) → Option β)) → (k : Int → Option β) → Option β) (a0 : List Int) (a1 : (Int → (Bool → Option β) → Option β)) (k : Bool → Option β) : Option β :=
q_slices_IndexFunc_Sint_int a0 a1 fun r3 =>
k ((decide (r3 ≥ 0)))
theorem t_slices_ContainsFunc_Sint_int {β : Type} (N : Nat) (a0 : List Int) (a1 : (Int → (Bool → Option β) → Option β)) (k : Bool → Option β) : slices_ContainsFunc_Sint_int N a0 a1 k = BV_slices_ContainsFunc_Sint_int N (slices_IndexFunc_Sint_int N) a0 a1 k := by
  unfold slices_ContainsFunc_Sint_int BV_slices_ContainsFunc_Sint_int
  rfl
theorem ve86_0 {β : Type} (N : Nat) (q_slices_IndexFunc_Sint_int : (a0 : List Int) → (a1 : (Int → (Bool → Option β) → Option β)) → (k : Int → Option β) → Option β) (q_impl_IsTestSet_1 : (a0 : Int) → (c0 : Int) → (c1 : Int) → (k : Bool → Option β) → Option β) (q0 : Int) (q1 : Int) (a0 : List Int) (K : TV → Option β) : evFn lay (VE86 N q_slices_IndexFunc_Sint_int q_impl_IsTestSet_1) Try.f86 [.v (.one (.sl 3 (.ints .i64 a0))), .v (.one (.dfn 87 [([.int .i64 q0, .int .i64 q1], 0)]))] K = BV_slices_ContainsFunc_Sint_int N q_slices_IndexFunc_Sint_int a0 (fun x0 k => q_impl_IsTestSet_1 x0 q0 q1 k) (fun z2 => K (.v (.one (.bool z2)))) := by kernel_rfl
theorem e86_0 {β : Type} (N : Nat) (q0 : Int) (q1 : Int) (a0 : List Int) (K : TV → Option β) : evFn lay (E86 N) Try.f86 [.v (.one (.sl 3 (.ints .i64 a0))), .v (.one (.dfn 87 [([.int .i64 q0, .int .i64 q1], 0)]))] K = slices_ContainsFunc_Sint_int N a0 (fun x0 k => impl_IsTestSet_1 N x0 q0 q1 k) (fun z2 => K (.v (.one (.bool z2)))) := (ve86_0 N (slices_IndexFunc_Sint_int N) (impl_IsTestSet_1 N) q0 q1 a0 K).trans (t_slices_ContainsFunc_Sint_int N a0 (fun x0 k => impl_IsTestSet_1 N x0 q0 q1 k) (fun z2 => K (.v (.one (.bool z2))))).symm
theorem o86 {β : Type} (N : Nat) : SpecOK (β := β) Try.prog 86 (S86 N) := by
  refine spec_of lay_ok mixed (E := E86 N) (specs_loops (specs_cons (o116 N) (specs_cons (o87 N) specs_nil))) muts_nil gs_nil Try.func86 (by kernel_rfl) 0 (by kernel_rfl) trivial fun args K r h => ?_
  unfold S86 VS86 at h
  split at h
  · exact (e86_0 N _ _ _ _).trans h
  · cases h
def VS35 {β : Type} (N : Nat) (q_impl_IsTestSet : (a0 : Int) → (a1 : Int) → (a2 : List Int) → (k : Bool → Option β) → Option β) : Rv.Spec β := fun args K => match args with
  | [.v (.agg [.int .i64 a0, .int .i64 a1]), .v (.one (.sl 3 (.ints .i64 a2)))] => q_impl_IsTestSet a0 a1 a2 (fun z3 => K (.v (.one (.bool z3))))
  | _ => none
def S35 {β : Type} (N : Nat) : Rv.Spec β := VS35 N (impl_IsTestSet N)
def h35_0_0  (v0 : Int) (v1 : List Int) (v2 : Int) (v3 : Int) (v4 : Int) (v5 : Int) : St := ⟨.v (.one .und) :: .v (.one .und) :: .v (.one (.ptr 0 0)) :: .v (.one .und) :: .v (.one .und) :: .v (.one (.int .i64 v0)) :: .v (.one .und) :: .v (.one .und) :: .v (.one .und) :: .v (.one .und) :: .v (.one .und) :: .v (.one .und) :: .v (.one .und) :: .v (.one .und) :: .v (.one .und) :: .v (.one .und) :: .v (.one (.sl 3 (.ints .i64 v1))) :: .v (.one (.int .i64 v2)) :: .v (.one (.int .i64 v3)) :: .v (.one .und) :: .v (.one .und) :: .v (.one .und) :: .v (.one .und) :: .v (.one .und) :: .v (.one .und) :: .v (.one .und) :: .v (.one .und) :: .v (.one .und) :: .v (.one .und) :: .v (.one .und) :: [], [.cells 25 [.int .i64 v4, .int .i64 v5]]⟩
def x35_0_0_k0  (y0 : Int) (y1 : Int) (y2 : Int) : St := ⟨.v (.one .und) :: .v (.one .und) :: .v (.one (.ptr 0 0)) :: .v (.one .und) :: .v (.one .und) :: .v (.one (.int .i64 y0)) :: .v (.one .und) :: .v (.one .und) :: .v (.one .und) :: .v (.one .und) :: .v (.one .und) :: .v (.one .und) :: .v (.one .und) :: .v (.one .und) :: .v (.one .und) :: .v (.one .und) :: .v (.one .und) :: .v (.one .und) :: .v (.one .und) :: .v (.one .und) :: .v (.one .und) :: .v (.one .und) :: .v (.one .und) :: .v (.one .und) :: .v (.one .und) :: .v (.one .und) :: .v (.one .und) :: .v (.one .und) :: .v (.one .und) :: .v (.one .und) :: [], [.cells 25 [.int .i64 y1, .int .i64 y2]]⟩
theorem fl35_0_0 (s : St) : refSt (h35_0_0 0 [] 0 0 0 0) s = h35_0_0 (intS (oneA (vT (nx tund s.tmps 5)))) (rInts (rowV (oneA (vT (nx tund s.tmps 16))))) (intS (oneA (vT (nx tund s.tmps 17)))) (intS (oneA (vT (nx tund s.tmps 18)))) (intS (nx .und (cellsB (nx .dead s.blks 0)) 0)) (intS (nx .und (cellsB (nx .dead s.blks 0)) 1)) := by kernel_rfl
def VLS35_0 {β : Type} (N : Nat) (q_impl_IsTestSet_l0 : Nat → Int → List Int → Int → Int → Int → Int → (Int → Int → Int → Option β) → Option β) : LSpec β := fun s K => cond (shpSt (h35_0_0 0 [] 0 0 0 0) s) ((fun (v0 : Int) (v1 : List Int) (v2 : Int) (v3 : Int) (v4 : Int) (v5 : Int) => q_impl_IsTestSet_l0  N v0 v1 v2 v3 v4 v5 (fun y0 y1 y2 => K (.exit 0) (x35_0_0_k0  y0 y1 y2))) (intS (oneA (vT (nx tund s.tmps 5)))) (rInts (rowV (oneA (vT (nx tund s.tmps 16))))) (intS (oneA (vT (nx tund s.tmps 17)))) (intS (oneA (vT (nx tund s.tmps 18)))) (intS (nx .und (cellsB (nx .dead s.blks 0)) 0)) (intS (nx .und (cellsB (nx .dead s.blks 0)) 1))) (none)
def LS35_0 {β : Type} (N : Nat) : LSpec β := VLS35_0 N (impl_IsTestSet_l0 N)
def VE35 {β : Type} (N : Nat) (q_impl_IsTable : (a0 : Int) → (a1 : Int) → (k : Bool → Option β) → Option β) (q_slices_ContainsFunc_Sint_int : (a0 : List Int) → (a1 : (Int → (Bool → Option β) → Option β)) → (k : Bool → Option β) → Option β) (q_impl_IsTestSet_1 : (a0 : Int) → (c0 : Int) → (c1 : Int) → (k : Bool → Option β) → Option β) (q_impl_Table_tests : (a0 : Int) → (a1 : Int) → (a2 : Int) → (k : Bool → Option β) → Option β) (q_impl_IsTestSet_l0 : Nat → Int → List Int → Int → Int → Int → Int → (Int → Int → Int → Option β) → Option β) : Env β := ⟨[(61, VS61 N q_impl_IsTable), (86, VS86 N q_slices_ContainsFunc_Sint_int q_impl_IsTestSet_1), (87, VS87 N q_impl_IsTestSet_1), (83, VS83 N q_impl_Table_tests)], [], [(0, VLS35_0 N q_impl_IsTestSet_l0)], []⟩
def E35 {β : Type} (N : Nat) : Env β := VE35 N (impl_IsTable N) (slices_ContainsFunc_Sint_int N) (impl_IsTestSet_1 N) (impl_Table_tests N) (impl_IsTestSet_l0 N)
def BV_impl_IsTestSet_l0b {β : Type} (N : Nat)  (v0 : Int) (v1 : List Int) (v2 : Int) (v3 : Int) (v4 : Int) (v5 : Int) (rec_ : Int → List Int → Int → Int → Int → Int → Option β) (k0 : Int → Int → Int → Option β) : Option β :=
(cond ((decide (v3 < v2)))
((gd ((decide (0 ≤ v3)))
((gd ((decide (v3 < (v1.length : Int))))
((gd ((decide (0 ≤ (rd 0 v1 v3))))
(rec_ ((bits .or .i64 v0 (shlI .i64 1 (rd 0 v1 v3)))) v1 v2 ((w64 (v3 + 1))) v4 v5)))))))
(k0 v0 v4 v5))
theorem t_impl_IsTestSet_l0b {β : Type} (N : Nat)  (v0 : Int) (v1 : List Int) (v2 : Int) (v3 : Int) (v4 : Int) (v5 : Int) (rec_ : Int → List Int → Int → Int → Int → Int → Option β) (k0 : Int → Int → Int → Option β) : impl_IsTestSet_l0b N v0 v1 v2 v3 v4 v5 rec_ k0 = BV_impl_IsTestSet_l0b N v0 v1 v2 v3 v4 v5 rec_ k0 := by
  unfold impl_IsTestSet_l0b BV_impl_IsTestSet_l0b
  rfl
theorem vst35_0_0 {β : Type} (N : Nat) (q_impl_IsTable : (a0 : Int) → (a1 : Int) → (k : Bool → Option β) → Option β) (q_slices_ContainsFunc_Sint_int : (a0 : List Int) → (a1 : (Int → (Bool → Option β) → Option β)) → (k : Bool → Option β) → Option β) (q_impl_IsTestSet_1 : (a0 : Int) → (c0 : Int) → (c1 : Int) → (k : Bool → Option β) → Option β) (q_impl_Table_tests : (a0 : Int) → (a1 : Int) → (a2 : Int) → (k : Bool → Option β) → Option β) (q_impl_IsTestSet_l0 : Nat → Int → List Int → Int → Int → Int → Int → (Int → Int → Int → Option β) → Option β)  (v0 : Int) (v1 : List Int) (v2 : Int) (v3 : Int) (v4 : Int) (v5 : Int) (rec_ : St → Option β) (K : Exit → St → Option β) :
    ev lay (VE35 N q_impl_IsTable q_slices_ContainsFunc_Sint_int q_impl_IsTestSet_1 q_impl_Table_tests q_impl_IsTestSet_l0) (retMask Try.f35) (lp Try.f35 0).body (lp Try.f35 0).ex ((lp Try.f35 0).lv (retMask Try.f35)) (h35_0_0  v0 v1 v2 v3 v4 v5) (nextR (fun s' => rec_ (s'.tidy ((lp Try.f35 0).lv (retMask Try.f35)))) K) = BV_impl_IsTestSet_l0b N  v0 v1 v2 v3 v4 v5 (fun v0 v1 v2 v3 v4 v5 => rec_ (h35_0_0  v0 v1 v2 v3 v4 v5)) (fun y0 y1 y2 => K (.exit 0) (x35_0_0_k0  y0 y1 y2)) := by kernel_rfl
theorem st35_0_0 {β : Type} (N : Nat)  (v0 : Int) (v1 : List Int) (v2 : Int) (v3 : Int) (v4 : Int) (v5 : Int) (rec_ : St → Option β) (K : Exit → St → Option β) :
    ev lay (E35 N) (retMask Try.f35) (lp Try.f35 0).body (lp Try.f35 0).ex ((lp Try.f35 0).lv (retMask Try.f35)) (h35_0_0  v0 v1 v2 v3 v4 v5) (nextR (fun s' => rec_ (s'.tidy ((lp Try.f35 0).lv (retMask Try.f35)))) K) = impl_IsTestSet_l0b N  v0 v1 v2 v3 v4 v5 (fun v0 v1 v2 v3 v4 v5 => rec_ (h35_0_0  v0 v1 v2 v3 v4 v5)) (fun y0 y1 y2 => K (.exit 0) (x35_0_0_k0  y0 y1 y2)) := (vst35_0_0 N (impl_IsTable N) (slices_ContainsFunc_Sint_int N) (impl_IsTestSet_1 N) (impl_Table_tests N) (impl_IsTestSet_l0 N) v0 v1 v2 v3 v4 v5 rec_ K).trans (t_impl_IsTestSet_l0b N  v0 v1 v2 v3 v4 v5 (fun v0 v1 v2 v3 v4 v5 => rec_ (h35_0_0  v0 v1 v2 v3 v4 v5)) (fun y0 y1 y2 => K (.exit 0) (x35_0_0_k0  y0 y1 y2))).symm
theorem ro35_0_0 {β : Type} (N : Nat)  (K : Exit → St → Option β) : ∀ (F : Nat) (v0 : Int) (v1 : List Int) (v2 : Int) (v3 : Int) (v4 : Int) (v5 : Int), (lp Try.f35 0).rounds lay (E35 N) (retMask Try.f35) F (h35_0_0  v0 v1 v2 v3 v4 v5) K = impl_IsTestSet_l0 N  F v0 v1 v2 v3 v4 v5 (fun y0 y1 y2 => K (.exit 0) (x35_0_0_k0  y0 y1 y2)) := by
  intro F
  induction F with
  | zero => intros; rfl
  | succ F ih =>
    intros
    rw [rounds_next]
    refine (st35_0_0 N  _ _ _ _ _ _ (fun s => (lp Try.f35 0).rounds lay (E35 N) (retMask Try.f35) F s K) K).trans ?_
    simp only [ih]
    rfl
theorem lk35_0 {β : Type} (N : Nat) : lookL (E35 (β := β) N).loops (lp Try.f35 0).id = LS35_0 N := by kernel_rfl
theorem rk35_0 {β : Type} (N : Nat) : RoundsOK lay (E35 (β := β) N) (retMask Try.f35) (lp Try.f35 0) := by
  intro s K r h
  rw [lk35_0] at h
  unfold LS35_0 VLS35_0 at h
  cases hb : shpSt (h35_0_0 0 [] 0 0 0 0) s with
  | true =>
    rw [hb, cond_true] at h
    exact ⟨N, by rw [← shpSt_ref hb, fl35_0_0 s]; exact (ro35_0_0 N  K N (intS (oneA (vT (nx tund s.tmps 5)))) (rInts (rowV (oneA (vT (nx tund s.tmps 16))))) (intS (oneA (vT (nx tund s.tmps 17)))) (intS (oneA (vT (nx tund s.tmps 18)))) (intS (nx .und (cellsB (nx .dead s.blks 0)) 0)) (intS (nx .und (cellsB (nx .dead s.blks 0)) 1))).trans h⟩
  | false =>
  rw [hb, cond_false] at h
  clear hb
  cases h
def BV_impl_IsTestSet {β : Type} (N : Nat) (q_impl_IsTable : (a0 : Int) → (a1 : Int) → (k : Bool → Option β) → Option β) (q_slices_ContainsFunc_Sint_int : (a0 : List Int) → (a1 : (Int → (Bool → Option β) → Option β)) → (k : Bool → Option β) → Option β) (q_impl_IsTestSet_1 : (a0 : Int) → (c0 : Int) → (c1 : Int) → (k : Bool → Option β) → Option β) (q_impl_IsTestSet_l0 : Nat → Int → List Int → Int → Int → Int → Int → (Int → Int → Int → Option β) → Option β) (q_impl_Table_tests : (a0 : Int) → (a1 : Int) → (a2 : Int) → (k : Bool → Option β) → Option β) (a0 : Int) (a1 : Int) (a2 : List Int) (k : Bool → Option β) : Option β :=
q_impl_IsTable a0 a1 fun r4 =>
(cond (!r4)
(k false)
(q_slices_ContainsFunc_Sint_int a2 (fun x0 k => q_impl_IsTestSet_1 x0 a0 a1 k) fun r5 =>
(cond r5
(k false)
(q_impl_IsTestSet_l0  N 0 a2 ((a2.length : Int)) 0 a0 a1 (fun e6_0 e6_1 e6_2 =>
q_impl_Table_tests e6_1 e6_2 e6_0 fun r7 =>
k r7)))))
theorem t_impl_IsTestSet {β : Type} (N : Nat) (a0 : Int) (a1 : Int) (a2 : List Int) (k : Bool → Option β) : impl_IsTestSet N a0 a1 a2 k = BV_impl_IsTestSet N (impl_IsTable N) (slices_ContainsFunc_Sint_int N) (impl_IsTestSet_1 N) (impl_IsTestSet_l0 N) (impl_Table_tests N) a0 a1 a2 k := by
  unfold impl_IsTestSet BV_impl_IsTestSet
  rfl
theorem ve35_0 {β : Type} (N : Nat) (q_impl_IsTable : (a0 : Int) → (a1 : Int) → (k : Bool → Option β) → Option β) (q_slices_ContainsFunc_Sint_int : (a0 : List Int) → (a1 : (Int → (Bool → Option β) → Option β)) → (k : Bool → Option β) → Option β) (q_impl_IsTestSet_1 : (a0 : Int) → (c0 : Int) → (c1 : Int) → (k : Bool → Option β) → Option β) (q_impl_Table_tests : (a0 : Int) → (a1 : Int) → (a2 : Int) → (k : Bool → Option β) → Option β) (q_impl_IsTestSet_l0 : Nat → Int → List Int → Int → Int → Int → Int → (Int → Int → Int → Option β) → Option β)  (a0 : Int) (a1 : Int) (a2 : List Int) (K : TV → Option β) : evFn lay (VE35 N q_impl_IsTable q_slices_ContainsFunc_Sint_int q_impl_IsTestSet_1 q_impl_Table_tests q_impl_IsTestSet_l0) Try.f35 [.v (.agg [.int .i64 a0, .int .i64 a1]), .v (.one (.sl 3 (.ints .i64 a2)))] K = BV_impl_IsTestSet N q_impl_IsTable q_slices_ContainsFunc_Sint_int q_impl_IsTestSet_1 q_impl_IsTestSet_l0 q_impl_Table_tests a0 a1 a2 (fun z3 => K (.v (.one (.bool z3)))) := by kernel_rfl
theorem e35_0 {β : Type} (N : Nat)  (a0 : Int) (a1 : Int) (a2 : List Int) (K : TV → Option β) : evFn lay (E35 N) Try.f35 [.v (.agg [.int .i64 a0, .int .i64 a1]), .v (.one (.sl 3 (.ints .i64 a2)))] K = impl_IsTestSet N a0 a1 a2 (fun z3 => K (.v (.one (.bool z3)))) := (ve35_0 N (impl_IsTable N) (slices_ContainsFunc_Sint_int N) (impl_IsTestSet_1 N) (impl_Table_tests N) (impl_IsTestSet_l0 N) a0 a1 a2 K).trans (t_impl_IsTestSet N a0 a1 a2 (fun z3 => K (.v (.one (.bool z3))))).symm
theorem o35 {β : Type} (N : Nat) : SpecOK (β := β) Try.prog 35 (S35 N) := by
  refine spec_of lay_ok mixed (E := E35 N) (specs_loops (specs_cons (o61 N) (specs_cons (o86 N) (specs_cons (o87 N) (specs_cons (o83 N) specs_nil))))) muts_nil gs_nil Try.func35 (by kernel_rfl) 1 (by kernel_rfl) ⟨trivial, rk35_0 N⟩ fun args K r h => ?_
  unfold S35 VS35 at h
  split at h
  · exact (e35_0 N _ _ _ _).trans h
  · cases h
def VS36 {β : Type} (N : Nat) (q_impl_CountDetectable : (a0 : Int) → (a1 : Int) → (k : Int → Option β) → Option β) : Rv.Spec β := fun args K => match args with
  | [.v (.agg [.int .i64 a0, .int .i64 a1])] => q_impl_CountDetectable a0 a1 (fun z2 => K (.v (.one (.int .i64 z2))))
  | _ => none
def S36 {β : Type} (N : Nat) : Rv.Spec β := VS36 N (impl_CountDetectable N)
def h36_0_0  (v0 : Int) (v1 : Int) (v2 : Int) (v3 : Int) (v4 : Int) : St := ⟨.v (.one .und) :: .v (.one (.ptr 0 0)) :: .v (.one .und) :: .v (.one (.int .i64 v0)) :: .v (.one .und) :: .v (.one .und) :: .v (.one .und) :: .v (.one .und) :: .v (.one .und) :: .v (.one .und) :: .v (.one (.int .i64 v1)) :: .v (.one (.int .i64 v2)) :: .v (.one .und) :: .v (.one .und) :: .v (.one .und) :: .v (.one .und) :: .v (.one .und) :: .v (.one .und) :: .v (.one .und) :: .v (.one .und) :: .v (.one .und) :: .v (.one .und) :: .v (.one .und) :: .v (.one .und) :: .v (.one .und) :: .v (.one .und) :: .v (.one .und) :: [], [.cells 25 [.int .i64 v3, .int .i64 v4]]⟩
def x36_0_0_k0  (y0 : Int) : St := ⟨.v (.one .und) :: .v (.one .und) :: .v (.one .und) :: .v (.one (.int .i64 y0)) :: .v (.one .und) :: .v (.one .und) :: .v (.one .und) :: .v (.one .und) :: .v (.one .und) :: .v (.one .und) :: .v (.one .und) :: .v (.one .und) :: .v (.one .und) :: .v (.one .und) :: .v (.one .und) :: .v (.one .und) :: .v (.one .und) :: .v (.one .und) :: .v (.one .und) :: .v (.one .und) :: .v (.one .und) :: .v (.one .und) :: .v (.one .und) :: .v (.one .und) :: .v (.one .und) :: .v (.one .und) :: .v (.one .und) :: [], []⟩
def h36_1_0  (v0 : Int) (v1 : Int) (v2 : Int) (v3 : Int) (v4 : Int) (v5 : Int) (v6 : Int) : St := ⟨.v (.one .und) :: .v (.one (.ptr 0 0)) :: .v (.one .und) :: .v (.one (.int .i64 v0)) :: .v (.one (.int .i64 v1)) :: .v (.one .und) :: .v (.one .und) :: .v (.one .und) :: .v (.one .und) :: .v (.one .und) :: .v (.one (.int .i64 v2)) :: .v (.one (.int .i64 v3)) :: .v (.one .und) :: .v (.one .und) :: .v (.one (.int .i64 v4)) :: .v (.one .und) :: .v (.one .und) :: .v (.one .und) :: .v (.one .und) :: .v (.one .und) :: .v (.one .und) :: .v (.one .und) :: .v (.one .und) :: .v (.one .und) :: .v (.one .und) :: .v (.one .und) :: .v (.one .und) :: [], [.cells 25 [.int .i64 v5, .int .i64 v6]]⟩
def x36_1_0_k0  (y0 : Int) (y1 : Int) (y2 : Int) (y3 : Int) (y4 : Int) : St := ⟨.v (.one .und) :: .v (.one (.ptr 0 0)) :: .v (.one .und) :: .v (.one (.int .i64 y0)) :: .v (.one .und) :: .v (.one .und) :: .v (.one .und) :: .v (.one .und) :: .v (.one .und) :: .v (.one .und) :: .v (.one (.int .i64 y1)) :: .v (.one (.int .i64 y2)) :: .v (.one .und) :: .v (.one .und) :: .v (.one .und) :: .v (.one .und) :: .v (.one .und) :: .v (.one .und) :: .v (.one .und) :: .v (.one .und) :: .v (.one .und) :: .v (.one .und) :: .v (.one .und) :: .v (.one .und) :: .v (.one .und) :: .v (.one .und) :: .v (.one .und) :: [], [.cells 25 [.int .i64 y3, .int .i64 y4]]⟩
theorem fl36_0_0 (s : St) : refSt (h36_0_0 0 0 0 0 0) s = h36_0_0 (intS (oneA (vT (nx tund s.tmps 3)))) (intS (oneA (vT (nx tund s.tmps 10)))) (intS (oneA (vT (nx tund s.tmps 11)))) (intS (nx .und (cellsB (nx .dead s.blks 0)) 0)) (intS (nx .und (cellsB (nx .dead s.blks 0)) 1)) := by kernel_rfl
def VLS36_0 {β : Type} (N : Nat) (q_impl_CountDetectable_l0 : Nat → Int → Int → Int → Int → Int → (Int → Option β) → Option β) : LSpec β := fun s K => cond (shpSt (h36_0_0 0 0 0 0 0) s) ((fun (v0 : Int) (v1 : Int) (v2 : Int) (v3 : Int) (v4 : Int) => q_impl_CountDetectable_l0  N v0 v1 v2 v3 v4 (fun y0 => K (.exit 0) (x36_0_0_k0  y0))) (intS (oneA (vT (nx tund s.tmps 3)))) (intS (oneA (vT (nx tund s.tmps 10)))) (intS (oneA (vT (nx tund s.tmps 11)))) (intS (nx .und (cellsB (nx .dead s.blks 0)) 0)) (intS (nx .und (cellsB (nx .dead s.blks 0)) 1))) (none)
def LS36_0 {β : Type} (N : Nat) : LSpec β := VLS36_0 N (impl_CountDetectable_l0 N)
theorem fl36_1_0 (s : St) : refSt (h36_1_0 0 0 0 0 0 0 0) s = h36_1_0 (intS (oneA (vT (nx tund s.tmps 3)))) (intS (oneA (vT (nx tund s.tmps 4)))) (intS (oneA (vT (nx tund s.tmps 10)))) (intS (oneA (vT (nx tund s.tmps 11)))) (intS (oneA (vT (nx tund s.tmps 14)))) (intS (nx .und (cellsB (nx .dead s.blks 0)) 0)) (intS (nx .und (cellsB (nx .dead s.blks 0)) 1)) := by kernel_rfl
def VLS36_2 {β : Type} (N : Nat) (q_impl_CountDetectable_l2 : Nat → Int → Int → Int → Int → Int → Int → Int → (Int → Int → Int → Int → Int → Option β) → Option β) : LSpec β := fun s K => cond (shpSt (h36_1_0 0 0 0 0 0 0 0) s) ((fun (v0 : Int) (v1 : Int) (v2 : Int) (v3 : Int) (v4 : Int) (v5 : Int) (v6 : Int) => q_impl_CountDetectable_l2  N v0 v1 v2 v3 v4 v5 v6 (fun y0 y1 y2 y3 y4 => K (.exit 2) (x36_1_0_k0  y0 y1 y2 y3 y4))) (intS (oneA (vT (nx tund s.tmps 3)))) (intS (oneA (vT (nx tund s.tmps 4)))) (intS (oneA (vT (nx tund s.tmps 10)))) (intS (oneA (vT (nx tund s.tmps 11)))) (intS (oneA (vT (nx tund s.tmps 14)))) (intS (nx .und (cellsB (nx .dead s.blks 0)) 0)) (intS (nx .und (cellsB (nx .dead s.blks 0)) 1))) (none)
def LS36_2 {β : Type} (N : Nat) : LSpec β := VLS36_2 N (impl_CountDetectable_l2 N)
def VE36 {β : Type} (N : Nat) (q_impl_IsTable : (a0 : Int) → (a1 : Int) → (k : Bool → Option β) → Option β) (q_impl_Table_detecting : (a0 : Int) → (a1 : Int) → (a2 : Int) → (a3 : Int) → (k : Int → Option β) → Option β) (q_impl_CountDetectable_l0 : Nat → Int → Int → Int → Int → Int → (Int → Option β) → Option β) (q_impl_CountDetectable_l2 : Nat → Int → Int → Int → Int → Int → Int → Int → (Int → Int → Int → Int → Int → Option β) → Option β) : Env β := ⟨[(61, VS61 N q_impl_IsTable), (77, VS77 N q_impl_Table_detecting)], [], [(0, VLS36_0 N q_impl_CountDetectable_l0), (2, VLS36_2 N q_impl_CountDetectable_l2)], []⟩
def E36 {β : Type} (N : Nat) : Env β := VE36 N (impl_IsTable N) (impl_Table_detecting N) (impl_CountDetectable_l0 N) (impl_CountDetectable_l2 N)
def BV_impl_CountDetectable_l0b {β : Type} (N : Nat) (q_impl_CountDetectable_l2 : Nat → Int → Int → Int → Int → Int → Int → Int → (Int → Int → Int → Int → Int → Option β) → Option β)  (v0 : Int) (v1 : Int) (v2 : Int) (v3 : Int) (v4 : Int) (rec_ : Int → Int → Int → Int → Int → Option β) (k0 : Int → Option β) : Option β :=
(cond ((decide (v2 < v1)))
(q_impl_CountDetectable_l2  N v0 v2 v1 v2 0 v3 v4 (fun e5_0 e5_1 e5_2 e5_3 e5_4 =>
rec_ e5_0 e5_1 ((w64 (e5_2 + 1))) e5_3 e5_4))
(k0 v0))
theorem t_impl_CountDetectable_l0b {β : Type} (N : Nat)  (v0 : Int) (v1 : Int) (v2 : Int) (v3 : Int) (v4 : Int) (rec_ : Int → Int → Int → Int → Int → Option β) (k0 : Int → Option β) : impl_CountDetectable_l0b N v0 v1 v2 v3 v4 rec_ k0 = BV_impl_CountDetectable_l0b N (impl_CountDetectable_l2 N) v0 v1 v2 v3 v4 rec_ k0 := by
  unfold impl_CountDetectable_l0b BV_impl_CountDetectable_l0b
  rfl
theorem vst36_0_0 {β : Type} (N : Nat) (q_impl_IsTable : (a0 : Int) → (a1 : Int) → (k : Bool → Option β) → Option β) (q_impl_Table_detecting : (a0 : Int) → (a1 : Int) → (a2 : Int) → (a3 : Int) → (k : Int → Option β) → Option β) (q_impl_CountDetectable_l0 : Nat → Int → Int → Int → Int → Int → (Int → Option β) → Option β) (q_impl_CountDetectable_l2 : Nat → Int → Int → Int → Int → Int → Int → Int → (Int → Int → Int → Int → Int → Option β) → Option β)  (v0 : Int) (v1 : Int) (v2 : Int) (v3 : Int) (v4 : Int) (rec_ : St → Option β) (K : Exit → St → Option β) :
    ev lay (VE36 N q_impl_IsTable q_impl_Table_detecting q_impl_CountDetectable_l0 q_impl_CountDetectable_l2) (retMask Try.f36) (lp Try.f36 0).body (lp Try.f36 0).ex ((lp Try.f36 0).lv (retMask Try.f36)) (h36_0_0  v0 v1 v2 v3 v4) (nextR (fun s' => rec_ (s'.tidy ((lp Try.f36 0).lv (retMask Try.f36)))) K) = BV_impl_CountDetectable_l0b N q_impl_CountDetectable_l2  v0 v1 v2 v3 v4 (fun v0 v1 v2 v3 v4 => rec_ (h36_0_0  v0 v1 v2 v3 v4)) (fun y0 => K (.exit 0) (x36_0_0_k0  y0)) := by kernel_rfl
theorem st36_0_0 {β : Type} (N : Nat)  (v0 : Int) (v1 : Int) (v2 : Int) (v3 : Int) (v4 : Int) (rec_ : St → Option β) (K : Exit → St → Option β) :
    ev lay (E36 N) (retMask Try.f36) (lp Try.f36 0).body (lp Try.f36 0).ex ((lp Try.f36 0).lv (retMask Try.f36)) (h36_0_0  v0 v1 v2 v3 v4) (nextR (fun s' => rec_ (s'.tidy ((lp Try.f36 0).lv (retMask Try.f36)))) K) = impl_CountDetectable_l0b N  v0 v1 v2 v3 v4 (fun v0 v1 v2 v3 v4 => rec_ (h36_0_0  v0 v1 v2 v3 v4)) (fun y0 => K (.exit 0) (x36_0_0_k0  y0)) := (vst36_0_0 N (impl_IsTable N) (impl_Table_detecting N) (impl_CountDetectable_l0 N) (impl_CountDetectable_l2 N) v0 v1 v2 v3 v4 rec_ K).trans (t_impl_CountDetectable_l0b N  v0 v1 v2 v3 v4 (fun v0 v1 v2 v3 v4 => rec_ (h36_0_0  v0 v1 v2 v3 v4)) (fun y0 => K (.exit 0) (x36_0_0_k0  y0))).symm
theorem ro36_0_0 {β : Type} (N : Nat)  (K : Exit → St → Option β) : ∀ (F : Nat) (v0 : Int) (v1 : Int) (v2 : Int) (v3 : Int) (v4 : Int), (lp Try.f36 0).rounds lay (E36 N) (retMask Try.f36) F (h36_0_0  v0 v1 v2 v3 v4) K = impl_CountDetectable_l0 N  F v0 v1 v2 v3 v4 (fun y0 => K (.exit 0) (x36_0_0_k0  y0)) := by
  intro F
  induction F with
  | zero => intros; rfl
  | succ F ih =>
    intros
    rw [rounds_next]
    refine (st36_0_0 N  _ _ _ _ _ (fun s => (lp Try.f36 0).rounds lay (E36 N) (retMask Try.f36) F s K) K).trans ?_
    simp only [ih]
    rfl
theorem lk36_0 {β : Type} (N : Nat) : lookL (E36 (β := β) N).loops (lp Try.f36 0).id = LS36_0 N := by kernel_rfl
theorem rk36_0 {β : Type} (N : Nat) : RoundsOK lay (E36 (β := β) N) (retMask Try.f36) (lp Try.f36 0) := by
  intro s K r h
  rw [lk36_0] at h
  unfold LS36_0 VLS36_0 at h
  cases hb : shpSt (h36_0_0 0 0 0 0 0) s with
  | true =>
    rw [hb, cond_true] at h
    exact ⟨N, by rw [← shpSt_ref hb, fl36_0_0 s]; exact (ro36_0_0 N  K N (intS (oneA (vT (nx tund s.tmps 3)))) (intS (oneA (vT (nx tund s.tmps 10)))) (intS (oneA (vT (nx tund s.tmps 11)))) (intS (nx .und (cellsB (nx .dead s.blks 0)) 0)) (intS (nx .und (cellsB (nx .dead s.blks 0)) 1))).trans h⟩
  | false =>
  rw [hb, cond_false] at h
  clear hb
  cases h
def BV_impl_CountDetectable_l2b {β : Type} (N : Nat) (q_impl_Table_detecting : (a0 : Int) → (a1 : Int) → (a2 : Int) → (a3 : Int) → (k : Int → Option β) → Option β)  (v0 : Int) (v1 : Int) (v2 : Int) (v3 : Int) (v4 : Int) (v5 : Int) (v6 : Int) (rec_ : Int → Int → Int → Int → Int → Int → Int → Option β) (k0 : Int → Int → Int → Int → Int → Option β) : Option β :=
(cond ((decide (v4 < 2)))
(q_impl_Table_detecting v5 v6 v1 v4 fun r4 =>
(cond ((r4 != 0))
(rec_ ((w64 (v0 + 1))) v1 v2 v3 ((w64 (v4 + 1))) v5 v6)
(rec_ v0 v1 v2 v3 ((w64 (v4 + 1))) v5 v6)))
(k0 v0 v2 v3 v5 v6))
theorem t_impl_CountDetectable_l2b {β : Type} (N : Nat)  (v0 : Int) (v1 : Int) (v2 : Int) (v3 : Int) (v4 : Int) (v5 : Int) (v6 : Int) (rec_ : Int → Int → Int → Int → Int → Int → Int → Option β) (k0 : Int → Int → Int → Int → Int → Option β) : impl_CountDetectable_l2b N v0 v1 v2 v3 v4 v5 v6 rec_ k0 = BV_impl_CountDetectable_l2b N (impl_Table_detecting N) v0 v1 v2 v3 v4 v5 v6 rec_ k0 := by
  unfold impl_CountDetectable_l2b BV_impl_CountDetectable_l2b
  rfl
theorem vst36_1_0 {β : Type} (N : Nat) (q_impl_IsTable : (a0 : Int) → (a1 : Int) → (k : Bool → Option β) → Option β) (q_impl_Table_detecting : (a0 : Int) → (a1 : Int) → (a2 : Int) → (a3 : Int) → (k : Int → Option β) → Option β) (q_impl_CountDetectable_l0 : Nat → Int → Int → Int → Int → Int → (Int → Option β) → Option β) (q_impl_CountDetectable_l2 : Nat → Int → Int → Int → Int → Int → Int → Int → (Int → Int → Int → Int → Int → Option β) → Option β)  (v0 : Int) (v1 : Int) (v2 : Int) (v3 : Int) (v4 : Int) (v5 : Int) (v6 : Int) (rec_ : St → Option β) (K : Exit → St → Option β) :
    ev lay (VE36 N q_impl_IsTable q_impl_Table_detecting q_impl_CountDetectable_l0 q_impl_CountDetectable_l2) (retMask Try.f36) (lp Try.f36 1).body (lp Try.f36 1).ex ((lp Try.f36 1).lv (retMask Try.f36)) (h36_1_0  v0 v1 v2 v3 v4 v5 v6) (nextR (fun s' => rec_ (s'.tidy ((lp Try.f36 1).lv (retMask Try.f36)))) K) = BV_impl_CountDetectable_l2b N q_impl_Table_detecting  v0 v1 v2 v3 v4 v5 v6 (fun v0 v1 v2 v3 v4 v5 v6 => rec_ (h36_1_0  v0 v1 v2 v3 v4 v5 v6)) (fun y0 y1 y2 y3 y4 => K (.exit 2) (x36_1_0_k0  y0 y1 y2 y3 y4)) := by kernel_rfl
theorem st36_1_0 {β : Type} (N : Nat)  (v0 : Int) (v1 : Int) (v2 : Int) (v3 : Int) (v4 : Int) (v5 : Int) (v6 : Int) (rec_ : St → Option β) (K : Exit → St → Option β) :
    ev lay (E36 N) (retMask Try.f36) (lp Try.f36 1).body (lp Try.f36 1).ex ((lp Try.f36 1).lv (retMask Try.f36)) (h36_1_0  v0 v1 v2 v3 v4 v5 v6) (nextR (fun s' => rec_ (s'.tidy ((lp Try.f36 1).lv (retMask Try.f36)))) K) = impl_CountDetectable_l2b N  v0 v1 v2 v3 v4 v5 v6 (fun v0 v1 v2 v3 v4 v5 v6 => rec_ (h36_1_0  v0 v1 v2 v3 v4 v5 v6)) (fun y0 y1 y2 y3 y4 => K (.exit 2) (x36_1_0_k0  y0 y1 y2 y3 y4)) := (vst36_1_0 N (impl_IsTable N) (impl_Table_detecting N) (impl_CountDetectable_l0 N) (impl_CountDetectable_l2 N) v0 v1 v2 v3 v4 v5 v6 rec_ K).trans (t_impl_CountDetectable_l2b N  v0 v1 v2 v3 v4 v5 v6 (fun v0 v1 v2 v3 v4 v5 v6 => rec_ (h36_1_0  v0 v1 v2 v3 v4 v5 v6)) (fun y0 y1 y2 y3 y4 => K (.exit 2) (x36_1_0_k0  y0 y1 y2 y3 y4))).symm
theorem ro36_1_0 {β : Type} (N : Nat)  (K : Exit → St → Option β) : ∀ (F : Nat) (v0 : Int) (v1 : Int) (v2 : Int) (v3 : Int) (v4 : Int) (v5 : Int) (v6 : Int), (lp Try.f36 1).rounds lay (E36 N) (retMask Try.f36) F (h36_1_0  v0 v1 v2 v3 v4 v5 v6) K = impl_CountDetectable_l2 N  F v0 v1 v2 v3 v4 v5 v6 (fun y0 y1 y2 y3 y4 => K (.exit 2) (x36_1_0_k0  y0 y1 y2 y3 y4)) := by
  intro F
  induction F with
  | zero => intros; rfl
  | succ F ih =>
    intros
    rw [rounds_next]
    refine (st36_1_0 N  _ _ _ _ _ _ _ (fun s => (lp Try.f36 1).rounds lay (E36 N) (retMask Try.f36) F s K) K).trans ?_
    simp only [ih]
    rfl
theorem lk36_2 {β : Type} (N : Nat) : lookL (E36 (β := β) N).loops (lp Try.f36 1).id = LS36_2 N := by kernel_rfl
theorem rk36_2 {β : Type} (N : Nat) : RoundsOK lay (E36 (β := β) N) (retMask Try.f36) (lp Try.f36 1) := by
  intro s K r h
  rw [lk36_2] at h
  unfold LS36_2 VLS36_2 at h
  cases hb : shpSt (h36_1_0 0 0 0 0 0 0 0) s with
  | true =>
    rw [hb, cond_true] at h
    exact ⟨N, by rw [← shpSt_ref hb, fl36_1_0 s]; exact (ro36_1_0 N  K N (intS (oneA (vT (nx tund s.tmps 3)))) (intS (oneA (vT (nx tund s.tmps 4)))) (intS (oneA (vT (nx tund s.tmps 10)))) (intS (oneA (vT (nx tund s.tmps 11)))) (intS (oneA (vT (nx tund s.tmps 14)))) (intS (nx .und (cellsB (nx .dead s.blks 0)) 0)) (intS (nx .und (cellsB (nx .dead s.blks 0)) 1))).trans h⟩
  | false =>
  rw [hb, cond_false] at h
  clear hb
  cases h
def BV_impl_CountDetectable {β : Type} (N : Nat) (q_impl_IsTable : (a0 : Int) → (a1 : Int) → (k : Bool → Option β) → Option β) (q_impl_CountDetectable_l0 : Nat → Int → Int → Int → Int → Int → (Int → Option β) → Option β) (a0 : Int) (a1 : Int) (k : Int → Option β) : Option β :=
q_impl_IsTable a0 a1 fun r3 =>
(cond (!r3)
(k (-1))
(q_impl_CountDetectable_l0  N 0 a0 0 a0 a1 (fun e6_0 =>
k e6_0)))
theorem t_impl_CountDetectable {β : Type} (N : Nat) (a0 : Int) (a1 : Int) (k : Int → Option β) : impl_CountDetectable N a0 a1 k = BV_impl_CountDetectable N (impl_IsTable N) (impl_CountDetectable_l0 N) a0 a1 k := by
  unfold impl_CountDetectable BV_impl_CountDetectable
  rfl
theorem ve36_0 {β : Type} (N : Nat) (q_impl_IsTable : (a0 : Int) → (a1 : Int) → (k : Bool → Option β) → Option β) (q_impl_Table_detecting : (a0 : Int) → (a1 : Int) → (a2 : Int) → (a3 : Int) → (k : Int → Option β) → Option β) (q_impl_CountDetectable_l0 : Nat → Int → Int → Int → Int → Int → (Int → Option β) → Option β) (q_impl_CountDetectable_l2 : Nat → Int → Int → Int → Int → Int → Int → Int → (Int → Int → Int → Int → Int → Option β) → Option β)  (a0 : Int) (a1 : Int) (K : TV → Option β) : evFn lay (VE36 N q_impl_IsTable q_impl_Table_detecting q_impl_CountDetectable_l0 q_impl_CountDetectable_l2) Try.f36 [.v (.agg [.int .i64 a0, .int .i64 a1])] K = BV_impl_CountDetectable N q_impl_IsTable q_impl_CountDetectable_l0 a0 a1 (fun z2 => K (.v (.one (.int .i64 z2)))) := by kernel_rfl
theorem e36_0 {β : Type} (N : Nat)  (a0 : Int) (a1 : Int) (K : TV → Option β) : evFn lay (E36 N) Try.f36 [.v (.agg [.int .i64 a0, .int .i64 a1])] K = impl_CountDetectable N a0 a1 (fun z2 => K (.v (.one (.int .i64 z2)))) := (ve36_0 N (impl_IsTable N) (impl_Table_detecting N) (impl_CountDetectable_l0 N) (impl_CountDetectable_l2 N) a0 a1 K).trans (t_impl_CountDetectable N a0 a1 (fun z2 => K (.v (.one (.int .i64 z2))))).symm
theorem o36 {β : Type} (N : Nat) : SpecOK (β := β) Try.prog 36 (S36 N) := by
  refine spec_of lay_ok mixed (E := E36 N) (specs_loops (specs_cons (o61 N) (specs_cons (o77 N) specs_nil))) muts_nil gs_nil Try.func36 (by kernel_rfl) 2 (by kernel_rfl) ⟨⟨trivial, rk36_0 N⟩, rk36_2 N⟩ fun args K r h => ?_
  unfold S36 VS36 at h
  split at h
  · exact (e36_0 N _ _ _).trans h
  · cases h
def VS117 {β : Type} (N : Nat) (q_impl_Table_not : (a0 : Int) → (a1 : Int) → (k : Int → Int → Option β) → Option β) : Rv.Spec β := fun args K => match args with
  | [.v (.agg [.int .i64 a0, .int .i64 a1])] => q_impl_Table_not a0 a1 (fun z2 z3 => K (.v (.agg [.int .i64 z2, .int .i64 z3])))
  | _ => none
def S117 {β : Type} (N : Nat) : Rv.Spec β := VS117 N (impl_Table_not N)
def VE117 {β : Type} (N : Nat) (q_impl_Table_size : (a0 : Int) → (a1 : Int) → (k : Int → Option β) → Option β) : Env β := ⟨[(82, VS82 N q_impl_Table_size)], [], [], []⟩
def E117 {β : Type} (N : Nat) : Env β := VE117 N (impl_Table_size N)
def BV_impl_Table_not {β : Type} (N : Nat) (q_impl_Table_size : (a0 : Int) → (a1 : Int) → (k : Int → Option β) → Option β) (a0 : Int) (a1 : Int) (k : Int → Int → Option β) : Option β :=
q_impl_Table_size a0 a1 fun r4 =>
(gd ((decide (0 ≤ r4)))
(k a0 ((bits .xor .i64 a1 (w64 ((shlI .i64 1 r4) - 1))))))
theorem t_impl_Table_not {β : Type} (N : Nat) (a0 : Int) (a1 : Int) (k : Int → Int → Option β) : impl_Table_not N a0 a1 k = BV_impl_Table_not N (impl_Table_size N) a0 a1 k := by
  unfold impl_Table_not BV_impl_Table_not
  rfl
theorem ve117_0 {β : Type} (N : Nat) (q_impl_Table_size : (a0 : Int) → (a1 : Int) → (k : Int → Option β) → Option β)  (a0 : Int) (a1 : Int) (K : TV → Option β) : evFn lay (VE117 N q_impl_Table_size) Try.f117 [.v (.agg [.int .i64 a0, .int .i64 a1])] K = BV_impl_Table_not N q_impl_Table_size a0 a1 (fun z2 z3 => K (.v (.agg [.int .i64 z2, .int .i64 z3]))) := by kernel_rfl
theorem e117_0 {β : Type} (N : Nat)  (a0 : Int) (a1 : Int) (K : TV → Option β) : evFn lay (E117 N) Try.f117 [.v (.agg [.int .i64 a0, .int .i64 a1])] K = impl_Table_not N a0 a1 (fun z2 z3 => K (.v (.agg [.int .i64 z2, .int .i64 z3]))) := (ve117_0 N (impl_Table_size N) a0 a1 K).trans (t_impl_Table_not N a0 a1 (fun z2 z3 => K (.v (.agg [.int .i64 z2, .int .i64 z3])))).symm
theorem o117 {β : Type} (N : Nat) : SpecOK (β := β) Try.prog 117 (S117 N) := by
  refine spec_of lay_ok mixed (E := E117 N) (specs_loops (specs_cons (o82 N) specs_nil)) muts_nil gs_nil Try.func117 (by kernel_rfl) 0 (by kernel_rfl) trivial fun args K r h => ?_
  unfold S117 VS117 at h
  split at h
  · exact (e117_0 N _ _ _).trans h
  · cases h
def VS88 {β : Type} (N : Nat) (q_impl_Table_isSame : (a0 : Int) → (a1 : Int) → (k : Bool → Option β) → Option β) : Rv.Spec β := fun args K => match args with
  | [.v (.agg [.int .i64 a0, .int .i64 a1])] => q_impl_Table_isSame a0 a1 (fun z2 => K (.v (.one (.bool z2))))
  | _ => none
def S88 {β : Type} (N : Nat) : Rv.Spec β := VS88 N (impl_Table_isSame N)
def VE88 {β : Type} (N : Nat) (q_impl_Table_not : (a0 : Int) → (a1 : Int) → (k : Int → Int → Option β) → Option β) : Env β := ⟨[(117, VS117 N q_impl_Table_not)], [], [], []⟩
def E88 {β : Type} (N : Nat) : Env β := VE88 N (impl_Table_not N)
def BV_impl_Table_isSame {β : Type} (N : Nat) (q_impl_Table_not : (a0 : Int) → (a1 : Int) → (k : Int → Int → Option β) → Option β) (a0 : Int) (a1 : Int) (k : Bool → Option β) : Option β :=
(cond ((a1 == 0))
(k true)
(q_impl_Table_not a0 a1 fun r3 r4 =>
k ((r4 == 0))))
theorem t_impl_Table_isSame {β : Type} (N : Nat) (a0 : Int) (a1 : Int) (k : Bool → Option β) : impl_Table_isSame N a0 a1 k = BV_impl_Table_isSame N (impl_Table_not N) a0 a1 k := by
  unfold impl_Table_isSame BV_impl_Table_isSame
  rfl
theorem ve88_0 {β : Type} (N : Nat) (q_impl_Table_not : (a0 : Int) → (a1 : Int) → (k : Int → Int → Option β) → Option β)  (a0 : Int) (a1 : Int) (K : TV → Option β) : evFn lay (VE88 N q_impl_Table_not) Try.f88 [.v (.agg [.int .i64 a0, .int .i64 a1])] K = BV_impl_Table_isSame N q_impl_Table_not a0 a1 (fun z2 => K (.v (.one (.bool z2)))) := by kernel_rfl
theorem e88_0 {β : Type} (N : Nat)  (a0 : Int) (a1 : Int) (K : TV → Option β) : evFn lay (E88 N) Try.f88 [.v (.agg [.int .i64 a0, .int .i64 a1])] K = impl_Table_isSame N a0 a1 (fun z2 => K (.v (.one (.bool z2)))) := (ve88_0 N (impl_Table_not N) a0 a1 K).trans (t_impl_Table_isSame N a0 a1 (fun z2 => K (.v (.one (.bool z2))))).symm
theorem o88 {β : Type} (N : Nat) : SpecOK (β := β) Try.prog 88 (S88 N) := by
  refine spec_of lay_ok mixed (E := E88 N) (specs_loops (specs_cons (o117 N) specs_nil)) muts_nil gs_nil Try.func88 (by kernel_rfl) 0 (by kernel_rfl) trivial fun args K r h => ?_
  unfold S88 VS88 at h
  split at h
  · exact (e88_0 N _ _ _).trans h
  · cases h
end Go.Proofs.Ytdkjnadhgdneaaa
