/- The functions that the claims reach answer as their texts do. -/
import Derived.Test.YtfdggelojmofmaaDoorE2
namespace Go.Proofs.YtfdggelojmofmaaDoor
open Go.Rv
set_option maxRecDepth 100000
set_option maxHeartbeats 2000000
set_option linter.unusedVariables false
def VS67 {β : Type} (N : Nat) (q_impl_TestRejects : (a0 : Int) → (a1 : Int) → (k : Int → Option β) → Option β) : Rv.Spec β := fun args K => match args with
  | [.v (.agg [.int .i64 a0, .int .i64 a1])] => q_impl_TestRejects a0 a1 (fun z2 => K (.v (.one (.int .i64 z2))))
  | _ => none
def S67 {β : Type} (N : Nat) : Rv.Spec β := VS67 N (impl_TestRejects N)
def h67_0_0  (v0 : Int) (v1 : Int) (v2 : Int) (v3 : Int) (v4 : Int) : St := ⟨.v (.one .und) :: .v (.one (.ptr 0 0)) :: .v (.one .und) :: .v (.one (.int .i64 v0)) :: .v (.one .und) :: .v (.one .und) :: .v (.one .und) :: .v (.one .und) :: .v (.one .und) :: .v (.one .und) :: .v (.one (.int .i64 v1)) :: .v (.one (.int .i64 v2)) :: .v (.one .und) :: .v (.one .und) :: .v (.one .und) :: .v (.one .und) :: .v (.one .und) :: .v (.one .und) :: .v (.one .und) :: .v (.one .und) :: .v (.one .und) :: .v (.one .und) :: .v (.one .und) :: .v (.one .und) :: .v (.one .und) :: .v (.one .und) :: .v (.one .und) :: .v (.one .und) :: .v (.one .und) :: .v (.one .und) :: .v (.one .und) :: .v (.one .und) :: .v (.one .und) :: .v (.one .und) :: .v (.one .und) :: .v (.one .und) :: .v (.one .und) :: [], [.cells 24 [.int .i64 v3, .int .i64 v4]]⟩
def x67_0_0_k0  (y0 : Int) : St := ⟨.v (.one .und) :: .v (.one .und) :: .v (.one .und) :: .v (.one (.int .i64 y0)) :: .v (.one .und) :: .v (.one .und) :: .v (.one .und) :: .v (.one .und) :: .v (.one .und) :: .v (.one .und) :: .v (.one .und) :: .v (.one .und) :: .v (.one .und) :: .v (.one .und) :: .v (.one .und) :: .v (.one .und) :: .v (.one .und) :: .v (.one .und) :: .v (.one .und) :: .v (.one .und) :: .v (.one .und) :: .v (.one .und) :: .v (.one .und) :: .v (.one .und) :: .v (.one .und) :: .v (.one .und) :: .v (.one .und) :: .v (.one .und) :: .v (.one .und) :: .v (.one .und) :: .v (.one .und) :: .v (.one .und) :: .v (.one .und) :: .v (.one .und) :: .v (.one .und) :: .v (.one .und) :: .v (.one .und) :: [], []⟩
def h67_1_0  (v0 : Int) (v1 : Int) (v2 : Int) (v3 : Int) (v4 : Int) (v5 : Int) (v6 : Int) (v7 : Int) : St := ⟨.v (.one .und) :: .v (.one (.ptr 0 0)) :: .v (.one .und) :: .v (.one (.int .i64 v0)) :: .v (.one (.int .i64 v1)) :: .v (.one .und) :: .v (.one .und) :: .v (.one .und) :: .v (.one .und) :: .v (.one .und) :: .v (.one (.int .i64 v2)) :: .v (.one (.int .i64 v3)) :: .v (.one .und) :: .v (.one .und) :: .v (.one .und) :: .v (.one (.int .i64 v4)) :: .v (.one (.int .i64 v5)) :: .v (.one .und) :: .v (.one .und) :: .v (.one .und) :: .v (.one .und) :: .v (.one .und) :: .v (.one .und) :: .v (.one .und) :: .v (.one .und) :: .v (.one .und) :: .v (.one .und) :: .v (.one .und) :: .v (.one .und) :: .v (.one .und) :: .v (.one .und) :: .v (.one .und) :: .v (.one .und) :: .v (.one .und) :: .v (.one .und) :: .v (.one .und) :: .v (.one .und) :: [], [.cells 24 [.int .i64 v6, .int .i64 v7]]⟩
def x67_1_0_k0  (y0 : Int) (y1 : Int) (y2 : Int) (y3 : Int) (y4 : Int) : St := ⟨.v (.one .und) :: .v (.one (.ptr 0 0)) :: .v (.one .und) :: .v (.one (.int .i64 y0)) :: .v (.one .und) :: .v (.one .und) :: .v (.one .und) :: .v (.one .und) :: .v (.one .und) :: .v (.one .und) :: .v (.one (.int .i64 y1)) :: .v (.one (.int .i64 y2)) :: .v (.one .und) :: .v (.one .und) :: .v (.one .und) :: .v (.one .und) :: .v (.one .und) :: .v (.one .und) :: .v (.one .und) :: .v (.one .und) :: .v (.one .und) :: .v (.one .und) :: .v (.one .und) :: .v (.one .und) :: .v (.one .und) :: .v (.one .und) :: .v (.one .und) :: .v (.one .und) :: .v (.one .und) :: .v (.one .und) :: .v (.one .und) :: .v (.one .und) :: .v (.one .und) :: .v (.one .und) :: .v (.one .und) :: .v (.one .und) :: .v (.one .und) :: [], [.cells 24 [.int .i64 y3, .int .i64 y4]]⟩
theorem fl67_0_0 (s : St) : refSt (h67_0_0 0 0 0 0 0) s = h67_0_0 (intS (oneA (vT (nx tund s.tmps 3)))) (intS (oneA (vT (nx tund s.tmps 10)))) (intS (oneA (vT (nx tund s.tmps 11)))) (intS (nx .und (cellsB (nx .dead s.blks 0)) 0)) (intS (nx .und (cellsB (nx .dead s.blks 0)) 1)) := by kernel_rfl
def VLS67_0 {β : Type} (N : Nat) (q_impl_TestRejects_l0 : Nat → Int → Int → Int → Int → Int → (Int → Option β) → Option β) : LSpec β := fun s K => cond (shpSt (h67_0_0 0 0 0 0 0) s) ((fun (v0 : Int) (v1 : Int) (v2 : Int) (v3 : Int) (v4 : Int) => q_impl_TestRejects_l0  N v0 v1 v2 v3 v4 (fun y0 => K (.exit 0) (x67_0_0_k0  y0))) (intS (oneA (vT (nx tund s.tmps 3)))) (intS (oneA (vT (nx tund s.tmps 10)))) (intS (oneA (vT (nx tund s.tmps 11)))) (intS (nx .und (cellsB (nx .dead s.blks 0)) 0)) (intS (nx .und (cellsB (nx .dead s.blks 0)) 1))) (none)
def LS67_0 {β : Type} (N : Nat) : LSpec β := VLS67_0 N (impl_TestRejects_l0 N)
theorem fl67_1_0 (s : St) : refSt (h67_1_0 0 0 0 0 0 0 0 0) s = h67_1_0 (intS (oneA (vT (nx tund s.tmps 3)))) (intS (oneA (vT (nx tund s.tmps 4)))) (intS (oneA (vT (nx tund s.tmps 10)))) (intS (oneA (vT (nx tund s.tmps 11)))) (intS (oneA (vT (nx tund s.tmps 15)))) (intS (oneA (vT (nx tund s.tmps 16)))) (intS (nx .und (cellsB (nx .dead s.blks 0)) 0)) (intS (nx .und (cellsB (nx .dead s.blks 0)) 1)) := by kernel_rfl
def VLS67_2 {β : Type} (N : Nat) (q_impl_TestRejects_l2 : Nat → Int → Int → Int → Int → Int → Int → Int → Int → (Int → Int → Int → Int → Int → Option β) → Option β) : LSpec β := fun s K => cond (shpSt (h67_1_0 0 0 0 0 0 0 0 0) s) ((fun (v0 : Int) (v1 : Int) (v2 : Int) (v3 : Int) (v4 : Int) (v5 : Int) (v6 : Int) (v7 : Int) => q_impl_TestRejects_l2  N v0 v1 v2 v3 v4 v5 v6 v7 (fun y0 y1 y2 y3 y4 => K (.exit 2) (x67_1_0_k0  y0 y1 y2 y3 y4))) (intS (oneA (vT (nx tund s.tmps 3)))) (intS (oneA (vT (nx tund s.tmps 4)))) (intS (oneA (vT (nx tund s.tmps 10)))) (intS (oneA (vT (nx tund s.tmps 11)))) (intS (oneA (vT (nx tund s.tmps 15)))) (intS (oneA (vT (nx tund s.tmps 16)))) (intS (nx .und (cellsB (nx .dead s.blks 0)) 0)) (intS (nx .und (cellsB (nx .dead s.blks 0)) 1))) (none)
def LS67_2 {β : Type} (N : Nat) : LSpec β := VLS67_2 N (impl_TestRejects_l2 N)
def VE67 {β : Type} (N : Nat) (q_impl_IsTable : (a0 : Int) → (a1 : Int) → (k : Bool → Option β) → Option β) (q_impl_Table_size : (a0 : Int) → (a1 : Int) → (k : Int → Option β) → Option β) (q_impl_Table_at : (a0 : Int) → (a1 : Int) → (a2 : Int) → (k : Int → Option β) → Option β) (q_impl_TestRejects_l0 : Nat → Int → Int → Int → Int → Int → (Int → Option β) → Option β) (q_impl_TestRejects_l2 : Nat → Int → Int → Int → Int → Int → Int → Int → Int → (Int → Int → Int → Int → Int → Option β) → Option β) : Env β := ⟨[(59, VS59 N q_impl_IsTable), (125, VS125 N q_impl_Table_size), (128, VS128 N q_impl_Table_at)], [], [(0, VLS67_0 N q_impl_TestRejects_l0), (2, VLS67_2 N q_impl_TestRejects_l2)], [], ⟨[], [], []⟩⟩
def E67 {β : Type} (N : Nat) : Env β := VE67 N (impl_IsTable N) (impl_Table_size N) (impl_Table_at N) (impl_TestRejects_l0 N) (impl_TestRejects_l2 N)
def BV_impl_TestRejects_l0b {β : Type} (N : Nat) (q_impl_Table_size : (a0 : Int) → (a1 : Int) → (k : Int → Option β) → Option β) (q_impl_TestRejects_l2 : Nat → Int → Int → Int → Int → Int → Int → Int → Int → (Int → Int → Int → Int → Int → Option β) → Option β)  (v0 : Int) (v1 : Int) (v2 : Int) (v3 : Int) (v4 : Int) (rec_ : Int → Int → Int → Int → Int → Option β) (k0 : Int → Option β) : Option β :=
(cond ((decide (v2 < v1)))
(q_impl_Table_size v3 v4 fun r5 =>
q_impl_TestRejects_l2  N v0 v2 v1 v2 r5 0 v3 v4 (fun e9_0 e9_1 e9_2 e9_3 e9_4 =>
rec_ e9_0 e9_1 ((w64 (e9_2 + 1))) e9_3 e9_4))
(k0 v0))
theorem t_impl_TestRejects_l0b {β : Type} (N : Nat)  (v0 : Int) (v1 : Int) (v2 : Int) (v3 : Int) (v4 : Int) (rec_ : Int → Int → Int → Int → Int → Option β) (k0 : Int → Option β) : impl_TestRejects_l0b N v0 v1 v2 v3 v4 rec_ k0 = BV_impl_TestRejects_l0b N (impl_Table_size N) (impl_TestRejects_l2 N) v0 v1 v2 v3 v4 rec_ k0 := by
  unfold impl_TestRejects_l0b BV_impl_TestRejects_l0b
  rfl
theorem vst67_0_0 {β : Type} (N : Nat) (q_impl_IsTable : (a0 : Int) → (a1 : Int) → (k : Bool → Option β) → Option β) (q_impl_Table_size : (a0 : Int) → (a1 : Int) → (k : Int → Option β) → Option β) (q_impl_Table_at : (a0 : Int) → (a1 : Int) → (a2 : Int) → (k : Int → Option β) → Option β) (q_impl_TestRejects_l0 : Nat → Int → Int → Int → Int → Int → (Int → Option β) → Option β) (q_impl_TestRejects_l2 : Nat → Int → Int → Int → Int → Int → Int → Int → Int → (Int → Int → Int → Int → Int → Option β) → Option β)  (v0 : Int) (v1 : Int) (v2 : Int) (v3 : Int) (v4 : Int) (rec_ : St → Option β) (K : Exit → St → Option β) :
    ev lay (VE67 N q_impl_IsTable q_impl_Table_size q_impl_Table_at q_impl_TestRejects_l0 q_impl_TestRejects_l2) (retMask Tryd.f67) (lp Tryd.f67 0).body (lp Tryd.f67 0).ex ((lp Tryd.f67 0).lv (retMask Tryd.f67)) (h67_0_0  v0 v1 v2 v3 v4) (nextR (fun s' => rec_ (s'.tidy ((lp Tryd.f67 0).lv (retMask Tryd.f67)))) K) = BV_impl_TestRejects_l0b N q_impl_Table_size q_impl_TestRejects_l2  v0 v1 v2 v3 v4 (fun v0 v1 v2 v3 v4 => rec_ (h67_0_0  v0 v1 v2 v3 v4)) (fun y0 => K (.exit 0) (x67_0_0_k0  y0)) := by kernel_rfl
theorem st67_0_0 {β : Type} (N : Nat)  (v0 : Int) (v1 : Int) (v2 : Int) (v3 : Int) (v4 : Int) (rec_ : St → Option β) (K : Exit → St → Option β) :
    ev lay (E67 N) (retMask Tryd.f67) (lp Tryd.f67 0).body (lp Tryd.f67 0).ex ((lp Tryd.f67 0).lv (retMask Tryd.f67)) (h67_0_0  v0 v1 v2 v3 v4) (nextR (fun s' => rec_ (s'.tidy ((lp Tryd.f67 0).lv (retMask Tryd.f67)))) K) = impl_TestRejects_l0b N  v0 v1 v2 v3 v4 (fun v0 v1 v2 v3 v4 => rec_ (h67_0_0  v0 v1 v2 v3 v4)) (fun y0 => K (.exit 0) (x67_0_0_k0  y0)) := (vst67_0_0 N (impl_IsTable N) (impl_Table_size N) (impl_Table_at N) (impl_TestRejects_l0 N) (impl_TestRejects_l2 N) v0 v1 v2 v3 v4 rec_ K).trans (t_impl_TestRejects_l0b N  v0 v1 v2 v3 v4 (fun v0 v1 v2 v3 v4 => rec_ (h67_0_0  v0 v1 v2 v3 v4)) (fun y0 => K (.exit 0) (x67_0_0_k0  y0))).symm
theorem ro67_0_0 {β : Type} (N : Nat)  (K : Exit → St → Option β) : ∀ (F : Nat) (v0 : Int) (v1 : Int) (v2 : Int) (v3 : Int) (v4 : Int), (lp Tryd.f67 0).rounds lay (E67 N) (retMask Tryd.f67) F (h67_0_0  v0 v1 v2 v3 v4) K = impl_TestRejects_l0 N  F v0 v1 v2 v3 v4 (fun y0 => K (.exit 0) (x67_0_0_k0  y0)) := by
  intro F
  induction F with
  | zero => intros; rfl
  | succ F ih =>
    intros
    rw [rounds_next]
    refine (st67_0_0 N  _ _ _ _ _ (fun s => (lp Tryd.f67 0).rounds lay (E67 N) (retMask Tryd.f67) F s K) K).trans ?_
    simp only [ih]
    rfl
theorem lk67_0 {β : Type} (N : Nat) : lookL (E67 (β := β) N).loops (lp Tryd.f67 0).id = LS67_0 N := by kernel_rfl
theorem rk67_0 {β : Type} (N : Nat) : RoundsOK lay (E67 (β := β) N) (retMask Tryd.f67) (lp Tryd.f67 0) := by
  intro s K r h
  rw [lk67_0] at h
  unfold LS67_0 VLS67_0 at h
  cases hb : shpSt (h67_0_0 0 0 0 0 0) s with
  | true =>
    rw [hb, cond_true] at h
    exact ⟨N, by rw [← shpSt_ref hb, fl67_0_0 s]; exact (ro67_0_0 N  K N (intS (oneA (vT (nx tund s.tmps 3)))) (intS (oneA (vT (nx tund s.tmps 10)))) (intS (oneA (vT (nx tund s.tmps 11)))) (intS (nx .und (cellsB (nx .dead s.blks 0)) 0)) (intS (nx .und (cellsB (nx .dead s.blks 0)) 1))).trans h⟩
  | false =>
  rw [hb, cond_false] at h
  clear hb
  cases h
def BV_impl_TestRejects_l2b {β : Type} (N : Nat) (q_impl_Table_at : (a0 : Int) → (a1 : Int) → (a2 : Int) → (k : Int → Option β) → Option β)  (v0 : Int) (v1 : Int) (v2 : Int) (v3 : Int) (v4 : Int) (v5 : Int) (v6 : Int) (v7 : Int) (rec_ : Int → Int → Int → Int → Int → Int → Int → Int → Option β) (k0 : Int → Int → Int → Int → Int → Option β) : Option β :=
(cond ((decide (v5 < v4)))
(q_impl_Table_at v6 v7 v1 fun r6 =>
q_impl_Table_at v6 v7 v5 fun r7 =>
q_impl_Table_at v6 v7 ((bits .xor .i64 v1 v5)) fun r8 =>
rec_ ((w64 (v0 + (bits .xor .i64 (bits .xor .i64 r6 r7) r8)))) v1 v2 v3 v4 ((w64 (v5 + 1))) v6 v7)
(k0 v0 v2 v3 v6 v7))
theorem t_impl_TestRejects_l2b {β : Type} (N : Nat)  (v0 : Int) (v1 : Int) (v2 : Int) (v3 : Int) (v4 : Int) (v5 : Int) (v6 : Int) (v7 : Int) (rec_ : Int → Int → Int → Int → Int → Int → Int → Int → Option β) (k0 : Int → Int → Int → Int → Int → Option β) : impl_TestRejects_l2b N v0 v1 v2 v3 v4 v5 v6 v7 rec_ k0 = BV_impl_TestRejects_l2b N (impl_Table_at N) v0 v1 v2 v3 v4 v5 v6 v7 rec_ k0 := by
  unfold impl_TestRejects_l2b BV_impl_TestRejects_l2b
  rfl
theorem vst67_1_0 {β : Type} (N : Nat) (q_impl_IsTable : (a0 : Int) → (a1 : Int) → (k : Bool → Option β) → Option β) (q_impl_Table_size : (a0 : Int) → (a1 : Int) → (k : Int → Option β) → Option β) (q_impl_Table_at : (a0 : Int) → (a1 : Int) → (a2 : Int) → (k : Int → Option β) → Option β) (q_impl_TestRejects_l0 : Nat → Int → Int → Int → Int → Int → (Int → Option β) → Option β) (q_impl_TestRejects_l2 : Nat → Int → Int → Int → Int → Int → Int → Int → Int → (Int → Int → Int → Int → Int → Option β) → Option β)  (v0 : Int) (v1 : Int) (v2 : Int) (v3 : Int) (v4 : Int) (v5 : Int) (v6 : Int) (v7 : Int) (rec_ : St → Option β) (K : Exit → St → Option β) :
    ev lay (VE67 N q_impl_IsTable q_impl_Table_size q_impl_Table_at q_impl_TestRejects_l0 q_impl_TestRejects_l2) (retMask Tryd.f67) (lp Tryd.f67 1).body (lp Tryd.f67 1).ex ((lp Tryd.f67 1).lv (retMask Tryd.f67)) (h67_1_0  v0 v1 v2 v3 v4 v5 v6 v7) (nextR (fun s' => rec_ (s'.tidy ((lp Tryd.f67 1).lv (retMask Tryd.f67)))) K) = BV_impl_TestRejects_l2b N q_impl_Table_at  v0 v1 v2 v3 v4 v5 v6 v7 (fun v0 v1 v2 v3 v4 v5 v6 v7 => rec_ (h67_1_0  v0 v1 v2 v3 v4 v5 v6 v7)) (fun y0 y1 y2 y3 y4 => K (.exit 2) (x67_1_0_k0  y0 y1 y2 y3 y4)) := by kernel_rfl
theorem st67_1_0 {β : Type} (N : Nat)  (v0 : Int) (v1 : Int) (v2 : Int) (v3 : Int) (v4 : Int) (v5 : Int) (v6 : Int) (v7 : Int) (rec_ : St → Option β) (K : Exit → St → Option β) :
    ev lay (E67 N) (retMask Tryd.f67) (lp Tryd.f67 1).body (lp Tryd.f67 1).ex ((lp Tryd.f67 1).lv (retMask Tryd.f67)) (h67_1_0  v0 v1 v2 v3 v4 v5 v6 v7) (nextR (fun s' => rec_ (s'.tidy ((lp Tryd.f67 1).lv (retMask Tryd.f67)))) K) = impl_TestRejects_l2b N  v0 v1 v2 v3 v4 v5 v6 v7 (fun v0 v1 v2 v3 v4 v5 v6 v7 => rec_ (h67_1_0  v0 v1 v2 v3 v4 v5 v6 v7)) (fun y0 y1 y2 y3 y4 => K (.exit 2) (x67_1_0_k0  y0 y1 y2 y3 y4)) := (vst67_1_0 N (impl_IsTable N) (impl_Table_size N) (impl_Table_at N) (impl_TestRejects_l0 N) (impl_TestRejects_l2 N) v0 v1 v2 v3 v4 v5 v6 v7 rec_ K).trans (t_impl_TestRejects_l2b N  v0 v1 v2 v3 v4 v5 v6 v7 (fun v0 v1 v2 v3 v4 v5 v6 v7 => rec_ (h67_1_0  v0 v1 v2 v3 v4 v5 v6 v7)) (fun y0 y1 y2 y3 y4 => K (.exit 2) (x67_1_0_k0  y0 y1 y2 y3 y4))).symm
theorem ro67_1_0 {β : Type} (N : Nat)  (K : Exit → St → Option β) : ∀ (F : Nat) (v0 : Int) (v1 : Int) (v2 : Int) (v3 : Int) (v4 : Int) (v5 : Int) (v6 : Int) (v7 : Int), (lp Tryd.f67 1).rounds lay (E67 N) (retMask Tryd.f67) F (h67_1_0  v0 v1 v2 v3 v4 v5 v6 v7) K = impl_TestRejects_l2 N  F v0 v1 v2 v3 v4 v5 v6 v7 (fun y0 y1 y2 y3 y4 => K (.exit 2) (x67_1_0_k0  y0 y1 y2 y3 y4)) := by
  intro F
  induction F with
  | zero => intros; rfl
  | succ F ih =>
    intros
    rw [rounds_next]
    refine (st67_1_0 N  _ _ _ _ _ _ _ _ (fun s => (lp Tryd.f67 1).rounds lay (E67 N) (retMask Tryd.f67) F s K) K).trans ?_
    simp only [ih]
    rfl
theorem lk67_2 {β : Type} (N : Nat) : lookL (E67 (β := β) N).loops (lp Tryd.f67 1).id = LS67_2 N := by kernel_rfl
theorem rk67_2 {β : Type} (N : Nat) : RoundsOK lay (E67 (β := β) N) (retMask Tryd.f67) (lp Tryd.f67 1) := by
  intro s K r h
  rw [lk67_2] at h
  unfold LS67_2 VLS67_2 at h
  cases hb : shpSt (h67_1_0 0 0 0 0 0 0 0 0) s with
  | true =>
    rw [hb, cond_true] at h
    exact ⟨N, by rw [← shpSt_ref hb, fl67_1_0 s]; exact (ro67_1_0 N  K N (intS (oneA (vT (nx tund s.tmps 3)))) (intS (oneA (vT (nx tund s.tmps 4)))) (intS (oneA (vT (nx tund s.tmps 10)))) (intS (oneA (vT (nx tund s.tmps 11)))) (intS (oneA (vT (nx tund s.tmps 15)))) (intS (oneA (vT (nx tund s.tmps 16)))) (intS (nx .und (cellsB (nx .dead s.blks 0)) 0)) (intS (nx .und (cellsB (nx .dead s.blks 0)) 1))).trans h⟩
  | false =>
  rw [hb, cond_false] at h
  clear hb
  cases h
def BV_impl_TestRejects {β : Type} (N : Nat) (q_impl_IsTable : (a0 : Int) → (a1 : Int) → (k : Bool → Option β) → Option β) (q_impl_Table_size : (a0 : Int) → (a1 : Int) → (k : Int → Option β) → Option β) (q_impl_TestRejects_l0 : Nat → Int → Int → Int → Int → Int → (Int → Option β) → Option β) (a0 : Int) (a1 : Int) (k : Int → Option β) : Option β :=
q_impl_IsTable a0 a1 fun r3 =>
(cond (!r3)
(k (-1))
(q_impl_Table_size a0 a1 fun r4 =>
q_impl_TestRejects_l0  N 0 r4 0 a0 a1 (fun e10_0 =>
k e10_0)))
theorem t_impl_TestRejects {β : Type} (N : Nat) (a0 : Int) (a1 : Int) (k : Int → Option β) : impl_TestRejects N a0 a1 k = BV_impl_TestRejects N (impl_IsTable N) (impl_Table_size N) (impl_TestRejects_l0 N) a0 a1 k := by
  unfold impl_TestRejects BV_impl_TestRejects
  rfl
theorem ve67_0 {β : Type} (N : Nat) (q_impl_IsTable : (a0 : Int) → (a1 : Int) → (k : Bool → Option β) → Option β) (q_impl_Table_size : (a0 : Int) → (a1 : Int) → (k : Int → Option β) → Option β) (q_impl_Table_at : (a0 : Int) → (a1 : Int) → (a2 : Int) → (k : Int → Option β) → Option β) (q_impl_TestRejects_l0 : Nat → Int → Int → Int → Int → Int → (Int → Option β) → Option β) (q_impl_TestRejects_l2 : Nat → Int → Int → Int → Int → Int → Int → Int → Int → (Int → Int → Int → Int → Int → Option β) → Option β)  (a0 : Int) (a1 : Int) (K : TV → Option β) : evFn lay (VE67 N q_impl_IsTable q_impl_Table_size q_impl_Table_at q_impl_TestRejects_l0 q_impl_TestRejects_l2) Tryd.f67 [.v (.agg [.int .i64 a0, .int .i64 a1])] K = BV_impl_TestRejects N q_impl_IsTable q_impl_Table_size q_impl_TestRejects_l0 a0 a1 (fun z2 => K (.v (.one (.int .i64 z2)))) := by kernel_rfl
theorem e67_0 {β : Type} (N : Nat)  (a0 : Int) (a1 : Int) (K : TV → Option β) : evFn lay (E67 N) Tryd.f67 [.v (.agg [.int .i64 a0, .int .i64 a1])] K = impl_TestRejects N a0 a1 (fun z2 => K (.v (.one (.int .i64 z2)))) := (ve67_0 N (impl_IsTable N) (impl_Table_size N) (impl_Table_at N) (impl_TestRejects_l0 N) (impl_TestRejects_l2 N) a0 a1 K).trans (t_impl_TestRejects N a0 a1 (fun z2 => K (.v (.one (.int .i64 z2))))).symm
theorem o67 {β : Type} (N : Nat) : SpecOK (β := β) inv Tryd.prog 67 (S67 N) := by
  refine spec_of lay_ok mixed (E := E67 N) (specs_loops (specs_cons (o59 N) (specs_cons (o125 N) (specs_cons (o128 N) specs_nil)))) muts_nil gs_nil Tryd.func67 (by kernel_rfl) 2 (by kernel_rfl) ⟨⟨trivial, rk67_0 N⟩, rk67_2 N⟩ fun args K r h => ?_
  unfold S67 VS67 at h
  split at h
  · exact (e67_0 N _ _ _).trans h
  · cases h
def VS60 {β : Type} (N : Nat) (q_impl_line_put_g0 : (a0 : List ByteArray) → (a1 : List ByteArray) → (k0 : List ByteArray → List ByteArray → Option β) → Option β) : GSpec β := fun args bl K => match args, bl with
  | [.v (.one (.ptr 0 0)), .v (.one (.row 1))], [.pcells 0 65 [.row 2], .prow 1 9 (.strs a0), .prow 2 9 (.strs a1)] => q_impl_line_put_g0 a0 a1 (fun y0 y1 => K (.tup []) [.pcells 0 65 [.row 2], .prow 1 9 (.strs y0), .row 9 (.strs y1)])
  | _, _ => none
def S60 {β : Type} (N : Nat) : GSpec β := VS60 N (impl_line_put_g0 N)
def VE60 {β : Type} (N : Nat) : Env β := ⟨[], [], [], [], ⟨[], [], []⟩⟩
def E60 {β : Type} (N : Nat) : Env β := VE60 N
def BV_impl_line_put_g0 {β : Type} (N : Nat) (a0 : List ByteArray) (a1 : List ByteArray) (k0 : List ByteArray → List ByteArray → Option β) : Option β :=
(gd ((decide ((a1.length + a0.length) * 16 ≤ 140737488355328)))
(k0 a0 ((a1 ++ a0))))
theorem t_impl_line_put_g0 {β : Type} (N : Nat) (a0 : List ByteArray) (a1 : List ByteArray) (k0 : List ByteArray → List ByteArray → Option β) : impl_line_put_g0 N a0 a1 k0 = BV_impl_line_put_g0 N a0 a1 k0 := by
  unfold impl_line_put_g0 BV_impl_line_put_g0
  rfl
theorem ve60_0 {β : Type} (N : Nat) (a0 : List ByteArray) (a1 : List ByteArray) (K : TV → List Blk → Option β) : evFnG lay (VE60 N) Tryd.f60 [.v (.one (.ptr 0 0)), .v (.one (.row 1))] [.pcells 0 65 [.row 2], .prow 1 9 (.strs a0), .prow 2 9 (.strs a1)] K = BV_impl_line_put_g0 N a0 a1 (fun y0 y1 => K (.tup []) [.pcells 0 65 [.row 2], .prow 1 9 (.strs y0), .row 9 (.strs y1)]) := by kernel_rfl
theorem e60_0 {β : Type} (N : Nat) (a0 : List ByteArray) (a1 : List ByteArray) (K : TV → List Blk → Option β) : evFnG lay (E60 N) Tryd.f60 [.v (.one (.ptr 0 0)), .v (.one (.row 1))] [.pcells 0 65 [.row 2], .prow 1 9 (.strs a0), .prow 2 9 (.strs a1)] K = impl_line_put_g0 N a0 a1 (fun y0 y1 => K (.tup []) [.pcells 0 65 [.row 2], .prow 1 9 (.strs y0), .row 9 (.strs y1)]) := (ve60_0 N a0 a1 K).trans (t_impl_line_put_g0 N a0 a1 (fun y0 y1 => K (.tup []) [.pcells 0 65 [.row 2], .prow 1 9 (.strs y0), .row 9 (.strs y1)])).symm
theorem o60 {β : Type} (N : Nat) : GOK (β := β) inv Tryd.prog 60 (S60 N) := by
  refine g_of lay_ok mixed (E := E60 N) (specs_loops specs_nil) muts_nil gs_nil Tryd.func60 (by kernel_rfl) 0 (by kernel_rfl) trivial fun args bl K r h => ?_
  unfold S60 VS60 at h
  split at h
  · exact (e60_0 N _ _ _).trans h
  · cases h
def VS68 {β : Type} (N : Nat) (q_impl_line_text_g0 : (a0 : List ByteArray) → (k0 : ByteArray → List ByteArray → Option β) → Option β) : GSpec β := fun args bl K => match args, bl with
  | [.v (.one (.ptr 0 0))], [.pcells 0 65 [.row 1], .prow 1 9 (.strs a0)] => q_impl_line_text_g0 a0 (fun y0 y1 => K (.v (.one (.str y0))) [.pcells 0 65 [.row 1], .prow 1 9 (.strs y1)])
  | _, _ => none
def S68 {β : Type} (N : Nat) : GSpec β := VS68 N (impl_line_text_g0 N)
def VE68 {β : Type} (N : Nat) : Env β := ⟨[(126, S126 N)], [], [], [], ⟨[], [], []⟩⟩
def E68 {β : Type} (N : Nat) : Env β := VE68 N
def BV_impl_line_text_g0 {β : Type} (N : Nat) (a0 : List ByteArray) (k0 : ByteArray → List ByteArray → Option β) : Option β :=
strings_Join N a0 ((strOf [32])) fun r16 =>
k0 r16 a0
theorem t_impl_line_text_g0 {β : Type} (N : Nat) (a0 : List ByteArray) (k0 : ByteArray → List ByteArray → Option β) : impl_line_text_g0 N a0 k0 = BV_impl_line_text_g0 N a0 k0 := by
  unfold impl_line_text_g0 BV_impl_line_text_g0
  rfl
theorem ve68_0 {β : Type} (N : Nat) (a0 : List ByteArray) (K : TV → List Blk → Option β) : evFnG lay (VE68 N) Tryd.f68 [.v (.one (.ptr 0 0))] [.pcells 0 65 [.row 1], .prow 1 9 (.strs a0)] K = BV_impl_line_text_g0 N a0 (fun y0 y1 => K (.v (.one (.str y0))) [.pcells 0 65 [.row 1], .prow 1 9 (.strs y1)]) := by kernel_rfl
theorem e68_0 {β : Type} (N : Nat) (a0 : List ByteArray) (K : TV → List Blk → Option β) : evFnG lay (E68 N) Tryd.f68 [.v (.one (.ptr 0 0))] [.pcells 0 65 [.row 1], .prow 1 9 (.strs a0)] K = impl_line_text_g0 N a0 (fun y0 y1 => K (.v (.one (.str y0))) [.pcells 0 65 [.row 1], .prow 1 9 (.strs y1)]) := (ve68_0 N a0 K).trans (t_impl_line_text_g0 N a0 (fun y0 y1 => K (.v (.one (.str y0))) [.pcells 0 65 [.row 1], .prow 1 9 (.strs y1)])).symm
theorem o68 {β : Type} (N : Nat) : GOK (β := β) inv Tryd.prog 68 (S68 N) := by
  refine g_of lay_ok mixed (E := E68 N) (specs_loops (specs_cons (o126 N) specs_nil)) muts_nil gs_nil Tryd.func68 (by kernel_rfl) 0 (by kernel_rfl) trivial fun args bl K r h => ?_
  unfold S68 VS68 at h
  split at h
  · exact (e68_0 N _ _).trans h
  · cases h
def VS24 {β : Type} (N : Nat) (q_impl_SpectrumLine : (a0 : Int) → (a1 : Int) → (k : ByteArray → Option β) → Option β) : Rv.Spec β := fun args K => match args with
  | [.v (.agg [.int .i64 a0, .int .i64 a1])] => q_impl_SpectrumLine a0 a1 (fun z2 => K (.v (.one (.str z2))))
  | _ => none
def S24 {β : Type} (N : Nat) : Rv.Spec β := VS24 N (impl_SpectrumLine N)
def VE24 {β : Type} (N : Nat) (q_impl_IsTable : (a0 : Int) → (a1 : Int) → (k : Bool → Option β) → Option β) (q_impl_Table_spectrum : (a0 : Int) → (a1 : Int) → (k : List Int → Option β) → Option β) (q_impl_listText : (a0 : List Int) → (k : ByteArray → Option β) → Option β) (q_impl_EnergyByLevel : (a0 : Int) → (a1 : Int) → (k : List Int → Option β) → Option β) (q_impl_Nonlinearity : (a0 : Int) → (a1 : Int) → (k : Int → Option β) → Option β) (q_impl_FormatInt : (a0 : Int) → (k : ByteArray → Option β) → Option β) (q_impl_CorrelationImmunity : (a0 : Int) → (a1 : Int) → (k : Int → Option β) → Option β) (q_impl_TestRejects : (a0 : Int) → (a1 : Int) → (k : Int → Option β) → Option β) (q_impl_line_put_g0 : (a0 : List ByteArray) → (a1 : List ByteArray) → (k0 : List ByteArray → List ByteArray → Option β) → Option β) (q_impl_line_text_g0 : (a0 : List ByteArray) → (k0 : ByteArray → List ByteArray → Option β) → Option β) : Env β := ⟨[(59, VS59 N q_impl_IsTable), (62, VS62 N q_impl_Table_spectrum), (61, VS61 N q_impl_listText), (63, VS63 N q_impl_EnergyByLevel), (65, VS65 N q_impl_Nonlinearity), (64, VS64 N q_impl_FormatInt), (66, VS66 N q_impl_CorrelationImmunity), (67, VS67 N q_impl_TestRejects)], [], [], [(60, VS60 N q_impl_line_put_g0), (68, VS68 N q_impl_line_text_g0)], ⟨[], [], []⟩⟩
def E24 {β : Type} (N : Nat) : Env β := VE24 N (impl_IsTable N) (impl_Table_spectrum N) (impl_listText N) (impl_EnergyByLevel N) (impl_Nonlinearity N) (impl_FormatInt N) (impl_CorrelationImmunity N) (impl_TestRejects N) (impl_line_put_g0 N) (impl_line_text_g0 N)
def BV_impl_SpectrumLine {β : Type} (N : Nat) (q_impl_IsTable : (a0 : Int) → (a1 : Int) → (k : Bool → Option β) → Option β) (q_impl_Table_spectrum : (a0 : Int) → (a1 : Int) → (k : List Int → Option β) → Option β) (q_impl_listText : (a0 : List Int) → (k : ByteArray → Option β) → Option β) (q_impl_EnergyByLevel : (a0 : Int) → (a1 : Int) → (k : List Int → Option β) → Option β) (q_impl_Nonlinearity : (a0 : Int) → (a1 : Int) → (k : Int → Option β) → Option β) (q_impl_FormatInt : (a0 : Int) → (k : ByteArray → Option β) → Option β) (q_impl_line_put_g0 : (a0 : List ByteArray) → (a1 : List ByteArray) → (k0 : List ByteArray → List ByteArray → Option β) → Option β) (q_impl_CorrelationImmunity : (a0 : Int) → (a1 : Int) → (k : Int → Option β) → Option β) (q_impl_TestRejects : (a0 : Int) → (a1 : Int) → (k : Int → Option β) → Option β) (q_impl_line_text_g0 : (a0 : List ByteArray) → (k0 : ByteArray → List ByteArray → Option β) → Option β) (a0 : Int) (a1 : Int) (k : ByteArray → Option β) : Option β :=
q_impl_IsTable a0 a1 fun r3 =>
(cond (!r3)
(k ByteArray.empty)
(q_impl_Table_spectrum a0 a1 fun r4 =>
q_impl_listText r4 fun r5 =>
q_impl_EnergyByLevel a0 a1 fun r6 =>
q_impl_listText r6 fun r7 =>
q_impl_Nonlinearity a0 a1 fun r8 =>
q_impl_FormatInt r8 fun r9 =>
q_impl_line_put_g0 (((((((([] : List ByteArray) ++ [(strOf [115, 112, 101, 99, 116, 114, 117, 109])]) ++ [r5]) ++ [(strOf [108, 101, 118, 101, 108, 115])]) ++ [r7]) ++ [(strOf [110, 111, 110, 108, 105, 110, 101, 97, 114, 105, 116, 121])]) ++ [r9])) (([] : List ByteArray)) (fun r10_0 r10_1 =>
q_impl_CorrelationImmunity a0 a1 fun r11 =>
q_impl_FormatInt r11 fun r12 =>
q_impl_TestRejects a0 a1 fun r13 =>
q_impl_FormatInt r13 fun r14 =>
q_impl_line_put_g0 (((((([] : List ByteArray) ++ [(strOf [105, 109, 109, 117, 110, 105, 116, 121])]) ++ [r12]) ++ [(strOf [114, 101, 106, 101, 99, 116, 115])]) ++ [r14])) r10_1 (fun r15_0 r15_1 =>
q_impl_line_text_g0 r15_1 (fun r16_0 r16_1 =>
k r16_0)))))
theorem t_impl_SpectrumLine {β : Type} (N : Nat) (a0 : Int) (a1 : Int) (k : ByteArray → Option β) : impl_SpectrumLine N a0 a1 k = BV_impl_SpectrumLine N (impl_IsTable N) (impl_Table_spectrum N) (impl_listText N) (impl_EnergyByLevel N) (impl_Nonlinearity N) (impl_FormatInt N) (impl_line_put_g0 N) (impl_CorrelationImmunity N) (impl_TestRejects N) (impl_line_text_g0 N) a0 a1 k := by
  unfold impl_SpectrumLine BV_impl_SpectrumLine
  rfl
theorem ve24_0 {β : Type} (N : Nat) (q_impl_IsTable : (a0 : Int) → (a1 : Int) → (k : Bool → Option β) → Option β) (q_impl_Table_spectrum : (a0 : Int) → (a1 : Int) → (k : List Int → Option β) → Option β) (q_impl_listText : (a0 : List Int) → (k : ByteArray → Option β) → Option β) (q_impl_EnergyByLevel : (a0 : Int) → (a1 : Int) → (k : List Int → Option β) → Option β) (q_impl_Nonlinearity : (a0 : Int) → (a1 : Int) → (k : Int → Option β) → Option β) (q_impl_FormatInt : (a0 : Int) → (k : ByteArray → Option β) → Option β) (q_impl_CorrelationImmunity : (a0 : Int) → (a1 : Int) → (k : Int → Option β) → Option β) (q_impl_TestRejects : (a0 : Int) → (a1 : Int) → (k : Int → Option β) → Option β) (q_impl_line_put_g0 : (a0 : List ByteArray) → (a1 : List ByteArray) → (k0 : List ByteArray → List ByteArray → Option β) → Option β) (q_impl_line_text_g0 : (a0 : List ByteArray) → (k0 : ByteArray → List ByteArray → Option β) → Option β)  (a0 : Int) (a1 : Int) (K : TV → Option β) : evFn lay (VE24 N q_impl_IsTable q_impl_Table_spectrum q_impl_listText q_impl_EnergyByLevel q_impl_Nonlinearity q_impl_FormatInt q_impl_CorrelationImmunity q_impl_TestRejects q_impl_line_put_g0 q_impl_line_text_g0) Tryd.f24 [.v (.agg [.int .i64 a0, .int .i64 a1])] K = BV_impl_SpectrumLine N q_impl_IsTable q_impl_Table_spectrum q_impl_listText q_impl_EnergyByLevel q_impl_Nonlinearity q_impl_FormatInt q_impl_line_put_g0 q_impl_CorrelationImmunity q_impl_TestRejects q_impl_line_text_g0 a0 a1 (fun z2 => K (.v (.one (.str z2)))) := by kernel_rfl
theorem e24_0 {β : Type} (N : Nat)  (a0 : Int) (a1 : Int) (K : TV → Option β) : evFn lay (E24 N) Tryd.f24 [.v (.agg [.int .i64 a0, .int .i64 a1])] K = impl_SpectrumLine N a0 a1 (fun z2 => K (.v (.one (.str z2)))) := (ve24_0 N (impl_IsTable N) (impl_Table_spectrum N) (impl_listText N) (impl_EnergyByLevel N) (impl_Nonlinearity N) (impl_FormatInt N) (impl_CorrelationImmunity N) (impl_TestRejects N) (impl_line_put_g0 N) (impl_line_text_g0 N) a0 a1 K).trans (t_impl_SpectrumLine N a0 a1 (fun z2 => K (.v (.one (.str z2))))).symm
theorem o24 {β : Type} (N : Nat) : SpecOK (β := β) inv Tryd.prog 24 (S24 N) := by
  refine spec_of lay_ok mixed (E := E24 N) (specs_loops (specs_cons (o59 N) (specs_cons (o62 N) (specs_cons (o61 N) (specs_cons (o63 N) (specs_cons (o65 N) (specs_cons (o64 N) (specs_cons (o66 N) (specs_cons (o67 N) specs_nil))))))))) muts_nil (gs_cons (o60 N) (gs_cons (o68 N) gs_nil)) Tryd.func24 (by kernel_rfl) 0 (by kernel_rfl) trivial fun args K r h => ?_
  unfold S24 VS24 at h
  split at h
  · exact (e24_0 N _ _ _).trans h
  · cases h
def VS6 {β : Type} (N : Nat) (q_laws_FnExactSpectrumLine : (a0 : Int) → (a1 : Int) → (k : Bool → Option β) → Option β) : Rv.Spec β := fun args K => match args with
  | [.v (.agg [.int .i64 a0, .int .i64 a1])] => q_laws_FnExactSpectrumLine a0 a1 (fun z2 => K (.v (.one (.bool z2))))
  | _ => none
def S6 {β : Type} (N : Nat) : Rv.Spec β := VS6 N (laws_FnExactSpectrumLine N)
def VE6 {β : Type} (N : Nat) (q_laws_toTable : (a0 : Int) → (a1 : Int) → (k : Int → Int → Option β) → Option β) (q_spec_SpectrumLine : (a0 : Int) → (a1 : Int) → (k : ByteArray → Option β) → Option β) (q_impl_SpectrumLine : (a0 : Int) → (a1 : Int) → (k : ByteArray → Option β) → Option β) : Env β := ⟨[(11, VS11 N q_laws_toTable), (23, VS23 N q_spec_SpectrumLine), (24, VS24 N q_impl_SpectrumLine)], [], [], [], ⟨[], [], []⟩⟩
def E6 {β : Type} (N : Nat) : Env β := VE6 N (laws_toTable N) (spec_SpectrumLine N) (impl_SpectrumLine N)
def BV_laws_FnExactSpectrumLine {β : Type} (N : Nat) (q_laws_toTable : (a0 : Int) → (a1 : Int) → (k : Int → Int → Option β) → Option β) (q_spec_SpectrumLine : (a0 : Int) → (a1 : Int) → (k : ByteArray → Option β) → Option β) (q_impl_SpectrumLine : (a0 : Int) → (a1 : Int) → (k : ByteArray → Option β) → Option β) (a0 : Int) (a1 : Int) (k : Bool → Option β) : Option β :=
q_laws_toTable a0 a1 fun r3 r4 =>
q_spec_SpectrumLine r3 r4 fun r5 =>
q_laws_toTable a0 a1 fun r6 r7 =>
q_impl_SpectrumLine r6 r7 fun r8 =>
(cond ((!(r8.toList == r5.toList)))
(k false)
(k true))
theorem t_laws_FnExactSpectrumLine {β : Type} (N : Nat) (a0 : Int) (a1 : Int) (k : Bool → Option β) : laws_FnExactSpectrumLine N a0 a1 k = BV_laws_FnExactSpectrumLine N (laws_toTable N) (spec_SpectrumLine N) (impl_SpectrumLine N) a0 a1 k := by
  unfold laws_FnExactSpectrumLine BV_laws_FnExactSpectrumLine
  rfl
theorem ve6_0 {β : Type} (N : Nat) (q_laws_toTable : (a0 : Int) → (a1 : Int) → (k : Int → Int → Option β) → Option β) (q_spec_SpectrumLine : (a0 : Int) → (a1 : Int) → (k : ByteArray → Option β) → Option β) (q_impl_SpectrumLine : (a0 : Int) → (a1 : Int) → (k : ByteArray → Option β) → Option β)  (a0 : Int) (a1 : Int) (K : TV → Option β) : evFn lay (VE6 N q_laws_toTable q_spec_SpectrumLine q_impl_SpectrumLine) Tryd.f6 [.v (.agg [.int .i64 a0, .int .i64 a1])] K = BV_laws_FnExactSpectrumLine N q_laws_toTable q_spec_SpectrumLine q_impl_SpectrumLine a0 a1 (fun z2 => K (.v (.one (.bool z2)))) := by kernel_rfl
theorem e6_0 {β : Type} (N : Nat)  (a0 : Int) (a1 : Int) (K : TV → Option β) : evFn lay (E6 N) Tryd.f6 [.v (.agg [.int .i64 a0, .int .i64 a1])] K = laws_FnExactSpectrumLine N a0 a1 (fun z2 => K (.v (.one (.bool z2)))) := (ve6_0 N (laws_toTable N) (spec_SpectrumLine N) (impl_SpectrumLine N) a0 a1 K).trans (t_laws_FnExactSpectrumLine N a0 a1 (fun z2 => K (.v (.one (.bool z2))))).symm
theorem o6 {β : Type} (N : Nat) : SpecOK (β := β) inv Tryd.prog 6 (S6 N) := by
  refine spec_of lay_ok mixed (E := E6 N) (specs_loops (specs_cons (o11 N) (specs_cons (o23 N) (specs_cons (o24 N) specs_nil)))) muts_nil gs_nil Tryd.func6 (by kernel_rfl) 0 (by kernel_rfl) trivial fun args K r h => ?_
  unfold S6 VS6 at h
  split at h
  · exact (e6_0 N _ _ _).trans h
  · cases h
def VS225 {β : Type} (N : Nat) (q_spec_l3Insert : (a0 : Int) → (a1 : Int) → (a2 : Int) → (k : Int → Option β) → Option β) : Rv.Spec β := fun args K => match args with
  | [.v (.one (.int .i64 a0)), .v (.one (.int .i64 a1)), .v (.one (.int .i64 a2))] => q_spec_l3Insert a0 a1 a2 (fun z3 => K (.v (.one (.int .i64 z3))))
  | _ => none
def S225 {β : Type} (N : Nat) : Rv.Spec β := VS225 N (spec_l3Insert N)
def VE225 {β : Type} (N : Nat) : Env β := ⟨[], [], [], [], ⟨[], [], []⟩⟩
def E225 {β : Type} (N : Nat) : Env β := VE225 N
def BV_spec_l3Insert {β : Type} (N : Nat) (a0 : Int) (a1 : Int) (a2 : Int) (k : Int → Option β) : Option β :=
(gd ((decide (0 ≤ a1)))
((gd ((decide (0 ≤ a1)))
((gd ((decide (0 ≤ (w64 (a1 + 1)))))
((gd ((decide (0 ≤ a1)))
(k ((bits .or .i64 (bits .or .i64 (shlI .i64 (shrI .i64 a0 a1) (w64 (a1 + 1))) (shlI .i64 a2 a1)) (bits .and .i64 a0 (w64 ((shlI .i64 1 a1) - 1)))))))))))))
theorem t_spec_l3Insert {β : Type} (N : Nat) (a0 : Int) (a1 : Int) (a2 : Int) (k : Int → Option β) : spec_l3Insert N a0 a1 a2 k = BV_spec_l3Insert N a0 a1 a2 k := by
  unfold spec_l3Insert BV_spec_l3Insert
  rfl
theorem ve225_0 {β : Type} (N : Nat)  (a0 : Int) (a1 : Int) (a2 : Int) (K : TV → Option β) : evFn lay (VE225 N) Tryd.f225 [.v (.one (.int .i64 a0)), .v (.one (.int .i64 a1)), .v (.one (.int .i64 a2))] K = BV_spec_l3Insert N a0 a1 a2 (fun z3 => K (.v (.one (.int .i64 z3)))) := by kernel_rfl
theorem e225_0 {β : Type} (N : Nat)  (a0 : Int) (a1 : Int) (a2 : Int) (K : TV → Option β) : evFn lay (E225 N) Tryd.f225 [.v (.one (.int .i64 a0)), .v (.one (.int .i64 a1)), .v (.one (.int .i64 a2))] K = spec_l3Insert N a0 a1 a2 (fun z3 => K (.v (.one (.int .i64 z3)))) := (ve225_0 N a0 a1 a2 K).trans (t_spec_l3Insert N a0 a1 a2 (fun z3 => K (.v (.one (.int .i64 z3))))).symm
theorem o225 {β : Type} (N : Nat) : SpecOK (β := β) inv Tryd.prog 225 (S225 N) := by
  refine spec_of lay_ok mixed (E := E225 N) (specs_loops specs_nil) muts_nil gs_nil Tryd.func225 (by kernel_rfl) 0 (by kernel_rfl) trivial fun args K r h => ?_
  unfold S225 VS225 at h
  split at h
  · exact (e225_0 N _ _ _ _).trans h
  · cases h
def VS191 {β : Type} (N : Nat) (q_spec_l3Restrict : (a0 : Int) → (a1 : Int) → (a2 : Int) → (a3 : Int) → (k : Int → Int → Option β) → Option β) : Rv.Spec β := fun args K => match args with
  | [.v (.agg [.int .i64 a0, .int .i64 a1]), .v (.one (.int .i64 a2)), .v (.one (.int .i64 a3))] => q_spec_l3Restrict a0 a1 a2 a3 (fun z4 z5 => K (.v (.agg [.int .i64 z4, .int .i64 z5])))
  | _ => none
def S191 {β : Type} (N : Nat) : Rv.Spec β := VS191 N (spec_l3Restrict N)
def h191_0_0  (v0 : Int) (v1 : Int) (v2 : Int) (v3 : Int) (v4 : Int) (v5 : Int) (v6 : Int) (v7 : Int) : St := ⟨.v (.one .und) :: .v (.one (.int .i64 v0)) :: .v (.one (.int .i64 v1)) :: .v (.one (.ptr 0 0)) :: .v (.one .und) :: .v (.one .und) :: .v (.one (.ptr 1 0)) :: .v (.one (.int .i64 v2)) :: .v (.one (.int .i64 v3)) :: .v (.one .und) :: .v (.one .und) :: .v (.one .und) :: .v (.one .und) :: .v (.one .und) :: .v (.one .und) :: .v (.one .und) :: .v (.one .und) :: .v (.one .und) :: .v (.one .und) :: .v (.one .und) :: .v (.one .und) :: .v (.one .und) :: .v (.one .und) :: .v (.one .und) :: .v (.one .und) :: .v (.one .und) :: .v (.one .und) :: .v (.one .und) :: .v (.one .und) :: .v (.one .und) :: .v (.one .und) :: .v (.one .und) :: .v (.one .und) :: .v (.one .und) :: [], [.cells 24 [.int .i64 v4, .int .i64 v5], .cells 24 [.int .i64 v6, .int .i64 v7]]⟩
def x191_0_0_k0  (y0 : Int) (y1 : Int) (y2 : Int) (y3 : Int) (y4 : Int) : St := ⟨.v (.one .und) :: .v (.one .und) :: .v (.one .und) :: .v (.one (.ptr 0 0)) :: .v (.one .und) :: .v (.one .und) :: .v (.one (.ptr 1 0)) :: .v (.one (.int .i64 y0)) :: .v (.one .und) :: .v (.one .und) :: .v (.one .und) :: .v (.one .und) :: .v (.one .und) :: .v (.one .und) :: .v (.one .und) :: .v (.one .und) :: .v (.one .und) :: .v (.one .und) :: .v (.one .und) :: .v (.one .und) :: .v (.one .und) :: .v (.one .und) :: .v (.one .und) :: .v (.one .und) :: .v (.one .und) :: .v (.one .und) :: .v (.one .und) :: .v (.one .und) :: .v (.one .und) :: .v (.one .und) :: .v (.one .und) :: .v (.one .und) :: .v (.one .und) :: .v (.one .und) :: [], [.cells 24 [.int .i64 y1, .int .i64 y2], .cells 24 [.int .i64 y3, .int .i64 y4]]⟩
theorem fl191_0_0 (s : St) : refSt (h191_0_0 0 0 0 0 0 0 0 0) s = h191_0_0 (intS (oneA (vT (nx tund s.tmps 1)))) (intS (oneA (vT (nx tund s.tmps 2)))) (intS (oneA (vT (nx tund s.tmps 7)))) (intS (oneA (vT (nx tund s.tmps 8)))) (intS (nx .und (cellsB (nx .dead s.blks 0)) 0)) (intS (nx .und (cellsB (nx .dead s.blks 0)) 1)) (intS (nx .und (cellsB (nx .dead s.blks 1)) 0)) (intS (nx .und (cellsB (nx .dead s.blks 1)) 1)) := by kernel_rfl
def VLS191_0 {β : Type} (N : Nat) (q_spec_l3Restrict_l0 : Nat → Int → Int → Int → Int → Int → Int → Int → Int → (Int → Int → Int → Int → Int → Option β) → Option β) : LSpec β := fun s K => cond (shpSt (h191_0_0 0 0 0 0 0 0 0 0) s) ((fun (v0 : Int) (v1 : Int) (v2 : Int) (v3 : Int) (v4 : Int) (v5 : Int) (v6 : Int) (v7 : Int) => q_spec_l3Restrict_l0  N v0 v1 v2 v3 v4 v5 v6 v7 (fun y0 y1 y2 y3 y4 => K (.exit 0) (x191_0_0_k0  y0 y1 y2 y3 y4))) (intS (oneA (vT (nx tund s.tmps 1)))) (intS (oneA (vT (nx tund s.tmps 2)))) (intS (oneA (vT (nx tund s.tmps 7)))) (intS (oneA (vT (nx tund s.tmps 8)))) (intS (nx .und (cellsB (nx .dead s.blks 0)) 0)) (intS (nx .und (cellsB (nx .dead s.blks 0)) 1)) (intS (nx .und (cellsB (nx .dead s.blks 1)) 0)) (intS (nx .und (cellsB (nx .dead s.blks 1)) 1))) (none)
def LS191_0 {β : Type} (N : Nat) : LSpec β := VLS191_0 N (spec_l3Restrict_l0 N)
def VE191 {β : Type} (N : Nat) (q_spec_l3Insert : (a0 : Int) → (a1 : Int) → (a2 : Int) → (k : Int → Option β) → Option β) (q_spec_l3Restrict_l0 : Nat → Int → Int → Int → Int → Int → Int → Int → Int → (Int → Int → Int → Int → Int → Option β) → Option β) : Env β := ⟨[(225, VS225 N q_spec_l3Insert)], [], [(0, VLS191_0 N q_spec_l3Restrict_l0)], [], ⟨[], [], []⟩⟩
def E191 {β : Type} (N : Nat) : Env β := VE191 N (spec_l3Insert N) (spec_l3Restrict_l0 N)
def BV_spec_l3Restrict_l0b {β : Type} (N : Nat) (q_spec_l3Insert : (a0 : Int) → (a1 : Int) → (a2 : Int) → (k : Int → Option β) → Option β)  (v0 : Int) (v1 : Int) (v2 : Int) (v3 : Int) (v4 : Int) (v5 : Int) (v6 : Int) (v7 : Int) (rec_ : Int → Int → Int → Int → Int → Int → Int → Int → Option β) (k0 : Int → Int → Int → Int → Int → Option β) : Option β :=
(gd ((decide (0 ≤ (w64 (v4 - 1)))))
((cond ((decide (v3 < (shlI .i64 1 (w64 (v4 - 1))))))
(q_spec_l3Insert v3 v0 v1 fun r6 =>
(gd ((decide (0 ≤ r6)))
((gd ((decide (0 ≤ v3)))
(rec_ v0 v1 ((bits .or .i64 v2 (shlI .i64 (bits .and .i64 (shrI .i64 v5 r6) 1) v3))) ((w64 (v3 + 1))) v4 v5 v6 v7)))))
(k0 v2 v4 v5 v6 v7))))
theorem t_spec_l3Restrict_l0b {β : Type} (N : Nat)  (v0 : Int) (v1 : Int) (v2 : Int) (v3 : Int) (v4 : Int) (v5 : Int) (v6 : Int) (v7 : Int) (rec_ : Int → Int → Int → Int → Int → Int → Int → Int → Option β) (k0 : Int → Int → Int → Int → Int → Option β) : spec_l3Restrict_l0b N v0 v1 v2 v3 v4 v5 v6 v7 rec_ k0 = BV_spec_l3Restrict_l0b N (spec_l3Insert N) v0 v1 v2 v3 v4 v5 v6 v7 rec_ k0 := by
  unfold spec_l3Restrict_l0b BV_spec_l3Restrict_l0b
  rfl
theorem vst191_0_0 {β : Type} (N : Nat) (q_spec_l3Insert : (a0 : Int) → (a1 : Int) → (a2 : Int) → (k : Int → Option β) → Option β) (q_spec_l3Restrict_l0 : Nat → Int → Int → Int → Int → Int → Int → Int → Int → (Int → Int → Int → Int → Int → Option β) → Option β)  (v0 : Int) (v1 : Int) (v2 : Int) (v3 : Int) (v4 : Int) (v5 : Int) (v6 : Int) (v7 : Int) (rec_ : St → Option β) (K : Exit → St → Option β) :
    ev lay (VE191 N q_spec_l3Insert q_spec_l3Restrict_l0) (retMask Tryd.f191) (lp Tryd.f191 0).body (lp Tryd.f191 0).ex ((lp Tryd.f191 0).lv (retMask Tryd.f191)) (h191_0_0  v0 v1 v2 v3 v4 v5 v6 v7) (nextR (fun s' => rec_ (s'.tidy ((lp Tryd.f191 0).lv (retMask Tryd.f191)))) K) = BV_spec_l3Restrict_l0b N q_spec_l3Insert  v0 v1 v2 v3 v4 v5 v6 v7 (fun v0 v1 v2 v3 v4 v5 v6 v7 => rec_ (h191_0_0  v0 v1 v2 v3 v4 v5 v6 v7)) (fun y0 y1 y2 y3 y4 => K (.exit 0) (x191_0_0_k0  y0 y1 y2 y3 y4)) := by kernel_rfl
theorem st191_0_0 {β : Type} (N : Nat)  (v0 : Int) (v1 : Int) (v2 : Int) (v3 : Int) (v4 : Int) (v5 : Int) (v6 : Int) (v7 : Int) (rec_ : St → Option β) (K : Exit → St → Option β) :
    ev lay (E191 N) (retMask Tryd.f191) (lp Tryd.f191 0).body (lp Tryd.f191 0).ex ((lp Tryd.f191 0).lv (retMask Tryd.f191)) (h191_0_0  v0 v1 v2 v3 v4 v5 v6 v7) (nextR (fun s' => rec_ (s'.tidy ((lp Tryd.f191 0).lv (retMask Tryd.f191)))) K) = spec_l3Restrict_l0b N  v0 v1 v2 v3 v4 v5 v6 v7 (fun v0 v1 v2 v3 v4 v5 v6 v7 => rec_ (h191_0_0  v0 v1 v2 v3 v4 v5 v6 v7)) (fun y0 y1 y2 y3 y4 => K (.exit 0) (x191_0_0_k0  y0 y1 y2 y3 y4)) := (vst191_0_0 N (spec_l3Insert N) (spec_l3Restrict_l0 N) v0 v1 v2 v3 v4 v5 v6 v7 rec_ K).trans (t_spec_l3Restrict_l0b N  v0 v1 v2 v3 v4 v5 v6 v7 (fun v0 v1 v2 v3 v4 v5 v6 v7 => rec_ (h191_0_0  v0 v1 v2 v3 v4 v5 v6 v7)) (fun y0 y1 y2 y3 y4 => K (.exit 0) (x191_0_0_k0  y0 y1 y2 y3 y4))).symm
theorem ro191_0_0 {β : Type} (N : Nat)  (K : Exit → St → Option β) : ∀ (F : Nat) (v0 : Int) (v1 : Int) (v2 : Int) (v3 : Int) (v4 : Int) (v5 : Int) (v6 : Int) (v7 : Int), (lp Tryd.f191 0).rounds lay (E191 N) (retMask Tryd.f191) F (h191_0_0  v0 v1 v2 v3 v4 v5 v6 v7) K = spec_l3Restrict_l0 N  F v0 v1 v2 v3 v4 v5 v6 v7 (fun y0 y1 y2 y3 y4 => K (.exit 0) (x191_0_0_k0  y0 y1 y2 y3 y4)) := by
  intro F
  induction F with
  | zero => intros; rfl
  | succ F ih =>
    intros
    rw [rounds_next]
    refine (st191_0_0 N  _ _ _ _ _ _ _ _ (fun s => (lp Tryd.f191 0).rounds lay (E191 N) (retMask Tryd.f191) F s K) K).trans ?_
    simp only [ih]
    rfl
theorem lk191_0 {β : Type} (N : Nat) : lookL (E191 (β := β) N).loops (lp Tryd.f191 0).id = LS191_0 N := by kernel_rfl
theorem rk191_0 {β : Type} (N : Nat) : RoundsOK lay (E191 (β := β) N) (retMask Tryd.f191) (lp Tryd.f191 0) := by
  intro s K r h
  rw [lk191_0] at h
  unfold LS191_0 VLS191_0 at h
  cases hb : shpSt (h191_0_0 0 0 0 0 0 0 0 0) s with
  | true =>
    rw [hb, cond_true] at h
    exact ⟨N, by rw [← shpSt_ref hb, fl191_0_0 s]; exact (ro191_0_0 N  K N (intS (oneA (vT (nx tund s.tmps 1)))) (intS (oneA (vT (nx tund s.tmps 2)))) (intS (oneA (vT (nx tund s.tmps 7)))) (intS (oneA (vT (nx tund s.tmps 8)))) (intS (nx .und (cellsB (nx .dead s.blks 0)) 0)) (intS (nx .und (cellsB (nx .dead s.blks 0)) 1)) (intS (nx .und (cellsB (nx .dead s.blks 1)) 0)) (intS (nx .und (cellsB (nx .dead s.blks 1)) 1))).trans h⟩
  | false =>
  rw [hb, cond_false] at h
  clear hb
  cases h
def BV_spec_l3Restrict {β : Type} (N : Nat) (q_spec_l3Restrict_l0 : Nat → Int → Int → Int → Int → Int → Int → Int → Int → (Int → Int → Int → Int → Int → Option β) → Option β) (a0 : Int) (a1 : Int) (a2 : Int) (a3 : Int) (k : Int → Int → Option β) : Option β :=
q_spec_l3Restrict_l0  N a2 a3 0 0 a0 a1 0 0 (fun e7_0 e7_1 e7_2 e7_3 e7_4 =>
k ((w64 (e7_1 - 1))) e7_0)
theorem t_spec_l3Restrict {β : Type} (N : Nat) (a0 : Int) (a1 : Int) (a2 : Int) (a3 : Int) (k : Int → Int → Option β) : spec_l3Restrict N a0 a1 a2 a3 k = BV_spec_l3Restrict N (spec_l3Restrict_l0 N) a0 a1 a2 a3 k := by
  unfold spec_l3Restrict BV_spec_l3Restrict
  rfl
theorem ve191_0 {β : Type} (N : Nat) (q_spec_l3Insert : (a0 : Int) → (a1 : Int) → (a2 : Int) → (k : Int → Option β) → Option β) (q_spec_l3Restrict_l0 : Nat → Int → Int → Int → Int → Int → Int → Int → Int → (Int → Int → Int → Int → Int → Option β) → Option β)  (a0 : Int) (a1 : Int) (a2 : Int) (a3 : Int) (K : TV → Option β) : evFn lay (VE191 N q_spec_l3Insert q_spec_l3Restrict_l0) Tryd.f191 [.v (.agg [.int .i64 a0, .int .i64 a1]), .v (.one (.int .i64 a2)), .v (.one (.int .i64 a3))] K = BV_spec_l3Restrict N q_spec_l3Restrict_l0 a0 a1 a2 a3 (fun z4 z5 => K (.v (.agg [.int .i64 z4, .int .i64 z5]))) := by kernel_rfl
theorem e191_0 {β : Type} (N : Nat)  (a0 : Int) (a1 : Int) (a2 : Int) (a3 : Int) (K : TV → Option β) : evFn lay (E191 N) Tryd.f191 [.v (.agg [.int .i64 a0, .int .i64 a1]), .v (.one (.int .i64 a2)), .v (.one (.int .i64 a3))] K = spec_l3Restrict N a0 a1 a2 a3 (fun z4 z5 => K (.v (.agg [.int .i64 z4, .int .i64 z5]))) := (ve191_0 N (spec_l3Insert N) (spec_l3Restrict_l0 N) a0 a1 a2 a3 K).trans (t_spec_l3Restrict N a0 a1 a2 a3 (fun z4 z5 => K (.v (.agg [.int .i64 z4, .int .i64 z5])))).symm
theorem o191 {β : Type} (N : Nat) : SpecOK (β := β) inv Tryd.prog 191 (S191 N) := by
  refine spec_of lay_ok mixed (E := E191 N) (specs_loops (specs_cons (o225 N) specs_nil)) muts_nil gs_nil Tryd.func191 (by kernel_rfl) 1 (by kernel_rfl) ⟨trivial, rk191_0 N⟩ fun args K r h => ?_
  unfold S191 VS191 at h
  split at h
  · exact (e191_0 N _ _ _ _ _).trans h
  · cases h
def VS132 {β : Type} (N : Nat) (q_spec_l15Monotone : (a0 : Int) → (a1 : Int) → (k : Bool → Option β) → Option β) : Rv.Spec β := fun args K => match args with
  | [.v (.agg [.int .i64 a0, .int .i64 a1])] => q_spec_l15Monotone a0 a1 (fun z2 => K (.v (.one (.bool z2))))
  | _ => none
def S132 {β : Type} (N : Nat) : Rv.Spec β := VS132 N (spec_l15Monotone N)
def h132_0_0  (v0 : Int) (v1 : Int) (v2 : Int) : St := ⟨.v (.one .und) :: .v (.one (.ptr 0 0)) :: .v (.one .und) :: .v (.one (.int .i64 v0)) :: .v (.one .und) :: .v (.one .und) :: .v (.one .und) :: .v (.one .und) :: .v (.one .und) :: .v (.one .und) :: .v (.one .und) :: .v (.one .und) :: .v (.one .und) :: .v (.one .und) :: .v (.one .und) :: .v (.one .und) :: .v (.one .und) :: .v (.one .und) :: .v (.one .und) :: .v (.one .und) :: .v (.one .und) :: .v (.one .und) :: .v (.one .und) :: .v (.one .und) :: .v (.one .und) :: [], [.cells 24 [.int .i64 v1, .int .i64 v2]]⟩
def x132_0_0_k0  (y0 : Bool) : St := ⟨.v (.one .und) :: .v (.one .und) :: .v (.one (.bool y0)) :: .v (.one .und) :: .v (.one .und) :: .v (.one .und) :: .v (.one .und) :: .v (.one .und) :: .v (.one .und) :: .v (.one .und) :: .v (.one .und) :: .v (.one .und) :: .v (.one .und) :: .v (.one .und) :: .v (.one .und) :: .v (.one .und) :: .v (.one .und) :: .v (.one .und) :: .v (.one .und) :: .v (.one .und) :: .v (.one .und) :: .v (.one .und) :: .v (.one .und) :: .v (.one .und) :: .v (.one .und) :: [], []⟩
def x132_0_0_k1   : St := ⟨.v (.one .und) :: .v (.one .und) :: .v (.one .und) :: .v (.one .und) :: .v (.one .und) :: .v (.one .und) :: .v (.one .und) :: .v (.one .und) :: .v (.one .und) :: .v (.one .und) :: .v (.one .und) :: .v (.one .und) :: .v (.one .und) :: .v (.one .und) :: .v (.one .und) :: .v (.one .und) :: .v (.one .und) :: .v (.one .und) :: .v (.one .und) :: .v (.one .und) :: .v (.one .und) :: .v (.one .und) :: .v (.one .und) :: .v (.one .und) :: .v (.one .und) :: [], []⟩
theorem fl132_0_0 (s : St) : refSt (h132_0_0 0 0 0) s = h132_0_0 (intS (oneA (vT (nx tund s.tmps 3)))) (intS (nx .und (cellsB (nx .dead s.blks 0)) 0)) (intS (nx .und (cellsB (nx .dead s.blks 0)) 1)) := by kernel_rfl
def VLS132_0 {β : Type} (N : Nat) (q_spec_l15Monotone_l0 : Nat → Int → Int → Int → (Bool → Option β) → (Option β) → Option β) : LSpec β := fun s K => cond (shpSt (h132_0_0 0 0 0) s) ((fun (v0 : Int) (v1 : Int) (v2 : Int) => q_spec_l15Monotone_l0  N v0 v1 v2 (fun y0 => K .ret (x132_0_0_k0  y0)) (K (.exit 0) (x132_0_0_k1  ))) (intS (oneA (vT (nx tund s.tmps 3)))) (intS (nx .und (cellsB (nx .dead s.blks 0)) 0)) (intS (nx .und (cellsB (nx .dead s.blks 0)) 1))) (none)
def LS132_0 {β : Type} (N : Nat) : LSpec β := VLS132_0 N (spec_l15Monotone_l0 N)
def VE132 {β : Type} (N : Nat) (q_spec_l3Restrict : (a0 : Int) → (a1 : Int) → (a2 : Int) → (a3 : Int) → (k : Int → Int → Option β) → Option β) (q_spec_l15Monotone_l0 : Nat → Int → Int → Int → (Bool → Option β) → (Option β) → Option β) : Env β := ⟨[(191, VS191 N q_spec_l3Restrict)], [], [(0, VLS132_0 N q_spec_l15Monotone_l0)], [], ⟨[], [], []⟩⟩
def E132 {β : Type} (N : Nat) : Env β := VE132 N (spec_l3Restrict N) (spec_l15Monotone_l0 N)
def BV_spec_l15Monotone_l0b {β : Type} (N : Nat) (q_spec_l3Restrict : (a0 : Int) → (a1 : Int) → (a2 : Int) → (a3 : Int) → (k : Int → Int → Option β) → Option β)  (v0 : Int) (v1 : Int) (v2 : Int) (rec_ : Int → Int → Int → Option β) (k0 : Bool → Option β) (k1 : Option β) : Option β :=
(cond ((decide (v0 < v1)))
(q_spec_l3Restrict v1 v2 v0 0 fun r3 r4 =>
q_spec_l3Restrict v1 v2 v0 1 fun r5 r6 =>
(cond (((bits .and .i64 r4 r6) != r4))
(k0 false)
(rec_ ((w64 (v0 + 1))) v1 v2)))
(k1 ))
theorem t_spec_l15Monotone_l0b {β : Type} (N : Nat)  (v0 : Int) (v1 : Int) (v2 : Int) (rec_ : Int → Int → Int → Option β) (k0 : Bool → Option β) (k1 : Option β) : spec_l15Monotone_l0b N v0 v1 v2 rec_ k0 k1 = BV_spec_l15Monotone_l0b N (spec_l3Restrict N) v0 v1 v2 rec_ k0 k1 := by
  unfold spec_l15Monotone_l0b BV_spec_l15Monotone_l0b
  rfl
theorem vst132_0_0 {β : Type} (N : Nat) (q_spec_l3Restrict : (a0 : Int) → (a1 : Int) → (a2 : Int) → (a3 : Int) → (k : Int → Int → Option β) → Option β) (q_spec_l15Monotone_l0 : Nat → Int → Int → Int → (Bool → Option β) → (Option β) → Option β)  (v0 : Int) (v1 : Int) (v2 : Int) (rec_ : St → Option β) (K : Exit → St → Option β) :
    ev lay (VE132 N q_spec_l3Restrict q_spec_l15Monotone_l0) (retMask Tryd.f132) (lp Tryd.f132 0).body (lp Tryd.f132 0).ex ((lp Tryd.f132 0).lv (retMask Tryd.f132)) (h132_0_0  v0 v1 v2) (nextR (fun s' => rec_ (s'.tidy ((lp Tryd.f132 0).lv (retMask Tryd.f132)))) K) = BV_spec_l15Monotone_l0b N q_spec_l3Restrict  v0 v1 v2 (fun v0 v1 v2 => rec_ (h132_0_0  v0 v1 v2)) (fun y0 => K .ret (x132_0_0_k0  y0)) (K (.exit 0) (x132_0_0_k1  )) := by kernel_rfl
theorem st132_0_0 {β : Type} (N : Nat)  (v0 : Int) (v1 : Int) (v2 : Int) (rec_ : St → Option β) (K : Exit → St → Option β) :
    ev lay (E132 N) (retMask Tryd.f132) (lp Tryd.f132 0).body (lp Tryd.f132 0).ex ((lp Tryd.f132 0).lv (retMask Tryd.f132)) (h132_0_0  v0 v1 v2) (nextR (fun s' => rec_ (s'.tidy ((lp Tryd.f132 0).lv (retMask Tryd.f132)))) K) = spec_l15Monotone_l0b N  v0 v1 v2 (fun v0 v1 v2 => rec_ (h132_0_0  v0 v1 v2)) (fun y0 => K .ret (x132_0_0_k0  y0)) (K (.exit 0) (x132_0_0_k1  )) := (vst132_0_0 N (spec_l3Restrict N) (spec_l15Monotone_l0 N) v0 v1 v2 rec_ K).trans (t_spec_l15Monotone_l0b N  v0 v1 v2 (fun v0 v1 v2 => rec_ (h132_0_0  v0 v1 v2)) (fun y0 => K .ret (x132_0_0_k0  y0)) (K (.exit 0) (x132_0_0_k1  ))).symm
theorem ro132_0_0 {β : Type} (N : Nat)  (K : Exit → St → Option β) : ∀ (F : Nat) (v0 : Int) (v1 : Int) (v2 : Int), (lp Tryd.f132 0).rounds lay (E132 N) (retMask Tryd.f132) F (h132_0_0  v0 v1 v2) K = spec_l15Monotone_l0 N  F v0 v1 v2 (fun y0 => K .ret (x132_0_0_k0  y0)) (K (.exit 0) (x132_0_0_k1  )) := by
  intro F
  induction F with
  | zero => intros; rfl
  | succ F ih =>
    intros
    rw [rounds_next]
    refine (st132_0_0 N  _ _ _ (fun s => (lp Tryd.f132 0).rounds lay (E132 N) (retMask Tryd.f132) F s K) K).trans ?_
    simp only [ih]
    rfl
theorem lk132_0 {β : Type} (N : Nat) : lookL (E132 (β := β) N).loops (lp Tryd.f132 0).id = LS132_0 N := by kernel_rfl
theorem rk132_0 {β : Type} (N : Nat) : RoundsOK lay (E132 (β := β) N) (retMask Tryd.f132) (lp Tryd.f132 0) := by
  intro s K r h
  rw [lk132_0] at h
  unfold LS132_0 VLS132_0 at h
  cases hb : shpSt (h132_0_0 0 0 0) s with
  | true =>
    rw [hb, cond_true] at h
    exact ⟨N, by rw [← shpSt_ref hb, fl132_0_0 s]; exact (ro132_0_0 N  K N (intS (oneA (vT (nx tund s.tmps 3)))) (intS (nx .und (cellsB (nx .dead s.blks 0)) 0)) (intS (nx .und (cellsB (nx .dead s.blks 0)) 1))).trans h⟩
  | false =>
  rw [hb, cond_false] at h
  clear hb
  cases h
def BV_spec_l15Monotone {β : Type} (N : Nat) (q_spec_l15Monotone_l0 : Nat → Int → Int → Int → (Bool → Option β) → (Option β) → Option β) (a0 : Int) (a1 : Int) (k : Bool → Option β) : Option β :=
q_spec_l15Monotone_l0  N 0 a0 a1 (fun e7_0 =>
k e7_0) (k true)
theorem t_spec_l15Monotone {β : Type} (N : Nat) (a0 : Int) (a1 : Int) (k : Bool → Option β) : spec_l15Monotone N a0 a1 k = BV_spec_l15Monotone N (spec_l15Monotone_l0 N) a0 a1 k := by
  unfold spec_l15Monotone BV_spec_l15Monotone
  rfl
theorem ve132_0 {β : Type} (N : Nat) (q_spec_l3Restrict : (a0 : Int) → (a1 : Int) → (a2 : Int) → (a3 : Int) → (k : Int → Int → Option β) → Option β) (q_spec_l15Monotone_l0 : Nat → Int → Int → Int → (Bool → Option β) → (Option β) → Option β)  (a0 : Int) (a1 : Int) (K : TV → Option β) : evFn lay (VE132 N q_spec_l3Restrict q_spec_l15Monotone_l0) Tryd.f132 [.v (.agg [.int .i64 a0, .int .i64 a1])] K = BV_spec_l15Monotone N q_spec_l15Monotone_l0 a0 a1 (fun z2 => K (.v (.one (.bool z2)))) := by kernel_rfl
theorem e132_0 {β : Type} (N : Nat)  (a0 : Int) (a1 : Int) (K : TV → Option β) : evFn lay (E132 N) Tryd.f132 [.v (.agg [.int .i64 a0, .int .i64 a1])] K = spec_l15Monotone N a0 a1 (fun z2 => K (.v (.one (.bool z2)))) := (ve132_0 N (spec_l3Restrict N) (spec_l15Monotone_l0 N) a0 a1 K).trans (t_spec_l15Monotone N a0 a1 (fun z2 => K (.v (.one (.bool z2))))).symm
theorem o132 {β : Type} (N : Nat) : SpecOK (β := β) inv Tryd.prog 132 (S132 N) := by
  refine spec_of lay_ok mixed (E := E132 N) (specs_loops (specs_cons (o191 N) specs_nil)) muts_nil gs_nil Tryd.func132 (by kernel_rfl) 1 (by kernel_rfl) ⟨trivial, rk132_0 N⟩ fun args K r h => ?_
  unfold S132 VS132 at h
  split at h
  · exact (e132_0 N _ _ _).trans h
  · cases h
def VS69 {β : Type} (N : Nat) (q_spec_IsSimpleGame : (a0 : Int) → (a1 : Int) → (k : Bool → Option β) → Option β) : Rv.Spec β := fun args K => match args with
  | [.v (.agg [.int .i64 a0, .int .i64 a1])] => q_spec_IsSimpleGame a0 a1 (fun z2 => K (.v (.one (.bool z2))))
  | _ => none
def S69 {β : Type} (N : Nat) : Rv.Spec β := VS69 N (spec_IsSimpleGame N)
def VE69 {β : Type} (N : Nat) (q_spec_IsTable : (a0 : Int) → (a1 : Int) → (k : Bool → Option β) → Option β) (q_spec_l15Monotone : (a0 : Int) → (a1 : Int) → (k : Bool → Option β) → Option β) : Env β := ⟨[(51, VS51 N q_spec_IsTable), (132, VS132 N q_spec_l15Monotone)], [], [], [], ⟨[], [], []⟩⟩
def E69 {β : Type} (N : Nat) : Env β := VE69 N (spec_IsTable N) (spec_l15Monotone N)
def BV_spec_IsSimpleGame {β : Type} (N : Nat) (q_spec_IsTable : (a0 : Int) → (a1 : Int) → (k : Bool → Option β) → Option β) (q_spec_l15Monotone : (a0 : Int) → (a1 : Int) → (k : Bool → Option β) → Option β) (a0 : Int) (a1 : Int) (k : Bool → Option β) : Option β :=
q_spec_IsTable a0 a1 fun r3 =>
(cond r3
(q_spec_l15Monotone a0 a1 fun r4 =>
(cond r4
((cond (((bits .and .i64 a1 1) == 0))
((gd ((decide (0 ≤ a0)))
((gd ((decide (0 ≤ (wu64 ((shlI .u64 1 a0) - 1)))))
(k (((bits .and .i64 (shrI .i64 a1 (wu64 ((shlI .u64 1 a0) - 1))) 1) == 1)))))))
(k false)))
(k false)))
(k false))
theorem t_spec_IsSimpleGame {β : Type} (N : Nat) (a0 : Int) (a1 : Int) (k : Bool → Option β) : spec_IsSimpleGame N a0 a1 k = BV_spec_IsSimpleGame N (spec_IsTable N) (spec_l15Monotone N) a0 a1 k := by
  unfold spec_IsSimpleGame BV_spec_IsSimpleGame
  rfl
theorem ve69_0 {β : Type} (N : Nat) (q_spec_IsTable : (a0 : Int) → (a1 : Int) → (k : Bool → Option β) → Option β) (q_spec_l15Monotone : (a0 : Int) → (a1 : Int) → (k : Bool → Option β) → Option β)  (a0 : Int) (a1 : Int) (K : TV → Option β) : evFn lay (VE69 N q_spec_IsTable q_spec_l15Monotone) Tryd.f69 [.v (.agg [.int .i64 a0, .int .i64 a1])] K = BV_spec_IsSimpleGame N q_spec_IsTable q_spec_l15Monotone a0 a1 (fun z2 => K (.v (.one (.bool z2)))) := by kernel_rfl
theorem e69_0 {β : Type} (N : Nat)  (a0 : Int) (a1 : Int) (K : TV → Option β) : evFn lay (E69 N) Tryd.f69 [.v (.agg [.int .i64 a0, .int .i64 a1])] K = spec_IsSimpleGame N a0 a1 (fun z2 => K (.v (.one (.bool z2)))) := (ve69_0 N (spec_IsTable N) (spec_l15Monotone N) a0 a1 K).trans (t_spec_IsSimpleGame N a0 a1 (fun z2 => K (.v (.one (.bool z2))))).symm
theorem o69 {β : Type} (N : Nat) : SpecOK (β := β) inv Tryd.prog 69 (S69 N) := by
  refine spec_of lay_ok mixed (E := E69 N) (specs_loops (specs_cons (o51 N) (specs_cons (o132 N) specs_nil))) muts_nil gs_nil Tryd.func69 (by kernel_rfl) 0 (by kernel_rfl) trivial fun args K r h => ?_
  unfold S69 VS69 at h
  split at h
  · exact (e69_0 N _ _ _).trans h
  · cases h
end Go.Proofs.YtfdggelojmofmaaDoor
