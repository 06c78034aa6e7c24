/- The functions that the claims reach answer as their texts do. -/
import Derived.Test.YtdkjnadhgdneaaaE3
namespace Go.Proofs.Ytdkjnadhgdneaaa
open Go.Rv
set_option maxRecDepth 100000
set_option maxHeartbeats 2000000
set_option linter.unusedVariables false
def VS144 {β : Type} (N : Nat) (q_impl_Table_apart : (a0 : Int) → (a1 : Int) → (a2 : Int) → (k : Int → Option β) → Option β) : Rv.Spec β := fun args K => match args with
  | [.v (.agg [.int .i64 a0, .int .i64 a1]), .v (.one (.int .i64 a2))] => q_impl_Table_apart a0 a1 a2 (fun z3 => K (.v (.one (.int .i64 z3))))
  | _ => none
def S144 {β : Type} (N : Nat) : Rv.Spec β := VS144 N (impl_Table_apart N)
def h144_0_0  (v0 : Int) (v1 : Int) (v2 : Int) (v3 : Int) (v4 : List Int) (v5 : List Int) : St := ⟨.v (.one .und) :: .v (.one .und) :: .v (.one (.ptr 0 0)) :: .v (.one .und) :: .v (.one .und) :: .v (.one (.row 1)) :: .v (.one (.row 2)) :: .v (.one .und) :: .v (.one .und) :: .v (.one .und) :: .v (.one .und) :: .v (.one .und) :: .v (.one .und) :: .v (.one .und) :: .v (.one .und) :: .v (.one .und) :: .v (.one .und) :: .v (.one (.int .i64 v0)) :: .v (.one (.int .i64 v1)) :: .v (.one .und) :: .v (.one .und) :: .v (.one .und) :: .v (.one .und) :: .v (.one .und) :: .v (.one .und) :: .v (.one .und) :: .v (.one .und) :: .v (.one .und) :: .v (.one .und) :: .v (.one .und) :: .v (.one .und) :: .v (.one .und) :: .v (.one .und) :: .v (.one .und) :: .v (.one .und) :: .v (.one .und) :: .v (.one .und) :: .v (.one .und) :: .v (.one .und) :: .v (.one .und) :: .v (.one .und) :: .v (.one .und) :: .v (.one .und) :: .v (.one .und) :: .v (.one .und) :: .v (.one .und) :: .v (.one .und) :: .v (.one .und) :: .v (.one .und) :: .v (.one .und) :: .v (.one .und) :: .v (.one .und) :: .v (.one .und) :: .v (.one .und) :: [], [.cells 25 [.int .i64 v2, .int .i64 v3], .row 3 (.ints .i64 v4), .row 3 (.ints .i64 v5)]⟩
def x144_0_0_k0  (y0 : Int) (y1 : Int) (y2 : List Int) : St := ⟨.v (.one .und) :: .v (.one .und) :: .v (.one (.ptr 0 0)) :: .v (.one .und) :: .v (.one .und) :: .v (.one .und) :: .v (.one (.row 1)) :: .v (.one .und) :: .v (.one .und) :: .v (.one .und) :: .v (.one .und) :: .v (.one .und) :: .v (.one .und) :: .v (.one .und) :: .v (.one .und) :: .v (.one .und) :: .v (.one .und) :: .v (.one .und) :: .v (.one .und) :: .v (.one .und) :: .v (.one .und) :: .v (.one .und) :: .v (.one .und) :: .v (.one .und) :: .v (.one .und) :: .v (.one .und) :: .v (.one .und) :: .v (.one .und) :: .v (.one .und) :: .v (.one .und) :: .v (.one .und) :: .v (.one .und) :: .v (.one .und) :: .v (.one .und) :: .v (.one .und) :: .v (.one .und) :: .v (.one .und) :: .v (.one .und) :: .v (.one .und) :: .v (.one .und) :: .v (.one .und) :: .v (.one .und) :: .v (.one .und) :: .v (.one .und) :: .v (.one .und) :: .v (.one .und) :: .v (.one .und) :: .v (.one .und) :: .v (.one .und) :: .v (.one .und) :: .v (.one .und) :: .v (.one .und) :: .v (.one .und) :: .v (.one .und) :: [], [.cells 25 [.int .i64 y0, .int .i64 y1], .row 3 (.ints .i64 y2)]⟩
def h144_1_0  (v0 : Int) (v1 : Int) (v2 : Int) (v3 : Int) (v4 : Int) (v5 : Int) (v6 : Int) (v7 : List Int) (v8 : List Int) : St := ⟨.v (.one .und) :: .v (.one .und) :: .v (.one (.ptr 0 0)) :: .v (.one .und) :: .v (.one .und) :: .v (.one (.row 1)) :: .v (.one (.row 2)) :: .v (.one (.int .i64 v0)) :: .v (.one .und) :: .v (.one .und) :: .v (.one .und) :: .v (.one .und) :: .v (.one .und) :: .v (.one .und) :: .v (.one .und) :: .v (.one .und) :: .v (.one .und) :: .v (.one (.int .i64 v1)) :: .v (.one (.int .i64 v2)) :: .v (.one .und) :: .v (.one .und) :: .v (.one (.row 1)) :: .v (.one (.int .i64 v3)) :: .v (.one (.int .i64 v4)) :: .v (.one .und) :: .v (.one .und) :: .v (.one .und) :: .v (.one .und) :: .v (.one .und) :: .v (.one .und) :: .v (.one .und) :: .v (.one .und) :: .v (.one .und) :: .v (.one .und) :: .v (.one .und) :: .v (.one .und) :: .v (.one .und) :: .v (.one .und) :: .v (.one .und) :: .v (.one .und) :: .v (.one .und) :: .v (.one .und) :: .v (.one .und) :: .v (.one .und) :: .v (.one .und) :: .v (.one .und) :: .v (.one .und) :: .v (.one .und) :: .v (.one .und) :: .v (.one .und) :: .v (.one .und) :: .v (.one .und) :: .v (.one .und) :: .v (.one .und) :: [], [.cells 25 [.int .i64 v5, .int .i64 v6], .row 3 (.ints .i64 v7), .row 3 (.ints .i64 v8)]⟩
def x144_1_0_k0  (y0 : Int) (y1 : Int) (y2 : Int) (y3 : Int) (y4 : List Int) (y5 : List Int) : St := ⟨.v (.one .und) :: .v (.one .und) :: .v (.one (.ptr 0 0)) :: .v (.one .und) :: .v (.one .und) :: .v (.one (.row 1)) :: .v (.one (.row 2)) :: .v (.one .und) :: .v (.one .und) :: .v (.one .und) :: .v (.one .und) :: .v (.one .und) :: .v (.one .und) :: .v (.one .und) :: .v (.one .und) :: .v (.one .und) :: .v (.one .und) :: .v (.one (.int .i64 y0)) :: .v (.one (.int .i64 y1)) :: .v (.one .und) :: .v (.one .und) :: .v (.one .und) :: .v (.one .und) :: .v (.one .und) :: .v (.one .und) :: .v (.one .und) :: .v (.one .und) :: .v (.one .und) :: .v (.one .und) :: .v (.one .und) :: .v (.one .und) :: .v (.one .und) :: .v (.one .und) :: .v (.one .und) :: .v (.one .und) :: .v (.one .und) :: .v (.one .und) :: .v (.one .und) :: .v (.one .und) :: .v (.one .und) :: .v (.one .und) :: .v (.one .und) :: .v (.one .und) :: .v (.one .und) :: .v (.one .und) :: .v (.one .und) :: .v (.one .und) :: .v (.one .und) :: .v (.one .und) :: .v (.one .und) :: .v (.one .und) :: .v (.one .und) :: .v (.one .und) :: .v (.one .und) :: [], [.cells 25 [.int .i64 y2, .int .i64 y3], .row 3 (.ints .i64 y4), .row 3 (.ints .i64 y5)]⟩
theorem fl144_0_0 (s : St) : refSt (h144_0_0 0 0 0 0 [] []) s = h144_0_0 (intS (oneA (vT (nx tund s.tmps 17)))) (intS (oneA (vT (nx tund s.tmps 18)))) (intS (nx .und (cellsB (nx .dead s.blks 0)) 0)) (intS (nx .und (cellsB (nx .dead s.blks 0)) 1)) (rInts (rowB_ (nx .dead s.blks 1))) (rInts (rowB_ (nx .dead s.blks 2))) := by kernel_rfl
def VLS144_0 {β : Type} (N : Nat) (q_impl_Table_apart_l0 : Nat → Int → Int → Int → Int → List Int → List Int → (Int → Int → List Int → Option β) → Option β) : LSpec β := fun s K => cond (shpSt (h144_0_0 0 0 0 0 [] []) s) ((fun (v0 : Int) (v1 : Int) (v2 : Int) (v3 : Int) (v4 : List Int) (v5 : List Int) => q_impl_Table_apart_l0  N v0 v1 v2 v3 v4 v5 (fun y0 y1 y2 => K (.exit 0) (x144_0_0_k0  y0 y1 y2))) (intS (oneA (vT (nx tund s.tmps 17)))) (intS (oneA (vT (nx tund s.tmps 18)))) (intS (nx .und (cellsB (nx .dead s.blks 0)) 0)) (intS (nx .und (cellsB (nx .dead s.blks 0)) 1)) (rInts (rowB_ (nx .dead s.blks 1))) (rInts (rowB_ (nx .dead s.blks 2)))) (none)
def LS144_0 {β : Type} (N : Nat) : LSpec β := VLS144_0 N (impl_Table_apart_l0 N)
theorem fl144_1_0 (s : St) : refSt (h144_1_0 0 0 0 0 0 0 0 [] []) s = h144_1_0 (intS (oneA (vT (nx tund s.tmps 7)))) (intS (oneA (vT (nx tund s.tmps 17)))) (intS (oneA (vT (nx tund s.tmps 18)))) (intS (oneA (vT (nx tund s.tmps 22)))) (intS (oneA (vT (nx tund s.tmps 23)))) (intS (nx .und (cellsB (nx .dead s.blks 0)) 0)) (intS (nx .und (cellsB (nx .dead s.blks 0)) 1)) (rInts (rowB_ (nx .dead s.blks 1))) (rInts (rowB_ (nx .dead s.blks 2))) := by kernel_rfl
def VLS144_2 {β : Type} (N : Nat) (q_impl_Table_apart_l2 : Nat → Int → Int → Int → Int → Int → Int → Int → List Int → List Int → (Int → Int → Int → Int → List Int → List Int → Option β) → Option β) : LSpec β := fun s K => cond (shpSt (h144_1_0 0 0 0 0 0 0 0 [] []) s) ((fun (v0 : Int) (v1 : Int) (v2 : Int) (v3 : Int) (v4 : Int) (v5 : Int) (v6 : Int) (v7 : List Int) (v8 : List Int) => q_impl_Table_apart_l2  N v0 v1 v2 v3 v4 v5 v6 v7 v8 (fun y0 y1 y2 y3 y4 y5 => K (.exit 2) (x144_1_0_k0  y0 y1 y2 y3 y4 y5))) (intS (oneA (vT (nx tund s.tmps 7)))) (intS (oneA (vT (nx tund s.tmps 17)))) (intS (oneA (vT (nx tund s.tmps 18)))) (intS (oneA (vT (nx tund s.tmps 22)))) (intS (oneA (vT (nx tund s.tmps 23)))) (intS (nx .und (cellsB (nx .dead s.blks 0)) 0)) (intS (nx .und (cellsB (nx .dead s.blks 0)) 1)) (rInts (rowB_ (nx .dead s.blks 1))) (rInts (rowB_ (nx .dead s.blks 2)))) (none)
def LS144_2 {β : Type} (N : Nat) : LSpec β := VLS144_2 N (impl_Table_apart_l2 N)
def VE144 {β : Type} (N : Nat) (q_impl_Table_blocks : (a0 : Int) → (a1 : Int) → (a2 : Int) → (k : List Int → Option β) → Option β) (q_impl_Table_size : (a0 : Int) → (a1 : Int) → (k : Int → Option β) → Option β) (q_impl_Table_apart_l0 : Nat → Int → Int → Int → Int → List Int → List Int → (Int → Int → List Int → Option β) → Option β) (q_impl_Table_apart_l2 : Nat → Int → Int → Int → Int → Int → Int → Int → List Int → List Int → (Int → Int → Int → Int → List Int → List Int → Option β) → Option β) : Env β := ⟨[(155, VS155 N q_impl_Table_blocks), (82, VS82 N q_impl_Table_size)], [], [(0, VLS144_0 N q_impl_Table_apart_l0), (2, VLS144_2 N q_impl_Table_apart_l2)], []⟩
def E144 {β : Type} (N : Nat) : Env β := VE144 N (impl_Table_blocks N) (impl_Table_size N) (impl_Table_apart_l0 N) (impl_Table_apart_l2 N)
def BV_impl_Table_apart_l0b {β : Type} (N : Nat) (q_impl_Table_apart_l2 : Nat → Int → Int → Int → Int → Int → Int → Int → List Int → List Int → (Int → Int → Int → Int → List Int → List Int → Option β) → Option β)  (v0 : Int) (v1 : Int) (v2 : Int) (v3 : Int) (v4 : List Int) (v5 : List Int) (rec_ : Int → Int → Int → Int → List Int → List Int → Option β) (k0 : Int → Int → List Int → Option β) : Option β :=
(cond ((decide (v1 < v0)))
(q_impl_Table_apart_l2  N v1 v0 v1 ((v4.length : Int)) 0 v2 v3 v4 v5 (fun e6_0 e6_1 e6_2 e6_3 e6_4 e6_5 =>
rec_ e6_0 ((w64 (e6_1 + 1))) e6_2 e6_3 e6_4 e6_5))
(k0 v2 v3 v5))
theorem t_impl_Table_apart_l0b {β : Type} (N : Nat)  (v0 : Int) (v1 : Int) (v2 : Int) (v3 : Int) (v4 : List Int) (v5 : List Int) (rec_ : Int → Int → Int → Int → List Int → List Int → Option β) (k0 : Int → Int → List Int → Option β) : impl_Table_apart_l0b N v0 v1 v2 v3 v4 v5 rec_ k0 = BV_impl_Table_apart_l0b N (impl_Table_apart_l2 N) v0 v1 v2 v3 v4 v5 rec_ k0 := by
  unfold impl_Table_apart_l0b BV_impl_Table_apart_l0b
  rfl
theorem vst144_0_0 {β : Type} (N : Nat) (q_impl_Table_blocks : (a0 : Int) → (a1 : Int) → (a2 : Int) → (k : List Int → Option β) → Option β) (q_impl_Table_size : (a0 : Int) → (a1 : Int) → (k : Int → Option β) → Option β) (q_impl_Table_apart_l0 : Nat → Int → Int → Int → Int → List Int → List Int → (Int → Int → List Int → Option β) → Option β) (q_impl_Table_apart_l2 : Nat → Int → Int → Int → Int → Int → Int → Int → List Int → List Int → (Int → Int → Int → Int → List Int → List Int → Option β) → Option β)  (v0 : Int) (v1 : Int) (v2 : Int) (v3 : Int) (v4 : List Int) (v5 : List Int) (rec_ : St → Option β) (K : Exit → St → Option β) :
    ev lay (VE144 N q_impl_Table_blocks q_impl_Table_size q_impl_Table_apart_l0 q_impl_Table_apart_l2) (retMask Try.f144) (lp Try.f144 0).body (lp Try.f144 0).ex ((lp Try.f144 0).lv (retMask Try.f144)) (h144_0_0  v0 v1 v2 v3 v4 v5) (nextR (fun s' => rec_ (s'.tidy ((lp Try.f144 0).lv (retMask Try.f144)))) K) = BV_impl_Table_apart_l0b N q_impl_Table_apart_l2  v0 v1 v2 v3 v4 v5 (fun v0 v1 v2 v3 v4 v5 => rec_ (h144_0_0  v0 v1 v2 v3 v4 v5)) (fun y0 y1 y2 => K (.exit 0) (x144_0_0_k0  y0 y1 y2)) := by kernel_rfl
theorem st144_0_0 {β : Type} (N : Nat)  (v0 : Int) (v1 : Int) (v2 : Int) (v3 : Int) (v4 : List Int) (v5 : List Int) (rec_ : St → Option β) (K : Exit → St → Option β) :
    ev lay (E144 N) (retMask Try.f144) (lp Try.f144 0).body (lp Try.f144 0).ex ((lp Try.f144 0).lv (retMask Try.f144)) (h144_0_0  v0 v1 v2 v3 v4 v5) (nextR (fun s' => rec_ (s'.tidy ((lp Try.f144 0).lv (retMask Try.f144)))) K) = impl_Table_apart_l0b N  v0 v1 v2 v3 v4 v5 (fun v0 v1 v2 v3 v4 v5 => rec_ (h144_0_0  v0 v1 v2 v3 v4 v5)) (fun y0 y1 y2 => K (.exit 0) (x144_0_0_k0  y0 y1 y2)) := (vst144_0_0 N (impl_Table_blocks N) (impl_Table_size N) (impl_Table_apart_l0 N) (impl_Table_apart_l2 N) v0 v1 v2 v3 v4 v5 rec_ K).trans (t_impl_Table_apart_l0b N  v0 v1 v2 v3 v4 v5 (fun v0 v1 v2 v3 v4 v5 => rec_ (h144_0_0  v0 v1 v2 v3 v4 v5)) (fun y0 y1 y2 => K (.exit 0) (x144_0_0_k0  y0 y1 y2))).symm
theorem ro144_0_0 {β : Type} (N : Nat)  (K : Exit → St → Option β) : ∀ (F : Nat) (v0 : Int) (v1 : Int) (v2 : Int) (v3 : Int) (v4 : List Int) (v5 : List Int), (lp Try.f144 0).rounds lay (E144 N) (retMask Try.f144) F (h144_0_0  v0 v1 v2 v3 v4 v5) K = impl_Table_apart_l0 N  F v0 v1 v2 v3 v4 v5 (fun y0 y1 y2 => K (.exit 0) (x144_0_0_k0  y0 y1 y2)) := by
  intro F
  induction F with
  | zero => intros; rfl
  | succ F ih =>
    intros
    rw [rounds_next]
    refine (st144_0_0 N  _ _ _ _ _ _ (fun s => (lp Try.f144 0).rounds lay (E144 N) (retMask Try.f144) F s K) K).trans ?_
    simp only [ih]
    rfl
theorem lk144_0 {β : Type} (N : Nat) : lookL (E144 (β := β) N).loops (lp Try.f144 0).id = LS144_0 N := by kernel_rfl
theorem rk144_0 {β : Type} (N : Nat) : RoundsOK lay (E144 (β := β) N) (retMask Try.f144) (lp Try.f144 0) := by
  intro s K r h
  rw [lk144_0] at h
  unfold LS144_0 VLS144_0 at h
  cases hb : shpSt (h144_0_0 0 0 0 0 [] []) s with
  | true =>
    rw [hb, cond_true] at h
    exact ⟨N, by rw [← shpSt_ref hb, fl144_0_0 s]; exact (ro144_0_0 N  K N (intS (oneA (vT (nx tund s.tmps 17)))) (intS (oneA (vT (nx tund s.tmps 18)))) (intS (nx .und (cellsB (nx .dead s.blks 0)) 0)) (intS (nx .und (cellsB (nx .dead s.blks 0)) 1)) (rInts (rowB_ (nx .dead s.blks 1))) (rInts (rowB_ (nx .dead s.blks 2)))).trans h⟩
  | false =>
  rw [hb, cond_false] at h
  clear hb
  cases h
def BV_impl_Table_apart_l2b {β : Type} (N : Nat)  (v0 : Int) (v1 : Int) (v2 : Int) (v3 : Int) (v4 : Int) (v5 : Int) (v6 : Int) (v7 : List Int) (v8 : List Int) (rec_ : Int → Int → Int → Int → Int → Int → Int → List Int → List Int → Option β) (k0 : Int → Int → Int → Int → List Int → List Int → Option β) : Option β :=
(cond ((decide (v4 < v3)))
((gd ((decide (0 ≤ v4)))
((gd ((decide (v4 < (v7.length : Int))))
((cond (((bits .andNot .i64 (rd 0 v7 v4) v0) == 0))
((gd ((decide (0 ≤ v0)))
((gd ((decide (v0 < (v8.length : Int))))
((gd ((decide (0 ≤ (bits .andNot .i64 v0 (rd 0 v7 v4)))))
((gd ((decide ((bits .andNot .i64 v0 (rd 0 v7 v4)) < (v8.length : Int))))
((gd ((decide (0 ≤ v0)))
((gd ((decide (v0 < (v8.length : Int))))
(rec_ v0 v1 v2 v3 ((w64 (v4 + 1))) v5 v6 v7 ((wr v8 v0 (mxI (rd 0 v8 v0) (w64 (1 + (rd 0 v8 (bits .andNot .i64 v0 (rd 0 v7 v4)))))))))))))))))))))
(rec_ v0 v1 v2 v3 ((w64 (v4 + 1))) v5 v6 v7 v8)))))))
(k0 v1 v2 v5 v6 v7 v8))
theorem t_impl_Table_apart_l2b {β : Type} (N : Nat)  (v0 : Int) (v1 : Int) (v2 : Int) (v3 : Int) (v4 : Int) (v5 : Int) (v6 : Int) (v7 : List Int) (v8 : List Int) (rec_ : Int → Int → Int → Int → Int → Int → Int → List Int → List Int → Option β) (k0 : Int → Int → Int → Int → List Int → List Int → Option β) : impl_Table_apart_l2b N v0 v1 v2 v3 v4 v5 v6 v7 v8 rec_ k0 = BV_impl_Table_apart_l2b N v0 v1 v2 v3 v4 v5 v6 v7 v8 rec_ k0 := by
  unfold impl_Table_apart_l2b BV_impl_Table_apart_l2b
  rfl
theorem vst144_1_0 {β : Type} (N : Nat) (q_impl_Table_blocks : (a0 : Int) → (a1 : Int) → (a2 : Int) → (k : List Int → Option β) → Option β) (q_impl_Table_size : (a0 : Int) → (a1 : Int) → (k : Int → Option β) → Option β) (q_impl_Table_apart_l0 : Nat → Int → Int → Int → Int → List Int → List Int → (Int → Int → List Int → Option β) → Option β) (q_impl_Table_apart_l2 : Nat → Int → Int → Int → Int → Int → Int → Int → List Int → List Int → (Int → Int → Int → Int → List Int → List Int → Option β) → Option β)  (v0 : Int) (v1 : Int) (v2 : Int) (v3 : Int) (v4 : Int) (v5 : Int) (v6 : Int) (v7 : List Int) (v8 : List Int) (rec_ : St → Option β) (K : Exit → St → Option β) :
    ev lay (VE144 N q_impl_Table_blocks q_impl_Table_size q_impl_Table_apart_l0 q_impl_Table_apart_l2) (retMask Try.f144) (lp Try.f144 1).body (lp Try.f144 1).ex ((lp Try.f144 1).lv (retMask Try.f144)) (h144_1_0  v0 v1 v2 v3 v4 v5 v6 v7 v8) (nextR (fun s' => rec_ (s'.tidy ((lp Try.f144 1).lv (retMask Try.f144)))) K) = BV_impl_Table_apart_l2b N  v0 v1 v2 v3 v4 v5 v6 v7 v8 (fun v0 v1 v2 v3 v4 v5 v6 v7 v8 => rec_ (h144_1_0  v0 v1 v2 v3 v4 v5 v6 v7 v8)) (fun y0 y1 y2 y3 y4 y5 => K (.exit 2) (x144_1_0_k0  y0 y1 y2 y3 y4 y5)) := by kernel_rfl
theorem st144_1_0 {β : Type} (N : Nat)  (v0 : Int) (v1 : Int) (v2 : Int) (v3 : Int) (v4 : Int) (v5 : Int) (v6 : Int) (v7 : List Int) (v8 : List Int) (rec_ : St → Option β) (K : Exit → St → Option β) :
    ev lay (E144 N) (retMask Try.f144) (lp Try.f144 1).body (lp Try.f144 1).ex ((lp Try.f144 1).lv (retMask Try.f144)) (h144_1_0  v0 v1 v2 v3 v4 v5 v6 v7 v8) (nextR (fun s' => rec_ (s'.tidy ((lp Try.f144 1).lv (retMask Try.f144)))) K) = impl_Table_apart_l2b N  v0 v1 v2 v3 v4 v5 v6 v7 v8 (fun v0 v1 v2 v3 v4 v5 v6 v7 v8 => rec_ (h144_1_0  v0 v1 v2 v3 v4 v5 v6 v7 v8)) (fun y0 y1 y2 y3 y4 y5 => K (.exit 2) (x144_1_0_k0  y0 y1 y2 y3 y4 y5)) := (vst144_1_0 N (impl_Table_blocks N) (impl_Table_size N) (impl_Table_apart_l0 N) (impl_Table_apart_l2 N) v0 v1 v2 v3 v4 v5 v6 v7 v8 rec_ K).trans (t_impl_Table_apart_l2b N  v0 v1 v2 v3 v4 v5 v6 v7 v8 (fun v0 v1 v2 v3 v4 v5 v6 v7 v8 => rec_ (h144_1_0  v0 v1 v2 v3 v4 v5 v6 v7 v8)) (fun y0 y1 y2 y3 y4 y5 => K (.exit 2) (x144_1_0_k0  y0 y1 y2 y3 y4 y5))).symm
theorem ro144_1_0 {β : Type} (N : Nat)  (K : Exit → St → Option β) : ∀ (F : Nat) (v0 : Int) (v1 : Int) (v2 : Int) (v3 : Int) (v4 : Int) (v5 : Int) (v6 : Int) (v7 : List Int) (v8 : List Int), (lp Try.f144 1).rounds lay (E144 N) (retMask Try.f144) F (h144_1_0  v0 v1 v2 v3 v4 v5 v6 v7 v8) K = impl_Table_apart_l2 N  F v0 v1 v2 v3 v4 v5 v6 v7 v8 (fun y0 y1 y2 y3 y4 y5 => K (.exit 2) (x144_1_0_k0  y0 y1 y2 y3 y4 y5)) := by
  intro F
  induction F with
  | zero => intros; rfl
  | succ F ih =>
    intros
    rw [rounds_next]
    refine (st144_1_0 N  _ _ _ _ _ _ _ _ _ (fun s => (lp Try.f144 1).rounds lay (E144 N) (retMask Try.f144) F s K) K).trans ?_
    simp only [ih]
    rfl
theorem lk144_2 {β : Type} (N : Nat) : lookL (E144 (β := β) N).loops (lp Try.f144 1).id = LS144_2 N := by kernel_rfl
theorem rk144_2 {β : Type} (N : Nat) : RoundsOK lay (E144 (β := β) N) (retMask Try.f144) (lp Try.f144 1) := by
  intro s K r h
  rw [lk144_2] at h
  unfold LS144_2 VLS144_2 at h
  cases hb : shpSt (h144_1_0 0 0 0 0 0 0 0 [] []) s with
  | true =>
    rw [hb, cond_true] at h
    exact ⟨N, by rw [← shpSt_ref hb, fl144_1_0 s]; exact (ro144_1_0 N  K N (intS (oneA (vT (nx tund s.tmps 7)))) (intS (oneA (vT (nx tund s.tmps 17)))) (intS (oneA (vT (nx tund s.tmps 18)))) (intS (oneA (vT (nx tund s.tmps 22)))) (intS (oneA (vT (nx tund s.tmps 23)))) (intS (nx .und (cellsB (nx .dead s.blks 0)) 0)) (intS (nx .und (cellsB (nx .dead s.blks 0)) 1)) (rInts (rowB_ (nx .dead s.blks 1))) (rInts (rowB_ (nx .dead s.blks 2)))).trans h⟩
  | false =>
  rw [hb, cond_false] at h
  clear hb
  cases h
def BV_impl_Table_apart {β : Type} (N : Nat) (q_impl_Table_blocks : (a0 : Int) → (a1 : Int) → (a2 : Int) → (k : List Int → Option β) → Option β) (q_impl_Table_size : (a0 : Int) → (a1 : Int) → (k : Int → Option β) → Option β) (q_impl_Table_apart_l0 : Nat → Int → Int → Int → Int → List Int → List Int → (Int → Int → List Int → Option β) → Option β) (a0 : Int) (a1 : Int) (a2 : Int) (k : Int → Option β) : Option β :=
q_impl_Table_blocks a0 a1 a2 fun r4 =>
q_impl_Table_size a0 a1 fun r5 =>
(gd ((decide (0 ≤ r5)))
((gd ((decide (r5 ≤ r5)))
((gd ((decide (8 * r5 ≤ 281474976710656)))
(q_impl_Table_apart_l0  N ((((List.replicate (Int.toNat r5) (0 : Int))).length : Int)) 0 a0 a1 r4 ((List.replicate (Int.toNat r5) (0 : Int))) (fun e7_0 e7_1 e7_2 =>
q_impl_Table_size e7_0 e7_1 fun r8 =>
(gd ((decide (0 ≤ (w64 (r8 - 1)))))
((gd ((decide ((w64 (r8 - 1)) < (e7_2.length : Int))))
(k ((rd 0 e7_2 (w64 (r8 - 1)))))))))))))))
theorem t_impl_Table_apart {β : Type} (N : Nat) (a0 : Int) (a1 : Int) (a2 : Int) (k : Int → Option β) : impl_Table_apart N a0 a1 a2 k = BV_impl_Table_apart N (impl_Table_blocks N) (impl_Table_size N) (impl_Table_apart_l0 N) a0 a1 a2 k := by
  unfold impl_Table_apart BV_impl_Table_apart
  rfl
theorem ve144_0 {β : Type} (N : Nat) (q_impl_Table_blocks : (a0 : Int) → (a1 : Int) → (a2 : Int) → (k : List Int → Option β) → Option β) (q_impl_Table_size : (a0 : Int) → (a1 : Int) → (k : Int → Option β) → Option β) (q_impl_Table_apart_l0 : Nat → Int → Int → Int → Int → List Int → List Int → (Int → Int → List Int → Option β) → Option β) (q_impl_Table_apart_l2 : Nat → Int → Int → Int → Int → Int → Int → Int → List Int → List Int → (Int → Int → Int → Int → List Int → List Int → Option β) → Option β)  (a0 : Int) (a1 : Int) (a2 : Int) (K : TV → Option β) : evFn lay (VE144 N q_impl_Table_blocks q_impl_Table_size q_impl_Table_apart_l0 q_impl_Table_apart_l2) Try.f144 [.v (.agg [.int .i64 a0, .int .i64 a1]), .v (.one (.int .i64 a2))] K = BV_impl_Table_apart N q_impl_Table_blocks q_impl_Table_size q_impl_Table_apart_l0 a0 a1 a2 (fun z3 => K (.v (.one (.int .i64 z3)))) := by kernel_rfl
theorem e144_0 {β : Type} (N : Nat)  (a0 : Int) (a1 : Int) (a2 : Int) (K : TV → Option β) : evFn lay (E144 N) Try.f144 [.v (.agg [.int .i64 a0, .int .i64 a1]), .v (.one (.int .i64 a2))] K = impl_Table_apart N a0 a1 a2 (fun z3 => K (.v (.one (.int .i64 z3)))) := (ve144_0 N (impl_Table_blocks N) (impl_Table_size N) (impl_Table_apart_l0 N) (impl_Table_apart_l2 N) a0 a1 a2 K).trans (t_impl_Table_apart N a0 a1 a2 (fun z3 => K (.v (.one (.int .i64 z3))))).symm
theorem o144 {β : Type} (N : Nat) : SpecOK (β := β) Try.prog 144 (S144 N) := by
  refine spec_of lay_ok mixed (E := E144 N) (specs_loops (specs_cons (o155 N) (specs_cons (o82 N) specs_nil))) muts_nil gs_nil Try.func144 (by kernel_rfl) 2 (by kernel_rfl) ⟨⟨trivial, rk144_0 N⟩, rk144_2 N⟩ fun args K r h => ?_
  unfold S144 VS144 at h
  split at h
  · exact (e144_0 N _ _ _ _).trans h
  · cases h
def VS130 {β : Type} (N : Nat) (q_impl_BlockSensitivityOf : (a0 : Int) → (a1 : Int) → (k : Int → Option β) → Option β) : Rv.Spec β := fun args K => match args with
  | [.v (.agg [.int .i64 a0, .int .i64 a1])] => q_impl_BlockSensitivityOf a0 a1 (fun z2 => K (.v (.one (.int .i64 z2))))
  | _ => none
def S130 {β : Type} (N : Nat) : Rv.Spec β := VS130 N (impl_BlockSensitivityOf N)
def h130_0_0  (v0 : Int) (v1 : Int) (v2 : Int) (v3 : Int) (v4 : Int) : St := ⟨.v (.one .und) :: .v (.one (.ptr 0 0)) :: .v (.one .und) :: .v (.one (.int .i64 v0)) :: .v (.one .und) :: .v (.one .und) :: .v (.one .und) :: .v (.one .und) :: .v (.one .und) :: .v (.one (.int .i64 v1)) :: .v (.one (.int .i64 v2)) :: .v (.one .und) :: .v (.one .und) :: .v (.one .und) :: .v (.one .und) :: .v (.one .und) :: .v (.one .und) :: .v (.one .und) :: .v (.one .und) :: .v (.one .und) :: [], [.cells 25 [.int .i64 v3, .int .i64 v4]]⟩
def x130_0_0_k0  (y0 : Int) : St := ⟨.v (.one .und) :: .v (.one .und) :: .v (.one .und) :: .v (.one (.int .i64 y0)) :: .v (.one .und) :: .v (.one .und) :: .v (.one .und) :: .v (.one .und) :: .v (.one .und) :: .v (.one .und) :: .v (.one .und) :: .v (.one .und) :: .v (.one .und) :: .v (.one .und) :: .v (.one .und) :: .v (.one .und) :: .v (.one .und) :: .v (.one .und) :: .v (.one .und) :: .v (.one .und) :: [], []⟩
theorem fl130_0_0 (s : St) : refSt (h130_0_0 0 0 0 0 0) s = h130_0_0 (intS (oneA (vT (nx tund s.tmps 3)))) (intS (oneA (vT (nx tund s.tmps 9)))) (intS (oneA (vT (nx tund s.tmps 10)))) (intS (nx .und (cellsB (nx .dead s.blks 0)) 0)) (intS (nx .und (cellsB (nx .dead s.blks 0)) 1)) := by kernel_rfl
def VLS130_0 {β : Type} (N : Nat) (q_impl_BlockSensitivityOf_l0 : Nat → Int → Int → Int → Int → Int → (Int → Option β) → Option β) : LSpec β := fun s K => cond (shpSt (h130_0_0 0 0 0 0 0) s) ((fun (v0 : Int) (v1 : Int) (v2 : Int) (v3 : Int) (v4 : Int) => q_impl_BlockSensitivityOf_l0  N v0 v1 v2 v3 v4 (fun y0 => K (.exit 0) (x130_0_0_k0  y0))) (intS (oneA (vT (nx tund s.tmps 3)))) (intS (oneA (vT (nx tund s.tmps 9)))) (intS (oneA (vT (nx tund s.tmps 10)))) (intS (nx .und (cellsB (nx .dead s.blks 0)) 0)) (intS (nx .und (cellsB (nx .dead s.blks 0)) 1))) (none)
def LS130_0 {β : Type} (N : Nat) : LSpec β := VLS130_0 N (impl_BlockSensitivityOf_l0 N)
def VE130 {β : Type} (N : Nat) (q_impl_IsTable : (a0 : Int) → (a1 : Int) → (k : Bool → Option β) → Option β) (q_impl_Table_size : (a0 : Int) → (a1 : Int) → (k : Int → Option β) → Option β) (q_impl_Table_apart : (a0 : Int) → (a1 : Int) → (a2 : Int) → (k : Int → Option β) → Option β) (q_impl_BlockSensitivityOf_l0 : Nat → Int → Int → Int → Int → Int → (Int → Option β) → Option β) : Env β := ⟨[(61, VS61 N q_impl_IsTable), (82, VS82 N q_impl_Table_size), (144, VS144 N q_impl_Table_apart)], [], [(0, VLS130_0 N q_impl_BlockSensitivityOf_l0)], []⟩
def E130 {β : Type} (N : Nat) : Env β := VE130 N (impl_IsTable N) (impl_Table_size N) (impl_Table_apart N) (impl_BlockSensitivityOf_l0 N)
def BV_impl_BlockSensitivityOf_l0b {β : Type} (N : Nat) (q_impl_Table_apart : (a0 : Int) → (a1 : Int) → (a2 : Int) → (k : Int → Option β) → Option β)  (v0 : Int) (v1 : Int) (v2 : Int) (v3 : Int) (v4 : Int) (rec_ : Int → Int → Int → Int → Int → Option β) (k0 : Int → Option β) : Option β :=
(cond ((decide (v2 < v1)))
(q_impl_Table_apart v3 v4 v2 fun r5 =>
rec_ ((mxI v0 r5)) v1 ((w64 (v2 + 1))) v3 v4)
(k0 v0))
theorem t_impl_BlockSensitivityOf_l0b {β : Type} (N : Nat)  (v0 : Int) (v1 : Int) (v2 : Int) (v3 : Int) (v4 : Int) (rec_ : Int → Int → Int → Int → Int → Option β) (k0 : Int → Option β) : impl_BlockSensitivityOf_l0b N v0 v1 v2 v3 v4 rec_ k0 = BV_impl_BlockSensitivityOf_l0b N (impl_Table_apart N) v0 v1 v2 v3 v4 rec_ k0 := by
  unfold impl_BlockSensitivityOf_l0b BV_impl_BlockSensitivityOf_l0b
  rfl
theorem vst130_0_0 {β : Type} (N : Nat) (q_impl_IsTable : (a0 : Int) → (a1 : Int) → (k : Bool → Option β) → Option β) (q_impl_Table_size : (a0 : Int) → (a1 : Int) → (k : Int → Option β) → Option β) (q_impl_Table_apart : (a0 : Int) → (a1 : Int) → (a2 : Int) → (k : Int → Option β) → Option β) (q_impl_BlockSensitivityOf_l0 : Nat → Int → Int → Int → Int → Int → (Int → Option β) → Option β)  (v0 : Int) (v1 : Int) (v2 : Int) (v3 : Int) (v4 : Int) (rec_ : St → Option β) (K : Exit → St → Option β) :
    ev lay (VE130 N q_impl_IsTable q_impl_Table_size q_impl_Table_apart q_impl_BlockSensitivityOf_l0) (retMask Try.f130) (lp Try.f130 0).body (lp Try.f130 0).ex ((lp Try.f130 0).lv (retMask Try.f130)) (h130_0_0  v0 v1 v2 v3 v4) (nextR (fun s' => rec_ (s'.tidy ((lp Try.f130 0).lv (retMask Try.f130)))) K) = BV_impl_BlockSensitivityOf_l0b N q_impl_Table_apart  v0 v1 v2 v3 v4 (fun v0 v1 v2 v3 v4 => rec_ (h130_0_0  v0 v1 v2 v3 v4)) (fun y0 => K (.exit 0) (x130_0_0_k0  y0)) := by kernel_rfl
theorem st130_0_0 {β : Type} (N : Nat)  (v0 : Int) (v1 : Int) (v2 : Int) (v3 : Int) (v4 : Int) (rec_ : St → Option β) (K : Exit → St → Option β) :
    ev lay (E130 N) (retMask Try.f130) (lp Try.f130 0).body (lp Try.f130 0).ex ((lp Try.f130 0).lv (retMask Try.f130)) (h130_0_0  v0 v1 v2 v3 v4) (nextR (fun s' => rec_ (s'.tidy ((lp Try.f130 0).lv (retMask Try.f130)))) K) = impl_BlockSensitivityOf_l0b N  v0 v1 v2 v3 v4 (fun v0 v1 v2 v3 v4 => rec_ (h130_0_0  v0 v1 v2 v3 v4)) (fun y0 => K (.exit 0) (x130_0_0_k0  y0)) := (vst130_0_0 N (impl_IsTable N) (impl_Table_size N) (impl_Table_apart N) (impl_BlockSensitivityOf_l0 N) v0 v1 v2 v3 v4 rec_ K).trans (t_impl_BlockSensitivityOf_l0b N  v0 v1 v2 v3 v4 (fun v0 v1 v2 v3 v4 => rec_ (h130_0_0  v0 v1 v2 v3 v4)) (fun y0 => K (.exit 0) (x130_0_0_k0  y0))).symm
theorem ro130_0_0 {β : Type} (N : Nat)  (K : Exit → St → Option β) : ∀ (F : Nat) (v0 : Int) (v1 : Int) (v2 : Int) (v3 : Int) (v4 : Int), (lp Try.f130 0).rounds lay (E130 N) (retMask Try.f130) F (h130_0_0  v0 v1 v2 v3 v4) K = impl_BlockSensitivityOf_l0 N  F v0 v1 v2 v3 v4 (fun y0 => K (.exit 0) (x130_0_0_k0  y0)) := by
  intro F
  induction F with
  | zero => intros; rfl
  | succ F ih =>
    intros
    rw [rounds_next]
    refine (st130_0_0 N  _ _ _ _ _ (fun s => (lp Try.f130 0).rounds lay (E130 N) (retMask Try.f130) F s K) K).trans ?_
    simp only [ih]
    rfl
theorem lk130_0 {β : Type} (N : Nat) : lookL (E130 (β := β) N).loops (lp Try.f130 0).id = LS130_0 N := by kernel_rfl
theorem rk130_0 {β : Type} (N : Nat) : RoundsOK lay (E130 (β := β) N) (retMask Try.f130) (lp Try.f130 0) := by
  intro s K r h
  rw [lk130_0] at h
  unfold LS130_0 VLS130_0 at h
  cases hb : shpSt (h130_0_0 0 0 0 0 0) s with
  | true =>
    rw [hb, cond_true] at h
    exact ⟨N, by rw [← shpSt_ref hb, fl130_0_0 s]; exact (ro130_0_0 N  K N (intS (oneA (vT (nx tund s.tmps 3)))) (intS (oneA (vT (nx tund s.tmps 9)))) (intS (oneA (vT (nx tund s.tmps 10)))) (intS (nx .und (cellsB (nx .dead s.blks 0)) 0)) (intS (nx .und (cellsB (nx .dead s.blks 0)) 1))).trans h⟩
  | false =>
  rw [hb, cond_false] at h
  clear hb
  cases h
def BV_impl_BlockSensitivityOf {β : Type} (N : Nat) (q_impl_IsTable : (a0 : Int) → (a1 : Int) → (k : Bool → Option β) → Option β) (q_impl_Table_size : (a0 : Int) → (a1 : Int) → (k : Int → Option β) → Option β) (q_impl_BlockSensitivityOf_l0 : Nat → Int → Int → Int → Int → Int → (Int → Option β) → Option β) (a0 : Int) (a1 : Int) (k : Int → Option β) : Option β :=
q_impl_IsTable a0 a1 fun r3 =>
(cond (!r3)
(k (-1))
(q_impl_Table_size a0 a1 fun r4 =>
q_impl_BlockSensitivityOf_l0  N 0 r4 0 a0 a1 (fun e6_0 =>
k e6_0)))
theorem t_impl_BlockSensitivityOf {β : Type} (N : Nat) (a0 : Int) (a1 : Int) (k : Int → Option β) : impl_BlockSensitivityOf N a0 a1 k = BV_impl_BlockSensitivityOf N (impl_IsTable N) (impl_Table_size N) (impl_BlockSensitivityOf_l0 N) a0 a1 k := by
  unfold impl_BlockSensitivityOf BV_impl_BlockSensitivityOf
  rfl
theorem ve130_0 {β : Type} (N : Nat) (q_impl_IsTable : (a0 : Int) → (a1 : Int) → (k : Bool → Option β) → Option β) (q_impl_Table_size : (a0 : Int) → (a1 : Int) → (k : Int → Option β) → Option β) (q_impl_Table_apart : (a0 : Int) → (a1 : Int) → (a2 : Int) → (k : Int → Option β) → Option β) (q_impl_BlockSensitivityOf_l0 : Nat → Int → Int → Int → Int → Int → (Int → Option β) → Option β)  (a0 : Int) (a1 : Int) (K : TV → Option β) : evFn lay (VE130 N q_impl_IsTable q_impl_Table_size q_impl_Table_apart q_impl_BlockSensitivityOf_l0) Try.f130 [.v (.agg [.int .i64 a0, .int .i64 a1])] K = BV_impl_BlockSensitivityOf N q_impl_IsTable q_impl_Table_size q_impl_BlockSensitivityOf_l0 a0 a1 (fun z2 => K (.v (.one (.int .i64 z2)))) := by kernel_rfl
theorem e130_0 {β : Type} (N : Nat)  (a0 : Int) (a1 : Int) (K : TV → Option β) : evFn lay (E130 N) Try.f130 [.v (.agg [.int .i64 a0, .int .i64 a1])] K = impl_BlockSensitivityOf N a0 a1 (fun z2 => K (.v (.one (.int .i64 z2)))) := (ve130_0 N (impl_IsTable N) (impl_Table_size N) (impl_Table_apart N) (impl_BlockSensitivityOf_l0 N) a0 a1 K).trans (t_impl_BlockSensitivityOf N a0 a1 (fun z2 => K (.v (.one (.int .i64 z2))))).symm
theorem o130 {β : Type} (N : Nat) : SpecOK (β := β) Try.prog 130 (S130 N) := by
  refine spec_of lay_ok mixed (E := E130 N) (specs_loops (specs_cons (o61 N) (specs_cons (o82 N) (specs_cons (o144 N) specs_nil)))) muts_nil gs_nil Try.func130 (by kernel_rfl) 1 (by kernel_rfl) ⟨trivial, rk130_0 N⟩ fun args K r h => ?_
  unfold S130 VS130 at h
  split at h
  · exact (e130_0 N _ _ _).trans h
  · cases h
def VS75 {β : Type} (N : Nat) (q_impl_isBit : (a0 : Int) → (k : Bool → Option β) → Option β) : Rv.Spec β := fun args K => match args with
  | [.v (.one (.int .i64 a0))] => q_impl_isBit a0 (fun z1 => K (.v (.one (.bool z1))))
  | _ => none
def S75 {β : Type} (N : Nat) : Rv.Spec β := VS75 N (impl_isBit N)
def VE75 {β : Type} (N : Nat) : Env β := ⟨[], [], [], []⟩
def E75 {β : Type} (N : Nat) : Env β := VE75 N
def BV_impl_isBit {β : Type} (N : Nat) (a0 : Int) (k : Bool → Option β) : Option β :=
(cond ((a0 == 0))
(k true)
(k ((a0 == 1))))
theorem t_impl_isBit {β : Type} (N : Nat) (a0 : Int) (k : Bool → Option β) : impl_isBit N a0 k = BV_impl_isBit N a0 k := by
  unfold impl_isBit BV_impl_isBit
  rfl
theorem ve75_0 {β : Type} (N : Nat)  (a0 : Int) (K : TV → Option β) : evFn lay (VE75 N) Try.f75 [.v (.one (.int .i64 a0))] K = BV_impl_isBit N a0 (fun z1 => K (.v (.one (.bool z1)))) := by kernel_rfl
theorem e75_0 {β : Type} (N : Nat)  (a0 : Int) (K : TV → Option β) : evFn lay (E75 N) Try.f75 [.v (.one (.int .i64 a0))] K = impl_isBit N a0 (fun z1 => K (.v (.one (.bool z1)))) := (ve75_0 N a0 K).trans (t_impl_isBit N a0 (fun z1 => K (.v (.one (.bool z1))))).symm
theorem o75 {β : Type} (N : Nat) : SpecOK (β := β) Try.prog 75 (S75 N) := by
  refine spec_of lay_ok mixed (E := E75 N) (specs_loops specs_nil) muts_nil gs_nil Try.func75 (by kernel_rfl) 0 (by kernel_rfl) trivial fun args K r h => ?_
  unfold S75 VS75 at h
  split at h
  · exact (e75_0 N _ _).trans h
  · cases h
def VS112 {β : Type} (N : Nat) (q_math_bits_OnesCount64 : (a0 : Int) → (k : Int → Option β) → Option β) : Rv.Spec β := fun args K => match args with
  | [.v (.one (.int .u64 a0))] => q_math_bits_OnesCount64 a0 (fun z1 => K (.v (.one (.int .i64 z1))))
  | _ => none
def S112 {β : Type} (N : Nat) : Rv.Spec β := VS112 N (math_bits_OnesCount64 N)
def VE112 {β : Type} (N : Nat) : Env β := ⟨[], [], [], []⟩
def E112 {β : Type} (N : Nat) : Env β := VE112 N
def BV_math_bits_OnesCount64 {β : Type} (N : Nat) (a0 : Int) (k : Int → Option β) : Option β :=
k ((bits .and .i64 (w64 ((wu64 ((wu64 ((wu64 ((bits .and .u64 (wu64 ((shrI .u64 (wu64 ((bits .and .u64 (shrI .u64 (wu64 ((bits .and .u64 (shrI .u64 a0 1) 6148914691236517205) + (bits .and .u64 a0 6148914691236517205))) 2) 3689348814741910323) + (bits .and .u64 (wu64 ((bits .and .u64 (shrI .u64 a0 1) 6148914691236517205) + (bits .and .u64 a0 6148914691236517205))) 3689348814741910323))) 4) + (wu64 ((bits .and .u64 (shrI .u64 (wu64 ((bits .and .u64 (shrI .u64 a0 1) 6148914691236517205) + (bits .and .u64 a0 6148914691236517205))) 2) 3689348814741910323) + (bits .and .u64 (wu64 ((bits .and .u64 (shrI .u64 a0 1) 6148914691236517205) + (bits .and .u64 a0 6148914691236517205))) 3689348814741910323))))) 1085102592571150095) + (shrI .u64 (bits .and .u64 (wu64 ((shrI .u64 (wu64 ((bits .and .u64 (shrI .u64 (wu64 ((bits .and .u64 (shrI .u64 a0 1) 6148914691236517205) + (bits .and .u64 a0 6148914691236517205))) 2) 3689348814741910323) + (bits .and .u64 (wu64 ((bits .and .u64 (shrI .u64 a0 1) 6148914691236517205) + (bits .and .u64 a0 6148914691236517205))) 3689348814741910323))) 4) + (wu64 ((bits .and .u64 (shrI .u64 (wu64 ((bits .and .u64 (shrI .u64 a0 1) 6148914691236517205) + (bits .and .u64 a0 6148914691236517205))) 2) 3689348814741910323) + (bits .and .u64 (wu64 ((bits .and .u64 (shrI .u64 a0 1) 6148914691236517205) + (bits .and .u64 a0 6148914691236517205))) 3689348814741910323))))) 1085102592571150095) 8))) + (shrI .u64 (wu64 ((bits .and .u64 (wu64 ((shrI .u64 (wu64 ((bits .and .u64 (shrI .u64 (wu64 ((bits .and .u64 (shrI .u64 a0 1) 6148914691236517205) + (bits .and .u64 a0 6148914691236517205))) 2) 3689348814741910323) + (bits .and .u64 (wu64 ((bits .and .u64 (shrI .u64 a0 1) 6148914691236517205) + (bits .and .u64 a0 6148914691236517205))) 3689348814741910323))) 4) + (wu64 ((bits .and .u64 (shrI .u64 (wu64 ((bits .and .u64 (shrI .u64 a0 1) 6148914691236517205) + (bits .and .u64 a0 6148914691236517205))) 2) 3689348814741910323) + (bits .and .u64 (wu64 ((bits .and .u64 (shrI .u64 a0 1) 6148914691236517205) + (bits .and .u64 a0 6148914691236517205))) 3689348814741910323))))) 1085102592571150095) + (shrI .u64 (bits .and .u64 (wu64 ((shrI .u64 (wu64 ((bits .and .u64 (shrI .u64 (wu64 ((bits .and .u64 (shrI .u64 a0 1) 6148914691236517205) + (bits .and .u64 a0 6148914691236517205))) 2) 3689348814741910323) + (bits .and .u64 (wu64 ((bits .and .u64 (shrI .u64 a0 1) 6148914691236517205) + (bits .and .u64 a0 6148914691236517205))) 3689348814741910323))) 4) + (wu64 ((bits .and .u64 (shrI .u64 (wu64 ((bits .and .u64 (shrI .u64 a0 1) 6148914691236517205) + (bits .and .u64 a0 6148914691236517205))) 2) 3689348814741910323) + (bits .and .u64 (wu64 ((bits .and .u64 (shrI .u64 a0 1) 6148914691236517205) + (bits .and .u64 a0 6148914691236517205))) 3689348814741910323))))) 1085102592571150095) 8))) 16))) + (shrI .u64 (wu64 ((wu64 ((bits .and .u64 (wu64 ((shrI .u64 (wu64 ((bits .and .u64 (shrI .u64 (wu64 ((bits .and .u64 (shrI .u64 a0 1) 6148914691236517205) + (bits .and .u64 a0 6148914691236517205))) 2) 3689348814741910323) + (bits .and .u64 (wu64 ((bits .and .u64 (shrI .u64 a0 1) 6148914691236517205) + (bits .and .u64 a0 6148914691236517205))) 3689348814741910323))) 4) + (wu64 ((bits .and .u64 (shrI .u64 (wu64 ((bits .and .u64 (shrI .u64 a0 1) 6148914691236517205) + (bits .and .u64 a0 6148914691236517205))) 2) 3689348814741910323) + (bits .and .u64 (wu64 ((bits .and .u64 (shrI .u64 a0 1) 6148914691236517205) + (bits .and .u64 a0 6148914691236517205))) 3689348814741910323))))) 1085102592571150095) + (shrI .u64 (bits .and .u64 (wu64 ((shrI .u64 (wu64 ((bits .and .u64 (shrI .u64 (wu64 ((bits .and .u64 (shrI .u64 a0 1) 6148914691236517205) + (bits .and .u64 a0 6148914691236517205))) 2) 3689348814741910323) + (bits .and .u64 (wu64 ((bits .and .u64 (shrI .u64 a0 1) 6148914691236517205) + (bits .and .u64 a0 6148914691236517205))) 3689348814741910323))) 4) + (wu64 ((bits .and .u64 (shrI .u64 (wu64 ((bits .and .u64 (shrI .u64 a0 1) 6148914691236517205) + (bits .and .u64 a0 6148914691236517205))) 2) 3689348814741910323) + (bits .and .u64 (wu64 ((bits .and .u64 (shrI .u64 a0 1) 6148914691236517205) + (bits .and .u64 a0 6148914691236517205))) 3689348814741910323))))) 1085102592571150095) 8))) + (shrI .u64 (wu64 ((bits .and .u64 (wu64 ((shrI .u64 (wu64 ((bits .and .u64 (shrI .u64 (wu64 ((bits .and .u64 (shrI .u64 a0 1) 6148914691236517205) + (bits .and .u64 a0 6148914691236517205))) 2) 3689348814741910323) + (bits .and .u64 (wu64 ((bits .and .u64 (shrI .u64 a0 1) 6148914691236517205) + (bits .and .u64 a0 6148914691236517205))) 3689348814741910323))) 4) + (wu64 ((bits .and .u64 (shrI .u64 (wu64 ((bits .and .u64 (shrI .u64 a0 1) 6148914691236517205) + (bits .and .u64 a0 6148914691236517205))) 2) 3689348814741910323) + (bits .and .u64 (wu64 ((bits .and .u64 (shrI .u64 a0 1) 6148914691236517205) + (bits .and .u64 a0 6148914691236517205))) 3689348814741910323))))) 1085102592571150095) + (shrI .u64 (bits .and .u64 (wu64 ((shrI .u64 (wu64 ((bits .and .u64 (shrI .u64 (wu64 ((bits .and .u64 (shrI .u64 a0 1) 6148914691236517205) + (bits .and .u64 a0 6148914691236517205))) 2) 3689348814741910323) + (bits .and .u64 (wu64 ((bits .and .u64 (shrI .u64 a0 1) 6148914691236517205) + (bits .and .u64 a0 6148914691236517205))) 3689348814741910323))) 4) + (wu64 ((bits .and .u64 (shrI .u64 (wu64 ((bits .and .u64 (shrI .u64 a0 1) 6148914691236517205) + (bits .and .u64 a0 6148914691236517205))) 2) 3689348814741910323) + (bits .and .u64 (wu64 ((bits .and .u64 (shrI .u64 a0 1) 6148914691236517205) + (bits .and .u64 a0 6148914691236517205))) 3689348814741910323))))) 1085102592571150095) 8))) 16))) 32))))) 127))
theorem t_math_bits_OnesCount64 {β : Type} (N : Nat) (a0 : Int) (k : Int → Option β) : math_bits_OnesCount64 N a0 k = BV_math_bits_OnesCount64 N a0 k := by
  unfold math_bits_OnesCount64 BV_math_bits_OnesCount64
  rfl
theorem ve112_0 {β : Type} (N : Nat)  (a0 : Int) (K : TV → Option β) : evFn lay (VE112 N) Try.f112 [.v (.one (.int .u64 a0))] K = BV_math_bits_OnesCount64 N a0 (fun z1 => K (.v (.one (.int .i64 z1)))) := by kernel_rfl
theorem e112_0 {β : Type} (N : Nat)  (a0 : Int) (K : TV → Option β) : evFn lay (E112 N) Try.f112 [.v (.one (.int .u64 a0))] K = math_bits_OnesCount64 N a0 (fun z1 => K (.v (.one (.int .i64 z1)))) := (ve112_0 N a0 K).trans (t_math_bits_OnesCount64 N a0 (fun z1 => K (.v (.one (.int .i64 z1))))).symm
theorem o112 {β : Type} (N : Nat) : SpecOK (β := β) Try.prog 112 (S112 N) := by
  refine spec_of lay_ok mixed (E := E112 N) (specs_loops specs_nil) muts_nil gs_nil Try.func112 (by kernel_rfl) 0 (by kernel_rfl) trivial fun args K r h => ?_
  unfold S112 VS112 at h
  split at h
  · exact (e112_0 N _ _).trans h
  · cases h
def VS64 {β : Type} (N : Nat) (q_impl_ones : (a0 : Int) → (k : Int → Option β) → Option β) : Rv.Spec β := fun args K => match args with
  | [.v (.one (.int .i64 a0))] => q_impl_ones a0 (fun z1 => K (.v (.one (.int .i64 z1))))
  | _ => none
def S64 {β : Type} (N : Nat) : Rv.Spec β := VS64 N (impl_ones N)
def VE64 {β : Type} (N : Nat) (q_math_bits_OnesCount64 : (a0 : Int) → (k : Int → Option β) → Option β) : Env β := ⟨[(112, VS112 N q_math_bits_OnesCount64)], [], [], []⟩
def E64 {β : Type} (N : Nat) : Env β := VE64 N (math_bits_OnesCount64 N)
def BV_impl_ones {β : Type} (N : Nat) (q_math_bits_OnesCount64 : (a0 : Int) → (k : Int → Option β) → Option β) (a0 : Int) (k : Int → Option β) : Option β :=
q_math_bits_OnesCount64 ((wu64 (a0))) fun r2 =>
k r2
theorem t_impl_ones {β : Type} (N : Nat) (a0 : Int) (k : Int → Option β) : impl_ones N a0 k = BV_impl_ones N (math_bits_OnesCount64 N) a0 k := by
  unfold impl_ones BV_impl_ones
  rfl
theorem ve64_0 {β : Type} (N : Nat) (q_math_bits_OnesCount64 : (a0 : Int) → (k : Int → Option β) → Option β)  (a0 : Int) (K : TV → Option β) : evFn lay (VE64 N q_math_bits_OnesCount64) Try.f64 [.v (.one (.int .i64 a0))] K = BV_impl_ones N q_math_bits_OnesCount64 a0 (fun z1 => K (.v (.one (.int .i64 z1)))) := by kernel_rfl
theorem e64_0 {β : Type} (N : Nat)  (a0 : Int) (K : TV → Option β) : evFn lay (E64 N) Try.f64 [.v (.one (.int .i64 a0))] K = impl_ones N a0 (fun z1 => K (.v (.one (.int .i64 z1)))) := (ve64_0 N (math_bits_OnesCount64 N) a0 K).trans (t_impl_ones N a0 (fun z1 => K (.v (.one (.int .i64 z1))))).symm
theorem o64 {β : Type} (N : Nat) : SpecOK (β := β) Try.prog 64 (S64 N) := by
  refine spec_of lay_ok mixed (E := E64 N) (specs_loops (specs_cons (o112 N) specs_nil)) muts_nil gs_nil Try.func64 (by kernel_rfl) 0 (by kernel_rfl) trivial fun args K r h => ?_
  unfold S64 VS64 at h
  split at h
  · exact (e64_0 N _ _).trans h
  · cases h
def VS156 {β : Type} (N : Nat) (q_impl_Table_cube : (a0 : Int) → (a1 : Int) → (a2 : Int) → (a3 : Int) → (k : Int → Option β) → Option β) : Rv.Spec β := fun args K => match args with
  | [.v (.agg [.int .i64 a0, .int .i64 a1]), .v (.one (.int .i64 a2)), .v (.one (.int .i64 a3))] => q_impl_Table_cube a0 a1 a2 a3 (fun z4 => K (.v (.one (.int .i64 z4))))
  | _ => none
def S156 {β : Type} (N : Nat) : Rv.Spec β := VS156 N (impl_Table_cube N)
def h156_0_0  (v0 : Int) (v1 : Int) (v2 : Int) (v3 : Int) (v4 : Int) (v5 : Int) (v6 : Bool) (v7 : Bool) : St := ⟨.v (.one .und) :: .v (.one (.int .i64 v0)) :: .v (.one (.int .i64 v1)) :: .v (.one (.ptr 0 0)) :: .v (.one .und) :: .v (.one .und) :: .v (.one .und) :: .v (.one (.ptr 1 0)) :: .v (.one .und) :: .v (.one .und) :: .v (.one .und) :: .v (.one (.int .i64 v2)) :: .v (.one (.int .i64 v3)) :: .v (.one .und) :: .v (.one .und) :: .v (.one .und) :: .v (.one .und) :: .v (.one .und) :: .v (.one .und) :: .v (.one .und) :: .v (.one .und) :: .v (.one .und) :: .v (.one .und) :: .v (.one .und) :: .v (.one .und) :: .v (.one .und) :: .v (.one .und) :: .v (.one .und) :: .v (.one .und) :: .v (.one .und) :: .v (.one .und) :: .v (.one .und) :: .v (.one .und) :: .v (.one .und) :: .v (.one .und) :: [], [.cells 25 [.int .i64 v4, .int .i64 v5], .cells 120 [.bool v6, .bool v7]]⟩
def x156_0_0_k0  (y0 : Bool) (y1 : Bool) : St := ⟨.v (.one .und) :: .v (.one .und) :: .v (.one .und) :: .v (.one .und) :: .v (.one .und) :: .v (.one .und) :: .v (.one .und) :: .v (.one (.ptr 0 0)) :: .v (.one .und) :: .v (.one .und) :: .v (.one .und) :: .v (.one .und) :: .v (.one .und) :: .v (.one .und) :: .v (.one .und) :: .v (.one .und) :: .v (.one .und) :: .v (.one .und) :: .v (.one .und) :: .v (.one .und) :: .v (.one .und) :: .v (.one .und) :: .v (.one .und) :: .v (.one .und) :: .v (.one .und) :: .v (.one .und) :: .v (.one .und) :: .v (.one .und) :: .v (.one .und) :: .v (.one .und) :: .v (.one .und) :: .v (.one .und) :: .v (.one .und) :: .v (.one .und) :: .v (.one .und) :: [], [.cells 120 [.bool y0, .bool y1]]⟩
theorem fl156_0_0 (s : St) : refSt (h156_0_0 0 0 0 0 0 0 false false) s = h156_0_0 (intS (oneA (vT (nx tund s.tmps 1)))) (intS (oneA (vT (nx tund s.tmps 2)))) (intS (oneA (vT (nx tund s.tmps 11)))) (intS (oneA (vT (nx tund s.tmps 12)))) (intS (nx .und (cellsB (nx .dead s.blks 0)) 0)) (intS (nx .und (cellsB (nx .dead s.blks 0)) 1)) (boolS (nx .und (cellsB (nx .dead s.blks 1)) 0)) (boolS (nx .und (cellsB (nx .dead s.blks 1)) 1)) := by kernel_rfl
def VLS156_0 {β : Type} (N : Nat) (q_impl_Table_cube_l0 : Nat → Int → Int → Int → Int → Int → Int → Bool → Bool → (Bool → Bool → Option β) → Option β) : LSpec β := fun s K => cond (shpSt (h156_0_0 0 0 0 0 0 0 false false) s) ((fun (v0 : Int) (v1 : Int) (v2 : Int) (v3 : Int) (v4 : Int) (v5 : Int) (v6 : Bool) (v7 : Bool) => q_impl_Table_cube_l0  N v0 v1 v2 v3 v4 v5 v6 v7 (fun y0 y1 => K (.exit 0) (x156_0_0_k0  y0 y1))) (intS (oneA (vT (nx tund s.tmps 1)))) (intS (oneA (vT (nx tund s.tmps 2)))) (intS (oneA (vT (nx tund s.tmps 11)))) (intS (oneA (vT (nx tund s.tmps 12)))) (intS (nx .und (cellsB (nx .dead s.blks 0)) 0)) (intS (nx .und (cellsB (nx .dead s.blks 0)) 1)) (boolS (nx .und (cellsB (nx .dead s.blks 1)) 0)) (boolS (nx .und (cellsB (nx .dead s.blks 1)) 1))) (none)
def LS156_0 {β : Type} (N : Nat) : LSpec β := VLS156_0 N (impl_Table_cube_l0 N)
def VE156 {β : Type} (N : Nat) (q_impl_Table_size : (a0 : Int) → (a1 : Int) → (k : Int → Option β) → Option β) (q_impl_Table_at : (a0 : Int) → (a1 : Int) → (a2 : Int) → (k : Int → Option β) → Option β) (q_impl_Table_cube_l0 : Nat → Int → Int → Int → Int → Int → Int → Bool → Bool → (Bool → Bool → Option β) → Option β) : Env β := ⟨[(82, VS82 N q_impl_Table_size), (120, VS120 N q_impl_Table_at)], [], [(0, VLS156_0 N q_impl_Table_cube_l0)], []⟩
def E156 {β : Type} (N : Nat) : Env β := VE156 N (impl_Table_size N) (impl_Table_at N) (impl_Table_cube_l0 N)
def BV_impl_Table_cube_l0b {β : Type} (N : Nat) (q_impl_Table_at : (a0 : Int) → (a1 : Int) → (a2 : Int) → (k : Int → Option β) → Option β)  (v0 : Int) (v1 : Int) (v2 : Int) (v3 : Int) (v4 : Int) (v5 : Int) (v6 : Bool) (v7 : Bool) (rec_ : Int → Int → Int → Int → Int → Int → Bool → Bool → Option β) (k0 : Bool → Bool → Option β) : Option β :=
(cond ((decide (v3 < v2)))
((cond (((bits .and .i64 v3 v0) == v1))
(q_impl_Table_at v4 v5 v3 fun r6 =>
(gd ((decide (0 ≤ r6)))
((gd ((decide (r6 < 2)))
((cond ((r6 == 0))
(rec_ v0 v1 v2 ((w64 (v3 + 1))) v4 v5 true v7)
(rec_ v0 v1 v2 ((w64 (v3 + 1))) v4 v5 v6 true)))))))
(rec_ v0 v1 v2 ((w64 (v3 + 1))) v4 v5 v6 v7)))
(k0 v6 v7))
theorem t_impl_Table_cube_l0b {β : Type} (N : Nat)  (v0 : Int) (v1 : Int) (v2 : Int) (v3 : Int) (v4 : Int) (v5 : Int) (v6 : Bool) (v7 : Bool) (rec_ : Int → Int → Int → Int → Int → Int → Bool → Bool → Option β) (k0 : Bool → Bool → Option β) : impl_Table_cube_l0b N v0 v1 v2 v3 v4 v5 v6 v7 rec_ k0 = BV_impl_Table_cube_l0b N (impl_Table_at N) v0 v1 v2 v3 v4 v5 v6 v7 rec_ k0 := by
  unfold impl_Table_cube_l0b BV_impl_Table_cube_l0b
  rfl
theorem vst156_0_0 {β : Type} (N : Nat) (q_impl_Table_size : (a0 : Int) → (a1 : Int) → (k : Int → Option β) → Option β) (q_impl_Table_at : (a0 : Int) → (a1 : Int) → (a2 : Int) → (k : Int → Option β) → Option β) (q_impl_Table_cube_l0 : Nat → Int → Int → Int → Int → Int → Int → Bool → Bool → (Bool → Bool → Option β) → Option β)  (v0 : Int) (v1 : Int) (v2 : Int) (v3 : Int) (v4 : Int) (v5 : Int) (v6 : Bool) (v7 : Bool) (rec_ : St → Option β) (K : Exit → St → Option β) :
    ev lay (VE156 N q_impl_Table_size q_impl_Table_at q_impl_Table_cube_l0) (retMask Try.f156) (lp Try.f156 0).body (lp Try.f156 0).ex ((lp Try.f156 0).lv (retMask Try.f156)) (h156_0_0  v0 v1 v2 v3 v4 v5 v6 v7) (nextR (fun s' => rec_ (s'.tidy ((lp Try.f156 0).lv (retMask Try.f156)))) K) = BV_impl_Table_cube_l0b N q_impl_Table_at  v0 v1 v2 v3 v4 v5 v6 v7 (fun v0 v1 v2 v3 v4 v5 v6 v7 => rec_ (h156_0_0  v0 v1 v2 v3 v4 v5 v6 v7)) (fun y0 y1 => K (.exit 0) (x156_0_0_k0  y0 y1)) := by kernel_rfl
theorem st156_0_0 {β : Type} (N : Nat)  (v0 : Int) (v1 : Int) (v2 : Int) (v3 : Int) (v4 : Int) (v5 : Int) (v6 : Bool) (v7 : Bool) (rec_ : St → Option β) (K : Exit → St → Option β) :
    ev lay (E156 N) (retMask Try.f156) (lp Try.f156 0).body (lp Try.f156 0).ex ((lp Try.f156 0).lv (retMask Try.f156)) (h156_0_0  v0 v1 v2 v3 v4 v5 v6 v7) (nextR (fun s' => rec_ (s'.tidy ((lp Try.f156 0).lv (retMask Try.f156)))) K) = impl_Table_cube_l0b N  v0 v1 v2 v3 v4 v5 v6 v7 (fun v0 v1 v2 v3 v4 v5 v6 v7 => rec_ (h156_0_0  v0 v1 v2 v3 v4 v5 v6 v7)) (fun y0 y1 => K (.exit 0) (x156_0_0_k0  y0 y1)) := (vst156_0_0 N (impl_Table_size N) (impl_Table_at N) (impl_Table_cube_l0 N) v0 v1 v2 v3 v4 v5 v6 v7 rec_ K).trans (t_impl_Table_cube_l0b N  v0 v1 v2 v3 v4 v5 v6 v7 (fun v0 v1 v2 v3 v4 v5 v6 v7 => rec_ (h156_0_0  v0 v1 v2 v3 v4 v5 v6 v7)) (fun y0 y1 => K (.exit 0) (x156_0_0_k0  y0 y1))).symm
theorem ro156_0_0 {β : Type} (N : Nat)  (K : Exit → St → Option β) : ∀ (F : Nat) (v0 : Int) (v1 : Int) (v2 : Int) (v3 : Int) (v4 : Int) (v5 : Int) (v6 : Bool) (v7 : Bool), (lp Try.f156 0).rounds lay (E156 N) (retMask Try.f156) F (h156_0_0  v0 v1 v2 v3 v4 v5 v6 v7) K = impl_Table_cube_l0 N  F v0 v1 v2 v3 v4 v5 v6 v7 (fun y0 y1 => K (.exit 0) (x156_0_0_k0  y0 y1)) := by
  intro F
  induction F with
  | zero => intros; rfl
  | succ F ih =>
    intros
    rw [rounds_next]
    refine (st156_0_0 N  _ _ _ _ _ _ _ _ (fun s => (lp Try.f156 0).rounds lay (E156 N) (retMask Try.f156) F s K) K).trans ?_
    simp only [ih]
    rfl
theorem lk156_0 {β : Type} (N : Nat) : lookL (E156 (β := β) N).loops (lp Try.f156 0).id = LS156_0 N := by kernel_rfl
theorem rk156_0 {β : Type} (N : Nat) : RoundsOK lay (E156 (β := β) N) (retMask Try.f156) (lp Try.f156 0) := by
  intro s K r h
  rw [lk156_0] at h
  unfold LS156_0 VLS156_0 at h
  cases hb : shpSt (h156_0_0 0 0 0 0 0 0 false false) s with
  | true =>
    rw [hb, cond_true] at h
    exact ⟨N, by rw [← shpSt_ref hb, fl156_0_0 s]; exact (ro156_0_0 N  K N (intS (oneA (vT (nx tund s.tmps 1)))) (intS (oneA (vT (nx tund s.tmps 2)))) (intS (oneA (vT (nx tund s.tmps 11)))) (intS (oneA (vT (nx tund s.tmps 12)))) (intS (nx .und (cellsB (nx .dead s.blks 0)) 0)) (intS (nx .und (cellsB (nx .dead s.blks 0)) 1)) (boolS (nx .und (cellsB (nx .dead s.blks 1)) 0)) (boolS (nx .und (cellsB (nx .dead s.blks 1)) 1))).trans h⟩
  | false =>
  rw [hb, cond_false] at h
  clear hb
  cases h
def BV_impl_Table_cube {β : Type} (N : Nat) (q_impl_Table_size : (a0 : Int) → (a1 : Int) → (k : Int → Option β) → Option β) (q_impl_Table_cube_l0 : Nat → Int → Int → Int → Int → Int → Int → Bool → Bool → (Bool → Bool → Option β) → Option β) (a0 : Int) (a1 : Int) (a2 : Int) (a3 : Int) (k : Int → Option β) : Option β :=
q_impl_Table_size a0 a1 fun r5 =>
q_impl_Table_cube_l0  N a2 a3 r5 0 a0 a1 false false (fun e7_0 e7_1 =>
(cond e7_0
((cond e7_1
(k 2)
((cond e7_1
(k 1)
(k 0)))))
((cond e7_1
(k 1)
(k 0)))))
theorem t_impl_Table_cube {β : Type} (N : Nat) (a0 : Int) (a1 : Int) (a2 : Int) (a3 : Int) (k : Int → Option β) : impl_Table_cube N a0 a1 a2 a3 k = BV_impl_Table_cube N (impl_Table_size N) (impl_Table_cube_l0 N) a0 a1 a2 a3 k := by
  unfold impl_Table_cube BV_impl_Table_cube
  rfl
theorem ve156_0 {β : Type} (N : Nat) (q_impl_Table_size : (a0 : Int) → (a1 : Int) → (k : Int → Option β) → Option β) (q_impl_Table_at : (a0 : Int) → (a1 : Int) → (a2 : Int) → (k : Int → Option β) → Option β) (q_impl_Table_cube_l0 : Nat → Int → Int → Int → Int → Int → Int → Bool → Bool → (Bool → Bool → Option β) → Option β)  (a0 : Int) (a1 : Int) (a2 : Int) (a3 : Int) (K : TV → Option β) : evFn lay (VE156 N q_impl_Table_size q_impl_Table_at q_impl_Table_cube_l0) Try.f156 [.v (.agg [.int .i64 a0, .int .i64 a1]), .v (.one (.int .i64 a2)), .v (.one (.int .i64 a3))] K = BV_impl_Table_cube N q_impl_Table_size q_impl_Table_cube_l0 a0 a1 a2 a3 (fun z4 => K (.v (.one (.int .i64 z4)))) := by kernel_rfl
theorem e156_0 {β : Type} (N : Nat)  (a0 : Int) (a1 : Int) (a2 : Int) (a3 : Int) (K : TV → Option β) : evFn lay (E156 N) Try.f156 [.v (.agg [.int .i64 a0, .int .i64 a1]), .v (.one (.int .i64 a2)), .v (.one (.int .i64 a3))] K = impl_Table_cube N a0 a1 a2 a3 (fun z4 => K (.v (.one (.int .i64 z4)))) := (ve156_0 N (impl_Table_size N) (impl_Table_at N) (impl_Table_cube_l0 N) a0 a1 a2 a3 K).trans (t_impl_Table_cube N a0 a1 a2 a3 (fun z4 => K (.v (.one (.int .i64 z4))))).symm
theorem o156 {β : Type} (N : Nat) : SpecOK (β := β) Try.prog 156 (S156 N) := by
  refine spec_of lay_ok mixed (E := E156 N) (specs_loops (specs_cons (o82 N) (specs_cons (o120 N) specs_nil))) muts_nil gs_nil Try.func156 (by kernel_rfl) 1 (by kernel_rfl) ⟨trivial, rk156_0 N⟩ fun args K r h => ?_
  unfold S156 VS156 at h
  split at h
  · exact (e156_0 N _ _ _ _ _).trans h
  · cases h
def VS152 {β : Type} (N : Nat) (q_impl_Table_certifies : (a0 : Int) → (a1 : Int) → (a2 : Int) → (a3 : Int) → (k : Bool → Option β) → Option β) : Rv.Spec β := fun args K => match args with
  | [.v (.agg [.int .i64 a0, .int .i64 a1]), .v (.one (.int .i64 a2)), .v (.one (.int .i64 a3))] => q_impl_Table_certifies a0 a1 a2 a3 (fun z4 => K (.v (.one (.bool z4))))
  | _ => none
def S152 {β : Type} (N : Nat) : Rv.Spec β := VS152 N (impl_Table_certifies N)
def VE152 {β : Type} (N : Nat) (q_impl_Table_cube : (a0 : Int) → (a1 : Int) → (a2 : Int) → (a3 : Int) → (k : Int → Option β) → Option β) : Env β := ⟨[(156, VS156 N q_impl_Table_cube)], [], [], []⟩
def E152 {β : Type} (N : Nat) : Env β := VE152 N (impl_Table_cube N)
def BV_impl_Table_certifies {β : Type} (N : Nat) (q_impl_Table_cube : (a0 : Int) → (a1 : Int) → (a2 : Int) → (a3 : Int) → (k : Int → Option β) → Option β) (a0 : Int) (a1 : Int) (a2 : Int) (a3 : Int) (k : Bool → Option β) : Option β :=
q_impl_Table_cube a0 a1 a3 ((bits .and .i64 a2 a3)) fun r5 =>
k ((r5 != 2))
theorem t_impl_Table_certifies {β : Type} (N : Nat) (a0 : Int) (a1 : Int) (a2 : Int) (a3 : Int) (k : Bool → Option β) : impl_Table_certifies N a0 a1 a2 a3 k = BV_impl_Table_certifies N (impl_Table_cube N) a0 a1 a2 a3 k := by
  unfold impl_Table_certifies BV_impl_Table_certifies
  rfl
theorem ve152_0 {β : Type} (N : Nat) (q_impl_Table_cube : (a0 : Int) → (a1 : Int) → (a2 : Int) → (a3 : Int) → (k : Int → Option β) → Option β)  (a0 : Int) (a1 : Int) (a2 : Int) (a3 : Int) (K : TV → Option β) : evFn lay (VE152 N q_impl_Table_cube) Try.f152 [.v (.agg [.int .i64 a0, .int .i64 a1]), .v (.one (.int .i64 a2)), .v (.one (.int .i64 a3))] K = BV_impl_Table_certifies N q_impl_Table_cube a0 a1 a2 a3 (fun z4 => K (.v (.one (.bool z4)))) := by kernel_rfl
theorem e152_0 {β : Type} (N : Nat)  (a0 : Int) (a1 : Int) (a2 : Int) (a3 : Int) (K : TV → Option β) : evFn lay (E152 N) Try.f152 [.v (.agg [.int .i64 a0, .int .i64 a1]), .v (.one (.int .i64 a2)), .v (.one (.int .i64 a3))] K = impl_Table_certifies N a0 a1 a2 a3 (fun z4 => K (.v (.one (.bool z4)))) := (ve152_0 N (impl_Table_cube N) a0 a1 a2 a3 K).trans (t_impl_Table_certifies N a0 a1 a2 a3 (fun z4 => K (.v (.one (.bool z4))))).symm
theorem o152 {β : Type} (N : Nat) : SpecOK (β := β) Try.prog 152 (S152 N) := by
  refine spec_of lay_ok mixed (E := E152 N) (specs_loops (specs_cons (o156 N) specs_nil)) muts_nil gs_nil Try.func152 (by kernel_rfl) 0 (by kernel_rfl) trivial fun args K r h => ?_
  unfold S152 VS152 at h
  split at h
  · exact (e152_0 N _ _ _ _ _).trans h
  · cases h
def VS136 {β : Type} (N : Nat) (q_impl_Table_certificate : (a0 : Int) → (a1 : Int) → (a2 : Int) → (k : Int → Option β) → Option β) : Rv.Spec β := fun args K => match args with
  | [.v (.agg [.int .i64 a0, .int .i64 a1]), .v (.one (.int .i64 a2))] => q_impl_Table_certificate a0 a1 a2 (fun z3 => K (.v (.one (.int .i64 z3))))
  | _ => none
def S136 {β : Type} (N : Nat) : Rv.Spec β := VS136 N (impl_Table_certificate N)
def h136_0_0  (v0 : Int) (v1 : Int) (v2 : Int) (v3 : Int) (v4 : Int) (v5 : Int) : St := ⟨.v (.one .und) :: .v (.one (.int .i64 v0)) :: .v (.one (.ptr 0 0)) :: .v (.one .und) :: .v (.one .und) :: .v (.one (.int .i64 v1)) :: .v (.one .und) :: .v (.one .und) :: .v (.one .und) :: .v (.one .und) :: .v (.one .und) :: .v (.one (.int .i64 v2)) :: .v (.one (.int .i64 v3)) :: .v (.one .und) :: .v (.one .und) :: .v (.one .und) :: .v (.one .und) :: .v (.one .und) :: .v (.one .und) :: .v (.one .und) :: .v (.one .und) :: .v (.one .und) :: .v (.one .und) :: .v (.one .und) :: .v (.one .und) :: .v (.one .und) :: .v (.one .und) :: .v (.one .und) :: .v (.one .und) :: [], [.cells 25 [.int .i64 v4, .int .i64 v5]]⟩
def x136_0_0_k0  (y0 : Int) : St := ⟨.v (.one .und) :: .v (.one .und) :: .v (.one .und) :: .v (.one .und) :: .v (.one .und) :: .v (.one (.int .i64 y0)) :: .v (.one .und) :: .v (.one .und) :: .v (.one .und) :: .v (.one .und) :: .v (.one .und) :: .v (.one .und) :: .v (.one .und) :: .v (.one .und) :: .v (.one .und) :: .v (.one .und) :: .v (.one .und) :: .v (.one .und) :: .v (.one .und) :: .v (.one .und) :: .v (.one .und) :: .v (.one .und) :: .v (.one .und) :: .v (.one .und) :: .v (.one .und) :: .v (.one .und) :: .v (.one .und) :: .v (.one .und) :: .v (.one .und) :: [], []⟩
theorem fl136_0_0 (s : St) : refSt (h136_0_0 0 0 0 0 0 0) s = h136_0_0 (intS (oneA (vT (nx tund s.tmps 1)))) (intS (oneA (vT (nx tund s.tmps 5)))) (intS (oneA (vT (nx tund s.tmps 11)))) (intS (oneA (vT (nx tund s.tmps 12)))) (intS (nx .und (cellsB (nx .dead s.blks 0)) 0)) (intS (nx .und (cellsB (nx .dead s.blks 0)) 1)) := by kernel_rfl
def VLS136_0 {β : Type} (N : Nat) (q_impl_Table_certificate_l0 : Nat → Int → Int → Int → Int → Int → Int → (Int → Option β) → Option β) : LSpec β := fun s K => cond (shpSt (h136_0_0 0 0 0 0 0 0) s) ((fun (v0 : Int) (v1 : Int) (v2 : Int) (v3 : Int) (v4 : Int) (v5 : Int) => q_impl_Table_certificate_l0  N v0 v1 v2 v3 v4 v5 (fun y0 => K (.exit 0) (x136_0_0_k0  y0))) (intS (oneA (vT (nx tund s.tmps 1)))) (intS (oneA (vT (nx tund s.tmps 5)))) (intS (oneA (vT (nx tund s.tmps 11)))) (intS (oneA (vT (nx tund s.tmps 12)))) (intS (nx .und (cellsB (nx .dead s.blks 0)) 0)) (intS (nx .und (cellsB (nx .dead s.blks 0)) 1))) (none)
def LS136_0 {β : Type} (N : Nat) : LSpec β := VLS136_0 N (impl_Table_certificate_l0 N)
def VE136 {β : Type} (N : Nat) (q_impl_Table_size : (a0 : Int) → (a1 : Int) → (k : Int → Option β) → Option β) (q_impl_ones : (a0 : Int) → (k : Int → Option β) → Option β) (q_impl_Table_certifies : (a0 : Int) → (a1 : Int) → (a2 : Int) → (a3 : Int) → (k : Bool → Option β) → Option β) (q_impl_Table_certificate_l0 : Nat → Int → Int → Int → Int → Int → Int → (Int → Option β) → Option β) : Env β := ⟨[(82, VS82 N q_impl_Table_size), (64, VS64 N q_impl_ones), (152, VS152 N q_impl_Table_certifies)], [], [(0, VLS136_0 N q_impl_Table_certificate_l0)], []⟩
def E136 {β : Type} (N : Nat) : Env β := VE136 N (impl_Table_size N) (impl_ones N) (impl_Table_certifies N) (impl_Table_certificate_l0 N)
def BV_impl_Table_certificate_l0b {β : Type} (N : Nat) (q_impl_ones : (a0 : Int) → (k : Int → Option β) → Option β) (q_impl_Table_certifies : (a0 : Int) → (a1 : Int) → (a2 : Int) → (a3 : Int) → (k : Bool → Option β) → Option β)  (v0 : Int) (v1 : Int) (v2 : Int) (v3 : Int) (v4 : Int) (v5 : Int) (rec_ : Int → Int → Int → Int → Int → Int → Option β) (k0 : Int → Option β) : Option β :=
(cond ((decide (v3 < v2)))
(q_impl_ones v3 fun r6 =>
q_impl_ones v1 fun r7 =>
(cond ((decide (r6 < r7)))
(q_impl_Table_certifies v4 v5 v0 v3 fun r8 =>
(cond r8
(rec_ v0 v3 v2 ((w64 (v3 + 1))) v4 v5)
(rec_ v0 v1 v2 ((w64 (v3 + 1))) v4 v5)))
(rec_ v0 v1 v2 ((w64 (v3 + 1))) v4 v5)))
(k0 v1))
theorem t_impl_Table_certificate_l0b {β : Type} (N : Nat)  (v0 : Int) (v1 : Int) (v2 : Int) (v3 : Int) (v4 : Int) (v5 : Int) (rec_ : Int → Int → Int → Int → Int → Int → Option β) (k0 : Int → Option β) : impl_Table_certificate_l0b N v0 v1 v2 v3 v4 v5 rec_ k0 = BV_impl_Table_certificate_l0b N (impl_ones N) (impl_Table_certifies N) v0 v1 v2 v3 v4 v5 rec_ k0 := by
  unfold impl_Table_certificate_l0b BV_impl_Table_certificate_l0b
  rfl
theorem vst136_0_0 {β : Type} (N : Nat) (q_impl_Table_size : (a0 : Int) → (a1 : Int) → (k : Int → Option β) → Option β) (q_impl_ones : (a0 : Int) → (k : Int → Option β) → Option β) (q_impl_Table_certifies : (a0 : Int) → (a1 : Int) → (a2 : Int) → (a3 : Int) → (k : Bool → Option β) → Option β) (q_impl_Table_certificate_l0 : Nat → Int → Int → Int → Int → Int → Int → (Int → Option β) → Option β)  (v0 : Int) (v1 : Int) (v2 : Int) (v3 : Int) (v4 : Int) (v5 : Int) (rec_ : St → Option β) (K : Exit → St → Option β) :
    ev lay (VE136 N q_impl_Table_size q_impl_ones q_impl_Table_certifies q_impl_Table_certificate_l0) (retMask Try.f136) (lp Try.f136 0).body (lp Try.f136 0).ex ((lp Try.f136 0).lv (retMask Try.f136)) (h136_0_0  v0 v1 v2 v3 v4 v5) (nextR (fun s' => rec_ (s'.tidy ((lp Try.f136 0).lv (retMask Try.f136)))) K) = BV_impl_Table_certificate_l0b N q_impl_ones q_impl_Table_certifies  v0 v1 v2 v3 v4 v5 (fun v0 v1 v2 v3 v4 v5 => rec_ (h136_0_0  v0 v1 v2 v3 v4 v5)) (fun y0 => K (.exit 0) (x136_0_0_k0  y0)) := by kernel_rfl
theorem st136_0_0 {β : Type} (N : Nat)  (v0 : Int) (v1 : Int) (v2 : Int) (v3 : Int) (v4 : Int) (v5 : Int) (rec_ : St → Option β) (K : Exit → St → Option β) :
    ev lay (E136 N) (retMask Try.f136) (lp Try.f136 0).body (lp Try.f136 0).ex ((lp Try.f136 0).lv (retMask Try.f136)) (h136_0_0  v0 v1 v2 v3 v4 v5) (nextR (fun s' => rec_ (s'.tidy ((lp Try.f136 0).lv (retMask Try.f136)))) K) = impl_Table_certificate_l0b N  v0 v1 v2 v3 v4 v5 (fun v0 v1 v2 v3 v4 v5 => rec_ (h136_0_0  v0 v1 v2 v3 v4 v5)) (fun y0 => K (.exit 0) (x136_0_0_k0  y0)) := (vst136_0_0 N (impl_Table_size N) (impl_ones N) (impl_Table_certifies N) (impl_Table_certificate_l0 N) v0 v1 v2 v3 v4 v5 rec_ K).trans (t_impl_Table_certificate_l0b N  v0 v1 v2 v3 v4 v5 (fun v0 v1 v2 v3 v4 v5 => rec_ (h136_0_0  v0 v1 v2 v3 v4 v5)) (fun y0 => K (.exit 0) (x136_0_0_k0  y0))).symm
theorem ro136_0_0 {β : Type} (N : Nat)  (K : Exit → St → Option β) : ∀ (F : Nat) (v0 : Int) (v1 : Int) (v2 : Int) (v3 : Int) (v4 : Int) (v5 : Int), (lp Try.f136 0).rounds lay (E136 N) (retMask Try.f136) F (h136_0_0  v0 v1 v2 v3 v4 v5) K = impl_Table_certificate_l0 N  F v0 v1 v2 v3 v4 v5 (fun y0 => K (.exit 0) (x136_0_0_k0  y0)) := by
  intro F
  induction F with
  | zero => intros; rfl
  | succ F ih =>
    intros
    rw [rounds_next]
    refine (st136_0_0 N  _ _ _ _ _ _ (fun s => (lp Try.f136 0).rounds lay (E136 N) (retMask Try.f136) F s K) K).trans ?_
    simp only [ih]
    rfl
theorem lk136_0 {β : Type} (N : Nat) : lookL (E136 (β := β) N).loops (lp Try.f136 0).id = LS136_0 N := by kernel_rfl
theorem rk136_0 {β : Type} (N : Nat) : RoundsOK lay (E136 (β := β) N) (retMask Try.f136) (lp Try.f136 0) := by
  intro s K r h
  rw [lk136_0] at h
  unfold LS136_0 VLS136_0 at h
  cases hb : shpSt (h136_0_0 0 0 0 0 0 0) s with
  | true =>
    rw [hb, cond_true] at h
    exact ⟨N, by rw [← shpSt_ref hb, fl136_0_0 s]; exact (ro136_0_0 N  K N (intS (oneA (vT (nx tund s.tmps 1)))) (intS (oneA (vT (nx tund s.tmps 5)))) (intS (oneA (vT (nx tund s.tmps 11)))) (intS (oneA (vT (nx tund s.tmps 12)))) (intS (nx .und (cellsB (nx .dead s.blks 0)) 0)) (intS (nx .und (cellsB (nx .dead s.blks 0)) 1))).trans h⟩
  | false =>
  rw [hb, cond_false] at h
  clear hb
  cases h
def BV_impl_Table_certificate {β : Type} (N : Nat) (q_impl_Table_size : (a0 : Int) → (a1 : Int) → (k : Int → Option β) → Option β) (q_impl_Table_certificate_l0 : Nat → Int → Int → Int → Int → Int → Int → (Int → Option β) → Option β) (a0 : Int) (a1 : Int) (a2 : Int) (k : Int → Option β) : Option β :=
q_impl_Table_size a0 a1 fun r4 =>
q_impl_Table_size a0 a1 fun r5 =>
q_impl_Table_certificate_l0  N a2 ((w64 (r4 - 1))) r5 0 a0 a1 (fun e9_0 =>
k e9_0)
theorem t_impl_Table_certificate {β : Type} (N : Nat) (a0 : Int) (a1 : Int) (a2 : Int) (k : Int → Option β) : impl_Table_certificate N a0 a1 a2 k = BV_impl_Table_certificate N (impl_Table_size N) (impl_Table_certificate_l0 N) a0 a1 a2 k := by
  unfold impl_Table_certificate BV_impl_Table_certificate
  rfl
theorem ve136_0 {β : Type} (N : Nat) (q_impl_Table_size : (a0 : Int) → (a1 : Int) → (k : Int → Option β) → Option β) (q_impl_ones : (a0 : Int) → (k : Int → Option β) → Option β) (q_impl_Table_certifies : (a0 : Int) → (a1 : Int) → (a2 : Int) → (a3 : Int) → (k : Bool → Option β) → Option β) (q_impl_Table_certificate_l0 : Nat → Int → Int → Int → Int → Int → Int → (Int → Option β) → Option β)  (a0 : Int) (a1 : Int) (a2 : Int) (K : TV → Option β) : evFn lay (VE136 N q_impl_Table_size q_impl_ones q_impl_Table_certifies q_impl_Table_certificate_l0) Try.f136 [.v (.agg [.int .i64 a0, .int .i64 a1]), .v (.one (.int .i64 a2))] K = BV_impl_Table_certificate N q_impl_Table_size q_impl_Table_certificate_l0 a0 a1 a2 (fun z3 => K (.v (.one (.int .i64 z3)))) := by kernel_rfl
theorem e136_0 {β : Type} (N : Nat)  (a0 : Int) (a1 : Int) (a2 : Int) (K : TV → Option β) : evFn lay (E136 N) Try.f136 [.v (.agg [.int .i64 a0, .int .i64 a1]), .v (.one (.int .i64 a2))] K = impl_Table_certificate N a0 a1 a2 (fun z3 => K (.v (.one (.int .i64 z3)))) := (ve136_0 N (impl_Table_size N) (impl_ones N) (impl_Table_certifies N) (impl_Table_certificate_l0 N) a0 a1 a2 K).trans (t_impl_Table_certificate N a0 a1 a2 (fun z3 => K (.v (.one (.int .i64 z3))))).symm
theorem o136 {β : Type} (N : Nat) : SpecOK (β := β) Try.prog 136 (S136 N) := by
  refine spec_of lay_ok mixed (E := E136 N) (specs_loops (specs_cons (o82 N) (specs_cons (o64 N) (specs_cons (o152 N) specs_nil)))) muts_nil gs_nil Try.func136 (by kernel_rfl) 1 (by kernel_rfl) ⟨trivial, rk136_0 N⟩ fun args K r h => ?_
  unfold S136 VS136 at h
  split at h
  · exact (e136_0 N _ _ _ _).trans h
  · cases h
end Go.Proofs.Ytdkjnadhgdneaaa
