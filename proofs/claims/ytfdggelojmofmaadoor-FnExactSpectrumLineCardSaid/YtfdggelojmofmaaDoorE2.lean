/- The functions that the claims reach answer as their texts do. -/
import Derived.Test.YtfdggelojmofmaaDoorE1
namespace Go.Proofs.YtfdggelojmofmaaDoor
open Go.Rv
set_option maxRecDepth 100000
set_option maxHeartbeats 2000000
set_option linter.unusedVariables false
def VS62 {β : Type} (N : Nat) (q_impl_Table_spectrum : (a0 : Int) → (a1 : Int) → (k : List Int → Option β) → Option β) : Rv.Spec β := fun args K => match args with
  | [.v (.agg [.int .i64 a0, .int .i64 a1])] => q_impl_Table_spectrum a0 a1 (fun z2 => K (.v (.one (.sl 3 (.ints .i64 z2)))))
  | _ => none
def S62 {β : Type} (N : Nat) : Rv.Spec β := VS62 N (impl_Table_spectrum N)
def h62_0_0  (v0 : Int) (v1 : Int) (v2 : Int) (v3 : Int) (v4 : List Int) : St := ⟨.v (.one .und) :: .v (.one (.ptr 0 0)) :: .v (.one .und) :: .v (.one (.row 1)) :: .v (.one .und) :: .v (.one .und) :: .v (.one .und) :: .v (.one .und) :: .v (.one .und) :: .v (.one .und) :: .v (.one (.int .i64 v0)) :: .v (.one (.int .i64 v1)) :: .v (.one .und) :: .v (.one .und) :: .v (.one .und) :: .v (.one .und) :: .v (.one .und) :: .v (.one .und) :: .v (.one .und) :: .v (.one .und) :: .v (.one .und) :: .v (.one .und) :: .v (.one .und) :: .v (.one .und) :: .v (.one .und) :: .v (.one .und) :: .v (.one .und) :: .v (.one .und) :: .v (.one .und) :: .v (.one .und) :: .v (.one .und) :: .v (.one .und) :: .v (.one .und) :: .v (.one .und) :: .v (.one .und) :: .v (.one .und) :: .v (.one .und) :: [], [.cells 24 [.int .i64 v2, .int .i64 v3], .row 3 (.ints .i64 v4)]⟩
def x62_0_0_k0  (y0 : List Int) : St := ⟨.v (.one .und) :: .v (.one .und) :: .v (.one .und) :: .v (.one (.row 0)) :: .v (.one .und) :: .v (.one .und) :: .v (.one .und) :: .v (.one .und) :: .v (.one .und) :: .v (.one .und) :: .v (.one .und) :: .v (.one .und) :: .v (.one .und) :: .v (.one .und) :: .v (.one .und) :: .v (.one .und) :: .v (.one .und) :: .v (.one .und) :: .v (.one .und) :: .v (.one .und) :: .v (.one .und) :: .v (.one .und) :: .v (.one .und) :: .v (.one .und) :: .v (.one .und) :: .v (.one .und) :: .v (.one .und) :: .v (.one .und) :: .v (.one .und) :: .v (.one .und) :: .v (.one .und) :: .v (.one .und) :: .v (.one .und) :: .v (.one .und) :: .v (.one .und) :: .v (.one .und) :: .v (.one .und) :: [], [.row 3 (.ints .i64 y0)]⟩
def h62_1_0  (v0 : Int) (v1 : Int) (v2 : Int) (v3 : Int) (v4 : Int) (v5 : Int) (v6 : Int) (v7 : List Int) : St := ⟨.v (.one .und) :: .v (.one (.ptr 0 0)) :: .v (.one .und) :: .v (.one (.row 1)) :: .v (.one (.int .i64 v0)) :: .v (.one .und) :: .v (.one .und) :: .v (.one .und) :: .v (.one .und) :: .v (.one .und) :: .v (.one (.int .i64 v1)) :: .v (.one (.int .i64 v2)) :: .v (.one .und) :: .v (.one .und) :: .v (.one .und) :: .v (.one (.int .i64 v3)) :: .v (.one (.int .i64 v4)) :: .v (.one .und) :: .v (.one .und) :: .v (.one .und) :: .v (.one .und) :: .v (.one .und) :: .v (.one .und) :: .v (.one .und) :: .v (.one .und) :: .v (.one .und) :: .v (.one .und) :: .v (.one .und) :: .v (.one .und) :: .v (.one .und) :: .v (.one .und) :: .v (.one .und) :: .v (.one .und) :: .v (.one .und) :: .v (.one .und) :: .v (.one .und) :: .v (.one .und) :: [], [.cells 24 [.int .i64 v5, .int .i64 v6], .row 3 (.ints .i64 v7)]⟩
def x62_1_0_k0  (y0 : Int) (y1 : Int) (y2 : Int) (y3 : Int) (y4 : List Int) : St := ⟨.v (.one .und) :: .v (.one (.ptr 0 0)) :: .v (.one .und) :: .v (.one (.row 1)) :: .v (.one .und) :: .v (.one .und) :: .v (.one .und) :: .v (.one .und) :: .v (.one .und) :: .v (.one .und) :: .v (.one (.int .i64 y0)) :: .v (.one (.int .i64 y1)) :: .v (.one .und) :: .v (.one .und) :: .v (.one .und) :: .v (.one .und) :: .v (.one .und) :: .v (.one .und) :: .v (.one .und) :: .v (.one .und) :: .v (.one .und) :: .v (.one .und) :: .v (.one .und) :: .v (.one .und) :: .v (.one .und) :: .v (.one .und) :: .v (.one .und) :: .v (.one .und) :: .v (.one .und) :: .v (.one .und) :: .v (.one .und) :: .v (.one .und) :: .v (.one .und) :: .v (.one .und) :: .v (.one .und) :: .v (.one .und) :: .v (.one .und) :: [], [.cells 24 [.int .i64 y2, .int .i64 y3], .row 3 (.ints .i64 y4)]⟩
theorem fl62_0_0 (s : St) : refSt (h62_0_0 0 0 0 0 []) s = h62_0_0 (intS (oneA (vT (nx tund s.tmps 10)))) (intS (oneA (vT (nx tund s.tmps 11)))) (intS (nx .und (cellsB (nx .dead s.blks 0)) 0)) (intS (nx .und (cellsB (nx .dead s.blks 0)) 1)) (rInts (rowB_ (nx .dead s.blks 1))) := by kernel_rfl
def VLS62_0 {β : Type} (N : Nat) (q_impl_Table_spectrum_l0 : Nat → Int → Int → Int → Int → List Int → (List Int → Option β) → Option β) : LSpec β := fun s K => cond (shpSt (h62_0_0 0 0 0 0 []) s) ((fun (v0 : Int) (v1 : Int) (v2 : Int) (v3 : Int) (v4 : List Int) => q_impl_Table_spectrum_l0  N v0 v1 v2 v3 v4 (fun y0 => K (.exit 0) (x62_0_0_k0  y0))) (intS (oneA (vT (nx tund s.tmps 10)))) (intS (oneA (vT (nx tund s.tmps 11)))) (intS (nx .und (cellsB (nx .dead s.blks 0)) 0)) (intS (nx .und (cellsB (nx .dead s.blks 0)) 1)) (rInts (rowB_ (nx .dead s.blks 1)))) (none)
def LS62_0 {β : Type} (N : Nat) : LSpec β := VLS62_0 N (impl_Table_spectrum_l0 N)
theorem fl62_1_0 (s : St) : refSt (h62_1_0 0 0 0 0 0 0 0 []) s = h62_1_0 (intS (oneA (vT (nx tund s.tmps 4)))) (intS (oneA (vT (nx tund s.tmps 10)))) (intS (oneA (vT (nx tund s.tmps 11)))) (intS (oneA (vT (nx tund s.tmps 15)))) (intS (oneA (vT (nx tund s.tmps 16)))) (intS (nx .und (cellsB (nx .dead s.blks 0)) 0)) (intS (nx .und (cellsB (nx .dead s.blks 0)) 1)) (rInts (rowB_ (nx .dead s.blks 1))) := by kernel_rfl
def VLS62_2 {β : Type} (N : Nat) (q_impl_Table_spectrum_l2 : Nat → Int → Int → Int → Int → Int → Int → Int → List Int → (Int → Int → Int → Int → List Int → Option β) → Option β) : LSpec β := fun s K => cond (shpSt (h62_1_0 0 0 0 0 0 0 0 []) s) ((fun (v0 : Int) (v1 : Int) (v2 : Int) (v3 : Int) (v4 : Int) (v5 : Int) (v6 : Int) (v7 : List Int) => q_impl_Table_spectrum_l2  N v0 v1 v2 v3 v4 v5 v6 v7 (fun y0 y1 y2 y3 y4 => K (.exit 2) (x62_1_0_k0  y0 y1 y2 y3 y4))) (intS (oneA (vT (nx tund s.tmps 4)))) (intS (oneA (vT (nx tund s.tmps 10)))) (intS (oneA (vT (nx tund s.tmps 11)))) (intS (oneA (vT (nx tund s.tmps 15)))) (intS (oneA (vT (nx tund s.tmps 16)))) (intS (nx .und (cellsB (nx .dead s.blks 0)) 0)) (intS (nx .und (cellsB (nx .dead s.blks 0)) 1)) (rInts (rowB_ (nx .dead s.blks 1)))) (none)
def LS62_2 {β : Type} (N : Nat) : LSpec β := VLS62_2 N (impl_Table_spectrum_l2 N)
def VE62 {β : Type} (N : Nat) (q_impl_Table_size : (a0 : Int) → (a1 : Int) → (k : Int → Option β) → Option β) (q_impl_Table_at : (a0 : Int) → (a1 : Int) → (a2 : Int) → (k : Int → Option β) → Option β) (q_impl_ones : (a0 : Int) → (k : Int → Option β) → Option β) (q_impl_sign : (a0 : Int) → (k : Int → Option β) → Option β) (q_impl_Table_spectrum_l0 : Nat → Int → Int → Int → Int → List Int → (List Int → Option β) → Option β) (q_impl_Table_spectrum_l2 : Nat → Int → Int → Int → Int → Int → Int → Int → List Int → (Int → Int → Int → Int → List Int → Option β) → Option β) : Env β := ⟨[(125, VS125 N q_impl_Table_size), (128, VS128 N q_impl_Table_at), (129, VS129 N q_impl_ones), (127, VS127 N q_impl_sign)], [], [(0, VLS62_0 N q_impl_Table_spectrum_l0), (2, VLS62_2 N q_impl_Table_spectrum_l2)], [], ⟨[], [], []⟩⟩
def E62 {β : Type} (N : Nat) : Env β := VE62 N (impl_Table_size N) (impl_Table_at N) (impl_ones N) (impl_sign N) (impl_Table_spectrum_l0 N) (impl_Table_spectrum_l2 N)
def BV_impl_Table_spectrum_l0b {β : Type} (N : Nat) (q_impl_Table_size : (a0 : Int) → (a1 : Int) → (k : Int → Option β) → Option β) (q_impl_Table_spectrum_l2 : Nat → Int → Int → Int → Int → Int → Int → Int → List Int → (Int → Int → Int → Int → List Int → Option β) → Option β)  (v0 : Int) (v1 : Int) (v2 : Int) (v3 : Int) (v4 : List Int) (rec_ : Int → Int → Int → Int → List Int → Option β) (k0 : List Int → Option β) : Option β :=
(cond ((decide (v1 < v0)))
(q_impl_Table_size v2 v3 fun r4 =>
q_impl_Table_spectrum_l2  N v1 v0 v1 r4 0 v2 v3 v4 (fun e8_0 e8_1 e8_2 e8_3 e8_4 =>
rec_ e8_0 ((w64 (e8_1 + 1))) e8_2 e8_3 e8_4))
(k0 v4))
theorem t_impl_Table_spectrum_l0b {β : Type} (N : Nat)  (v0 : Int) (v1 : Int) (v2 : Int) (v3 : Int) (v4 : List Int) (rec_ : Int → Int → Int → Int → List Int → Option β) (k0 : List Int → Option β) : impl_Table_spectrum_l0b N v0 v1 v2 v3 v4 rec_ k0 = BV_impl_Table_spectrum_l0b N (impl_Table_size N) (impl_Table_spectrum_l2 N) v0 v1 v2 v3 v4 rec_ k0 := by
  unfold impl_Table_spectrum_l0b BV_impl_Table_spectrum_l0b
  rfl
theorem vst62_0_0 {β : Type} (N : Nat) (q_impl_Table_size : (a0 : Int) → (a1 : Int) → (k : Int → Option β) → Option β) (q_impl_Table_at : (a0 : Int) → (a1 : Int) → (a2 : Int) → (k : Int → Option β) → Option β) (q_impl_ones : (a0 : Int) → (k : Int → Option β) → Option β) (q_impl_sign : (a0 : Int) → (k : Int → Option β) → Option β) (q_impl_Table_spectrum_l0 : Nat → Int → Int → Int → Int → List Int → (List Int → Option β) → Option β) (q_impl_Table_spectrum_l2 : Nat → Int → Int → Int → Int → Int → Int → Int → List Int → (Int → Int → Int → Int → List Int → Option β) → Option β)  (v0 : Int) (v1 : Int) (v2 : Int) (v3 : Int) (v4 : List Int) (rec_ : St → Option β) (K : Exit → St → Option β) :
    ev lay (VE62 N q_impl_Table_size q_impl_Table_at q_impl_ones q_impl_sign q_impl_Table_spectrum_l0 q_impl_Table_spectrum_l2) (retMask Tryd.f62) (lp Tryd.f62 0).body (lp Tryd.f62 0).ex ((lp Tryd.f62 0).lv (retMask Tryd.f62)) (h62_0_0  v0 v1 v2 v3 v4) (nextR (fun s' => rec_ (s'.tidy ((lp Tryd.f62 0).lv (retMask Tryd.f62)))) K) = BV_impl_Table_spectrum_l0b N q_impl_Table_size q_impl_Table_spectrum_l2  v0 v1 v2 v3 v4 (fun v0 v1 v2 v3 v4 => rec_ (h62_0_0  v0 v1 v2 v3 v4)) (fun y0 => K (.exit 0) (x62_0_0_k0  y0)) := by kernel_rfl
theorem st62_0_0 {β : Type} (N : Nat)  (v0 : Int) (v1 : Int) (v2 : Int) (v3 : Int) (v4 : List Int) (rec_ : St → Option β) (K : Exit → St → Option β) :
    ev lay (E62 N) (retMask Tryd.f62) (lp Tryd.f62 0).body (lp Tryd.f62 0).ex ((lp Tryd.f62 0).lv (retMask Tryd.f62)) (h62_0_0  v0 v1 v2 v3 v4) (nextR (fun s' => rec_ (s'.tidy ((lp Tryd.f62 0).lv (retMask Tryd.f62)))) K) = impl_Table_spectrum_l0b N  v0 v1 v2 v3 v4 (fun v0 v1 v2 v3 v4 => rec_ (h62_0_0  v0 v1 v2 v3 v4)) (fun y0 => K (.exit 0) (x62_0_0_k0  y0)) := (vst62_0_0 N (impl_Table_size N) (impl_Table_at N) (impl_ones N) (impl_sign N) (impl_Table_spectrum_l0 N) (impl_Table_spectrum_l2 N) v0 v1 v2 v3 v4 rec_ K).trans (t_impl_Table_spectrum_l0b N  v0 v1 v2 v3 v4 (fun v0 v1 v2 v3 v4 => rec_ (h62_0_0  v0 v1 v2 v3 v4)) (fun y0 => K (.exit 0) (x62_0_0_k0  y0))).symm
theorem ro62_0_0 {β : Type} (N : Nat)  (K : Exit → St → Option β) : ∀ (F : Nat) (v0 : Int) (v1 : Int) (v2 : Int) (v3 : Int) (v4 : List Int), (lp Tryd.f62 0).rounds lay (E62 N) (retMask Tryd.f62) F (h62_0_0  v0 v1 v2 v3 v4) K = impl_Table_spectrum_l0 N  F v0 v1 v2 v3 v4 (fun y0 => K (.exit 0) (x62_0_0_k0  y0)) := by
  intro F
  induction F with
  | zero => intros; rfl
  | succ F ih =>
    intros
    rw [rounds_next]
    refine (st62_0_0 N  _ _ _ _ _ (fun s => (lp Tryd.f62 0).rounds lay (E62 N) (retMask Tryd.f62) F s K) K).trans ?_
    simp only [ih]
    rfl
theorem lk62_0 {β : Type} (N : Nat) : lookL (E62 (β := β) N).loops (lp Tryd.f62 0).id = LS62_0 N := by kernel_rfl
theorem rk62_0 {β : Type} (N : Nat) : RoundsOK lay (E62 (β := β) N) (retMask Tryd.f62) (lp Tryd.f62 0) := by
  intro s K r h
  rw [lk62_0] at h
  unfold LS62_0 VLS62_0 at h
  cases hb : shpSt (h62_0_0 0 0 0 0 []) s with
  | true =>
    rw [hb, cond_true] at h
    exact ⟨N, by rw [← shpSt_ref hb, fl62_0_0 s]; exact (ro62_0_0 N  K N (intS (oneA (vT (nx tund s.tmps 10)))) (intS (oneA (vT (nx tund s.tmps 11)))) (intS (nx .und (cellsB (nx .dead s.blks 0)) 0)) (intS (nx .und (cellsB (nx .dead s.blks 0)) 1)) (rInts (rowB_ (nx .dead s.blks 1)))).trans h⟩
  | false =>
  rw [hb, cond_false] at h
  clear hb
  cases h
def BV_impl_Table_spectrum_l2b {β : Type} (N : Nat) (q_impl_Table_at : (a0 : Int) → (a1 : Int) → (a2 : Int) → (k : Int → Option β) → Option β) (q_impl_ones : (a0 : Int) → (k : Int → Option β) → Option β) (q_impl_sign : (a0 : Int) → (k : Int → Option β) → Option β)  (v0 : Int) (v1 : Int) (v2 : Int) (v3 : Int) (v4 : Int) (v5 : Int) (v6 : Int) (v7 : List Int) (rec_ : Int → Int → Int → Int → Int → Int → Int → List Int → Option β) (k0 : Int → Int → Int → Int → List Int → Option β) : Option β :=
(cond ((decide (v4 < v3)))
((gd ((decide (0 ≤ v0)))
((gd ((decide (v0 < (v7.length : Int))))
(q_impl_Table_at v5 v6 v4 fun r5 =>
q_impl_ones ((bits .and .i64 v0 v4)) fun r6 =>
q_impl_sign ((w64 (r5 + r6))) fun r7 =>
(gd ((decide (0 ≤ v0)))
((gd ((decide (v0 < (v7.length : Int))))
(rec_ v0 v1 v2 v3 ((w64 (v4 + 1))) v5 v6 ((wr v7 v0 (w64 ((rd 0 v7 v0) + r7)))))))))))))
(k0 v1 v2 v5 v6 v7))
theorem t_impl_Table_spectrum_l2b {β : Type} (N : Nat)  (v0 : Int) (v1 : Int) (v2 : Int) (v3 : Int) (v4 : Int) (v5 : Int) (v6 : Int) (v7 : List Int) (rec_ : Int → Int → Int → Int → Int → Int → Int → List Int → Option β) (k0 : Int → Int → Int → Int → List Int → Option β) : impl_Table_spectrum_l2b N v0 v1 v2 v3 v4 v5 v6 v7 rec_ k0 = BV_impl_Table_spectrum_l2b N (impl_Table_at N) (impl_ones N) (impl_sign N) v0 v1 v2 v3 v4 v5 v6 v7 rec_ k0 := by
  unfold impl_Table_spectrum_l2b BV_impl_Table_spectrum_l2b
  rfl
theorem vst62_1_0 {β : Type} (N : Nat) (q_impl_Table_size : (a0 : Int) → (a1 : Int) → (k : Int → Option β) → Option β) (q_impl_Table_at : (a0 : Int) → (a1 : Int) → (a2 : Int) → (k : Int → Option β) → Option β) (q_impl_ones : (a0 : Int) → (k : Int → Option β) → Option β) (q_impl_sign : (a0 : Int) → (k : Int → Option β) → Option β) (q_impl_Table_spectrum_l0 : Nat → Int → Int → Int → Int → List Int → (List Int → Option β) → Option β) (q_impl_Table_spectrum_l2 : Nat → Int → Int → Int → Int → Int → Int → Int → List Int → (Int → Int → Int → Int → List Int → Option β) → Option β)  (v0 : Int) (v1 : Int) (v2 : Int) (v3 : Int) (v4 : Int) (v5 : Int) (v6 : Int) (v7 : List Int) (rec_ : St → Option β) (K : Exit → St → Option β) :
    ev lay (VE62 N q_impl_Table_size q_impl_Table_at q_impl_ones q_impl_sign q_impl_Table_spectrum_l0 q_impl_Table_spectrum_l2) (retMask Tryd.f62) (lp Tryd.f62 1).body (lp Tryd.f62 1).ex ((lp Tryd.f62 1).lv (retMask Tryd.f62)) (h62_1_0  v0 v1 v2 v3 v4 v5 v6 v7) (nextR (fun s' => rec_ (s'.tidy ((lp Tryd.f62 1).lv (retMask Tryd.f62)))) K) = BV_impl_Table_spectrum_l2b N q_impl_Table_at q_impl_ones q_impl_sign  v0 v1 v2 v3 v4 v5 v6 v7 (fun v0 v1 v2 v3 v4 v5 v6 v7 => rec_ (h62_1_0  v0 v1 v2 v3 v4 v5 v6 v7)) (fun y0 y1 y2 y3 y4 => K (.exit 2) (x62_1_0_k0  y0 y1 y2 y3 y4)) := by kernel_rfl
theorem st62_1_0 {β : Type} (N : Nat)  (v0 : Int) (v1 : Int) (v2 : Int) (v3 : Int) (v4 : Int) (v5 : Int) (v6 : Int) (v7 : List Int) (rec_ : St → Option β) (K : Exit → St → Option β) :
    ev lay (E62 N) (retMask Tryd.f62) (lp Tryd.f62 1).body (lp Tryd.f62 1).ex ((lp Tryd.f62 1).lv (retMask Tryd.f62)) (h62_1_0  v0 v1 v2 v3 v4 v5 v6 v7) (nextR (fun s' => rec_ (s'.tidy ((lp Tryd.f62 1).lv (retMask Tryd.f62)))) K) = impl_Table_spectrum_l2b N  v0 v1 v2 v3 v4 v5 v6 v7 (fun v0 v1 v2 v3 v4 v5 v6 v7 => rec_ (h62_1_0  v0 v1 v2 v3 v4 v5 v6 v7)) (fun y0 y1 y2 y3 y4 => K (.exit 2) (x62_1_0_k0  y0 y1 y2 y3 y4)) := (vst62_1_0 N (impl_Table_size N) (impl_Table_at N) (impl_ones N) (impl_sign N) (impl_Table_spectrum_l0 N) (impl_Table_spectrum_l2 N) v0 v1 v2 v3 v4 v5 v6 v7 rec_ K).trans (t_impl_Table_spectrum_l2b N  v0 v1 v2 v3 v4 v5 v6 v7 (fun v0 v1 v2 v3 v4 v5 v6 v7 => rec_ (h62_1_0  v0 v1 v2 v3 v4 v5 v6 v7)) (fun y0 y1 y2 y3 y4 => K (.exit 2) (x62_1_0_k0  y0 y1 y2 y3 y4))).symm
theorem ro62_1_0 {β : Type} (N : Nat)  (K : Exit → St → Option β) : ∀ (F : Nat) (v0 : Int) (v1 : Int) (v2 : Int) (v3 : Int) (v4 : Int) (v5 : Int) (v6 : Int) (v7 : List Int), (lp Tryd.f62 1).rounds lay (E62 N) (retMask Tryd.f62) F (h62_1_0  v0 v1 v2 v3 v4 v5 v6 v7) K = impl_Table_spectrum_l2 N  F v0 v1 v2 v3 v4 v5 v6 v7 (fun y0 y1 y2 y3 y4 => K (.exit 2) (x62_1_0_k0  y0 y1 y2 y3 y4)) := by
  intro F
  induction F with
  | zero => intros; rfl
  | succ F ih =>
    intros
    rw [rounds_next]
    refine (st62_1_0 N  _ _ _ _ _ _ _ _ (fun s => (lp Tryd.f62 1).rounds lay (E62 N) (retMask Tryd.f62) F s K) K).trans ?_
    simp only [ih]
    rfl
theorem lk62_2 {β : Type} (N : Nat) : lookL (E62 (β := β) N).loops (lp Tryd.f62 1).id = LS62_2 N := by kernel_rfl
theorem rk62_2 {β : Type} (N : Nat) : RoundsOK lay (E62 (β := β) N) (retMask Tryd.f62) (lp Tryd.f62 1) := by
  intro s K r h
  rw [lk62_2] at h
  unfold LS62_2 VLS62_2 at h
  cases hb : shpSt (h62_1_0 0 0 0 0 0 0 0 []) s with
  | true =>
    rw [hb, cond_true] at h
    exact ⟨N, by rw [← shpSt_ref hb, fl62_1_0 s]; exact (ro62_1_0 N  K N (intS (oneA (vT (nx tund s.tmps 4)))) (intS (oneA (vT (nx tund s.tmps 10)))) (intS (oneA (vT (nx tund s.tmps 11)))) (intS (oneA (vT (nx tund s.tmps 15)))) (intS (oneA (vT (nx tund s.tmps 16)))) (intS (nx .und (cellsB (nx .dead s.blks 0)) 0)) (intS (nx .und (cellsB (nx .dead s.blks 0)) 1)) (rInts (rowB_ (nx .dead s.blks 1)))).trans h⟩
  | false =>
  rw [hb, cond_false] at h
  clear hb
  cases h
def BV_impl_Table_spectrum {β : Type} (N : Nat) (q_impl_Table_size : (a0 : Int) → (a1 : Int) → (k : Int → Option β) → Option β) (q_impl_Table_spectrum_l0 : Nat → Int → Int → Int → Int → List Int → (List Int → Option β) → Option β) (a0 : Int) (a1 : Int) (k : List Int → Option β) : Option β :=
q_impl_Table_size a0 a1 fun r3 =>
(gd ((decide (0 ≤ r3)))
((gd ((decide (r3 ≤ r3)))
((gd ((decide (8 * r3 ≤ 281474976710656)))
(q_impl_Table_spectrum_l0  N ((((List.replicate (Int.toNat r3) (0 : Int))).length : Int)) 0 a0 a1 ((List.replicate (Int.toNat r3) (0 : Int))) (fun e9_0 =>
k e9_0)))))))
theorem t_impl_Table_spectrum {β : Type} (N : Nat) (a0 : Int) (a1 : Int) (k : List Int → Option β) : impl_Table_spectrum N a0 a1 k = BV_impl_Table_spectrum N (impl_Table_size N) (impl_Table_spectrum_l0 N) a0 a1 k := by
  unfold impl_Table_spectrum BV_impl_Table_spectrum
  rfl
theorem ve62_0 {β : Type} (N : Nat) (q_impl_Table_size : (a0 : Int) → (a1 : Int) → (k : Int → Option β) → Option β) (q_impl_Table_at : (a0 : Int) → (a1 : Int) → (a2 : Int) → (k : Int → Option β) → Option β) (q_impl_ones : (a0 : Int) → (k : Int → Option β) → Option β) (q_impl_sign : (a0 : Int) → (k : Int → Option β) → Option β) (q_impl_Table_spectrum_l0 : Nat → Int → Int → Int → Int → List Int → (List Int → Option β) → Option β) (q_impl_Table_spectrum_l2 : Nat → Int → Int → Int → Int → Int → Int → Int → List Int → (Int → Int → Int → Int → List Int → Option β) → Option β)  (a0 : Int) (a1 : Int) (K : TV → Option β) : evFn lay (VE62 N q_impl_Table_size q_impl_Table_at q_impl_ones q_impl_sign q_impl_Table_spectrum_l0 q_impl_Table_spectrum_l2) Tryd.f62 [.v (.agg [.int .i64 a0, .int .i64 a1])] K = BV_impl_Table_spectrum N q_impl_Table_size q_impl_Table_spectrum_l0 a0 a1 (fun z2 => K (.v (.one (.sl 3 (.ints .i64 z2))))) := by kernel_rfl
theorem e62_0 {β : Type} (N : Nat)  (a0 : Int) (a1 : Int) (K : TV → Option β) : evFn lay (E62 N) Tryd.f62 [.v (.agg [.int .i64 a0, .int .i64 a1])] K = impl_Table_spectrum N a0 a1 (fun z2 => K (.v (.one (.sl 3 (.ints .i64 z2))))) := (ve62_0 N (impl_Table_size N) (impl_Table_at N) (impl_ones N) (impl_sign N) (impl_Table_spectrum_l0 N) (impl_Table_spectrum_l2 N) a0 a1 K).trans (t_impl_Table_spectrum N a0 a1 (fun z2 => K (.v (.one (.sl 3 (.ints .i64 z2)))))).symm
theorem o62 {β : Type} (N : Nat) : SpecOK (β := β) inv Tryd.prog 62 (S62 N) := by
  refine spec_of lay_ok mixed (E := E62 N) (specs_loops (specs_cons (o125 N) (specs_cons (o128 N) (specs_cons (o129 N) (specs_cons (o127 N) specs_nil))))) muts_nil gs_nil Tryd.func62 (by kernel_rfl) 2 (by kernel_rfl) ⟨⟨trivial, rk62_0 N⟩, rk62_2 N⟩ fun args K r h => ?_
  unfold S62 VS62 at h
  split at h
  · exact (e62_0 N _ _ _).trans h
  · cases h
def VS64 {β : Type} (N : Nat) (q_impl_FormatInt : (a0 : Int) → (k : ByteArray → Option β) → Option β) : Rv.Spec β := fun args K => match args with
  | [.v (.one (.int .i64 a0))] => q_impl_FormatInt a0 (fun z1 => K (.v (.one (.str z1))))
  | _ => none
def S64 {β : Type} (N : Nat) : Rv.Spec β := VS64 N (impl_FormatInt N)
def VE64 {β : Type} (N : Nat) : Env β := ⟨[(130, S130 N)], [], [], [], ⟨[], [], []⟩⟩
def E64 {β : Type} (N : Nat) : Env β := VE64 N
def BV_impl_FormatInt {β : Type} (N : Nat) (a0 : Int) (k : ByteArray → Option β) : Option β :=
strconv_Itoa N a0 fun r2 =>
k r2
theorem t_impl_FormatInt {β : Type} (N : Nat) (a0 : Int) (k : ByteArray → Option β) : impl_FormatInt N a0 k = BV_impl_FormatInt N a0 k := by
  unfold impl_FormatInt BV_impl_FormatInt
  rfl
theorem ve64_0 {β : Type} (N : Nat)  (a0 : Int) (K : TV → Option β) : evFn lay (VE64 N) Tryd.f64 [.v (.one (.int .i64 a0))] K = BV_impl_FormatInt N a0 (fun z1 => K (.v (.one (.str z1)))) := by kernel_rfl
theorem e64_0 {β : Type} (N : Nat)  (a0 : Int) (K : TV → Option β) : evFn lay (E64 N) Tryd.f64 [.v (.one (.int .i64 a0))] K = impl_FormatInt N a0 (fun z1 => K (.v (.one (.str z1)))) := (ve64_0 N a0 K).trans (t_impl_FormatInt N a0 (fun z1 => K (.v (.one (.str z1))))).symm
theorem o64 {β : Type} (N : Nat) : SpecOK (β := β) inv Tryd.prog 64 (S64 N) := by
  refine spec_of lay_ok mixed (E := E64 N) (specs_loops (specs_cons (o130 N) specs_nil)) muts_nil gs_nil Tryd.func64 (by kernel_rfl) 0 (by kernel_rfl) trivial fun args K r h => ?_
  unfold S64 VS64 at h
  split at h
  · exact (e64_0 N _ _).trans h
  · cases h
def VS61 {β : Type} (N : Nat) (q_impl_listText : (a0 : List Int) → (k : ByteArray → Option β) → Option β) : Rv.Spec β := fun args K => match args with
  | [.v (.one (.sl 3 (.ints .i64 a0)))] => q_impl_listText a0 (fun z1 => K (.v (.one (.str z1))))
  | _ => none
def S61 {β : Type} (N : Nat) : Rv.Spec β := VS61 N (impl_listText N)
def h61_0_0  (v0 : List Int) (v1 : Int) (v2 : Int) (v3 : List ByteArray) : St := ⟨.v (.one .und) :: .v (.one .und) :: .v (.one .und) :: .v (.one (.row 0)) :: .v (.one .und) :: .v (.one .und) :: .v (.one .und) :: .v (.one .und) :: .v (.one .und) :: .v (.one .und) :: .v (.one .und) :: .v (.one .und) :: .v (.one (.sl 3 (.ints .i64 v0))) :: .v (.one (.int .i64 v1)) :: .v (.one (.int .i64 v2)) :: .v (.one .und) :: .v (.one .und) :: .v (.one .und) :: .v (.one .und) :: .v (.one .und) :: .v (.one .und) :: .v (.one .und) :: .v (.one .und) :: .v (.one .und) :: .v (.one .und) :: .v (.one .und) :: .v (.one .und) :: [], [.row 9 (.strs v3)]⟩
def x61_0_0_k0  (y0 : List ByteArray) : St := ⟨.v (.one .und) :: .v (.one .und) :: .v (.one .und) :: .v (.one (.row 0)) :: .v (.one .und) :: .v (.one .und) :: .v (.one .und) :: .v (.one .und) :: .v (.one .und) :: .v (.one .und) :: .v (.one .und) :: .v (.one .und) :: .v (.one .und) :: .v (.one .und) :: .v (.one .und) :: .v (.one .und) :: .v (.one .und) :: .v (.one .und) :: .v (.one .und) :: .v (.one .und) :: .v (.one .und) :: .v (.one .und) :: .v (.one .und) :: .v (.one .und) :: .v (.one .und) :: .v (.one .und) :: .v (.one .und) :: [], [.row 9 (.strs y0)]⟩
theorem fl61_0_0 (s : St) : refSt (h61_0_0 [] 0 0 []) s = h61_0_0 (rInts (rowV (oneA (vT (nx tund s.tmps 12))))) (intS (oneA (vT (nx tund s.tmps 13)))) (intS (oneA (vT (nx tund s.tmps 14)))) (rStrs (rowB_ (nx .dead s.blks 0))) := by kernel_rfl
def VLS61_0 {β : Type} (N : Nat) (q_impl_listText_l0 : Nat → List Int → Int → Int → List ByteArray → (List ByteArray → Option β) → Option β) : LSpec β := fun s K => cond (shpSt (h61_0_0 [] 0 0 []) s) ((fun (v0 : List Int) (v1 : Int) (v2 : Int) (v3 : List ByteArray) => q_impl_listText_l0  N v0 v1 v2 v3 (fun y0 => K (.exit 0) (x61_0_0_k0  y0))) (rInts (rowV (oneA (vT (nx tund s.tmps 12))))) (intS (oneA (vT (nx tund s.tmps 13)))) (intS (oneA (vT (nx tund s.tmps 14)))) (rStrs (rowB_ (nx .dead s.blks 0)))) (none)
def LS61_0 {β : Type} (N : Nat) : LSpec β := VLS61_0 N (impl_listText_l0 N)
def VE61 {β : Type} (N : Nat) (q_impl_FormatInt : (a0 : Int) → (k : ByteArray → Option β) → Option β) (q_impl_listText_l0 : Nat → List Int → Int → Int → List ByteArray → (List ByteArray → Option β) → Option β) : Env β := ⟨[(64, VS64 N q_impl_FormatInt), (126, S126 N)], [], [(0, VLS61_0 N q_impl_listText_l0)], [], ⟨[], [], []⟩⟩
def E61 {β : Type} (N : Nat) : Env β := VE61 N (impl_FormatInt N) (impl_listText_l0 N)
def BV_impl_listText_l0b {β : Type} (N : Nat) (q_impl_FormatInt : (a0 : Int) → (k : ByteArray → Option β) → Option β)  (v0 : List Int) (v1 : Int) (v2 : Int) (v3 : List ByteArray) (rec_ : List Int → Int → Int → List ByteArray → Option β) (k0 : List ByteArray → Option β) : Option β :=
(cond ((decide (v2 < v1)))
((gd ((decide (0 ≤ v2)))
((gd ((decide (v2 < (v0.length : Int))))
(q_impl_FormatInt ((rd 0 v0 v2)) fun r2 =>
(gd ((decide (0 ≤ v2)))
((gd ((decide (v2 < (v3.length : Int))))
(rec_ v0 v1 ((w64 (v2 + 1))) ((wr v3 v2 r2)))))))))))
(k0 v3))
theorem t_impl_listText_l0b {β : Type} (N : Nat)  (v0 : List Int) (v1 : Int) (v2 : Int) (v3 : List ByteArray) (rec_ : List Int → Int → Int → List ByteArray → Option β) (k0 : List ByteArray → Option β) : impl_listText_l0b N v0 v1 v2 v3 rec_ k0 = BV_impl_listText_l0b N (impl_FormatInt N) v0 v1 v2 v3 rec_ k0 := by
  unfold impl_listText_l0b BV_impl_listText_l0b
  rfl
theorem vst61_0_0 {β : Type} (N : Nat) (q_impl_FormatInt : (a0 : Int) → (k : ByteArray → Option β) → Option β) (q_impl_listText_l0 : Nat → List Int → Int → Int → List ByteArray → (List ByteArray → Option β) → Option β)  (v0 : List Int) (v1 : Int) (v2 : Int) (v3 : List ByteArray) (rec_ : St → Option β) (K : Exit → St → Option β) :
    ev lay (VE61 N q_impl_FormatInt q_impl_listText_l0) (retMask Tryd.f61) (lp Tryd.f61 0).body (lp Tryd.f61 0).ex ((lp Tryd.f61 0).lv (retMask Tryd.f61)) (h61_0_0  v0 v1 v2 v3) (nextR (fun s' => rec_ (s'.tidy ((lp Tryd.f61 0).lv (retMask Tryd.f61)))) K) = BV_impl_listText_l0b N q_impl_FormatInt  v0 v1 v2 v3 (fun v0 v1 v2 v3 => rec_ (h61_0_0  v0 v1 v2 v3)) (fun y0 => K (.exit 0) (x61_0_0_k0  y0)) := by kernel_rfl
theorem st61_0_0 {β : Type} (N : Nat)  (v0 : List Int) (v1 : Int) (v2 : Int) (v3 : List ByteArray) (rec_ : St → Option β) (K : Exit → St → Option β) :
    ev lay (E61 N) (retMask Tryd.f61) (lp Tryd.f61 0).body (lp Tryd.f61 0).ex ((lp Tryd.f61 0).lv (retMask Tryd.f61)) (h61_0_0  v0 v1 v2 v3) (nextR (fun s' => rec_ (s'.tidy ((lp Tryd.f61 0).lv (retMask Tryd.f61)))) K) = impl_listText_l0b N  v0 v1 v2 v3 (fun v0 v1 v2 v3 => rec_ (h61_0_0  v0 v1 v2 v3)) (fun y0 => K (.exit 0) (x61_0_0_k0  y0)) := (vst61_0_0 N (impl_FormatInt N) (impl_listText_l0 N) v0 v1 v2 v3 rec_ K).trans (t_impl_listText_l0b N  v0 v1 v2 v3 (fun v0 v1 v2 v3 => rec_ (h61_0_0  v0 v1 v2 v3)) (fun y0 => K (.exit 0) (x61_0_0_k0  y0))).symm
theorem ro61_0_0 {β : Type} (N : Nat)  (K : Exit → St → Option β) : ∀ (F : Nat) (v0 : List Int) (v1 : Int) (v2 : Int) (v3 : List ByteArray), (lp Tryd.f61 0).rounds lay (E61 N) (retMask Tryd.f61) F (h61_0_0  v0 v1 v2 v3) K = impl_listText_l0 N  F v0 v1 v2 v3 (fun y0 => K (.exit 0) (x61_0_0_k0  y0)) := by
  intro F
  induction F with
  | zero => intros; rfl
  | succ F ih =>
    intros
    rw [rounds_next]
    refine (st61_0_0 N  _ _ _ _ (fun s => (lp Tryd.f61 0).rounds lay (E61 N) (retMask Tryd.f61) F s K) K).trans ?_
    simp only [ih]
    rfl
theorem lk61_0 {β : Type} (N : Nat) : lookL (E61 (β := β) N).loops (lp Tryd.f61 0).id = LS61_0 N := by kernel_rfl
theorem rk61_0 {β : Type} (N : Nat) : RoundsOK lay (E61 (β := β) N) (retMask Tryd.f61) (lp Tryd.f61 0) := by
  intro s K r h
  rw [lk61_0] at h
  unfold LS61_0 VLS61_0 at h
  cases hb : shpSt (h61_0_0 [] 0 0 []) s with
  | true =>
    rw [hb, cond_true] at h
    exact ⟨N, by rw [← shpSt_ref hb, fl61_0_0 s]; exact (ro61_0_0 N  K N (rInts (rowV (oneA (vT (nx tund s.tmps 12))))) (intS (oneA (vT (nx tund s.tmps 13)))) (intS (oneA (vT (nx tund s.tmps 14)))) (rStrs (rowB_ (nx .dead s.blks 0)))).trans h⟩
  | false =>
  rw [hb, cond_false] at h
  clear hb
  cases h
def BV_impl_listText {β : Type} (N : Nat) (q_impl_listText_l0 : Nat → List Int → Int → Int → List ByteArray → (List ByteArray → Option β) → Option β) (a0 : List Int) (k : ByteArray → Option β) : Option β :=
(cond (((a0.length : Int) == 0))
(k ((strOf [110, 111, 110, 101])))
((gd ((decide (0 ≤ (a0.length : Int))))
((gd ((decide ((a0.length : Int) ≤ (a0.length : Int))))
((gd ((decide (16 * (a0.length : Int) ≤ 281474976710656)))
(q_impl_listText_l0  N a0 ((a0.length : Int)) 0 ((List.replicate (Int.toNat (a0.length : Int)) ByteArray.empty)) (fun e3_0 =>
strings_Join N e3_0 ((strOf [44])) fun r4 =>
k r4)))))))))
theorem t_impl_listText {β : Type} (N : Nat) (a0 : List Int) (k : ByteArray → Option β) : impl_listText N a0 k = BV_impl_listText N (impl_listText_l0 N) a0 k := by
  unfold impl_listText BV_impl_listText
  rfl
theorem ve61_0 {β : Type} (N : Nat) (q_impl_FormatInt : (a0 : Int) → (k : ByteArray → Option β) → Option β) (q_impl_listText_l0 : Nat → List Int → Int → Int → List ByteArray → (List ByteArray → Option β) → Option β)  (a0 : List Int) (K : TV → Option β) : evFn lay (VE61 N q_impl_FormatInt q_impl_listText_l0) Tryd.f61 [.v (.one (.sl 3 (.ints .i64 a0)))] K = BV_impl_listText N q_impl_listText_l0 a0 (fun z1 => K (.v (.one (.str z1)))) := by kernel_rfl
theorem e61_0 {β : Type} (N : Nat)  (a0 : List Int) (K : TV → Option β) : evFn lay (E61 N) Tryd.f61 [.v (.one (.sl 3 (.ints .i64 a0)))] K = impl_listText N a0 (fun z1 => K (.v (.one (.str z1)))) := (ve61_0 N (impl_FormatInt N) (impl_listText_l0 N) a0 K).trans (t_impl_listText N a0 (fun z1 => K (.v (.one (.str z1))))).symm
theorem o61 {β : Type} (N : Nat) : SpecOK (β := β) inv Tryd.prog 61 (S61 N) := by
  refine spec_of lay_ok mixed (E := E61 N) (specs_loops (specs_cons (o64 N) (specs_cons (o126 N) specs_nil))) muts_nil gs_nil Tryd.func61 (by kernel_rfl) 1 (by kernel_rfl) ⟨trivial, rk61_0 N⟩ fun args K r h => ?_
  unfold S61 VS61 at h
  split at h
  · exact (e61_0 N _ _).trans h
  · cases h
def VS63 {β : Type} (N : Nat) (q_impl_EnergyByLevel : (a0 : Int) → (a1 : Int) → (k : List Int → Option β) → Option β) : Rv.Spec β := fun args K => match args with
  | [.v (.agg [.int .i64 a0, .int .i64 a1])] => q_impl_EnergyByLevel a0 a1 (fun z2 => K (.v (.one (.sl 3 (.ints .i64 z2)))))
  | _ => none
def S63 {β : Type} (N : Nat) : Rv.Spec β := VS63 N (impl_EnergyByLevel N)
def h63_0_0  (v0 : Int) (v1 : Int) (v2 : List Int) (v3 : List Int) : St := ⟨.v (.one .und) :: .v (.one .und) :: .v (.one .und) :: .v (.one (.row 0)) :: .v (.one .und) :: .v (.one .und) :: .v (.one .und) :: .v (.one .und) :: .v (.one .und) :: .v (.one .und) :: .v (.one .und) :: .v (.one .und) :: .v (.one .und) :: .v (.one .und) :: .v (.one (.row 1)) :: .v (.one (.int .i64 v0)) :: .v (.one (.int .i64 v1)) :: .v (.one .und) :: .v (.one .und) :: .v (.one .und) :: .v (.one .und) :: .v (.one .und) :: .v (.one .und) :: .v (.one .und) :: .v (.one .und) :: .v (.one .und) :: .v (.one .und) :: .v (.one .und) :: .v (.one .und) :: .v (.one .und) :: .v (.one .und) :: .v (.one .und) :: .v (.one .und) :: [], [.row 3 (.ints .i64 v2), .row 3 (.ints .i64 v3)]⟩
def x63_0_0_k0  (y0 : List Int) : St := ⟨.v (.one .und) :: .v (.one .und) :: .v (.one .und) :: .v (.one (.row 0)) :: .v (.one .und) :: .v (.one .und) :: .v (.one .und) :: .v (.one .und) :: .v (.one .und) :: .v (.one .und) :: .v (.one .und) :: .v (.one .und) :: .v (.one .und) :: .v (.one .und) :: .v (.one .und) :: .v (.one .und) :: .v (.one .und) :: .v (.one .und) :: .v (.one .und) :: .v (.one .und) :: .v (.one .und) :: .v (.one .und) :: .v (.one .und) :: .v (.one .und) :: .v (.one .und) :: .v (.one .und) :: .v (.one .und) :: .v (.one .und) :: .v (.one .und) :: .v (.one .und) :: .v (.one .und) :: .v (.one .und) :: .v (.one .und) :: [], [.row 3 (.ints .i64 y0)]⟩
theorem fl63_0_0 (s : St) : refSt (h63_0_0 0 0 [] []) s = h63_0_0 (intS (oneA (vT (nx tund s.tmps 15)))) (intS (oneA (vT (nx tund s.tmps 16)))) (rInts (rowB_ (nx .dead s.blks 0))) (rInts (rowB_ (nx .dead s.blks 1))) := by kernel_rfl
def VLS63_0 {β : Type} (N : Nat) (q_impl_EnergyByLevel_l0 : Nat → Int → Int → List Int → List Int → (List Int → Option β) → Option β) : LSpec β := fun s K => cond (shpSt (h63_0_0 0 0 [] []) s) ((fun (v0 : Int) (v1 : Int) (v2 : List Int) (v3 : List Int) => q_impl_EnergyByLevel_l0  N v0 v1 v2 v3 (fun y0 => K (.exit 0) (x63_0_0_k0  y0))) (intS (oneA (vT (nx tund s.tmps 15)))) (intS (oneA (vT (nx tund s.tmps 16)))) (rInts (rowB_ (nx .dead s.blks 0))) (rInts (rowB_ (nx .dead s.blks 1)))) (none)
def LS63_0 {β : Type} (N : Nat) : LSpec β := VLS63_0 N (impl_EnergyByLevel_l0 N)
def VE63 {β : Type} (N : Nat) (q_impl_IsTable : (a0 : Int) → (a1 : Int) → (k : Bool → Option β) → Option β) (q_impl_Table_spectrum : (a0 : Int) → (a1 : Int) → (k : List Int → Option β) → Option β) (q_impl_ones : (a0 : Int) → (k : Int → Option β) → Option β) (q_impl_EnergyByLevel_l0 : Nat → Int → Int → List Int → List Int → (List Int → Option β) → Option β) : Env β := ⟨[(59, VS59 N q_impl_IsTable), (62, VS62 N q_impl_Table_spectrum), (129, VS129 N q_impl_ones)], [], [(0, VLS63_0 N q_impl_EnergyByLevel_l0)], [], ⟨[], [], []⟩⟩
def E63 {β : Type} (N : Nat) : Env β := VE63 N (impl_IsTable N) (impl_Table_spectrum N) (impl_ones N) (impl_EnergyByLevel_l0 N)
def BV_impl_EnergyByLevel_l0b {β : Type} (N : Nat) (q_impl_ones : (a0 : Int) → (k : Int → Option β) → Option β)  (v0 : Int) (v1 : Int) (v2 : List Int) (v3 : List Int) (rec_ : Int → Int → List Int → List Int → Option β) (k0 : List Int → Option β) : Option β :=
(cond ((decide (v1 < v0)))
((gd ((decide (0 ≤ v1)))
((gd ((decide (v1 < (v3.length : Int))))
(q_impl_ones v1 fun r5 =>
(gd ((decide (0 ≤ r5)))
((gd ((decide (r5 < (v2.length : Int))))
((gd ((decide (0 ≤ r5)))
((gd ((decide (r5 < (v2.length : Int))))
(rec_ v0 ((w64 (v1 + 1))) ((wr v2 r5 (w64 ((rd 0 v2 r5) + (w64 ((rd 0 v3 v1) * (rd 0 v3 v1))))))) v3)))))))))))))
(k0 v2))
theorem t_impl_EnergyByLevel_l0b {β : Type} (N : Nat)  (v0 : Int) (v1 : Int) (v2 : List Int) (v3 : List Int) (rec_ : Int → Int → List Int → List Int → Option β) (k0 : List Int → Option β) : impl_EnergyByLevel_l0b N v0 v1 v2 v3 rec_ k0 = BV_impl_EnergyByLevel_l0b N (impl_ones N) v0 v1 v2 v3 rec_ k0 := by
  unfold impl_EnergyByLevel_l0b BV_impl_EnergyByLevel_l0b
  rfl
theorem vst63_0_0 {β : Type} (N : Nat) (q_impl_IsTable : (a0 : Int) → (a1 : Int) → (k : Bool → Option β) → Option β) (q_impl_Table_spectrum : (a0 : Int) → (a1 : Int) → (k : List Int → Option β) → Option β) (q_impl_ones : (a0 : Int) → (k : Int → Option β) → Option β) (q_impl_EnergyByLevel_l0 : Nat → Int → Int → List Int → List Int → (List Int → Option β) → Option β)  (v0 : Int) (v1 : Int) (v2 : List Int) (v3 : List Int) (rec_ : St → Option β) (K : Exit → St → Option β) :
    ev lay (VE63 N q_impl_IsTable q_impl_Table_spectrum q_impl_ones q_impl_EnergyByLevel_l0) (retMask Tryd.f63) (lp Tryd.f63 0).body (lp Tryd.f63 0).ex ((lp Tryd.f63 0).lv (retMask Tryd.f63)) (h63_0_0  v0 v1 v2 v3) (nextR (fun s' => rec_ (s'.tidy ((lp Tryd.f63 0).lv (retMask Tryd.f63)))) K) = BV_impl_EnergyByLevel_l0b N q_impl_ones  v0 v1 v2 v3 (fun v0 v1 v2 v3 => rec_ (h63_0_0  v0 v1 v2 v3)) (fun y0 => K (.exit 0) (x63_0_0_k0  y0)) := by kernel_rfl
theorem st63_0_0 {β : Type} (N : Nat)  (v0 : Int) (v1 : Int) (v2 : List Int) (v3 : List Int) (rec_ : St → Option β) (K : Exit → St → Option β) :
    ev lay (E63 N) (retMask Tryd.f63) (lp Tryd.f63 0).body (lp Tryd.f63 0).ex ((lp Tryd.f63 0).lv (retMask Tryd.f63)) (h63_0_0  v0 v1 v2 v3) (nextR (fun s' => rec_ (s'.tidy ((lp Tryd.f63 0).lv (retMask Tryd.f63)))) K) = impl_EnergyByLevel_l0b N  v0 v1 v2 v3 (fun v0 v1 v2 v3 => rec_ (h63_0_0  v0 v1 v2 v3)) (fun y0 => K (.exit 0) (x63_0_0_k0  y0)) := (vst63_0_0 N (impl_IsTable N) (impl_Table_spectrum N) (impl_ones N) (impl_EnergyByLevel_l0 N) v0 v1 v2 v3 rec_ K).trans (t_impl_EnergyByLevel_l0b N  v0 v1 v2 v3 (fun v0 v1 v2 v3 => rec_ (h63_0_0  v0 v1 v2 v3)) (fun y0 => K (.exit 0) (x63_0_0_k0  y0))).symm
theorem ro63_0_0 {β : Type} (N : Nat)  (K : Exit → St → Option β) : ∀ (F : Nat) (v0 : Int) (v1 : Int) (v2 : List Int) (v3 : List Int), (lp Tryd.f63 0).rounds lay (E63 N) (retMask Tryd.f63) F (h63_0_0  v0 v1 v2 v3) K = impl_EnergyByLevel_l0 N  F v0 v1 v2 v3 (fun y0 => K (.exit 0) (x63_0_0_k0  y0)) := by
  intro F
  induction F with
  | zero => intros; rfl
  | succ F ih =>
    intros
    rw [rounds_next]
    refine (st63_0_0 N  _ _ _ _ (fun s => (lp Tryd.f63 0).rounds lay (E63 N) (retMask Tryd.f63) F s K) K).trans ?_
    simp only [ih]
    rfl
theorem lk63_0 {β : Type} (N : Nat) : lookL (E63 (β := β) N).loops (lp Tryd.f63 0).id = LS63_0 N := by kernel_rfl
theorem rk63_0 {β : Type} (N : Nat) : RoundsOK lay (E63 (β := β) N) (retMask Tryd.f63) (lp Tryd.f63 0) := by
  intro s K r h
  rw [lk63_0] at h
  unfold LS63_0 VLS63_0 at h
  cases hb : shpSt (h63_0_0 0 0 [] []) s with
  | true =>
    rw [hb, cond_true] at h
    exact ⟨N, by rw [← shpSt_ref hb, fl63_0_0 s]; exact (ro63_0_0 N  K N (intS (oneA (vT (nx tund s.tmps 15)))) (intS (oneA (vT (nx tund s.tmps 16)))) (rInts (rowB_ (nx .dead s.blks 0))) (rInts (rowB_ (nx .dead s.blks 1)))).trans h⟩
  | false =>
  rw [hb, cond_false] at h
  clear hb
  cases h
def BV_impl_EnergyByLevel {β : Type} (N : Nat) (q_impl_IsTable : (a0 : Int) → (a1 : Int) → (k : Bool → Option β) → Option β) (q_impl_Table_spectrum : (a0 : Int) → (a1 : Int) → (k : List Int → Option β) → Option β) (q_impl_EnergyByLevel_l0 : Nat → Int → Int → List Int → List Int → (List Int → Option β) → Option β) (a0 : Int) (a1 : Int) (k : List Int → Option β) : Option β :=
q_impl_IsTable a0 a1 fun r3 =>
(cond (!r3)
(k (([] : List Int)))
((gd ((decide (0 ≤ (w64 (a0 + 1)))))
((gd ((decide ((w64 (a0 + 1)) ≤ (w64 (a0 + 1)))))
((gd ((decide (8 * (w64 (a0 + 1)) ≤ 281474976710656)))
(q_impl_Table_spectrum a0 a1 fun r4 =>
q_impl_EnergyByLevel_l0  N ((r4.length : Int)) 0 ((List.replicate (Int.toNat (w64 (a0 + 1))) (0 : Int))) r4 (fun e6_0 =>
k e6_0)))))))))
theorem t_impl_EnergyByLevel {β : Type} (N : Nat) (a0 : Int) (a1 : Int) (k : List Int → Option β) : impl_EnergyByLevel N a0 a1 k = BV_impl_EnergyByLevel N (impl_IsTable N) (impl_Table_spectrum N) (impl_EnergyByLevel_l0 N) a0 a1 k := by
  unfold impl_EnergyByLevel BV_impl_EnergyByLevel
  rfl
theorem ve63_0 {β : Type} (N : Nat) (q_impl_IsTable : (a0 : Int) → (a1 : Int) → (k : Bool → Option β) → Option β) (q_impl_Table_spectrum : (a0 : Int) → (a1 : Int) → (k : List Int → Option β) → Option β) (q_impl_ones : (a0 : Int) → (k : Int → Option β) → Option β) (q_impl_EnergyByLevel_l0 : Nat → Int → Int → List Int → List Int → (List Int → Option β) → Option β)  (a0 : Int) (a1 : Int) (K : TV → Option β) : evFn lay (VE63 N q_impl_IsTable q_impl_Table_spectrum q_impl_ones q_impl_EnergyByLevel_l0) Tryd.f63 [.v (.agg [.int .i64 a0, .int .i64 a1])] K = BV_impl_EnergyByLevel N q_impl_IsTable q_impl_Table_spectrum q_impl_EnergyByLevel_l0 a0 a1 (fun z2 => K (.v (.one (.sl 3 (.ints .i64 z2))))) := by kernel_rfl
theorem e63_0 {β : Type} (N : Nat)  (a0 : Int) (a1 : Int) (K : TV → Option β) : evFn lay (E63 N) Tryd.f63 [.v (.agg [.int .i64 a0, .int .i64 a1])] K = impl_EnergyByLevel N a0 a1 (fun z2 => K (.v (.one (.sl 3 (.ints .i64 z2))))) := (ve63_0 N (impl_IsTable N) (impl_Table_spectrum N) (impl_ones N) (impl_EnergyByLevel_l0 N) a0 a1 K).trans (t_impl_EnergyByLevel N a0 a1 (fun z2 => K (.v (.one (.sl 3 (.ints .i64 z2)))))).symm
theorem o63 {β : Type} (N : Nat) : SpecOK (β := β) inv Tryd.prog 63 (S63 N) := by
  refine spec_of lay_ok mixed (E := E63 N) (specs_loops (specs_cons (o59 N) (specs_cons (o62 N) (specs_cons (o129 N) specs_nil)))) muts_nil gs_nil Tryd.func63 (by kernel_rfl) 1 (by kernel_rfl) ⟨trivial, rk63_0 N⟩ fun args K r h => ?_
  unfold S63 VS63 at h
  split at h
  · exact (e63_0 N _ _ _).trans h
  · cases h
def VS190 {β : Type} (N : Nat) (q_impl_size1 : (a0 : Int) → (k : Int → Option β) → Option β) : Rv.Spec β := fun args K => match args with
  | [.v (.one (.int .i64 a0))] => q_impl_size1 a0 (fun z1 => K (.v (.one (.int .i64 z1))))
  | _ => none
def S190 {β : Type} (N : Nat) : Rv.Spec β := VS190 N (impl_size1 N)
def VE190 {β : Type} (N : Nat) : Env β := ⟨[], [], [], [], ⟨[], [], []⟩⟩
def E190 {β : Type} (N : Nat) : Env β := VE190 N
def BV_impl_size1 {β : Type} (N : Nat) (a0 : Int) (k : Int → Option β) : Option β :=
k ((mxI a0 (w64 (0 - a0))))
theorem t_impl_size1 {β : Type} (N : Nat) (a0 : Int) (k : Int → Option β) : impl_size1 N a0 k = BV_impl_size1 N a0 k := by
  unfold impl_size1 BV_impl_size1
  rfl
theorem ve190_0 {β : Type} (N : Nat)  (a0 : Int) (K : TV → Option β) : evFn lay (VE190 N) Tryd.f190 [.v (.one (.int .i64 a0))] K = BV_impl_size1 N a0 (fun z1 => K (.v (.one (.int .i64 z1)))) := by kernel_rfl
theorem e190_0 {β : Type} (N : Nat)  (a0 : Int) (K : TV → Option β) : evFn lay (E190 N) Tryd.f190 [.v (.one (.int .i64 a0))] K = impl_size1 N a0 (fun z1 => K (.v (.one (.int .i64 z1)))) := (ve190_0 N a0 K).trans (t_impl_size1 N a0 (fun z1 => K (.v (.one (.int .i64 z1))))).symm
theorem o190 {β : Type} (N : Nat) : SpecOK (β := β) inv Tryd.prog 190 (S190 N) := by
  refine spec_of lay_ok mixed (E := E190 N) (specs_loops specs_nil) muts_nil gs_nil Tryd.func190 (by kernel_rfl) 0 (by kernel_rfl) trivial fun args K r h => ?_
  unfold S190 VS190 at h
  split at h
  · exact (e190_0 N _ _).trans h
  · cases h
def VS131 {β : Type} (N : Nat) (q_impl_peak : (a0 : List Int) → (k : Int → Option β) → Option β) : Rv.Spec β := fun args K => match args with
  | [.v (.one (.sl 3 (.ints .i64 a0)))] => q_impl_peak a0 (fun z1 => K (.v (.one (.int .i64 z1))))
  | _ => none
def S131 {β : Type} (N : Nat) : Rv.Spec β := VS131 N (impl_peak N)
def h131_0_0  (v0 : Int) (v1 : List Int) (v2 : Int) (v3 : Int) : St := ⟨.v (.one .und) :: .v (.one .und) :: .v (.one .und) :: .v (.one (.int .i64 v0)) :: .v (.one .und) :: .v (.one .und) :: .v (.one (.sl 3 (.ints .i64 v1))) :: .v (.one (.int .i64 v2)) :: .v (.one (.int .i64 v3)) :: .v (.one .und) :: .v (.one .und) :: .v (.one .und) :: .v (.one .und) :: .v (.one .und) :: .v (.one .und) :: .v (.one .und) :: .v (.one .und) :: .v (.one .und) :: [], []⟩
def x131_0_0_k0  (y0 : Int) : St := ⟨.v (.one .und) :: .v (.one .und) :: .v (.one .und) :: .v (.one (.int .i64 y0)) :: .v (.one .und) :: .v (.one .und) :: .v (.one .und) :: .v (.one .und) :: .v (.one .und) :: .v (.one .und) :: .v (.one .und) :: .v (.one .und) :: .v (.one .und) :: .v (.one .und) :: .v (.one .und) :: .v (.one .und) :: .v (.one .und) :: .v (.one .und) :: [], []⟩
theorem fl131_0_0 (s : St) : refSt (h131_0_0 0 [] 0 0) s = h131_0_0 (intS (oneA (vT (nx tund s.tmps 3)))) (rInts (rowV (oneA (vT (nx tund s.tmps 6))))) (intS (oneA (vT (nx tund s.tmps 7)))) (intS (oneA (vT (nx tund s.tmps 8)))) := by kernel_rfl
def VLS131_0 {β : Type} (N : Nat) (q_impl_peak_l0 : Nat → Int → List Int → Int → Int → (Int → Option β) → Option β) : LSpec β := fun s K => cond (shpSt (h131_0_0 0 [] 0 0) s) ((fun (v0 : Int) (v1 : List Int) (v2 : Int) (v3 : Int) => q_impl_peak_l0  N v0 v1 v2 v3 (fun y0 => K (.exit 0) (x131_0_0_k0  y0))) (intS (oneA (vT (nx tund s.tmps 3)))) (rInts (rowV (oneA (vT (nx tund s.tmps 6))))) (intS (oneA (vT (nx tund s.tmps 7)))) (intS (oneA (vT (nx tund s.tmps 8))))) (none)
def LS131_0 {β : Type} (N : Nat) : LSpec β := VLS131_0 N (impl_peak_l0 N)
def VE131 {β : Type} (N : Nat) (q_impl_size1 : (a0 : Int) → (k : Int → Option β) → Option β) (q_impl_peak_l0 : Nat → Int → List Int → Int → Int → (Int → Option β) → Option β) : Env β := ⟨[(190, VS190 N q_impl_size1)], [], [(0, VLS131_0 N q_impl_peak_l0)], [], ⟨[], [], []⟩⟩
def E131 {β : Type} (N : Nat) : Env β := VE131 N (impl_size1 N) (impl_peak_l0 N)
def BV_impl_peak_l0b {β : Type} (N : Nat) (q_impl_size1 : (a0 : Int) → (k : Int → Option β) → Option β)  (v0 : Int) (v1 : List Int) (v2 : Int) (v3 : Int) (rec_ : Int → List Int → Int → Int → Option β) (k0 : Int → Option β) : Option β :=
(cond ((decide (v3 < v2)))
((gd ((decide (0 ≤ v3)))
((gd ((decide (v3 < (v1.length : Int))))
(q_impl_size1 ((rd 0 v1 v3)) fun r2 =>
rec_ ((mxI v0 r2)) v1 v2 ((w64 (v3 + 1))))))))
(k0 v0))
theorem t_impl_peak_l0b {β : Type} (N : Nat)  (v0 : Int) (v1 : List Int) (v2 : Int) (v3 : Int) (rec_ : Int → List Int → Int → Int → Option β) (k0 : Int → Option β) : impl_peak_l0b N v0 v1 v2 v3 rec_ k0 = BV_impl_peak_l0b N (impl_size1 N) v0 v1 v2 v3 rec_ k0 := by
  unfold impl_peak_l0b BV_impl_peak_l0b
  rfl
theorem vst131_0_0 {β : Type} (N : Nat) (q_impl_size1 : (a0 : Int) → (k : Int → Option β) → Option β) (q_impl_peak_l0 : Nat → Int → List Int → Int → Int → (Int → Option β) → Option β)  (v0 : Int) (v1 : List Int) (v2 : Int) (v3 : Int) (rec_ : St → Option β) (K : Exit → St → Option β) :
    ev lay (VE131 N q_impl_size1 q_impl_peak_l0) (retMask Tryd.f131) (lp Tryd.f131 0).body (lp Tryd.f131 0).ex ((lp Tryd.f131 0).lv (retMask Tryd.f131)) (h131_0_0  v0 v1 v2 v3) (nextR (fun s' => rec_ (s'.tidy ((lp Tryd.f131 0).lv (retMask Tryd.f131)))) K) = BV_impl_peak_l0b N q_impl_size1  v0 v1 v2 v3 (fun v0 v1 v2 v3 => rec_ (h131_0_0  v0 v1 v2 v3)) (fun y0 => K (.exit 0) (x131_0_0_k0  y0)) := by kernel_rfl
theorem st131_0_0 {β : Type} (N : Nat)  (v0 : Int) (v1 : List Int) (v2 : Int) (v3 : Int) (rec_ : St → Option β) (K : Exit → St → Option β) :
    ev lay (E131 N) (retMask Tryd.f131) (lp Tryd.f131 0).body (lp Tryd.f131 0).ex ((lp Tryd.f131 0).lv (retMask Tryd.f131)) (h131_0_0  v0 v1 v2 v3) (nextR (fun s' => rec_ (s'.tidy ((lp Tryd.f131 0).lv (retMask Tryd.f131)))) K) = impl_peak_l0b N  v0 v1 v2 v3 (fun v0 v1 v2 v3 => rec_ (h131_0_0  v0 v1 v2 v3)) (fun y0 => K (.exit 0) (x131_0_0_k0  y0)) := (vst131_0_0 N (impl_size1 N) (impl_peak_l0 N) v0 v1 v2 v3 rec_ K).trans (t_impl_peak_l0b N  v0 v1 v2 v3 (fun v0 v1 v2 v3 => rec_ (h131_0_0  v0 v1 v2 v3)) (fun y0 => K (.exit 0) (x131_0_0_k0  y0))).symm
theorem ro131_0_0 {β : Type} (N : Nat)  (K : Exit → St → Option β) : ∀ (F : Nat) (v0 : Int) (v1 : List Int) (v2 : Int) (v3 : Int), (lp Tryd.f131 0).rounds lay (E131 N) (retMask Tryd.f131) F (h131_0_0  v0 v1 v2 v3) K = impl_peak_l0 N  F v0 v1 v2 v3 (fun y0 => K (.exit 0) (x131_0_0_k0  y0)) := by
  intro F
  induction F with
  | zero => intros; rfl
  | succ F ih =>
    intros
    rw [rounds_next]
    refine (st131_0_0 N  _ _ _ _ (fun s => (lp Tryd.f131 0).rounds lay (E131 N) (retMask Tryd.f131) F s K) K).trans ?_
    simp only [ih]
    rfl
theorem lk131_0 {β : Type} (N : Nat) : lookL (E131 (β := β) N).loops (lp Tryd.f131 0).id = LS131_0 N := by kernel_rfl
theorem rk131_0 {β : Type} (N : Nat) : RoundsOK lay (E131 (β := β) N) (retMask Tryd.f131) (lp Tryd.f131 0) := by
  intro s K r h
  rw [lk131_0] at h
  unfold LS131_0 VLS131_0 at h
  cases hb : shpSt (h131_0_0 0 [] 0 0) s with
  | true =>
    rw [hb, cond_true] at h
    exact ⟨N, by rw [← shpSt_ref hb, fl131_0_0 s]; exact (ro131_0_0 N  K N (intS (oneA (vT (nx tund s.tmps 3)))) (rInts (rowV (oneA (vT (nx tund s.tmps 6))))) (intS (oneA (vT (nx tund s.tmps 7)))) (intS (oneA (vT (nx tund s.tmps 8))))).trans h⟩
  | false =>
  rw [hb, cond_false] at h
  clear hb
  cases h
def BV_impl_peak {β : Type} (N : Nat) (q_impl_peak_l0 : Nat → Int → List Int → Int → Int → (Int → Option β) → Option β) (a0 : List Int) (k : Int → Option β) : Option β :=
q_impl_peak_l0  N 0 a0 ((a0.length : Int)) 0 (fun e3_0 =>
k e3_0)
theorem t_impl_peak {β : Type} (N : Nat) (a0 : List Int) (k : Int → Option β) : impl_peak N a0 k = BV_impl_peak N (impl_peak_l0 N) a0 k := by
  unfold impl_peak BV_impl_peak
  rfl
theorem ve131_0 {β : Type} (N : Nat) (q_impl_size1 : (a0 : Int) → (k : Int → Option β) → Option β) (q_impl_peak_l0 : Nat → Int → List Int → Int → Int → (Int → Option β) → Option β)  (a0 : List Int) (K : TV → Option β) : evFn lay (VE131 N q_impl_size1 q_impl_peak_l0) Tryd.f131 [.v (.one (.sl 3 (.ints .i64 a0)))] K = BV_impl_peak N q_impl_peak_l0 a0 (fun z1 => K (.v (.one (.int .i64 z1)))) := by kernel_rfl
theorem e131_0 {β : Type} (N : Nat)  (a0 : List Int) (K : TV → Option β) : evFn lay (E131 N) Tryd.f131 [.v (.one (.sl 3 (.ints .i64 a0)))] K = impl_peak N a0 (fun z1 => K (.v (.one (.int .i64 z1)))) := (ve131_0 N (impl_size1 N) (impl_peak_l0 N) a0 K).trans (t_impl_peak N a0 (fun z1 => K (.v (.one (.int .i64 z1))))).symm
theorem o131 {β : Type} (N : Nat) : SpecOK (β := β) inv Tryd.prog 131 (S131 N) := by
  refine spec_of lay_ok mixed (E := E131 N) (specs_loops (specs_cons (o190 N) specs_nil)) muts_nil gs_nil Tryd.func131 (by kernel_rfl) 1 (by kernel_rfl) ⟨trivial, rk131_0 N⟩ fun args K r h => ?_
  unfold S131 VS131 at h
  split at h
  · exact (e131_0 N _ _).trans h
  · cases h
def VS65 {β : Type} (N : Nat) (q_impl_Nonlinearity : (a0 : Int) → (a1 : Int) → (k : Int → Option β) → Option β) : Rv.Spec β := fun args K => match args with
  | [.v (.agg [.int .i64 a0, .int .i64 a1])] => q_impl_Nonlinearity a0 a1 (fun z2 => K (.v (.one (.int .i64 z2))))
  | _ => none
def S65 {β : Type} (N : Nat) : Rv.Spec β := VS65 N (impl_Nonlinearity N)
def VE65 {β : Type} (N : Nat) (q_impl_IsTable : (a0 : Int) → (a1 : Int) → (k : Bool → Option β) → Option β) (q_impl_Table_size : (a0 : Int) → (a1 : Int) → (k : Int → Option β) → Option β) (q_impl_Table_spectrum : (a0 : Int) → (a1 : Int) → (k : List Int → Option β) → Option β) (q_impl_peak : (a0 : List Int) → (k : Int → Option β) → Option β) : Env β := ⟨[(59, VS59 N q_impl_IsTable), (125, VS125 N q_impl_Table_size), (62, VS62 N q_impl_Table_spectrum), (131, VS131 N q_impl_peak)], [], [], [], ⟨[], [], []⟩⟩
def E65 {β : Type} (N : Nat) : Env β := VE65 N (impl_IsTable N) (impl_Table_size N) (impl_Table_spectrum N) (impl_peak N)
def BV_impl_Nonlinearity {β : Type} (N : Nat) (q_impl_IsTable : (a0 : Int) → (a1 : Int) → (k : Bool → Option β) → Option β) (q_impl_Table_size : (a0 : Int) → (a1 : Int) → (k : Int → Option β) → Option β) (q_impl_Table_spectrum : (a0 : Int) → (a1 : Int) → (k : List Int → Option β) → Option β) (q_impl_peak : (a0 : List Int) → (k : Int → Option β) → Option β) (a0 : Int) (a1 : Int) (k : Int → Option β) : Option β :=
q_impl_IsTable a0 a1 fun r3 =>
(cond (!r3)
(k (-1))
(q_impl_Table_size a0 a1 fun r4 =>
q_impl_Table_spectrum a0 a1 fun r5 =>
q_impl_peak r5 fun r6 =>
k ((quoI .i64 (w64 (r4 - r6)) 2))))
theorem t_impl_Nonlinearity {β : Type} (N : Nat) (a0 : Int) (a1 : Int) (k : Int → Option β) : impl_Nonlinearity N a0 a1 k = BV_impl_Nonlinearity N (impl_IsTable N) (impl_Table_size N) (impl_Table_spectrum N) (impl_peak N) a0 a1 k := by
  unfold impl_Nonlinearity BV_impl_Nonlinearity
  rfl
theorem ve65_0 {β : Type} (N : Nat) (q_impl_IsTable : (a0 : Int) → (a1 : Int) → (k : Bool → Option β) → Option β) (q_impl_Table_size : (a0 : Int) → (a1 : Int) → (k : Int → Option β) → Option β) (q_impl_Table_spectrum : (a0 : Int) → (a1 : Int) → (k : List Int → Option β) → Option β) (q_impl_peak : (a0 : List Int) → (k : Int → Option β) → Option β)  (a0 : Int) (a1 : Int) (K : TV → Option β) : evFn lay (VE65 N q_impl_IsTable q_impl_Table_size q_impl_Table_spectrum q_impl_peak) Tryd.f65 [.v (.agg [.int .i64 a0, .int .i64 a1])] K = BV_impl_Nonlinearity N q_impl_IsTable q_impl_Table_size q_impl_Table_spectrum q_impl_peak a0 a1 (fun z2 => K (.v (.one (.int .i64 z2)))) := by kernel_rfl
theorem e65_0 {β : Type} (N : Nat)  (a0 : Int) (a1 : Int) (K : TV → Option β) : evFn lay (E65 N) Tryd.f65 [.v (.agg [.int .i64 a0, .int .i64 a1])] K = impl_Nonlinearity N a0 a1 (fun z2 => K (.v (.one (.int .i64 z2)))) := (ve65_0 N (impl_IsTable N) (impl_Table_size N) (impl_Table_spectrum N) (impl_peak N) a0 a1 K).trans (t_impl_Nonlinearity N a0 a1 (fun z2 => K (.v (.one (.int .i64 z2))))).symm
theorem o65 {β : Type} (N : Nat) : SpecOK (β := β) inv Tryd.prog 65 (S65 N) := by
  refine spec_of lay_ok mixed (E := E65 N) (specs_loops (specs_cons (o59 N) (specs_cons (o125 N) (specs_cons (o62 N) (specs_cons (o131 N) specs_nil))))) muts_nil gs_nil Tryd.func65 (by kernel_rfl) 0 (by kernel_rfl) trivial fun args K r h => ?_
  unfold S65 VS65 at h
  split at h
  · exact (e65_0 N _ _ _).trans h
  · cases h
def VS66 {β : Type} (N : Nat) (q_impl_CorrelationImmunity : (a0 : Int) → (a1 : Int) → (k : Int → Option β) → Option β) : Rv.Spec β := fun args K => match args with
  | [.v (.agg [.int .i64 a0, .int .i64 a1])] => q_impl_CorrelationImmunity a0 a1 (fun z2 => K (.v (.one (.int .i64 z2))))
  | _ => none
def S66 {β : Type} (N : Nat) : Rv.Spec β := VS66 N (impl_CorrelationImmunity N)
def h66_0_0  (v0 : Int) (v1 : Int) (v2 : Int) (v3 : List Int) : St := ⟨.v (.one .und) :: .v (.one .und) :: .v (.one .und) :: .v (.one (.int .i64 v0)) :: .v (.one .und) :: .v (.one .und) :: .v (.one .und) :: .v (.one .und) :: .v (.one .und) :: .v (.one .und) :: .v (.one .und) :: .v (.one .und) :: .v (.one (.row 0)) :: .v (.one (.int .i64 v1)) :: .v (.one (.int .i64 v2)) :: .v (.one .und) :: .v (.one .und) :: .v (.one .und) :: .v (.one .und) :: .v (.one .und) :: .v (.one .und) :: .v (.one .und) :: .v (.one .und) :: .v (.one .und) :: .v (.one .und) :: .v (.one .und) :: .v (.one .und) :: .v (.one .und) :: .v (.one .und) :: .v (.one .und) :: .v (.one .und) :: .v (.one .und) :: [], [.row 3 (.ints .i64 v3)]⟩
def x66_0_0_k0  (y0 : Int) : St := ⟨.v (.one .und) :: .v (.one .und) :: .v (.one .und) :: .v (.one (.int .i64 y0)) :: .v (.one .und) :: .v (.one .und) :: .v (.one .und) :: .v (.one .und) :: .v (.one .und) :: .v (.one .und) :: .v (.one .und) :: .v (.one .und) :: .v (.one .und) :: .v (.one .und) :: .v (.one .und) :: .v (.one .und) :: .v (.one .und) :: .v (.one .und) :: .v (.one .und) :: .v (.one .und) :: .v (.one .und) :: .v (.one .und) :: .v (.one .und) :: .v (.one .und) :: .v (.one .und) :: .v (.one .und) :: .v (.one .und) :: .v (.one .und) :: .v (.one .und) :: .v (.one .und) :: .v (.one .und) :: .v (.one .und) :: [], []⟩
theorem fl66_0_0 (s : St) : refSt (h66_0_0 0 0 0 []) s = h66_0_0 (intS (oneA (vT (nx tund s.tmps 3)))) (intS (oneA (vT (nx tund s.tmps 13)))) (intS (oneA (vT (nx tund s.tmps 14)))) (rInts (rowB_ (nx .dead s.blks 0))) := by kernel_rfl
def VLS66_0 {β : Type} (N : Nat) (q_impl_CorrelationImmunity_l0 : Nat → Int → Int → Int → List Int → (Int → Option β) → Option β) : LSpec β := fun s K => cond (shpSt (h66_0_0 0 0 0 []) s) ((fun (v0 : Int) (v1 : Int) (v2 : Int) (v3 : List Int) => q_impl_CorrelationImmunity_l0  N v0 v1 v2 v3 (fun y0 => K (.exit 0) (x66_0_0_k0  y0))) (intS (oneA (vT (nx tund s.tmps 3)))) (intS (oneA (vT (nx tund s.tmps 13)))) (intS (oneA (vT (nx tund s.tmps 14)))) (rInts (rowB_ (nx .dead s.blks 0)))) (none)
def LS66_0 {β : Type} (N : Nat) : LSpec β := VLS66_0 N (impl_CorrelationImmunity_l0 N)
def VE66 {β : Type} (N : Nat) (q_impl_IsTable : (a0 : Int) → (a1 : Int) → (k : Bool → Option β) → Option β) (q_impl_Table_spectrum : (a0 : Int) → (a1 : Int) → (k : List Int → Option β) → Option β) (q_impl_ones : (a0 : Int) → (k : Int → Option β) → Option β) (q_impl_CorrelationImmunity_l0 : Nat → Int → Int → Int → List Int → (Int → Option β) → Option β) : Env β := ⟨[(59, VS59 N q_impl_IsTable), (62, VS62 N q_impl_Table_spectrum), (129, VS129 N q_impl_ones)], [], [(0, VLS66_0 N q_impl_CorrelationImmunity_l0)], [], ⟨[], [], []⟩⟩
def E66 {β : Type} (N : Nat) : Env β := VE66 N (impl_IsTable N) (impl_Table_spectrum N) (impl_ones N) (impl_CorrelationImmunity_l0 N)
def BV_impl_CorrelationImmunity_l0b {β : Type} (N : Nat) (q_impl_ones : (a0 : Int) → (k : Int → Option β) → Option β)  (v0 : Int) (v1 : Int) (v2 : Int) (v3 : List Int) (rec_ : Int → Int → Int → List Int → Option β) (k0 : Int → Option β) : Option β :=
(cond ((decide (v2 < v1)))
((gd ((decide (0 ≤ v2)))
((gd ((decide (v2 < (v3.length : Int))))
((cond ((decide (v2 > 0)))
((cond (((rd 0 v3 v2) != 0))
(q_impl_ones v2 fun r5 =>
rec_ ((mnI v0 (w64 (r5 - 1)))) v1 ((w64 (v2 + 1))) v3)
(rec_ v0 v1 ((w64 (v2 + 1))) v3)))
(rec_ v0 v1 ((w64 (v2 + 1))) v3)))))))
(k0 v0))
theorem t_impl_CorrelationImmunity_l0b {β : Type} (N : Nat)  (v0 : Int) (v1 : Int) (v2 : Int) (v3 : List Int) (rec_ : Int → Int → Int → List Int → Option β) (k0 : Int → Option β) : impl_CorrelationImmunity_l0b N v0 v1 v2 v3 rec_ k0 = BV_impl_CorrelationImmunity_l0b N (impl_ones N) v0 v1 v2 v3 rec_ k0 := by
  unfold impl_CorrelationImmunity_l0b BV_impl_CorrelationImmunity_l0b
  rfl
theorem vst66_0_0 {β : Type} (N : Nat) (q_impl_IsTable : (a0 : Int) → (a1 : Int) → (k : Bool → Option β) → Option β) (q_impl_Table_spectrum : (a0 : Int) → (a1 : Int) → (k : List Int → Option β) → Option β) (q_impl_ones : (a0 : Int) → (k : Int → Option β) → Option β) (q_impl_CorrelationImmunity_l0 : Nat → Int → Int → Int → List Int → (Int → Option β) → Option β)  (v0 : Int) (v1 : Int) (v2 : Int) (v3 : List Int) (rec_ : St → Option β) (K : Exit → St → Option β) :
    ev lay (VE66 N q_impl_IsTable q_impl_Table_spectrum q_impl_ones q_impl_CorrelationImmunity_l0) (retMask Tryd.f66) (lp Tryd.f66 0).body (lp Tryd.f66 0).ex ((lp Tryd.f66 0).lv (retMask Tryd.f66)) (h66_0_0  v0 v1 v2 v3) (nextR (fun s' => rec_ (s'.tidy ((lp Tryd.f66 0).lv (retMask Tryd.f66)))) K) = BV_impl_CorrelationImmunity_l0b N q_impl_ones  v0 v1 v2 v3 (fun v0 v1 v2 v3 => rec_ (h66_0_0  v0 v1 v2 v3)) (fun y0 => K (.exit 0) (x66_0_0_k0  y0)) := by kernel_rfl
theorem st66_0_0 {β : Type} (N : Nat)  (v0 : Int) (v1 : Int) (v2 : Int) (v3 : List Int) (rec_ : St → Option β) (K : Exit → St → Option β) :
    ev lay (E66 N) (retMask Tryd.f66) (lp Tryd.f66 0).body (lp Tryd.f66 0).ex ((lp Tryd.f66 0).lv (retMask Tryd.f66)) (h66_0_0  v0 v1 v2 v3) (nextR (fun s' => rec_ (s'.tidy ((lp Tryd.f66 0).lv (retMask Tryd.f66)))) K) = impl_CorrelationImmunity_l0b N  v0 v1 v2 v3 (fun v0 v1 v2 v3 => rec_ (h66_0_0  v0 v1 v2 v3)) (fun y0 => K (.exit 0) (x66_0_0_k0  y0)) := (vst66_0_0 N (impl_IsTable N) (impl_Table_spectrum N) (impl_ones N) (impl_CorrelationImmunity_l0 N) v0 v1 v2 v3 rec_ K).trans (t_impl_CorrelationImmunity_l0b N  v0 v1 v2 v3 (fun v0 v1 v2 v3 => rec_ (h66_0_0  v0 v1 v2 v3)) (fun y0 => K (.exit 0) (x66_0_0_k0  y0))).symm
theorem ro66_0_0 {β : Type} (N : Nat)  (K : Exit → St → Option β) : ∀ (F : Nat) (v0 : Int) (v1 : Int) (v2 : Int) (v3 : List Int), (lp Tryd.f66 0).rounds lay (E66 N) (retMask Tryd.f66) F (h66_0_0  v0 v1 v2 v3) K = impl_CorrelationImmunity_l0 N  F v0 v1 v2 v3 (fun y0 => K (.exit 0) (x66_0_0_k0  y0)) := by
  intro F
  induction F with
  | zero => intros; rfl
  | succ F ih =>
    intros
    rw [rounds_next]
    refine (st66_0_0 N  _ _ _ _ (fun s => (lp Tryd.f66 0).rounds lay (E66 N) (retMask Tryd.f66) F s K) K).trans ?_
    simp only [ih]
    rfl
theorem lk66_0 {β : Type} (N : Nat) : lookL (E66 (β := β) N).loops (lp Tryd.f66 0).id = LS66_0 N := by kernel_rfl
theorem rk66_0 {β : Type} (N : Nat) : RoundsOK lay (E66 (β := β) N) (retMask Tryd.f66) (lp Tryd.f66 0) := by
  intro s K r h
  rw [lk66_0] at h
  unfold LS66_0 VLS66_0 at h
  cases hb : shpSt (h66_0_0 0 0 0 []) s with
  | true =>
    rw [hb, cond_true] at h
    exact ⟨N, by rw [← shpSt_ref hb, fl66_0_0 s]; exact (ro66_0_0 N  K N (intS (oneA (vT (nx tund s.tmps 3)))) (intS (oneA (vT (nx tund s.tmps 13)))) (intS (oneA (vT (nx tund s.tmps 14)))) (rInts (rowB_ (nx .dead s.blks 0)))).trans h⟩
  | false =>
  rw [hb, cond_false] at h
  clear hb
  cases h
def BV_impl_CorrelationImmunity {β : Type} (N : Nat) (q_impl_IsTable : (a0 : Int) → (a1 : Int) → (k : Bool → Option β) → Option β) (q_impl_Table_spectrum : (a0 : Int) → (a1 : Int) → (k : List Int → Option β) → Option β) (q_impl_CorrelationImmunity_l0 : Nat → Int → Int → Int → List Int → (Int → Option β) → Option β) (a0 : Int) (a1 : Int) (k : Int → Option β) : Option β :=
q_impl_IsTable a0 a1 fun r3 =>
(cond (!r3)
(k (-1))
(q_impl_Table_spectrum a0 a1 fun r4 =>
q_impl_CorrelationImmunity_l0  N a0 ((r4.length : Int)) 0 r4 (fun e6_0 =>
k e6_0)))
theorem t_impl_CorrelationImmunity {β : Type} (N : Nat) (a0 : Int) (a1 : Int) (k : Int → Option β) : impl_CorrelationImmunity N a0 a1 k = BV_impl_CorrelationImmunity N (impl_IsTable N) (impl_Table_spectrum N) (impl_CorrelationImmunity_l0 N) a0 a1 k := by
  unfold impl_CorrelationImmunity BV_impl_CorrelationImmunity
  rfl
theorem ve66_0 {β : Type} (N : Nat) (q_impl_IsTable : (a0 : Int) → (a1 : Int) → (k : Bool → Option β) → Option β) (q_impl_Table_spectrum : (a0 : Int) → (a1 : Int) → (k : List Int → Option β) → Option β) (q_impl_ones : (a0 : Int) → (k : Int → Option β) → Option β) (q_impl_CorrelationImmunity_l0 : Nat → Int → Int → Int → List Int → (Int → Option β) → Option β)  (a0 : Int) (a1 : Int) (K : TV → Option β) : evFn lay (VE66 N q_impl_IsTable q_impl_Table_spectrum q_impl_ones q_impl_CorrelationImmunity_l0) Tryd.f66 [.v (.agg [.int .i64 a0, .int .i64 a1])] K = BV_impl_CorrelationImmunity N q_impl_IsTable q_impl_Table_spectrum q_impl_CorrelationImmunity_l0 a0 a1 (fun z2 => K (.v (.one (.int .i64 z2)))) := by kernel_rfl
theorem e66_0 {β : Type} (N : Nat)  (a0 : Int) (a1 : Int) (K : TV → Option β) : evFn lay (E66 N) Tryd.f66 [.v (.agg [.int .i64 a0, .int .i64 a1])] K = impl_CorrelationImmunity N a0 a1 (fun z2 => K (.v (.one (.int .i64 z2)))) := (ve66_0 N (impl_IsTable N) (impl_Table_spectrum N) (impl_ones N) (impl_CorrelationImmunity_l0 N) a0 a1 K).trans (t_impl_CorrelationImmunity N a0 a1 (fun z2 => K (.v (.one (.int .i64 z2))))).symm
theorem o66 {β : Type} (N : Nat) : SpecOK (β := β) inv Tryd.prog 66 (S66 N) := by
  refine spec_of lay_ok mixed (E := E66 N) (specs_loops (specs_cons (o59 N) (specs_cons (o62 N) (specs_cons (o129 N) specs_nil)))) muts_nil gs_nil Tryd.func66 (by kernel_rfl) 1 (by kernel_rfl) ⟨trivial, rk66_0 N⟩ fun args K r h => ?_
  unfold S66 VS66 at h
  split at h
  · exact (e66_0 N _ _ _).trans h
  · cases h
end Go.Proofs.YtfdggelojmofmaaDoor
