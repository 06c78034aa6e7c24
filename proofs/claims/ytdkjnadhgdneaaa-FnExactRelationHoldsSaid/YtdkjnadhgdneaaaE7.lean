/- The functions that the claims reach answer as their texts do. -/
import Derived.Test.YtdkjnadhgdneaaaE6
namespace Go.Proofs.Ytdkjnadhgdneaaa
open Go.Rv
set_option maxRecDepth 100000
set_option maxHeartbeats 2000000
set_option linter.unusedVariables false
def VS78 {β : Type} (N : Nat) (q_impl_Table_influence : (a0 : Int) → (a1 : Int) → (a2 : Int) → (k : Int → Option β) → Option β) : Rv.Spec β := fun args K => match args with
  | [.v (.agg [.int .i64 a0, .int .i64 a1]), .v (.one (.int .i64 a2))] => q_impl_Table_influence a0 a1 a2 (fun z3 => K (.v (.one (.int .i64 z3))))
  | _ => none
def S78 {β : Type} (N : Nat) : Rv.Spec β := VS78 N (impl_Table_influence N)
def h78_0_0  (v0 : Int) (v1 : Int) (v2 : Int) (v3 : Int) (v4 : Int) (v5 : Int) : St := ⟨.v (.one .und) :: .v (.one (.int .i64 v0)) :: .v (.one (.ptr 0 0)) :: .v (.one .und) :: .v (.one .und) :: .v (.one (.int .i64 v1)) :: .v (.one .und) :: .v (.one .und) :: .v (.one (.int .i64 v2)) :: .v (.one (.int .i64 v3)) :: .v (.one .und) :: .v (.one .und) :: .v (.one .und) :: .v (.one .und) :: .v (.one .und) :: .v (.one .und) :: .v (.one .und) :: .v (.one .und) :: .v (.one .und) :: .v (.one .und) :: .v (.one .und) :: [], [.cells 25 [.int .i64 v4, .int .i64 v5]]⟩
def x78_0_0_k0  (y0 : Int) : St := ⟨.v (.one .und) :: .v (.one .und) :: .v (.one .und) :: .v (.one .und) :: .v (.one .und) :: .v (.one (.int .i64 y0)) :: .v (.one .und) :: .v (.one .und) :: .v (.one .und) :: .v (.one .und) :: .v (.one .und) :: .v (.one .und) :: .v (.one .und) :: .v (.one .und) :: .v (.one .und) :: .v (.one .und) :: .v (.one .und) :: .v (.one .und) :: .v (.one .und) :: .v (.one .und) :: .v (.one .und) :: [], []⟩
theorem fl78_0_0 (s : St) : refSt (h78_0_0 0 0 0 0 0 0) s = h78_0_0 (intS (oneA (vT (nx tund s.tmps 1)))) (intS (oneA (vT (nx tund s.tmps 5)))) (intS (oneA (vT (nx tund s.tmps 8)))) (intS (oneA (vT (nx tund s.tmps 9)))) (intS (nx .und (cellsB (nx .dead s.blks 0)) 0)) (intS (nx .und (cellsB (nx .dead s.blks 0)) 1)) := by kernel_rfl
def VLS78_0 {β : Type} (N : Nat) (q_impl_Table_influence_l0 : Nat → Int → Int → Int → Int → Int → Int → (Int → Option β) → Option β) : LSpec β := fun s K => cond (shpSt (h78_0_0 0 0 0 0 0 0) s) ((fun (v0 : Int) (v1 : Int) (v2 : Int) (v3 : Int) (v4 : Int) (v5 : Int) => q_impl_Table_influence_l0  N v0 v1 v2 v3 v4 v5 (fun y0 => K (.exit 0) (x78_0_0_k0  y0))) (intS (oneA (vT (nx tund s.tmps 1)))) (intS (oneA (vT (nx tund s.tmps 5)))) (intS (oneA (vT (nx tund s.tmps 8)))) (intS (oneA (vT (nx tund s.tmps 9)))) (intS (nx .und (cellsB (nx .dead s.blks 0)) 0)) (intS (nx .und (cellsB (nx .dead s.blks 0)) 1))) (none)
def LS78_0 {β : Type} (N : Nat) : LSpec β := VLS78_0 N (impl_Table_influence_l0 N)
def VE78 {β : Type} (N : Nat) (q_impl_Table_size : (a0 : Int) → (a1 : Int) → (k : Int → Option β) → Option β) (q_impl_Table_changes : (a0 : Int) → (a1 : Int) → (a2 : Int) → (a3 : Int) → (k : Bool → Option β) → Option β) (q_impl_Table_influence_l0 : Nat → Int → Int → Int → Int → Int → Int → (Int → Option β) → Option β) : Env β := ⟨[(82, VS82 N q_impl_Table_size), (115, VS115 N q_impl_Table_changes)], [], [(0, VLS78_0 N q_impl_Table_influence_l0)], []⟩
def E78 {β : Type} (N : Nat) : Env β := VE78 N (impl_Table_size N) (impl_Table_changes N) (impl_Table_influence_l0 N)
def BV_impl_Table_influence_l0b {β : Type} (N : Nat) (q_impl_Table_changes : (a0 : Int) → (a1 : Int) → (a2 : Int) → (a3 : Int) → (k : Bool → Option β) → Option β)  (v0 : Int) (v1 : Int) (v2 : Int) (v3 : Int) (v4 : Int) (v5 : Int) (rec_ : Int → Int → Int → Int → Int → Int → Option β) (k0 : Int → Option β) : Option β :=
(cond ((decide (v3 < v2)))
((gd ((decide (0 ≤ v0)))
(q_impl_Table_changes v4 v5 v3 ((shlI .i64 1 v0)) fun r5 =>
(cond r5
(rec_ v0 ((w64 (v1 + 1))) v2 ((w64 (v3 + 1))) v4 v5)
(rec_ v0 v1 v2 ((w64 (v3 + 1))) v4 v5)))))
(k0 v1))
theorem t_impl_Table_influence_l0b {β : Type} (N : Nat)  (v0 : Int) (v1 : Int) (v2 : Int) (v3 : Int) (v4 : Int) (v5 : Int) (rec_ : Int → Int → Int → Int → Int → Int → Option β) (k0 : Int → Option β) : impl_Table_influence_l0b N v0 v1 v2 v3 v4 v5 rec_ k0 = BV_impl_Table_influence_l0b N (impl_Table_changes N) v0 v1 v2 v3 v4 v5 rec_ k0 := by
  unfold impl_Table_influence_l0b BV_impl_Table_influence_l0b
  rfl
theorem vst78_0_0 {β : Type} (N : Nat) (q_impl_Table_size : (a0 : Int) → (a1 : Int) → (k : Int → Option β) → Option β) (q_impl_Table_changes : (a0 : Int) → (a1 : Int) → (a2 : Int) → (a3 : Int) → (k : Bool → Option β) → Option β) (q_impl_Table_influence_l0 : Nat → Int → Int → Int → Int → Int → Int → (Int → Option β) → Option β)  (v0 : Int) (v1 : Int) (v2 : Int) (v3 : Int) (v4 : Int) (v5 : Int) (rec_ : St → Option β) (K : Exit → St → Option β) :
    ev lay (VE78 N q_impl_Table_size q_impl_Table_changes q_impl_Table_influence_l0) (retMask Try.f78) (lp Try.f78 0).body (lp Try.f78 0).ex ((lp Try.f78 0).lv (retMask Try.f78)) (h78_0_0  v0 v1 v2 v3 v4 v5) (nextR (fun s' => rec_ (s'.tidy ((lp Try.f78 0).lv (retMask Try.f78)))) K) = BV_impl_Table_influence_l0b N q_impl_Table_changes  v0 v1 v2 v3 v4 v5 (fun v0 v1 v2 v3 v4 v5 => rec_ (h78_0_0  v0 v1 v2 v3 v4 v5)) (fun y0 => K (.exit 0) (x78_0_0_k0  y0)) := by kernel_rfl
theorem st78_0_0 {β : Type} (N : Nat)  (v0 : Int) (v1 : Int) (v2 : Int) (v3 : Int) (v4 : Int) (v5 : Int) (rec_ : St → Option β) (K : Exit → St → Option β) :
    ev lay (E78 N) (retMask Try.f78) (lp Try.f78 0).body (lp Try.f78 0).ex ((lp Try.f78 0).lv (retMask Try.f78)) (h78_0_0  v0 v1 v2 v3 v4 v5) (nextR (fun s' => rec_ (s'.tidy ((lp Try.f78 0).lv (retMask Try.f78)))) K) = impl_Table_influence_l0b N  v0 v1 v2 v3 v4 v5 (fun v0 v1 v2 v3 v4 v5 => rec_ (h78_0_0  v0 v1 v2 v3 v4 v5)) (fun y0 => K (.exit 0) (x78_0_0_k0  y0)) := (vst78_0_0 N (impl_Table_size N) (impl_Table_changes N) (impl_Table_influence_l0 N) v0 v1 v2 v3 v4 v5 rec_ K).trans (t_impl_Table_influence_l0b N  v0 v1 v2 v3 v4 v5 (fun v0 v1 v2 v3 v4 v5 => rec_ (h78_0_0  v0 v1 v2 v3 v4 v5)) (fun y0 => K (.exit 0) (x78_0_0_k0  y0))).symm
theorem ro78_0_0 {β : Type} (N : Nat)  (K : Exit → St → Option β) : ∀ (F : Nat) (v0 : Int) (v1 : Int) (v2 : Int) (v3 : Int) (v4 : Int) (v5 : Int), (lp Try.f78 0).rounds lay (E78 N) (retMask Try.f78) F (h78_0_0  v0 v1 v2 v3 v4 v5) K = impl_Table_influence_l0 N  F v0 v1 v2 v3 v4 v5 (fun y0 => K (.exit 0) (x78_0_0_k0  y0)) := by
  intro F
  induction F with
  | zero => intros; rfl
  | succ F ih =>
    intros
    rw [rounds_next]
    refine (st78_0_0 N  _ _ _ _ _ _ (fun s => (lp Try.f78 0).rounds lay (E78 N) (retMask Try.f78) F s K) K).trans ?_
    simp only [ih]
    rfl
theorem lk78_0 {β : Type} (N : Nat) : lookL (E78 (β := β) N).loops (lp Try.f78 0).id = LS78_0 N := by kernel_rfl
theorem rk78_0 {β : Type} (N : Nat) : RoundsOK lay (E78 (β := β) N) (retMask Try.f78) (lp Try.f78 0) := by
  intro s K r h
  rw [lk78_0] at h
  unfold LS78_0 VLS78_0 at h
  cases hb : shpSt (h78_0_0 0 0 0 0 0 0) s with
  | true =>
    rw [hb, cond_true] at h
    exact ⟨N, by rw [← shpSt_ref hb, fl78_0_0 s]; exact (ro78_0_0 N  K N (intS (oneA (vT (nx tund s.tmps 1)))) (intS (oneA (vT (nx tund s.tmps 5)))) (intS (oneA (vT (nx tund s.tmps 8)))) (intS (oneA (vT (nx tund s.tmps 9)))) (intS (nx .und (cellsB (nx .dead s.blks 0)) 0)) (intS (nx .und (cellsB (nx .dead s.blks 0)) 1))).trans h⟩
  | false =>
  rw [hb, cond_false] at h
  clear hb
  cases h
def BV_impl_Table_influence {β : Type} (N : Nat) (q_impl_Table_size : (a0 : Int) → (a1 : Int) → (k : Int → Option β) → Option β) (q_impl_Table_influence_l0 : Nat → Int → Int → Int → Int → Int → Int → (Int → Option β) → Option β) (a0 : Int) (a1 : Int) (a2 : Int) (k : Int → Option β) : Option β :=
q_impl_Table_size a0 a1 fun r4 =>
q_impl_Table_influence_l0  N a2 0 r4 0 a0 a1 (fun e6_0 =>
k e6_0)
theorem t_impl_Table_influence {β : Type} (N : Nat) (a0 : Int) (a1 : Int) (a2 : Int) (k : Int → Option β) : impl_Table_influence N a0 a1 a2 k = BV_impl_Table_influence N (impl_Table_size N) (impl_Table_influence_l0 N) a0 a1 a2 k := by
  unfold impl_Table_influence BV_impl_Table_influence
  rfl
theorem ve78_0 {β : Type} (N : Nat) (q_impl_Table_size : (a0 : Int) → (a1 : Int) → (k : Int → Option β) → Option β) (q_impl_Table_changes : (a0 : Int) → (a1 : Int) → (a2 : Int) → (a3 : Int) → (k : Bool → Option β) → Option β) (q_impl_Table_influence_l0 : Nat → Int → Int → Int → Int → Int → Int → (Int → Option β) → Option β)  (a0 : Int) (a1 : Int) (a2 : Int) (K : TV → Option β) : evFn lay (VE78 N q_impl_Table_size q_impl_Table_changes q_impl_Table_influence_l0) Try.f78 [.v (.agg [.int .i64 a0, .int .i64 a1]), .v (.one (.int .i64 a2))] K = BV_impl_Table_influence N q_impl_Table_size q_impl_Table_influence_l0 a0 a1 a2 (fun z3 => K (.v (.one (.int .i64 z3)))) := by kernel_rfl
theorem e78_0 {β : Type} (N : Nat)  (a0 : Int) (a1 : Int) (a2 : Int) (K : TV → Option β) : evFn lay (E78 N) Try.f78 [.v (.agg [.int .i64 a0, .int .i64 a1]), .v (.one (.int .i64 a2))] K = impl_Table_influence N a0 a1 a2 (fun z3 => K (.v (.one (.int .i64 z3)))) := (ve78_0 N (impl_Table_size N) (impl_Table_changes N) (impl_Table_influence_l0 N) a0 a1 a2 K).trans (t_impl_Table_influence N a0 a1 a2 (fun z3 => K (.v (.one (.int .i64 z3))))).symm
theorem o78 {β : Type} (N : Nat) : SpecOK (β := β) Try.prog 78 (S78 N) := by
  refine spec_of lay_ok mixed (E := E78 N) (specs_loops (specs_cons (o82 N) (specs_cons (o115 N) specs_nil))) muts_nil gs_nil Try.func78 (by kernel_rfl) 1 (by kernel_rfl) ⟨trivial, rk78_0 N⟩ fun args K r h => ?_
  unfold S78 VS78 at h
  split at h
  · exact (e78_0 N _ _ _ _).trans h
  · cases h
def VS111 {β : Type} (N : Nat) (q_impl_Table_influences : (a0 : Int) → (a1 : Int) → (k : List Int → Option β) → Option β) : Rv.Spec β := fun args K => match args with
  | [.v (.agg [.int .i64 a0, .int .i64 a1])] => q_impl_Table_influences a0 a1 (fun z2 => K (.v (.one (.sl 3 (.ints .i64 z2)))))
  | _ => none
def S111 {β : Type} (N : Nat) : Rv.Spec β := VS111 N (impl_Table_influences N)
def h111_0_0  (v0 : Int) (v1 : Int) (v2 : Int) (v3 : Int) (v4 : List Int) : St := ⟨.v (.one .und) :: .v (.one (.ptr 0 0)) :: .v (.one .und) :: .v (.one (.row 1)) :: .v (.one .und) :: .v (.one .und) :: .v (.one .und) :: .v (.one .und) :: .v (.one .und) :: .v (.one (.int .i64 v0)) :: .v (.one (.int .i64 v1)) :: .v (.one .und) :: .v (.one .und) :: .v (.one .und) :: .v (.one .und) :: .v (.one .und) :: .v (.one .und) :: .v (.one .und) :: .v (.one .und) :: .v (.one .und) :: .v (.one .und) :: [], [.cells 25 [.int .i64 v2, .int .i64 v3], .row 3 (.ints .i64 v4)]⟩
def x111_0_0_k0  (y0 : List Int) : St := ⟨.v (.one .und) :: .v (.one .und) :: .v (.one .und) :: .v (.one (.row 0)) :: .v (.one .und) :: .v (.one .und) :: .v (.one .und) :: .v (.one .und) :: .v (.one .und) :: .v (.one .und) :: .v (.one .und) :: .v (.one .und) :: .v (.one .und) :: .v (.one .und) :: .v (.one .und) :: .v (.one .und) :: .v (.one .und) :: .v (.one .und) :: .v (.one .und) :: .v (.one .und) :: .v (.one .und) :: [], [.row 3 (.ints .i64 y0)]⟩
theorem fl111_0_0 (s : St) : refSt (h111_0_0 0 0 0 0 []) s = h111_0_0 (intS (oneA (vT (nx tund s.tmps 9)))) (intS (oneA (vT (nx tund s.tmps 10)))) (intS (nx .und (cellsB (nx .dead s.blks 0)) 0)) (intS (nx .und (cellsB (nx .dead s.blks 0)) 1)) (rInts (rowB_ (nx .dead s.blks 1))) := by kernel_rfl
def VLS111_0 {β : Type} (N : Nat) (q_impl_Table_influences_l0 : Nat → Int → Int → Int → Int → List Int → (List Int → Option β) → Option β) : LSpec β := fun s K => cond (shpSt (h111_0_0 0 0 0 0 []) s) ((fun (v0 : Int) (v1 : Int) (v2 : Int) (v3 : Int) (v4 : List Int) => q_impl_Table_influences_l0  N v0 v1 v2 v3 v4 (fun y0 => K (.exit 0) (x111_0_0_k0  y0))) (intS (oneA (vT (nx tund s.tmps 9)))) (intS (oneA (vT (nx tund s.tmps 10)))) (intS (nx .und (cellsB (nx .dead s.blks 0)) 0)) (intS (nx .und (cellsB (nx .dead s.blks 0)) 1)) (rInts (rowB_ (nx .dead s.blks 1)))) (none)
def LS111_0 {β : Type} (N : Nat) : LSpec β := VLS111_0 N (impl_Table_influences_l0 N)
def VE111 {β : Type} (N : Nat) (q_impl_Table_influence : (a0 : Int) → (a1 : Int) → (a2 : Int) → (k : Int → Option β) → Option β) (q_impl_Table_influences_l0 : Nat → Int → Int → Int → Int → List Int → (List Int → Option β) → Option β) : Env β := ⟨[(78, VS78 N q_impl_Table_influence)], [], [(0, VLS111_0 N q_impl_Table_influences_l0)], []⟩
def E111 {β : Type} (N : Nat) : Env β := VE111 N (impl_Table_influence N) (impl_Table_influences_l0 N)
def BV_impl_Table_influences_l0b {β : Type} (N : Nat) (q_impl_Table_influence : (a0 : Int) → (a1 : Int) → (a2 : Int) → (k : Int → Option β) → Option β)  (v0 : Int) (v1 : Int) (v2 : Int) (v3 : Int) (v4 : List Int) (rec_ : Int → Int → Int → Int → List Int → Option β) (k0 : List Int → Option β) : Option β :=
(cond ((decide (v1 < v0)))
(q_impl_Table_influence v2 v3 v1 fun r3 =>
(gd ((decide (0 ≤ v1)))
((gd ((decide (v1 < (v4.length : Int))))
(rec_ v0 ((w64 (v1 + 1))) v2 v3 ((wr v4 v1 r3)))))))
(k0 v4))
theorem t_impl_Table_influences_l0b {β : Type} (N : Nat)  (v0 : Int) (v1 : Int) (v2 : Int) (v3 : Int) (v4 : List Int) (rec_ : Int → Int → Int → Int → List Int → Option β) (k0 : List Int → Option β) : impl_Table_influences_l0b N v0 v1 v2 v3 v4 rec_ k0 = BV_impl_Table_influences_l0b N (impl_Table_influence N) v0 v1 v2 v3 v4 rec_ k0 := by
  unfold impl_Table_influences_l0b BV_impl_Table_influences_l0b
  rfl
theorem vst111_0_0 {β : Type} (N : Nat) (q_impl_Table_influence : (a0 : Int) → (a1 : Int) → (a2 : Int) → (k : Int → Option β) → Option β) (q_impl_Table_influences_l0 : Nat → Int → Int → Int → Int → List Int → (List Int → Option β) → Option β)  (v0 : Int) (v1 : Int) (v2 : Int) (v3 : Int) (v4 : List Int) (rec_ : St → Option β) (K : Exit → St → Option β) :
    ev lay (VE111 N q_impl_Table_influence q_impl_Table_influences_l0) (retMask Try.f111) (lp Try.f111 0).body (lp Try.f111 0).ex ((lp Try.f111 0).lv (retMask Try.f111)) (h111_0_0  v0 v1 v2 v3 v4) (nextR (fun s' => rec_ (s'.tidy ((lp Try.f111 0).lv (retMask Try.f111)))) K) = BV_impl_Table_influences_l0b N q_impl_Table_influence  v0 v1 v2 v3 v4 (fun v0 v1 v2 v3 v4 => rec_ (h111_0_0  v0 v1 v2 v3 v4)) (fun y0 => K (.exit 0) (x111_0_0_k0  y0)) := by kernel_rfl
theorem st111_0_0 {β : Type} (N : Nat)  (v0 : Int) (v1 : Int) (v2 : Int) (v3 : Int) (v4 : List Int) (rec_ : St → Option β) (K : Exit → St → Option β) :
    ev lay (E111 N) (retMask Try.f111) (lp Try.f111 0).body (lp Try.f111 0).ex ((lp Try.f111 0).lv (retMask Try.f111)) (h111_0_0  v0 v1 v2 v3 v4) (nextR (fun s' => rec_ (s'.tidy ((lp Try.f111 0).lv (retMask Try.f111)))) K) = impl_Table_influences_l0b N  v0 v1 v2 v3 v4 (fun v0 v1 v2 v3 v4 => rec_ (h111_0_0  v0 v1 v2 v3 v4)) (fun y0 => K (.exit 0) (x111_0_0_k0  y0)) := (vst111_0_0 N (impl_Table_influence N) (impl_Table_influences_l0 N) v0 v1 v2 v3 v4 rec_ K).trans (t_impl_Table_influences_l0b N  v0 v1 v2 v3 v4 (fun v0 v1 v2 v3 v4 => rec_ (h111_0_0  v0 v1 v2 v3 v4)) (fun y0 => K (.exit 0) (x111_0_0_k0  y0))).symm
theorem ro111_0_0 {β : Type} (N : Nat)  (K : Exit → St → Option β) : ∀ (F : Nat) (v0 : Int) (v1 : Int) (v2 : Int) (v3 : Int) (v4 : List Int), (lp Try.f111 0).rounds lay (E111 N) (retMask Try.f111) F (h111_0_0  v0 v1 v2 v3 v4) K = impl_Table_influences_l0 N  F v0 v1 v2 v3 v4 (fun y0 => K (.exit 0) (x111_0_0_k0  y0)) := by
  intro F
  induction F with
  | zero => intros; rfl
  | succ F ih =>
    intros
    rw [rounds_next]
    refine (st111_0_0 N  _ _ _ _ _ (fun s => (lp Try.f111 0).rounds lay (E111 N) (retMask Try.f111) F s K) K).trans ?_
    simp only [ih]
    rfl
theorem lk111_0 {β : Type} (N : Nat) : lookL (E111 (β := β) N).loops (lp Try.f111 0).id = LS111_0 N := by kernel_rfl
theorem rk111_0 {β : Type} (N : Nat) : RoundsOK lay (E111 (β := β) N) (retMask Try.f111) (lp Try.f111 0) := by
  intro s K r h
  rw [lk111_0] at h
  unfold LS111_0 VLS111_0 at h
  cases hb : shpSt (h111_0_0 0 0 0 0 []) s with
  | true =>
    rw [hb, cond_true] at h
    exact ⟨N, by rw [← shpSt_ref hb, fl111_0_0 s]; exact (ro111_0_0 N  K N (intS (oneA (vT (nx tund s.tmps 9)))) (intS (oneA (vT (nx tund s.tmps 10)))) (intS (nx .und (cellsB (nx .dead s.blks 0)) 0)) (intS (nx .und (cellsB (nx .dead s.blks 0)) 1)) (rInts (rowB_ (nx .dead s.blks 1)))).trans h⟩
  | false =>
  rw [hb, cond_false] at h
  clear hb
  cases h
def BV_impl_Table_influences {β : Type} (N : Nat) (q_impl_Table_influences_l0 : Nat → Int → Int → Int → Int → List Int → (List Int → Option β) → Option β) (a0 : Int) (a1 : Int) (k : List Int → Option β) : Option β :=
(gd ((decide (0 ≤ a0)))
((gd ((decide (a0 ≤ a0)))
((gd ((decide (8 * a0 ≤ 281474976710656)))
(q_impl_Table_influences_l0  N ((((List.replicate (Int.toNat a0) (0 : Int))).length : Int)) 0 a0 a1 ((List.replicate (Int.toNat a0) (0 : Int))) (fun e4_0 =>
k e4_0)))))))
theorem t_impl_Table_influences {β : Type} (N : Nat) (a0 : Int) (a1 : Int) (k : List Int → Option β) : impl_Table_influences N a0 a1 k = BV_impl_Table_influences N (impl_Table_influences_l0 N) a0 a1 k := by
  unfold impl_Table_influences BV_impl_Table_influences
  rfl
theorem ve111_0 {β : Type} (N : Nat) (q_impl_Table_influence : (a0 : Int) → (a1 : Int) → (a2 : Int) → (k : Int → Option β) → Option β) (q_impl_Table_influences_l0 : Nat → Int → Int → Int → Int → List Int → (List Int → Option β) → Option β)  (a0 : Int) (a1 : Int) (K : TV → Option β) : evFn lay (VE111 N q_impl_Table_influence q_impl_Table_influences_l0) Try.f111 [.v (.agg [.int .i64 a0, .int .i64 a1])] K = BV_impl_Table_influences N q_impl_Table_influences_l0 a0 a1 (fun z2 => K (.v (.one (.sl 3 (.ints .i64 z2))))) := by kernel_rfl
theorem e111_0 {β : Type} (N : Nat)  (a0 : Int) (a1 : Int) (K : TV → Option β) : evFn lay (E111 N) Try.f111 [.v (.agg [.int .i64 a0, .int .i64 a1])] K = impl_Table_influences N a0 a1 (fun z2 => K (.v (.one (.sl 3 (.ints .i64 z2))))) := (ve111_0 N (impl_Table_influence N) (impl_Table_influences_l0 N) a0 a1 K).trans (t_impl_Table_influences N a0 a1 (fun z2 => K (.v (.one (.sl 3 (.ints .i64 z2)))))).symm
theorem o111 {β : Type} (N : Nat) : SpecOK (β := β) Try.prog 111 (S111 N) := by
  refine spec_of lay_ok mixed (E := E111 N) (specs_loops (specs_cons (o78 N) specs_nil)) muts_nil gs_nil Try.func111 (by kernel_rfl) 1 (by kernel_rfl) ⟨trivial, rk111_0 N⟩ fun args K r h => ?_
  unfold S111 VS111 at h
  split at h
  · exact (e111_0 N _ _ _).trans h
  · cases h
def VS135 {β : Type} (N : Nat) (q_impl_TotalInfluence : (a0 : Int) → (a1 : Int) → (k : Int → Option β) → Option β) : Rv.Spec β := fun args K => match args with
  | [.v (.agg [.int .i64 a0, .int .i64 a1])] => q_impl_TotalInfluence a0 a1 (fun z2 => K (.v (.one (.int .i64 z2))))
  | _ => none
def S135 {β : Type} (N : Nat) : Rv.Spec β := VS135 N (impl_TotalInfluence N)
def h135_0_0  (v0 : Int) (v1 : Int) (v2 : Int) (v3 : List Int) : St := ⟨.v (.one .und) :: .v (.one .und) :: .v (.one .und) :: .v (.one (.int .i64 v0)) :: .v (.one .und) :: .v (.one .und) :: .v (.one .und) :: .v (.one .und) :: .v (.one .und) :: .v (.one .und) :: .v (.one (.row 0)) :: .v (.one (.int .i64 v1)) :: .v (.one (.int .i64 v2)) :: .v (.one .und) :: .v (.one .und) :: .v (.one .und) :: .v (.one .und) :: .v (.one .und) :: .v (.one .und) :: .v (.one .und) :: .v (.one .und) :: [], [.row 3 (.ints .i64 v3)]⟩
def x135_0_0_k0  (y0 : Int) : St := ⟨.v (.one .und) :: .v (.one .und) :: .v (.one .und) :: .v (.one (.int .i64 y0)) :: .v (.one .und) :: .v (.one .und) :: .v (.one .und) :: .v (.one .und) :: .v (.one .und) :: .v (.one .und) :: .v (.one .und) :: .v (.one .und) :: .v (.one .und) :: .v (.one .und) :: .v (.one .und) :: .v (.one .und) :: .v (.one .und) :: .v (.one .und) :: .v (.one .und) :: .v (.one .und) :: .v (.one .und) :: [], []⟩
theorem fl135_0_0 (s : St) : refSt (h135_0_0 0 0 0 []) s = h135_0_0 (intS (oneA (vT (nx tund s.tmps 3)))) (intS (oneA (vT (nx tund s.tmps 11)))) (intS (oneA (vT (nx tund s.tmps 12)))) (rInts (rowB_ (nx .dead s.blks 0))) := by kernel_rfl
def VLS135_0 {β : Type} (N : Nat) (q_impl_TotalInfluence_l0 : Nat → Int → Int → Int → List Int → (Int → Option β) → Option β) : LSpec β := fun s K => cond (shpSt (h135_0_0 0 0 0 []) s) ((fun (v0 : Int) (v1 : Int) (v2 : Int) (v3 : List Int) => q_impl_TotalInfluence_l0  N v0 v1 v2 v3 (fun y0 => K (.exit 0) (x135_0_0_k0  y0))) (intS (oneA (vT (nx tund s.tmps 3)))) (intS (oneA (vT (nx tund s.tmps 11)))) (intS (oneA (vT (nx tund s.tmps 12)))) (rInts (rowB_ (nx .dead s.blks 0)))) (none)
def LS135_0 {β : Type} (N : Nat) : LSpec β := VLS135_0 N (impl_TotalInfluence_l0 N)
def VE135 {β : Type} (N : Nat) (q_impl_IsTable : (a0 : Int) → (a1 : Int) → (k : Bool → Option β) → Option β) (q_impl_Table_influences : (a0 : Int) → (a1 : Int) → (k : List Int → Option β) → Option β) (q_impl_TotalInfluence_l0 : Nat → Int → Int → Int → List Int → (Int → Option β) → Option β) : Env β := ⟨[(61, VS61 N q_impl_IsTable), (111, VS111 N q_impl_Table_influences)], [], [(0, VLS135_0 N q_impl_TotalInfluence_l0)], []⟩
def E135 {β : Type} (N : Nat) : Env β := VE135 N (impl_IsTable N) (impl_Table_influences N) (impl_TotalInfluence_l0 N)
def BV_impl_TotalInfluence_l0b {β : Type} (N : Nat)  (v0 : Int) (v1 : Int) (v2 : Int) (v3 : List Int) (rec_ : Int → Int → Int → List Int → Option β) (k0 : Int → Option β) : Option β :=
(cond ((decide (v2 < v1)))
((gd ((decide (0 ≤ v2)))
((gd ((decide (v2 < (v3.length : Int))))
(rec_ ((w64 (v0 + (rd 0 v3 v2)))) v1 ((w64 (v2 + 1))) v3)))))
(k0 v0))
theorem t_impl_TotalInfluence_l0b {β : Type} (N : Nat)  (v0 : Int) (v1 : Int) (v2 : Int) (v3 : List Int) (rec_ : Int → Int → Int → List Int → Option β) (k0 : Int → Option β) : impl_TotalInfluence_l0b N v0 v1 v2 v3 rec_ k0 = BV_impl_TotalInfluence_l0b N v0 v1 v2 v3 rec_ k0 := by
  unfold impl_TotalInfluence_l0b BV_impl_TotalInfluence_l0b
  rfl
theorem vst135_0_0 {β : Type} (N : Nat) (q_impl_IsTable : (a0 : Int) → (a1 : Int) → (k : Bool → Option β) → Option β) (q_impl_Table_influences : (a0 : Int) → (a1 : Int) → (k : List Int → Option β) → Option β) (q_impl_TotalInfluence_l0 : Nat → Int → Int → Int → List Int → (Int → Option β) → Option β)  (v0 : Int) (v1 : Int) (v2 : Int) (v3 : List Int) (rec_ : St → Option β) (K : Exit → St → Option β) :
    ev lay (VE135 N q_impl_IsTable q_impl_Table_influences q_impl_TotalInfluence_l0) (retMask Try.f135) (lp Try.f135 0).body (lp Try.f135 0).ex ((lp Try.f135 0).lv (retMask Try.f135)) (h135_0_0  v0 v1 v2 v3) (nextR (fun s' => rec_ (s'.tidy ((lp Try.f135 0).lv (retMask Try.f135)))) K) = BV_impl_TotalInfluence_l0b N  v0 v1 v2 v3 (fun v0 v1 v2 v3 => rec_ (h135_0_0  v0 v1 v2 v3)) (fun y0 => K (.exit 0) (x135_0_0_k0  y0)) := by kernel_rfl
theorem st135_0_0 {β : Type} (N : Nat)  (v0 : Int) (v1 : Int) (v2 : Int) (v3 : List Int) (rec_ : St → Option β) (K : Exit → St → Option β) :
    ev lay (E135 N) (retMask Try.f135) (lp Try.f135 0).body (lp Try.f135 0).ex ((lp Try.f135 0).lv (retMask Try.f135)) (h135_0_0  v0 v1 v2 v3) (nextR (fun s' => rec_ (s'.tidy ((lp Try.f135 0).lv (retMask Try.f135)))) K) = impl_TotalInfluence_l0b N  v0 v1 v2 v3 (fun v0 v1 v2 v3 => rec_ (h135_0_0  v0 v1 v2 v3)) (fun y0 => K (.exit 0) (x135_0_0_k0  y0)) := (vst135_0_0 N (impl_IsTable N) (impl_Table_influences N) (impl_TotalInfluence_l0 N) v0 v1 v2 v3 rec_ K).trans (t_impl_TotalInfluence_l0b N  v0 v1 v2 v3 (fun v0 v1 v2 v3 => rec_ (h135_0_0  v0 v1 v2 v3)) (fun y0 => K (.exit 0) (x135_0_0_k0  y0))).symm
theorem ro135_0_0 {β : Type} (N : Nat)  (K : Exit → St → Option β) : ∀ (F : Nat) (v0 : Int) (v1 : Int) (v2 : Int) (v3 : List Int), (lp Try.f135 0).rounds lay (E135 N) (retMask Try.f135) F (h135_0_0  v0 v1 v2 v3) K = impl_TotalInfluence_l0 N  F v0 v1 v2 v3 (fun y0 => K (.exit 0) (x135_0_0_k0  y0)) := by
  intro F
  induction F with
  | zero => intros; rfl
  | succ F ih =>
    intros
    rw [rounds_next]
    refine (st135_0_0 N  _ _ _ _ (fun s => (lp Try.f135 0).rounds lay (E135 N) (retMask Try.f135) F s K) K).trans ?_
    simp only [ih]
    rfl
theorem lk135_0 {β : Type} (N : Nat) : lookL (E135 (β := β) N).loops (lp Try.f135 0).id = LS135_0 N := by kernel_rfl
theorem rk135_0 {β : Type} (N : Nat) : RoundsOK lay (E135 (β := β) N) (retMask Try.f135) (lp Try.f135 0) := by
  intro s K r h
  rw [lk135_0] at h
  unfold LS135_0 VLS135_0 at h
  cases hb : shpSt (h135_0_0 0 0 0 []) s with
  | true =>
    rw [hb, cond_true] at h
    exact ⟨N, by rw [← shpSt_ref hb, fl135_0_0 s]; exact (ro135_0_0 N  K N (intS (oneA (vT (nx tund s.tmps 3)))) (intS (oneA (vT (nx tund s.tmps 11)))) (intS (oneA (vT (nx tund s.tmps 12)))) (rInts (rowB_ (nx .dead s.blks 0)))).trans h⟩
  | false =>
  rw [hb, cond_false] at h
  clear hb
  cases h
def BV_impl_TotalInfluence {β : Type} (N : Nat) (q_impl_IsTable : (a0 : Int) → (a1 : Int) → (k : Bool → Option β) → Option β) (q_impl_Table_influences : (a0 : Int) → (a1 : Int) → (k : List Int → Option β) → Option β) (q_impl_TotalInfluence_l0 : Nat → Int → Int → Int → List Int → (Int → Option β) → Option β) (a0 : Int) (a1 : Int) (k : Int → Option β) : Option β :=
q_impl_IsTable a0 a1 fun r3 =>
(cond (!r3)
(k (-1))
(q_impl_Table_influences a0 a1 fun r4 =>
q_impl_TotalInfluence_l0  N 0 ((r4.length : Int)) 0 r4 (fun e5_0 =>
k e5_0)))
theorem t_impl_TotalInfluence {β : Type} (N : Nat) (a0 : Int) (a1 : Int) (k : Int → Option β) : impl_TotalInfluence N a0 a1 k = BV_impl_TotalInfluence N (impl_IsTable N) (impl_Table_influences N) (impl_TotalInfluence_l0 N) a0 a1 k := by
  unfold impl_TotalInfluence BV_impl_TotalInfluence
  rfl
theorem ve135_0 {β : Type} (N : Nat) (q_impl_IsTable : (a0 : Int) → (a1 : Int) → (k : Bool → Option β) → Option β) (q_impl_Table_influences : (a0 : Int) → (a1 : Int) → (k : List Int → Option β) → Option β) (q_impl_TotalInfluence_l0 : Nat → Int → Int → Int → List Int → (Int → Option β) → Option β)  (a0 : Int) (a1 : Int) (K : TV → Option β) : evFn lay (VE135 N q_impl_IsTable q_impl_Table_influences q_impl_TotalInfluence_l0) Try.f135 [.v (.agg [.int .i64 a0, .int .i64 a1])] K = BV_impl_TotalInfluence N q_impl_IsTable q_impl_Table_influences q_impl_TotalInfluence_l0 a0 a1 (fun z2 => K (.v (.one (.int .i64 z2)))) := by kernel_rfl
theorem e135_0 {β : Type} (N : Nat)  (a0 : Int) (a1 : Int) (K : TV → Option β) : evFn lay (E135 N) Try.f135 [.v (.agg [.int .i64 a0, .int .i64 a1])] K = impl_TotalInfluence N a0 a1 (fun z2 => K (.v (.one (.int .i64 z2)))) := (ve135_0 N (impl_IsTable N) (impl_Table_influences N) (impl_TotalInfluence_l0 N) a0 a1 K).trans (t_impl_TotalInfluence N a0 a1 (fun z2 => K (.v (.one (.int .i64 z2))))).symm
theorem o135 {β : Type} (N : Nat) : SpecOK (β := β) Try.prog 135 (S135 N) := by
  refine spec_of lay_ok mixed (E := E135 N) (specs_loops (specs_cons (o61 N) (specs_cons (o111 N) specs_nil))) muts_nil gs_nil Try.func135 (by kernel_rfl) 1 (by kernel_rfl) ⟨trivial, rk135_0 N⟩ fun args K r h => ?_
  unfold S135 VS135 at h
  split at h
  · exact (e135_0 N _ _ _).trans h
  · cases h
def VS103 {β : Type} (N : Nat) (q_impl_measure : (a0 : ByteArray) → (a1 : Int) → (a2 : Int) → (k : Int → Option β) → Option β) : Rv.Spec β := fun args K => match args with
  | [.v (.one (.str a0)), .v (.agg [.int .i64 a1, .int .i64 a2])] => q_impl_measure a0 a1 a2 (fun z3 => K (.v (.one (.int .i64 z3))))
  | _ => none
def S103 {β : Type} (N : Nat) : Rv.Spec β := VS103 N (impl_measure N)
def VE103 {β : Type} (N : Nat) (q_impl_SensitivityOf : (a0 : Int) → (a1 : Int) → (k : Int → Option β) → Option β) (q_impl_BlockSensitivityOf : (a0 : Int) → (a1 : Int) → (k : Int → Option β) → Option β) (q_impl_CertificateOf : (a0 : Int) → (a1 : Int) → (a2 : Int) → (k : Int → Option β) → Option β) (q_impl_LeastDepth : (a0 : Int) → (a1 : Int) → (k : Int → Option β) → Option β) (q_impl_RealDegree : (a0 : Int) → (a1 : Int) → (k : Int → Option β) → Option β) (q_impl_DegreeMod2 : (a0 : Int) → (a1 : Int) → (k : Int → Option β) → Option β) (q_impl_CountOnes : (a0 : Int) → (a1 : Int) → (k : Int → Option β) → Option β) (q_impl_TotalInfluence : (a0 : Int) → (a1 : Int) → (k : Int → Option β) → Option β) : Env β := ⟨[(129, VS129 N q_impl_SensitivityOf), (130, VS130 N q_impl_BlockSensitivityOf), (107, VS107 N q_impl_CertificateOf), (131, VS131 N q_impl_LeastDepth), (132, VS132 N q_impl_RealDegree), (133, VS133 N q_impl_DegreeMod2), (134, VS134 N q_impl_CountOnes), (135, VS135 N q_impl_TotalInfluence)], [], [], []⟩
def E103 {β : Type} (N : Nat) : Env β := VE103 N (impl_SensitivityOf N) (impl_BlockSensitivityOf N) (impl_CertificateOf N) (impl_LeastDepth N) (impl_RealDegree N) (impl_DegreeMod2 N) (impl_CountOnes N) (impl_TotalInfluence N)
def BV_impl_measure {β : Type} (N : Nat) (q_impl_SensitivityOf : (a0 : Int) → (a1 : Int) → (k : Int → Option β) → Option β) (q_impl_BlockSensitivityOf : (a0 : Int) → (a1 : Int) → (k : Int → Option β) → Option β) (q_impl_CertificateOf : (a0 : Int) → (a1 : Int) → (a2 : Int) → (k : Int → Option β) → Option β) (q_impl_LeastDepth : (a0 : Int) → (a1 : Int) → (k : Int → Option β) → Option β) (q_impl_RealDegree : (a0 : Int) → (a1 : Int) → (k : Int → Option β) → Option β) (q_impl_DegreeMod2 : (a0 : Int) → (a1 : Int) → (k : Int → Option β) → Option β) (q_impl_CountOnes : (a0 : Int) → (a1 : Int) → (k : Int → Option β) → Option β) (q_impl_TotalInfluence : (a0 : Int) → (a1 : Int) → (k : Int → Option β) → Option β) (a0 : ByteArray) (a1 : Int) (a2 : Int) (k : Int → Option β) : Option β :=
(cond ((a0.toList == ((strOf [115, 101, 110, 115, 105, 116, 105, 118, 105, 116, 121])).toList))
(q_impl_SensitivityOf a1 a2 fun r4 =>
k r4)
((cond ((a0.toList == ((strOf [98, 108, 111, 99, 107, 115])).toList))
(q_impl_BlockSensitivityOf a1 a2 fun r5 =>
k r5)
((cond ((a0.toList == ((strOf [99, 101, 114, 116, 105, 102, 105, 99, 97, 116, 101])).toList))
(q_impl_CertificateOf a1 a2 0 fun r6 =>
q_impl_CertificateOf a1 a2 1 fun r7 =>
k ((mxI r6 r7)))
((cond ((a0.toList == ((strOf [100, 101, 112, 116, 104])).toList))
(q_impl_LeastDepth a1 a2 fun r8 =>
k r8)
((cond ((a0.toList == ((strOf [100, 101, 103, 114, 101, 101])).toList))
(q_impl_RealDegree a1 a2 fun r9 =>
k ((mxI r9 0)))
((cond ((a0.toList == ((strOf [100, 101, 103, 114, 101, 101, 50])).toList))
(q_impl_DegreeMod2 a1 a2 fun r10 =>
k ((mxI r10 0)))
((cond ((a0.toList == ((strOf [111, 110, 101, 115])).toList))
(q_impl_CountOnes a1 a2 fun r11 =>
k r11)
((cond ((a0.toList == ((strOf [105, 110, 102, 108, 117, 101, 110, 99, 101])).toList))
(q_impl_TotalInfluence a1 a2 fun r12 =>
k r12)
(k (-1)))))))))))))))))
theorem t_impl_measure {β : Type} (N : Nat) (a0 : ByteArray) (a1 : Int) (a2 : Int) (k : Int → Option β) : impl_measure N a0 a1 a2 k = BV_impl_measure N (impl_SensitivityOf N) (impl_BlockSensitivityOf N) (impl_CertificateOf N) (impl_LeastDepth N) (impl_RealDegree N) (impl_DegreeMod2 N) (impl_CountOnes N) (impl_TotalInfluence N) a0 a1 a2 k := by
  unfold impl_measure BV_impl_measure
  rfl
theorem ve103_0 {β : Type} (N : Nat) (q_impl_SensitivityOf : (a0 : Int) → (a1 : Int) → (k : Int → Option β) → Option β) (q_impl_BlockSensitivityOf : (a0 : Int) → (a1 : Int) → (k : Int → Option β) → Option β) (q_impl_CertificateOf : (a0 : Int) → (a1 : Int) → (a2 : Int) → (k : Int → Option β) → Option β) (q_impl_LeastDepth : (a0 : Int) → (a1 : Int) → (k : Int → Option β) → Option β) (q_impl_RealDegree : (a0 : Int) → (a1 : Int) → (k : Int → Option β) → Option β) (q_impl_DegreeMod2 : (a0 : Int) → (a1 : Int) → (k : Int → Option β) → Option β) (q_impl_CountOnes : (a0 : Int) → (a1 : Int) → (k : Int → Option β) → Option β) (q_impl_TotalInfluence : (a0 : Int) → (a1 : Int) → (k : Int → Option β) → Option β)  (a0 : ByteArray) (a1 : Int) (a2 : Int) (K : TV → Option β) : evFn lay (VE103 N q_impl_SensitivityOf q_impl_BlockSensitivityOf q_impl_CertificateOf q_impl_LeastDepth q_impl_RealDegree q_impl_DegreeMod2 q_impl_CountOnes q_impl_TotalInfluence) Try.f103 [.v (.one (.str a0)), .v (.agg [.int .i64 a1, .int .i64 a2])] K = BV_impl_measure N q_impl_SensitivityOf q_impl_BlockSensitivityOf q_impl_CertificateOf q_impl_LeastDepth q_impl_RealDegree q_impl_DegreeMod2 q_impl_CountOnes q_impl_TotalInfluence a0 a1 a2 (fun z3 => K (.v (.one (.int .i64 z3)))) := by kernel_rfl
theorem e103_0 {β : Type} (N : Nat)  (a0 : ByteArray) (a1 : Int) (a2 : Int) (K : TV → Option β) : evFn lay (E103 N) Try.f103 [.v (.one (.str a0)), .v (.agg [.int .i64 a1, .int .i64 a2])] K = impl_measure N a0 a1 a2 (fun z3 => K (.v (.one (.int .i64 z3)))) := (ve103_0 N (impl_SensitivityOf N) (impl_BlockSensitivityOf N) (impl_CertificateOf N) (impl_LeastDepth N) (impl_RealDegree N) (impl_DegreeMod2 N) (impl_CountOnes N) (impl_TotalInfluence N) a0 a1 a2 K).trans (t_impl_measure N a0 a1 a2 (fun z3 => K (.v (.one (.int .i64 z3))))).symm
theorem o103 {β : Type} (N : Nat) : SpecOK (β := β) Try.prog 103 (S103 N) := by
  refine spec_of lay_ok mixed (E := E103 N) (specs_loops (specs_cons (o129 N) (specs_cons (o130 N) (specs_cons (o107 N) (specs_cons (o131 N) (specs_cons (o132 N) (specs_cons (o133 N) (specs_cons (o134 N) (specs_cons (o135 N) specs_nil))))))))) muts_nil gs_nil Try.func103 (by kernel_rfl) 0 (by kernel_rfl) trivial fun args K r h => ?_
  unfold S103 VS103 at h
  split at h
  · exact (e103_0 N _ _ _ _).trans h
  · cases h
def VS50 {β : Type} (N : Nat) (q_impl_MeasureOf : (a0 : ByteArray) → (a1 : Int) → (a2 : Int) → (k : Int → Option β) → Option β) : Rv.Spec β := fun args K => match args with
  | [.v (.one (.str a0)), .v (.agg [.int .i64 a1, .int .i64 a2])] => q_impl_MeasureOf a0 a1 a2 (fun z3 => K (.v (.one (.int .i64 z3))))
  | _ => none
def S50 {β : Type} (N : Nat) : Rv.Spec β := VS50 N (impl_MeasureOf N)
def VE50 {β : Type} (N : Nat) (q_impl_isSmall : (a0 : Int) → (a1 : Int) → (a2 : Int) → (k : Bool → Option β) → Option β) (q_impl_measure : (a0 : ByteArray) → (a1 : Int) → (a2 : Int) → (k : Int → Option β) → Option β) : Env β := ⟨[(81, VS81 N q_impl_isSmall), (103, VS103 N q_impl_measure)], [], [], []⟩
def E50 {β : Type} (N : Nat) : Env β := VE50 N (impl_isSmall N) (impl_measure N)
def BV_impl_MeasureOf {β : Type} (N : Nat) (q_impl_isSmall : (a0 : Int) → (a1 : Int) → (a2 : Int) → (k : Bool → Option β) → Option β) (q_impl_measure : (a0 : ByteArray) → (a1 : Int) → (a2 : Int) → (k : Int → Option β) → Option β) (a0 : ByteArray) (a1 : Int) (a2 : Int) (k : Int → Option β) : Option β :=
q_impl_isSmall a1 a2 4 fun r4 =>
(cond (!r4)
(k (-1))
(q_impl_measure a0 a1 a2 fun r5 =>
k r5))
theorem t_impl_MeasureOf {β : Type} (N : Nat) (a0 : ByteArray) (a1 : Int) (a2 : Int) (k : Int → Option β) : impl_MeasureOf N a0 a1 a2 k = BV_impl_MeasureOf N (impl_isSmall N) (impl_measure N) a0 a1 a2 k := by
  unfold impl_MeasureOf BV_impl_MeasureOf
  rfl
theorem ve50_0 {β : Type} (N : Nat) (q_impl_isSmall : (a0 : Int) → (a1 : Int) → (a2 : Int) → (k : Bool → Option β) → Option β) (q_impl_measure : (a0 : ByteArray) → (a1 : Int) → (a2 : Int) → (k : Int → Option β) → Option β)  (a0 : ByteArray) (a1 : Int) (a2 : Int) (K : TV → Option β) : evFn lay (VE50 N q_impl_isSmall q_impl_measure) Try.f50 [.v (.one (.str a0)), .v (.agg [.int .i64 a1, .int .i64 a2])] K = BV_impl_MeasureOf N q_impl_isSmall q_impl_measure a0 a1 a2 (fun z3 => K (.v (.one (.int .i64 z3)))) := by kernel_rfl
theorem e50_0 {β : Type} (N : Nat)  (a0 : ByteArray) (a1 : Int) (a2 : Int) (K : TV → Option β) : evFn lay (E50 N) Try.f50 [.v (.one (.str a0)), .v (.agg [.int .i64 a1, .int .i64 a2])] K = impl_MeasureOf N a0 a1 a2 (fun z3 => K (.v (.one (.int .i64 z3)))) := (ve50_0 N (impl_isSmall N) (impl_measure N) a0 a1 a2 K).trans (t_impl_MeasureOf N a0 a1 a2 (fun z3 => K (.v (.one (.int .i64 z3))))).symm
theorem o50 {β : Type} (N : Nat) : SpecOK (β := β) Try.prog 50 (S50 N) := by
  refine spec_of lay_ok mixed (E := E50 N) (specs_loops (specs_cons (o81 N) (specs_cons (o103 N) specs_nil))) muts_nil gs_nil Try.func50 (by kernel_rfl) 0 (by kernel_rfl) trivial fun args K r h => ?_
  unfold S50 VS50 at h
  split at h
  · exact (e50_0 N _ _ _ _).trans h
  · cases h
def VS5 {β : Type} (N : Nat) (q_laws_FnExactMeasureOf : (a0 : ByteArray) → (a1 : Int) → (a2 : Int) → (k : Bool → Option β) → Option β) : Rv.Spec β := fun args K => match args with
  | [.v (.one (.str a0)), .v (.agg [.int .i64 a1, .int .i64 a2])] => q_laws_FnExactMeasureOf a0 a1 a2 (fun z3 => K (.v (.one (.bool z3))))
  | _ => none
def S5 {β : Type} (N : Nat) : Rv.Spec β := VS5 N (laws_FnExactMeasureOf N)
def VE5 {β : Type} (N : Nat) (q_laws_toTable : (a0 : Int) → (a1 : Int) → (k : Int → Int → Option β) → Option β) (q_spec_MeasureOf : (a0 : ByteArray) → (a1 : Int) → (a2 : Int) → (k : Int → Option β) → Option β) (q_impl_MeasureOf : (a0 : ByteArray) → (a1 : Int) → (a2 : Int) → (k : Int → Option β) → Option β) : Env β := ⟨[(49, VS49 N q_laws_toTable), (48, VS48 N q_spec_MeasureOf), (50, VS50 N q_impl_MeasureOf)], [], [], []⟩
def E5 {β : Type} (N : Nat) : Env β := VE5 N (laws_toTable N) (spec_MeasureOf N) (impl_MeasureOf N)
def BV_laws_FnExactMeasureOf {β : Type} (N : Nat) (q_laws_toTable : (a0 : Int) → (a1 : Int) → (k : Int → Int → Option β) → Option β) (q_spec_MeasureOf : (a0 : ByteArray) → (a1 : Int) → (a2 : Int) → (k : Int → Option β) → Option β) (q_impl_MeasureOf : (a0 : ByteArray) → (a1 : Int) → (a2 : Int) → (k : Int → Option β) → Option β) (a0 : ByteArray) (a1 : Int) (a2 : Int) (k : Bool → Option β) : Option β :=
(cond ((decide ((a0.size : Int) > 1048576)))
(k true)
(q_laws_toTable a1 a2 fun r4 r5 =>
q_spec_MeasureOf a0 r4 r5 fun r6 =>
q_laws_toTable a1 a2 fun r7 r8 =>
q_impl_MeasureOf a0 r7 r8 fun r9 =>
(cond ((r9 != r6))
(k false)
(k true))))
theorem t_laws_FnExactMeasureOf {β : Type} (N : Nat) (a0 : ByteArray) (a1 : Int) (a2 : Int) (k : Bool → Option β) : laws_FnExactMeasureOf N a0 a1 a2 k = BV_laws_FnExactMeasureOf N (laws_toTable N) (spec_MeasureOf N) (impl_MeasureOf N) a0 a1 a2 k := by
  unfold laws_FnExactMeasureOf BV_laws_FnExactMeasureOf
  rfl
theorem ve5_0 {β : Type} (N : Nat) (q_laws_toTable : (a0 : Int) → (a1 : Int) → (k : Int → Int → Option β) → Option β) (q_spec_MeasureOf : (a0 : ByteArray) → (a1 : Int) → (a2 : Int) → (k : Int → Option β) → Option β) (q_impl_MeasureOf : (a0 : ByteArray) → (a1 : Int) → (a2 : Int) → (k : Int → Option β) → Option β)  (a0 : ByteArray) (a1 : Int) (a2 : Int) (K : TV → Option β) : evFn lay (VE5 N q_laws_toTable q_spec_MeasureOf q_impl_MeasureOf) Try.f5 [.v (.one (.str a0)), .v (.agg [.int .i64 a1, .int .i64 a2])] K = BV_laws_FnExactMeasureOf N q_laws_toTable q_spec_MeasureOf q_impl_MeasureOf a0 a1 a2 (fun z3 => K (.v (.one (.bool z3)))) := by kernel_rfl
theorem e5_0 {β : Type} (N : Nat)  (a0 : ByteArray) (a1 : Int) (a2 : Int) (K : TV → Option β) : evFn lay (E5 N) Try.f5 [.v (.one (.str a0)), .v (.agg [.int .i64 a1, .int .i64 a2])] K = laws_FnExactMeasureOf N a0 a1 a2 (fun z3 => K (.v (.one (.bool z3)))) := (ve5_0 N (laws_toTable N) (spec_MeasureOf N) (impl_MeasureOf N) a0 a1 a2 K).trans (t_laws_FnExactMeasureOf N a0 a1 a2 (fun z3 => K (.v (.one (.bool z3))))).symm
theorem o5 {β : Type} (N : Nat) : SpecOK (β := β) Try.prog 5 (S5 N) := by
  refine spec_of lay_ok mixed (E := E5 N) (specs_loops (specs_cons (o49 N) (specs_cons (o48 N) (specs_cons (o50 N) specs_nil)))) muts_nil gs_nil Try.func5 (by kernel_rfl) 0 (by kernel_rfl) trivial fun args K r h => ?_
  unfold S5 VS5 at h
  split at h
  · exact (e5_0 N _ _ _ _).trans h
  · cases h
def VS84 {β : Type} (N : Nat) (q_spec_l2Full : (a0 : Int) → (k : Int → Option β) → Option β) : Rv.Spec β := fun args K => match args with
  | [.v (.one (.int .i64 a0))] => q_spec_l2Full a0 (fun z1 => K (.v (.one (.int .i64 z1))))
  | _ => none
def S84 {β : Type} (N : Nat) : Rv.Spec β := VS84 N (spec_l2Full N)
def VE84 {β : Type} (N : Nat) : Env β := ⟨[], [], [], []⟩
def E84 {β : Type} (N : Nat) : Env β := VE84 N
def BV_spec_l2Full {β : Type} (N : Nat) (a0 : Int) (k : Int → Option β) : Option β :=
(gd ((decide (0 ≤ a0)))
((gd ((decide (0 ≤ (shlI .u64 1 a0))))
(k ((w64 ((shlI .i64 1 (shlI .u64 1 a0)) - 1)))))))
theorem t_spec_l2Full {β : Type} (N : Nat) (a0 : Int) (k : Int → Option β) : spec_l2Full N a0 k = BV_spec_l2Full N a0 k := by
  unfold spec_l2Full BV_spec_l2Full
  rfl
theorem ve84_0 {β : Type} (N : Nat)  (a0 : Int) (K : TV → Option β) : evFn lay (VE84 N) Try.f84 [.v (.one (.int .i64 a0))] K = BV_spec_l2Full N a0 (fun z1 => K (.v (.one (.int .i64 z1)))) := by kernel_rfl
theorem e84_0 {β : Type} (N : Nat)  (a0 : Int) (K : TV → Option β) : evFn lay (E84 N) Try.f84 [.v (.one (.int .i64 a0))] K = spec_l2Full N a0 (fun z1 => K (.v (.one (.int .i64 z1)))) := (ve84_0 N a0 K).trans (t_spec_l2Full N a0 (fun z1 => K (.v (.one (.int .i64 z1))))).symm
theorem o84 {β : Type} (N : Nat) : SpecOK (β := β) Try.prog 84 (S84 N) := by
  refine spec_of lay_ok mixed (E := E84 N) (specs_loops specs_nil) muts_nil gs_nil Try.func84 (by kernel_rfl) 0 (by kernel_rfl) trivial fun args K r h => ?_
  unfold S84 VS84 at h
  split at h
  · exact (e84_0 N _ _).trans h
  · cases h
def VS51 {β : Type} (N : Nat) (q_spec_MaximumOf : (a0 : ByteArray) → (a1 : Int) → (k : Int → Option β) → Option β) : Rv.Spec β := fun args K => match args with
  | [.v (.one (.str a0)), .v (.one (.int .i64 a1))] => q_spec_MaximumOf a0 a1 (fun z2 => K (.v (.one (.int .i64 z2))))
  | _ => none
def S51 {β : Type} (N : Nat) : Rv.Spec β := VS51 N (spec_MaximumOf N)
def h51_0_0  (v0 : ByteArray) (v1 : Int) (v2 : Int) (v3 : Int) : St := ⟨.v (.one (.str v0)) :: .v (.one (.int .i64 v1)) :: .v (.one .und) :: .v (.one .und) :: .v (.one .und) :: .v (.one (.int .i64 v2)) :: .v (.one (.int .i64 v3)) :: .v (.one .und) :: .v (.one .und) :: .v (.one .und) :: .v (.one .und) :: .v (.one .und) :: .v (.one .und) :: .v (.one .und) :: .v (.one .und) :: .v (.one .und) :: .v (.one .und) :: .v (.one .und) :: .v (.one .und) :: .v (.one .und) :: .v (.one .und) :: .v (.one .und) :: .v (.one .und) :: .v (.one .und) :: [], []⟩
def x51_0_0_k0  (y0 : Int) : St := ⟨.v (.one .und) :: .v (.one .und) :: .v (.one .und) :: .v (.one .und) :: .v (.one .und) :: .v (.one (.int .i64 y0)) :: .v (.one .und) :: .v (.one .und) :: .v (.one .und) :: .v (.one .und) :: .v (.one .und) :: .v (.one .und) :: .v (.one .und) :: .v (.one .und) :: .v (.one .und) :: .v (.one .und) :: .v (.one .und) :: .v (.one .und) :: .v (.one .und) :: .v (.one .und) :: .v (.one .und) :: .v (.one .und) :: .v (.one .und) :: .v (.one .und) :: [], []⟩
theorem fl51_0_0 (s : St) : refSt (h51_0_0 ByteArray.empty 0 0 0) s = h51_0_0 (strS (oneA (vT (nx tund s.tmps 0)))) (intS (oneA (vT (nx tund s.tmps 1)))) (intS (oneA (vT (nx tund s.tmps 5)))) (intS (oneA (vT (nx tund s.tmps 6)))) := by kernel_rfl
def VLS51_0 {β : Type} (N : Nat) (q_spec_MaximumOf_l0 : Nat → ByteArray → Int → Int → Int → (Int → Option β) → Option β) : LSpec β := fun s K => cond (shpSt (h51_0_0 ByteArray.empty 0 0 0) s) ((fun (v0 : ByteArray) (v1 : Int) (v2 : Int) (v3 : Int) => q_spec_MaximumOf_l0  N v0 v1 v2 v3 (fun y0 => K (.exit 0) (x51_0_0_k0  y0))) (strS (oneA (vT (nx tund s.tmps 0)))) (intS (oneA (vT (nx tund s.tmps 1)))) (intS (oneA (vT (nx tund s.tmps 5)))) (intS (oneA (vT (nx tund s.tmps 6))))) (none)
def LS51_0 {β : Type} (N : Nat) : LSpec β := VLS51_0 N (spec_MaximumOf_l0 N)
def VE51 {β : Type} (N : Nat) (q_spec_l1In : (a0 : Int) → (a1 : Int) → (a2 : Int) → (k : Bool → Option β) → Option β) (q_spec_l2Full : (a0 : Int) → (k : Int → Option β) → Option β) (q_spec_MeasureOf : (a0 : ByteArray) → (a1 : Int) → (a2 : Int) → (k : Int → Option β) → Option β) (q_spec_MaximumOf_l0 : Nat → ByteArray → Int → Int → Int → (Int → Option β) → Option β) : Env β := ⟨[(93, VS93 N q_spec_l1In), (84, VS84 N q_spec_l2Full), (48, VS48 N q_spec_MeasureOf)], [], [(0, VLS51_0 N q_spec_MaximumOf_l0)], []⟩
def E51 {β : Type} (N : Nat) : Env β := VE51 N (spec_l1In N) (spec_l2Full N) (spec_MeasureOf N) (spec_MaximumOf_l0 N)
def BV_spec_MaximumOf_l0b {β : Type} (N : Nat) (q_spec_l2Full : (a0 : Int) → (k : Int → Option β) → Option β) (q_spec_MeasureOf : (a0 : ByteArray) → (a1 : Int) → (a2 : Int) → (k : Int → Option β) → Option β)  (v0 : ByteArray) (v1 : Int) (v2 : Int) (v3 : Int) (rec_ : ByteArray → Int → Int → Int → Option β) (k0 : Int → Option β) : Option β :=
q_spec_l2Full v1 fun r4 =>
(cond ((decide (v3 ≤ r4)))
(q_spec_MeasureOf v0 v1 v3 fun r5 =>
rec_ v0 v1 ((mxI v2 r5)) ((w64 (v3 + 1))))
(k0 v2))
theorem t_spec_MaximumOf_l0b {β : Type} (N : Nat)  (v0 : ByteArray) (v1 : Int) (v2 : Int) (v3 : Int) (rec_ : ByteArray → Int → Int → Int → Option β) (k0 : Int → Option β) : spec_MaximumOf_l0b N v0 v1 v2 v3 rec_ k0 = BV_spec_MaximumOf_l0b N (spec_l2Full N) (spec_MeasureOf N) v0 v1 v2 v3 rec_ k0 := by
  unfold spec_MaximumOf_l0b BV_spec_MaximumOf_l0b
  rfl
theorem vst51_0_0 {β : Type} (N : Nat) (q_spec_l1In : (a0 : Int) → (a1 : Int) → (a2 : Int) → (k : Bool → Option β) → Option β) (q_spec_l2Full : (a0 : Int) → (k : Int → Option β) → Option β) (q_spec_MeasureOf : (a0 : ByteArray) → (a1 : Int) → (a2 : Int) → (k : Int → Option β) → Option β) (q_spec_MaximumOf_l0 : Nat → ByteArray → Int → Int → Int → (Int → Option β) → Option β)  (v0 : ByteArray) (v1 : Int) (v2 : Int) (v3 : Int) (rec_ : St → Option β) (K : Exit → St → Option β) :
    ev lay (VE51 N q_spec_l1In q_spec_l2Full q_spec_MeasureOf q_spec_MaximumOf_l0) (retMask Try.f51) (lp Try.f51 0).body (lp Try.f51 0).ex ((lp Try.f51 0).lv (retMask Try.f51)) (h51_0_0  v0 v1 v2 v3) (nextR (fun s' => rec_ (s'.tidy ((lp Try.f51 0).lv (retMask Try.f51)))) K) = BV_spec_MaximumOf_l0b N q_spec_l2Full q_spec_MeasureOf  v0 v1 v2 v3 (fun v0 v1 v2 v3 => rec_ (h51_0_0  v0 v1 v2 v3)) (fun y0 => K (.exit 0) (x51_0_0_k0  y0)) := by kernel_rfl
theorem st51_0_0 {β : Type} (N : Nat)  (v0 : ByteArray) (v1 : Int) (v2 : Int) (v3 : Int) (rec_ : St → Option β) (K : Exit → St → Option β) :
    ev lay (E51 N) (retMask Try.f51) (lp Try.f51 0).body (lp Try.f51 0).ex ((lp Try.f51 0).lv (retMask Try.f51)) (h51_0_0  v0 v1 v2 v3) (nextR (fun s' => rec_ (s'.tidy ((lp Try.f51 0).lv (retMask Try.f51)))) K) = spec_MaximumOf_l0b N  v0 v1 v2 v3 (fun v0 v1 v2 v3 => rec_ (h51_0_0  v0 v1 v2 v3)) (fun y0 => K (.exit 0) (x51_0_0_k0  y0)) := (vst51_0_0 N (spec_l1In N) (spec_l2Full N) (spec_MeasureOf N) (spec_MaximumOf_l0 N) v0 v1 v2 v3 rec_ K).trans (t_spec_MaximumOf_l0b N  v0 v1 v2 v3 (fun v0 v1 v2 v3 => rec_ (h51_0_0  v0 v1 v2 v3)) (fun y0 => K (.exit 0) (x51_0_0_k0  y0))).symm
theorem ro51_0_0 {β : Type} (N : Nat)  (K : Exit → St → Option β) : ∀ (F : Nat) (v0 : ByteArray) (v1 : Int) (v2 : Int) (v3 : Int), (lp Try.f51 0).rounds lay (E51 N) (retMask Try.f51) F (h51_0_0  v0 v1 v2 v3) K = spec_MaximumOf_l0 N  F v0 v1 v2 v3 (fun y0 => K (.exit 0) (x51_0_0_k0  y0)) := by
  intro F
  induction F with
  | zero => intros; rfl
  | succ F ih =>
    intros
    rw [rounds_next]
    refine (st51_0_0 N  _ _ _ _ (fun s => (lp Try.f51 0).rounds lay (E51 N) (retMask Try.f51) F s K) K).trans ?_
    simp only [ih]
    rfl
theorem lk51_0 {β : Type} (N : Nat) : lookL (E51 (β := β) N).loops (lp Try.f51 0).id = LS51_0 N := by kernel_rfl
theorem rk51_0 {β : Type} (N : Nat) : RoundsOK lay (E51 (β := β) N) (retMask Try.f51) (lp Try.f51 0) := by
  intro s K r h
  rw [lk51_0] at h
  unfold LS51_0 VLS51_0 at h
  cases hb : shpSt (h51_0_0 ByteArray.empty 0 0 0) s with
  | true =>
    rw [hb, cond_true] at h
    exact ⟨N, by rw [← shpSt_ref hb, fl51_0_0 s]; exact (ro51_0_0 N  K N (strS (oneA (vT (nx tund s.tmps 0)))) (intS (oneA (vT (nx tund s.tmps 1)))) (intS (oneA (vT (nx tund s.tmps 5)))) (intS (oneA (vT (nx tund s.tmps 6))))).trans h⟩
  | false =>
  rw [hb, cond_false] at h
  clear hb
  cases h
def BV_spec_MaximumOf {β : Type} (N : Nat) (q_spec_l1In : (a0 : Int) → (a1 : Int) → (a2 : Int) → (k : Bool → Option β) → Option β) (q_spec_MaximumOf_l0 : Nat → ByteArray → Int → Int → Int → (Int → Option β) → Option β) (a0 : ByteArray) (a1 : Int) (k : Int → Option β) : Option β :=
q_spec_l1In a1 0 3 fun r3 =>
(cond (!r3)
(k (-1))
(q_spec_MaximumOf_l0  N a0 a1 (-1) 0 (fun e6_0 =>
k e6_0)))
theorem t_spec_MaximumOf {β : Type} (N : Nat) (a0 : ByteArray) (a1 : Int) (k : Int → Option β) : spec_MaximumOf N a0 a1 k = BV_spec_MaximumOf N (spec_l1In N) (spec_MaximumOf_l0 N) a0 a1 k := by
  unfold spec_MaximumOf BV_spec_MaximumOf
  rfl
theorem ve51_0 {β : Type} (N : Nat) (q_spec_l1In : (a0 : Int) → (a1 : Int) → (a2 : Int) → (k : Bool → Option β) → Option β) (q_spec_l2Full : (a0 : Int) → (k : Int → Option β) → Option β) (q_spec_MeasureOf : (a0 : ByteArray) → (a1 : Int) → (a2 : Int) → (k : Int → Option β) → Option β) (q_spec_MaximumOf_l0 : Nat → ByteArray → Int → Int → Int → (Int → Option β) → Option β)  (a0 : ByteArray) (a1 : Int) (K : TV → Option β) : evFn lay (VE51 N q_spec_l1In q_spec_l2Full q_spec_MeasureOf q_spec_MaximumOf_l0) Try.f51 [.v (.one (.str a0)), .v (.one (.int .i64 a1))] K = BV_spec_MaximumOf N q_spec_l1In q_spec_MaximumOf_l0 a0 a1 (fun z2 => K (.v (.one (.int .i64 z2)))) := by kernel_rfl
theorem e51_0 {β : Type} (N : Nat)  (a0 : ByteArray) (a1 : Int) (K : TV → Option β) : evFn lay (E51 N) Try.f51 [.v (.one (.str a0)), .v (.one (.int .i64 a1))] K = spec_MaximumOf N a0 a1 (fun z2 => K (.v (.one (.int .i64 z2)))) := (ve51_0 N (spec_l1In N) (spec_l2Full N) (spec_MeasureOf N) (spec_MaximumOf_l0 N) a0 a1 K).trans (t_spec_MaximumOf N a0 a1 (fun z2 => K (.v (.one (.int .i64 z2))))).symm
theorem o51 {β : Type} (N : Nat) : SpecOK (β := β) Try.prog 51 (S51 N) := by
  refine spec_of lay_ok mixed (E := E51 N) (specs_loops (specs_cons (o93 N) (specs_cons (o84 N) (specs_cons (o48 N) specs_nil)))) muts_nil gs_nil Try.func51 (by kernel_rfl) 1 (by kernel_rfl) ⟨trivial, rk51_0 N⟩ fun args K r h => ?_
  unfold S51 VS51 at h
  split at h
  · exact (e51_0 N _ _ _).trans h
  · cases h
def VS105 {β : Type} (N : Nat) (q_impl_MaximumOf_1_g0 : (a0 : Int) → (a1 : Int) → (a2 : Int) → (a3 : ByteArray) → (k0 : Int → ByteArray → Option β) → Option β) : GSpec β := fun args bl K => match args, bl with
  | [.v (.agg [.int .i64 a0, .int .i64 a1]), .v (.one (.ptr 0 0)), .v (.one (.ptr 1 0))], [.pcells 0 3 [.int .i64 a2], .pcells 1 9 [.str a3]] => q_impl_MaximumOf_1_g0 a0 a1 a2 a3 (fun y0 y1 => K (.tup []) [.pcells 0 3 [.int .i64 y0], .pcells 1 9 [.str y1]])
  | _, _ => none
def S105 {β : Type} (N : Nat) : GSpec β := VS105 N (impl_MaximumOf_1_g0 N)
def VE105 {β : Type} (N : Nat) (q_impl_measure : (a0 : ByteArray) → (a1 : Int) → (a2 : Int) → (k : Int → Option β) → Option β) : Env β := ⟨[(103, VS103 N q_impl_measure)], [], [], []⟩
def E105 {β : Type} (N : Nat) : Env β := VE105 N (impl_measure N)
def BV_impl_MaximumOf_1_g0 {β : Type} (N : Nat) (q_impl_measure : (a0 : ByteArray) → (a1 : Int) → (a2 : Int) → (k : Int → Option β) → Option β) (a0 : Int) (a1 : Int) (a2 : Int) (a3 : ByteArray) (k0 : Int → ByteArray → Option β) : Option β :=
q_impl_measure a3 a0 a1 fun r3 =>
k0 ((mxI a2 r3)) a3
theorem t_impl_MaximumOf_1_g0 {β : Type} (N : Nat) (a0 : Int) (a1 : Int) (a2 : Int) (a3 : ByteArray) (k0 : Int → ByteArray → Option β) : impl_MaximumOf_1_g0 N a0 a1 a2 a3 k0 = BV_impl_MaximumOf_1_g0 N (impl_measure N) a0 a1 a2 a3 k0 := by
  unfold impl_MaximumOf_1_g0 BV_impl_MaximumOf_1_g0
  rfl
theorem ve105_0 {β : Type} (N : Nat) (q_impl_measure : (a0 : ByteArray) → (a1 : Int) → (a2 : Int) → (k : Int → Option β) → Option β) (a0 : Int) (a1 : Int) (a2 : Int) (a3 : ByteArray) (K : TV → List Blk → Option β) : evFnG lay (VE105 N q_impl_measure) Try.f105 [.v (.agg [.int .i64 a0, .int .i64 a1]), .v (.one (.ptr 0 0)), .v (.one (.ptr 1 0))] [.pcells 0 3 [.int .i64 a2], .pcells 1 9 [.str a3]] K = BV_impl_MaximumOf_1_g0 N q_impl_measure a0 a1 a2 a3 (fun y0 y1 => K (.tup []) [.pcells 0 3 [.int .i64 y0], .pcells 1 9 [.str y1]]) := by kernel_rfl
theorem e105_0 {β : Type} (N : Nat) (a0 : Int) (a1 : Int) (a2 : Int) (a3 : ByteArray) (K : TV → List Blk → Option β) : evFnG lay (E105 N) Try.f105 [.v (.agg [.int .i64 a0, .int .i64 a1]), .v (.one (.ptr 0 0)), .v (.one (.ptr 1 0))] [.pcells 0 3 [.int .i64 a2], .pcells 1 9 [.str a3]] K = impl_MaximumOf_1_g0 N a0 a1 a2 a3 (fun y0 y1 => K (.tup []) [.pcells 0 3 [.int .i64 y0], .pcells 1 9 [.str y1]]) := (ve105_0 N (impl_measure N) a0 a1 a2 a3 K).trans (t_impl_MaximumOf_1_g0 N a0 a1 a2 a3 (fun y0 y1 => K (.tup []) [.pcells 0 3 [.int .i64 y0], .pcells 1 9 [.str y1]])).symm
theorem o105 {β : Type} (N : Nat) : GOK (β := β) Try.prog 105 (S105 N) := by
  refine g_of lay_ok mixed (E := E105 N) (specs_loops (specs_cons (o103 N) specs_nil)) muts_nil gs_nil Try.func105 (by kernel_rfl) 0 (by kernel_rfl) trivial fun args bl K r h => ?_
  unfold S105 VS105 at h
  split at h
  · exact (e105_0 N _ _ _ _ _).trans h
  · cases h
def VS104 {β : Type} (N : Nat) (q_impl_allTables_g0 : (a0 : Int) → (a1 : Int) → (a2 : ByteArray) → (k0 : Int → ByteArray → Option β) → Option β) : GSpec β := fun args bl K => match args, bl with
  | [.v (.one (.int .i64 a0)), .v (.one (.fn 105 [(0, 0), (1, 0)]))], [.pcells 0 3 [.int .i64 a1], .pcells 1 9 [.str a2]] => q_impl_allTables_g0 a0 a1 a2 (fun y0 y1 => K (.tup []) [.pcells 0 3 [.int .i64 y0], .pcells 1 9 [.str y1]])
  | _, _ => none
def S104 {β : Type} (N : Nat) : GSpec β := VS104 N (impl_allTables_g0 N)
def h104_0_0  (v0 : Int) (v1 : Int) (v2 : Int) (v3 : Int) (v4 : ByteArray) : St := ⟨.v (.one (.int .i64 v0)) :: .v (.one (.fn 105 [(0, 0), (1, 0)])) :: .v (.one .und) :: .v (.one .und) :: .v (.one .und) :: .v (.one .und) :: .v (.one .und) :: .v (.one (.int .i64 v1)) :: .v (.one (.int .i64 v2)) :: .v (.one .und) :: .v (.one .und) :: .v (.one .und) :: .v (.one .und) :: .v (.one .und) :: .v (.one .und) :: .v (.one .und) :: .v (.one .und) :: [], [.pcells 0 3 [.int .i64 v3], .pcells 1 9 [.str v4]]⟩
def x104_0_0_k0  (y0 : Int) (y1 : ByteArray) : St := ⟨.v (.one .und) :: .v (.one .und) :: .v (.one .und) :: .v (.one .und) :: .v (.one .und) :: .v (.one .und) :: .v (.one .und) :: .v (.one .und) :: .v (.one .und) :: .v (.one .und) :: .v (.one .und) :: .v (.one .und) :: .v (.one .und) :: .v (.one .und) :: .v (.one .und) :: .v (.one .und) :: .v (.one .und) :: [], [.pcells 0 3 [.int .i64 y0], .pcells 1 9 [.str y1]]⟩
theorem fl104_0_0 (s : St) : refSt (h104_0_0 0 0 0 0 ByteArray.empty) s = h104_0_0 (intS (oneA (vT (nx tund s.tmps 0)))) (intS (oneA (vT (nx tund s.tmps 7)))) (intS (oneA (vT (nx tund s.tmps 8)))) (intS (nx .und (cellsB (nx .dead s.blks 0)) 0)) (strS (nx .und (cellsB (nx .dead s.blks 1)) 0)) := by kernel_rfl
def VLS104_0 {β : Type} (N : Nat) (q_impl_allTables_l0 : Nat → Int → Int → Int → Int → ByteArray → (Int → ByteArray → Option β) → Option β) : LSpec β := fun s K => cond (shpSt (h104_0_0 0 0 0 0 ByteArray.empty) s) ((fun (v0 : Int) (v1 : Int) (v2 : Int) (v3 : Int) (v4 : ByteArray) => q_impl_allTables_l0  N v0 v1 v2 v3 v4 (fun y0 y1 => K (.exit 0) (x104_0_0_k0  y0 y1))) (intS (oneA (vT (nx tund s.tmps 0)))) (intS (oneA (vT (nx tund s.tmps 7)))) (intS (oneA (vT (nx tund s.tmps 8)))) (intS (nx .und (cellsB (nx .dead s.blks 0)) 0)) (strS (nx .und (cellsB (nx .dead s.blks 1)) 0))) (none)
def LS104_0 {β : Type} (N : Nat) : LSpec β := VLS104_0 N (impl_allTables_l0 N)
def VE104 {β : Type} (N : Nat) (q_impl_allTables_l0 : Nat → Int → Int → Int → Int → ByteArray → (Int → ByteArray → Option β) → Option β) (q_impl_MaximumOf_1_g0 : (a0 : Int) → (a1 : Int) → (a2 : Int) → (a3 : ByteArray) → (k0 : Int → ByteArray → Option β) → Option β) : Env β := ⟨[], [], [(0, VLS104_0 N q_impl_allTables_l0)], [(105, VS105 N q_impl_MaximumOf_1_g0)]⟩
def E104 {β : Type} (N : Nat) : Env β := VE104 N (impl_allTables_l0 N) (impl_MaximumOf_1_g0 N)
def BV_impl_allTables_l0b {β : Type} (N : Nat) (q_impl_MaximumOf_1_g0 : (a0 : Int) → (a1 : Int) → (a2 : Int) → (a3 : ByteArray) → (k0 : Int → ByteArray → Option β) → Option β)  (v0 : Int) (v1 : Int) (v2 : Int) (v3 : Int) (v4 : ByteArray) (rec_ : Int → Int → Int → Int → ByteArray → Option β) (k0 : Int → ByteArray → Option β) : Option β :=
(cond ((decide (v2 < v1)))
(q_impl_MaximumOf_1_g0 v0 v2 v3 v4 (fun r4_0 r4_1 =>
rec_ v0 v1 ((w64 (v2 + 1))) r4_0 r4_1))
(k0 v3 v4))
theorem t_impl_allTables_l0b {β : Type} (N : Nat)  (v0 : Int) (v1 : Int) (v2 : Int) (v3 : Int) (v4 : ByteArray) (rec_ : Int → Int → Int → Int → ByteArray → Option β) (k0 : Int → ByteArray → Option β) : impl_allTables_l0b N v0 v1 v2 v3 v4 rec_ k0 = BV_impl_allTables_l0b N (impl_MaximumOf_1_g0 N) v0 v1 v2 v3 v4 rec_ k0 := by
  unfold impl_allTables_l0b BV_impl_allTables_l0b
  rfl
theorem vst104_0_0 {β : Type} (N : Nat) (q_impl_allTables_l0 : Nat → Int → Int → Int → Int → ByteArray → (Int → ByteArray → Option β) → Option β) (q_impl_MaximumOf_1_g0 : (a0 : Int) → (a1 : Int) → (a2 : Int) → (a3 : ByteArray) → (k0 : Int → ByteArray → Option β) → Option β)  (v0 : Int) (v1 : Int) (v2 : Int) (v3 : Int) (v4 : ByteArray) (rec_ : St → Option β) (K : Exit → St → Option β) :
    ev lay (VE104 N q_impl_allTables_l0 q_impl_MaximumOf_1_g0) (retMask Try.f104) (lp Try.f104 0).body (lp Try.f104 0).ex ((lp Try.f104 0).lv (retMask Try.f104)) (h104_0_0  v0 v1 v2 v3 v4) (nextR (fun s' => rec_ (s'.tidy ((lp Try.f104 0).lv (retMask Try.f104)))) K) = BV_impl_allTables_l0b N q_impl_MaximumOf_1_g0  v0 v1 v2 v3 v4 (fun v0 v1 v2 v3 v4 => rec_ (h104_0_0  v0 v1 v2 v3 v4)) (fun y0 y1 => K (.exit 0) (x104_0_0_k0  y0 y1)) := by kernel_rfl
theorem st104_0_0 {β : Type} (N : Nat)  (v0 : Int) (v1 : Int) (v2 : Int) (v3 : Int) (v4 : ByteArray) (rec_ : St → Option β) (K : Exit → St → Option β) :
    ev lay (E104 N) (retMask Try.f104) (lp Try.f104 0).body (lp Try.f104 0).ex ((lp Try.f104 0).lv (retMask Try.f104)) (h104_0_0  v0 v1 v2 v3 v4) (nextR (fun s' => rec_ (s'.tidy ((lp Try.f104 0).lv (retMask Try.f104)))) K) = impl_allTables_l0b N  v0 v1 v2 v3 v4 (fun v0 v1 v2 v3 v4 => rec_ (h104_0_0  v0 v1 v2 v3 v4)) (fun y0 y1 => K (.exit 0) (x104_0_0_k0  y0 y1)) := (vst104_0_0 N (impl_allTables_l0 N) (impl_MaximumOf_1_g0 N) v0 v1 v2 v3 v4 rec_ K).trans (t_impl_allTables_l0b N  v0 v1 v2 v3 v4 (fun v0 v1 v2 v3 v4 => rec_ (h104_0_0  v0 v1 v2 v3 v4)) (fun y0 y1 => K (.exit 0) (x104_0_0_k0  y0 y1))).symm
theorem ro104_0_0 {β : Type} (N : Nat)  (K : Exit → St → Option β) : ∀ (F : Nat) (v0 : Int) (v1 : Int) (v2 : Int) (v3 : Int) (v4 : ByteArray), (lp Try.f104 0).rounds lay (E104 N) (retMask Try.f104) F (h104_0_0  v0 v1 v2 v3 v4) K = impl_allTables_l0 N  F v0 v1 v2 v3 v4 (fun y0 y1 => K (.exit 0) (x104_0_0_k0  y0 y1)) := by
  intro F
  induction F with
  | zero => intros; rfl
  | succ F ih =>
    intros
    rw [rounds_next]
    refine (st104_0_0 N  _ _ _ _ _ (fun s => (lp Try.f104 0).rounds lay (E104 N) (retMask Try.f104) F s K) K).trans ?_
    simp only [ih]
    rfl
theorem lk104_0 {β : Type} (N : Nat) : lookL (E104 (β := β) N).loops (lp Try.f104 0).id = LS104_0 N := by kernel_rfl
theorem rk104_0 {β : Type} (N : Nat) : RoundsOK lay (E104 (β := β) N) (retMask Try.f104) (lp Try.f104 0) := by
  intro s K r h
  rw [lk104_0] at h
  unfold LS104_0 VLS104_0 at h
  cases hb : shpSt (h104_0_0 0 0 0 0 ByteArray.empty) s with
  | true =>
    rw [hb, cond_true] at h
    exact ⟨N, by rw [← shpSt_ref hb, fl104_0_0 s]; exact (ro104_0_0 N  K N (intS (oneA (vT (nx tund s.tmps 0)))) (intS (oneA (vT (nx tund s.tmps 7)))) (intS (oneA (vT (nx tund s.tmps 8)))) (intS (nx .und (cellsB (nx .dead s.blks 0)) 0)) (strS (nx .und (cellsB (nx .dead s.blks 1)) 0))).trans h⟩
  | false =>
  rw [hb, cond_false] at h
  clear hb
  cases h
def BV_impl_allTables_g0 {β : Type} (N : Nat) (q_impl_allTables_l0 : Nat → Int → Int → Int → Int → ByteArray → (Int → ByteArray → Option β) → Option β) (a0 : Int) (a1 : Int) (a2 : ByteArray) (k0 : Int → ByteArray → Option β) : Option β :=
(gd ((decide (0 ≤ a0)))
((gd ((decide (0 ≤ (shlI .u64 1 a0))))
(q_impl_allTables_l0  N a0 ((shlI .i64 1 (shlI .u64 1 a0))) 0 a1 a2 (fun e5_0 e5_1 =>
k0 e5_0 e5_1)))))
theorem t_impl_allTables_g0 {β : Type} (N : Nat) (a0 : Int) (a1 : Int) (a2 : ByteArray) (k0 : Int → ByteArray → Option β) : impl_allTables_g0 N a0 a1 a2 k0 = BV_impl_allTables_g0 N (impl_allTables_l0 N) a0 a1 a2 k0 := by
  unfold impl_allTables_g0 BV_impl_allTables_g0
  rfl
theorem ve104_0 {β : Type} (N : Nat) (q_impl_allTables_l0 : Nat → Int → Int → Int → Int → ByteArray → (Int → ByteArray → Option β) → Option β) (q_impl_MaximumOf_1_g0 : (a0 : Int) → (a1 : Int) → (a2 : Int) → (a3 : ByteArray) → (k0 : Int → ByteArray → Option β) → Option β) (a0 : Int) (a1 : Int) (a2 : ByteArray) (K : TV → List Blk → Option β) : evFnG lay (VE104 N q_impl_allTables_l0 q_impl_MaximumOf_1_g0) Try.f104 [.v (.one (.int .i64 a0)), .v (.one (.fn 105 [(0, 0), (1, 0)]))] [.pcells 0 3 [.int .i64 a1], .pcells 1 9 [.str a2]] K = BV_impl_allTables_g0 N q_impl_allTables_l0 a0 a1 a2 (fun y0 y1 => K (.tup []) [.pcells 0 3 [.int .i64 y0], .pcells 1 9 [.str y1]]) := by kernel_rfl
theorem e104_0 {β : Type} (N : Nat) (a0 : Int) (a1 : Int) (a2 : ByteArray) (K : TV → List Blk → Option β) : evFnG lay (E104 N) Try.f104 [.v (.one (.int .i64 a0)), .v (.one (.fn 105 [(0, 0), (1, 0)]))] [.pcells 0 3 [.int .i64 a1], .pcells 1 9 [.str a2]] K = impl_allTables_g0 N a0 a1 a2 (fun y0 y1 => K (.tup []) [.pcells 0 3 [.int .i64 y0], .pcells 1 9 [.str y1]]) := (ve104_0 N (impl_allTables_l0 N) (impl_MaximumOf_1_g0 N) a0 a1 a2 K).trans (t_impl_allTables_g0 N a0 a1 a2 (fun y0 y1 => K (.tup []) [.pcells 0 3 [.int .i64 y0], .pcells 1 9 [.str y1]])).symm
theorem o104 {β : Type} (N : Nat) : GOK (β := β) Try.prog 104 (S104 N) := by
  refine g_of lay_ok mixed (E := E104 N) (specs_loops specs_nil) muts_nil (gs_cons (o105 N) gs_nil) Try.func104 (by kernel_rfl) 1 (by kernel_rfl) ⟨trivial, rk104_0 N⟩ fun args bl K r h => ?_
  unfold S104 VS104 at h
  split at h
  · exact (e104_0 N _ _ _ _).trans h
  · cases h
def VS52 {β : Type} (N : Nat) (q_impl_MaximumOf : (a0 : ByteArray) → (a1 : Int) → (k : Int → Option β) → Option β) : Rv.Spec β := fun args K => match args with
  | [.v (.one (.str a0)), .v (.one (.int .i64 a1))] => q_impl_MaximumOf a0 a1 (fun z2 => K (.v (.one (.int .i64 z2))))
  | _ => none
def S52 {β : Type} (N : Nat) : Rv.Spec β := VS52 N (impl_MaximumOf N)
def VE52 {β : Type} (N : Nat) (q_impl_allTables_g0 : (a0 : Int) → (a1 : Int) → (a2 : ByteArray) → (k0 : Int → ByteArray → Option β) → Option β) : Env β := ⟨[], [], [], [(104, VS104 N q_impl_allTables_g0)]⟩
def E52 {β : Type} (N : Nat) : Env β := VE52 N (impl_allTables_g0 N)
def BV_impl_MaximumOf {β : Type} (N : Nat) (q_impl_allTables_g0 : (a0 : Int) → (a1 : Int) → (a2 : ByteArray) → (k0 : Int → ByteArray → Option β) → Option β) (a0 : ByteArray) (a1 : Int) (k : Int → Option β) : Option β :=
(cond ((decide (a1 < 0)))
(k (-1))
((cond ((decide (a1 > 3)))
(k (-1))
(q_impl_allTables_g0 a1 (-1) a0 (fun r3_0 r3_1 =>
k r3_0)))))
theorem t_impl_MaximumOf {β : Type} (N : Nat) (a0 : ByteArray) (a1 : Int) (k : Int → Option β) : impl_MaximumOf N a0 a1 k = BV_impl_MaximumOf N (impl_allTables_g0 N) a0 a1 k := by
  unfold impl_MaximumOf BV_impl_MaximumOf
  rfl
theorem ve52_0 {β : Type} (N : Nat) (q_impl_allTables_g0 : (a0 : Int) → (a1 : Int) → (a2 : ByteArray) → (k0 : Int → ByteArray → Option β) → Option β)  (a0 : ByteArray) (a1 : Int) (K : TV → Option β) : evFn lay (VE52 N q_impl_allTables_g0) Try.f52 [.v (.one (.str a0)), .v (.one (.int .i64 a1))] K = BV_impl_MaximumOf N q_impl_allTables_g0 a0 a1 (fun z2 => K (.v (.one (.int .i64 z2)))) := by kernel_rfl
theorem e52_0 {β : Type} (N : Nat)  (a0 : ByteArray) (a1 : Int) (K : TV → Option β) : evFn lay (E52 N) Try.f52 [.v (.one (.str a0)), .v (.one (.int .i64 a1))] K = impl_MaximumOf N a0 a1 (fun z2 => K (.v (.one (.int .i64 z2)))) := (ve52_0 N (impl_allTables_g0 N) a0 a1 K).trans (t_impl_MaximumOf N a0 a1 (fun z2 => K (.v (.one (.int .i64 z2))))).symm
theorem o52 {β : Type} (N : Nat) : SpecOK (β := β) Try.prog 52 (S52 N) := by
  refine spec_of lay_ok mixed (E := E52 N) (specs_loops specs_nil) muts_nil (gs_cons (o104 N) gs_nil) Try.func52 (by kernel_rfl) 0 (by kernel_rfl) trivial fun args K r h => ?_
  unfold S52 VS52 at h
  split at h
  · exact (e52_0 N _ _ _).trans h
  · cases h
def VS6 {β : Type} (N : Nat) (q_laws_FnExactMaximumOf : (a0 : ByteArray) → (a1 : Int) → (k : Bool → Option β) → Option β) : Rv.Spec β := fun args K => match args with
  | [.v (.one (.str a0)), .v (.one (.int .i64 a1))] => q_laws_FnExactMaximumOf a0 a1 (fun z2 => K (.v (.one (.bool z2))))
  | _ => none
def S6 {β : Type} (N : Nat) : Rv.Spec β := VS6 N (laws_FnExactMaximumOf N)
def VE6 {β : Type} (N : Nat) (q_spec_MaximumOf : (a0 : ByteArray) → (a1 : Int) → (k : Int → Option β) → Option β) (q_impl_MaximumOf : (a0 : ByteArray) → (a1 : Int) → (k : Int → Option β) → Option β) : Env β := ⟨[(51, VS51 N q_spec_MaximumOf), (52, VS52 N q_impl_MaximumOf)], [], [], []⟩
def E6 {β : Type} (N : Nat) : Env β := VE6 N (spec_MaximumOf N) (impl_MaximumOf N)
def BV_laws_FnExactMaximumOf {β : Type} (N : Nat) (q_spec_MaximumOf : (a0 : ByteArray) → (a1 : Int) → (k : Int → Option β) → Option β) (q_impl_MaximumOf : (a0 : ByteArray) → (a1 : Int) → (k : Int → Option β) → Option β) (a0 : ByteArray) (a1 : Int) (k : Bool → Option β) : Option β :=
(cond ((decide ((a0.size : Int) > 1048576)))
(k true)
(q_spec_MaximumOf a0 a1 fun r3 =>
q_impl_MaximumOf a0 a1 fun r4 =>
(cond ((r4 != r3))
(k false)
(k true))))
theorem t_laws_FnExactMaximumOf {β : Type} (N : Nat) (a0 : ByteArray) (a1 : Int) (k : Bool → Option β) : laws_FnExactMaximumOf N a0 a1 k = BV_laws_FnExactMaximumOf N (spec_MaximumOf N) (impl_MaximumOf N) a0 a1 k := by
  unfold laws_FnExactMaximumOf BV_laws_FnExactMaximumOf
  rfl
theorem ve6_0 {β : Type} (N : Nat) (q_spec_MaximumOf : (a0 : ByteArray) → (a1 : Int) → (k : Int → Option β) → Option β) (q_impl_MaximumOf : (a0 : ByteArray) → (a1 : Int) → (k : Int → Option β) → Option β)  (a0 : ByteArray) (a1 : Int) (K : TV → Option β) : evFn lay (VE6 N q_spec_MaximumOf q_impl_MaximumOf) Try.f6 [.v (.one (.str a0)), .v (.one (.int .i64 a1))] K = BV_laws_FnExactMaximumOf N q_spec_MaximumOf q_impl_MaximumOf a0 a1 (fun z2 => K (.v (.one (.bool z2)))) := by kernel_rfl
theorem e6_0 {β : Type} (N : Nat)  (a0 : ByteArray) (a1 : Int) (K : TV → Option β) : evFn lay (E6 N) Try.f6 [.v (.one (.str a0)), .v (.one (.int .i64 a1))] K = laws_FnExactMaximumOf N a0 a1 (fun z2 => K (.v (.one (.bool z2)))) := (ve6_0 N (spec_MaximumOf N) (impl_MaximumOf N) a0 a1 K).trans (t_laws_FnExactMaximumOf N a0 a1 (fun z2 => K (.v (.one (.bool z2))))).symm
theorem o6 {β : Type} (N : Nat) : SpecOK (β := β) Try.prog 6 (S6 N) := by
  refine spec_of lay_ok mixed (E := E6 N) (specs_loops (specs_cons (o51 N) (specs_cons (o52 N) specs_nil))) muts_nil gs_nil Try.func6 (by kernel_rfl) 0 (by kernel_rfl) trivial fun args K r h => ?_
  unfold S6 VS6 at h
  split at h
  · exact (e6_0 N _ _ _).trans h
  · cases h
end Go.Proofs.Ytdkjnadhgdneaaa
