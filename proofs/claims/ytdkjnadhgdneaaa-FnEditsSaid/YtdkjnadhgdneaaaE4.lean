/- The functions that the claims reach answer as their texts do. -/
import Derived.Test.YtdkjnadhgdneaaaE3
namespace Go.Proofs.Ytdkjnadhgdneaaa
open Go.Rv
set_option maxRecDepth 100000
set_option maxHeartbeats 2000000
set_option linter.unusedVariables false
def VS78 {β : Type} (N : Nat) (q_impl_Table_influence : (a0 : Int) → (a1 : Int) → (a2 : Int) → (k : Int → Option β) → Option β) : Rv.Spec β := fun args K => match args with
  | [.v (.agg [.int .i64 a0, .int .i64 a1]), .v (.one (.int .i64 a2))] => q_impl_Table_influence a0 a1 a2 (fun z3 => K (.v (.one (.int .i64 z3))))
  | _ => none
def S78 {β : Type} (N : Nat) : Rv.Spec β := VS78 N (impl_Table_influence N)
def h78_0_0  (v0 : Int) (v1 : Int) (v2 : Int) (v3 : Int) (v4 : Int) (v5 : Int) : St := ⟨.v (.one .und) :: .v (.one (.int .i64 v0)) :: .v (.one (.ptr 0 0)) :: .v (.one .und) :: .v (.one .und) :: .v (.one (.int .i64 v1)) :: .v (.one .und) :: .v (.one .und) :: .v (.one (.int .i64 v2)) :: .v (.one (.int .i64 v3)) :: .v (.one .und) :: .v (.one .und) :: .v (.one .und) :: .v (.one .und) :: .v (.one .und) :: .v (.one .und) :: .v (.one .und) :: .v (.one .und) :: .v (.one .und) :: .v (.one .und) :: .v (.one .und) :: [], [.cells 25 [.int .i64 v4, .int .i64 v5]]⟩
def x78_0_0_k0  (y0 : Int) : St := ⟨.v (.one .und) :: .v (.one .und) :: .v (.one .und) :: .v (.one .und) :: .v (.one .und) :: .v (.one (.int .i64 y0)) :: .v (.one .und) :: .v (.one .und) :: .v (.one .und) :: .v (.one .und) :: .v (.one .und) :: .v (.one .und) :: .v (.one .und) :: .v (.one .und) :: .v (.one .und) :: .v (.one .und) :: .v (.one .und) :: .v (.one .und) :: .v (.one .und) :: .v (.one .und) :: .v (.one .und) :: [], []⟩
theorem fl78_0_0 (s : St) : refSt (h78_0_0 0 0 0 0 0 0) s = h78_0_0 (intS (oneA (vT (nx tund s.tmps 1)))) (intS (oneA (vT (nx tund s.tmps 5)))) (intS (oneA (vT (nx tund s.tmps 8)))) (intS (oneA (vT (nx tund s.tmps 9)))) (intS (nx .und (cellsB (nx .dead s.blks 0)) 0)) (intS (nx .und (cellsB (nx .dead s.blks 0)) 1)) := by kernel_rfl
def VLS78_0 {β : Type} (N : Nat) (q_impl_Table_influence_l0 : Nat → Int → Int → Int → Int → Int → Int → (Int → Option β) → Option β) : LSpec β := fun s K => cond (shpSt (h78_0_0 0 0 0 0 0 0) s) ((fun (v0 : Int) (v1 : Int) (v2 : Int) (v3 : Int) (v4 : Int) (v5 : Int) => q_impl_Table_influence_l0  N v0 v1 v2 v3 v4 v5 (fun y0 => K (.exit 0) (x78_0_0_k0  y0))) (intS (oneA (vT (nx tund s.tmps 1)))) (intS (oneA (vT (nx tund s.tmps 5)))) (intS (oneA (vT (nx tund s.tmps 8)))) (intS (oneA (vT (nx tund s.tmps 9)))) (intS (nx .und (cellsB (nx .dead s.blks 0)) 0)) (intS (nx .und (cellsB (nx .dead s.blks 0)) 1))) (none)
def LS78_0 {β : Type} (N : Nat) : LSpec β := VLS78_0 N (impl_Table_influence_l0 N)
def VE78 {β : Type} (N : Nat) (q_impl_Table_size : (a0 : Int) → (a1 : Int) → (k : Int → Option β) → Option β) (q_impl_Table_changes : (a0 : Int) → (a1 : Int) → (a2 : Int) → (a3 : Int) → (k : Bool → Option β) → Option β) (q_impl_Table_influence_l0 : Nat → Int → Int → Int → Int → Int → Int → (Int → Option β) → Option β) : Env β := ⟨[(82, VS82 N q_impl_Table_size), (115, VS115 N q_impl_Table_changes)], [], [(0, VLS78_0 N q_impl_Table_influence_l0)], []⟩
def E78 {β : Type} (N : Nat) : Env β := VE78 N (impl_Table_size N) (impl_Table_changes N) (impl_Table_influence_l0 N)
def BV_impl_Table_influence_l0b {β : Type} (N : Nat) (q_impl_Table_changes : (a0 : Int) → (a1 : Int) → (a2 : Int) → (a3 : Int) → (k : Bool → Option β) → Option β)  (v0 : Int) (v1 : Int) (v2 : Int) (v3 : Int) (v4 : Int) (v5 : Int) (rec_ : Int → Int → Int → Int → Int → Int → Option β) (k0 : Int → Option β) : Option β :=
(cond ((decide (v3 < v2)))
((gd ((decide (0 ≤ v0)))
(q_impl_Table_changes v4 v5 v3 ((shlI .i64 1 v0)) fun r5 =>
(cond r5
(rec_ v0 ((w64 (v1 + 1))) v2 ((w64 (v3 + 1))) v4 v5)
(rec_ v0 v1 v2 ((w64 (v3 + 1))) v4 v5)))))
(k0 v1))
theorem t_impl_Table_influence_l0b {β : Type} (N : Nat)  (v0 : Int) (v1 : Int) (v2 : Int) (v3 : Int) (v4 : Int) (v5 : Int) (rec_ : Int → Int → Int → Int → Int → Int → Option β) (k0 : Int → Option β) : impl_Table_influence_l0b N v0 v1 v2 v3 v4 v5 rec_ k0 = BV_impl_Table_influence_l0b N (impl_Table_changes N) v0 v1 v2 v3 v4 v5 rec_ k0 := by
  unfold impl_Table_influence_l0b BV_impl_Table_influence_l0b
  rfl
theorem vst78_0_0 {β : Type} (N : Nat) (q_impl_Table_size : (a0 : Int) → (a1 : Int) → (k : Int → Option β) → Option β) (q_impl_Table_changes : (a0 : Int) → (a1 : Int) → (a2 : Int) → (a3 : Int) → (k : Bool → Option β) → Option β) (q_impl_Table_influence_l0 : Nat → Int → Int → Int → Int → Int → Int → (Int → Option β) → Option β)  (v0 : Int) (v1 : Int) (v2 : Int) (v3 : Int) (v4 : Int) (v5 : Int) (rec_ : St → Option β) (K : Exit → St → Option β) :
    ev lay (VE78 N q_impl_Table_size q_impl_Table_changes q_impl_Table_influence_l0) (retMask Try.f78) (lp Try.f78 0).body (lp Try.f78 0).ex ((lp Try.f78 0).lv (retMask Try.f78)) (h78_0_0  v0 v1 v2 v3 v4 v5) (nextR (fun s' => rec_ (s'.tidy ((lp Try.f78 0).lv (retMask Try.f78)))) K) = BV_impl_Table_influence_l0b N q_impl_Table_changes  v0 v1 v2 v3 v4 v5 (fun v0 v1 v2 v3 v4 v5 => rec_ (h78_0_0  v0 v1 v2 v3 v4 v5)) (fun y0 => K (.exit 0) (x78_0_0_k0  y0)) := by kernel_rfl
theorem st78_0_0 {β : Type} (N : Nat)  (v0 : Int) (v1 : Int) (v2 : Int) (v3 : Int) (v4 : Int) (v5 : Int) (rec_ : St → Option β) (K : Exit → St → Option β) :
    ev lay (E78 N) (retMask Try.f78) (lp Try.f78 0).body (lp Try.f78 0).ex ((lp Try.f78 0).lv (retMask Try.f78)) (h78_0_0  v0 v1 v2 v3 v4 v5) (nextR (fun s' => rec_ (s'.tidy ((lp Try.f78 0).lv (retMask Try.f78)))) K) = impl_Table_influence_l0b N  v0 v1 v2 v3 v4 v5 (fun v0 v1 v2 v3 v4 v5 => rec_ (h78_0_0  v0 v1 v2 v3 v4 v5)) (fun y0 => K (.exit 0) (x78_0_0_k0  y0)) := (vst78_0_0 N (impl_Table_size N) (impl_Table_changes N) (impl_Table_influence_l0 N) v0 v1 v2 v3 v4 v5 rec_ K).trans (t_impl_Table_influence_l0b N  v0 v1 v2 v3 v4 v5 (fun v0 v1 v2 v3 v4 v5 => rec_ (h78_0_0  v0 v1 v2 v3 v4 v5)) (fun y0 => K (.exit 0) (x78_0_0_k0  y0))).symm
theorem ro78_0_0 {β : Type} (N : Nat)  (K : Exit → St → Option β) : ∀ (F : Nat) (v0 : Int) (v1 : Int) (v2 : Int) (v3 : Int) (v4 : Int) (v5 : Int), (lp Try.f78 0).rounds lay (E78 N) (retMask Try.f78) F (h78_0_0  v0 v1 v2 v3 v4 v5) K = impl_Table_influence_l0 N  F v0 v1 v2 v3 v4 v5 (fun y0 => K (.exit 0) (x78_0_0_k0  y0)) := by
  intro F
  induction F with
  | zero => intros; rfl
  | succ F ih =>
    intros
    rw [rounds_next]
    refine (st78_0_0 N  _ _ _ _ _ _ (fun s => (lp Try.f78 0).rounds lay (E78 N) (retMask Try.f78) F s K) K).trans ?_
    simp only [ih]
    rfl
theorem lk78_0 {β : Type} (N : Nat) : lookL (E78 (β := β) N).loops (lp Try.f78 0).id = LS78_0 N := by kernel_rfl
theorem rk78_0 {β : Type} (N : Nat) : RoundsOK lay (E78 (β := β) N) (retMask Try.f78) (lp Try.f78 0) := by
  intro s K r h
  rw [lk78_0] at h
  unfold LS78_0 VLS78_0 at h
  cases hb : shpSt (h78_0_0 0 0 0 0 0 0) s with
  | true =>
    rw [hb, cond_true] at h
    exact ⟨N, by rw [← shpSt_ref hb, fl78_0_0 s]; exact (ro78_0_0 N  K N (intS (oneA (vT (nx tund s.tmps 1)))) (intS (oneA (vT (nx tund s.tmps 5)))) (intS (oneA (vT (nx tund s.tmps 8)))) (intS (oneA (vT (nx tund s.tmps 9)))) (intS (nx .und (cellsB (nx .dead s.blks 0)) 0)) (intS (nx .und (cellsB (nx .dead s.blks 0)) 1))).trans h⟩
  | false =>
  rw [hb, cond_false] at h
  clear hb
  cases h
def BV_impl_Table_influence {β : Type} (N : Nat) (q_impl_Table_size : (a0 : Int) → (a1 : Int) → (k : Int → Option β) → Option β) (q_impl_Table_influence_l0 : Nat → Int → Int → Int → Int → Int → Int → (Int → Option β) → Option β) (a0 : Int) (a1 : Int) (a2 : Int) (k : Int → Option β) : Option β :=
q_impl_Table_size a0 a1 fun r4 =>
q_impl_Table_influence_l0  N a2 0 r4 0 a0 a1 (fun e6_0 =>
k e6_0)
theorem t_impl_Table_influence {β : Type} (N : Nat) (a0 : Int) (a1 : Int) (a2 : Int) (k : Int → Option β) : impl_Table_influence N a0 a1 a2 k = BV_impl_Table_influence N (impl_Table_size N) (impl_Table_influence_l0 N) a0 a1 a2 k := by
  unfold impl_Table_influence BV_impl_Table_influence
  rfl
theorem ve78_0 {β : Type} (N : Nat) (q_impl_Table_size : (a0 : Int) → (a1 : Int) → (k : Int → Option β) → Option β) (q_impl_Table_changes : (a0 : Int) → (a1 : Int) → (a2 : Int) → (a3 : Int) → (k : Bool → Option β) → Option β) (q_impl_Table_influence_l0 : Nat → Int → Int → Int → Int → Int → Int → (Int → Option β) → Option β)  (a0 : Int) (a1 : Int) (a2 : Int) (K : TV → Option β) : evFn lay (VE78 N q_impl_Table_size q_impl_Table_changes q_impl_Table_influence_l0) Try.f78 [.v (.agg [.int .i64 a0, .int .i64 a1]), .v (.one (.int .i64 a2))] K = BV_impl_Table_influence N q_impl_Table_size q_impl_Table_influence_l0 a0 a1 a2 (fun z3 => K (.v (.one (.int .i64 z3)))) := by kernel_rfl
theorem e78_0 {β : Type} (N : Nat)  (a0 : Int) (a1 : Int) (a2 : Int) (K : TV → Option β) : evFn lay (E78 N) Try.f78 [.v (.agg [.int .i64 a0, .int .i64 a1]), .v (.one (.int .i64 a2))] K = impl_Table_influence N a0 a1 a2 (fun z3 => K (.v (.one (.int .i64 z3)))) := (ve78_0 N (impl_Table_size N) (impl_Table_changes N) (impl_Table_influence_l0 N) a0 a1 a2 K).trans (t_impl_Table_influence N a0 a1 a2 (fun z3 => K (.v (.one (.int .i64 z3))))).symm
theorem o78 {β : Type} (N : Nat) : SpecOK (β := β) Try.prog 78 (S78 N) := by
  refine spec_of lay_ok mixed (E := E78 N) (specs_loops (specs_cons (o82 N) (specs_cons (o115 N) specs_nil))) muts_nil gs_nil Try.func78 (by kernel_rfl) 1 (by kernel_rfl) ⟨trivial, rk78_0 N⟩ fun args K r h => ?_
  unfold S78 VS78 at h
  split at h
  · exact (e78_0 N _ _ _ _).trans h
  · cases h
def VS111 {β : Type} (N : Nat) (q_impl_Table_influences : (a0 : Int) → (a1 : Int) → (k : List Int → Option β) → Option β) : Rv.Spec β := fun args K => match args with
  | [.v (.agg [.int .i64 a0, .int .i64 a1])] => q_impl_Table_influences a0 a1 (fun z2 => K (.v (.one (.sl 3 (.ints .i64 z2)))))
  | _ => none
def S111 {β : Type} (N : Nat) : Rv.Spec β := VS111 N (impl_Table_influences N)
def h111_0_0  (v0 : Int) (v1 : Int) (v2 : Int) (v3 : Int) (v4 : List Int) : St := ⟨.v (.one .und) :: .v (.one (.ptr 0 0)) :: .v (.one .und) :: .v (.one (.row 1)) :: .v (.one .und) :: .v (.one .und) :: .v (.one .und) :: .v (.one .und) :: .v (.one .und) :: .v (.one (.int .i64 v0)) :: .v (.one (.int .i64 v1)) :: .v (.one .und) :: .v (.one .und) :: .v (.one .und) :: .v (.one .und) :: .v (.one .und) :: .v (.one .und) :: .v (.one .und) :: .v (.one .und) :: .v (.one .und) :: .v (.one .und) :: [], [.cells 25 [.int .i64 v2, .int .i64 v3], .row 3 (.ints .i64 v4)]⟩
def x111_0_0_k0  (y0 : List Int) : St := ⟨.v (.one .und) :: .v (.one .und) :: .v (.one .und) :: .v (.one (.row 0)) :: .v (.one .und) :: .v (.one .und) :: .v (.one .und) :: .v (.one .und) :: .v (.one .und) :: .v (.one .und) :: .v (.one .und) :: .v (.one .und) :: .v (.one .und) :: .v (.one .und) :: .v (.one .und) :: .v (.one .und) :: .v (.one .und) :: .v (.one .und) :: .v (.one .und) :: .v (.one .und) :: .v (.one .und) :: [], [.row 3 (.ints .i64 y0)]⟩
theorem fl111_0_0 (s : St) : refSt (h111_0_0 0 0 0 0 []) s = h111_0_0 (intS (oneA (vT (nx tund s.tmps 9)))) (intS (oneA (vT (nx tund s.tmps 10)))) (intS (nx .und (cellsB (nx .dead s.blks 0)) 0)) (intS (nx .und (cellsB (nx .dead s.blks 0)) 1)) (rInts (rowB_ (nx .dead s.blks 1))) := by kernel_rfl
def VLS111_0 {β : Type} (N : Nat) (q_impl_Table_influences_l0 : Nat → Int → Int → Int → Int → List Int → (List Int → Option β) → Option β) : LSpec β := fun s K => cond (shpSt (h111_0_0 0 0 0 0 []) s) ((fun (v0 : Int) (v1 : Int) (v2 : Int) (v3 : Int) (v4 : List Int) => q_impl_Table_influences_l0  N v0 v1 v2 v3 v4 (fun y0 => K (.exit 0) (x111_0_0_k0  y0))) (intS (oneA (vT (nx tund s.tmps 9)))) (intS (oneA (vT (nx tund s.tmps 10)))) (intS (nx .und (cellsB (nx .dead s.blks 0)) 0)) (intS (nx .und (cellsB (nx .dead s.blks 0)) 1)) (rInts (rowB_ (nx .dead s.blks 1)))) (none)
def LS111_0 {β : Type} (N : Nat) : LSpec β := VLS111_0 N (impl_Table_influences_l0 N)
def VE111 {β : Type} (N : Nat) (q_impl_Table_influence : (a0 : Int) → (a1 : Int) → (a2 : Int) → (k : Int → Option β) → Option β) (q_impl_Table_influences_l0 : Nat → Int → Int → Int → Int → List Int → (List Int → Option β) → Option β) : Env β := ⟨[(78, VS78 N q_impl_Table_influence)], [], [(0, VLS111_0 N q_impl_Table_influences_l0)], []⟩
def E111 {β : Type} (N : Nat) : Env β := VE111 N (impl_Table_influence N) (impl_Table_influences_l0 N)
def BV_impl_Table_influences_l0b {β : Type} (N : Nat) (q_impl_Table_influence : (a0 : Int) → (a1 : Int) → (a2 : Int) → (k : Int → Option β) → Option β)  (v0 : Int) (v1 : Int) (v2 : Int) (v3 : Int) (v4 : List Int) (rec_ : Int → Int → Int → Int → List Int → Option β) (k0 : List Int → Option β) : Option β :=
(cond ((decide (v1 < v0)))
(q_impl_Table_influence v2 v3 v1 fun r3 =>
(gd ((decide (0 ≤ v1)))
((gd ((decide (v1 < (v4.length : Int))))
(rec_ v0 ((w64 (v1 + 1))) v2 v3 ((wr v4 v1 r3)))))))
(k0 v4))
theorem t_impl_Table_influences_l0b {β : Type} (N : Nat)  (v0 : Int) (v1 : Int) (v2 : Int) (v3 : Int) (v4 : List Int) (rec_ : Int → Int → Int → Int → List Int → Option β) (k0 : List Int → Option β) : impl_Table_influences_l0b N v0 v1 v2 v3 v4 rec_ k0 = BV_impl_Table_influences_l0b N (impl_Table_influence N) v0 v1 v2 v3 v4 rec_ k0 := by
  unfold impl_Table_influences_l0b BV_impl_Table_influences_l0b
  rfl
theorem vst111_0_0 {β : Type} (N : Nat) (q_impl_Table_influence : (a0 : Int) → (a1 : Int) → (a2 : Int) → (k : Int → Option β) → Option β) (q_impl_Table_influences_l0 : Nat → Int → Int → Int → Int → List Int → (List Int → Option β) → Option β)  (v0 : Int) (v1 : Int) (v2 : Int) (v3 : Int) (v4 : List Int) (rec_ : St → Option β) (K : Exit → St → Option β) :
    ev lay (VE111 N q_impl_Table_influence q_impl_Table_influences_l0) (retMask Try.f111) (lp Try.f111 0).body (lp Try.f111 0).ex ((lp Try.f111 0).lv (retMask Try.f111)) (h111_0_0  v0 v1 v2 v3 v4) (nextR (fun s' => rec_ (s'.tidy ((lp Try.f111 0).lv (retMask Try.f111)))) K) = BV_impl_Table_influences_l0b N q_impl_Table_influence  v0 v1 v2 v3 v4 (fun v0 v1 v2 v3 v4 => rec_ (h111_0_0  v0 v1 v2 v3 v4)) (fun y0 => K (.exit 0) (x111_0_0_k0  y0)) := by kernel_rfl
theorem st111_0_0 {β : Type} (N : Nat)  (v0 : Int) (v1 : Int) (v2 : Int) (v3 : Int) (v4 : List Int) (rec_ : St → Option β) (K : Exit → St → Option β) :
    ev lay (E111 N) (retMask Try.f111) (lp Try.f111 0).body (lp Try.f111 0).ex ((lp Try.f111 0).lv (retMask Try.f111)) (h111_0_0  v0 v1 v2 v3 v4) (nextR (fun s' => rec_ (s'.tidy ((lp Try.f111 0).lv (retMask Try.f111)))) K) = impl_Table_influences_l0b N  v0 v1 v2 v3 v4 (fun v0 v1 v2 v3 v4 => rec_ (h111_0_0  v0 v1 v2 v3 v4)) (fun y0 => K (.exit 0) (x111_0_0_k0  y0)) := (vst111_0_0 N (impl_Table_influence N) (impl_Table_influences_l0 N) v0 v1 v2 v3 v4 rec_ K).trans (t_impl_Table_influences_l0b N  v0 v1 v2 v3 v4 (fun v0 v1 v2 v3 v4 => rec_ (h111_0_0  v0 v1 v2 v3 v4)) (fun y0 => K (.exit 0) (x111_0_0_k0  y0))).symm
theorem ro111_0_0 {β : Type} (N : Nat)  (K : Exit → St → Option β) : ∀ (F : Nat) (v0 : Int) (v1 : Int) (v2 : Int) (v3 : Int) (v4 : List Int), (lp Try.f111 0).rounds lay (E111 N) (retMask Try.f111) F (h111_0_0  v0 v1 v2 v3 v4) K = impl_Table_influences_l0 N  F v0 v1 v2 v3 v4 (fun y0 => K (.exit 0) (x111_0_0_k0  y0)) := by
  intro F
  induction F with
  | zero => intros; rfl
  | succ F ih =>
    intros
    rw [rounds_next]
    refine (st111_0_0 N  _ _ _ _ _ (fun s => (lp Try.f111 0).rounds lay (E111 N) (retMask Try.f111) F s K) K).trans ?_
    simp only [ih]
    rfl
theorem lk111_0 {β : Type} (N : Nat) : lookL (E111 (β := β) N).loops (lp Try.f111 0).id = LS111_0 N := by kernel_rfl
theorem rk111_0 {β : Type} (N : Nat) : RoundsOK lay (E111 (β := β) N) (retMask Try.f111) (lp Try.f111 0) := by
  intro s K r h
  rw [lk111_0] at h
  unfold LS111_0 VLS111_0 at h
  cases hb : shpSt (h111_0_0 0 0 0 0 []) s with
  | true =>
    rw [hb, cond_true] at h
    exact ⟨N, by rw [← shpSt_ref hb, fl111_0_0 s]; exact (ro111_0_0 N  K N (intS (oneA (vT (nx tund s.tmps 9)))) (intS (oneA (vT (nx tund s.tmps 10)))) (intS (nx .und (cellsB (nx .dead s.blks 0)) 0)) (intS (nx .und (cellsB (nx .dead s.blks 0)) 1)) (rInts (rowB_ (nx .dead s.blks 1)))).trans h⟩
  | false =>
  rw [hb, cond_false] at h
  clear hb
  cases h
def BV_impl_Table_influences {β : Type} (N : Nat) (q_impl_Table_influences_l0 : Nat → Int → Int → Int → Int → List Int → (List Int → Option β) → Option β) (a0 : Int) (a1 : Int) (k : List Int → Option β) : Option β :=
(gd ((decide (0 ≤ a0)))
((gd ((decide (a0 ≤ a0)))
((gd ((decide (8 * a0 ≤ 281474976710656)))
(q_impl_Table_influences_l0  N ((((List.replicate (Int.toNat a0) (0 : Int))).length : Int)) 0 a0 a1 ((List.replicate (Int.toNat a0) (0 : Int))) (fun e4_0 =>
k e4_0)))))))
theorem t_impl_Table_influences {β : Type} (N : Nat) (a0 : Int) (a1 : Int) (k : List Int → Option β) : impl_Table_influences N a0 a1 k = BV_impl_Table_influences N (impl_Table_influences_l0 N) a0 a1 k := by
  unfold impl_Table_influences BV_impl_Table_influences
  rfl
theorem ve111_0 {β : Type} (N : Nat) (q_impl_Table_influence : (a0 : Int) → (a1 : Int) → (a2 : Int) → (k : Int → Option β) → Option β) (q_impl_Table_influences_l0 : Nat → Int → Int → Int → Int → List Int → (List Int → Option β) → Option β)  (a0 : Int) (a1 : Int) (K : TV → Option β) : evFn lay (VE111 N q_impl_Table_influence q_impl_Table_influences_l0) Try.f111 [.v (.agg [.int .i64 a0, .int .i64 a1])] K = BV_impl_Table_influences N q_impl_Table_influences_l0 a0 a1 (fun z2 => K (.v (.one (.sl 3 (.ints .i64 z2))))) := by kernel_rfl
theorem e111_0 {β : Type} (N : Nat)  (a0 : Int) (a1 : Int) (K : TV → Option β) : evFn lay (E111 N) Try.f111 [.v (.agg [.int .i64 a0, .int .i64 a1])] K = impl_Table_influences N a0 a1 (fun z2 => K (.v (.one (.sl 3 (.ints .i64 z2))))) := (ve111_0 N (impl_Table_influence N) (impl_Table_influences_l0 N) a0 a1 K).trans (t_impl_Table_influences N a0 a1 (fun z2 => K (.v (.one (.sl 3 (.ints .i64 z2)))))).symm
theorem o111 {β : Type} (N : Nat) : SpecOK (β := β) Try.prog 111 (S111 N) := by
  refine spec_of lay_ok mixed (E := E111 N) (specs_loops (specs_cons (o78 N) specs_nil)) muts_nil gs_nil Try.func111 (by kernel_rfl) 1 (by kernel_rfl) ⟨trivial, rk111_0 N⟩ fun args K r h => ?_
  unfold S111 VS111 at h
  split at h
  · exact (e111_0 N _ _ _).trans h
  · cases h
def VS62 {β : Type} (N : Nat) (q_impl_Table_kept : (a0 : Int) → (a1 : Int) → (k : Int → Int → Int → List Int → Option β) → Option β) : Rv.Spec β := fun args K => match args with
  | [.v (.agg [.int .i64 a0, .int .i64 a1])] => q_impl_Table_kept a0 a1 (fun z2 z3 z4 z5 => K (.v (.agg [.int .i64 z2, .int .i64 z3, .int .i64 z4, .sl 3 (.ints .i64 z5)])))
  | _ => none
def S62 {β : Type} (N : Nat) : Rv.Spec β := VS62 N (impl_Table_kept N)
def VE62 {β : Type} (N : Nat) (q_impl_ones : (a0 : Int) → (k : Int → Option β) → Option β) (q_impl_Table_influences : (a0 : Int) → (a1 : Int) → (k : List Int → Option β) → Option β) : Env β := ⟨[(64, VS64 N q_impl_ones), (111, VS111 N q_impl_Table_influences)], [], [], []⟩
def E62 {β : Type} (N : Nat) : Env β := VE62 N (impl_ones N) (impl_Table_influences N)
def BV_impl_Table_kept {β : Type} (N : Nat) (q_impl_ones : (a0 : Int) → (k : Int → Option β) → Option β) (q_impl_Table_influences : (a0 : Int) → (a1 : Int) → (k : List Int → Option β) → Option β) (a0 : Int) (a1 : Int) (k : Int → Int → Int → List Int → Option β) : Option β :=
q_impl_ones a1 fun r6 =>
q_impl_Table_influences a0 a1 fun r7 =>
k a0 a1 r6 r7
theorem t_impl_Table_kept {β : Type} (N : Nat) (a0 : Int) (a1 : Int) (k : Int → Int → Int → List Int → Option β) : impl_Table_kept N a0 a1 k = BV_impl_Table_kept N (impl_ones N) (impl_Table_influences N) a0 a1 k := by
  unfold impl_Table_kept BV_impl_Table_kept
  rfl
theorem ve62_0 {β : Type} (N : Nat) (q_impl_ones : (a0 : Int) → (k : Int → Option β) → Option β) (q_impl_Table_influences : (a0 : Int) → (a1 : Int) → (k : List Int → Option β) → Option β)  (a0 : Int) (a1 : Int) (K : TV → Option β) : evFn lay (VE62 N q_impl_ones q_impl_Table_influences) Try.f62 [.v (.agg [.int .i64 a0, .int .i64 a1])] K = BV_impl_Table_kept N q_impl_ones q_impl_Table_influences a0 a1 (fun z2 z3 z4 z5 => K (.v (.agg [.int .i64 z2, .int .i64 z3, .int .i64 z4, .sl 3 (.ints .i64 z5)]))) := by kernel_rfl
theorem e62_0 {β : Type} (N : Nat)  (a0 : Int) (a1 : Int) (K : TV → Option β) : evFn lay (E62 N) Try.f62 [.v (.agg [.int .i64 a0, .int .i64 a1])] K = impl_Table_kept N a0 a1 (fun z2 z3 z4 z5 => K (.v (.agg [.int .i64 z2, .int .i64 z3, .int .i64 z4, .sl 3 (.ints .i64 z5)]))) := (ve62_0 N (impl_ones N) (impl_Table_influences N) a0 a1 K).trans (t_impl_Table_kept N a0 a1 (fun z2 z3 z4 z5 => K (.v (.agg [.int .i64 z2, .int .i64 z3, .int .i64 z4, .sl 3 (.ints .i64 z5)])))).symm
theorem o62 {β : Type} (N : Nat) : SpecOK (β := β) Try.prog 62 (S62 N) := by
  refine spec_of lay_ok mixed (E := E62 N) (specs_loops (specs_cons (o64 N) (specs_cons (o111 N) specs_nil))) muts_nil gs_nil Try.func62 (by kernel_rfl) 0 (by kernel_rfl) trivial fun args K r h => ?_
  unfold S62 VS62 at h
  split at h
  · exact (e62_0 N _ _ _).trans h
  · cases h
def VS72 {β : Type} (N : Nat) (q_slices_Equal_Sint_int : (a0 : List Int) → (a1 : List Int) → (k : Bool → Option β) → Option β) : Rv.Spec β := fun args K => match args with
  | [.v (.one (.sl 3 (.ints .i64 a0))), .v (.one (.sl 3 (.ints .i64 a1)))] => q_slices_Equal_Sint_int a0 a1 (fun z2 => K (.v (.one (.bool z2))))
  | _ => none
def S72 {β : Type} (N : Nat) : Rv.Spec β := VS72 N (slices_Equal_Sint_int N)
def h72_0_0  (v0 : List Int) (v1 : List Int) (v2 : Int) (v3 : Int) : St := ⟨.v (.one (.sl 3 (.ints .i64 v0))) :: .v (.one (.sl 3 (.ints .i64 v1))) :: .v (.one .und) :: .v (.one .und) :: .v (.one .und) :: .v (.one .und) :: .v (.one .und) :: .v (.one .und) :: .v (.one .und) :: .v (.one .und) :: .v (.one .und) :: .v (.one .und) :: .v (.one (.int .i64 v2)) :: .v (.one (.int .i64 v3)) :: .v (.one .und) :: .v (.one .und) :: .v (.one .und) :: .v (.one .und) :: .v (.one .und) :: .v (.one .und) :: .v (.one .und) :: .v (.one .und) :: .v (.one .und) :: .v (.one .und) :: .v (.one .und) :: .v (.one .und) :: [], []⟩
def x72_0_0_k0  (y0 : Bool) : St := ⟨.v (.one .und) :: .v (.one .und) :: .v (.one .und) :: .v (.one .und) :: .v (.one (.bool y0)) :: .v (.one .und) :: .v (.one .und) :: .v (.one .und) :: .v (.one .und) :: .v (.one .und) :: .v (.one .und) :: .v (.one .und) :: .v (.one .und) :: .v (.one .und) :: .v (.one .und) :: .v (.one .und) :: .v (.one .und) :: .v (.one .und) :: .v (.one .und) :: .v (.one .und) :: .v (.one .und) :: .v (.one .und) :: .v (.one .und) :: .v (.one .und) :: .v (.one .und) :: .v (.one .und) :: [], []⟩
def x72_0_0_k1   : St := ⟨.v (.one .und) :: .v (.one .und) :: .v (.one .und) :: .v (.one .und) :: .v (.one .und) :: .v (.one .und) :: .v (.one .und) :: .v (.one .und) :: .v (.one .und) :: .v (.one .und) :: .v (.one .und) :: .v (.one .und) :: .v (.one .und) :: .v (.one .und) :: .v (.one .und) :: .v (.one .und) :: .v (.one .und) :: .v (.one .und) :: .v (.one .und) :: .v (.one .und) :: .v (.one .und) :: .v (.one .und) :: .v (.one .und) :: .v (.one .und) :: .v (.one .und) :: .v (.one .und) :: [], []⟩
theorem fl72_0_0 (s : St) : refSt (h72_0_0 [] [] 0 0) s = h72_0_0 (rInts (rowV (oneA (vT (nx tund s.tmps 0))))) (rInts (rowV (oneA (vT (nx tund s.tmps 1))))) (intS (oneA (vT (nx tund s.tmps 12)))) (intS (oneA (vT (nx tund s.tmps 13)))) := by kernel_rfl
def VLS72_0 {β : Type} (N : Nat) (q_slices_Equal_Sint_int_l0 : Nat → List Int → List Int → Int → Int → (Bool → Option β) → (Option β) → Option β) : LSpec β := fun s K => cond (shpSt (h72_0_0 [] [] 0 0) s) ((fun (v0 : List Int) (v1 : List Int) (v2 : Int) (v3 : Int) => q_slices_Equal_Sint_int_l0  N v0 v1 v2 v3 (fun y0 => K .ret (x72_0_0_k0  y0)) (K (.exit 0) (x72_0_0_k1  ))) (rInts (rowV (oneA (vT (nx tund s.tmps 0))))) (rInts (rowV (oneA (vT (nx tund s.tmps 1))))) (intS (oneA (vT (nx tund s.tmps 12)))) (intS (oneA (vT (nx tund s.tmps 13))))) (none)
def LS72_0 {β : Type} (N : Nat) : LSpec β := VLS72_0 N (slices_Equal_Sint_int_l0 N)
def VE72 {β : Type} (N : Nat) (q_slices_Equal_Sint_int_l0 : Nat → List Int → List Int → Int → Int → (Bool → Option β) → (Option β) → Option β) : Env β := ⟨[], [], [(0, VLS72_0 N q_slices_Equal_Sint_int_l0)], []⟩
def E72 {β : Type} (N : Nat) : Env β := VE72 N (slices_Equal_Sint_int_l0 N)
def BV_slices_Equal_Sint_int_l0b {β : Type} (N : Nat)  (v0 : List Int) (v1 : List Int) (v2 : Int) (v3 : Int) (rec_ : List Int → List Int → Int → Int → Option β) (k0 : Bool → Option β) (k1 : Option β) : Option β :=
(cond ((decide (v3 < v2)))
((gd ((decide (0 ≤ v3)))
((gd ((decide (v3 < (v0.length : Int))))
((gd ((decide (0 ≤ v3)))
((gd ((decide (v3 < (v1.length : Int))))
((cond (((rd 0 v0 v3) != (rd 0 v1 v3)))
(k0 false)
(rec_ v0 v1 v2 ((w64 (v3 + 1))))))))))))))
(k1 ))
theorem t_slices_Equal_Sint_int_l0b {β : Type} (N : Nat)  (v0 : List Int) (v1 : List Int) (v2 : Int) (v3 : Int) (rec_ : List Int → List Int → Int → Int → Option β) (k0 : Bool → Option β) (k1 : Option β) : slices_Equal_Sint_int_l0b N v0 v1 v2 v3 rec_ k0 k1 = BV_slices_Equal_Sint_int_l0b N v0 v1 v2 v3 rec_ k0 k1 := by
  unfold slices_Equal_Sint_int_l0b BV_slices_Equal_Sint_int_l0b
  rfl
theorem vst72_0_0 {β : Type} (N : Nat) (q_slices_Equal_Sint_int_l0 : Nat → List Int → List Int → Int → Int → (Bool → Option β) → (Option β) → Option β)  (v0 : List Int) (v1 : List Int) (v2 : Int) (v3 : Int) (rec_ : St → Option β) (K : Exit → St → Option β) :
    ev lay (VE72 N q_slices_Equal_Sint_int_l0) (retMask Try.f72) (lp Try.f72 0).body (lp Try.f72 0).ex ((lp Try.f72 0).lv (retMask Try.f72)) (h72_0_0  v0 v1 v2 v3) (nextR (fun s' => rec_ (s'.tidy ((lp Try.f72 0).lv (retMask Try.f72)))) K) = BV_slices_Equal_Sint_int_l0b N  v0 v1 v2 v3 (fun v0 v1 v2 v3 => rec_ (h72_0_0  v0 v1 v2 v3)) (fun y0 => K .ret (x72_0_0_k0  y0)) (K (.exit 0) (x72_0_0_k1  )) := by kernel_rfl
theorem st72_0_0 {β : Type} (N : Nat)  (v0 : List Int) (v1 : List Int) (v2 : Int) (v3 : Int) (rec_ : St → Option β) (K : Exit → St → Option β) :
    ev lay (E72 N) (retMask Try.f72) (lp Try.f72 0).body (lp Try.f72 0).ex ((lp Try.f72 0).lv (retMask Try.f72)) (h72_0_0  v0 v1 v2 v3) (nextR (fun s' => rec_ (s'.tidy ((lp Try.f72 0).lv (retMask Try.f72)))) K) = slices_Equal_Sint_int_l0b N  v0 v1 v2 v3 (fun v0 v1 v2 v3 => rec_ (h72_0_0  v0 v1 v2 v3)) (fun y0 => K .ret (x72_0_0_k0  y0)) (K (.exit 0) (x72_0_0_k1  )) := (vst72_0_0 N (slices_Equal_Sint_int_l0 N) v0 v1 v2 v3 rec_ K).trans (t_slices_Equal_Sint_int_l0b N  v0 v1 v2 v3 (fun v0 v1 v2 v3 => rec_ (h72_0_0  v0 v1 v2 v3)) (fun y0 => K .ret (x72_0_0_k0  y0)) (K (.exit 0) (x72_0_0_k1  ))).symm
theorem ro72_0_0 {β : Type} (N : Nat)  (K : Exit → St → Option β) : ∀ (F : Nat) (v0 : List Int) (v1 : List Int) (v2 : Int) (v3 : Int), (lp Try.f72 0).rounds lay (E72 N) (retMask Try.f72) F (h72_0_0  v0 v1 v2 v3) K = slices_Equal_Sint_int_l0 N  F v0 v1 v2 v3 (fun y0 => K .ret (x72_0_0_k0  y0)) (K (.exit 0) (x72_0_0_k1  )) := by
  intro F
  induction F with
  | zero => intros; rfl
  | succ F ih =>
    intros
    rw [rounds_next]
    refine (st72_0_0 N  _ _ _ _ (fun s => (lp Try.f72 0).rounds lay (E72 N) (retMask Try.f72) F s K) K).trans ?_
    simp only [ih]
    rfl
theorem lk72_0 {β : Type} (N : Nat) : lookL (E72 (β := β) N).loops (lp Try.f72 0).id = LS72_0 N := by kernel_rfl
theorem rk72_0 {β : Type} (N : Nat) : RoundsOK lay (E72 (β := β) N) (retMask Try.f72) (lp Try.f72 0) := by
  intro s K r h
  rw [lk72_0] at h
  unfold LS72_0 VLS72_0 at h
  cases hb : shpSt (h72_0_0 [] [] 0 0) s with
  | true =>
    rw [hb, cond_true] at h
    exact ⟨N, by rw [← shpSt_ref hb, fl72_0_0 s]; exact (ro72_0_0 N  K N (rInts (rowV (oneA (vT (nx tund s.tmps 0))))) (rInts (rowV (oneA (vT (nx tund s.tmps 1))))) (intS (oneA (vT (nx tund s.tmps 12)))) (intS (oneA (vT (nx tund s.tmps 13))))).trans h⟩
  | false =>
  rw [hb, cond_false] at h
  clear hb
  cases h
def BV_slices_Equal_Sint_int {β : Type} (N : Nat) (q_slices_Equal_Sint_int_l0 : Nat → List Int → List Int → Int → Int → (Bool → Option β) → (Option β) → Option β) (a0 : List Int) (a1 : List Int) (k : Bool → Option β) : Option β :=
(cond (((a0.length : Int) != (a1.length : Int)))
(k false)
(q_slices_Equal_Sint_int_l0  N a0 a1 ((a0.length : Int)) 0 (fun e3_0 =>
k e3_0) (k true)))
theorem t_slices_Equal_Sint_int {β : Type} (N : Nat) (a0 : List Int) (a1 : List Int) (k : Bool → Option β) : slices_Equal_Sint_int N a0 a1 k = BV_slices_Equal_Sint_int N (slices_Equal_Sint_int_l0 N) a0 a1 k := by
  unfold slices_Equal_Sint_int BV_slices_Equal_Sint_int
  rfl
theorem ve72_0 {β : Type} (N : Nat) (q_slices_Equal_Sint_int_l0 : Nat → List Int → List Int → Int → Int → (Bool → Option β) → (Option β) → Option β)  (a0 : List Int) (a1 : List Int) (K : TV → Option β) : evFn lay (VE72 N q_slices_Equal_Sint_int_l0) Try.f72 [.v (.one (.sl 3 (.ints .i64 a0))), .v (.one (.sl 3 (.ints .i64 a1)))] K = BV_slices_Equal_Sint_int N q_slices_Equal_Sint_int_l0 a0 a1 (fun z2 => K (.v (.one (.bool z2)))) := by kernel_rfl
theorem e72_0 {β : Type} (N : Nat)  (a0 : List Int) (a1 : List Int) (K : TV → Option β) : evFn lay (E72 N) Try.f72 [.v (.one (.sl 3 (.ints .i64 a0))), .v (.one (.sl 3 (.ints .i64 a1)))] K = slices_Equal_Sint_int N a0 a1 (fun z2 => K (.v (.one (.bool z2)))) := (ve72_0 N (slices_Equal_Sint_int_l0 N) a0 a1 K).trans (t_slices_Equal_Sint_int N a0 a1 (fun z2 => K (.v (.one (.bool z2))))).symm
theorem o72 {β : Type} (N : Nat) : SpecOK (β := β) Try.prog 72 (S72 N) := by
  refine spec_of lay_ok mixed (E := E72 N) (specs_loops specs_nil) muts_nil gs_nil Try.func72 (by kernel_rfl) 1 (by kernel_rfl) ⟨trivial, rk72_0 N⟩ fun args K r h => ?_
  unfold S72 VS72 at h
  split at h
  · exact (e72_0 N _ _ _).trans h
  · cases h
def VS24 {β : Type} (N : Nat) (q_impl_EqualKept : (a0 : Int) → (a1 : Int) → (a2 : Int) → (a3 : List Int) → (a4 : Int) → (a5 : Int) → (a6 : Int) → (a7 : List Int) → (k : Bool → Option β) → Option β) : Rv.Spec β := fun args K => match args with
  | [.v (.agg [.int .i64 a0, .int .i64 a1, .int .i64 a2, .sl 3 (.ints .i64 a3)]), .v (.agg [.int .i64 a4, .int .i64 a5, .int .i64 a6, .sl 3 (.ints .i64 a7)])] => q_impl_EqualKept a0 a1 a2 a3 a4 a5 a6 a7 (fun z8 => K (.v (.one (.bool z8))))
  | _ => none
def S24 {β : Type} (N : Nat) : Rv.Spec β := VS24 N (impl_EqualKept N)
def VE24 {β : Type} (N : Nat) (q_slices_Equal_Sint_int : (a0 : List Int) → (a1 : List Int) → (k : Bool → Option β) → Option β) : Env β := ⟨[(72, VS72 N q_slices_Equal_Sint_int)], [], [], []⟩
def E24 {β : Type} (N : Nat) : Env β := VE24 N (slices_Equal_Sint_int N)
def BV_impl_EqualKept {β : Type} (N : Nat) (q_slices_Equal_Sint_int : (a0 : List Int) → (a1 : List Int) → (k : Bool → Option β) → Option β) (a0 : Int) (a1 : Int) (a2 : Int) (a3 : List Int) (a4 : Int) (a5 : Int) (a6 : Int) (a7 : List Int) (k : Bool → Option β) : Option β :=
(cond (((a0 == a4) && (a1 == a5)))
((cond ((a2 == a6))
(q_slices_Equal_Sint_int a3 a7 fun r9 =>
k r9)
(k false)))
(k false))
theorem t_impl_EqualKept {β : Type} (N : Nat) (a0 : Int) (a1 : Int) (a2 : Int) (a3 : List Int) (a4 : Int) (a5 : Int) (a6 : Int) (a7 : List Int) (k : Bool → Option β) : impl_EqualKept N a0 a1 a2 a3 a4 a5 a6 a7 k = BV_impl_EqualKept N (slices_Equal_Sint_int N) a0 a1 a2 a3 a4 a5 a6 a7 k := by
  unfold impl_EqualKept BV_impl_EqualKept
  rfl
theorem ve24_0 {β : Type} (N : Nat) (q_slices_Equal_Sint_int : (a0 : List Int) → (a1 : List Int) → (k : Bool → Option β) → Option β)  (a0 : Int) (a1 : Int) (a2 : Int) (a3 : List Int) (a4 : Int) (a5 : Int) (a6 : Int) (a7 : List Int) (K : TV → Option β) : evFn lay (VE24 N q_slices_Equal_Sint_int) Try.f24 [.v (.agg [.int .i64 a0, .int .i64 a1, .int .i64 a2, .sl 3 (.ints .i64 a3)]), .v (.agg [.int .i64 a4, .int .i64 a5, .int .i64 a6, .sl 3 (.ints .i64 a7)])] K = BV_impl_EqualKept N q_slices_Equal_Sint_int a0 a1 a2 a3 a4 a5 a6 a7 (fun z8 => K (.v (.one (.bool z8)))) := by kernel_rfl
theorem e24_0 {β : Type} (N : Nat)  (a0 : Int) (a1 : Int) (a2 : Int) (a3 : List Int) (a4 : Int) (a5 : Int) (a6 : Int) (a7 : List Int) (K : TV → Option β) : evFn lay (E24 N) Try.f24 [.v (.agg [.int .i64 a0, .int .i64 a1, .int .i64 a2, .sl 3 (.ints .i64 a3)]), .v (.agg [.int .i64 a4, .int .i64 a5, .int .i64 a6, .sl 3 (.ints .i64 a7)])] K = impl_EqualKept N a0 a1 a2 a3 a4 a5 a6 a7 (fun z8 => K (.v (.one (.bool z8)))) := (ve24_0 N (slices_Equal_Sint_int N) a0 a1 a2 a3 a4 a5 a6 a7 K).trans (t_impl_EqualKept N a0 a1 a2 a3 a4 a5 a6 a7 (fun z8 => K (.v (.one (.bool z8))))).symm
theorem o24 {β : Type} (N : Nat) : SpecOK (β := β) Try.prog 24 (S24 N) := by
  refine spec_of lay_ok mixed (E := E24 N) (specs_loops (specs_cons (o72 N) specs_nil)) muts_nil gs_nil Try.func24 (by kernel_rfl) 0 (by kernel_rfl) trivial fun args K r h => ?_
  unfold S24 VS24 at h
  split at h
  · exact (e24_0 N _ _ _ _ _ _ _ _ _).trans h
  · cases h
def VS14 {β : Type} (N : Nat) (q_impl_IsKept : (a0 : Int) → (a1 : Int) → (a2 : Int) → (a3 : List Int) → (k : Bool → Option β) → Option β) : Rv.Spec β := fun args K => match args with
  | [.v (.agg [.int .i64 a0, .int .i64 a1, .int .i64 a2, .sl 3 (.ints .i64 a3)])] => q_impl_IsKept a0 a1 a2 a3 (fun z4 => K (.v (.one (.bool z4))))
  | _ => none
def S14 {β : Type} (N : Nat) : Rv.Spec β := VS14 N (impl_IsKept N)
def VE14 {β : Type} (N : Nat) (q_impl_IsTable : (a0 : Int) → (a1 : Int) → (k : Bool → Option β) → Option β) (q_impl_Table_kept : (a0 : Int) → (a1 : Int) → (k : Int → Int → Int → List Int → Option β) → Option β) (q_impl_EqualKept : (a0 : Int) → (a1 : Int) → (a2 : Int) → (a3 : List Int) → (a4 : Int) → (a5 : Int) → (a6 : Int) → (a7 : List Int) → (k : Bool → Option β) → Option β) : Env β := ⟨[(61, VS61 N q_impl_IsTable), (62, VS62 N q_impl_Table_kept), (24, VS24 N q_impl_EqualKept)], [], [], []⟩
def E14 {β : Type} (N : Nat) : Env β := VE14 N (impl_IsTable N) (impl_Table_kept N) (impl_EqualKept N)
def BV_impl_IsKept {β : Type} (N : Nat) (q_impl_IsTable : (a0 : Int) → (a1 : Int) → (k : Bool → Option β) → Option β) (q_impl_Table_kept : (a0 : Int) → (a1 : Int) → (k : Int → Int → Int → List Int → Option β) → Option β) (q_impl_EqualKept : (a0 : Int) → (a1 : Int) → (a2 : Int) → (a3 : List Int) → (a4 : Int) → (a5 : Int) → (a6 : Int) → (a7 : List Int) → (k : Bool → Option β) → Option β) (a0 : Int) (a1 : Int) (a2 : Int) (a3 : List Int) (k : Bool → Option β) : Option β :=
q_impl_IsTable a0 a1 fun r5 =>
(cond r5
(q_impl_Table_kept a0 a1 fun r6 r7 r8 r9 =>
q_impl_EqualKept a0 a1 a2 a3 r6 r7 r8 r9 fun r10 =>
k r10)
(k false))
theorem t_impl_IsKept {β : Type} (N : Nat) (a0 : Int) (a1 : Int) (a2 : Int) (a3 : List Int) (k : Bool → Option β) : impl_IsKept N a0 a1 a2 a3 k = BV_impl_IsKept N (impl_IsTable N) (impl_Table_kept N) (impl_EqualKept N) a0 a1 a2 a3 k := by
  unfold impl_IsKept BV_impl_IsKept
  rfl
theorem ve14_0 {β : Type} (N : Nat) (q_impl_IsTable : (a0 : Int) → (a1 : Int) → (k : Bool → Option β) → Option β) (q_impl_Table_kept : (a0 : Int) → (a1 : Int) → (k : Int → Int → Int → List Int → Option β) → Option β) (q_impl_EqualKept : (a0 : Int) → (a1 : Int) → (a2 : Int) → (a3 : List Int) → (a4 : Int) → (a5 : Int) → (a6 : Int) → (a7 : List Int) → (k : Bool → Option β) → Option β)  (a0 : Int) (a1 : Int) (a2 : Int) (a3 : List Int) (K : TV → Option β) : evFn lay (VE14 N q_impl_IsTable q_impl_Table_kept q_impl_EqualKept) Try.f14 [.v (.agg [.int .i64 a0, .int .i64 a1, .int .i64 a2, .sl 3 (.ints .i64 a3)])] K = BV_impl_IsKept N q_impl_IsTable q_impl_Table_kept q_impl_EqualKept a0 a1 a2 a3 (fun z4 => K (.v (.one (.bool z4)))) := by kernel_rfl
theorem e14_0 {β : Type} (N : Nat)  (a0 : Int) (a1 : Int) (a2 : Int) (a3 : List Int) (K : TV → Option β) : evFn lay (E14 N) Try.f14 [.v (.agg [.int .i64 a0, .int .i64 a1, .int .i64 a2, .sl 3 (.ints .i64 a3)])] K = impl_IsKept N a0 a1 a2 a3 (fun z4 => K (.v (.one (.bool z4)))) := (ve14_0 N (impl_IsTable N) (impl_Table_kept N) (impl_EqualKept N) a0 a1 a2 a3 K).trans (t_impl_IsKept N a0 a1 a2 a3 (fun z4 => K (.v (.one (.bool z4))))).symm
theorem o14 {β : Type} (N : Nat) : SpecOK (β := β) Try.prog 14 (S14 N) := by
  refine spec_of lay_ok mixed (E := E14 N) (specs_loops (specs_cons (o61 N) (specs_cons (o62 N) (specs_cons (o24 N) specs_nil)))) muts_nil gs_nil Try.func14 (by kernel_rfl) 0 (by kernel_rfl) trivial fun args K r h => ?_
  unfold S14 VS14 at h
  split at h
  · exact (e14_0 N _ _ _ _ _).trans h
  · cases h
def VS67 {β : Type} (N : Nat) (q_impl_isInput : (a0 : Int) → (a1 : Int) → (k : Bool → Option β) → Option β) : Rv.Spec β := fun args K => match args with
  | [.v (.one (.int .i64 a0)), .v (.one (.int .i64 a1))] => q_impl_isInput a0 a1 (fun z2 => K (.v (.one (.bool z2))))
  | _ => none
def S67 {β : Type} (N : Nat) : Rv.Spec β := VS67 N (impl_isInput N)
def VE67 {β : Type} (N : Nat) : Env β := ⟨[], [], [], []⟩
def E67 {β : Type} (N : Nat) : Env β := VE67 N
def BV_impl_isInput {β : Type} (N : Nat) (a0 : Int) (a1 : Int) (k : Bool → Option β) : Option β :=
(cond ((decide (a1 ≥ 0)))
((gd ((decide (0 ≤ a0)))
(k ((decide (a1 < (shlI .i64 1 a0)))))))
(k false))
theorem t_impl_isInput {β : Type} (N : Nat) (a0 : Int) (a1 : Int) (k : Bool → Option β) : impl_isInput N a0 a1 k = BV_impl_isInput N a0 a1 k := by
  unfold impl_isInput BV_impl_isInput
  rfl
theorem ve67_0 {β : Type} (N : Nat)  (a0 : Int) (a1 : Int) (K : TV → Option β) : evFn lay (VE67 N) Try.f67 [.v (.one (.int .i64 a0)), .v (.one (.int .i64 a1))] K = BV_impl_isInput N a0 a1 (fun z2 => K (.v (.one (.bool z2)))) := by kernel_rfl
theorem e67_0 {β : Type} (N : Nat)  (a0 : Int) (a1 : Int) (K : TV → Option β) : evFn lay (E67 N) Try.f67 [.v (.one (.int .i64 a0)), .v (.one (.int .i64 a1))] K = impl_isInput N a0 a1 (fun z2 => K (.v (.one (.bool z2)))) := (ve67_0 N a0 a1 K).trans (t_impl_isInput N a0 a1 (fun z2 => K (.v (.one (.bool z2))))).symm
theorem o67 {β : Type} (N : Nat) : SpecOK (β := β) Try.prog 67 (S67 N) := by
  refine spec_of lay_ok mixed (E := E67 N) (specs_loops specs_nil) muts_nil gs_nil Try.func67 (by kernel_rfl) 0 (by kernel_rfl) trivial fun args K r h => ?_
  unfold S67 VS67 at h
  split at h
  · exact (e67_0 N _ _ _).trans h
  · cases h
end Go.Proofs.Ytdkjnadhgdneaaa
