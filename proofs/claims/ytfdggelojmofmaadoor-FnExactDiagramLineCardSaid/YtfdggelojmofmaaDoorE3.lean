/- The functions that the claims reach answer as their texts do. -/
import Derived.Test.YtfdggelojmofmaaDoorE2
namespace Go.Proofs.YtfdggelojmofmaaDoor
open Go.Rv
set_option maxRecDepth 100000
set_option maxHeartbeats 2000000
set_option linter.unusedVariables false
def VS194 {β : Type} (N : Nat) (q_impl_makeTable : (a0 : Int) → (a1 : (Int → (Bool → Option β) → Option β)) → (k : Int → Int → Option β) → Option β) (q_impl_Table_restrict_1 : (a0 : Int) → (c0 : Int) → (c1 : Int) → (c2 : Int) → (c3 : Int) → (k : Bool → Option β) → Option β) (q_impl_Table_stuck_1 : (a0 : Int) → (c0 : Int) → (c1 : Int) → (c2 : Int) → (c3 : Int) → (k : Bool → Option β) → Option β) : Rv.Spec β := fun args K => match args with
  | [.v (.one (.int .i64 a0)), .v (.one (.dfn 195 [([.int .i64 q0, .int .i64 q1], 0), ([.int .i64 q2], 0), ([.int .i64 q3], 0)]))] => q_impl_makeTable a0 (fun x0 k => q_impl_Table_restrict_1 x0 q0 q1 q2 q3 k) (fun z2 z3 => K (.v (.agg [.int .i64 z2, .int .i64 z3])))
  | [.v (.one (.int .i64 a0)), .v (.one (.dfn 226 [([.int .i64 q0, .int .i64 q1], 0), ([.int .i64 q2], 0), ([.int .i64 q3], 0)]))] => q_impl_makeTable a0 (fun x0 k => q_impl_Table_stuck_1 x0 q0 q1 q2 q3 k) (fun z2 z3 => K (.v (.agg [.int .i64 z2, .int .i64 z3])))
  | _ => none
def S194 {β : Type} (N : Nat) : Rv.Spec β := VS194 N (impl_makeTable N) (impl_Table_restrict_1 N) (impl_Table_stuck_1 N)
def h194_0_0 (q0 : Int) (q1 : Int) (q2 : Int) (q3 : Int) (v0 : Int) (v1 : Int) (v2 : Int) (v3 : Int) (v4 : Int) (v5 : Int) : St := ⟨.v (.one .und) :: .v (.one (.dfn 195 [([.int .i64 q0, .int .i64 q1], 0), ([.int .i64 q2], 0), ([.int .i64 q3], 0)])) :: .v (.one .und) :: .v (.one .und) :: .v (.one (.ptr 0 0)) :: .v (.one (.ptr 1 0)) :: .v (.one .und) :: .v (.one .und) :: .v (.one .und) :: .v (.one .und) :: .v (.one (.int .i64 v0)) :: .v (.one (.int .i64 v1)) :: .v (.one .und) :: .v (.one .und) :: .v (.one .und) :: .v (.one .und) :: .v (.one .und) :: .v (.one .und) :: .v (.one .und) :: .v (.one .und) :: .v (.one .und) :: .v (.one .und) :: .v (.one .und) :: .v (.one .und) :: .v (.one .und) :: [], [.cells 24 [.int .i64 v2, .int .i64 v3], .cells 24 [.int .i64 v4, .int .i64 v5]]⟩
def x194_0_0_k0 (q0 : Int) (q1 : Int) (q2 : Int) (q3 : Int) (y0 : Int) (y1 : Int) (y2 : Int) (y3 : Int) : St := ⟨.v (.one .und) :: .v (.one .und) :: .v (.one .und) :: .v (.one .und) :: .v (.one (.ptr 0 0)) :: .v (.one (.ptr 1 0)) :: .v (.one .und) :: .v (.one .und) :: .v (.one .und) :: .v (.one .und) :: .v (.one .und) :: .v (.one .und) :: .v (.one .und) :: .v (.one .und) :: .v (.one .und) :: .v (.one .und) :: .v (.one .und) :: .v (.one .und) :: .v (.one .und) :: .v (.one .und) :: .v (.one .und) :: .v (.one .und) :: .v (.one .und) :: .v (.one .und) :: .v (.one .und) :: [], [.cells 24 [.int .i64 y0, .int .i64 y1], .cells 24 [.int .i64 y2, .int .i64 y3]]⟩
def h194_0_1 (q0 : Int) (q1 : Int) (q2 : Int) (q3 : Int) (v0 : Int) (v1 : Int) (v2 : Int) (v3 : Int) (v4 : Int) (v5 : Int) : St := ⟨.v (.one .und) :: .v (.one (.dfn 226 [([.int .i64 q0, .int .i64 q1], 0), ([.int .i64 q2], 0), ([.int .i64 q3], 0)])) :: .v (.one .und) :: .v (.one .und) :: .v (.one (.ptr 0 0)) :: .v (.one (.ptr 1 0)) :: .v (.one .und) :: .v (.one .und) :: .v (.one .und) :: .v (.one .und) :: .v (.one (.int .i64 v0)) :: .v (.one (.int .i64 v1)) :: .v (.one .und) :: .v (.one .und) :: .v (.one .und) :: .v (.one .und) :: .v (.one .und) :: .v (.one .und) :: .v (.one .und) :: .v (.one .und) :: .v (.one .und) :: .v (.one .und) :: .v (.one .und) :: .v (.one .und) :: .v (.one .und) :: [], [.cells 24 [.int .i64 v2, .int .i64 v3], .cells 24 [.int .i64 v4, .int .i64 v5]]⟩
def x194_0_1_k0 (q0 : Int) (q1 : Int) (q2 : Int) (q3 : Int) (y0 : Int) (y1 : Int) (y2 : Int) (y3 : Int) : St := ⟨.v (.one .und) :: .v (.one .und) :: .v (.one .und) :: .v (.one .und) :: .v (.one (.ptr 0 0)) :: .v (.one (.ptr 1 0)) :: .v (.one .und) :: .v (.one .und) :: .v (.one .und) :: .v (.one .und) :: .v (.one .und) :: .v (.one .und) :: .v (.one .und) :: .v (.one .und) :: .v (.one .und) :: .v (.one .und) :: .v (.one .und) :: .v (.one .und) :: .v (.one .und) :: .v (.one .und) :: .v (.one .und) :: .v (.one .und) :: .v (.one .und) :: .v (.one .und) :: .v (.one .und) :: [], [.cells 24 [.int .i64 y0, .int .i64 y1], .cells 24 [.int .i64 y2, .int .i64 y3]]⟩
theorem fl194_0_0 (s : St) : refSt (h194_0_0 0 0 0 0 0 0 0 0 0 0) s = h194_0_0 (intF (nx .no (nx ([], 0) (dfnS (oneA (vT (nx tund s.tmps 1)))) 0).1 0)) (intF (nx .no (nx ([], 0) (dfnS (oneA (vT (nx tund s.tmps 1)))) 0).1 1)) (intF (nx .no (nx ([], 0) (dfnS (oneA (vT (nx tund s.tmps 1)))) 1).1 0)) (intF (nx .no (nx ([], 0) (dfnS (oneA (vT (nx tund s.tmps 1)))) 2).1 0)) (intS (oneA (vT (nx tund s.tmps 10)))) (intS (oneA (vT (nx tund s.tmps 11)))) (intS (nx .und (cellsB (nx .dead s.blks 0)) 0)) (intS (nx .und (cellsB (nx .dead s.blks 0)) 1)) (intS (nx .und (cellsB (nx .dead s.blks 1)) 0)) (intS (nx .und (cellsB (nx .dead s.blks 1)) 1)) := by kernel_rfl
theorem fl194_0_1 (s : St) : refSt (h194_0_1 0 0 0 0 0 0 0 0 0 0) s = h194_0_1 (intF (nx .no (nx ([], 0) (dfnS (oneA (vT (nx tund s.tmps 1)))) 0).1 0)) (intF (nx .no (nx ([], 0) (dfnS (oneA (vT (nx tund s.tmps 1)))) 0).1 1)) (intF (nx .no (nx ([], 0) (dfnS (oneA (vT (nx tund s.tmps 1)))) 1).1 0)) (intF (nx .no (nx ([], 0) (dfnS (oneA (vT (nx tund s.tmps 1)))) 2).1 0)) (intS (oneA (vT (nx tund s.tmps 10)))) (intS (oneA (vT (nx tund s.tmps 11)))) (intS (nx .und (cellsB (nx .dead s.blks 0)) 0)) (intS (nx .und (cellsB (nx .dead s.blks 0)) 1)) (intS (nx .und (cellsB (nx .dead s.blks 1)) 0)) (intS (nx .und (cellsB (nx .dead s.blks 1)) 1)) := by kernel_rfl
def VLS194_0 {β : Type} (N : Nat) (q_impl_makeTable_l0 : (a1 : (Int → (Bool → Option β) → Option β)) → Nat → Int → Int → Int → Int → Int → Int → (Int → Int → Int → Int → Option β) → Option β) (q_impl_Table_restrict_1 : (a0 : Int) → (c0 : Int) → (c1 : Int) → (c2 : Int) → (c3 : Int) → (k : Bool → Option β) → Option β) (q_impl_Table_stuck_1 : (a0 : Int) → (c0 : Int) → (c1 : Int) → (c2 : Int) → (c3 : Int) → (k : Bool → Option β) → Option β) : LSpec β := fun s K => cond (shpSt (h194_0_0 0 0 0 0 0 0 0 0 0 0) s) ((fun (q0 : Int) (q1 : Int) (q2 : Int) (q3 : Int) (v0 : Int) (v1 : Int) (v2 : Int) (v3 : Int) (v4 : Int) (v5 : Int) => q_impl_makeTable_l0 (fun x0 k => q_impl_Table_restrict_1 x0 q0 q1 q2 q3 k) N v0 v1 v2 v3 v4 v5 (fun y0 y1 y2 y3 => K (.exit 0) (x194_0_0_k0 q0 q1 q2 q3 y0 y1 y2 y3))) (intF (nx .no (nx ([], 0) (dfnS (oneA (vT (nx tund s.tmps 1)))) 0).1 0)) (intF (nx .no (nx ([], 0) (dfnS (oneA (vT (nx tund s.tmps 1)))) 0).1 1)) (intF (nx .no (nx ([], 0) (dfnS (oneA (vT (nx tund s.tmps 1)))) 1).1 0)) (intF (nx .no (nx ([], 0) (dfnS (oneA (vT (nx tund s.tmps 1)))) 2).1 0)) (intS (oneA (vT (nx tund s.tmps 10)))) (intS (oneA (vT (nx tund s.tmps 11)))) (intS (nx .und (cellsB (nx .dead s.blks 0)) 0)) (intS (nx .und (cellsB (nx .dead s.blks 0)) 1)) (intS (nx .und (cellsB (nx .dead s.blks 1)) 0)) (intS (nx .und (cellsB (nx .dead s.blks 1)) 1))) (cond (shpSt (h194_0_1 0 0 0 0 0 0 0 0 0 0) s) ((fun (q0 : Int) (q1 : Int) (q2 : Int) (q3 : Int) (v0 : Int) (v1 : Int) (v2 : Int) (v3 : Int) (v4 : Int) (v5 : Int) => q_impl_makeTable_l0 (fun x0 k => q_impl_Table_stuck_1 x0 q0 q1 q2 q3 k) N v0 v1 v2 v3 v4 v5 (fun y0 y1 y2 y3 => K (.exit 0) (x194_0_1_k0 q0 q1 q2 q3 y0 y1 y2 y3))) (intF (nx .no (nx ([], 0) (dfnS (oneA (vT (nx tund s.tmps 1)))) 0).1 0)) (intF (nx .no (nx ([], 0) (dfnS (oneA (vT (nx tund s.tmps 1)))) 0).1 1)) (intF (nx .no (nx ([], 0) (dfnS (oneA (vT (nx tund s.tmps 1)))) 1).1 0)) (intF (nx .no (nx ([], 0) (dfnS (oneA (vT (nx tund s.tmps 1)))) 2).1 0)) (intS (oneA (vT (nx tund s.tmps 10)))) (intS (oneA (vT (nx tund s.tmps 11)))) (intS (nx .und (cellsB (nx .dead s.blks 0)) 0)) (intS (nx .und (cellsB (nx .dead s.blks 0)) 1)) (intS (nx .und (cellsB (nx .dead s.blks 1)) 0)) (intS (nx .und (cellsB (nx .dead s.blks 1)) 1))) (none))
def LS194_0 {β : Type} (N : Nat) : LSpec β := VLS194_0 N (impl_makeTable_l0 N) (impl_Table_restrict_1 N) (impl_Table_stuck_1 N)
def VE194 {β : Type} (N : Nat) (q_impl_Table_restrict_1 : (a0 : Int) → (c0 : Int) → (c1 : Int) → (c2 : Int) → (c3 : Int) → (k : Bool → Option β) → Option β) (q_impl_Table_stuck_1 : (a0 : Int) → (c0 : Int) → (c1 : Int) → (c2 : Int) → (c3 : Int) → (k : Bool → Option β) → Option β) (q_impl_makeTable_l0 : (a1 : (Int → (Bool → Option β) → Option β)) → Nat → Int → Int → Int → Int → Int → Int → (Int → Int → Int → Int → Option β) → Option β) : Env β := ⟨[(195, VS195 N q_impl_Table_restrict_1), (226, VS226 N q_impl_Table_stuck_1)], [], [(0, VLS194_0 N q_impl_makeTable_l0 q_impl_Table_restrict_1 q_impl_Table_stuck_1)], [], ⟨[], [], [145], [149, 152, 199]⟩⟩
def E194 {β : Type} (N : Nat) : Env β := VE194 N (impl_Table_restrict_1 N) (impl_Table_stuck_1 N) (impl_makeTable_l0 N)
def BV_impl_makeTable_l0b {β : Type} (N : Nat) (a1 : (Int → (Bool → Option β) → Option β)) (v0 : Int) (v1 : Int) (v2 : Int) (v3 : Int) (v4 : Int) (v5 : Int) (rec_ : Int → Int → Int → Int → Int → Int → Option β) (k0 : Int → Int → Int → Int → Option β) : Option β :=
(cond ((decide (v1 < v0)))
(a1 v1 fun r4 =>
(cond r4
((gd ((decide (0 ≤ v1)))
(rec_ v0 ((w64 (v1 + 1))) v2 v3 v4 ((bits .or .i64 v5 (shlI .i64 1 v1))))))
(rec_ v0 ((w64 (v1 + 1))) v2 v3 v4 v5)))
(k0 v2 v3 v4 v5))
theorem t_impl_makeTable_l0b {β : Type} (N : Nat) (a1 : (Int → (Bool → Option β) → Option β)) (v0 : Int) (v1 : Int) (v2 : Int) (v3 : Int) (v4 : Int) (v5 : Int) (rec_ : Int → Int → Int → Int → Int → Int → Option β) (k0 : Int → Int → Int → Int → Option β) : impl_makeTable_l0b N a1 v0 v1 v2 v3 v4 v5 rec_ k0 = BV_impl_makeTable_l0b N a1 v0 v1 v2 v3 v4 v5 rec_ k0 := by
  unfold impl_makeTable_l0b BV_impl_makeTable_l0b
  rfl
theorem vst194_0_0 {β : Type} (N : Nat) (q_impl_Table_restrict_1 : (a0 : Int) → (c0 : Int) → (c1 : Int) → (c2 : Int) → (c3 : Int) → (k : Bool → Option β) → Option β) (q_impl_Table_stuck_1 : (a0 : Int) → (c0 : Int) → (c1 : Int) → (c2 : Int) → (c3 : Int) → (k : Bool → Option β) → Option β) (q_impl_makeTable_l0 : (a1 : (Int → (Bool → Option β) → Option β)) → Nat → Int → Int → Int → Int → Int → Int → (Int → Int → Int → Int → Option β) → Option β) (q0 : Int) (q1 : Int) (q2 : Int) (q3 : Int) (v0 : Int) (v1 : Int) (v2 : Int) (v3 : Int) (v4 : Int) (v5 : Int) (rec_ : St → Option β) (K : Exit → St → Option β) :
    ev lay (VE194 N q_impl_Table_restrict_1 q_impl_Table_stuck_1 q_impl_makeTable_l0) (retMask Tryd.f194) (lp Tryd.f194 0).body (lp Tryd.f194 0).ex ((lp Tryd.f194 0).lv (retMask Tryd.f194)) (h194_0_0 q0 q1 q2 q3 v0 v1 v2 v3 v4 v5) (nextR (fun s' => rec_ (s'.tidy ((lp Tryd.f194 0).lv (retMask Tryd.f194)))) K) = BV_impl_makeTable_l0b N (fun x0 k => q_impl_Table_restrict_1 x0 q0 q1 q2 q3 k) v0 v1 v2 v3 v4 v5 (fun v0 v1 v2 v3 v4 v5 => rec_ (h194_0_0 q0 q1 q2 q3 v0 v1 v2 v3 v4 v5)) (fun y0 y1 y2 y3 => K (.exit 0) (x194_0_0_k0 q0 q1 q2 q3 y0 y1 y2 y3)) := by kernel_rfl
theorem st194_0_0 {β : Type} (N : Nat) (q0 : Int) (q1 : Int) (q2 : Int) (q3 : Int) (v0 : Int) (v1 : Int) (v2 : Int) (v3 : Int) (v4 : Int) (v5 : Int) (rec_ : St → Option β) (K : Exit → St → Option β) :
    ev lay (E194 N) (retMask Tryd.f194) (lp Tryd.f194 0).body (lp Tryd.f194 0).ex ((lp Tryd.f194 0).lv (retMask Tryd.f194)) (h194_0_0 q0 q1 q2 q3 v0 v1 v2 v3 v4 v5) (nextR (fun s' => rec_ (s'.tidy ((lp Tryd.f194 0).lv (retMask Tryd.f194)))) K) = impl_makeTable_l0b N (fun x0 k => impl_Table_restrict_1 N x0 q0 q1 q2 q3 k) v0 v1 v2 v3 v4 v5 (fun v0 v1 v2 v3 v4 v5 => rec_ (h194_0_0 q0 q1 q2 q3 v0 v1 v2 v3 v4 v5)) (fun y0 y1 y2 y3 => K (.exit 0) (x194_0_0_k0 q0 q1 q2 q3 y0 y1 y2 y3)) := (vst194_0_0 N (impl_Table_restrict_1 N) (impl_Table_stuck_1 N) (impl_makeTable_l0 N) q0 q1 q2 q3 v0 v1 v2 v3 v4 v5 rec_ K).trans (t_impl_makeTable_l0b N (fun x0 k => impl_Table_restrict_1 N x0 q0 q1 q2 q3 k) v0 v1 v2 v3 v4 v5 (fun v0 v1 v2 v3 v4 v5 => rec_ (h194_0_0 q0 q1 q2 q3 v0 v1 v2 v3 v4 v5)) (fun y0 y1 y2 y3 => K (.exit 0) (x194_0_0_k0 q0 q1 q2 q3 y0 y1 y2 y3))).symm
theorem ro194_0_0 {β : Type} (N : Nat) (q0 : Int) (q1 : Int) (q2 : Int) (q3 : Int) (K : Exit → St → Option β) : ∀ (F : Nat) (v0 : Int) (v1 : Int) (v2 : Int) (v3 : Int) (v4 : Int) (v5 : Int), (lp Tryd.f194 0).rounds lay (E194 N) (retMask Tryd.f194) F (h194_0_0 q0 q1 q2 q3 v0 v1 v2 v3 v4 v5) K = impl_makeTable_l0 N (fun x0 k => impl_Table_restrict_1 N x0 q0 q1 q2 q3 k) F v0 v1 v2 v3 v4 v5 (fun y0 y1 y2 y3 => K (.exit 0) (x194_0_0_k0 q0 q1 q2 q3 y0 y1 y2 y3)) := by
  intro F
  induction F with
  | zero => intros; rfl
  | succ F ih =>
    intros
    rw [rounds_next]
    refine (st194_0_0 N q0 q1 q2 q3 _ _ _ _ _ _ (fun s => (lp Tryd.f194 0).rounds lay (E194 N) (retMask Tryd.f194) F s K) K).trans ?_
    simp only [ih]
    rfl
theorem vst194_0_1 {β : Type} (N : Nat) (q_impl_Table_restrict_1 : (a0 : Int) → (c0 : Int) → (c1 : Int) → (c2 : Int) → (c3 : Int) → (k : Bool → Option β) → Option β) (q_impl_Table_stuck_1 : (a0 : Int) → (c0 : Int) → (c1 : Int) → (c2 : Int) → (c3 : Int) → (k : Bool → Option β) → Option β) (q_impl_makeTable_l0 : (a1 : (Int → (Bool → Option β) → Option β)) → Nat → Int → Int → Int → Int → Int → Int → (Int → Int → Int → Int → Option β) → Option β) (q0 : Int) (q1 : Int) (q2 : Int) (q3 : Int) (v0 : Int) (v1 : Int) (v2 : Int) (v3 : Int) (v4 : Int) (v5 : Int) (rec_ : St → Option β) (K : Exit → St → Option β) :
    ev lay (VE194 N q_impl_Table_restrict_1 q_impl_Table_stuck_1 q_impl_makeTable_l0) (retMask Tryd.f194) (lp Tryd.f194 0).body (lp Tryd.f194 0).ex ((lp Tryd.f194 0).lv (retMask Tryd.f194)) (h194_0_1 q0 q1 q2 q3 v0 v1 v2 v3 v4 v5) (nextR (fun s' => rec_ (s'.tidy ((lp Tryd.f194 0).lv (retMask Tryd.f194)))) K) = BV_impl_makeTable_l0b N (fun x0 k => q_impl_Table_stuck_1 x0 q0 q1 q2 q3 k) v0 v1 v2 v3 v4 v5 (fun v0 v1 v2 v3 v4 v5 => rec_ (h194_0_1 q0 q1 q2 q3 v0 v1 v2 v3 v4 v5)) (fun y0 y1 y2 y3 => K (.exit 0) (x194_0_1_k0 q0 q1 q2 q3 y0 y1 y2 y3)) := by kernel_rfl
theorem st194_0_1 {β : Type} (N : Nat) (q0 : Int) (q1 : Int) (q2 : Int) (q3 : Int) (v0 : Int) (v1 : Int) (v2 : Int) (v3 : Int) (v4 : Int) (v5 : Int) (rec_ : St → Option β) (K : Exit → St → Option β) :
    ev lay (E194 N) (retMask Tryd.f194) (lp Tryd.f194 0).body (lp Tryd.f194 0).ex ((lp Tryd.f194 0).lv (retMask Tryd.f194)) (h194_0_1 q0 q1 q2 q3 v0 v1 v2 v3 v4 v5) (nextR (fun s' => rec_ (s'.tidy ((lp Tryd.f194 0).lv (retMask Tryd.f194)))) K) = impl_makeTable_l0b N (fun x0 k => impl_Table_stuck_1 N x0 q0 q1 q2 q3 k) v0 v1 v2 v3 v4 v5 (fun v0 v1 v2 v3 v4 v5 => rec_ (h194_0_1 q0 q1 q2 q3 v0 v1 v2 v3 v4 v5)) (fun y0 y1 y2 y3 => K (.exit 0) (x194_0_1_k0 q0 q1 q2 q3 y0 y1 y2 y3)) := (vst194_0_1 N (impl_Table_restrict_1 N) (impl_Table_stuck_1 N) (impl_makeTable_l0 N) q0 q1 q2 q3 v0 v1 v2 v3 v4 v5 rec_ K).trans (t_impl_makeTable_l0b N (fun x0 k => impl_Table_stuck_1 N x0 q0 q1 q2 q3 k) v0 v1 v2 v3 v4 v5 (fun v0 v1 v2 v3 v4 v5 => rec_ (h194_0_1 q0 q1 q2 q3 v0 v1 v2 v3 v4 v5)) (fun y0 y1 y2 y3 => K (.exit 0) (x194_0_1_k0 q0 q1 q2 q3 y0 y1 y2 y3))).symm
theorem ro194_0_1 {β : Type} (N : Nat) (q0 : Int) (q1 : Int) (q2 : Int) (q3 : Int) (K : Exit → St → Option β) : ∀ (F : Nat) (v0 : Int) (v1 : Int) (v2 : Int) (v3 : Int) (v4 : Int) (v5 : Int), (lp Tryd.f194 0).rounds lay (E194 N) (retMask Tryd.f194) F (h194_0_1 q0 q1 q2 q3 v0 v1 v2 v3 v4 v5) K = impl_makeTable_l0 N (fun x0 k => impl_Table_stuck_1 N x0 q0 q1 q2 q3 k) F v0 v1 v2 v3 v4 v5 (fun y0 y1 y2 y3 => K (.exit 0) (x194_0_1_k0 q0 q1 q2 q3 y0 y1 y2 y3)) := by
  intro F
  induction F with
  | zero => intros; rfl
  | succ F ih =>
    intros
    rw [rounds_next]
    refine (st194_0_1 N q0 q1 q2 q3 _ _ _ _ _ _ (fun s => (lp Tryd.f194 0).rounds lay (E194 N) (retMask Tryd.f194) F s K) K).trans ?_
    simp only [ih]
    rfl
theorem lk194_0 {β : Type} (N : Nat) : lookL (E194 (β := β) N).loops (lp Tryd.f194 0).id = LS194_0 N := by kernel_rfl
theorem rk194_0 {β : Type} (N : Nat) : RoundsOK lay (E194 (β := β) N) (retMask Tryd.f194) (lp Tryd.f194 0) := by
  intro s K r h
  rw [lk194_0] at h
  unfold LS194_0 VLS194_0 at h
  cases hb : shpSt (h194_0_0 0 0 0 0 0 0 0 0 0 0) s with
  | true =>
    rw [hb, cond_true] at h
    exact ⟨N, by rw [← shpSt_ref hb, fl194_0_0 s]; exact (ro194_0_0 N (intF (nx .no (nx ([], 0) (dfnS (oneA (vT (nx tund s.tmps 1)))) 0).1 0)) (intF (nx .no (nx ([], 0) (dfnS (oneA (vT (nx tund s.tmps 1)))) 0).1 1)) (intF (nx .no (nx ([], 0) (dfnS (oneA (vT (nx tund s.tmps 1)))) 1).1 0)) (intF (nx .no (nx ([], 0) (dfnS (oneA (vT (nx tund s.tmps 1)))) 2).1 0)) K N (intS (oneA (vT (nx tund s.tmps 10)))) (intS (oneA (vT (nx tund s.tmps 11)))) (intS (nx .und (cellsB (nx .dead s.blks 0)) 0)) (intS (nx .und (cellsB (nx .dead s.blks 0)) 1)) (intS (nx .und (cellsB (nx .dead s.blks 1)) 0)) (intS (nx .und (cellsB (nx .dead s.blks 1)) 1))).trans h⟩
  | false =>
  rw [hb, cond_false] at h
  clear hb
  cases hb : shpSt (h194_0_1 0 0 0 0 0 0 0 0 0 0) s with
  | true =>
    rw [hb, cond_true] at h
    exact ⟨N, by rw [← shpSt_ref hb, fl194_0_1 s]; exact (ro194_0_1 N (intF (nx .no (nx ([], 0) (dfnS (oneA (vT (nx tund s.tmps 1)))) 0).1 0)) (intF (nx .no (nx ([], 0) (dfnS (oneA (vT (nx tund s.tmps 1)))) 0).1 1)) (intF (nx .no (nx ([], 0) (dfnS (oneA (vT (nx tund s.tmps 1)))) 1).1 0)) (intF (nx .no (nx ([], 0) (dfnS (oneA (vT (nx tund s.tmps 1)))) 2).1 0)) K N (intS (oneA (vT (nx tund s.tmps 10)))) (intS (oneA (vT (nx tund s.tmps 11)))) (intS (nx .und (cellsB (nx .dead s.blks 0)) 0)) (intS (nx .und (cellsB (nx .dead s.blks 0)) 1)) (intS (nx .und (cellsB (nx .dead s.blks 1)) 0)) (intS (nx .und (cellsB (nx .dead s.blks 1)) 1))).trans h⟩
  | false =>
  rw [hb, cond_false] at h
  clear hb
  cases h
def BV_impl_makeTable {β : Type} (N : Nat) (q_impl_makeTable_l0 : (a1 : (Int → (Bool → Option β) → Option β)) → Nat → Int → Int → Int → Int → Int → Int → (Int → Int → Int → Int → Option β) → Option β) (a0 : Int) (a1 : (Int → (Bool → Option β) → Option β)) (k : Int → Int → Option β) : Option β :=
(gd ((decide (0 ≤ a0)))
(q_impl_makeTable_l0 a1 N ((shlI .i64 1 a0)) 0 0 0 a0 0 (fun e5_0 e5_1 e5_2 e5_3 =>
k e5_2 e5_3)))
theorem t_impl_makeTable {β : Type} (N : Nat) (a0 : Int) (a1 : (Int → (Bool → Option β) → Option β)) (k : Int → Int → Option β) : impl_makeTable N a0 a1 k = BV_impl_makeTable N (impl_makeTable_l0 N) a0 a1 k := by
  unfold impl_makeTable BV_impl_makeTable
  rfl
theorem ve194_0 {β : Type} (N : Nat) (q_impl_Table_restrict_1 : (a0 : Int) → (c0 : Int) → (c1 : Int) → (c2 : Int) → (c3 : Int) → (k : Bool → Option β) → Option β) (q_impl_Table_stuck_1 : (a0 : Int) → (c0 : Int) → (c1 : Int) → (c2 : Int) → (c3 : Int) → (k : Bool → Option β) → Option β) (q_impl_makeTable_l0 : (a1 : (Int → (Bool → Option β) → Option β)) → Nat → Int → Int → Int → Int → Int → Int → (Int → Int → Int → Int → Option β) → Option β) (q0 : Int) (q1 : Int) (q2 : Int) (q3 : Int) (a0 : Int) (K : TV → Option β) : evFn lay (VE194 N q_impl_Table_restrict_1 q_impl_Table_stuck_1 q_impl_makeTable_l0) Tryd.f194 [.v (.one (.int .i64 a0)), .v (.one (.dfn 195 [([.int .i64 q0, .int .i64 q1], 0), ([.int .i64 q2], 0), ([.int .i64 q3], 0)]))] K = BV_impl_makeTable N q_impl_makeTable_l0 a0 (fun x0 k => q_impl_Table_restrict_1 x0 q0 q1 q2 q3 k) (fun z2 z3 => K (.v (.agg [.int .i64 z2, .int .i64 z3]))) := by kernel_rfl
theorem e194_0 {β : Type} (N : Nat) (q0 : Int) (q1 : Int) (q2 : Int) (q3 : Int) (a0 : Int) (K : TV → Option β) : evFn lay (E194 N) Tryd.f194 [.v (.one (.int .i64 a0)), .v (.one (.dfn 195 [([.int .i64 q0, .int .i64 q1], 0), ([.int .i64 q2], 0), ([.int .i64 q3], 0)]))] K = impl_makeTable N a0 (fun x0 k => impl_Table_restrict_1 N x0 q0 q1 q2 q3 k) (fun z2 z3 => K (.v (.agg [.int .i64 z2, .int .i64 z3]))) := (ve194_0 N (impl_Table_restrict_1 N) (impl_Table_stuck_1 N) (impl_makeTable_l0 N) q0 q1 q2 q3 a0 K).trans (t_impl_makeTable N a0 (fun x0 k => impl_Table_restrict_1 N x0 q0 q1 q2 q3 k) (fun z2 z3 => K (.v (.agg [.int .i64 z2, .int .i64 z3])))).symm
theorem ve194_1 {β : Type} (N : Nat) (q_impl_Table_restrict_1 : (a0 : Int) → (c0 : Int) → (c1 : Int) → (c2 : Int) → (c3 : Int) → (k : Bool → Option β) → Option β) (q_impl_Table_stuck_1 : (a0 : Int) → (c0 : Int) → (c1 : Int) → (c2 : Int) → (c3 : Int) → (k : Bool → Option β) → Option β) (q_impl_makeTable_l0 : (a1 : (Int → (Bool → Option β) → Option β)) → Nat → Int → Int → Int → Int → Int → Int → (Int → Int → Int → Int → Option β) → Option β) (q0 : Int) (q1 : Int) (q2 : Int) (q3 : Int) (a0 : Int) (K : TV → Option β) : evFn lay (VE194 N q_impl_Table_restrict_1 q_impl_Table_stuck_1 q_impl_makeTable_l0) Tryd.f194 [.v (.one (.int .i64 a0)), .v (.one (.dfn 226 [([.int .i64 q0, .int .i64 q1], 0), ([.int .i64 q2], 0), ([.int .i64 q3], 0)]))] K = BV_impl_makeTable N q_impl_makeTable_l0 a0 (fun x0 k => q_impl_Table_stuck_1 x0 q0 q1 q2 q3 k) (fun z2 z3 => K (.v (.agg [.int .i64 z2, .int .i64 z3]))) := by kernel_rfl
theorem e194_1 {β : Type} (N : Nat) (q0 : Int) (q1 : Int) (q2 : Int) (q3 : Int) (a0 : Int) (K : TV → Option β) : evFn lay (E194 N) Tryd.f194 [.v (.one (.int .i64 a0)), .v (.one (.dfn 226 [([.int .i64 q0, .int .i64 q1], 0), ([.int .i64 q2], 0), ([.int .i64 q3], 0)]))] K = impl_makeTable N a0 (fun x0 k => impl_Table_stuck_1 N x0 q0 q1 q2 q3 k) (fun z2 z3 => K (.v (.agg [.int .i64 z2, .int .i64 z3]))) := (ve194_1 N (impl_Table_restrict_1 N) (impl_Table_stuck_1 N) (impl_makeTable_l0 N) q0 q1 q2 q3 a0 K).trans (t_impl_makeTable N a0 (fun x0 k => impl_Table_stuck_1 N x0 q0 q1 q2 q3 k) (fun z2 z3 => K (.v (.agg [.int .i64 z2, .int .i64 z3])))).symm
theorem o194 {β : Type} (N : Nat) : SpecOK (β := β) inv Tryd.prog 194 (S194 N) := by
  refine spec_of lay_ok mixed (E := E194 N) (specs_loops (specs_cons (o195 N) (specs_cons (o226 N) specs_nil))) muts_nil gs_nil Tryd.func194 (by kernel_rfl) 1 (by kernel_rfl) ⟨trivial, rk194_0 N⟩ fun args K r h => ?_
  unfold S194 VS194 at h
  split at h
  · exact (e194_0 N _ _ _ _ _ _).trans h
  · exact (e194_1 N _ _ _ _ _ _).trans h
  · cases h
def VS142 {β : Type} (N : Nat) (q_impl_Table_restrict : (a0 : Int) → (a1 : Int) → (a2 : Int) → (a3 : Int) → (k : Int → Int → Option β) → Option β) : Rv.Spec β := fun args K => match args with
  | [.v (.agg [.int .i64 a0, .int .i64 a1]), .v (.one (.int .i64 a2)), .v (.one (.int .i64 a3))] => q_impl_Table_restrict a0 a1 a2 a3 (fun z4 z5 => K (.v (.agg [.int .i64 z4, .int .i64 z5])))
  | _ => none
def S142 {β : Type} (N : Nat) : Rv.Spec β := VS142 N (impl_Table_restrict N)
def VE142 {β : Type} (N : Nat) (q_impl_makeTable : (a0 : Int) → (a1 : (Int → (Bool → Option β) → Option β)) → (k : Int → Int → Option β) → Option β) (q_impl_Table_restrict_1 : (a0 : Int) → (c0 : Int) → (c1 : Int) → (c2 : Int) → (c3 : Int) → (k : Bool → Option β) → Option β) (q_impl_Table_stuck_1 : (a0 : Int) → (c0 : Int) → (c1 : Int) → (c2 : Int) → (c3 : Int) → (k : Bool → Option β) → Option β) : Env β := ⟨[(194, VS194 N q_impl_makeTable q_impl_Table_restrict_1 q_impl_Table_stuck_1), (195, VS195 N q_impl_Table_restrict_1)], [], [], [], ⟨[], [], [145], [149, 152, 199]⟩⟩
def E142 {β : Type} (N : Nat) : Env β := VE142 N (impl_makeTable N) (impl_Table_restrict_1 N) (impl_Table_stuck_1 N)
def BV_impl_Table_restrict {β : Type} (N : Nat) (q_impl_makeTable : (a0 : Int) → (a1 : (Int → (Bool → Option β) → Option β)) → (k : Int → Int → Option β) → Option β) (q_impl_Table_restrict_1 : (a0 : Int) → (c0 : Int) → (c1 : Int) → (c2 : Int) → (c3 : Int) → (k : Bool → Option β) → Option β) (a0 : Int) (a1 : Int) (a2 : Int) (a3 : Int) (k : Int → Int → Option β) : Option β :=
q_impl_makeTable ((w64 (a0 - 1))) (fun x0 k => q_impl_Table_restrict_1 x0 a0 a1 a2 a3 k) fun r6 r7 =>
k r6 r7
theorem t_impl_Table_restrict {β : Type} (N : Nat) (a0 : Int) (a1 : Int) (a2 : Int) (a3 : Int) (k : Int → Int → Option β) : impl_Table_restrict N a0 a1 a2 a3 k = BV_impl_Table_restrict N (impl_makeTable N) (impl_Table_restrict_1 N) a0 a1 a2 a3 k := by
  unfold impl_Table_restrict BV_impl_Table_restrict
  rfl
theorem ve142_0 {β : Type} (N : Nat) (q_impl_makeTable : (a0 : Int) → (a1 : (Int → (Bool → Option β) → Option β)) → (k : Int → Int → Option β) → Option β) (q_impl_Table_restrict_1 : (a0 : Int) → (c0 : Int) → (c1 : Int) → (c2 : Int) → (c3 : Int) → (k : Bool → Option β) → Option β) (q_impl_Table_stuck_1 : (a0 : Int) → (c0 : Int) → (c1 : Int) → (c2 : Int) → (c3 : Int) → (k : Bool → Option β) → Option β)  (a0 : Int) (a1 : Int) (a2 : Int) (a3 : Int) (K : TV → Option β) : evFn lay (VE142 N q_impl_makeTable q_impl_Table_restrict_1 q_impl_Table_stuck_1) Tryd.f142 [.v (.agg [.int .i64 a0, .int .i64 a1]), .v (.one (.int .i64 a2)), .v (.one (.int .i64 a3))] K = BV_impl_Table_restrict N q_impl_makeTable q_impl_Table_restrict_1 a0 a1 a2 a3 (fun z4 z5 => K (.v (.agg [.int .i64 z4, .int .i64 z5]))) := by kernel_rfl
theorem e142_0 {β : Type} (N : Nat)  (a0 : Int) (a1 : Int) (a2 : Int) (a3 : Int) (K : TV → Option β) : evFn lay (E142 N) Tryd.f142 [.v (.agg [.int .i64 a0, .int .i64 a1]), .v (.one (.int .i64 a2)), .v (.one (.int .i64 a3))] K = impl_Table_restrict N a0 a1 a2 a3 (fun z4 z5 => K (.v (.agg [.int .i64 z4, .int .i64 z5]))) := (ve142_0 N (impl_makeTable N) (impl_Table_restrict_1 N) (impl_Table_stuck_1 N) a0 a1 a2 a3 K).trans (t_impl_Table_restrict N a0 a1 a2 a3 (fun z4 z5 => K (.v (.agg [.int .i64 z4, .int .i64 z5])))).symm
theorem o142 {β : Type} (N : Nat) : SpecOK (β := β) inv Tryd.prog 142 (S142 N) := by
  refine spec_of lay_ok mixed (E := E142 N) (specs_loops (specs_cons (o194 N) (specs_cons (o195 N) specs_nil))) muts_nil gs_nil Tryd.func142 (by kernel_rfl) 0 (by kernel_rfl) trivial fun args K r h => ?_
  unfold S142 VS142 at h
  split at h
  · exact (e142_0 N _ _ _ _ _).trans h
  · cases h
def VS143 {β : Type} (N : Nat) (q_impl_Table_depends : (a0 : Int) → (a1 : Int) → (a2 : Int) → (k : Bool → Option β) → Option β) : Rv.Spec β := fun args K => match args with
  | [.v (.agg [.int .i64 a0, .int .i64 a1]), .v (.one (.int .i64 a2))] => q_impl_Table_depends a0 a1 a2 (fun z3 => K (.v (.one (.bool z3))))
  | _ => none
def S143 {β : Type} (N : Nat) : Rv.Spec β := VS143 N (impl_Table_depends N)
def VE143 {β : Type} (N : Nat) (q_impl_Table_restrict : (a0 : Int) → (a1 : Int) → (a2 : Int) → (a3 : Int) → (k : Int → Int → Option β) → Option β) : Env β := ⟨[(142, VS142 N q_impl_Table_restrict)], [], [], [], ⟨[], [], [145], [149, 152, 199]⟩⟩
def E143 {β : Type} (N : Nat) : Env β := VE143 N (impl_Table_restrict N)
def BV_impl_Table_depends {β : Type} (N : Nat) (q_impl_Table_restrict : (a0 : Int) → (a1 : Int) → (a2 : Int) → (a3 : Int) → (k : Int → Int → Option β) → Option β) (a0 : Int) (a1 : Int) (a2 : Int) (k : Bool → Option β) : Option β :=
q_impl_Table_restrict a0 a1 a2 0 fun r4 r5 =>
q_impl_Table_restrict a0 a1 a2 1 fun r6 r7 =>
k ((!((r4 == r6) && (r5 == r7))))
theorem t_impl_Table_depends {β : Type} (N : Nat) (a0 : Int) (a1 : Int) (a2 : Int) (k : Bool → Option β) : impl_Table_depends N a0 a1 a2 k = BV_impl_Table_depends N (impl_Table_restrict N) a0 a1 a2 k := by
  unfold impl_Table_depends BV_impl_Table_depends
  rfl
theorem ve143_0 {β : Type} (N : Nat) (q_impl_Table_restrict : (a0 : Int) → (a1 : Int) → (a2 : Int) → (a3 : Int) → (k : Int → Int → Option β) → Option β)  (a0 : Int) (a1 : Int) (a2 : Int) (K : TV → Option β) : evFn lay (VE143 N q_impl_Table_restrict) Tryd.f143 [.v (.agg [.int .i64 a0, .int .i64 a1]), .v (.one (.int .i64 a2))] K = BV_impl_Table_depends N q_impl_Table_restrict a0 a1 a2 (fun z3 => K (.v (.one (.bool z3)))) := by kernel_rfl
theorem e143_0 {β : Type} (N : Nat)  (a0 : Int) (a1 : Int) (a2 : Int) (K : TV → Option β) : evFn lay (E143 N) Tryd.f143 [.v (.agg [.int .i64 a0, .int .i64 a1]), .v (.one (.int .i64 a2))] K = impl_Table_depends N a0 a1 a2 (fun z3 => K (.v (.one (.bool z3)))) := (ve143_0 N (impl_Table_restrict N) a0 a1 a2 K).trans (t_impl_Table_depends N a0 a1 a2 (fun z3 => K (.v (.one (.bool z3))))).symm
theorem o143 {β : Type} (N : Nat) : SpecOK (β := β) inv Tryd.prog 143 (S143 N) := by
  refine spec_of lay_ok mixed (E := E143 N) (specs_loops (specs_cons (o142 N) specs_nil)) muts_nil gs_nil Tryd.func143 (by kernel_rfl) 0 (by kernel_rfl) trivial fun args K r h => ?_
  unfold S143 VS143 at h
  split at h
  · exact (e143_0 N _ _ _ _).trans h
  · cases h
def VS200 {β : Type} (N : Nat) (q_slices_IndexFunc_Sint_int : (a0 : List Int) → (a1 : (Int → (Bool → Option β) → Option β)) → (k : Int → Option β) → Option β) (q_impl_Table_depends : (a0 : Int) → (a1 : Int) → (a2 : Int) → (k : Bool → Option β) → Option β) : Rv.Spec β := fun args K => match args with
  | [.v (.one (.sl 3 (.ints .i64 a0))), .v (.one (.bfn 143 [.int .i64 q0, .int .i64 q1]))] => q_slices_IndexFunc_Sint_int a0 (fun x0 k => q_impl_Table_depends q0 q1 x0 k) (fun z2 => K (.v (.one (.int .i64 z2))))
  | _ => none
def S200 {β : Type} (N : Nat) : Rv.Spec β := VS200 N (slices_IndexFunc_Sint_int N) (impl_Table_depends N)
def h200_0_0 (q0 : Int) (q1 : Int) (v0 : List Int) (v1 : Int) (v2 : Int) : St := ⟨.v (.one (.sl 3 (.ints .i64 v0))) :: .v (.one (.bfn 143 [.int .i64 q0, .int .i64 q1])) :: .v (.one .und) :: .v (.one .und) :: .v (.one .und) :: .v (.one .und) :: .v (.one .und) :: .v (.one (.int .i64 v1)) :: .v (.one (.int .i64 v2)) :: .v (.one .und) :: .v (.one .und) :: .v (.one .und) :: .v (.one .und) :: .v (.one .und) :: .v (.one .und) :: .v (.one .und) :: .v (.one .und) :: .v (.one .und) :: .v (.one .und) :: [], []⟩
def x200_0_0_k0 (q0 : Int) (q1 : Int) (y0 : Int) : St := ⟨.v (.one .und) :: .v (.one .und) :: .v (.one .und) :: .v (.one .und) :: .v (.one (.int .i64 y0)) :: .v (.one .und) :: .v (.one .und) :: .v (.one .und) :: .v (.one .und) :: .v (.one .und) :: .v (.one .und) :: .v (.one .und) :: .v (.one .und) :: .v (.one .und) :: .v (.one .und) :: .v (.one .und) :: .v (.one .und) :: .v (.one .und) :: .v (.one .und) :: [], []⟩
def x200_0_0_k1 (q0 : Int) (q1 : Int)  : St := ⟨.v (.one .und) :: .v (.one .und) :: .v (.one .und) :: .v (.one .und) :: .v (.one .und) :: .v (.one .und) :: .v (.one .und) :: .v (.one .und) :: .v (.one .und) :: .v (.one .und) :: .v (.one .und) :: .v (.one .und) :: .v (.one .und) :: .v (.one .und) :: .v (.one .und) :: .v (.one .und) :: .v (.one .und) :: .v (.one .und) :: .v (.one .und) :: [], []⟩
theorem fl200_0_0 (s : St) : refSt (h200_0_0 0 0 [] 0 0) s = h200_0_0 (intF (nx .no (bfnS (oneA (vT (nx tund s.tmps 1)))) 0)) (intF (nx .no (bfnS (oneA (vT (nx tund s.tmps 1)))) 1)) (rInts (rowV (oneA (vT (nx tund s.tmps 0))))) (intS (oneA (vT (nx tund s.tmps 7)))) (intS (oneA (vT (nx tund s.tmps 8)))) := by kernel_rfl
def VLS200_0 {β : Type} (N : Nat) (q_slices_IndexFunc_Sint_int_l0 : (a1 : (Int → (Bool → Option β) → Option β)) → Nat → List Int → Int → Int → (Int → Option β) → (Option β) → Option β) (q_impl_Table_depends : (a0 : Int) → (a1 : Int) → (a2 : Int) → (k : Bool → Option β) → Option β) : LSpec β := fun s K => cond (shpSt (h200_0_0 0 0 [] 0 0) s) ((fun (q0 : Int) (q1 : Int) (v0 : List Int) (v1 : Int) (v2 : Int) => q_slices_IndexFunc_Sint_int_l0 (fun x0 k => q_impl_Table_depends q0 q1 x0 k) N v0 v1 v2 (fun y0 => K .ret (x200_0_0_k0 q0 q1 y0)) (K (.exit 0) (x200_0_0_k1 q0 q1 ))) (intF (nx .no (bfnS (oneA (vT (nx tund s.tmps 1)))) 0)) (intF (nx .no (bfnS (oneA (vT (nx tund s.tmps 1)))) 1)) (rInts (rowV (oneA (vT (nx tund s.tmps 0))))) (intS (oneA (vT (nx tund s.tmps 7)))) (intS (oneA (vT (nx tund s.tmps 8))))) (none)
def LS200_0 {β : Type} (N : Nat) : LSpec β := VLS200_0 N (slices_IndexFunc_Sint_int_l0 N) (impl_Table_depends N)
def VE200 {β : Type} (N : Nat) (q_impl_Table_depends : (a0 : Int) → (a1 : Int) → (a2 : Int) → (k : Bool → Option β) → Option β) (q_slices_IndexFunc_Sint_int_l0 : (a1 : (Int → (Bool → Option β) → Option β)) → Nat → List Int → Int → Int → (Int → Option β) → (Option β) → Option β) : Env β := ⟨[(143, VS143 N q_impl_Table_depends)], [], [(0, VLS200_0 N q_slices_IndexFunc_Sint_int_l0 q_impl_Table_depends)], [], ⟨[], [], [145], [149, 152, 199]⟩⟩
def E200 {β : Type} (N : Nat) : Env β := VE200 N (impl_Table_depends N) (slices_IndexFunc_Sint_int_l0 N)
def BV_slices_IndexFunc_Sint_int_l0b {β : Type} (N : Nat) (a1 : (Int → (Bool → Option β) → Option β)) (v0 : List Int) (v1 : Int) (v2 : Int) (rec_ : List Int → Int → Int → Option β) (k0 : Int → Option β) (k1 : Option β) : Option β :=
(cond ((decide (v2 < v1)))
((gd ((decide (0 ≤ v2)))
((gd ((decide (v2 < (v0.length : Int))))
(a1 ((rd 0 v0 v2)) fun r3 =>
(cond r3
(k0 v2)
(rec_ v0 v1 ((w64 (v2 + 1))))))))))
(k1 ))
theorem t_slices_IndexFunc_Sint_int_l0b {β : Type} (N : Nat) (a1 : (Int → (Bool → Option β) → Option β)) (v0 : List Int) (v1 : Int) (v2 : Int) (rec_ : List Int → Int → Int → Option β) (k0 : Int → Option β) (k1 : Option β) : slices_IndexFunc_Sint_int_l0b N a1 v0 v1 v2 rec_ k0 k1 = BV_slices_IndexFunc_Sint_int_l0b N a1 v0 v1 v2 rec_ k0 k1 := by
  unfold slices_IndexFunc_Sint_int_l0b BV_slices_IndexFunc_Sint_int_l0b
  rfl
theorem vst200_0_0 {β : Type} (N : Nat) (q_impl_Table_depends : (a0 : Int) → (a1 : Int) → (a2 : Int) → (k : Bool → Option β) → Option β) (q_slices_IndexFunc_Sint_int_l0 : (a1 : (Int → (Bool → Option β) → Option β)) → Nat → List Int → Int → Int → (Int → Option β) → (Option β) → Option β) (q0 : Int) (q1 : Int) (v0 : List Int) (v1 : Int) (v2 : Int) (rec_ : St → Option β) (K : Exit → St → Option β) :
    ev lay (VE200 N q_impl_Table_depends q_slices_IndexFunc_Sint_int_l0) (retMask Tryd.f200) (lp Tryd.f200 0).body (lp Tryd.f200 0).ex ((lp Tryd.f200 0).lv (retMask Tryd.f200)) (h200_0_0 q0 q1 v0 v1 v2) (nextR (fun s' => rec_ (s'.tidy ((lp Tryd.f200 0).lv (retMask Tryd.f200)))) K) = BV_slices_IndexFunc_Sint_int_l0b N (fun x0 k => q_impl_Table_depends q0 q1 x0 k) v0 v1 v2 (fun v0 v1 v2 => rec_ (h200_0_0 q0 q1 v0 v1 v2)) (fun y0 => K .ret (x200_0_0_k0 q0 q1 y0)) (K (.exit 0) (x200_0_0_k1 q0 q1 )) := by kernel_rfl
theorem st200_0_0 {β : Type} (N : Nat) (q0 : Int) (q1 : Int) (v0 : List Int) (v1 : Int) (v2 : Int) (rec_ : St → Option β) (K : Exit → St → Option β) :
    ev lay (E200 N) (retMask Tryd.f200) (lp Tryd.f200 0).body (lp Tryd.f200 0).ex ((lp Tryd.f200 0).lv (retMask Tryd.f200)) (h200_0_0 q0 q1 v0 v1 v2) (nextR (fun s' => rec_ (s'.tidy ((lp Tryd.f200 0).lv (retMask Tryd.f200)))) K) = slices_IndexFunc_Sint_int_l0b N (fun x0 k => impl_Table_depends N q0 q1 x0 k) v0 v1 v2 (fun v0 v1 v2 => rec_ (h200_0_0 q0 q1 v0 v1 v2)) (fun y0 => K .ret (x200_0_0_k0 q0 q1 y0)) (K (.exit 0) (x200_0_0_k1 q0 q1 )) := (vst200_0_0 N (impl_Table_depends N) (slices_IndexFunc_Sint_int_l0 N) q0 q1 v0 v1 v2 rec_ K).trans (t_slices_IndexFunc_Sint_int_l0b N (fun x0 k => impl_Table_depends N q0 q1 x0 k) v0 v1 v2 (fun v0 v1 v2 => rec_ (h200_0_0 q0 q1 v0 v1 v2)) (fun y0 => K .ret (x200_0_0_k0 q0 q1 y0)) (K (.exit 0) (x200_0_0_k1 q0 q1 ))).symm
theorem ro200_0_0 {β : Type} (N : Nat) (q0 : Int) (q1 : Int) (K : Exit → St → Option β) : ∀ (F : Nat) (v0 : List Int) (v1 : Int) (v2 : Int), (lp Tryd.f200 0).rounds lay (E200 N) (retMask Tryd.f200) F (h200_0_0 q0 q1 v0 v1 v2) K = slices_IndexFunc_Sint_int_l0 N (fun x0 k => impl_Table_depends N q0 q1 x0 k) F v0 v1 v2 (fun y0 => K .ret (x200_0_0_k0 q0 q1 y0)) (K (.exit 0) (x200_0_0_k1 q0 q1 )) := by
  intro F
  induction F with
  | zero => intros; rfl
  | succ F ih =>
    intros
    rw [rounds_next]
    refine (st200_0_0 N q0 q1 _ _ _ (fun s => (lp Tryd.f200 0).rounds lay (E200 N) (retMask Tryd.f200) F s K) K).trans ?_
    simp only [ih]
    rfl
theorem lk200_0 {β : Type} (N : Nat) : lookL (E200 (β := β) N).loops (lp Tryd.f200 0).id = LS200_0 N := by kernel_rfl
theorem rk200_0 {β : Type} (N : Nat) : RoundsOK lay (E200 (β := β) N) (retMask Tryd.f200) (lp Tryd.f200 0) := by
  intro s K r h
  rw [lk200_0] at h
  unfold LS200_0 VLS200_0 at h
  cases hb : shpSt (h200_0_0 0 0 [] 0 0) s with
  | true =>
    rw [hb, cond_true] at h
    exact ⟨N, by rw [← shpSt_ref hb, fl200_0_0 s]; exact (ro200_0_0 N (intF (nx .no (bfnS (oneA (vT (nx tund s.tmps 1)))) 0)) (intF (nx .no (bfnS (oneA (vT (nx tund s.tmps 1)))) 1)) K N (rInts (rowV (oneA (vT (nx tund s.tmps 0))))) (intS (oneA (vT (nx tund s.tmps 7)))) (intS (oneA (vT (nx tund s.tmps 8))))).trans h⟩
  | false =>
  rw [hb, cond_false] at h
  clear hb
  cases h
def BV_slices_IndexFunc_Sint_int {β : Type} (N : Nat) (q_slices_IndexFunc_Sint_int_l0 : (a1 : (Int → (Bool → Option β) → Option β)) → Nat → List Int → Int → Int → (Int → Option β) → (Option β) → Option β) (a0 : List Int) (a1 : (Int → (Bool → Option β) → Option β)) (k : Int → Option β) : Option β :=
q_slices_IndexFunc_Sint_int_l0 a1 N a0 ((a0.length : Int)) 0 (fun e4_0 =>
k e4_0) (k (-1))
theorem t_slices_IndexFunc_Sint_int {β : Type} (N : Nat) (a0 : List Int) (a1 : (Int → (Bool → Option β) → Option β)) (k : Int → Option β) : slices_IndexFunc_Sint_int N a0 a1 k = BV_slices_IndexFunc_Sint_int N (slices_IndexFunc_Sint_int_l0 N) a0 a1 k := by
  unfold slices_IndexFunc_Sint_int BV_slices_IndexFunc_Sint_int
  rfl
theorem ve200_0 {β : Type} (N : Nat) (q_impl_Table_depends : (a0 : Int) → (a1 : Int) → (a2 : Int) → (k : Bool → Option β) → Option β) (q_slices_IndexFunc_Sint_int_l0 : (a1 : (Int → (Bool → Option β) → Option β)) → Nat → List Int → Int → Int → (Int → Option β) → (Option β) → Option β) (q0 : Int) (q1 : Int) (a0 : List Int) (K : TV → Option β) : evFn lay (VE200 N q_impl_Table_depends q_slices_IndexFunc_Sint_int_l0) Tryd.f200 [.v (.one (.sl 3 (.ints .i64 a0))), .v (.one (.bfn 143 [.int .i64 q0, .int .i64 q1]))] K = BV_slices_IndexFunc_Sint_int N q_slices_IndexFunc_Sint_int_l0 a0 (fun x0 k => q_impl_Table_depends q0 q1 x0 k) (fun z2 => K (.v (.one (.int .i64 z2)))) := by kernel_rfl
theorem e200_0 {β : Type} (N : Nat) (q0 : Int) (q1 : Int) (a0 : List Int) (K : TV → Option β) : evFn lay (E200 N) Tryd.f200 [.v (.one (.sl 3 (.ints .i64 a0))), .v (.one (.bfn 143 [.int .i64 q0, .int .i64 q1]))] K = slices_IndexFunc_Sint_int N a0 (fun x0 k => impl_Table_depends N q0 q1 x0 k) (fun z2 => K (.v (.one (.int .i64 z2)))) := (ve200_0 N (impl_Table_depends N) (slices_IndexFunc_Sint_int_l0 N) q0 q1 a0 K).trans (t_slices_IndexFunc_Sint_int N a0 (fun x0 k => impl_Table_depends N q0 q1 x0 k) (fun z2 => K (.v (.one (.int .i64 z2))))).symm
theorem o200 {β : Type} (N : Nat) : SpecOK (β := β) inv Tryd.prog 200 (S200 N) := by
  refine spec_of lay_ok mixed (E := E200 N) (specs_loops (specs_cons (o143 N) specs_nil)) muts_nil gs_nil Tryd.func200 (by kernel_rfl) 1 (by kernel_rfl) ⟨trivial, rk200_0 N⟩ fun args K r h => ?_
  unfold S200 VS200 at h
  split at h
  · exact (e200_0 N _ _ _ _).trans h
  · cases h
def VS201 {β : Type} (N : Nat) (q_impl_Table_stuck : (a0 : Int) → (a1 : Int) → (a2 : Int) → (a3 : Int) → (k : Int → Int → Option β) → Option β) : Rv.Spec β := fun args K => match args with
  | [.v (.agg [.int .i64 a0, .int .i64 a1]), .v (.one (.int .i64 a2)), .v (.one (.int .i64 a3))] => q_impl_Table_stuck a0 a1 a2 a3 (fun z4 z5 => K (.v (.agg [.int .i64 z4, .int .i64 z5])))
  | _ => none
def S201 {β : Type} (N : Nat) : Rv.Spec β := VS201 N (impl_Table_stuck N)
def VE201 {β : Type} (N : Nat) (q_impl_makeTable : (a0 : Int) → (a1 : (Int → (Bool → Option β) → Option β)) → (k : Int → Int → Option β) → Option β) (q_impl_Table_restrict_1 : (a0 : Int) → (c0 : Int) → (c1 : Int) → (c2 : Int) → (c3 : Int) → (k : Bool → Option β) → Option β) (q_impl_Table_stuck_1 : (a0 : Int) → (c0 : Int) → (c1 : Int) → (c2 : Int) → (c3 : Int) → (k : Bool → Option β) → Option β) : Env β := ⟨[(194, VS194 N q_impl_makeTable q_impl_Table_restrict_1 q_impl_Table_stuck_1), (226, VS226 N q_impl_Table_stuck_1)], [], [], [], ⟨[], [], [145], [149, 152, 199]⟩⟩
def E201 {β : Type} (N : Nat) : Env β := VE201 N (impl_makeTable N) (impl_Table_restrict_1 N) (impl_Table_stuck_1 N)
def BV_impl_Table_stuck {β : Type} (N : Nat) (q_impl_makeTable : (a0 : Int) → (a1 : (Int → (Bool → Option β) → Option β)) → (k : Int → Int → Option β) → Option β) (q_impl_Table_stuck_1 : (a0 : Int) → (c0 : Int) → (c1 : Int) → (c2 : Int) → (c3 : Int) → (k : Bool → Option β) → Option β) (a0 : Int) (a1 : Int) (a2 : Int) (a3 : Int) (k : Int → Int → Option β) : Option β :=
q_impl_makeTable a0 (fun x0 k => q_impl_Table_stuck_1 x0 a0 a1 a2 a3 k) fun r6 r7 =>
k r6 r7
theorem t_impl_Table_stuck {β : Type} (N : Nat) (a0 : Int) (a1 : Int) (a2 : Int) (a3 : Int) (k : Int → Int → Option β) : impl_Table_stuck N a0 a1 a2 a3 k = BV_impl_Table_stuck N (impl_makeTable N) (impl_Table_stuck_1 N) a0 a1 a2 a3 k := by
  unfold impl_Table_stuck BV_impl_Table_stuck
  rfl
theorem ve201_0 {β : Type} (N : Nat) (q_impl_makeTable : (a0 : Int) → (a1 : (Int → (Bool → Option β) → Option β)) → (k : Int → Int → Option β) → Option β) (q_impl_Table_restrict_1 : (a0 : Int) → (c0 : Int) → (c1 : Int) → (c2 : Int) → (c3 : Int) → (k : Bool → Option β) → Option β) (q_impl_Table_stuck_1 : (a0 : Int) → (c0 : Int) → (c1 : Int) → (c2 : Int) → (c3 : Int) → (k : Bool → Option β) → Option β)  (a0 : Int) (a1 : Int) (a2 : Int) (a3 : Int) (K : TV → Option β) : evFn lay (VE201 N q_impl_makeTable q_impl_Table_restrict_1 q_impl_Table_stuck_1) Tryd.f201 [.v (.agg [.int .i64 a0, .int .i64 a1]), .v (.one (.int .i64 a2)), .v (.one (.int .i64 a3))] K = BV_impl_Table_stuck N q_impl_makeTable q_impl_Table_stuck_1 a0 a1 a2 a3 (fun z4 z5 => K (.v (.agg [.int .i64 z4, .int .i64 z5]))) := by kernel_rfl
theorem e201_0 {β : Type} (N : Nat)  (a0 : Int) (a1 : Int) (a2 : Int) (a3 : Int) (K : TV → Option β) : evFn lay (E201 N) Tryd.f201 [.v (.agg [.int .i64 a0, .int .i64 a1]), .v (.one (.int .i64 a2)), .v (.one (.int .i64 a3))] K = impl_Table_stuck N a0 a1 a2 a3 (fun z4 z5 => K (.v (.agg [.int .i64 z4, .int .i64 z5]))) := (ve201_0 N (impl_makeTable N) (impl_Table_restrict_1 N) (impl_Table_stuck_1 N) a0 a1 a2 a3 K).trans (t_impl_Table_stuck N a0 a1 a2 a3 (fun z4 z5 => K (.v (.agg [.int .i64 z4, .int .i64 z5])))).symm
theorem o201 {β : Type} (N : Nat) : SpecOK (β := β) inv Tryd.prog 201 (S201 N) := by
  refine spec_of lay_ok mixed (E := E201 N) (specs_loops (specs_cons (o194 N) (specs_cons (o226 N) specs_nil))) muts_nil gs_nil Tryd.func201 (by kernel_rfl) 0 (by kernel_rfl) trivial fun args K r h => ?_
  unfold S201 VS201 at h
  split at h
  · exact (e201_0 N _ _ _ _ _).trans h
  · cases h
def VSF152 {β : Type} (N : Nat) (q_impl_diagram_walk_g0_f : Nat → Int → Int → List Int → List (Int × Int × Int) → Mp → (Int → List Int → Mp → List (Int × Int × Int) → Option β) → Option β) (G : Nat) : GSpec β := fun args bl K => match args, bl with
  | [.v (.one (.ptr 0 0)), .v (.agg [.int .i64 a0, .int .i64 a1])], [.pcells 0 125 [.sl 3 (.ints .i64 a2), .row 1, .mp 2], .row 120 (.trips a3), .pmp 2 ⟨true, false⟩ a4] => q_impl_diagram_walk_g0_f G a0 a1 a2 a3 a4 (fun y0 y1 y2 y3 => K (.v (.one (.int .i64 y0))) [.pcells 0 125 [.sl 3 (.ints .i64 y1), .row 2, .mp 1], .pmp 2 ⟨true, false⟩ y2, .row 120 (.trips y3)])
  | _, _ => none
def SF152 {β : Type} (N : Nat) (G : Nat) : GSpec β := VSF152 N (impl_diagram_walk_g0_f N) G
def VS152 {β : Type} (N : Nat) (q_impl_diagram_walk_g0_f : Nat → Int → Int → List Int → List (Int × Int × Int) → Mp → (Int → List Int → Mp → List (Int × Int × Int) → Option β) → Option β) : GSpec β := VSF152 N q_impl_diagram_walk_g0_f N
def S152 {β : Type} (N : Nat) : GSpec β := SF152 N N
def VE152 {β : Type} (N : Nat) (q_impl_Table_isSame : (a0 : Int) → (a1 : Int) → (k : Bool → Option β) → Option β) (q_impl_Table_at : (a0 : Int) → (a1 : Int) → (a2 : Int) → (k : Int → Option β) → Option β) (q_slices_IndexFunc_Sint_int : (a0 : List Int) → (a1 : (Int → (Bool → Option β) → Option β)) → (k : Int → Option β) → Option β) (q_impl_Table_depends : (a0 : Int) → (a1 : Int) → (a2 : Int) → (k : Bool → Option β) → Option β) (q_impl_Table_stuck : (a0 : Int) → (a1 : Int) → (a2 : Int) → (a3 : Int) → (k : Int → Int → Option β) → Option β) (q_impl_diagram_walk_g0_f : Nat → Int → Int → List Int → List (Int × Int × Int) → Mp → (Int → List Int → Mp → List (Int × Int × Int) → Option β) → Option β) (G : Nat) : Env β := ⟨[(165, VS165 N q_impl_Table_isSame), (128, VS128 N q_impl_Table_at), (200, VS200 N q_slices_IndexFunc_Sint_int q_impl_Table_depends), (143, VS143 N q_impl_Table_depends), (201, VS201 N q_impl_Table_stuck)], [], [], [(152, VSF152 N q_impl_diagram_walk_g0_f G)], ⟨[], [], [145], [149, 152, 199]⟩⟩
def E152 {β : Type} (N : Nat) (G : Nat) : Env β := VE152 N (impl_Table_isSame N) (impl_Table_at N) (slices_IndexFunc_Sint_int N) (impl_Table_depends N) (impl_Table_stuck N) (impl_diagram_walk_g0_f N) G
def BV_impl_diagram_walk_g0_b {β : Type} (N : Nat) (q_impl_Table_isSame : (a0 : Int) → (a1 : Int) → (k : Bool → Option β) → Option β) (q_impl_Table_at : (a0 : Int) → (a1 : Int) → (a2 : Int) → (k : Int → Option β) → Option β) (q_slices_IndexFunc_Sint_int : (a0 : List Int) → (a1 : (Int → (Bool → Option β) → Option β)) → (k : Int → Option β) → Option β) (q_impl_Table_depends : (a0 : Int) → (a1 : Int) → (a2 : Int) → (k : Bool → Option β) → Option β) (q_impl_Table_stuck : (a0 : Int) → (a1 : Int) → (a2 : Int) → (a3 : Int) → (k : Int → Int → Option β) → Option β) (self : Int → Int → List Int → List (Int × Int × Int) → Mp → (Int → List Int → Mp → List (Int × Int × Int) → Option β) → Option β) (a0 : Int) (a1 : Int) (a2 : List Int) (a3 : List (Int × Int × Int)) (a4 : Mp) (k0 : Int → List Int → Mp → List (Int × Int × Int) → Option β) : Option β :=
q_impl_Table_isSame a0 a1 fun r4 =>
(cond r4
(q_impl_Table_at a0 a1 0 fun r5 =>
k0 ((w64 ((-2) + r5))) a2 a4 a3)
((cond ((hasM ⟨true, false⟩ a4 a0 a1))
(k0 ((getM ⟨true, false⟩ a4 a0 a1)) a2 a4 a3)
(q_slices_IndexFunc_Sint_int a2 (fun x0 k => q_impl_Table_depends a0 a1 x0 k) fun r6 =>
(gd ((decide (0 ≤ r6)))
((gd ((decide (r6 < (a2.length : Int))))
(q_impl_Table_stuck a0 a1 ((rd 0 a2 r6)) 0 fun r7 r8 =>
self r7 r8 a2 a3 a4 (fun r9_0 r9_1 r9_2 r9_3 =>
q_impl_Table_stuck a0 a1 ((rd 0 a2 r6)) 1 fun r10 r11 =>
self r10 r11 r9_1 r9_3 r9_2 (fun r12_0 r12_1 r12_2 r12_3 =>
(gd ((decide ((r12_3.length + ((([] : List (Int × Int × Int)) ++ [((rd 0 a2 r6), r9_0, r12_0)])).length) * 24 ≤ 140737488355328)))
(k0 ((w64 ((((r12_3 ++ (([] : List (Int × Int × Int)) ++ [((rd 0 a2 r6), r9_0, r12_0)]))).length : Int) - 1))) r12_1 ((putM ⟨true, false⟩ r12_2 a0 a1 ((w64 ((((r12_3 ++ (([] : List (Int × Int × Int)) ++ [((rd 0 a2 r6), r9_0, r12_0)]))).length : Int) - 1))))) ((r12_3 ++ (([] : List (Int × Int × Int)) ++ [((rd 0 a2 r6), r9_0, r12_0)])))))))))))))))
theorem t_impl_diagram_walk_g0_b {β : Type} (N : Nat) (self : Int → Int → List Int → List (Int × Int × Int) → Mp → (Int → List Int → Mp → List (Int × Int × Int) → Option β) → Option β) (a0 : Int) (a1 : Int) (a2 : List Int) (a3 : List (Int × Int × Int)) (a4 : Mp) (k0 : Int → List Int → Mp → List (Int × Int × Int) → Option β) : impl_diagram_walk_g0_b N self a0 a1 a2 a3 a4 k0 = BV_impl_diagram_walk_g0_b N (impl_Table_isSame N) (impl_Table_at N) (slices_IndexFunc_Sint_int N) (impl_Table_depends N) (impl_Table_stuck N) self a0 a1 a2 a3 a4 k0 := by
  unfold impl_diagram_walk_g0_b BV_impl_diagram_walk_g0_b
  rfl
theorem ve152_0 {β : Type} (N : Nat) (q_impl_Table_isSame : (a0 : Int) → (a1 : Int) → (k : Bool → Option β) → Option β) (q_impl_Table_at : (a0 : Int) → (a1 : Int) → (a2 : Int) → (k : Int → Option β) → Option β) (q_slices_IndexFunc_Sint_int : (a0 : List Int) → (a1 : (Int → (Bool → Option β) → Option β)) → (k : Int → Option β) → Option β) (q_impl_Table_depends : (a0 : Int) → (a1 : Int) → (a2 : Int) → (k : Bool → Option β) → Option β) (q_impl_Table_stuck : (a0 : Int) → (a1 : Int) → (a2 : Int) → (a3 : Int) → (k : Int → Int → Option β) → Option β) (q_impl_diagram_walk_g0_f : Nat → Int → Int → List Int → List (Int × Int × Int) → Mp → (Int → List Int → Mp → List (Int × Int × Int) → Option β) → Option β) (G : Nat) (a0 : Int) (a1 : Int) (a2 : List Int) (a3 : List (Int × Int × Int)) (a4 : Mp) (K : TV → List Blk → Option β) : evFnG lay (VE152 N q_impl_Table_isSame q_impl_Table_at q_slices_IndexFunc_Sint_int q_impl_Table_depends q_impl_Table_stuck q_impl_diagram_walk_g0_f G) Tryd.f152 [.v (.one (.ptr 0 0)), .v (.agg [.int .i64 a0, .int .i64 a1])] [.pcells 0 125 [.sl 3 (.ints .i64 a2), .row 1, .mp 2], .row 120 (.trips a3), .pmp 2 ⟨true, false⟩ a4] K = BV_impl_diagram_walk_g0_b N q_impl_Table_isSame q_impl_Table_at q_slices_IndexFunc_Sint_int q_impl_Table_depends q_impl_Table_stuck (q_impl_diagram_walk_g0_f G) a0 a1 a2 a3 a4 (fun y0 y1 y2 y3 => K (.v (.one (.int .i64 y0))) [.pcells 0 125 [.sl 3 (.ints .i64 y1), .row 2, .mp 1], .pmp 2 ⟨true, false⟩ y2, .row 120 (.trips y3)]) := by kernel_rfl
theorem e152_0 {β : Type} (N : Nat) (G : Nat) (a0 : Int) (a1 : Int) (a2 : List Int) (a3 : List (Int × Int × Int)) (a4 : Mp) (K : TV → List Blk → Option β) : evFnG lay (E152 N G) Tryd.f152 [.v (.one (.ptr 0 0)), .v (.agg [.int .i64 a0, .int .i64 a1])] [.pcells 0 125 [.sl 3 (.ints .i64 a2), .row 1, .mp 2], .row 120 (.trips a3), .pmp 2 ⟨true, false⟩ a4] K = impl_diagram_walk_g0_f N (G + 1) a0 a1 a2 a3 a4 (fun y0 y1 y2 y3 => K (.v (.one (.int .i64 y0))) [.pcells 0 125 [.sl 3 (.ints .i64 y1), .row 2, .mp 1], .pmp 2 ⟨true, false⟩ y2, .row 120 (.trips y3)]) := (ve152_0 N (impl_Table_isSame N) (impl_Table_at N) (slices_IndexFunc_Sint_int N) (impl_Table_depends N) (impl_Table_stuck N) (impl_diagram_walk_g0_f N) G a0 a1 a2 a3 a4 K).trans (t_impl_diagram_walk_g0_b N (impl_diagram_walk_g0_f N G) a0 a1 a2 a3 a4 (fun y0 y1 y2 y3 => K (.v (.one (.int .i64 y0))) [.pcells 0 125 [.sl 3 (.ints .i64 y1), .row 2, .mp 1], .pmp 2 ⟨true, false⟩ y2, .row 120 (.trips y3)])).symm
theorem z152 {β : Type} (N : Nat) : ∀ args bl K r, SF152 (β := β) N 0 args bl K = some r → (none : Option β) = some r := by
  intro args bl K r h
  unfold SF152 VSF152 at h
  split at h <;> exact h
theorem of152 {β : Type} (N : Nat) : ∀ G, GOK (β := β) inv Tryd.prog 152 (SF152 N G) := by
  intro G
  induction G with
  | zero => exact g_zero Tryd.func152 (by kernel_rfl) (z152 N)
  | succ G ih =>
    refine g_of lay_ok mixed (E := E152 N G) (specs_loops (specs_cons (o165 N) (specs_cons (o128 N) (specs_cons (o200 N) (specs_cons (o143 N) (specs_cons (o201 N) specs_nil)))))) muts_nil (gs_cons ih gs_nil) Tryd.func152 (by kernel_rfl) 0 (by kernel_rfl) trivial fun args bl K r h => ?_
    unfold SF152 VSF152 at h
    split at h
    · exact (e152_0 N G _ _ _ _ _ _).trans h
    · cases h
theorem o152 {β : Type} (N : Nat) : GOK (β := β) inv Tryd.prog 152 (S152 N) := of152 N N
def VS90 {β : Type} (N : Nat) (q_impl_Table_diagram : (a0 : Int) → (a1 : Int) → (a2 : List Int) → (k : List (Int × Int × Int) → Option β) → Option β) : Rv.Spec β := fun args K => match args with
  | [.v (.agg [.int .i64 a0, .int .i64 a1]), .v (.one (.sl 3 (.ints .i64 a2)))] => q_impl_Table_diagram a0 a1 a2 (fun z3 => K (.v (.one (.sl 120 (.trips z3)))))
  | _ => none
def S90 {β : Type} (N : Nat) : Rv.Spec β := VS90 N (impl_Table_diagram N)
def VE90 {β : Type} (N : Nat) (q_impl_diagram_walk_g0_f : Nat → Int → Int → List Int → List (Int × Int × Int) → Mp → (Int → List Int → Mp → List (Int × Int × Int) → Option β) → Option β) : Env β := ⟨[], [], [], [(152, VS152 N q_impl_diagram_walk_g0_f)], ⟨[], [], [145], [149, 152, 199]⟩⟩
def E90 {β : Type} (N : Nat) : Env β := VE90 N (impl_diagram_walk_g0_f N)
def BV_impl_Table_diagram {β : Type} (N : Nat) (q_impl_diagram_walk_g0_f : Nat → Int → Int → List Int → List (Int × Int × Int) → Mp → (Int → List Int → Mp → List (Int × Int × Int) → Option β) → Option β) (a0 : Int) (a1 : Int) (a2 : List Int) (k : List (Int × Int × Int) → Option β) : Option β :=
q_impl_diagram_walk_g0_f N a0 a1 a2 (([] : List (Int × Int × Int))) (([] : Mp)) (fun r4_0 r4_1 r4_2 r4_3 =>
k r4_3)
theorem t_impl_Table_diagram {β : Type} (N : Nat) (a0 : Int) (a1 : Int) (a2 : List Int) (k : List (Int × Int × Int) → Option β) : impl_Table_diagram N a0 a1 a2 k = BV_impl_Table_diagram N (impl_diagram_walk_g0_f N) a0 a1 a2 k := by
  unfold impl_Table_diagram BV_impl_Table_diagram
  rfl
theorem ve90_0 {β : Type} (N : Nat) (q_impl_diagram_walk_g0_f : Nat → Int → Int → List Int → List (Int × Int × Int) → Mp → (Int → List Int → Mp → List (Int × Int × Int) → Option β) → Option β)  (a0 : Int) (a1 : Int) (a2 : List Int) (K : TV → Option β) : evFn lay (VE90 N q_impl_diagram_walk_g0_f) Tryd.f90 [.v (.agg [.int .i64 a0, .int .i64 a1]), .v (.one (.sl 3 (.ints .i64 a2)))] K = BV_impl_Table_diagram N q_impl_diagram_walk_g0_f a0 a1 a2 (fun z3 => K (.v (.one (.sl 120 (.trips z3))))) := by kernel_rfl
theorem e90_0 {β : Type} (N : Nat)  (a0 : Int) (a1 : Int) (a2 : List Int) (K : TV → Option β) : evFn lay (E90 N) Tryd.f90 [.v (.agg [.int .i64 a0, .int .i64 a1]), .v (.one (.sl 3 (.ints .i64 a2)))] K = impl_Table_diagram N a0 a1 a2 (fun z3 => K (.v (.one (.sl 120 (.trips z3))))) := (ve90_0 N (impl_diagram_walk_g0_f N) a0 a1 a2 K).trans (t_impl_Table_diagram N a0 a1 a2 (fun z3 => K (.v (.one (.sl 120 (.trips z3)))))).symm
theorem o90 {β : Type} (N : Nat) : SpecOK (β := β) inv Tryd.prog 90 (S90 N) := by
  refine spec_of lay_ok mixed (E := E90 N) (specs_loops specs_nil) muts_nil (gs_cons (o152 N) gs_nil) Tryd.func90 (by kernel_rfl) 0 (by kernel_rfl) trivial fun args K r h => ?_
  unfold S90 VS90 at h
  split at h
  · exact (e90_0 N _ _ _ _).trans h
  · cases h
def VS88 {β : Type} (N : Nat) (q_impl_LeastOrder : (a0 : Int) → (a1 : Int) → (k : List Int → Int → Bool → Option β) → Option β) : Rv.Spec β := fun args K => match args with
  | [.v (.agg [.int .i64 a0, .int .i64 a1])] => q_impl_LeastOrder a0 a1 (fun z2 z3 z4 => K (.tup [.one (.fsl 3 (.ints .i64 z2)), .one (.int .i64 z3), .one (.bool z4)]))
  | _ => none
def S88 {β : Type} (N : Nat) : Rv.Spec β := VS88 N (impl_LeastOrder N)
def h88_0_0  (v0 : List Int) (v1 : Int) (v2 : Int) (v3 : Int) (v4 : Int) (v5 : Int) (v6 : List (List Int)) : St := ⟨.v (.one .und) :: .v (.one (.ptr 0 0)) :: .v (.one .und) :: .v (.one .und) :: .v (.one .und) :: .v (.one (.fsl 3 (.ints .i64 v0))) :: .v (.one (.int .i64 v1)) :: .v (.one .und) :: .v (.one .und) :: .v (.one .und) :: .v (.one .und) :: .v (.one .und) :: .v (.one .und) :: .v (.one .und) :: .v (.one .und) :: .v (.one (.row 1)) :: .v (.one (.int .i64 v2)) :: .v (.one (.int .i64 v3)) :: .v (.one .und) :: .v (.one .und) :: .v (.one .und) :: .v (.one .und) :: .v (.one .und) :: .v (.one .und) :: .v (.one .und) :: .v (.one .und) :: .v (.one .und) :: .v (.one .und) :: .v (.one .und) :: .v (.one .und) :: .v (.one .und) :: .v (.one .und) :: .v (.one .und) :: .v (.one .und) :: .v (.one .und) :: .v (.one .und) :: .v (.one .und) :: [], [.cells 24 [.int .i64 v4, .int .i64 v5], .row 25 (.lists 3 v6)]⟩
def x88_0_0_k0  (y0 : List Int) (y1 : Int) : St := ⟨.v (.one .und) :: .v (.one .und) :: .v (.one .und) :: .v (.one .und) :: .v (.one .und) :: .v (.one (.fsl 3 (.ints .i64 y0))) :: .v (.one (.int .i64 y1)) :: .v (.one .und) :: .v (.one .und) :: .v (.one .und) :: .v (.one .und) :: .v (.one .und) :: .v (.one .und) :: .v (.one .und) :: .v (.one .und) :: .v (.one .und) :: .v (.one .und) :: .v (.one .und) :: .v (.one .und) :: .v (.one .und) :: .v (.one .und) :: .v (.one .und) :: .v (.one .und) :: .v (.one .und) :: .v (.one .und) :: .v (.one .und) :: .v (.one .und) :: .v (.one .und) :: .v (.one .und) :: .v (.one .und) :: .v (.one .und) :: .v (.one .und) :: .v (.one .und) :: .v (.one .und) :: .v (.one .und) :: .v (.one .und) :: .v (.one .und) :: [], []⟩
theorem fl88_0_0 (s : St) : refSt (h88_0_0 [] 0 0 0 0 0 []) s = h88_0_0 (rInts (rowV (oneA (vT (nx tund s.tmps 5))))) (intS (oneA (vT (nx tund s.tmps 6)))) (intS (oneA (vT (nx tund s.tmps 16)))) (intS (oneA (vT (nx tund s.tmps 17)))) (intS (nx .und (cellsB (nx .dead s.blks 0)) 0)) (intS (nx .und (cellsB (nx .dead s.blks 0)) 1)) (rLists (rowB_ (nx .dead s.blks 1))) := by kernel_rfl
def VLS88_0 {β : Type} (N : Nat) (q_impl_LeastOrder_l0 : Nat → List Int → Int → Int → Int → Int → Int → List (List Int) → (List Int → Int → Option β) → Option β) : LSpec β := fun s K => cond (shpSt (h88_0_0 [] 0 0 0 0 0 []) s) ((fun (v0 : List Int) (v1 : Int) (v2 : Int) (v3 : Int) (v4 : Int) (v5 : Int) (v6 : List (List Int)) => q_impl_LeastOrder_l0  N v0 v1 v2 v3 v4 v5 v6 (fun y0 y1 => K (.exit 0) (x88_0_0_k0  y0 y1))) (rInts (rowV (oneA (vT (nx tund s.tmps 5))))) (intS (oneA (vT (nx tund s.tmps 6)))) (intS (oneA (vT (nx tund s.tmps 16)))) (intS (oneA (vT (nx tund s.tmps 17)))) (intS (nx .und (cellsB (nx .dead s.blks 0)) 0)) (intS (nx .und (cellsB (nx .dead s.blks 0)) 1)) (rLists (rowB_ (nx .dead s.blks 1)))) (none)
def LS88_0 {β : Type} (N : Nat) : LSpec β := VLS88_0 N (impl_LeastOrder_l0 N)
def VE88 {β : Type} (N : Nat) (q_impl_isSmall : (a0 : Int) → (a1 : Int) → (a2 : Int) → (k : Bool → Option β) → Option β) (q_impl_permutations : (a0 : Int) → (k : List (List Int) → Option β) → Option β) (q_impl_Table_diagram : (a0 : Int) → (a1 : Int) → (a2 : List Int) → (k : List (Int × Int × Int) → Option β) → Option β) (q_impl_LeastOrder_l0 : Nat → List Int → Int → Int → Int → Int → Int → List (List Int) → (List Int → Int → Option β) → Option β) : Env β := ⟨[(107, VS107 N q_impl_isSmall), (150, VS150 N q_impl_permutations), (90, VS90 N q_impl_Table_diagram)], [], [(0, VLS88_0 N q_impl_LeastOrder_l0)], [], ⟨[], [5], [145], [149, 152, 199]⟩⟩
def E88 {β : Type} (N : Nat) : Env β := VE88 N (impl_isSmall N) (impl_permutations N) (impl_Table_diagram N) (impl_LeastOrder_l0 N)
def BV_impl_LeastOrder_l0b {β : Type} (N : Nat) (q_impl_Table_diagram : (a0 : Int) → (a1 : Int) → (a2 : List Int) → (k : List (Int × Int × Int) → Option β) → Option β)  (v0 : List Int) (v1 : Int) (v2 : Int) (v3 : Int) (v4 : Int) (v5 : Int) (v6 : List (List Int)) (rec_ : List Int → Int → Int → Int → Int → Int → List (List Int) → Option β) (k0 : List Int → Int → Option β) : Option β :=
(cond ((decide (v3 < v2)))
((gd ((decide (0 ≤ v3)))
((gd ((decide (v3 < (v6.length : Int))))
(q_impl_Table_diagram v4 v5 ((rd [] v6 v3)) fun r7 =>
(cond ((decide (v1 < 0)))
(rec_ ((rd [] v6 v3)) ((r7.length : Int)) v2 ((w64 (v3 + 1))) v4 v5 v6)
((cond ((decide ((r7.length : Int) < v1)))
(rec_ ((rd [] v6 v3)) ((r7.length : Int)) v2 ((w64 (v3 + 1))) v4 v5 v6)
(rec_ v0 v1 v2 ((w64 (v3 + 1))) v4 v5 v6)))))))))
(k0 v0 v1))
theorem t_impl_LeastOrder_l0b {β : Type} (N : Nat)  (v0 : List Int) (v1 : Int) (v2 : Int) (v3 : Int) (v4 : Int) (v5 : Int) (v6 : List (List Int)) (rec_ : List Int → Int → Int → Int → Int → Int → List (List Int) → Option β) (k0 : List Int → Int → Option β) : impl_LeastOrder_l0b N v0 v1 v2 v3 v4 v5 v6 rec_ k0 = BV_impl_LeastOrder_l0b N (impl_Table_diagram N) v0 v1 v2 v3 v4 v5 v6 rec_ k0 := by
  unfold impl_LeastOrder_l0b BV_impl_LeastOrder_l0b
  rfl
theorem vst88_0_0 {β : Type} (N : Nat) (q_impl_isSmall : (a0 : Int) → (a1 : Int) → (a2 : Int) → (k : Bool → Option β) → Option β) (q_impl_permutations : (a0 : Int) → (k : List (List Int) → Option β) → Option β) (q_impl_Table_diagram : (a0 : Int) → (a1 : Int) → (a2 : List Int) → (k : List (Int × Int × Int) → Option β) → Option β) (q_impl_LeastOrder_l0 : Nat → List Int → Int → Int → Int → Int → Int → List (List Int) → (List Int → Int → Option β) → Option β)  (v0 : List Int) (v1 : Int) (v2 : Int) (v3 : Int) (v4 : Int) (v5 : Int) (v6 : List (List Int)) (rec_ : St → Option β) (K : Exit → St → Option β) :
    ev lay (VE88 N q_impl_isSmall q_impl_permutations q_impl_Table_diagram q_impl_LeastOrder_l0) (retMask Tryd.f88) (lp Tryd.f88 0).body (lp Tryd.f88 0).ex ((lp Tryd.f88 0).lv (retMask Tryd.f88)) (h88_0_0  v0 v1 v2 v3 v4 v5 v6) (nextR (fun s' => rec_ (s'.tidy ((lp Tryd.f88 0).lv (retMask Tryd.f88)))) K) = BV_impl_LeastOrder_l0b N q_impl_Table_diagram  v0 v1 v2 v3 v4 v5 v6 (fun v0 v1 v2 v3 v4 v5 v6 => rec_ (h88_0_0  v0 v1 v2 v3 v4 v5 v6)) (fun y0 y1 => K (.exit 0) (x88_0_0_k0  y0 y1)) := by kernel_rfl
theorem st88_0_0 {β : Type} (N : Nat)  (v0 : List Int) (v1 : Int) (v2 : Int) (v3 : Int) (v4 : Int) (v5 : Int) (v6 : List (List Int)) (rec_ : St → Option β) (K : Exit → St → Option β) :
    ev lay (E88 N) (retMask Tryd.f88) (lp Tryd.f88 0).body (lp Tryd.f88 0).ex ((lp Tryd.f88 0).lv (retMask Tryd.f88)) (h88_0_0  v0 v1 v2 v3 v4 v5 v6) (nextR (fun s' => rec_ (s'.tidy ((lp Tryd.f88 0).lv (retMask Tryd.f88)))) K) = impl_LeastOrder_l0b N  v0 v1 v2 v3 v4 v5 v6 (fun v0 v1 v2 v3 v4 v5 v6 => rec_ (h88_0_0  v0 v1 v2 v3 v4 v5 v6)) (fun y0 y1 => K (.exit 0) (x88_0_0_k0  y0 y1)) := (vst88_0_0 N (impl_isSmall N) (impl_permutations N) (impl_Table_diagram N) (impl_LeastOrder_l0 N) v0 v1 v2 v3 v4 v5 v6 rec_ K).trans (t_impl_LeastOrder_l0b N  v0 v1 v2 v3 v4 v5 v6 (fun v0 v1 v2 v3 v4 v5 v6 => rec_ (h88_0_0  v0 v1 v2 v3 v4 v5 v6)) (fun y0 y1 => K (.exit 0) (x88_0_0_k0  y0 y1))).symm
theorem ro88_0_0 {β : Type} (N : Nat)  (K : Exit → St → Option β) : ∀ (F : Nat) (v0 : List Int) (v1 : Int) (v2 : Int) (v3 : Int) (v4 : Int) (v5 : Int) (v6 : List (List Int)), (lp Tryd.f88 0).rounds lay (E88 N) (retMask Tryd.f88) F (h88_0_0  v0 v1 v2 v3 v4 v5 v6) K = impl_LeastOrder_l0 N  F v0 v1 v2 v3 v4 v5 v6 (fun y0 y1 => K (.exit 0) (x88_0_0_k0  y0 y1)) := by
  intro F
  induction F with
  | zero => intros; rfl
  | succ F ih =>
    intros
    rw [rounds_next]
    refine (st88_0_0 N  _ _ _ _ _ _ _ (fun s => (lp Tryd.f88 0).rounds lay (E88 N) (retMask Tryd.f88) F s K) K).trans ?_
    simp only [ih]
    rfl
theorem lk88_0 {β : Type} (N : Nat) : lookL (E88 (β := β) N).loops (lp Tryd.f88 0).id = LS88_0 N := by kernel_rfl
theorem rk88_0 {β : Type} (N : Nat) : RoundsOK lay (E88 (β := β) N) (retMask Tryd.f88) (lp Tryd.f88 0) := by
  intro s K r h
  rw [lk88_0] at h
  unfold LS88_0 VLS88_0 at h
  cases hb : shpSt (h88_0_0 [] 0 0 0 0 0 []) s with
  | true =>
    rw [hb, cond_true] at h
    exact ⟨N, by rw [← shpSt_ref hb, fl88_0_0 s]; exact (ro88_0_0 N  K N (rInts (rowV (oneA (vT (nx tund s.tmps 5))))) (intS (oneA (vT (nx tund s.tmps 6)))) (intS (oneA (vT (nx tund s.tmps 16)))) (intS (oneA (vT (nx tund s.tmps 17)))) (intS (nx .und (cellsB (nx .dead s.blks 0)) 0)) (intS (nx .und (cellsB (nx .dead s.blks 0)) 1)) (rLists (rowB_ (nx .dead s.blks 1)))).trans h⟩
  | false =>
  rw [hb, cond_false] at h
  clear hb
  cases h
def BV_impl_LeastOrder {β : Type} (N : Nat) (q_impl_isSmall : (a0 : Int) → (a1 : Int) → (a2 : Int) → (k : Bool → Option β) → Option β) (q_impl_permutations : (a0 : Int) → (k : List (List Int) → Option β) → Option β) (q_impl_LeastOrder_l0 : Nat → List Int → Int → Int → Int → Int → Int → List (List Int) → (List Int → Int → Option β) → Option β) (a0 : Int) (a1 : Int) (k : List Int → Int → Bool → Option β) : Option β :=
q_impl_isSmall a0 a1 4 fun r5 =>
(cond (!r5)
(k (([] : List Int)) 0 false)
(q_impl_permutations a0 fun r6 =>
q_impl_LeastOrder_l0  N (([] : List Int)) (-1) ((r6.length : Int)) 0 a0 a1 r6 (fun e8_0 e8_1 =>
k e8_0 e8_1 true)))
theorem t_impl_LeastOrder {β : Type} (N : Nat) (a0 : Int) (a1 : Int) (k : List Int → Int → Bool → Option β) : impl_LeastOrder N a0 a1 k = BV_impl_LeastOrder N (impl_isSmall N) (impl_permutations N) (impl_LeastOrder_l0 N) a0 a1 k := by
  unfold impl_LeastOrder BV_impl_LeastOrder
  rfl
theorem ve88_0 {β : Type} (N : Nat) (q_impl_isSmall : (a0 : Int) → (a1 : Int) → (a2 : Int) → (k : Bool → Option β) → Option β) (q_impl_permutations : (a0 : Int) → (k : List (List Int) → Option β) → Option β) (q_impl_Table_diagram : (a0 : Int) → (a1 : Int) → (a2 : List Int) → (k : List (Int × Int × Int) → Option β) → Option β) (q_impl_LeastOrder_l0 : Nat → List Int → Int → Int → Int → Int → Int → List (List Int) → (List Int → Int → Option β) → Option β)  (a0 : Int) (a1 : Int) (K : TV → Option β) : evFn lay (VE88 N q_impl_isSmall q_impl_permutations q_impl_Table_diagram q_impl_LeastOrder_l0) Tryd.f88 [.v (.agg [.int .i64 a0, .int .i64 a1])] (frzK K) = BV_impl_LeastOrder N q_impl_isSmall q_impl_permutations q_impl_LeastOrder_l0 a0 a1 (fun z2 z3 z4 => K (.tup [.one (.fsl 3 (.ints .i64 z2)), .one (.int .i64 z3), .one (.bool z4)])) := by kernel_rfl
theorem e88_0 {β : Type} (N : Nat)  (a0 : Int) (a1 : Int) (K : TV → Option β) : evFn lay (E88 N) Tryd.f88 [.v (.agg [.int .i64 a0, .int .i64 a1])] (frzK K) = impl_LeastOrder N a0 a1 (fun z2 z3 z4 => K (.tup [.one (.fsl 3 (.ints .i64 z2)), .one (.int .i64 z3), .one (.bool z4)])) := (ve88_0 N (impl_isSmall N) (impl_permutations N) (impl_Table_diagram N) (impl_LeastOrder_l0 N) a0 a1 K).trans (t_impl_LeastOrder N a0 a1 (fun z2 z3 z4 => K (.tup [.one (.fsl 3 (.ints .i64 z2)), .one (.int .i64 z3), .one (.bool z4)]))).symm
theorem o88 {β : Type} (N : Nat) : SpecOK (β := β) inv Tryd.prog 88 (S88 N) := by
  refine spec_of_frz lay_ok mixed (E := E88 N) (specs_loops (specs_cons (o107 N) (specs_cons (o150 N) (specs_cons (o90 N) specs_nil)))) muts_nil gs_nil Tryd.func88 (by kernel_rfl) 1 (by kernel_rfl) ⟨trivial, rk88_0 N⟩ fun args K r h => ?_
  unfold S88 VS88 at h
  split at h
  · exact (e88_0 N _ _ _).trans h
  · cases h
def VS64 {β : Type} (N : Nat) (q_impl_FormatInt : (a0 : Int) → (k : ByteArray → Option β) → Option β) : Rv.Spec β := fun args K => match args with
  | [.v (.one (.int .i64 a0))] => q_impl_FormatInt a0 (fun z1 => K (.v (.one (.str z1))))
  | _ => none
def S64 {β : Type} (N : Nat) : Rv.Spec β := VS64 N (impl_FormatInt N)
def VE64 {β : Type} (N : Nat) : Env β := ⟨[(130, S130 N)], [], [], [], ⟨[], [], [145], [149, 152, 199]⟩⟩
def E64 {β : Type} (N : Nat) : Env β := VE64 N
def BV_impl_FormatInt {β : Type} (N : Nat) (a0 : Int) (k : ByteArray → Option β) : Option β :=
strconv_Itoa N a0 fun r2 =>
k r2
theorem t_impl_FormatInt {β : Type} (N : Nat) (a0 : Int) (k : ByteArray → Option β) : impl_FormatInt N a0 k = BV_impl_FormatInt N a0 k := by
  unfold impl_FormatInt BV_impl_FormatInt
  rfl
theorem ve64_0 {β : Type} (N : Nat)  (a0 : Int) (K : TV → Option β) : evFn lay (VE64 N) Tryd.f64 [.v (.one (.int .i64 a0))] K = BV_impl_FormatInt N a0 (fun z1 => K (.v (.one (.str z1)))) := by kernel_rfl
theorem e64_0 {β : Type} (N : Nat)  (a0 : Int) (K : TV → Option β) : evFn lay (E64 N) Tryd.f64 [.v (.one (.int .i64 a0))] K = impl_FormatInt N a0 (fun z1 => K (.v (.one (.str z1)))) := (ve64_0 N a0 K).trans (t_impl_FormatInt N a0 (fun z1 => K (.v (.one (.str z1))))).symm
theorem o64 {β : Type} (N : Nat) : SpecOK (β := β) inv Tryd.prog 64 (S64 N) := by
  refine spec_of lay_ok mixed (E := E64 N) (specs_loops (specs_cons (o130 N) specs_nil)) muts_nil gs_nil Tryd.func64 (by kernel_rfl) 0 (by kernel_rfl) trivial fun args K r h => ?_
  unfold S64 VS64 at h
  split at h
  · exact (e64_0 N _ _).trans h
  · cases h
end Go.Proofs.YtfdggelojmofmaaDoor
