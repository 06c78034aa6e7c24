/- The functions that the claims reach answer as their texts do. -/
import Derived.Test.YtdkjnadhgdneaaaE5
namespace Go.Proofs.Ytdkjnadhgdneaaa
open Go.Rv
set_option maxRecDepth 100000
set_option maxHeartbeats 2000000
set_option linter.unusedVariables false
def VS148 {β : Type} (N : Nat) (q_impl_degree : (a0 : Int) → (a1 : (Int → (Bool → Option β) → Option β)) → (k : Int → Option β) → Option β) (q_impl_RealDegree_1 : (a0 : Int) → (c0 : List Int) → (k : Bool → Option β) → Option β) (q_impl_DegreeMod2_1 : (a0 : Int) → (c0 : Int) → (c1 : Int) → (k : Bool → Option β) → Option β) : Rv.Spec β := fun args K => match args with
  | [.v (.one (.int .i64 a0)), .v (.one (.dfn 149 [([.sl 3 (.ints .i64 q0)], 0)]))] => q_impl_degree a0 (fun x0 k => q_impl_RealDegree_1 x0 q0 k) (fun z2 => K (.v (.one (.int .i64 z2))))
  | [.v (.one (.int .i64 a0)), .v (.one (.dfn 151 [([.int .i64 q0, .int .i64 q1], 0)]))] => q_impl_degree a0 (fun x0 k => q_impl_DegreeMod2_1 x0 q0 q1 k) (fun z2 => K (.v (.one (.int .i64 z2))))
  | _ => none
def S148 {β : Type} (N : Nat) : Rv.Spec β := VS148 N (impl_degree N) (impl_RealDegree_1 N) (impl_DegreeMod2_1 N)
def h148_0_0 (q0 : List Int) (v0 : Int) (v1 : Int) (v2 : Int) : St := ⟨.v (.one .und) :: .v (.one (.dfn 149 [([.sl 3 (.ints .i64 q0)], 0)])) :: .v (.one .und) :: .v (.one .und) :: .v (.one .und) :: .v (.one (.int .i64 v0)) :: .v (.one .und) :: .v (.one .und) :: .v (.one (.int .i64 v1)) :: .v (.one (.int .i64 v2)) :: .v (.one .und) :: .v (.one .und) :: .v (.one .und) :: .v (.one .und) :: .v (.one .und) :: .v (.one .und) :: .v (.one .und) :: .v (.one .und) :: .v (.one .und) :: .v (.one .und) :: .v (.one .und) :: [], []⟩
def x148_0_0_k0 (q0 : List Int) (y0 : Int) : St := ⟨.v (.one .und) :: .v (.one .und) :: .v (.one .und) :: .v (.one .und) :: .v (.one .und) :: .v (.one (.int .i64 y0)) :: .v (.one .und) :: .v (.one .und) :: .v (.one .und) :: .v (.one .und) :: .v (.one .und) :: .v (.one .und) :: .v (.one .und) :: .v (.one .und) :: .v (.one .und) :: .v (.one .und) :: .v (.one .und) :: .v (.one .und) :: .v (.one .und) :: .v (.one .und) :: .v (.one .und) :: [], []⟩
def h148_0_1 (q0 : Int) (q1 : Int) (v0 : Int) (v1 : Int) (v2 : Int) : St := ⟨.v (.one .und) :: .v (.one (.dfn 151 [([.int .i64 q0, .int .i64 q1], 0)])) :: .v (.one .und) :: .v (.one .und) :: .v (.one .und) :: .v (.one (.int .i64 v0)) :: .v (.one .und) :: .v (.one .und) :: .v (.one (.int .i64 v1)) :: .v (.one (.int .i64 v2)) :: .v (.one .und) :: .v (.one .und) :: .v (.one .und) :: .v (.one .und) :: .v (.one .und) :: .v (.one .und) :: .v (.one .und) :: .v (.one .und) :: .v (.one .und) :: .v (.one .und) :: .v (.one .und) :: [], []⟩
def x148_0_1_k0 (q0 : Int) (q1 : Int) (y0 : Int) : St := ⟨.v (.one .und) :: .v (.one .und) :: .v (.one .und) :: .v (.one .und) :: .v (.one .und) :: .v (.one (.int .i64 y0)) :: .v (.one .und) :: .v (.one .und) :: .v (.one .und) :: .v (.one .und) :: .v (.one .und) :: .v (.one .und) :: .v (.one .und) :: .v (.one .und) :: .v (.one .und) :: .v (.one .und) :: .v (.one .und) :: .v (.one .und) :: .v (.one .und) :: .v (.one .und) :: .v (.one .und) :: [], []⟩
theorem fl148_0_0 (s : St) : refSt (h148_0_0 [] 0 0 0) s = h148_0_0 (rInts (rowF (nx .no (nx ([], 0) (dfnS (oneA (vT (nx tund s.tmps 1)))) 0).1 0))) (intS (oneA (vT (nx tund s.tmps 5)))) (intS (oneA (vT (nx tund s.tmps 8)))) (intS (oneA (vT (nx tund s.tmps 9)))) := by kernel_rfl
theorem fl148_0_1 (s : St) : refSt (h148_0_1 0 0 0 0 0) s = h148_0_1 (intF (nx .no (nx ([], 0) (dfnS (oneA (vT (nx tund s.tmps 1)))) 0).1 0)) (intF (nx .no (nx ([], 0) (dfnS (oneA (vT (nx tund s.tmps 1)))) 0).1 1)) (intS (oneA (vT (nx tund s.tmps 5)))) (intS (oneA (vT (nx tund s.tmps 8)))) (intS (oneA (vT (nx tund s.tmps 9)))) := by kernel_rfl
def VLS148_0 {β : Type} (N : Nat) (q_impl_degree_l0 : (a1 : (Int → (Bool → Option β) → Option β)) → Nat → Int → Int → Int → (Int → Option β) → Option β) (q_impl_RealDegree_1 : (a0 : Int) → (c0 : List Int) → (k : Bool → Option β) → Option β) (q_impl_DegreeMod2_1 : (a0 : Int) → (c0 : Int) → (c1 : Int) → (k : Bool → Option β) → Option β) : LSpec β := fun s K => cond (shpSt (h148_0_0 [] 0 0 0) s) ((fun (q0 : List Int) (v0 : Int) (v1 : Int) (v2 : Int) => q_impl_degree_l0 (fun x0 k => q_impl_RealDegree_1 x0 q0 k) N v0 v1 v2 (fun y0 => K (.exit 0) (x148_0_0_k0 q0 y0))) (rInts (rowF (nx .no (nx ([], 0) (dfnS (oneA (vT (nx tund s.tmps 1)))) 0).1 0))) (intS (oneA (vT (nx tund s.tmps 5)))) (intS (oneA (vT (nx tund s.tmps 8)))) (intS (oneA (vT (nx tund s.tmps 9))))) (cond (shpSt (h148_0_1 0 0 0 0 0) s) ((fun (q0 : Int) (q1 : Int) (v0 : Int) (v1 : Int) (v2 : Int) => q_impl_degree_l0 (fun x0 k => q_impl_DegreeMod2_1 x0 q0 q1 k) N v0 v1 v2 (fun y0 => K (.exit 0) (x148_0_1_k0 q0 q1 y0))) (intF (nx .no (nx ([], 0) (dfnS (oneA (vT (nx tund s.tmps 1)))) 0).1 0)) (intF (nx .no (nx ([], 0) (dfnS (oneA (vT (nx tund s.tmps 1)))) 0).1 1)) (intS (oneA (vT (nx tund s.tmps 5)))) (intS (oneA (vT (nx tund s.tmps 8)))) (intS (oneA (vT (nx tund s.tmps 9))))) (none))
def LS148_0 {β : Type} (N : Nat) : LSpec β := VLS148_0 N (impl_degree_l0 N) (impl_RealDegree_1 N) (impl_DegreeMod2_1 N)
def VE148 {β : Type} (N : Nat) (q_impl_ones : (a0 : Int) → (k : Int → Option β) → Option β) (q_impl_RealDegree_1 : (a0 : Int) → (c0 : List Int) → (k : Bool → Option β) → Option β) (q_impl_DegreeMod2_1 : (a0 : Int) → (c0 : Int) → (c1 : Int) → (k : Bool → Option β) → Option β) (q_impl_degree_l0 : (a1 : (Int → (Bool → Option β) → Option β)) → Nat → Int → Int → Int → (Int → Option β) → Option β) : Env β := ⟨[(64, VS64 N q_impl_ones), (149, VS149 N q_impl_RealDegree_1), (151, VS151 N q_impl_DegreeMod2_1)], [], [(0, VLS148_0 N q_impl_degree_l0 q_impl_RealDegree_1 q_impl_DegreeMod2_1)], []⟩
def E148 {β : Type} (N : Nat) : Env β := VE148 N (impl_ones N) (impl_RealDegree_1 N) (impl_DegreeMod2_1 N) (impl_degree_l0 N)
def BV_impl_degree_l0b {β : Type} (N : Nat) (q_impl_ones : (a0 : Int) → (k : Int → Option β) → Option β) (a1 : (Int → (Bool → Option β) → Option β)) (v0 : Int) (v1 : Int) (v2 : Int) (rec_ : Int → Int → Int → Option β) (k0 : Int → Option β) : Option β :=
(cond ((decide (v2 < v1)))
(a1 v2 fun r3 =>
(cond r3
(q_impl_ones v2 fun r4 =>
rec_ ((mxI v0 r4)) v1 ((w64 (v2 + 1))))
(rec_ v0 v1 ((w64 (v2 + 1))))))
(k0 v0))
theorem t_impl_degree_l0b {β : Type} (N : Nat) (a1 : (Int → (Bool → Option β) → Option β)) (v0 : Int) (v1 : Int) (v2 : Int) (rec_ : Int → Int → Int → Option β) (k0 : Int → Option β) : impl_degree_l0b N a1 v0 v1 v2 rec_ k0 = BV_impl_degree_l0b N (impl_ones N) a1 v0 v1 v2 rec_ k0 := by
  unfold impl_degree_l0b BV_impl_degree_l0b
  rfl
theorem vst148_0_0 {β : Type} (N : Nat) (q_impl_ones : (a0 : Int) → (k : Int → Option β) → Option β) (q_impl_RealDegree_1 : (a0 : Int) → (c0 : List Int) → (k : Bool → Option β) → Option β) (q_impl_DegreeMod2_1 : (a0 : Int) → (c0 : Int) → (c1 : Int) → (k : Bool → Option β) → Option β) (q_impl_degree_l0 : (a1 : (Int → (Bool → Option β) → Option β)) → Nat → Int → Int → Int → (Int → Option β) → Option β) (q0 : List Int) (v0 : Int) (v1 : Int) (v2 : Int) (rec_ : St → Option β) (K : Exit → St → Option β) :
    ev lay (VE148 N q_impl_ones q_impl_RealDegree_1 q_impl_DegreeMod2_1 q_impl_degree_l0) (retMask Try.f148) (lp Try.f148 0).body (lp Try.f148 0).ex ((lp Try.f148 0).lv (retMask Try.f148)) (h148_0_0 q0 v0 v1 v2) (nextR (fun s' => rec_ (s'.tidy ((lp Try.f148 0).lv (retMask Try.f148)))) K) = BV_impl_degree_l0b N q_impl_ones (fun x0 k => q_impl_RealDegree_1 x0 q0 k) v0 v1 v2 (fun v0 v1 v2 => rec_ (h148_0_0 q0 v0 v1 v2)) (fun y0 => K (.exit 0) (x148_0_0_k0 q0 y0)) := by kernel_rfl
theorem st148_0_0 {β : Type} (N : Nat) (q0 : List Int) (v0 : Int) (v1 : Int) (v2 : Int) (rec_ : St → Option β) (K : Exit → St → Option β) :
    ev lay (E148 N) (retMask Try.f148) (lp Try.f148 0).body (lp Try.f148 0).ex ((lp Try.f148 0).lv (retMask Try.f148)) (h148_0_0 q0 v0 v1 v2) (nextR (fun s' => rec_ (s'.tidy ((lp Try.f148 0).lv (retMask Try.f148)))) K) = impl_degree_l0b N (fun x0 k => impl_RealDegree_1 N x0 q0 k) v0 v1 v2 (fun v0 v1 v2 => rec_ (h148_0_0 q0 v0 v1 v2)) (fun y0 => K (.exit 0) (x148_0_0_k0 q0 y0)) := (vst148_0_0 N (impl_ones N) (impl_RealDegree_1 N) (impl_DegreeMod2_1 N) (impl_degree_l0 N) q0 v0 v1 v2 rec_ K).trans (t_impl_degree_l0b N (fun x0 k => impl_RealDegree_1 N x0 q0 k) v0 v1 v2 (fun v0 v1 v2 => rec_ (h148_0_0 q0 v0 v1 v2)) (fun y0 => K (.exit 0) (x148_0_0_k0 q0 y0))).symm
theorem ro148_0_0 {β : Type} (N : Nat) (q0 : List Int) (K : Exit → St → Option β) : ∀ (F : Nat) (v0 : Int) (v1 : Int) (v2 : Int), (lp Try.f148 0).rounds lay (E148 N) (retMask Try.f148) F (h148_0_0 q0 v0 v1 v2) K = impl_degree_l0 N (fun x0 k => impl_RealDegree_1 N x0 q0 k) F v0 v1 v2 (fun y0 => K (.exit 0) (x148_0_0_k0 q0 y0)) := by
  intro F
  induction F with
  | zero => intros; rfl
  | succ F ih =>
    intros
    rw [rounds_next]
    refine (st148_0_0 N q0 _ _ _ (fun s => (lp Try.f148 0).rounds lay (E148 N) (retMask Try.f148) F s K) K).trans ?_
    simp only [ih]
    rfl
theorem vst148_0_1 {β : Type} (N : Nat) (q_impl_ones : (a0 : Int) → (k : Int → Option β) → Option β) (q_impl_RealDegree_1 : (a0 : Int) → (c0 : List Int) → (k : Bool → Option β) → Option β) (q_impl_DegreeMod2_1 : (a0 : Int) → (c0 : Int) → (c1 : Int) → (k : Bool → Option β) → Option β) (q_impl_degree_l0 : (a1 : (Int → (Bool → Option β) → Option β)) → Nat → Int → Int → Int → (Int → Option β) → Option β) (q0 : Int) (q1 : Int) (v0 : Int) (v1 : Int) (v2 : Int) (rec_ : St → Option β) (K : Exit → St → Option β) :
    ev lay (VE148 N q_impl_ones q_impl_RealDegree_1 q_impl_DegreeMod2_1 q_impl_degree_l0) (retMask Try.f148) (lp Try.f148 0).body (lp Try.f148 0).ex ((lp Try.f148 0).lv (retMask Try.f148)) (h148_0_1 q0 q1 v0 v1 v2) (nextR (fun s' => rec_ (s'.tidy ((lp Try.f148 0).lv (retMask Try.f148)))) K) = BV_impl_degree_l0b N q_impl_ones (fun x0 k => q_impl_DegreeMod2_1 x0 q0 q1 k) v0 v1 v2 (fun v0 v1 v2 => rec_ (h148_0_1 q0 q1 v0 v1 v2)) (fun y0 => K (.exit 0) (x148_0_1_k0 q0 q1 y0)) := by kernel_rfl
theorem st148_0_1 {β : Type} (N : Nat) (q0 : Int) (q1 : Int) (v0 : Int) (v1 : Int) (v2 : Int) (rec_ : St → Option β) (K : Exit → St → Option β) :
    ev lay (E148 N) (retMask Try.f148) (lp Try.f148 0).body (lp Try.f148 0).ex ((lp Try.f148 0).lv (retMask Try.f148)) (h148_0_1 q0 q1 v0 v1 v2) (nextR (fun s' => rec_ (s'.tidy ((lp Try.f148 0).lv (retMask Try.f148)))) K) = impl_degree_l0b N (fun x0 k => impl_DegreeMod2_1 N x0 q0 q1 k) v0 v1 v2 (fun v0 v1 v2 => rec_ (h148_0_1 q0 q1 v0 v1 v2)) (fun y0 => K (.exit 0) (x148_0_1_k0 q0 q1 y0)) := (vst148_0_1 N (impl_ones N) (impl_RealDegree_1 N) (impl_DegreeMod2_1 N) (impl_degree_l0 N) q0 q1 v0 v1 v2 rec_ K).trans (t_impl_degree_l0b N (fun x0 k => impl_DegreeMod2_1 N x0 q0 q1 k) v0 v1 v2 (fun v0 v1 v2 => rec_ (h148_0_1 q0 q1 v0 v1 v2)) (fun y0 => K (.exit 0) (x148_0_1_k0 q0 q1 y0))).symm
theorem ro148_0_1 {β : Type} (N : Nat) (q0 : Int) (q1 : Int) (K : Exit → St → Option β) : ∀ (F : Nat) (v0 : Int) (v1 : Int) (v2 : Int), (lp Try.f148 0).rounds lay (E148 N) (retMask Try.f148) F (h148_0_1 q0 q1 v0 v1 v2) K = impl_degree_l0 N (fun x0 k => impl_DegreeMod2_1 N x0 q0 q1 k) F v0 v1 v2 (fun y0 => K (.exit 0) (x148_0_1_k0 q0 q1 y0)) := by
  intro F
  induction F with
  | zero => intros; rfl
  | succ F ih =>
    intros
    rw [rounds_next]
    refine (st148_0_1 N q0 q1 _ _ _ (fun s => (lp Try.f148 0).rounds lay (E148 N) (retMask Try.f148) F s K) K).trans ?_
    simp only [ih]
    rfl
theorem lk148_0 {β : Type} (N : Nat) : lookL (E148 (β := β) N).loops (lp Try.f148 0).id = LS148_0 N := by kernel_rfl
theorem rk148_0 {β : Type} (N : Nat) : RoundsOK lay (E148 (β := β) N) (retMask Try.f148) (lp Try.f148 0) := by
  intro s K r h
  rw [lk148_0] at h
  unfold LS148_0 VLS148_0 at h
  cases hb : shpSt (h148_0_0 [] 0 0 0) s with
  | true =>
    rw [hb, cond_true] at h
    exact ⟨N, by rw [← shpSt_ref hb, fl148_0_0 s]; exact (ro148_0_0 N (rInts (rowF (nx .no (nx ([], 0) (dfnS (oneA (vT (nx tund s.tmps 1)))) 0).1 0))) K N (intS (oneA (vT (nx tund s.tmps 5)))) (intS (oneA (vT (nx tund s.tmps 8)))) (intS (oneA (vT (nx tund s.tmps 9))))).trans h⟩
  | false =>
  rw [hb, cond_false] at h
  clear hb
  cases hb : shpSt (h148_0_1 0 0 0 0 0) s with
  | true =>
    rw [hb, cond_true] at h
    exact ⟨N, by rw [← shpSt_ref hb, fl148_0_1 s]; exact (ro148_0_1 N (intF (nx .no (nx ([], 0) (dfnS (oneA (vT (nx tund s.tmps 1)))) 0).1 0)) (intF (nx .no (nx ([], 0) (dfnS (oneA (vT (nx tund s.tmps 1)))) 0).1 1)) K N (intS (oneA (vT (nx tund s.tmps 5)))) (intS (oneA (vT (nx tund s.tmps 8)))) (intS (oneA (vT (nx tund s.tmps 9))))).trans h⟩
  | false =>
  rw [hb, cond_false] at h
  clear hb
  cases h
def BV_impl_degree {β : Type} (N : Nat) (q_impl_degree_l0 : (a1 : (Int → (Bool → Option β) → Option β)) → Nat → Int → Int → Int → (Int → Option β) → Option β) (a0 : Int) (a1 : (Int → (Bool → Option β) → Option β)) (k : Int → Option β) : Option β :=
(gd ((decide (0 ≤ a0)))
(q_impl_degree_l0 a1 N (-1) ((shlI .i64 1 a0)) 0 (fun e5_0 =>
k e5_0)))
theorem t_impl_degree {β : Type} (N : Nat) (a0 : Int) (a1 : (Int → (Bool → Option β) → Option β)) (k : Int → Option β) : impl_degree N a0 a1 k = BV_impl_degree N (impl_degree_l0 N) a0 a1 k := by
  unfold impl_degree BV_impl_degree
  rfl
theorem ve148_0 {β : Type} (N : Nat) (q_impl_ones : (a0 : Int) → (k : Int → Option β) → Option β) (q_impl_RealDegree_1 : (a0 : Int) → (c0 : List Int) → (k : Bool → Option β) → Option β) (q_impl_DegreeMod2_1 : (a0 : Int) → (c0 : Int) → (c1 : Int) → (k : Bool → Option β) → Option β) (q_impl_degree_l0 : (a1 : (Int → (Bool → Option β) → Option β)) → Nat → Int → Int → Int → (Int → Option β) → Option β) (q0 : List Int) (a0 : Int) (K : TV → Option β) : evFn lay (VE148 N q_impl_ones q_impl_RealDegree_1 q_impl_DegreeMod2_1 q_impl_degree_l0) Try.f148 [.v (.one (.int .i64 a0)), .v (.one (.dfn 149 [([.sl 3 (.ints .i64 q0)], 0)]))] K = BV_impl_degree N q_impl_degree_l0 a0 (fun x0 k => q_impl_RealDegree_1 x0 q0 k) (fun z2 => K (.v (.one (.int .i64 z2)))) := by kernel_rfl
theorem e148_0 {β : Type} (N : Nat) (q0 : List Int) (a0 : Int) (K : TV → Option β) : evFn lay (E148 N) Try.f148 [.v (.one (.int .i64 a0)), .v (.one (.dfn 149 [([.sl 3 (.ints .i64 q0)], 0)]))] K = impl_degree N a0 (fun x0 k => impl_RealDegree_1 N x0 q0 k) (fun z2 => K (.v (.one (.int .i64 z2)))) := (ve148_0 N (impl_ones N) (impl_RealDegree_1 N) (impl_DegreeMod2_1 N) (impl_degree_l0 N) q0 a0 K).trans (t_impl_degree N a0 (fun x0 k => impl_RealDegree_1 N x0 q0 k) (fun z2 => K (.v (.one (.int .i64 z2))))).symm
theorem ve148_1 {β : Type} (N : Nat) (q_impl_ones : (a0 : Int) → (k : Int → Option β) → Option β) (q_impl_RealDegree_1 : (a0 : Int) → (c0 : List Int) → (k : Bool → Option β) → Option β) (q_impl_DegreeMod2_1 : (a0 : Int) → (c0 : Int) → (c1 : Int) → (k : Bool → Option β) → Option β) (q_impl_degree_l0 : (a1 : (Int → (Bool → Option β) → Option β)) → Nat → Int → Int → Int → (Int → Option β) → Option β) (q0 : Int) (q1 : Int) (a0 : Int) (K : TV → Option β) : evFn lay (VE148 N q_impl_ones q_impl_RealDegree_1 q_impl_DegreeMod2_1 q_impl_degree_l0) Try.f148 [.v (.one (.int .i64 a0)), .v (.one (.dfn 151 [([.int .i64 q0, .int .i64 q1], 0)]))] K = BV_impl_degree N q_impl_degree_l0 a0 (fun x0 k => q_impl_DegreeMod2_1 x0 q0 q1 k) (fun z2 => K (.v (.one (.int .i64 z2)))) := by kernel_rfl
theorem e148_1 {β : Type} (N : Nat) (q0 : Int) (q1 : Int) (a0 : Int) (K : TV → Option β) : evFn lay (E148 N) Try.f148 [.v (.one (.int .i64 a0)), .v (.one (.dfn 151 [([.int .i64 q0, .int .i64 q1], 0)]))] K = impl_degree N a0 (fun x0 k => impl_DegreeMod2_1 N x0 q0 q1 k) (fun z2 => K (.v (.one (.int .i64 z2)))) := (ve148_1 N (impl_ones N) (impl_RealDegree_1 N) (impl_DegreeMod2_1 N) (impl_degree_l0 N) q0 q1 a0 K).trans (t_impl_degree N a0 (fun x0 k => impl_DegreeMod2_1 N x0 q0 q1 k) (fun z2 => K (.v (.one (.int .i64 z2))))).symm
theorem o148 {β : Type} (N : Nat) : SpecOK (β := β) Try.prog 148 (S148 N) := by
  refine spec_of lay_ok mixed (E := E148 N) (specs_loops (specs_cons (o64 N) (specs_cons (o149 N) (specs_cons (o151 N) specs_nil)))) muts_nil gs_nil Try.func148 (by kernel_rfl) 1 (by kernel_rfl) ⟨trivial, rk148_0 N⟩ fun args K r h => ?_
  unfold S148 VS148 at h
  split at h
  · exact (e148_0 N _ _ _).trans h
  · exact (e148_1 N _ _ _ _).trans h
  · cases h
def VS132 {β : Type} (N : Nat) (q_impl_RealDegree : (a0 : Int) → (a1 : Int) → (k : Int → Option β) → Option β) : Rv.Spec β := fun args K => match args with
  | [.v (.agg [.int .i64 a0, .int .i64 a1])] => q_impl_RealDegree a0 a1 (fun z2 => K (.v (.one (.int .i64 z2))))
  | _ => none
def S132 {β : Type} (N : Nat) : Rv.Spec β := VS132 N (impl_RealDegree N)
def VE132 {β : Type} (N : Nat) (q_impl_IsTable : (a0 : Int) → (a1 : Int) → (k : Bool → Option β) → Option β) (q_impl_Table_coefficients : (a0 : Int) → (a1 : Int) → (k : List Int → Option β) → Option β) (q_impl_degree : (a0 : Int) → (a1 : (Int → (Bool → Option β) → Option β)) → (k : Int → Option β) → Option β) (q_impl_RealDegree_1 : (a0 : Int) → (c0 : List Int) → (k : Bool → Option β) → Option β) (q_impl_DegreeMod2_1 : (a0 : Int) → (c0 : Int) → (c1 : Int) → (k : Bool → Option β) → Option β) : Env β := ⟨[(61, VS61 N q_impl_IsTable), (147, VS147 N q_impl_Table_coefficients), (148, VS148 N q_impl_degree q_impl_RealDegree_1 q_impl_DegreeMod2_1), (149, VS149 N q_impl_RealDegree_1)], [], [], []⟩
def E132 {β : Type} (N : Nat) : Env β := VE132 N (impl_IsTable N) (impl_Table_coefficients N) (impl_degree N) (impl_RealDegree_1 N) (impl_DegreeMod2_1 N)
def BV_impl_RealDegree {β : Type} (N : Nat) (q_impl_IsTable : (a0 : Int) → (a1 : Int) → (k : Bool → Option β) → Option β) (q_impl_Table_coefficients : (a0 : Int) → (a1 : Int) → (k : List Int → Option β) → Option β) (q_impl_degree : (a0 : Int) → (a1 : (Int → (Bool → Option β) → Option β)) → (k : Int → Option β) → Option β) (q_impl_RealDegree_1 : (a0 : Int) → (c0 : List Int) → (k : Bool → Option β) → Option β) (a0 : Int) (a1 : Int) (k : Int → Option β) : Option β :=
q_impl_IsTable a0 a1 fun r3 =>
(cond (!r3)
(k (-2))
(q_impl_Table_coefficients a0 a1 fun r4 =>
q_impl_degree a0 (fun x0 k => q_impl_RealDegree_1 x0 r4 k) fun r5 =>
k r5))
theorem t_impl_RealDegree {β : Type} (N : Nat) (a0 : Int) (a1 : Int) (k : Int → Option β) : impl_RealDegree N a0 a1 k = BV_impl_RealDegree N (impl_IsTable N) (impl_Table_coefficients N) (impl_degree N) (impl_RealDegree_1 N) a0 a1 k := by
  unfold impl_RealDegree BV_impl_RealDegree
  rfl
theorem ve132_0 {β : Type} (N : Nat) (q_impl_IsTable : (a0 : Int) → (a1 : Int) → (k : Bool → Option β) → Option β) (q_impl_Table_coefficients : (a0 : Int) → (a1 : Int) → (k : List Int → Option β) → Option β) (q_impl_degree : (a0 : Int) → (a1 : (Int → (Bool → Option β) → Option β)) → (k : Int → Option β) → Option β) (q_impl_RealDegree_1 : (a0 : Int) → (c0 : List Int) → (k : Bool → Option β) → Option β) (q_impl_DegreeMod2_1 : (a0 : Int) → (c0 : Int) → (c1 : Int) → (k : Bool → Option β) → Option β)  (a0 : Int) (a1 : Int) (K : TV → Option β) : evFn lay (VE132 N q_impl_IsTable q_impl_Table_coefficients q_impl_degree q_impl_RealDegree_1 q_impl_DegreeMod2_1) Try.f132 [.v (.agg [.int .i64 a0, .int .i64 a1])] K = BV_impl_RealDegree N q_impl_IsTable q_impl_Table_coefficients q_impl_degree q_impl_RealDegree_1 a0 a1 (fun z2 => K (.v (.one (.int .i64 z2)))) := by kernel_rfl
theorem e132_0 {β : Type} (N : Nat)  (a0 : Int) (a1 : Int) (K : TV → Option β) : evFn lay (E132 N) Try.f132 [.v (.agg [.int .i64 a0, .int .i64 a1])] K = impl_RealDegree N a0 a1 (fun z2 => K (.v (.one (.int .i64 z2)))) := (ve132_0 N (impl_IsTable N) (impl_Table_coefficients N) (impl_degree N) (impl_RealDegree_1 N) (impl_DegreeMod2_1 N) a0 a1 K).trans (t_impl_RealDegree N a0 a1 (fun z2 => K (.v (.one (.int .i64 z2))))).symm
theorem o132 {β : Type} (N : Nat) : SpecOK (β := β) Try.prog 132 (S132 N) := by
  refine spec_of lay_ok mixed (E := E132 N) (specs_loops (specs_cons (o61 N) (specs_cons (o147 N) (specs_cons (o148 N) (specs_cons (o149 N) specs_nil))))) muts_nil gs_nil Try.func132 (by kernel_rfl) 0 (by kernel_rfl) trivial fun args K r h => ?_
  unfold S132 VS132 at h
  split at h
  · exact (e132_0 N _ _ _).trans h
  · cases h
def VS158 {β : Type} (N : Nat) (q_impl_Table_anf_1 : (a0 : Int) → (c0 : Int) → (c1 : Int) → (k : Bool → Option β) → Option β) : Rv.Spec β := fun args K => match args with
  | [.v (.one (.int .i64 a0)), .v (.one (.cref [.int .i64 c0, .int .i64 c1] 0))] => q_impl_Table_anf_1 a0 c0 c1 (fun z1 => K (.v (.one (.bool z1))))
  | _ => none
def S158 {β : Type} (N : Nat) : Rv.Spec β := VS158 N (impl_Table_anf_1 N)
def h158_0_0  (v0 : Int) (v1 : Int) (v2 : Int) (v3 : Int) (v4 : Int) (v5 : Int) : St := ⟨.v (.one (.int .i64 v0)) :: .v (.one (.cref [.int .i64 v1, .int .i64 v2] 0)) :: .v (.one .und) :: .v (.one .und) :: .v (.one (.int .i64 v3)) :: .v (.one .und) :: .v (.one .und) :: .v (.one (.int .i64 v4)) :: .v (.one (.int .i64 v5)) :: .v (.one .und) :: .v (.one .und) :: .v (.one .und) :: .v (.one .und) :: .v (.one .und) :: .v (.one .und) :: .v (.one .und) :: .v (.one .und) :: .v (.one .und) :: .v (.one .und) :: .v (.one .und) :: .v (.one .und) :: .v (.one .und) :: .v (.one .und) :: [], []⟩
def x158_0_0_k0  (y0 : Int) : St := ⟨.v (.one .und) :: .v (.one .und) :: .v (.one .und) :: .v (.one .und) :: .v (.one (.int .i64 y0)) :: .v (.one .und) :: .v (.one .und) :: .v (.one .und) :: .v (.one .und) :: .v (.one .und) :: .v (.one .und) :: .v (.one .und) :: .v (.one .und) :: .v (.one .und) :: .v (.one .und) :: .v (.one .und) :: .v (.one .und) :: .v (.one .und) :: .v (.one .und) :: .v (.one .und) :: .v (.one .und) :: .v (.one .und) :: .v (.one .und) :: [], []⟩
theorem fl158_0_0 (s : St) : refSt (h158_0_0 0 0 0 0 0 0) s = h158_0_0 (intS (oneA (vT (nx tund s.tmps 0)))) (intF (nx .no (crefS (oneA (vT (nx tund s.tmps 1)))) 0)) (intF (nx .no (crefS (oneA (vT (nx tund s.tmps 1)))) 1)) (intS (oneA (vT (nx tund s.tmps 4)))) (intS (oneA (vT (nx tund s.tmps 7)))) (intS (oneA (vT (nx tund s.tmps 8)))) := by kernel_rfl
def VLS158_0 {β : Type} (N : Nat) (q_impl_Table_anf_1_l0 : Nat → Int → Int → Int → Int → Int → Int → (Int → Option β) → Option β) : LSpec β := fun s K => cond (shpSt (h158_0_0 0 0 0 0 0 0) s) ((fun (v0 : Int) (v1 : Int) (v2 : Int) (v3 : Int) (v4 : Int) (v5 : Int) => q_impl_Table_anf_1_l0  N v0 v1 v2 v3 v4 v5 (fun y0 => K (.exit 0) (x158_0_0_k0  y0))) (intS (oneA (vT (nx tund s.tmps 0)))) (intF (nx .no (crefS (oneA (vT (nx tund s.tmps 1)))) 0)) (intF (nx .no (crefS (oneA (vT (nx tund s.tmps 1)))) 1)) (intS (oneA (vT (nx tund s.tmps 4)))) (intS (oneA (vT (nx tund s.tmps 7)))) (intS (oneA (vT (nx tund s.tmps 8))))) (none)
def LS158_0 {β : Type} (N : Nat) : LSpec β := VLS158_0 N (impl_Table_anf_1_l0 N)
def VE158 {β : Type} (N : Nat) (q_impl_Table_size : (a0 : Int) → (a1 : Int) → (k : Int → Option β) → Option β) (q_impl_Table_at : (a0 : Int) → (a1 : Int) → (a2 : Int) → (k : Int → Option β) → Option β) (q_impl_Table_anf_1_l0 : Nat → Int → Int → Int → Int → Int → Int → (Int → Option β) → Option β) : Env β := ⟨[(82, VS82 N q_impl_Table_size), (120, VS120 N q_impl_Table_at)], [], [(0, VLS158_0 N q_impl_Table_anf_1_l0)], []⟩
def E158 {β : Type} (N : Nat) : Env β := VE158 N (impl_Table_size N) (impl_Table_at N) (impl_Table_anf_1_l0 N)
def BV_impl_Table_anf_1_l0b {β : Type} (N : Nat) (q_impl_Table_at : (a0 : Int) → (a1 : Int) → (a2 : Int) → (k : Int → Option β) → Option β)  (v0 : Int) (v1 : Int) (v2 : Int) (v3 : Int) (v4 : Int) (v5 : Int) (rec_ : Int → Int → Int → Int → Int → Int → Option β) (k0 : Int → Option β) : Option β :=
(cond ((decide (v5 < v4)))
((cond (((bits .andNot .i64 v5 v0) == 0))
(q_impl_Table_at v1 v2 v5 fun r3 =>
rec_ v0 v1 v2 ((bits .xor .i64 v3 r3)) v4 ((w64 (v5 + 1))))
(rec_ v0 v1 v2 v3 v4 ((w64 (v5 + 1))))))
(k0 v3))
theorem t_impl_Table_anf_1_l0b {β : Type} (N : Nat)  (v0 : Int) (v1 : Int) (v2 : Int) (v3 : Int) (v4 : Int) (v5 : Int) (rec_ : Int → Int → Int → Int → Int → Int → Option β) (k0 : Int → Option β) : impl_Table_anf_1_l0b N v0 v1 v2 v3 v4 v5 rec_ k0 = BV_impl_Table_anf_1_l0b N (impl_Table_at N) v0 v1 v2 v3 v4 v5 rec_ k0 := by
  unfold impl_Table_anf_1_l0b BV_impl_Table_anf_1_l0b
  rfl
theorem vst158_0_0 {β : Type} (N : Nat) (q_impl_Table_size : (a0 : Int) → (a1 : Int) → (k : Int → Option β) → Option β) (q_impl_Table_at : (a0 : Int) → (a1 : Int) → (a2 : Int) → (k : Int → Option β) → Option β) (q_impl_Table_anf_1_l0 : Nat → Int → Int → Int → Int → Int → Int → (Int → Option β) → Option β)  (v0 : Int) (v1 : Int) (v2 : Int) (v3 : Int) (v4 : Int) (v5 : Int) (rec_ : St → Option β) (K : Exit → St → Option β) :
    ev lay (VE158 N q_impl_Table_size q_impl_Table_at q_impl_Table_anf_1_l0) (retMask Try.f158) (lp Try.f158 0).body (lp Try.f158 0).ex ((lp Try.f158 0).lv (retMask Try.f158)) (h158_0_0  v0 v1 v2 v3 v4 v5) (nextR (fun s' => rec_ (s'.tidy ((lp Try.f158 0).lv (retMask Try.f158)))) K) = BV_impl_Table_anf_1_l0b N q_impl_Table_at  v0 v1 v2 v3 v4 v5 (fun v0 v1 v2 v3 v4 v5 => rec_ (h158_0_0  v0 v1 v2 v3 v4 v5)) (fun y0 => K (.exit 0) (x158_0_0_k0  y0)) := by kernel_rfl
theorem st158_0_0 {β : Type} (N : Nat)  (v0 : Int) (v1 : Int) (v2 : Int) (v3 : Int) (v4 : Int) (v5 : Int) (rec_ : St → Option β) (K : Exit → St → Option β) :
    ev lay (E158 N) (retMask Try.f158) (lp Try.f158 0).body (lp Try.f158 0).ex ((lp Try.f158 0).lv (retMask Try.f158)) (h158_0_0  v0 v1 v2 v3 v4 v5) (nextR (fun s' => rec_ (s'.tidy ((lp Try.f158 0).lv (retMask Try.f158)))) K) = impl_Table_anf_1_l0b N  v0 v1 v2 v3 v4 v5 (fun v0 v1 v2 v3 v4 v5 => rec_ (h158_0_0  v0 v1 v2 v3 v4 v5)) (fun y0 => K (.exit 0) (x158_0_0_k0  y0)) := (vst158_0_0 N (impl_Table_size N) (impl_Table_at N) (impl_Table_anf_1_l0 N) v0 v1 v2 v3 v4 v5 rec_ K).trans (t_impl_Table_anf_1_l0b N  v0 v1 v2 v3 v4 v5 (fun v0 v1 v2 v3 v4 v5 => rec_ (h158_0_0  v0 v1 v2 v3 v4 v5)) (fun y0 => K (.exit 0) (x158_0_0_k0  y0))).symm
theorem ro158_0_0 {β : Type} (N : Nat)  (K : Exit → St → Option β) : ∀ (F : Nat) (v0 : Int) (v1 : Int) (v2 : Int) (v3 : Int) (v4 : Int) (v5 : Int), (lp Try.f158 0).rounds lay (E158 N) (retMask Try.f158) F (h158_0_0  v0 v1 v2 v3 v4 v5) K = impl_Table_anf_1_l0 N  F v0 v1 v2 v3 v4 v5 (fun y0 => K (.exit 0) (x158_0_0_k0  y0)) := by
  intro F
  induction F with
  | zero => intros; rfl
  | succ F ih =>
    intros
    rw [rounds_next]
    refine (st158_0_0 N  _ _ _ _ _ _ (fun s => (lp Try.f158 0).rounds lay (E158 N) (retMask Try.f158) F s K) K).trans ?_
    simp only [ih]
    rfl
theorem lk158_0 {β : Type} (N : Nat) : lookL (E158 (β := β) N).loops (lp Try.f158 0).id = LS158_0 N := by kernel_rfl
theorem rk158_0 {β : Type} (N : Nat) : RoundsOK lay (E158 (β := β) N) (retMask Try.f158) (lp Try.f158 0) := by
  intro s K r h
  rw [lk158_0] at h
  unfold LS158_0 VLS158_0 at h
  cases hb : shpSt (h158_0_0 0 0 0 0 0 0) s with
  | true =>
    rw [hb, cond_true] at h
    exact ⟨N, by rw [← shpSt_ref hb, fl158_0_0 s]; exact (ro158_0_0 N  K N (intS (oneA (vT (nx tund s.tmps 0)))) (intF (nx .no (crefS (oneA (vT (nx tund s.tmps 1)))) 0)) (intF (nx .no (crefS (oneA (vT (nx tund s.tmps 1)))) 1)) (intS (oneA (vT (nx tund s.tmps 4)))) (intS (oneA (vT (nx tund s.tmps 7)))) (intS (oneA (vT (nx tund s.tmps 8))))).trans h⟩
  | false =>
  rw [hb, cond_false] at h
  clear hb
  cases h
def BV_impl_Table_anf_1 {β : Type} (N : Nat) (q_impl_Table_size : (a0 : Int) → (a1 : Int) → (k : Int → Option β) → Option β) (q_impl_Table_anf_1_l0 : Nat → Int → Int → Int → Int → Int → Int → (Int → Option β) → Option β) (a0 : Int) (c0 : Int) (c1 : Int) (k : Bool → Option β) : Option β :=
q_impl_Table_size c0 c1 fun r2 =>
q_impl_Table_anf_1_l0  N a0 c0 c1 0 r2 0 (fun e4_0 =>
k ((e4_0 == 1)))
theorem t_impl_Table_anf_1 {β : Type} (N : Nat) (a0 : Int) (c0 : Int) (c1 : Int) (k : Bool → Option β) : impl_Table_anf_1 N a0 c0 c1 k = BV_impl_Table_anf_1 N (impl_Table_size N) (impl_Table_anf_1_l0 N) a0 c0 c1 k := by
  unfold impl_Table_anf_1 BV_impl_Table_anf_1
  rfl
theorem ve158_0 {β : Type} (N : Nat) (q_impl_Table_size : (a0 : Int) → (a1 : Int) → (k : Int → Option β) → Option β) (q_impl_Table_at : (a0 : Int) → (a1 : Int) → (a2 : Int) → (k : Int → Option β) → Option β) (q_impl_Table_anf_1_l0 : Nat → Int → Int → Int → Int → Int → Int → (Int → Option β) → Option β)  (a0 : Int) (c0 : Int) (c1 : Int) (K : TV → Option β) : evFn lay (VE158 N q_impl_Table_size q_impl_Table_at q_impl_Table_anf_1_l0) Try.f158 [.v (.one (.int .i64 a0)), .v (.one (.cref [.int .i64 c0, .int .i64 c1] 0))] K = BV_impl_Table_anf_1 N q_impl_Table_size q_impl_Table_anf_1_l0 a0 c0 c1 (fun z1 => K (.v (.one (.bool z1)))) := by kernel_rfl
theorem e158_0 {β : Type} (N : Nat)  (a0 : Int) (c0 : Int) (c1 : Int) (K : TV → Option β) : evFn lay (E158 N) Try.f158 [.v (.one (.int .i64 a0)), .v (.one (.cref [.int .i64 c0, .int .i64 c1] 0))] K = impl_Table_anf_1 N a0 c0 c1 (fun z1 => K (.v (.one (.bool z1)))) := (ve158_0 N (impl_Table_size N) (impl_Table_at N) (impl_Table_anf_1_l0 N) a0 c0 c1 K).trans (t_impl_Table_anf_1 N a0 c0 c1 (fun z1 => K (.v (.one (.bool z1))))).symm
theorem o158 {β : Type} (N : Nat) : SpecOK (β := β) Try.prog 158 (S158 N) := by
  refine spec_of lay_ok mixed (E := E158 N) (specs_loops (specs_cons (o82 N) (specs_cons (o120 N) specs_nil))) muts_nil gs_nil Try.func158 (by kernel_rfl) 1 (by kernel_rfl) ⟨trivial, rk158_0 N⟩ fun args K r h => ?_
  unfold S158 VS158 at h
  split at h
  · exact (e158_0 N _ _ _ _).trans h
  · cases h
def VS160 {β : Type} (N : Nat) (q_impl_spread : (a0 : Int) → (a1 : Int) → (a2 : Int) → (k : Int → Option β) → Option β) : Rv.Spec β := fun args K => match args with
  | [.v (.one (.int .i64 a0)), .v (.one (.int .i64 a1)), .v (.one (.int .i64 a2))] => q_impl_spread a0 a1 a2 (fun z3 => K (.v (.one (.int .i64 z3))))
  | _ => none
def S160 {β : Type} (N : Nat) : Rv.Spec β := VS160 N (impl_spread N)
def VE160 {β : Type} (N : Nat) : Env β := ⟨[], [], [], []⟩
def E160 {β : Type} (N : Nat) : Env β := VE160 N
def BV_impl_spread {β : Type} (N : Nat) (a0 : Int) (a1 : Int) (a2 : Int) (k : Int → Option β) : Option β :=
(gd ((decide (0 ≤ a1)))
((gd ((decide (0 ≤ a1)))
(k ((bits .or .i64 (bits .or .i64 (shlI .i64 (w64 (a0 - (bits .and .i64 a0 (w64 ((shlI .i64 1 a1) - 1))))) 1) (shlI .i64 a2 a1)) (bits .and .i64 a0 (w64 ((shlI .i64 1 a1) - 1)))))))))
theorem t_impl_spread {β : Type} (N : Nat) (a0 : Int) (a1 : Int) (a2 : Int) (k : Int → Option β) : impl_spread N a0 a1 a2 k = BV_impl_spread N a0 a1 a2 k := by
  unfold impl_spread BV_impl_spread
  rfl
theorem ve160_0 {β : Type} (N : Nat)  (a0 : Int) (a1 : Int) (a2 : Int) (K : TV → Option β) : evFn lay (VE160 N) Try.f160 [.v (.one (.int .i64 a0)), .v (.one (.int .i64 a1)), .v (.one (.int .i64 a2))] K = BV_impl_spread N a0 a1 a2 (fun z3 => K (.v (.one (.int .i64 z3)))) := by kernel_rfl
theorem e160_0 {β : Type} (N : Nat)  (a0 : Int) (a1 : Int) (a2 : Int) (K : TV → Option β) : evFn lay (E160 N) Try.f160 [.v (.one (.int .i64 a0)), .v (.one (.int .i64 a1)), .v (.one (.int .i64 a2))] K = impl_spread N a0 a1 a2 (fun z3 => K (.v (.one (.int .i64 z3)))) := (ve160_0 N a0 a1 a2 K).trans (t_impl_spread N a0 a1 a2 (fun z3 => K (.v (.one (.int .i64 z3))))).symm
theorem o160 {β : Type} (N : Nat) : SpecOK (β := β) Try.prog 160 (S160 N) := by
  refine spec_of lay_ok mixed (E := E160 N) (specs_loops specs_nil) muts_nil gs_nil Try.func160 (by kernel_rfl) 0 (by kernel_rfl) trivial fun args K r h => ?_
  unfold S160 VS160 at h
  split at h
  · exact (e160_0 N _ _ _ _).trans h
  · cases h
def VS159 {β : Type} (N : Nat) (q_impl_Table_restrict_1 : (a0 : Int) → (c0 : Int) → (c1 : Int) → (c2 : Int) → (c3 : Int) → (k : Bool → Option β) → Option β) : Rv.Spec β := fun args K => match args with
  | [.v (.one (.int .i64 a0)), .v (.one (.cref [.int .i64 c0, .int .i64 c1] 0)), .v (.one (.cref [.int .i64 c2] 0)), .v (.one (.cref [.int .i64 c3] 0))] => q_impl_Table_restrict_1 a0 c0 c1 c2 c3 (fun z1 => K (.v (.one (.bool z1))))
  | _ => none
def S159 {β : Type} (N : Nat) : Rv.Spec β := VS159 N (impl_Table_restrict_1 N)
def VE159 {β : Type} (N : Nat) (q_impl_spread : (a0 : Int) → (a1 : Int) → (a2 : Int) → (k : Int → Option β) → Option β) (q_impl_Table_at : (a0 : Int) → (a1 : Int) → (a2 : Int) → (k : Int → Option β) → Option β) : Env β := ⟨[(160, VS160 N q_impl_spread), (120, VS120 N q_impl_Table_at)], [], [], []⟩
def E159 {β : Type} (N : Nat) : Env β := VE159 N (impl_spread N) (impl_Table_at N)
def BV_impl_Table_restrict_1 {β : Type} (N : Nat) (q_impl_spread : (a0 : Int) → (a1 : Int) → (a2 : Int) → (k : Int → Option β) → Option β) (q_impl_Table_at : (a0 : Int) → (a1 : Int) → (a2 : Int) → (k : Int → Option β) → Option β) (a0 : Int) (c0 : Int) (c1 : Int) (c2 : Int) (c3 : Int) (k : Bool → Option β) : Option β :=
q_impl_spread a0 c2 c3 fun r2 =>
q_impl_Table_at c0 c1 r2 fun r3 =>
k ((r3 == 1))
theorem t_impl_Table_restrict_1 {β : Type} (N : Nat) (a0 : Int) (c0 : Int) (c1 : Int) (c2 : Int) (c3 : Int) (k : Bool → Option β) : impl_Table_restrict_1 N a0 c0 c1 c2 c3 k = BV_impl_Table_restrict_1 N (impl_spread N) (impl_Table_at N) a0 c0 c1 c2 c3 k := by
  unfold impl_Table_restrict_1 BV_impl_Table_restrict_1
  rfl
theorem ve159_0 {β : Type} (N : Nat) (q_impl_spread : (a0 : Int) → (a1 : Int) → (a2 : Int) → (k : Int → Option β) → Option β) (q_impl_Table_at : (a0 : Int) → (a1 : Int) → (a2 : Int) → (k : Int → Option β) → Option β)  (a0 : Int) (c0 : Int) (c1 : Int) (c2 : Int) (c3 : Int) (K : TV → Option β) : evFn lay (VE159 N q_impl_spread q_impl_Table_at) Try.f159 [.v (.one (.int .i64 a0)), .v (.one (.cref [.int .i64 c0, .int .i64 c1] 0)), .v (.one (.cref [.int .i64 c2] 0)), .v (.one (.cref [.int .i64 c3] 0))] K = BV_impl_Table_restrict_1 N q_impl_spread q_impl_Table_at a0 c0 c1 c2 c3 (fun z1 => K (.v (.one (.bool z1)))) := by kernel_rfl
theorem e159_0 {β : Type} (N : Nat)  (a0 : Int) (c0 : Int) (c1 : Int) (c2 : Int) (c3 : Int) (K : TV → Option β) : evFn lay (E159 N) Try.f159 [.v (.one (.int .i64 a0)), .v (.one (.cref [.int .i64 c0, .int .i64 c1] 0)), .v (.one (.cref [.int .i64 c2] 0)), .v (.one (.cref [.int .i64 c3] 0))] K = impl_Table_restrict_1 N a0 c0 c1 c2 c3 (fun z1 => K (.v (.one (.bool z1)))) := (ve159_0 N (impl_spread N) (impl_Table_at N) a0 c0 c1 c2 c3 K).trans (t_impl_Table_restrict_1 N a0 c0 c1 c2 c3 (fun z1 => K (.v (.one (.bool z1))))).symm
theorem o159 {β : Type} (N : Nat) : SpecOK (β := β) Try.prog 159 (S159 N) := by
  refine spec_of lay_ok mixed (E := E159 N) (specs_loops (specs_cons (o160 N) (specs_cons (o120 N) specs_nil))) muts_nil gs_nil Try.func159 (by kernel_rfl) 0 (by kernel_rfl) trivial fun args K r h => ?_
  unfold S159 VS159 at h
  split at h
  · exact (e159_0 N _ _ _ _ _ _).trans h
  · cases h
def VS118 {β : Type} (N : Nat) (q_impl_makeTable : (a0 : Int) → (a1 : (Int → (Bool → Option β) → Option β)) → (k : Int → Int → Option β) → Option β) (q_impl_Table_anf_1 : (a0 : Int) → (c0 : Int) → (c1 : Int) → (k : Bool → Option β) → Option β) (q_impl_Table_restrict_1 : (a0 : Int) → (c0 : Int) → (c1 : Int) → (c2 : Int) → (c3 : Int) → (k : Bool → Option β) → Option β) : Rv.Spec β := fun args K => match args with
  | [.v (.one (.int .i64 a0)), .v (.one (.dfn 158 [([.int .i64 q0, .int .i64 q1], 0)]))] => q_impl_makeTable a0 (fun x0 k => q_impl_Table_anf_1 x0 q0 q1 k) (fun z2 z3 => K (.v (.agg [.int .i64 z2, .int .i64 z3])))
  | [.v (.one (.int .i64 a0)), .v (.one (.dfn 159 [([.int .i64 q0, .int .i64 q1], 0), ([.int .i64 q2], 0), ([.int .i64 q3], 0)]))] => q_impl_makeTable a0 (fun x0 k => q_impl_Table_restrict_1 x0 q0 q1 q2 q3 k) (fun z2 z3 => K (.v (.agg [.int .i64 z2, .int .i64 z3])))
  | _ => none
def S118 {β : Type} (N : Nat) : Rv.Spec β := VS118 N (impl_makeTable N) (impl_Table_anf_1 N) (impl_Table_restrict_1 N)
def h118_0_0 (q0 : Int) (q1 : Int) (v0 : Int) (v1 : Int) (v2 : Int) (v3 : Int) (v4 : Int) (v5 : Int) : St := ⟨.v (.one .und) :: .v (.one (.dfn 158 [([.int .i64 q0, .int .i64 q1], 0)])) :: .v (.one .und) :: .v (.one .und) :: .v (.one (.ptr 0 0)) :: .v (.one (.ptr 1 0)) :: .v (.one .und) :: .v (.one .und) :: .v (.one .und) :: .v (.one .und) :: .v (.one (.int .i64 v0)) :: .v (.one (.int .i64 v1)) :: .v (.one .und) :: .v (.one .und) :: .v (.one .und) :: .v (.one .und) :: .v (.one .und) :: .v (.one .und) :: .v (.one .und) :: .v (.one .und) :: .v (.one .und) :: .v (.one .und) :: .v (.one .und) :: .v (.one .und) :: .v (.one .und) :: [], [.cells 25 [.int .i64 v2, .int .i64 v3], .cells 25 [.int .i64 v4, .int .i64 v5]]⟩
def x118_0_0_k0 (q0 : Int) (q1 : Int) (y0 : Int) (y1 : Int) (y2 : Int) (y3 : Int) : St := ⟨.v (.one .und) :: .v (.one .und) :: .v (.one .und) :: .v (.one .und) :: .v (.one (.ptr 0 0)) :: .v (.one (.ptr 1 0)) :: .v (.one .und) :: .v (.one .und) :: .v (.one .und) :: .v (.one .und) :: .v (.one .und) :: .v (.one .und) :: .v (.one .und) :: .v (.one .und) :: .v (.one .und) :: .v (.one .und) :: .v (.one .und) :: .v (.one .und) :: .v (.one .und) :: .v (.one .und) :: .v (.one .und) :: .v (.one .und) :: .v (.one .und) :: .v (.one .und) :: .v (.one .und) :: [], [.cells 25 [.int .i64 y0, .int .i64 y1], .cells 25 [.int .i64 y2, .int .i64 y3]]⟩
def h118_0_1 (q0 : Int) (q1 : Int) (q2 : Int) (q3 : Int) (v0 : Int) (v1 : Int) (v2 : Int) (v3 : Int) (v4 : Int) (v5 : Int) : St := ⟨.v (.one .und) :: .v (.one (.dfn 159 [([.int .i64 q0, .int .i64 q1], 0), ([.int .i64 q2], 0), ([.int .i64 q3], 0)])) :: .v (.one .und) :: .v (.one .und) :: .v (.one (.ptr 0 0)) :: .v (.one (.ptr 1 0)) :: .v (.one .und) :: .v (.one .und) :: .v (.one .und) :: .v (.one .und) :: .v (.one (.int .i64 v0)) :: .v (.one (.int .i64 v1)) :: .v (.one .und) :: .v (.one .und) :: .v (.one .und) :: .v (.one .und) :: .v (.one .und) :: .v (.one .und) :: .v (.one .und) :: .v (.one .und) :: .v (.one .und) :: .v (.one .und) :: .v (.one .und) :: .v (.one .und) :: .v (.one .und) :: [], [.cells 25 [.int .i64 v2, .int .i64 v3], .cells 25 [.int .i64 v4, .int .i64 v5]]⟩
def x118_0_1_k0 (q0 : Int) (q1 : Int) (q2 : Int) (q3 : Int) (y0 : Int) (y1 : Int) (y2 : Int) (y3 : Int) : St := ⟨.v (.one .und) :: .v (.one .und) :: .v (.one .und) :: .v (.one .und) :: .v (.one (.ptr 0 0)) :: .v (.one (.ptr 1 0)) :: .v (.one .und) :: .v (.one .und) :: .v (.one .und) :: .v (.one .und) :: .v (.one .und) :: .v (.one .und) :: .v (.one .und) :: .v (.one .und) :: .v (.one .und) :: .v (.one .und) :: .v (.one .und) :: .v (.one .und) :: .v (.one .und) :: .v (.one .und) :: .v (.one .und) :: .v (.one .und) :: .v (.one .und) :: .v (.one .und) :: .v (.one .und) :: [], [.cells 25 [.int .i64 y0, .int .i64 y1], .cells 25 [.int .i64 y2, .int .i64 y3]]⟩
theorem fl118_0_0 (s : St) : refSt (h118_0_0 0 0 0 0 0 0 0 0) s = h118_0_0 (intF (nx .no (nx ([], 0) (dfnS (oneA (vT (nx tund s.tmps 1)))) 0).1 0)) (intF (nx .no (nx ([], 0) (dfnS (oneA (vT (nx tund s.tmps 1)))) 0).1 1)) (intS (oneA (vT (nx tund s.tmps 10)))) (intS (oneA (vT (nx tund s.tmps 11)))) (intS (nx .und (cellsB (nx .dead s.blks 0)) 0)) (intS (nx .und (cellsB (nx .dead s.blks 0)) 1)) (intS (nx .und (cellsB (nx .dead s.blks 1)) 0)) (intS (nx .und (cellsB (nx .dead s.blks 1)) 1)) := by kernel_rfl
theorem fl118_0_1 (s : St) : refSt (h118_0_1 0 0 0 0 0 0 0 0 0 0) s = h118_0_1 (intF (nx .no (nx ([], 0) (dfnS (oneA (vT (nx tund s.tmps 1)))) 0).1 0)) (intF (nx .no (nx ([], 0) (dfnS (oneA (vT (nx tund s.tmps 1)))) 0).1 1)) (intF (nx .no (nx ([], 0) (dfnS (oneA (vT (nx tund s.tmps 1)))) 1).1 0)) (intF (nx .no (nx ([], 0) (dfnS (oneA (vT (nx tund s.tmps 1)))) 2).1 0)) (intS (oneA (vT (nx tund s.tmps 10)))) (intS (oneA (vT (nx tund s.tmps 11)))) (intS (nx .und (cellsB (nx .dead s.blks 0)) 0)) (intS (nx .und (cellsB (nx .dead s.blks 0)) 1)) (intS (nx .und (cellsB (nx .dead s.blks 1)) 0)) (intS (nx .und (cellsB (nx .dead s.blks 1)) 1)) := by kernel_rfl
def VLS118_0 {β : Type} (N : Nat) (q_impl_makeTable_l0 : (a1 : (Int → (Bool → Option β) → Option β)) → Nat → Int → Int → Int → Int → Int → Int → (Int → Int → Int → Int → Option β) → Option β) (q_impl_Table_anf_1 : (a0 : Int) → (c0 : Int) → (c1 : Int) → (k : Bool → Option β) → Option β) (q_impl_Table_restrict_1 : (a0 : Int) → (c0 : Int) → (c1 : Int) → (c2 : Int) → (c3 : Int) → (k : Bool → Option β) → Option β) : LSpec β := fun s K => cond (shpSt (h118_0_0 0 0 0 0 0 0 0 0) s) ((fun (q0 : Int) (q1 : Int) (v0 : Int) (v1 : Int) (v2 : Int) (v3 : Int) (v4 : Int) (v5 : Int) => q_impl_makeTable_l0 (fun x0 k => q_impl_Table_anf_1 x0 q0 q1 k) N v0 v1 v2 v3 v4 v5 (fun y0 y1 y2 y3 => K (.exit 0) (x118_0_0_k0 q0 q1 y0 y1 y2 y3))) (intF (nx .no (nx ([], 0) (dfnS (oneA (vT (nx tund s.tmps 1)))) 0).1 0)) (intF (nx .no (nx ([], 0) (dfnS (oneA (vT (nx tund s.tmps 1)))) 0).1 1)) (intS (oneA (vT (nx tund s.tmps 10)))) (intS (oneA (vT (nx tund s.tmps 11)))) (intS (nx .und (cellsB (nx .dead s.blks 0)) 0)) (intS (nx .und (cellsB (nx .dead s.blks 0)) 1)) (intS (nx .und (cellsB (nx .dead s.blks 1)) 0)) (intS (nx .und (cellsB (nx .dead s.blks 1)) 1))) (cond (shpSt (h118_0_1 0 0 0 0 0 0 0 0 0 0) s) ((fun (q0 : Int) (q1 : Int) (q2 : Int) (q3 : Int) (v0 : Int) (v1 : Int) (v2 : Int) (v3 : Int) (v4 : Int) (v5 : Int) => q_impl_makeTable_l0 (fun x0 k => q_impl_Table_restrict_1 x0 q0 q1 q2 q3 k) N v0 v1 v2 v3 v4 v5 (fun y0 y1 y2 y3 => K (.exit 0) (x118_0_1_k0 q0 q1 q2 q3 y0 y1 y2 y3))) (intF (nx .no (nx ([], 0) (dfnS (oneA (vT (nx tund s.tmps 1)))) 0).1 0)) (intF (nx .no (nx ([], 0) (dfnS (oneA (vT (nx tund s.tmps 1)))) 0).1 1)) (intF (nx .no (nx ([], 0) (dfnS (oneA (vT (nx tund s.tmps 1)))) 1).1 0)) (intF (nx .no (nx ([], 0) (dfnS (oneA (vT (nx tund s.tmps 1)))) 2).1 0)) (intS (oneA (vT (nx tund s.tmps 10)))) (intS (oneA (vT (nx tund s.tmps 11)))) (intS (nx .und (cellsB (nx .dead s.blks 0)) 0)) (intS (nx .und (cellsB (nx .dead s.blks 0)) 1)) (intS (nx .und (cellsB (nx .dead s.blks 1)) 0)) (intS (nx .und (cellsB (nx .dead s.blks 1)) 1))) (none))
def LS118_0 {β : Type} (N : Nat) : LSpec β := VLS118_0 N (impl_makeTable_l0 N) (impl_Table_anf_1 N) (impl_Table_restrict_1 N)
def VE118 {β : Type} (N : Nat) (q_impl_Table_anf_1 : (a0 : Int) → (c0 : Int) → (c1 : Int) → (k : Bool → Option β) → Option β) (q_impl_Table_restrict_1 : (a0 : Int) → (c0 : Int) → (c1 : Int) → (c2 : Int) → (c3 : Int) → (k : Bool → Option β) → Option β) (q_impl_makeTable_l0 : (a1 : (Int → (Bool → Option β) → Option β)) → Nat → Int → Int → Int → Int → Int → Int → (Int → Int → Int → Int → Option β) → Option β) : Env β := ⟨[(158, VS158 N q_impl_Table_anf_1), (159, VS159 N q_impl_Table_restrict_1)], [], [(0, VLS118_0 N q_impl_makeTable_l0 q_impl_Table_anf_1 q_impl_Table_restrict_1)], []⟩
def E118 {β : Type} (N : Nat) : Env β := VE118 N (impl_Table_anf_1 N) (impl_Table_restrict_1 N) (impl_makeTable_l0 N)
def BV_impl_makeTable_l0b {β : Type} (N : Nat) (a1 : (Int → (Bool → Option β) → Option β)) (v0 : Int) (v1 : Int) (v2 : Int) (v3 : Int) (v4 : Int) (v5 : Int) (rec_ : Int → Int → Int → Int → Int → Int → Option β) (k0 : Int → Int → Int → Int → Option β) : Option β :=
(cond ((decide (v1 < v0)))
(a1 v1 fun r4 =>
(cond r4
((gd ((decide (0 ≤ v1)))
(rec_ v0 ((w64 (v1 + 1))) v2 v3 v4 ((bits .or .i64 v5 (shlI .i64 1 v1))))))
(rec_ v0 ((w64 (v1 + 1))) v2 v3 v4 v5)))
(k0 v2 v3 v4 v5))
theorem t_impl_makeTable_l0b {β : Type} (N : Nat) (a1 : (Int → (Bool → Option β) → Option β)) (v0 : Int) (v1 : Int) (v2 : Int) (v3 : Int) (v4 : Int) (v5 : Int) (rec_ : Int → Int → Int → Int → Int → Int → Option β) (k0 : Int → Int → Int → Int → Option β) : impl_makeTable_l0b N a1 v0 v1 v2 v3 v4 v5 rec_ k0 = BV_impl_makeTable_l0b N a1 v0 v1 v2 v3 v4 v5 rec_ k0 := by
  unfold impl_makeTable_l0b BV_impl_makeTable_l0b
  rfl
theorem vst118_0_0 {β : Type} (N : Nat) (q_impl_Table_anf_1 : (a0 : Int) → (c0 : Int) → (c1 : Int) → (k : Bool → Option β) → Option β) (q_impl_Table_restrict_1 : (a0 : Int) → (c0 : Int) → (c1 : Int) → (c2 : Int) → (c3 : Int) → (k : Bool → Option β) → Option β) (q_impl_makeTable_l0 : (a1 : (Int → (Bool → Option β) → Option β)) → Nat → Int → Int → Int → Int → Int → Int → (Int → Int → Int → Int → Option β) → Option β) (q0 : Int) (q1 : Int) (v0 : Int) (v1 : Int) (v2 : Int) (v3 : Int) (v4 : Int) (v5 : Int) (rec_ : St → Option β) (K : Exit → St → Option β) :
    ev lay (VE118 N q_impl_Table_anf_1 q_impl_Table_restrict_1 q_impl_makeTable_l0) (retMask Try.f118) (lp Try.f118 0).body (lp Try.f118 0).ex ((lp Try.f118 0).lv (retMask Try.f118)) (h118_0_0 q0 q1 v0 v1 v2 v3 v4 v5) (nextR (fun s' => rec_ (s'.tidy ((lp Try.f118 0).lv (retMask Try.f118)))) K) = BV_impl_makeTable_l0b N (fun x0 k => q_impl_Table_anf_1 x0 q0 q1 k) v0 v1 v2 v3 v4 v5 (fun v0 v1 v2 v3 v4 v5 => rec_ (h118_0_0 q0 q1 v0 v1 v2 v3 v4 v5)) (fun y0 y1 y2 y3 => K (.exit 0) (x118_0_0_k0 q0 q1 y0 y1 y2 y3)) := by kernel_rfl
theorem st118_0_0 {β : Type} (N : Nat) (q0 : Int) (q1 : Int) (v0 : Int) (v1 : Int) (v2 : Int) (v3 : Int) (v4 : Int) (v5 : Int) (rec_ : St → Option β) (K : Exit → St → Option β) :
    ev lay (E118 N) (retMask Try.f118) (lp Try.f118 0).body (lp Try.f118 0).ex ((lp Try.f118 0).lv (retMask Try.f118)) (h118_0_0 q0 q1 v0 v1 v2 v3 v4 v5) (nextR (fun s' => rec_ (s'.tidy ((lp Try.f118 0).lv (retMask Try.f118)))) K) = impl_makeTable_l0b N (fun x0 k => impl_Table_anf_1 N x0 q0 q1 k) v0 v1 v2 v3 v4 v5 (fun v0 v1 v2 v3 v4 v5 => rec_ (h118_0_0 q0 q1 v0 v1 v2 v3 v4 v5)) (fun y0 y1 y2 y3 => K (.exit 0) (x118_0_0_k0 q0 q1 y0 y1 y2 y3)) := (vst118_0_0 N (impl_Table_anf_1 N) (impl_Table_restrict_1 N) (impl_makeTable_l0 N) q0 q1 v0 v1 v2 v3 v4 v5 rec_ K).trans (t_impl_makeTable_l0b N (fun x0 k => impl_Table_anf_1 N x0 q0 q1 k) v0 v1 v2 v3 v4 v5 (fun v0 v1 v2 v3 v4 v5 => rec_ (h118_0_0 q0 q1 v0 v1 v2 v3 v4 v5)) (fun y0 y1 y2 y3 => K (.exit 0) (x118_0_0_k0 q0 q1 y0 y1 y2 y3))).symm
theorem ro118_0_0 {β : Type} (N : Nat) (q0 : Int) (q1 : Int) (K : Exit → St → Option β) : ∀ (F : Nat) (v0 : Int) (v1 : Int) (v2 : Int) (v3 : Int) (v4 : Int) (v5 : Int), (lp Try.f118 0).rounds lay (E118 N) (retMask Try.f118) F (h118_0_0 q0 q1 v0 v1 v2 v3 v4 v5) K = impl_makeTable_l0 N (fun x0 k => impl_Table_anf_1 N x0 q0 q1 k) F v0 v1 v2 v3 v4 v5 (fun y0 y1 y2 y3 => K (.exit 0) (x118_0_0_k0 q0 q1 y0 y1 y2 y3)) := by
  intro F
  induction F with
  | zero => intros; rfl
  | succ F ih =>
    intros
    rw [rounds_next]
    refine (st118_0_0 N q0 q1 _ _ _ _ _ _ (fun s => (lp Try.f118 0).rounds lay (E118 N) (retMask Try.f118) F s K) K).trans ?_
    simp only [ih]
    rfl
theorem vst118_0_1 {β : Type} (N : Nat) (q_impl_Table_anf_1 : (a0 : Int) → (c0 : Int) → (c1 : Int) → (k : Bool → Option β) → Option β) (q_impl_Table_restrict_1 : (a0 : Int) → (c0 : Int) → (c1 : Int) → (c2 : Int) → (c3 : Int) → (k : Bool → Option β) → Option β) (q_impl_makeTable_l0 : (a1 : (Int → (Bool → Option β) → Option β)) → Nat → Int → Int → Int → Int → Int → Int → (Int → Int → Int → Int → Option β) → Option β) (q0 : Int) (q1 : Int) (q2 : Int) (q3 : Int) (v0 : Int) (v1 : Int) (v2 : Int) (v3 : Int) (v4 : Int) (v5 : Int) (rec_ : St → Option β) (K : Exit → St → Option β) :
    ev lay (VE118 N q_impl_Table_anf_1 q_impl_Table_restrict_1 q_impl_makeTable_l0) (retMask Try.f118) (lp Try.f118 0).body (lp Try.f118 0).ex ((lp Try.f118 0).lv (retMask Try.f118)) (h118_0_1 q0 q1 q2 q3 v0 v1 v2 v3 v4 v5) (nextR (fun s' => rec_ (s'.tidy ((lp Try.f118 0).lv (retMask Try.f118)))) K) = BV_impl_makeTable_l0b N (fun x0 k => q_impl_Table_restrict_1 x0 q0 q1 q2 q3 k) v0 v1 v2 v3 v4 v5 (fun v0 v1 v2 v3 v4 v5 => rec_ (h118_0_1 q0 q1 q2 q3 v0 v1 v2 v3 v4 v5)) (fun y0 y1 y2 y3 => K (.exit 0) (x118_0_1_k0 q0 q1 q2 q3 y0 y1 y2 y3)) := by kernel_rfl
theorem st118_0_1 {β : Type} (N : Nat) (q0 : Int) (q1 : Int) (q2 : Int) (q3 : Int) (v0 : Int) (v1 : Int) (v2 : Int) (v3 : Int) (v4 : Int) (v5 : Int) (rec_ : St → Option β) (K : Exit → St → Option β) :
    ev lay (E118 N) (retMask Try.f118) (lp Try.f118 0).body (lp Try.f118 0).ex ((lp Try.f118 0).lv (retMask Try.f118)) (h118_0_1 q0 q1 q2 q3 v0 v1 v2 v3 v4 v5) (nextR (fun s' => rec_ (s'.tidy ((lp Try.f118 0).lv (retMask Try.f118)))) K) = impl_makeTable_l0b N (fun x0 k => impl_Table_restrict_1 N x0 q0 q1 q2 q3 k) v0 v1 v2 v3 v4 v5 (fun v0 v1 v2 v3 v4 v5 => rec_ (h118_0_1 q0 q1 q2 q3 v0 v1 v2 v3 v4 v5)) (fun y0 y1 y2 y3 => K (.exit 0) (x118_0_1_k0 q0 q1 q2 q3 y0 y1 y2 y3)) := (vst118_0_1 N (impl_Table_anf_1 N) (impl_Table_restrict_1 N) (impl_makeTable_l0 N) q0 q1 q2 q3 v0 v1 v2 v3 v4 v5 rec_ K).trans (t_impl_makeTable_l0b N (fun x0 k => impl_Table_restrict_1 N x0 q0 q1 q2 q3 k) v0 v1 v2 v3 v4 v5 (fun v0 v1 v2 v3 v4 v5 => rec_ (h118_0_1 q0 q1 q2 q3 v0 v1 v2 v3 v4 v5)) (fun y0 y1 y2 y3 => K (.exit 0) (x118_0_1_k0 q0 q1 q2 q3 y0 y1 y2 y3))).symm
theorem ro118_0_1 {β : Type} (N : Nat) (q0 : Int) (q1 : Int) (q2 : Int) (q3 : Int) (K : Exit → St → Option β) : ∀ (F : Nat) (v0 : Int) (v1 : Int) (v2 : Int) (v3 : Int) (v4 : Int) (v5 : Int), (lp Try.f118 0).rounds lay (E118 N) (retMask Try.f118) F (h118_0_1 q0 q1 q2 q3 v0 v1 v2 v3 v4 v5) K = impl_makeTable_l0 N (fun x0 k => impl_Table_restrict_1 N x0 q0 q1 q2 q3 k) F v0 v1 v2 v3 v4 v5 (fun y0 y1 y2 y3 => K (.exit 0) (x118_0_1_k0 q0 q1 q2 q3 y0 y1 y2 y3)) := by
  intro F
  induction F with
  | zero => intros; rfl
  | succ F ih =>
    intros
    rw [rounds_next]
    refine (st118_0_1 N q0 q1 q2 q3 _ _ _ _ _ _ (fun s => (lp Try.f118 0).rounds lay (E118 N) (retMask Try.f118) F s K) K).trans ?_
    simp only [ih]
    rfl
theorem lk118_0 {β : Type} (N : Nat) : lookL (E118 (β := β) N).loops (lp Try.f118 0).id = LS118_0 N := by kernel_rfl
theorem rk118_0 {β : Type} (N : Nat) : RoundsOK lay (E118 (β := β) N) (retMask Try.f118) (lp Try.f118 0) := by
  intro s K r h
  rw [lk118_0] at h
  unfold LS118_0 VLS118_0 at h
  cases hb : shpSt (h118_0_0 0 0 0 0 0 0 0 0) s with
  | true =>
    rw [hb, cond_true] at h
    exact ⟨N, by rw [← shpSt_ref hb, fl118_0_0 s]; exact (ro118_0_0 N (intF (nx .no (nx ([], 0) (dfnS (oneA (vT (nx tund s.tmps 1)))) 0).1 0)) (intF (nx .no (nx ([], 0) (dfnS (oneA (vT (nx tund s.tmps 1)))) 0).1 1)) K N (intS (oneA (vT (nx tund s.tmps 10)))) (intS (oneA (vT (nx tund s.tmps 11)))) (intS (nx .und (cellsB (nx .dead s.blks 0)) 0)) (intS (nx .und (cellsB (nx .dead s.blks 0)) 1)) (intS (nx .und (cellsB (nx .dead s.blks 1)) 0)) (intS (nx .und (cellsB (nx .dead s.blks 1)) 1))).trans h⟩
  | false =>
  rw [hb, cond_false] at h
  clear hb
  cases hb : shpSt (h118_0_1 0 0 0 0 0 0 0 0 0 0) s with
  | true =>
    rw [hb, cond_true] at h
    exact ⟨N, by rw [← shpSt_ref hb, fl118_0_1 s]; exact (ro118_0_1 N (intF (nx .no (nx ([], 0) (dfnS (oneA (vT (nx tund s.tmps 1)))) 0).1 0)) (intF (nx .no (nx ([], 0) (dfnS (oneA (vT (nx tund s.tmps 1)))) 0).1 1)) (intF (nx .no (nx ([], 0) (dfnS (oneA (vT (nx tund s.tmps 1)))) 1).1 0)) (intF (nx .no (nx ([], 0) (dfnS (oneA (vT (nx tund s.tmps 1)))) 2).1 0)) K N (intS (oneA (vT (nx tund s.tmps 10)))) (intS (oneA (vT (nx tund s.tmps 11)))) (intS (nx .und (cellsB (nx .dead s.blks 0)) 0)) (intS (nx .und (cellsB (nx .dead s.blks 0)) 1)) (intS (nx .und (cellsB (nx .dead s.blks 1)) 0)) (intS (nx .und (cellsB (nx .dead s.blks 1)) 1))).trans h⟩
  | false =>
  rw [hb, cond_false] at h
  clear hb
  cases h
def BV_impl_makeTable {β : Type} (N : Nat) (q_impl_makeTable_l0 : (a1 : (Int → (Bool → Option β) → Option β)) → Nat → Int → Int → Int → Int → Int → Int → (Int → Int → Int → Int → Option β) → Option β) (a0 : Int) (a1 : (Int → (Bool → Option β) → Option β)) (k : Int → Int → Option β) : Option β :=
(gd ((decide (0 ≤ a0)))
(q_impl_makeTable_l0 a1 N ((shlI .i64 1 a0)) 0 0 0 a0 0 (fun e5_0 e5_1 e5_2 e5_3 =>
k e5_2 e5_3)))
theorem t_impl_makeTable {β : Type} (N : Nat) (a0 : Int) (a1 : (Int → (Bool → Option β) → Option β)) (k : Int → Int → Option β) : impl_makeTable N a0 a1 k = BV_impl_makeTable N (impl_makeTable_l0 N) a0 a1 k := by
  unfold impl_makeTable BV_impl_makeTable
  rfl
theorem ve118_0 {β : Type} (N : Nat) (q_impl_Table_anf_1 : (a0 : Int) → (c0 : Int) → (c1 : Int) → (k : Bool → Option β) → Option β) (q_impl_Table_restrict_1 : (a0 : Int) → (c0 : Int) → (c1 : Int) → (c2 : Int) → (c3 : Int) → (k : Bool → Option β) → Option β) (q_impl_makeTable_l0 : (a1 : (Int → (Bool → Option β) → Option β)) → Nat → Int → Int → Int → Int → Int → Int → (Int → Int → Int → Int → Option β) → Option β) (q0 : Int) (q1 : Int) (a0 : Int) (K : TV → Option β) : evFn lay (VE118 N q_impl_Table_anf_1 q_impl_Table_restrict_1 q_impl_makeTable_l0) Try.f118 [.v (.one (.int .i64 a0)), .v (.one (.dfn 158 [([.int .i64 q0, .int .i64 q1], 0)]))] K = BV_impl_makeTable N q_impl_makeTable_l0 a0 (fun x0 k => q_impl_Table_anf_1 x0 q0 q1 k) (fun z2 z3 => K (.v (.agg [.int .i64 z2, .int .i64 z3]))) := by kernel_rfl
theorem e118_0 {β : Type} (N : Nat) (q0 : Int) (q1 : Int) (a0 : Int) (K : TV → Option β) : evFn lay (E118 N) Try.f118 [.v (.one (.int .i64 a0)), .v (.one (.dfn 158 [([.int .i64 q0, .int .i64 q1], 0)]))] K = impl_makeTable N a0 (fun x0 k => impl_Table_anf_1 N x0 q0 q1 k) (fun z2 z3 => K (.v (.agg [.int .i64 z2, .int .i64 z3]))) := (ve118_0 N (impl_Table_anf_1 N) (impl_Table_restrict_1 N) (impl_makeTable_l0 N) q0 q1 a0 K).trans (t_impl_makeTable N a0 (fun x0 k => impl_Table_anf_1 N x0 q0 q1 k) (fun z2 z3 => K (.v (.agg [.int .i64 z2, .int .i64 z3])))).symm
theorem ve118_1 {β : Type} (N : Nat) (q_impl_Table_anf_1 : (a0 : Int) → (c0 : Int) → (c1 : Int) → (k : Bool → Option β) → Option β) (q_impl_Table_restrict_1 : (a0 : Int) → (c0 : Int) → (c1 : Int) → (c2 : Int) → (c3 : Int) → (k : Bool → Option β) → Option β) (q_impl_makeTable_l0 : (a1 : (Int → (Bool → Option β) → Option β)) → Nat → Int → Int → Int → Int → Int → Int → (Int → Int → Int → Int → Option β) → Option β) (q0 : Int) (q1 : Int) (q2 : Int) (q3 : Int) (a0 : Int) (K : TV → Option β) : evFn lay (VE118 N q_impl_Table_anf_1 q_impl_Table_restrict_1 q_impl_makeTable_l0) Try.f118 [.v (.one (.int .i64 a0)), .v (.one (.dfn 159 [([.int .i64 q0, .int .i64 q1], 0), ([.int .i64 q2], 0), ([.int .i64 q3], 0)]))] K = BV_impl_makeTable N q_impl_makeTable_l0 a0 (fun x0 k => q_impl_Table_restrict_1 x0 q0 q1 q2 q3 k) (fun z2 z3 => K (.v (.agg [.int .i64 z2, .int .i64 z3]))) := by kernel_rfl
theorem e118_1 {β : Type} (N : Nat) (q0 : Int) (q1 : Int) (q2 : Int) (q3 : Int) (a0 : Int) (K : TV → Option β) : evFn lay (E118 N) Try.f118 [.v (.one (.int .i64 a0)), .v (.one (.dfn 159 [([.int .i64 q0, .int .i64 q1], 0), ([.int .i64 q2], 0), ([.int .i64 q3], 0)]))] K = impl_makeTable N a0 (fun x0 k => impl_Table_restrict_1 N x0 q0 q1 q2 q3 k) (fun z2 z3 => K (.v (.agg [.int .i64 z2, .int .i64 z3]))) := (ve118_1 N (impl_Table_anf_1 N) (impl_Table_restrict_1 N) (impl_makeTable_l0 N) q0 q1 q2 q3 a0 K).trans (t_impl_makeTable N a0 (fun x0 k => impl_Table_restrict_1 N x0 q0 q1 q2 q3 k) (fun z2 z3 => K (.v (.agg [.int .i64 z2, .int .i64 z3])))).symm
theorem o118 {β : Type} (N : Nat) : SpecOK (β := β) Try.prog 118 (S118 N) := by
  refine spec_of lay_ok mixed (E := E118 N) (specs_loops (specs_cons (o158 N) (specs_cons (o159 N) specs_nil))) muts_nil gs_nil Try.func118 (by kernel_rfl) 1 (by kernel_rfl) ⟨trivial, rk118_0 N⟩ fun args K r h => ?_
  unfold S118 VS118 at h
  split at h
  · exact (e118_0 N _ _ _ _).trans h
  · exact (e118_1 N _ _ _ _ _ _).trans h
  · cases h
def VS150 {β : Type} (N : Nat) (q_impl_Table_anf : (a0 : Int) → (a1 : Int) → (k : Int → Int → Option β) → Option β) : Rv.Spec β := fun args K => match args with
  | [.v (.agg [.int .i64 a0, .int .i64 a1])] => q_impl_Table_anf a0 a1 (fun z2 z3 => K (.v (.agg [.int .i64 z2, .int .i64 z3])))
  | _ => none
def S150 {β : Type} (N : Nat) : Rv.Spec β := VS150 N (impl_Table_anf N)
def VE150 {β : Type} (N : Nat) (q_impl_makeTable : (a0 : Int) → (a1 : (Int → (Bool → Option β) → Option β)) → (k : Int → Int → Option β) → Option β) (q_impl_Table_anf_1 : (a0 : Int) → (c0 : Int) → (c1 : Int) → (k : Bool → Option β) → Option β) (q_impl_Table_restrict_1 : (a0 : Int) → (c0 : Int) → (c1 : Int) → (c2 : Int) → (c3 : Int) → (k : Bool → Option β) → Option β) : Env β := ⟨[(118, VS118 N q_impl_makeTable q_impl_Table_anf_1 q_impl_Table_restrict_1), (158, VS158 N q_impl_Table_anf_1)], [], [], []⟩
def E150 {β : Type} (N : Nat) : Env β := VE150 N (impl_makeTable N) (impl_Table_anf_1 N) (impl_Table_restrict_1 N)
def BV_impl_Table_anf {β : Type} (N : Nat) (q_impl_makeTable : (a0 : Int) → (a1 : (Int → (Bool → Option β) → Option β)) → (k : Int → Int → Option β) → Option β) (q_impl_Table_anf_1 : (a0 : Int) → (c0 : Int) → (c1 : Int) → (k : Bool → Option β) → Option β) (a0 : Int) (a1 : Int) (k : Int → Int → Option β) : Option β :=
q_impl_makeTable a0 (fun x0 k => q_impl_Table_anf_1 x0 a0 a1 k) fun r4 r5 =>
k r4 r5
theorem t_impl_Table_anf {β : Type} (N : Nat) (a0 : Int) (a1 : Int) (k : Int → Int → Option β) : impl_Table_anf N a0 a1 k = BV_impl_Table_anf N (impl_makeTable N) (impl_Table_anf_1 N) a0 a1 k := by
  unfold impl_Table_anf BV_impl_Table_anf
  rfl
theorem ve150_0 {β : Type} (N : Nat) (q_impl_makeTable : (a0 : Int) → (a1 : (Int → (Bool → Option β) → Option β)) → (k : Int → Int → Option β) → Option β) (q_impl_Table_anf_1 : (a0 : Int) → (c0 : Int) → (c1 : Int) → (k : Bool → Option β) → Option β) (q_impl_Table_restrict_1 : (a0 : Int) → (c0 : Int) → (c1 : Int) → (c2 : Int) → (c3 : Int) → (k : Bool → Option β) → Option β)  (a0 : Int) (a1 : Int) (K : TV → Option β) : evFn lay (VE150 N q_impl_makeTable q_impl_Table_anf_1 q_impl_Table_restrict_1) Try.f150 [.v (.agg [.int .i64 a0, .int .i64 a1])] K = BV_impl_Table_anf N q_impl_makeTable q_impl_Table_anf_1 a0 a1 (fun z2 z3 => K (.v (.agg [.int .i64 z2, .int .i64 z3]))) := by kernel_rfl
theorem e150_0 {β : Type} (N : Nat)  (a0 : Int) (a1 : Int) (K : TV → Option β) : evFn lay (E150 N) Try.f150 [.v (.agg [.int .i64 a0, .int .i64 a1])] K = impl_Table_anf N a0 a1 (fun z2 z3 => K (.v (.agg [.int .i64 z2, .int .i64 z3]))) := (ve150_0 N (impl_makeTable N) (impl_Table_anf_1 N) (impl_Table_restrict_1 N) a0 a1 K).trans (t_impl_Table_anf N a0 a1 (fun z2 z3 => K (.v (.agg [.int .i64 z2, .int .i64 z3])))).symm
theorem o150 {β : Type} (N : Nat) : SpecOK (β := β) Try.prog 150 (S150 N) := by
  refine spec_of lay_ok mixed (E := E150 N) (specs_loops (specs_cons (o118 N) (specs_cons (o158 N) specs_nil))) muts_nil gs_nil Try.func150 (by kernel_rfl) 0 (by kernel_rfl) trivial fun args K r h => ?_
  unfold S150 VS150 at h
  split at h
  · exact (e150_0 N _ _ _).trans h
  · cases h
def VS133 {β : Type} (N : Nat) (q_impl_DegreeMod2 : (a0 : Int) → (a1 : Int) → (k : Int → Option β) → Option β) : Rv.Spec β := fun args K => match args with
  | [.v (.agg [.int .i64 a0, .int .i64 a1])] => q_impl_DegreeMod2 a0 a1 (fun z2 => K (.v (.one (.int .i64 z2))))
  | _ => none
def S133 {β : Type} (N : Nat) : Rv.Spec β := VS133 N (impl_DegreeMod2 N)
def VE133 {β : Type} (N : Nat) (q_impl_IsTable : (a0 : Int) → (a1 : Int) → (k : Bool → Option β) → Option β) (q_impl_Table_anf : (a0 : Int) → (a1 : Int) → (k : Int → Int → Option β) → Option β) (q_impl_degree : (a0 : Int) → (a1 : (Int → (Bool → Option β) → Option β)) → (k : Int → Option β) → Option β) (q_impl_RealDegree_1 : (a0 : Int) → (c0 : List Int) → (k : Bool → Option β) → Option β) (q_impl_DegreeMod2_1 : (a0 : Int) → (c0 : Int) → (c1 : Int) → (k : Bool → Option β) → Option β) : Env β := ⟨[(61, VS61 N q_impl_IsTable), (150, VS150 N q_impl_Table_anf), (148, VS148 N q_impl_degree q_impl_RealDegree_1 q_impl_DegreeMod2_1), (151, VS151 N q_impl_DegreeMod2_1)], [], [], []⟩
def E133 {β : Type} (N : Nat) : Env β := VE133 N (impl_IsTable N) (impl_Table_anf N) (impl_degree N) (impl_RealDegree_1 N) (impl_DegreeMod2_1 N)
def BV_impl_DegreeMod2 {β : Type} (N : Nat) (q_impl_IsTable : (a0 : Int) → (a1 : Int) → (k : Bool → Option β) → Option β) (q_impl_Table_anf : (a0 : Int) → (a1 : Int) → (k : Int → Int → Option β) → Option β) (q_impl_degree : (a0 : Int) → (a1 : (Int → (Bool → Option β) → Option β)) → (k : Int → Option β) → Option β) (q_impl_DegreeMod2_1 : (a0 : Int) → (c0 : Int) → (c1 : Int) → (k : Bool → Option β) → Option β) (a0 : Int) (a1 : Int) (k : Int → Option β) : Option β :=
q_impl_IsTable a0 a1 fun r3 =>
(cond (!r3)
(k (-2))
(q_impl_Table_anf a0 a1 fun r4 r5 =>
q_impl_degree a0 (fun x0 k => q_impl_DegreeMod2_1 x0 r4 r5 k) fun r6 =>
k r6))
theorem t_impl_DegreeMod2 {β : Type} (N : Nat) (a0 : Int) (a1 : Int) (k : Int → Option β) : impl_DegreeMod2 N a0 a1 k = BV_impl_DegreeMod2 N (impl_IsTable N) (impl_Table_anf N) (impl_degree N) (impl_DegreeMod2_1 N) a0 a1 k := by
  unfold impl_DegreeMod2 BV_impl_DegreeMod2
  rfl
theorem ve133_0 {β : Type} (N : Nat) (q_impl_IsTable : (a0 : Int) → (a1 : Int) → (k : Bool → Option β) → Option β) (q_impl_Table_anf : (a0 : Int) → (a1 : Int) → (k : Int → Int → Option β) → Option β) (q_impl_degree : (a0 : Int) → (a1 : (Int → (Bool → Option β) → Option β)) → (k : Int → Option β) → Option β) (q_impl_RealDegree_1 : (a0 : Int) → (c0 : List Int) → (k : Bool → Option β) → Option β) (q_impl_DegreeMod2_1 : (a0 : Int) → (c0 : Int) → (c1 : Int) → (k : Bool → Option β) → Option β)  (a0 : Int) (a1 : Int) (K : TV → Option β) : evFn lay (VE133 N q_impl_IsTable q_impl_Table_anf q_impl_degree q_impl_RealDegree_1 q_impl_DegreeMod2_1) Try.f133 [.v (.agg [.int .i64 a0, .int .i64 a1])] K = BV_impl_DegreeMod2 N q_impl_IsTable q_impl_Table_anf q_impl_degree q_impl_DegreeMod2_1 a0 a1 (fun z2 => K (.v (.one (.int .i64 z2)))) := by kernel_rfl
theorem e133_0 {β : Type} (N : Nat)  (a0 : Int) (a1 : Int) (K : TV → Option β) : evFn lay (E133 N) Try.f133 [.v (.agg [.int .i64 a0, .int .i64 a1])] K = impl_DegreeMod2 N a0 a1 (fun z2 => K (.v (.one (.int .i64 z2)))) := (ve133_0 N (impl_IsTable N) (impl_Table_anf N) (impl_degree N) (impl_RealDegree_1 N) (impl_DegreeMod2_1 N) a0 a1 K).trans (t_impl_DegreeMod2 N a0 a1 (fun z2 => K (.v (.one (.int .i64 z2))))).symm
theorem o133 {β : Type} (N : Nat) : SpecOK (β := β) Try.prog 133 (S133 N) := by
  refine spec_of lay_ok mixed (E := E133 N) (specs_loops (specs_cons (o61 N) (specs_cons (o150 N) (specs_cons (o148 N) (specs_cons (o151 N) specs_nil))))) muts_nil gs_nil Try.func133 (by kernel_rfl) 0 (by kernel_rfl) trivial fun args K r h => ?_
  unfold S133 VS133 at h
  split at h
  · exact (e133_0 N _ _ _).trans h
  · cases h
def VS134 {β : Type} (N : Nat) (q_impl_CountOnes : (a0 : Int) → (a1 : Int) → (k : Int → Option β) → Option β) : Rv.Spec β := fun args K => match args with
  | [.v (.agg [.int .i64 a0, .int .i64 a1])] => q_impl_CountOnes a0 a1 (fun z2 => K (.v (.one (.int .i64 z2))))
  | _ => none
def S134 {β : Type} (N : Nat) : Rv.Spec β := VS134 N (impl_CountOnes N)
def VE134 {β : Type} (N : Nat) (q_impl_IsTable : (a0 : Int) → (a1 : Int) → (k : Bool → Option β) → Option β) (q_impl_ones : (a0 : Int) → (k : Int → Option β) → Option β) : Env β := ⟨[(61, VS61 N q_impl_IsTable), (64, VS64 N q_impl_ones)], [], [], []⟩
def E134 {β : Type} (N : Nat) : Env β := VE134 N (impl_IsTable N) (impl_ones N)
def BV_impl_CountOnes {β : Type} (N : Nat) (q_impl_IsTable : (a0 : Int) → (a1 : Int) → (k : Bool → Option β) → Option β) (q_impl_ones : (a0 : Int) → (k : Int → Option β) → Option β) (a0 : Int) (a1 : Int) (k : Int → Option β) : Option β :=
q_impl_IsTable a0 a1 fun r3 =>
(cond (!r3)
(k (-1))
(q_impl_ones a1 fun r4 =>
k r4))
theorem t_impl_CountOnes {β : Type} (N : Nat) (a0 : Int) (a1 : Int) (k : Int → Option β) : impl_CountOnes N a0 a1 k = BV_impl_CountOnes N (impl_IsTable N) (impl_ones N) a0 a1 k := by
  unfold impl_CountOnes BV_impl_CountOnes
  rfl
theorem ve134_0 {β : Type} (N : Nat) (q_impl_IsTable : (a0 : Int) → (a1 : Int) → (k : Bool → Option β) → Option β) (q_impl_ones : (a0 : Int) → (k : Int → Option β) → Option β)  (a0 : Int) (a1 : Int) (K : TV → Option β) : evFn lay (VE134 N q_impl_IsTable q_impl_ones) Try.f134 [.v (.agg [.int .i64 a0, .int .i64 a1])] K = BV_impl_CountOnes N q_impl_IsTable q_impl_ones a0 a1 (fun z2 => K (.v (.one (.int .i64 z2)))) := by kernel_rfl
theorem e134_0 {β : Type} (N : Nat)  (a0 : Int) (a1 : Int) (K : TV → Option β) : evFn lay (E134 N) Try.f134 [.v (.agg [.int .i64 a0, .int .i64 a1])] K = impl_CountOnes N a0 a1 (fun z2 => K (.v (.one (.int .i64 z2)))) := (ve134_0 N (impl_IsTable N) (impl_ones N) a0 a1 K).trans (t_impl_CountOnes N a0 a1 (fun z2 => K (.v (.one (.int .i64 z2))))).symm
theorem o134 {β : Type} (N : Nat) : SpecOK (β := β) Try.prog 134 (S134 N) := by
  refine spec_of lay_ok mixed (E := E134 N) (specs_loops (specs_cons (o61 N) (specs_cons (o64 N) specs_nil))) muts_nil gs_nil Try.func134 (by kernel_rfl) 0 (by kernel_rfl) trivial fun args K r h => ?_
  unfold S134 VS134 at h
  split at h
  · exact (e134_0 N _ _ _).trans h
  · cases h
end Go.Proofs.Ytdkjnadhgdneaaa
