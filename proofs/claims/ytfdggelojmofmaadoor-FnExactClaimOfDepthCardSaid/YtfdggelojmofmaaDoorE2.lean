/- The functions that the claims reach answer as their texts do. -/
import Derived.Test.YtfdggelojmofmaaDoorE1
namespace Go.Proofs.YtfdggelojmofmaaDoor
open Go.Rv
set_option maxRecDepth 100000
set_option maxHeartbeats 2000000
set_option linter.unusedVariables false
def VS175 {β : Type} (N : Nat) (q_impl_asker_first_g0 : (a0 : Int) → (a1 : Int) → (a2 : Int) → (a3 : Int) → (a4 : Mp) → (a5 : Mp) → (k0 : Int → Int → Int → Mp → Mp → Option β) → Option β) : GSpec β := fun args bl K => match args, bl with
  | [.v (.one (.ptr 0 0)), .v (.agg [.int .i64 a0, .int .i64 a1])], [.pcells 0 156 [.int .i64 a2, .int .i64 a3, .mp 1, .mp 2], .pmp 1 ⟨true, false⟩ a4, .pmp 2 ⟨true, false⟩ a5] => q_impl_asker_first_g0 a0 a1 a2 a3 a4 a5 (fun y0 y1 y2 y3 y4 => K (.v (.one (.int .i64 y0))) [.pcells 0 156 [.int .i64 y1, .int .i64 y2, .mp 1, .mp 2], .pmp 1 ⟨true, false⟩ y3, .pmp 2 ⟨true, false⟩ y4])
  | _, _ => none
def S175 {β : Type} (N : Nat) : GSpec β := VS175 N (impl_asker_first_g0 N)
def h175_0_0  (v0 : Int) (v1 : Int) (v2 : Int) (v3 : Int) (v4 : Int) (v5 : Mp) (v6 : Mp) (v7 : Int) (v8 : Int) : St := ⟨.v (.one (.ptr 0 0)) :: .v (.one .und) :: .v (.one .und) :: .v (.one (.ptr 3 0)) :: .v (.one .und) :: .v (.one (.int .i64 v0)) :: .v (.one .und) :: .v (.one .und) :: .v (.one .und) :: .v (.one .und) :: .v (.one .und) :: .v (.one .und) :: .v (.one .und) :: .v (.one .und) :: .v (.one (.int .i64 v1)) :: .v (.one (.int .i64 v2)) :: .v (.one .und) :: .v (.one .und) :: .v (.one .und) :: .v (.one .und) :: .v (.one .und) :: .v (.one .und) :: .v (.one .und) :: .v (.one .und) :: .v (.one .und) :: .v (.one .und) :: .v (.one .und) :: .v (.one .und) :: .v (.one .und) :: .v (.one .und) :: .v (.one .und) :: .v (.one .und) :: .v (.one .und) :: .v (.one .und) :: .v (.one .und) :: .v (.one .und) :: .v (.one .und) :: .v (.one .und) :: .v (.one .und) :: .v (.one .und) :: .v (.one .und) :: .v (.one .und) :: .v (.one .und) :: .v (.one .und) :: .v (.one .und) :: .v (.one .und) :: .v (.one .und) :: .v (.one .und) :: [], [.pcells 0 156 [.int .i64 v3, .int .i64 v4, .mp 1, .mp 2], .pmp 1 ⟨true, false⟩ v5, .pmp 2 ⟨true, false⟩ v6, .cells 94 [.int .i64 v7, .int .i64 v8]]⟩
def x175_0_0_k0  (y0 : Int) (y1 : Int) (y2 : Int) (y3 : Mp) (y4 : Mp) : St := ⟨.v (.one .und) :: .v (.one .und) :: .v (.one .und) :: .v (.one .und) :: .v (.one (.int .i64 y0)) :: .v (.one .und) :: .v (.one .und) :: .v (.one .und) :: .v (.one .und) :: .v (.one .und) :: .v (.one .und) :: .v (.one .und) :: .v (.one .und) :: .v (.one .und) :: .v (.one .und) :: .v (.one .und) :: .v (.one .und) :: .v (.one .und) :: .v (.one .und) :: .v (.one .und) :: .v (.one .und) :: .v (.one .und) :: .v (.one .und) :: .v (.one .und) :: .v (.one .und) :: .v (.one .und) :: .v (.one .und) :: .v (.one .und) :: .v (.one .und) :: .v (.one .und) :: .v (.one .und) :: .v (.one .und) :: .v (.one .und) :: .v (.one .und) :: .v (.one .und) :: .v (.one .und) :: .v (.one .und) :: .v (.one .und) :: .v (.one .und) :: .v (.one .und) :: .v (.one .und) :: .v (.one .und) :: .v (.one .und) :: .v (.one .und) :: .v (.one .und) :: .v (.one .und) :: .v (.one .und) :: .v (.one .und) :: [], [.pcells 0 156 [.int .i64 y1, .int .i64 y2, .mp 1, .mp 2], .pmp 1 ⟨true, false⟩ y3, .pmp 2 ⟨true, false⟩ y4]⟩
def x175_0_0_k1  (y0 : Int) (y1 : Int) (y2 : Mp) (y3 : Mp) : St := ⟨.v (.one .und) :: .v (.one .und) :: .v (.one .und) :: .v (.one .und) :: .v (.one .und) :: .v (.one .und) :: .v (.one .und) :: .v (.one .und) :: .v (.one .und) :: .v (.one .und) :: .v (.one .und) :: .v (.one .und) :: .v (.one .und) :: .v (.one .und) :: .v (.one .und) :: .v (.one .und) :: .v (.one .und) :: .v (.one .und) :: .v (.one .und) :: .v (.one .und) :: .v (.one .und) :: .v (.one .und) :: .v (.one .und) :: .v (.one .und) :: .v (.one .und) :: .v (.one .und) :: .v (.one .und) :: .v (.one .und) :: .v (.one .und) :: .v (.one .und) :: .v (.one .und) :: .v (.one .und) :: .v (.one .und) :: .v (.one .und) :: .v (.one .und) :: .v (.one .und) :: .v (.one .und) :: .v (.one .und) :: .v (.one .und) :: .v (.one .und) :: .v (.one .und) :: .v (.one .und) :: .v (.one .und) :: .v (.one .und) :: .v (.one .und) :: .v (.one .und) :: .v (.one .und) :: .v (.one .und) :: [], [.pcells 0 156 [.int .i64 y0, .int .i64 y1, .mp 1, .mp 2], .pmp 1 ⟨true, false⟩ y2, .pmp 2 ⟨true, false⟩ y3]⟩
theorem fl175_0_0 (s : St) : refSt (h175_0_0 0 0 0 0 0 [] [] 0 0) s = h175_0_0 (intS (oneA (vT (nx tund s.tmps 5)))) (intS (oneA (vT (nx tund s.tmps 14)))) (intS (oneA (vT (nx tund s.tmps 15)))) (intS (nx .und (cellsB (nx .dead s.blks 0)) 0)) (intS (nx .und (cellsB (nx .dead s.blks 0)) 1)) (mpB (nx .dead s.blks 1)) (mpB (nx .dead s.blks 2)) (intS (nx .und (cellsB (nx .dead s.blks 3)) 0)) (intS (nx .und (cellsB (nx .dead s.blks 3)) 1)) := by kernel_rfl
def VLS175_0 {β : Type} (N : Nat) (q_impl_asker_first_l0 : Nat → Int → Int → Int → Int → Int → Mp → Mp → Int → Int → (Int → Int → Int → Mp → Mp → Option β) → (Int → Int → Mp → Mp → Option β) → Option β) : LSpec β := fun s K => cond (shpSt (h175_0_0 0 0 0 0 0 [] [] 0 0) s) ((fun (v0 : Int) (v1 : Int) (v2 : Int) (v3 : Int) (v4 : Int) (v5 : Mp) (v6 : Mp) (v7 : Int) (v8 : Int) => q_impl_asker_first_l0  N v0 v1 v2 v3 v4 v5 v6 v7 v8 (fun y0 y1 y2 y3 y4 => K .ret (x175_0_0_k0  y0 y1 y2 y3 y4)) (fun y0 y1 y2 y3 => K (.exit 0) (x175_0_0_k1  y0 y1 y2 y3))) (intS (oneA (vT (nx tund s.tmps 5)))) (intS (oneA (vT (nx tund s.tmps 14)))) (intS (oneA (vT (nx tund s.tmps 15)))) (intS (nx .und (cellsB (nx .dead s.blks 0)) 0)) (intS (nx .und (cellsB (nx .dead s.blks 0)) 1)) (mpB (nx .dead s.blks 1)) (mpB (nx .dead s.blks 2)) (intS (nx .und (cellsB (nx .dead s.blks 3)) 0)) (intS (nx .und (cellsB (nx .dead s.blks 3)) 1))) (none)
def LS175_0 {β : Type} (N : Nat) : LSpec β := VLS175_0 N (impl_asker_first_l0 N)
def VE175 {β : Type} (N : Nat) (q_impl_known_with : (a0 : Int) → (a1 : Int) → (a2 : Int) → (a3 : Int) → (k : Int → Int → Option β) → Option β) (q_impl_asker_first_l0 : Nat → Int → Int → Int → Int → Int → Mp → Mp → Int → Int → (Int → Int → Int → Mp → Mp → Option β) → (Int → Int → Mp → Mp → Option β) → Option β) (q_impl_asker_left_g0_f : Nat → Int → Int → Int → Int → Mp → Mp → (Int → Int → Int → Mp → Mp → Option β) → Option β) : Env β := ⟨[(177, VS177 N q_impl_known_with)], [], [(0, VLS175_0 N q_impl_asker_first_l0)], [(214, VS214 N q_impl_asker_left_g0_f)], ⟨[], [], []⟩⟩
def E175 {β : Type} (N : Nat) : Env β := VE175 N (impl_known_with N) (impl_asker_first_l0 N) (impl_asker_left_g0_f N)
def BV_impl_asker_first_l0b {β : Type} (N : Nat) (q_impl_known_with : (a0 : Int) → (a1 : Int) → (a2 : Int) → (a3 : Int) → (k : Int → Int → Option β) → Option β) (q_impl_asker_left_g0_f : Nat → Int → Int → Int → Int → Mp → Mp → (Int → Int → Int → Mp → Mp → Option β) → Option β)  (v0 : Int) (v1 : Int) (v2 : Int) (v3 : Int) (v4 : Int) (v5 : Mp) (v6 : Mp) (v7 : Int) (v8 : Int) (rec_ : Int → Int → Int → Int → Int → Mp → Mp → Int → Int → Option β) (k0 : Int → Int → Int → Mp → Mp → Option β) (k1 : Int → Int → Mp → Mp → Option β) : Option β :=
(cond ((decide (v2 < v1)))
((cond ((decide (v0 > 0)))
((gd ((decide (0 ≤ v2)))
((cond (((bits .and .i64 (shrI .i64 v7 v2) 1) == 0))
(q_impl_known_with v7 v8 v2 0 fun r15 r16 =>
q_impl_asker_left_g0_f N r15 r16 v3 v4 v5 v6 (fun r17_0 r17_1 r17_2 r17_3 r17_4 =>
(cond ((decide (r17_0 < v0)))
(q_impl_known_with v7 v8 v2 1 fun r18 r19 =>
q_impl_asker_left_g0_f N r18 r19 r17_1 r17_2 r17_3 r17_4 (fun r20_0 r20_1 r20_2 r20_3 r20_4 =>
(cond ((decide (r20_0 < v0)))
(k0 v2 r20_1 r20_2 r20_3 r20_4)
(rec_ v0 v1 ((w64 (v2 + 1))) r20_1 r20_2 r20_3 r20_4 v7 v8))))
(rec_ v0 v1 ((w64 (v2 + 1))) r17_1 r17_2 r17_3 r17_4 v7 v8))))
(rec_ v0 v1 ((w64 (v2 + 1))) v3 v4 v5 v6 v7 v8)))))
(rec_ v0 v1 ((w64 (v2 + 1))) v3 v4 v5 v6 v7 v8)))
(k1 v3 v4 v5 v6))
theorem t_impl_asker_first_l0b {β : Type} (N : Nat)  (v0 : Int) (v1 : Int) (v2 : Int) (v3 : Int) (v4 : Int) (v5 : Mp) (v6 : Mp) (v7 : Int) (v8 : Int) (rec_ : Int → Int → Int → Int → Int → Mp → Mp → Int → Int → Option β) (k0 : Int → Int → Int → Mp → Mp → Option β) (k1 : Int → Int → Mp → Mp → Option β) : impl_asker_first_l0b N v0 v1 v2 v3 v4 v5 v6 v7 v8 rec_ k0 k1 = BV_impl_asker_first_l0b N (impl_known_with N) (impl_asker_left_g0_f N) v0 v1 v2 v3 v4 v5 v6 v7 v8 rec_ k0 k1 := by
  unfold impl_asker_first_l0b BV_impl_asker_first_l0b
  rfl
theorem vst175_0_0 {β : Type} (N : Nat) (q_impl_known_with : (a0 : Int) → (a1 : Int) → (a2 : Int) → (a3 : Int) → (k : Int → Int → Option β) → Option β) (q_impl_asker_first_l0 : Nat → Int → Int → Int → Int → Int → Mp → Mp → Int → Int → (Int → Int → Int → Mp → Mp → Option β) → (Int → Int → Mp → Mp → Option β) → Option β) (q_impl_asker_left_g0_f : Nat → Int → Int → Int → Int → Mp → Mp → (Int → Int → Int → Mp → Mp → Option β) → Option β)  (v0 : Int) (v1 : Int) (v2 : Int) (v3 : Int) (v4 : Int) (v5 : Mp) (v6 : Mp) (v7 : Int) (v8 : Int) (rec_ : St → Option β) (K : Exit → St → Option β) :
    ev lay (VE175 N q_impl_known_with q_impl_asker_first_l0 q_impl_asker_left_g0_f) (retMask Tryd.f175) (lp Tryd.f175 0).body (lp Tryd.f175 0).ex ((lp Tryd.f175 0).lv (retMask Tryd.f175)) (h175_0_0  v0 v1 v2 v3 v4 v5 v6 v7 v8) (nextR (fun s' => rec_ (s'.tidy ((lp Tryd.f175 0).lv (retMask Tryd.f175)))) K) = BV_impl_asker_first_l0b N q_impl_known_with q_impl_asker_left_g0_f  v0 v1 v2 v3 v4 v5 v6 v7 v8 (fun v0 v1 v2 v3 v4 v5 v6 v7 v8 => rec_ (h175_0_0  v0 v1 v2 v3 v4 v5 v6 v7 v8)) (fun y0 y1 y2 y3 y4 => K .ret (x175_0_0_k0  y0 y1 y2 y3 y4)) (fun y0 y1 y2 y3 => K (.exit 0) (x175_0_0_k1  y0 y1 y2 y3)) := by kernel_rfl
theorem st175_0_0 {β : Type} (N : Nat)  (v0 : Int) (v1 : Int) (v2 : Int) (v3 : Int) (v4 : Int) (v5 : Mp) (v6 : Mp) (v7 : Int) (v8 : Int) (rec_ : St → Option β) (K : Exit → St → Option β) :
    ev lay (E175 N) (retMask Tryd.f175) (lp Tryd.f175 0).body (lp Tryd.f175 0).ex ((lp Tryd.f175 0).lv (retMask Tryd.f175)) (h175_0_0  v0 v1 v2 v3 v4 v5 v6 v7 v8) (nextR (fun s' => rec_ (s'.tidy ((lp Tryd.f175 0).lv (retMask Tryd.f175)))) K) = impl_asker_first_l0b N  v0 v1 v2 v3 v4 v5 v6 v7 v8 (fun v0 v1 v2 v3 v4 v5 v6 v7 v8 => rec_ (h175_0_0  v0 v1 v2 v3 v4 v5 v6 v7 v8)) (fun y0 y1 y2 y3 y4 => K .ret (x175_0_0_k0  y0 y1 y2 y3 y4)) (fun y0 y1 y2 y3 => K (.exit 0) (x175_0_0_k1  y0 y1 y2 y3)) := (vst175_0_0 N (impl_known_with N) (impl_asker_first_l0 N) (impl_asker_left_g0_f N) v0 v1 v2 v3 v4 v5 v6 v7 v8 rec_ K).trans (t_impl_asker_first_l0b N  v0 v1 v2 v3 v4 v5 v6 v7 v8 (fun v0 v1 v2 v3 v4 v5 v6 v7 v8 => rec_ (h175_0_0  v0 v1 v2 v3 v4 v5 v6 v7 v8)) (fun y0 y1 y2 y3 y4 => K .ret (x175_0_0_k0  y0 y1 y2 y3 y4)) (fun y0 y1 y2 y3 => K (.exit 0) (x175_0_0_k1  y0 y1 y2 y3))).symm
theorem ro175_0_0 {β : Type} (N : Nat)  (K : Exit → St → Option β) : ∀ (F : Nat) (v0 : Int) (v1 : Int) (v2 : Int) (v3 : Int) (v4 : Int) (v5 : Mp) (v6 : Mp) (v7 : Int) (v8 : Int), (lp Tryd.f175 0).rounds lay (E175 N) (retMask Tryd.f175) F (h175_0_0  v0 v1 v2 v3 v4 v5 v6 v7 v8) K = impl_asker_first_l0 N  F v0 v1 v2 v3 v4 v5 v6 v7 v8 (fun y0 y1 y2 y3 y4 => K .ret (x175_0_0_k0  y0 y1 y2 y3 y4)) (fun y0 y1 y2 y3 => K (.exit 0) (x175_0_0_k1  y0 y1 y2 y3)) := by
  intro F
  induction F with
  | zero => intros; rfl
  | succ F ih =>
    intros
    rw [rounds_next]
    refine (st175_0_0 N  _ _ _ _ _ _ _ _ _ (fun s => (lp Tryd.f175 0).rounds lay (E175 N) (retMask Tryd.f175) F s K) K).trans ?_
    simp only [ih]
    rfl
theorem lk175_0 {β : Type} (N : Nat) : lookL (E175 (β := β) N).loops (lp Tryd.f175 0).id = LS175_0 N := by kernel_rfl
theorem rk175_0 {β : Type} (N : Nat) : RoundsOK lay (E175 (β := β) N) (retMask Tryd.f175) (lp Tryd.f175 0) := by
  intro s K r h
  rw [lk175_0] at h
  unfold LS175_0 VLS175_0 at h
  cases hb : shpSt (h175_0_0 0 0 0 0 0 [] [] 0 0) s with
  | true =>
    rw [hb, cond_true] at h
    exact ⟨N, by rw [← shpSt_ref hb, fl175_0_0 s]; exact (ro175_0_0 N  K N (intS (oneA (vT (nx tund s.tmps 5)))) (intS (oneA (vT (nx tund s.tmps 14)))) (intS (oneA (vT (nx tund s.tmps 15)))) (intS (nx .und (cellsB (nx .dead s.blks 0)) 0)) (intS (nx .und (cellsB (nx .dead s.blks 0)) 1)) (mpB (nx .dead s.blks 1)) (mpB (nx .dead s.blks 2)) (intS (nx .und (cellsB (nx .dead s.blks 3)) 0)) (intS (nx .und (cellsB (nx .dead s.blks 3)) 1))).trans h⟩
  | false =>
  rw [hb, cond_false] at h
  clear hb
  cases h
def BV_impl_asker_first_g0 {β : Type} (N : Nat) (q_impl_asker_left_g0_f : Nat → Int → Int → Int → Int → Mp → Mp → (Int → Int → Int → Mp → Mp → Option β) → Option β) (q_impl_asker_first_l0 : Nat → Int → Int → Int → Int → Int → Mp → Mp → Int → Int → (Int → Int → Int → Mp → Mp → Option β) → (Int → Int → Mp → Mp → Option β) → Option β) (a0 : Int) (a1 : Int) (a2 : Int) (a3 : Int) (a4 : Mp) (a5 : Mp) (k0 : Int → Int → Int → Mp → Mp → Option β) : Option β :=
q_impl_asker_left_g0_f N a0 a1 a2 a3 a4 a5 (fun r14_0 r14_1 r14_2 r14_3 r14_4 =>
q_impl_asker_first_l0  N r14_0 r14_1 0 r14_1 r14_2 r14_3 r14_4 a0 a1 (fun e21_0 e21_1 e21_2 e21_3 e21_4 =>
k0 e21_0 e21_1 e21_2 e21_3 e21_4) (fun e22_0 e22_1 e22_2 e22_3 =>
k0 (-1) e22_0 e22_1 e22_2 e22_3))
theorem t_impl_asker_first_g0 {β : Type} (N : Nat) (a0 : Int) (a1 : Int) (a2 : Int) (a3 : Int) (a4 : Mp) (a5 : Mp) (k0 : Int → Int → Int → Mp → Mp → Option β) : impl_asker_first_g0 N a0 a1 a2 a3 a4 a5 k0 = BV_impl_asker_first_g0 N (impl_asker_left_g0_f N) (impl_asker_first_l0 N) a0 a1 a2 a3 a4 a5 k0 := by
  unfold impl_asker_first_g0 BV_impl_asker_first_g0
  rfl
theorem ve175_0 {β : Type} (N : Nat) (q_impl_known_with : (a0 : Int) → (a1 : Int) → (a2 : Int) → (a3 : Int) → (k : Int → Int → Option β) → Option β) (q_impl_asker_first_l0 : Nat → Int → Int → Int → Int → Int → Mp → Mp → Int → Int → (Int → Int → Int → Mp → Mp → Option β) → (Int → Int → Mp → Mp → Option β) → Option β) (q_impl_asker_left_g0_f : Nat → Int → Int → Int → Int → Mp → Mp → (Int → Int → Int → Mp → Mp → Option β) → Option β) (a0 : Int) (a1 : Int) (a2 : Int) (a3 : Int) (a4 : Mp) (a5 : Mp) (K : TV → List Blk → Option β) : evFnG lay (VE175 N q_impl_known_with q_impl_asker_first_l0 q_impl_asker_left_g0_f) Tryd.f175 [.v (.one (.ptr 0 0)), .v (.agg [.int .i64 a0, .int .i64 a1])] [.pcells 0 156 [.int .i64 a2, .int .i64 a3, .mp 1, .mp 2], .pmp 1 ⟨true, false⟩ a4, .pmp 2 ⟨true, false⟩ a5] K = BV_impl_asker_first_g0 N q_impl_asker_left_g0_f q_impl_asker_first_l0 a0 a1 a2 a3 a4 a5 (fun y0 y1 y2 y3 y4 => K (.v (.one (.int .i64 y0))) [.pcells 0 156 [.int .i64 y1, .int .i64 y2, .mp 1, .mp 2], .pmp 1 ⟨true, false⟩ y3, .pmp 2 ⟨true, false⟩ y4]) := by kernel_rfl
theorem e175_0 {β : Type} (N : Nat) (a0 : Int) (a1 : Int) (a2 : Int) (a3 : Int) (a4 : Mp) (a5 : Mp) (K : TV → List Blk → Option β) : evFnG lay (E175 N) Tryd.f175 [.v (.one (.ptr 0 0)), .v (.agg [.int .i64 a0, .int .i64 a1])] [.pcells 0 156 [.int .i64 a2, .int .i64 a3, .mp 1, .mp 2], .pmp 1 ⟨true, false⟩ a4, .pmp 2 ⟨true, false⟩ a5] K = impl_asker_first_g0 N a0 a1 a2 a3 a4 a5 (fun y0 y1 y2 y3 y4 => K (.v (.one (.int .i64 y0))) [.pcells 0 156 [.int .i64 y1, .int .i64 y2, .mp 1, .mp 2], .pmp 1 ⟨true, false⟩ y3, .pmp 2 ⟨true, false⟩ y4]) := (ve175_0 N (impl_known_with N) (impl_asker_first_l0 N) (impl_asker_left_g0_f N) a0 a1 a2 a3 a4 a5 K).trans (t_impl_asker_first_g0 N a0 a1 a2 a3 a4 a5 (fun y0 y1 y2 y3 y4 => K (.v (.one (.int .i64 y0))) [.pcells 0 156 [.int .i64 y1, .int .i64 y2, .mp 1, .mp 2], .pmp 1 ⟨true, false⟩ y3, .pmp 2 ⟨true, false⟩ y4])).symm
theorem o175 {β : Type} (N : Nat) : GOK (β := β) inv Tryd.prog 175 (S175 N) := by
  refine g_of lay_ok mixed (E := E175 N) (specs_loops (specs_cons (o177 N) specs_nil)) muts_nil (gs_cons (o214 N) gs_nil) Tryd.func175 (by kernel_rfl) 1 (by kernel_rfl) ⟨trivial, rk175_0 N⟩ fun args bl K r h => ?_
  unfold S175 VS175 at h
  split at h
  · exact (e175_0 N _ _ _ _ _ _ _).trans h
  · cases h
def VSF114 {β : Type} (N : Nat) (q_impl_asker_best_g0_f : Nat → Int → Int → Int → Int → Mp → Mp → (ByteArray → Int → Int → Mp → Mp → Option β) → Option β) (G : Nat) : GSpec β := fun args bl K => match args, bl with
  | [.v (.one (.ptr 0 0)), .v (.agg [.int .i64 a0, .int .i64 a1])], [.pcells 0 156 [.int .i64 a2, .int .i64 a3, .mp 1, .mp 2], .pmp 1 ⟨true, false⟩ a4, .pmp 2 ⟨true, false⟩ a5] => q_impl_asker_best_g0_f G a0 a1 a2 a3 a4 a5 (fun y0 y1 y2 y3 y4 => K (.v (.one (.str y0))) [.pcells 0 156 [.int .i64 y1, .int .i64 y2, .mp 1, .mp 2], .pmp 1 ⟨true, false⟩ y3, .pmp 2 ⟨true, false⟩ y4])
  | _, _ => none
def SF114 {β : Type} (N : Nat) (G : Nat) : GSpec β := VSF114 N (impl_asker_best_g0_f N) G
def VS114 {β : Type} (N : Nat) (q_impl_asker_best_g0_f : Nat → Int → Int → Int → Int → Mp → Mp → (ByteArray → Int → Int → Mp → Mp → Option β) → Option β) : GSpec β := VSF114 N q_impl_asker_best_g0_f N
def S114 {β : Type} (N : Nat) : GSpec β := SF114 N N
def VE114 {β : Type} (N : Nat) (q_impl_Table_cube : (a0 : Int) → (a1 : Int) → (a2 : Int) → (a3 : Int) → (k : Int → Option β) → Option β) (q_impl_FormatInt : (a0 : Int) → (k : ByteArray → Option β) → Option β) (q_impl_known_with : (a0 : Int) → (a1 : Int) → (a2 : Int) → (a3 : Int) → (k : Int → Int → Option β) → Option β) (q_impl_asker_first_g0 : (a0 : Int) → (a1 : Int) → (a2 : Int) → (a3 : Int) → (a4 : Mp) → (a5 : Mp) → (k0 : Int → Int → Int → Mp → Mp → Option β) → Option β) (q_impl_asker_best_g0_f : Nat → Int → Int → Int → Int → Mp → Mp → (ByteArray → Int → Int → Mp → Mp → Option β) → Option β) (G : Nat) : Env β := ⟨[(176, VS176 N q_impl_Table_cube), (64, VS64 N q_impl_FormatInt), (177, VS177 N q_impl_known_with)], [], [], [(175, VS175 N q_impl_asker_first_g0), (114, VSF114 N q_impl_asker_best_g0_f G)], ⟨[], [], []⟩⟩
def E114 {β : Type} (N : Nat) (G : Nat) : Env β := VE114 N (impl_Table_cube N) (impl_FormatInt N) (impl_known_with N) (impl_asker_first_g0 N) (impl_asker_best_g0_f N) G
def BV_impl_asker_best_g0_b {β : Type} (N : Nat) (q_impl_asker_first_g0 : (a0 : Int) → (a1 : Int) → (a2 : Int) → (a3 : Int) → (a4 : Mp) → (a5 : Mp) → (k0 : Int → Int → Int → Mp → Mp → Option β) → Option β) (q_impl_Table_cube : (a0 : Int) → (a1 : Int) → (a2 : Int) → (a3 : Int) → (k : Int → Option β) → Option β) (q_impl_FormatInt : (a0 : Int) → (k : ByteArray → Option β) → Option β) (q_impl_known_with : (a0 : Int) → (a1 : Int) → (a2 : Int) → (a3 : Int) → (k : Int → Int → Option β) → Option β) (self : Int → Int → Int → Int → Mp → Mp → (ByteArray → Int → Int → Mp → Mp → Option β) → Option β) (a0 : Int) (a1 : Int) (a2 : Int) (a3 : Int) (a4 : Mp) (a5 : Mp) (k0 : ByteArray → Int → Int → Mp → Mp → Option β) : Option β :=
q_impl_asker_first_g0 a0 a1 a2 a3 a4 a5 (fun r6_0 r6_1 r6_2 r6_3 r6_4 =>
(cond ((decide (r6_0 < 0)))
(q_impl_Table_cube r6_1 r6_2 a0 a1 fun r7 =>
q_impl_FormatInt r7 fun r8 =>
k0 r8 r6_1 r6_2 r6_3 r6_4)
(q_impl_known_with a0 a1 r6_0 0 fun r9 r10 =>
self r9 r10 r6_1 r6_2 r6_3 r6_4 (fun r11_0 r11_1 r11_2 r11_3 r11_4 =>
(gd ((decide (((strOf ((([] : List Int) ++ [(w8 (97 + (w8 (r6_0))))])))).size + r11_0.size ≤ 9223372036854775807)))
(q_impl_known_with a0 a1 r6_0 1 fun r12 r13 =>
self r12 r13 r11_1 r11_2 r11_3 r11_4 (fun r14_0 r14_1 r14_2 r14_3 r14_4 =>
(gd ((decide ((((strOf ((([] : List Int) ++ [(w8 (97 + (w8 (r6_0))))]))) ++ r11_0)).size + r14_0.size ≤ 9223372036854775807)))
(q_impl_known_with a0 a1 r6_0 0 fun r15 r16 =>
self r15 r16 r6_1 r6_2 r6_3 r6_4 (fun r17_0 r17_1 r17_2 r17_3 r17_4 =>
(gd ((decide (((strOf ((([] : List Int) ++ [(w8 (97 + (w8 (r6_0))))])))).size + r17_0.size ≤ 9223372036854775807)))
(q_impl_known_with a0 a1 r6_0 1 fun r18 r19 =>
self r18 r19 r17_1 r17_2 r17_3 r17_4 (fun r20_0 r20_1 r20_2 r20_3 r20_4 =>
(gd ((decide ((((strOf ((([] : List Int) ++ [(w8 (97 + (w8 (r6_0))))]))) ++ r17_0)).size + r20_0.size ≤ 9223372036854775807)))
(self r15 r16 r6_1 r6_2 r6_3 r6_4 (fun r21_0 r21_1 r21_2 r21_3 r21_4 =>
(gd ((decide (((strOf ((([] : List Int) ++ [(w8 (97 + (w8 (r6_0))))])))).size + r21_0.size ≤ 9223372036854775807)))
(q_impl_known_with a0 a1 r6_0 1 fun r22 r23 =>
self r22 r23 r21_1 r21_2 r21_3 r21_4 (fun r24_0 r24_1 r24_2 r24_3 r24_4 =>
(gd ((decide ((((strOf ((([] : List Int) ++ [(w8 (97 + (w8 (r6_0))))]))) ++ r21_0)).size + r24_0.size ≤ 9223372036854775807)))
(q_impl_known_with a0 a1 r6_0 1 fun r25 r26 =>
(gd ((decide (((strOf ((([] : List Int) ++ [(w8 (97 + (w8 (r6_0))))])))).size + r21_0.size ≤ 9223372036854775807)))
(self r25 r26 r21_1 r21_2 r21_3 r21_4 (fun r27_0 r27_1 r27_2 r27_3 r27_4 =>
(gd ((decide ((((strOf ((([] : List Int) ++ [(w8 (97 + (w8 (r6_0))))]))) ++ r21_0)).size + r27_0.size ≤ 9223372036854775807)))
(self r25 r26 r21_1 r21_2 r21_3 r21_4 (fun r28_0 r28_1 r28_2 r28_3 r28_4 =>
(gd ((decide (((strOf ((([] : List Int) ++ [(w8 (97 + (w8 (r6_0))))])))).size + r21_0.size ≤ 9223372036854775807)))
((gd ((decide ((((strOf ((([] : List Int) ++ [(w8 (97 + (w8 (r6_0))))]))) ++ r21_0)).size + r28_0.size ≤ 9223372036854775807)))
((impl_asker_best_t4 ((((strOf ((([] : List Int) ++ [(w8 (97 + (w8 (r6_0))))]))) ++ r21_0) ++ r27_0)) r27_1 r27_2 r27_3 r27_4 ((((strOf ((([] : List Int) ++ [(w8 (97 + (w8 (r6_0))))]))) ++ r21_0) ++ r28_0)) r28_1 r28_2 r28_3 r28_4
((impl_asker_best_t4 ((((strOf ((([] : List Int) ++ [(w8 (97 + (w8 (r6_0))))]))) ++ r21_0) ++ r24_0)) r24_1 r24_2 r24_3 r24_4 ((((strOf ((([] : List Int) ++ [(w8 (97 + (w8 (r6_0))))]))) ++ r21_0) ++ r27_0)) r27_1 r27_2 r27_3 r27_4
((impl_asker_best_t4 ((((strOf ((([] : List Int) ++ [(w8 (97 + (w8 (r6_0))))]))) ++ r17_0) ++ r20_0)) r20_1 r20_2 r20_3 r20_4 ((((strOf ((([] : List Int) ++ [(w8 (97 + (w8 (r6_0))))]))) ++ r21_0) ++ r24_0)) r24_1 r24_2 r24_3 r24_4
((impl_asker_best_t4 ((((strOf ((([] : List Int) ++ [(w8 (97 + (w8 (r6_0))))]))) ++ r11_0) ++ r14_0)) r14_1 r14_2 r14_3 r14_4 ((((strOf ((([] : List Int) ++ [(w8 (97 + (w8 (r6_0))))]))) ++ r17_0) ++ r20_0)) r20_1 r20_2 r20_3 r20_4
(k0 ((((strOf ((([] : List Int) ++ [(w8 (97 + (w8 (r6_0))))]))) ++ r11_0) ++ r14_0)) r14_1 r14_2 r14_3 r14_4)))))))))))))))))))))))))))))))))))))))
theorem t_impl_asker_best_g0_b {β : Type} (N : Nat) (self : Int → Int → Int → Int → Mp → Mp → (ByteArray → Int → Int → Mp → Mp → Option β) → Option β) (a0 : Int) (a1 : Int) (a2 : Int) (a3 : Int) (a4 : Mp) (a5 : Mp) (k0 : ByteArray → Int → Int → Mp → Mp → Option β) : impl_asker_best_g0_b N self a0 a1 a2 a3 a4 a5 k0 = BV_impl_asker_best_g0_b N (impl_asker_first_g0 N) (impl_Table_cube N) (impl_FormatInt N) (impl_known_with N) self a0 a1 a2 a3 a4 a5 k0 := by
  unfold impl_asker_best_g0_b BV_impl_asker_best_g0_b
  rfl
theorem ve114_0 {β : Type} (N : Nat) (q_impl_Table_cube : (a0 : Int) → (a1 : Int) → (a2 : Int) → (a3 : Int) → (k : Int → Option β) → Option β) (q_impl_FormatInt : (a0 : Int) → (k : ByteArray → Option β) → Option β) (q_impl_known_with : (a0 : Int) → (a1 : Int) → (a2 : Int) → (a3 : Int) → (k : Int → Int → Option β) → Option β) (q_impl_asker_first_g0 : (a0 : Int) → (a1 : Int) → (a2 : Int) → (a3 : Int) → (a4 : Mp) → (a5 : Mp) → (k0 : Int → Int → Int → Mp → Mp → Option β) → Option β) (q_impl_asker_best_g0_f : Nat → Int → Int → Int → Int → Mp → Mp → (ByteArray → Int → Int → Mp → Mp → Option β) → Option β) (G : Nat) (a0 : Int) (a1 : Int) (a2 : Int) (a3 : Int) (a4 : Mp) (a5 : Mp) (K : TV → List Blk → Option β) : evFnG lay (VE114 N q_impl_Table_cube q_impl_FormatInt q_impl_known_with q_impl_asker_first_g0 q_impl_asker_best_g0_f G) Tryd.f114 [.v (.one (.ptr 0 0)), .v (.agg [.int .i64 a0, .int .i64 a1])] [.pcells 0 156 [.int .i64 a2, .int .i64 a3, .mp 1, .mp 2], .pmp 1 ⟨true, false⟩ a4, .pmp 2 ⟨true, false⟩ a5] K = BV_impl_asker_best_g0_b N q_impl_asker_first_g0 q_impl_Table_cube q_impl_FormatInt q_impl_known_with (q_impl_asker_best_g0_f G) a0 a1 a2 a3 a4 a5 (fun y0 y1 y2 y3 y4 => K (.v (.one (.str y0))) [.pcells 0 156 [.int .i64 y1, .int .i64 y2, .mp 1, .mp 2], .pmp 1 ⟨true, false⟩ y3, .pmp 2 ⟨true, false⟩ y4]) := by kernel_rfl
theorem e114_0 {β : Type} (N : Nat) (G : Nat) (a0 : Int) (a1 : Int) (a2 : Int) (a3 : Int) (a4 : Mp) (a5 : Mp) (K : TV → List Blk → Option β) : evFnG lay (E114 N G) Tryd.f114 [.v (.one (.ptr 0 0)), .v (.agg [.int .i64 a0, .int .i64 a1])] [.pcells 0 156 [.int .i64 a2, .int .i64 a3, .mp 1, .mp 2], .pmp 1 ⟨true, false⟩ a4, .pmp 2 ⟨true, false⟩ a5] K = impl_asker_best_g0_f N (G + 1) a0 a1 a2 a3 a4 a5 (fun y0 y1 y2 y3 y4 => K (.v (.one (.str y0))) [.pcells 0 156 [.int .i64 y1, .int .i64 y2, .mp 1, .mp 2], .pmp 1 ⟨true, false⟩ y3, .pmp 2 ⟨true, false⟩ y4]) := (ve114_0 N (impl_Table_cube N) (impl_FormatInt N) (impl_known_with N) (impl_asker_first_g0 N) (impl_asker_best_g0_f N) G a0 a1 a2 a3 a4 a5 K).trans (t_impl_asker_best_g0_b N (impl_asker_best_g0_f N G) a0 a1 a2 a3 a4 a5 (fun y0 y1 y2 y3 y4 => K (.v (.one (.str y0))) [.pcells 0 156 [.int .i64 y1, .int .i64 y2, .mp 1, .mp 2], .pmp 1 ⟨true, false⟩ y3, .pmp 2 ⟨true, false⟩ y4])).symm
theorem z114 {β : Type} (N : Nat) : ∀ args bl K r, SF114 (β := β) N 0 args bl K = some r → (none : Option β) = some r := by
  intro args bl K r h
  unfold SF114 VSF114 at h
  split at h <;> exact h
theorem of114 {β : Type} (N : Nat) : ∀ G, GOK (β := β) inv Tryd.prog 114 (SF114 N G) := by
  intro G
  induction G with
  | zero => exact g_zero Tryd.func114 (by kernel_rfl) (z114 N)
  | succ G ih =>
    refine g_of lay_ok mixed (E := E114 N G) (specs_loops (specs_cons (o176 N) (specs_cons (o64 N) (specs_cons (o177 N) specs_nil)))) muts_nil (gs_cons (o175 N) (gs_cons ih gs_nil)) Tryd.func114 (by kernel_rfl) 0 (by kernel_rfl) trivial fun args bl K r h => ?_
    unfold SF114 VSF114 at h
    split at h
    · exact (e114_0 N G _ _ _ _ _ _ _).trans h
    · cases h
theorem o114 {β : Type} (N : Nat) : GOK (β := β) inv Tryd.prog 114 (S114 N) := of114 N N
def VS41 {β : Type} (N : Nat) (q_impl_BestTree : (a0 : Int) → (a1 : Int) → (k : ByteArray → Bool → Option β) → Option β) : Rv.Spec β := fun args K => match args with
  | [.v (.agg [.int .i64 a0, .int .i64 a1])] => q_impl_BestTree a0 a1 (fun z2 z3 => K (.tup [.one (.str z2), .one (.bool z3)]))
  | _ => none
def S41 {β : Type} (N : Nat) : Rv.Spec β := VS41 N (impl_BestTree N)
def VE41 {β : Type} (N : Nat) (q_impl_isSmall : (a0 : Int) → (a1 : Int) → (a2 : Int) → (k : Bool → Option β) → Option β) (q_impl_Table_asking_g0 : (a0 : Int) → (a1 : Int) → (k0 : Int → Int → Mp → Mp → Option β) → Option β) (q_impl_asker_best_g0_f : Nat → Int → Int → Int → Int → Mp → Mp → (ByteArray → Int → Int → Mp → Mp → Option β) → Option β) : Env β := ⟨[(107, VS107 N q_impl_isSmall)], [], [], [(113, VS113 N q_impl_Table_asking_g0), (114, VS114 N q_impl_asker_best_g0_f)], ⟨[], [], []⟩⟩
def E41 {β : Type} (N : Nat) : Env β := VE41 N (impl_isSmall N) (impl_Table_asking_g0 N) (impl_asker_best_g0_f N)
def BV_impl_BestTree {β : Type} (N : Nat) (q_impl_isSmall : (a0 : Int) → (a1 : Int) → (a2 : Int) → (k : Bool → Option β) → Option β) (q_impl_Table_asking_g0 : (a0 : Int) → (a1 : Int) → (k0 : Int → Int → Mp → Mp → Option β) → Option β) (q_impl_asker_best_g0_f : Nat → Int → Int → Int → Int → Mp → Mp → (ByteArray → Int → Int → Mp → Mp → Option β) → Option β) (a0 : Int) (a1 : Int) (k : ByteArray → Bool → Option β) : Option β :=
q_impl_isSmall a0 a1 4 fun r4 =>
(cond (!r4)
(k ByteArray.empty false)
(q_impl_Table_asking_g0 a0 a1 (fun r5_0 r5_1 r5_2 r5_3 =>
q_impl_asker_best_g0_f N 0 0 r5_0 r5_1 r5_2 r5_3 (fun r6_0 r6_1 r6_2 r6_3 r6_4 =>
k r6_0 true))))
theorem t_impl_BestTree {β : Type} (N : Nat) (a0 : Int) (a1 : Int) (k : ByteArray → Bool → Option β) : impl_BestTree N a0 a1 k = BV_impl_BestTree N (impl_isSmall N) (impl_Table_asking_g0 N) (impl_asker_best_g0_f N) a0 a1 k := by
  unfold impl_BestTree BV_impl_BestTree
  rfl
theorem ve41_0 {β : Type} (N : Nat) (q_impl_isSmall : (a0 : Int) → (a1 : Int) → (a2 : Int) → (k : Bool → Option β) → Option β) (q_impl_Table_asking_g0 : (a0 : Int) → (a1 : Int) → (k0 : Int → Int → Mp → Mp → Option β) → Option β) (q_impl_asker_best_g0_f : Nat → Int → Int → Int → Int → Mp → Mp → (ByteArray → Int → Int → Mp → Mp → Option β) → Option β)  (a0 : Int) (a1 : Int) (K : TV → Option β) : evFn lay (VE41 N q_impl_isSmall q_impl_Table_asking_g0 q_impl_asker_best_g0_f) Tryd.f41 [.v (.agg [.int .i64 a0, .int .i64 a1])] K = BV_impl_BestTree N q_impl_isSmall q_impl_Table_asking_g0 q_impl_asker_best_g0_f a0 a1 (fun z2 z3 => K (.tup [.one (.str z2), .one (.bool z3)])) := by kernel_rfl
theorem e41_0 {β : Type} (N : Nat)  (a0 : Int) (a1 : Int) (K : TV → Option β) : evFn lay (E41 N) Tryd.f41 [.v (.agg [.int .i64 a0, .int .i64 a1])] K = impl_BestTree N a0 a1 (fun z2 z3 => K (.tup [.one (.str z2), .one (.bool z3)])) := (ve41_0 N (impl_isSmall N) (impl_Table_asking_g0 N) (impl_asker_best_g0_f N) a0 a1 K).trans (t_impl_BestTree N a0 a1 (fun z2 z3 => K (.tup [.one (.str z2), .one (.bool z3)]))).symm
theorem o41 {β : Type} (N : Nat) : SpecOK (β := β) inv Tryd.prog 41 (S41 N) := by
  refine spec_of lay_ok mixed (E := E41 N) (specs_loops (specs_cons (o107 N) specs_nil)) muts_nil (gs_cons (o113 N) (gs_cons (o114 N) gs_nil)) Tryd.func41 (by kernel_rfl) 0 (by kernel_rfl) trivial fun args K r h => ?_
  unfold S41 VS41 at h
  split at h
  · exact (e41_0 N _ _ _).trans h
  · cases h
def VS120 {β : Type} (N : Nat) (q_impl_isLetter : (a0 : Int) → (k : Bool → Option β) → Option β) : Rv.Spec β := fun args K => match args with
  | [.v (.one (.int .u8 a0))] => q_impl_isLetter a0 (fun z1 => K (.v (.one (.bool z1))))
  | _ => none
def S120 {β : Type} (N : Nat) : Rv.Spec β := VS120 N (impl_isLetter N)
def VE120 {β : Type} (N : Nat) : Env β := ⟨[], [], [], [], ⟨[], [], []⟩⟩
def E120 {β : Type} (N : Nat) : Env β := VE120 N
def BV_impl_isLetter {β : Type} (N : Nat) (a0 : Int) (k : Bool → Option β) : Option β :=
(cond ((decide (a0 ≥ 97)))
(k ((decide (a0 < 102))))
(k false))
theorem t_impl_isLetter {β : Type} (N : Nat) (a0 : Int) (k : Bool → Option β) : impl_isLetter N a0 k = BV_impl_isLetter N a0 k := by
  unfold impl_isLetter BV_impl_isLetter
  rfl
theorem ve120_0 {β : Type} (N : Nat)  (a0 : Int) (K : TV → Option β) : evFn lay (VE120 N) Tryd.f120 [.v (.one (.int .u8 a0))] K = BV_impl_isLetter N a0 (fun z1 => K (.v (.one (.bool z1)))) := by kernel_rfl
theorem e120_0 {β : Type} (N : Nat)  (a0 : Int) (K : TV → Option β) : evFn lay (E120 N) Tryd.f120 [.v (.one (.int .u8 a0))] K = impl_isLetter N a0 (fun z1 => K (.v (.one (.bool z1)))) := (ve120_0 N a0 K).trans (t_impl_isLetter N a0 (fun z1 => K (.v (.one (.bool z1))))).symm
theorem o120 {β : Type} (N : Nat) : SpecOK (β := β) inv Tryd.prog 120 (S120 N) := by
  refine spec_of lay_ok mixed (E := E120 N) (specs_loops specs_nil) muts_nil gs_nil Tryd.func120 (by kernel_rfl) 0 (by kernel_rfl) trivial fun args K r h => ?_
  unfold S120 VS120 at h
  split at h
  · exact (e120_0 N _ _).trans h
  · cases h
def VS215 {β : Type} (N : Nat) (q_impl_tree_variable_g0 : (a0 : Int) → (k0 : Int → Int → Option β) → Option β) : GSpec β := fun args bl K => match args, bl with
  | [.v (.one (.ptr 0 0))], [.pcells 0 162 [.int .u8 a0, .nilp, .nilp]] => q_impl_tree_variable_g0 a0 (fun y0 y1 => K (.v (.one (.int .i64 y0))) [.pcells 0 162 [.int .u8 y1, .nilp, .nilp]])
  | _, _ => none
def S215 {β : Type} (N : Nat) : GSpec β := VS215 N (impl_tree_variable_g0 N)
def VE215 {β : Type} (N : Nat) : Env β := ⟨[], [], [], [], ⟨[], [], []⟩⟩
def E215 {β : Type} (N : Nat) : Env β := VE215 N
def BV_impl_tree_variable_g0 {β : Type} (N : Nat) (a0 : Int) (k0 : Int → Int → Option β) : Option β :=
k0 ((w64 ((w8 (a0 - 97))))) a0
theorem t_impl_tree_variable_g0 {β : Type} (N : Nat) (a0 : Int) (k0 : Int → Int → Option β) : impl_tree_variable_g0 N a0 k0 = BV_impl_tree_variable_g0 N a0 k0 := by
  unfold impl_tree_variable_g0 BV_impl_tree_variable_g0
  rfl
theorem ve215_0 {β : Type} (N : Nat) (a0 : Int) (K : TV → List Blk → Option β) : evFnG lay (VE215 N) Tryd.f215 [.v (.one (.ptr 0 0))] [.pcells 0 162 [.int .u8 a0, .nilp, .nilp]] K = BV_impl_tree_variable_g0 N a0 (fun y0 y1 => K (.v (.one (.int .i64 y0))) [.pcells 0 162 [.int .u8 y1, .nilp, .nilp]]) := by kernel_rfl
theorem e215_0 {β : Type} (N : Nat) (a0 : Int) (K : TV → List Blk → Option β) : evFnG lay (E215 N) Tryd.f215 [.v (.one (.ptr 0 0))] [.pcells 0 162 [.int .u8 a0, .nilp, .nilp]] K = impl_tree_variable_g0 N a0 (fun y0 y1 => K (.v (.one (.int .i64 y0))) [.pcells 0 162 [.int .u8 y1, .nilp, .nilp]]) := (ve215_0 N a0 K).trans (t_impl_tree_variable_g0 N a0 (fun y0 y1 => K (.v (.one (.int .i64 y0))) [.pcells 0 162 [.int .u8 y1, .nilp, .nilp]])).symm
theorem o215 {β : Type} (N : Nat) : GOK (β := β) inv Tryd.prog 215 (S215 N) := by
  refine g_of lay_ok mixed (E := E215 N) (specs_loops specs_nil) muts_nil gs_nil Tryd.func215 (by kernel_rfl) 0 (by kernel_rfl) trivial fun args bl K r h => ?_
  unfold S215 VS215 at h
  split at h
  · exact (e215_0 N _ _).trans h
  · cases h
def VSF178 {β : Type} (N : Nat) (q_impl_readTree_f : Nat → ByteArray → Int → (Tr → ByteArray → Option β) → Option β) (G : Nat) : Rv.Spec β := fun args K => match args with
  | [.v (.one (.str a0)), .v (.one (.int .i64 a1))] => q_impl_readTree_f G a0 a1 (fun z2 z3 => K (.tup [.one (.tr false z2), .one (.str z3)]))
  | _ => none
def SF178 {β : Type} (N : Nat) (G : Nat) : Rv.Spec β := VSF178 N (impl_readTree_f N) G
def VS178 {β : Type} (N : Nat) (q_impl_readTree_f : Nat → ByteArray → Int → (Tr → ByteArray → Option β) → Option β) : Rv.Spec β := VSF178 N q_impl_readTree_f N
def S178 {β : Type} (N : Nat) : Rv.Spec β := SF178 N N
def VE178 {β : Type} (N : Nat) (q_impl_isLetter : (a0 : Int) → (k : Bool → Option β) → Option β) (q_impl_readTree_f : Nat → ByteArray → Int → (Tr → ByteArray → Option β) → Option β) (q_impl_tree_variable_g0 : (a0 : Int) → (k0 : Int → Int → Option β) → Option β) (G : Nat) : Env β := ⟨[(120, VS120 N q_impl_isLetter), (178, VSF178 N q_impl_readTree_f G)], [], [], [(215, VS215 N q_impl_tree_variable_g0)], ⟨[], [], []⟩⟩
def E178 {β : Type} (N : Nat) (G : Nat) : Env β := VE178 N (impl_isLetter N) (impl_readTree_f N) (impl_tree_variable_g0 N) G
def BV_impl_readTree_b {β : Type} (N : Nat) (q_impl_isLetter : (a0 : Int) → (k : Bool → Option β) → Option β) (q_impl_tree_variable_g0 : (a0 : Int) → (k0 : Int → Int → Option β) → Option β) (self : ByteArray → Int → (Tr → ByteArray → Option β) → Option β) (a0 : ByteArray) (a1 : Int) (k : Tr → ByteArray → Option β) : Option β :=
(cond ((a0.toList == ByteArray.empty.toList))
(k Tr.nil ByteArray.empty)
((gd ((decide (0 < (a0.size : Int))))
((gd ((decide (1 ≤ (a0.size : Int))))
((cond (((bt a0 0) == 48))
(k ((Tr.node ((bt a0 0)) 0 Tr.nil Tr.nil)) ((a0.extract (Int.toNat 1) a0.size)))
((cond (((bt a0 0) == 49))
(k ((Tr.node ((bt a0 0)) 0 Tr.nil Tr.nil)) ((a0.extract (Int.toNat 1) a0.size)))
(q_impl_isLetter ((bt a0 0)) fun r4 =>
(cond (!r4)
(k Tr.nil ByteArray.empty)
(q_impl_tree_variable_g0 ((bt a0 0)) (fun r5_0 r5_1 =>
(gd ((decide (0 ≤ r5_0)))
((cond (((bits .and .i64 (shrI .i64 a1 r5_0) 1) == 1))
(k Tr.nil ByteArray.empty)
(q_impl_tree_variable_g0 r5_1 (fun r6_0 r6_1 =>
(gd ((decide (0 ≤ r6_0)))
(self ((a0.extract (Int.toNat 1) a0.size)) ((bits .or .i64 a1 (shlI .i64 1 r6_0))) fun r7 r8 =>
(cond ((Tr.isNil r7))
(k Tr.nil ByteArray.empty)
(self r8 ((bits .or .i64 a1 (shlI .i64 1 r6_0))) fun r9 r10 =>
(cond ((Tr.isNil r9))
(k Tr.nil ByteArray.empty)
(k ((Tr.node r6_1 0 r7 r9)) r10))))))))))))))))))))))))
theorem t_impl_readTree_b {β : Type} (N : Nat) (self : ByteArray → Int → (Tr → ByteArray → Option β) → Option β) (a0 : ByteArray) (a1 : Int) (k : Tr → ByteArray → Option β) : impl_readTree_b N self a0 a1 k = BV_impl_readTree_b N (impl_isLetter N) (impl_tree_variable_g0 N) self a0 a1 k := by
  unfold impl_readTree_b BV_impl_readTree_b
  rfl
theorem ve178_0 {β : Type} (N : Nat) (q_impl_isLetter : (a0 : Int) → (k : Bool → Option β) → Option β) (q_impl_readTree_f : Nat → ByteArray → Int → (Tr → ByteArray → Option β) → Option β) (q_impl_tree_variable_g0 : (a0 : Int) → (k0 : Int → Int → Option β) → Option β) (G : Nat)  (a0 : ByteArray) (a1 : Int) (K : TV → Option β) : evFn lay (VE178 N q_impl_isLetter q_impl_readTree_f q_impl_tree_variable_g0 G) Tryd.f178 [.v (.one (.str a0)), .v (.one (.int .i64 a1))] K = BV_impl_readTree_b N q_impl_isLetter q_impl_tree_variable_g0 (q_impl_readTree_f G) a0 a1 (fun z2 z3 => K (.tup [.one (.tr false z2), .one (.str z3)])) := by kernel_rfl
theorem e178_0 {β : Type} (N : Nat) (G : Nat)  (a0 : ByteArray) (a1 : Int) (K : TV → Option β) : evFn lay (E178 N G) Tryd.f178 [.v (.one (.str a0)), .v (.one (.int .i64 a1))] K = impl_readTree_f N (G + 1) a0 a1 (fun z2 z3 => K (.tup [.one (.tr false z2), .one (.str z3)])) := (ve178_0 N (impl_isLetter N) (impl_readTree_f N) (impl_tree_variable_g0 N) G a0 a1 K).trans (t_impl_readTree_b N (impl_readTree_f N G) a0 a1 (fun z2 z3 => K (.tup [.one (.tr false z2), .one (.str z3)]))).symm
theorem z178 {β : Type} (N : Nat) : ∀ args K r, SF178 (β := β) N 0 args K = some r → (none : Option β) = some r := by
  intro args K r h
  unfold SF178 VSF178 at h
  split at h <;> exact h
theorem of178 {β : Type} (N : Nat) : ∀ G, SpecOK (β := β) inv Tryd.prog 178 (SF178 N G) := by
  intro G
  induction G with
  | zero => exact s_zero Tryd.func178 (by kernel_rfl) (z178 N)
  | succ G ih =>
    refine spec_of lay_ok mixed (E := E178 N G) (specs_loops (specs_cons (o120 N) (specs_cons ih specs_nil))) muts_nil (gs_cons (o215 N) gs_nil) Tryd.func178 (by kernel_rfl) 0 (by kernel_rfl) trivial fun args K r h => ?_
    unfold SF178 VSF178 at h
    split at h
    · exact (e178_0 N G _ _ _).trans h
    · cases h
theorem o178 {β : Type} (N : Nat) : SpecOK (β := β) inv Tryd.prog 178 (S178 N) := of178 N N
def VS115 {β : Type} (N : Nat) (q_impl_wholeTree : (a0 : ByteArray) → (k : Tr → Bool → Option β) → Option β) : Rv.Spec β := fun args K => match args with
  | [.v (.one (.str a0))] => q_impl_wholeTree a0 (fun z1 z2 => K (.tup [.one (.tr false z1), .one (.bool z2)]))
  | _ => none
def S115 {β : Type} (N : Nat) : Rv.Spec β := VS115 N (impl_wholeTree N)
def VE115 {β : Type} (N : Nat) (q_impl_readTree_f : Nat → ByteArray → Int → (Tr → ByteArray → Option β) → Option β) : Env β := ⟨[(178, VS178 N q_impl_readTree_f)], [], [], [], ⟨[], [], []⟩⟩
def E115 {β : Type} (N : Nat) : Env β := VE115 N (impl_readTree_f N)
def BV_impl_wholeTree {β : Type} (N : Nat) (q_impl_readTree_f : Nat → ByteArray → Int → (Tr → ByteArray → Option β) → Option β) (a0 : ByteArray) (k : Tr → Bool → Option β) : Option β :=
q_impl_readTree_f N a0 0 fun r3 r4 =>
(cond ((!(Tr.isNil r3)))
(k r3 ((r4.toList == ByteArray.empty.toList)))
(k r3 false))
theorem t_impl_wholeTree {β : Type} (N : Nat) (a0 : ByteArray) (k : Tr → Bool → Option β) : impl_wholeTree N a0 k = BV_impl_wholeTree N (impl_readTree_f N) a0 k := by
  unfold impl_wholeTree BV_impl_wholeTree
  rfl
theorem ve115_0 {β : Type} (N : Nat) (q_impl_readTree_f : Nat → ByteArray → Int → (Tr → ByteArray → Option β) → Option β)  (a0 : ByteArray) (K : TV → Option β) : evFn lay (VE115 N q_impl_readTree_f) Tryd.f115 [.v (.one (.str a0))] K = BV_impl_wholeTree N q_impl_readTree_f a0 (fun z1 z2 => K (.tup [.one (.tr false z1), .one (.bool z2)])) := by kernel_rfl
theorem e115_0 {β : Type} (N : Nat)  (a0 : ByteArray) (K : TV → Option β) : evFn lay (E115 N) Tryd.f115 [.v (.one (.str a0))] K = impl_wholeTree N a0 (fun z1 z2 => K (.tup [.one (.tr false z1), .one (.bool z2)])) := (ve115_0 N (impl_readTree_f N) a0 K).trans (t_impl_wholeTree N a0 (fun z1 z2 => K (.tup [.one (.tr false z1), .one (.bool z2)]))).symm
theorem o115 {β : Type} (N : Nat) : SpecOK (β := β) inv Tryd.prog 115 (S115 N) := by
  refine spec_of lay_ok mixed (E := E115 N) (specs_loops (specs_cons (o178 N) specs_nil)) muts_nil gs_nil Tryd.func115 (by kernel_rfl) 0 (by kernel_rfl) trivial fun args K r h => ?_
  unfold S115 VS115 at h
  split at h
  · exact (e115_0 N _ _).trans h
  · cases h
def VSF116 {β : Type} (N : Nat) (q_impl_tree_depth_f : Nat → Tr → (Int → Option β) → Option β) (G : Nat) : Rv.Spec β := fun args K => match args with
  | [.v (.one (.tr false a0))] => q_impl_tree_depth_f G a0 (fun z1 => K (.v (.one (.int .i64 z1))))
  | _ => none
def SF116 {β : Type} (N : Nat) (G : Nat) : Rv.Spec β := VSF116 N (impl_tree_depth_f N) G
def VS116 {β : Type} (N : Nat) (q_impl_tree_depth_f : Nat → Tr → (Int → Option β) → Option β) : Rv.Spec β := VSF116 N q_impl_tree_depth_f N
def S116 {β : Type} (N : Nat) : Rv.Spec β := SF116 N N
def VE116 {β : Type} (N : Nat) (q_impl_tree_depth_f : Nat → Tr → (Int → Option β) → Option β) (G : Nat) : Env β := ⟨[(116, VSF116 N q_impl_tree_depth_f G)], [], [], [], ⟨[], [], []⟩⟩
def E116 {β : Type} (N : Nat) (G : Nat) : Env β := VE116 N (impl_tree_depth_f N) G
def BV_impl_tree_depth_b {β : Type} (N : Nat) (self : Tr → (Int → Option β) → Option β) (a0 : Tr) (k : Int → Option β) : Option β :=
(gd ((!(Tr.isNil a0)))
((gd ((!(Tr.isNil a0)))
((gd ((!(Tr.isNil a0)))
((cond ((Tr.isNil ((Tr.l a0))))
(k 0)
((gd ((!(Tr.isNil a0)))
((gd ((!(Tr.isNil a0)))
((gd ((!(Tr.isNil a0)))
((gd ((!(Tr.isNil a0)))
((gd ((!(Tr.isNil a0)))
((gd ((!(Tr.isNil a0)))
(self ((Tr.l a0)) fun r2 =>
self ((Tr.r a0)) fun r3 =>
k ((w64 (1 + (mxI r2 r3))))))))))))))))))))))))
theorem t_impl_tree_depth_b {β : Type} (N : Nat) (self : Tr → (Int → Option β) → Option β) (a0 : Tr) (k : Int → Option β) : impl_tree_depth_b N self a0 k = BV_impl_tree_depth_b N self a0 k := by
  unfold impl_tree_depth_b BV_impl_tree_depth_b
  rfl
theorem ve116_0 {β : Type} (N : Nat) (q_impl_tree_depth_f : Nat → Tr → (Int → Option β) → Option β) (G : Nat)  (a0 : Tr) (K : TV → Option β) : evFn lay (VE116 N q_impl_tree_depth_f G) Tryd.f116 [.v (.one (.tr false a0))] K = BV_impl_tree_depth_b N (q_impl_tree_depth_f G) a0 (fun z1 => K (.v (.one (.int .i64 z1)))) := by kernel_rfl
theorem e116_0 {β : Type} (N : Nat) (G : Nat)  (a0 : Tr) (K : TV → Option β) : evFn lay (E116 N G) Tryd.f116 [.v (.one (.tr false a0))] K = impl_tree_depth_f N (G + 1) a0 (fun z1 => K (.v (.one (.int .i64 z1)))) := (ve116_0 N (impl_tree_depth_f N) G a0 K).trans (t_impl_tree_depth_b N (impl_tree_depth_f N G) a0 (fun z1 => K (.v (.one (.int .i64 z1))))).symm
theorem z116 {β : Type} (N : Nat) : ∀ args K r, SF116 (β := β) N 0 args K = some r → (none : Option β) = some r := by
  intro args K r h
  unfold SF116 VSF116 at h
  split at h <;> exact h
theorem of116 {β : Type} (N : Nat) : ∀ G, SpecOK (β := β) inv Tryd.prog 116 (SF116 N G) := by
  intro G
  induction G with
  | zero => exact s_zero Tryd.func116 (by kernel_rfl) (z116 N)
  | succ G ih =>
    refine spec_of lay_ok mixed (E := E116 N G) (specs_loops (specs_cons ih specs_nil)) muts_nil gs_nil Tryd.func116 (by kernel_rfl) 0 (by kernel_rfl) trivial fun args K r h => ?_
    unfold SF116 VSF116 at h
    split at h
    · exact (e116_0 N G _ _).trans h
    · cases h
theorem o116 {β : Type} (N : Nat) : SpecOK (β := β) inv Tryd.prog 116 (S116 N) := of116 N N
def VS42 {β : Type} (N : Nat) (q_impl_DepthOfTree : (a0 : ByteArray) → (k : Int → Option β) → Option β) : Rv.Spec β := fun args K => match args with
  | [.v (.one (.str a0))] => q_impl_DepthOfTree a0 (fun z1 => K (.v (.one (.int .i64 z1))))
  | _ => none
def S42 {β : Type} (N : Nat) : Rv.Spec β := VS42 N (impl_DepthOfTree N)
def VE42 {β : Type} (N : Nat) (q_impl_wholeTree : (a0 : ByteArray) → (k : Tr → Bool → Option β) → Option β) (q_impl_tree_depth_f : Nat → Tr → (Int → Option β) → Option β) : Env β := ⟨[(115, VS115 N q_impl_wholeTree), (116, VS116 N q_impl_tree_depth_f)], [], [], [], ⟨[], [], []⟩⟩
def E42 {β : Type} (N : Nat) : Env β := VE42 N (impl_wholeTree N) (impl_tree_depth_f N)
def BV_impl_DepthOfTree {β : Type} (N : Nat) (q_impl_wholeTree : (a0 : ByteArray) → (k : Tr → Bool → Option β) → Option β) (q_impl_tree_depth_f : Nat → Tr → (Int → Option β) → Option β) (a0 : ByteArray) (k : Int → Option β) : Option β :=
q_impl_wholeTree a0 fun r2 r3 =>
(cond (!r3)
(k (-1))
(q_impl_tree_depth_f N r2 fun r4 =>
k r4))
theorem t_impl_DepthOfTree {β : Type} (N : Nat) (a0 : ByteArray) (k : Int → Option β) : impl_DepthOfTree N a0 k = BV_impl_DepthOfTree N (impl_wholeTree N) (impl_tree_depth_f N) a0 k := by
  unfold impl_DepthOfTree BV_impl_DepthOfTree
  rfl
theorem ve42_0 {β : Type} (N : Nat) (q_impl_wholeTree : (a0 : ByteArray) → (k : Tr → Bool → Option β) → Option β) (q_impl_tree_depth_f : Nat → Tr → (Int → Option β) → Option β)  (a0 : ByteArray) (K : TV → Option β) : evFn lay (VE42 N q_impl_wholeTree q_impl_tree_depth_f) Tryd.f42 [.v (.one (.str a0))] K = BV_impl_DepthOfTree N q_impl_wholeTree q_impl_tree_depth_f a0 (fun z1 => K (.v (.one (.int .i64 z1)))) := by kernel_rfl
theorem e42_0 {β : Type} (N : Nat)  (a0 : ByteArray) (K : TV → Option β) : evFn lay (E42 N) Tryd.f42 [.v (.one (.str a0))] K = impl_DepthOfTree N a0 (fun z1 => K (.v (.one (.int .i64 z1)))) := (ve42_0 N (impl_wholeTree N) (impl_tree_depth_f N) a0 K).trans (t_impl_DepthOfTree N a0 (fun z1 => K (.v (.one (.int .i64 z1))))).symm
theorem o42 {β : Type} (N : Nat) : SpecOK (β := β) inv Tryd.prog 42 (S42 N) := by
  refine spec_of lay_ok mixed (E := E42 N) (specs_loops (specs_cons (o115 N) (specs_cons (o116 N) specs_nil))) muts_nil gs_nil Tryd.func42 (by kernel_rfl) 0 (by kernel_rfl) trivial fun args K r h => ?_
  unfold S42 VS42 at h
  split at h
  · exact (e42_0 N _ _).trans h
  · cases h
def VS17 {β : Type} (N : Nat) (q_impl_ClaimOfDepth : (a0 : Int) → (a1 : Int) → (k : Int → Int → Int → Int → Int → ByteArray → List Int → Bool → Option β) → Option β) : Rv.Spec β := fun args K => match args with
  | [.v (.agg [.int .i64 a0, .int .i64 a1])] => q_impl_ClaimOfDepth a0 a1 (fun z2 z3 z4 z5 z6 z7 z8 z9 => K (.tup [.agg [.int .i64 z2, .int .i64 z3, .int .i64 z4, .int .i64 z5, .int .i64 z6, .str z7, .sl 3 (.ints .i64 z8)], .one (.bool z9)]))
  | _ => none
def S17 {β : Type} (N : Nat) : Rv.Spec β := VS17 N (impl_ClaimOfDepth N)
def VE17 {β : Type} (N : Nat) (q_impl_BestTree : (a0 : Int) → (a1 : Int) → (k : ByteArray → Bool → Option β) → Option β) (q_impl_DepthOfTree : (a0 : ByteArray) → (k : Int → Option β) → Option β) : Env β := ⟨[(41, VS41 N q_impl_BestTree), (42, VS42 N q_impl_DepthOfTree)], [], [], [], ⟨[], [], []⟩⟩
def E17 {β : Type} (N : Nat) : Env β := VE17 N (impl_BestTree N) (impl_DepthOfTree N)
def BV_impl_ClaimOfDepth {β : Type} (N : Nat) (q_impl_BestTree : (a0 : Int) → (a1 : Int) → (k : ByteArray → Bool → Option β) → Option β) (q_impl_DepthOfTree : (a0 : ByteArray) → (k : Int → Option β) → Option β) (a0 : Int) (a1 : Int) (k : Int → Int → Int → Int → Int → ByteArray → List Int → Bool → Option β) : Option β :=
q_impl_BestTree a0 a1 fun r10 r11 =>
(cond (!r11)
(k 0 0 0 0 0 ByteArray.empty (([] : List Int)) false)
(q_impl_DepthOfTree r10 fun r12 =>
k 1 a0 a1 r12 0 r10 (([] : List Int)) true))
theorem t_impl_ClaimOfDepth {β : Type} (N : Nat) (a0 : Int) (a1 : Int) (k : Int → Int → Int → Int → Int → ByteArray → List Int → Bool → Option β) : impl_ClaimOfDepth N a0 a1 k = BV_impl_ClaimOfDepth N (impl_BestTree N) (impl_DepthOfTree N) a0 a1 k := by
  unfold impl_ClaimOfDepth BV_impl_ClaimOfDepth
  rfl
theorem ve17_0 {β : Type} (N : Nat) (q_impl_BestTree : (a0 : Int) → (a1 : Int) → (k : ByteArray → Bool → Option β) → Option β) (q_impl_DepthOfTree : (a0 : ByteArray) → (k : Int → Option β) → Option β)  (a0 : Int) (a1 : Int) (K : TV → Option β) : evFn lay (VE17 N q_impl_BestTree q_impl_DepthOfTree) Tryd.f17 [.v (.agg [.int .i64 a0, .int .i64 a1])] K = BV_impl_ClaimOfDepth N q_impl_BestTree q_impl_DepthOfTree a0 a1 (fun z2 z3 z4 z5 z6 z7 z8 z9 => K (.tup [.agg [.int .i64 z2, .int .i64 z3, .int .i64 z4, .int .i64 z5, .int .i64 z6, .str z7, .sl 3 (.ints .i64 z8)], .one (.bool z9)])) := by kernel_rfl
theorem e17_0 {β : Type} (N : Nat)  (a0 : Int) (a1 : Int) (K : TV → Option β) : evFn lay (E17 N) Tryd.f17 [.v (.agg [.int .i64 a0, .int .i64 a1])] K = impl_ClaimOfDepth N a0 a1 (fun z2 z3 z4 z5 z6 z7 z8 z9 => K (.tup [.agg [.int .i64 z2, .int .i64 z3, .int .i64 z4, .int .i64 z5, .int .i64 z6, .str z7, .sl 3 (.ints .i64 z8)], .one (.bool z9)])) := (ve17_0 N (impl_BestTree N) (impl_DepthOfTree N) a0 a1 K).trans (t_impl_ClaimOfDepth N a0 a1 (fun z2 z3 z4 z5 z6 z7 z8 z9 => K (.tup [.agg [.int .i64 z2, .int .i64 z3, .int .i64 z4, .int .i64 z5, .int .i64 z6, .str z7, .sl 3 (.ints .i64 z8)], .one (.bool z9)]))).symm
theorem o17 {β : Type} (N : Nat) : SpecOK (β := β) inv Tryd.prog 17 (S17 N) := by
  refine spec_of lay_ok mixed (E := E17 N) (specs_loops (specs_cons (o41 N) (specs_cons (o42 N) specs_nil))) muts_nil gs_nil Tryd.func17 (by kernel_rfl) 0 (by kernel_rfl) trivial fun args K r h => ?_
  unfold S17 VS17 at h
  split at h
  · exact (e17_0 N _ _ _).trans h
  · cases h
def VS35 {β : Type} (N : Nat) (q_laws_eqTable : (a0 : Int) → (a1 : Int) → (a2 : Int) → (a3 : Int) → (k : Bool → Option β) → Option β) : Rv.Spec β := fun args K => match args with
  | [.v (.agg [.int .i64 a0, .int .i64 a1]), .v (.agg [.int .i64 a2, .int .i64 a3])] => q_laws_eqTable a0 a1 a2 a3 (fun z4 => K (.v (.one (.bool z4))))
  | _ => none
def S35 {β : Type} (N : Nat) : Rv.Spec β := VS35 N (laws_eqTable N)
def VE35 {β : Type} (N : Nat) : Env β := ⟨[], [], [], [], ⟨[], [], []⟩⟩
def E35 {β : Type} (N : Nat) : Env β := VE35 N
def BV_laws_eqTable {β : Type} (N : Nat) (a0 : Int) (a1 : Int) (a2 : Int) (a3 : Int) (k : Bool → Option β) : Option β :=
(cond ((a0 != a2))
(k false)
((cond ((a1 != a3))
(k false)
(k true))))
theorem t_laws_eqTable {β : Type} (N : Nat) (a0 : Int) (a1 : Int) (a2 : Int) (a3 : Int) (k : Bool → Option β) : laws_eqTable N a0 a1 a2 a3 k = BV_laws_eqTable N a0 a1 a2 a3 k := by
  unfold laws_eqTable BV_laws_eqTable
  rfl
theorem ve35_0 {β : Type} (N : Nat)  (a0 : Int) (a1 : Int) (a2 : Int) (a3 : Int) (K : TV → Option β) : evFn lay (VE35 N) Tryd.f35 [.v (.agg [.int .i64 a0, .int .i64 a1]), .v (.agg [.int .i64 a2, .int .i64 a3])] K = BV_laws_eqTable N a0 a1 a2 a3 (fun z4 => K (.v (.one (.bool z4)))) := by kernel_rfl
theorem e35_0 {β : Type} (N : Nat)  (a0 : Int) (a1 : Int) (a2 : Int) (a3 : Int) (K : TV → Option β) : evFn lay (E35 N) Tryd.f35 [.v (.agg [.int .i64 a0, .int .i64 a1]), .v (.agg [.int .i64 a2, .int .i64 a3])] K = laws_eqTable N a0 a1 a2 a3 (fun z4 => K (.v (.one (.bool z4)))) := (ve35_0 N a0 a1 a2 a3 K).trans (t_laws_eqTable N a0 a1 a2 a3 (fun z4 => K (.v (.one (.bool z4))))).symm
theorem o35 {β : Type} (N : Nat) : SpecOK (β := β) inv Tryd.prog 35 (S35 N) := by
  refine spec_of lay_ok mixed (E := E35 N) (specs_loops specs_nil) muts_nil gs_nil Tryd.func35 (by kernel_rfl) 0 (by kernel_rfl) trivial fun args K r h => ?_
  unfold S35 VS35 at h
  split at h
  · exact (e35_0 N _ _ _ _ _).trans h
  · cases h
def VS36 {β : Type} (N : Nat) (q_laws_eqIntS : (a0 : List Int) → (a1 : List Int) → (k : Bool → Option β) → Option β) : Rv.Spec β := fun args K => match args with
  | [.v (.one (.sl 3 (.ints .i64 a0))), .v (.one (.sl 3 (.ints .i64 a1)))] => q_laws_eqIntS a0 a1 (fun z2 => K (.v (.one (.bool z2))))
  | _ => none
def S36 {β : Type} (N : Nat) : Rv.Spec β := VS36 N (laws_eqIntS N)
def h36_0_0  (v0 : List Int) (v1 : List Int) (v2 : Int) : St := ⟨.v (.one (.sl 3 (.ints .i64 v0))) :: .v (.one (.sl 3 (.ints .i64 v1))) :: .v (.one .und) :: .v (.one .und) :: .v (.one .und) :: .v (.one (.int .i64 v2)) :: .v (.one .und) :: .v (.one .und) :: .v (.one .und) :: .v (.one .und) :: .v (.one .und) :: .v (.one .und) :: .v (.one .und) :: .v (.one .und) :: .v (.one .und) :: .v (.one .und) :: .v (.one .und) :: .v (.one .und) :: .v (.one .und) :: .v (.one .und) :: .v (.one .und) :: .v (.one .und) :: .v (.one .und) :: .v (.one .und) :: .v (.one .und) :: .v (.one .und) :: [], []⟩
def x36_0_0_k0  (y0 : Bool) : St := ⟨.v (.one .und) :: .v (.one .und) :: .v (.one .und) :: .v (.one .und) :: .v (.one (.bool y0)) :: .v (.one .und) :: .v (.one .und) :: .v (.one .und) :: .v (.one .und) :: .v (.one .und) :: .v (.one .und) :: .v (.one .und) :: .v (.one .und) :: .v (.one .und) :: .v (.one .und) :: .v (.one .und) :: .v (.one .und) :: .v (.one .und) :: .v (.one .und) :: .v (.one .und) :: .v (.one .und) :: .v (.one .und) :: .v (.one .und) :: .v (.one .und) :: .v (.one .und) :: .v (.one .und) :: [], []⟩
def x36_0_0_k1   : St := ⟨.v (.one .und) :: .v (.one .und) :: .v (.one .und) :: .v (.one .und) :: .v (.one .und) :: .v (.one .und) :: .v (.one .und) :: .v (.one .und) :: .v (.one .und) :: .v (.one .und) :: .v (.one .und) :: .v (.one .und) :: .v (.one .und) :: .v (.one .und) :: .v (.one .und) :: .v (.one .und) :: .v (.one .und) :: .v (.one .und) :: .v (.one .und) :: .v (.one .und) :: .v (.one .und) :: .v (.one .und) :: .v (.one .und) :: .v (.one .und) :: .v (.one .und) :: .v (.one .und) :: [], []⟩
theorem fl36_0_0 (s : St) : refSt (h36_0_0 [] [] 0) s = h36_0_0 (rInts (rowV (oneA (vT (nx tund s.tmps 0))))) (rInts (rowV (oneA (vT (nx tund s.tmps 1))))) (intS (oneA (vT (nx tund s.tmps 5)))) := by kernel_rfl
def VLS36_0 {β : Type} (N : Nat) (q_laws_eqIntS_l0 : Nat → List Int → List Int → Int → (Bool → Option β) → (Option β) → Option β) : LSpec β := fun s K => cond (shpSt (h36_0_0 [] [] 0) s) ((fun (v0 : List Int) (v1 : List Int) (v2 : Int) => q_laws_eqIntS_l0  N v0 v1 v2 (fun y0 => K .ret (x36_0_0_k0  y0)) (K (.exit 0) (x36_0_0_k1  ))) (rInts (rowV (oneA (vT (nx tund s.tmps 0))))) (rInts (rowV (oneA (vT (nx tund s.tmps 1))))) (intS (oneA (vT (nx tund s.tmps 5))))) (none)
def LS36_0 {β : Type} (N : Nat) : LSpec β := VLS36_0 N (laws_eqIntS_l0 N)
def VE36 {β : Type} (N : Nat) (q_laws_eqIntS_l0 : Nat → List Int → List Int → Int → (Bool → Option β) → (Option β) → Option β) : Env β := ⟨[], [], [(0, VLS36_0 N q_laws_eqIntS_l0)], [], ⟨[], [], []⟩⟩
def E36 {β : Type} (N : Nat) : Env β := VE36 N (laws_eqIntS_l0 N)
def BV_laws_eqIntS_l0b {β : Type} (N : Nat)  (v0 : List Int) (v1 : List Int) (v2 : Int) (rec_ : List Int → List Int → Int → Option β) (k0 : Bool → Option β) (k1 : Option β) : Option β :=
(cond ((decide (v2 < (v0.length : Int))))
((gd ((decide (0 ≤ v2)))
((gd ((decide (v2 < (v0.length : Int))))
((gd ((decide (0 ≤ v2)))
((gd ((decide (v2 < (v1.length : Int))))
((cond (((rd 0 v0 v2) != (rd 0 v1 v2)))
(k0 false)
(rec_ v0 v1 ((w64 (v2 + 1))))))))))))))
(k1 ))
theorem t_laws_eqIntS_l0b {β : Type} (N : Nat)  (v0 : List Int) (v1 : List Int) (v2 : Int) (rec_ : List Int → List Int → Int → Option β) (k0 : Bool → Option β) (k1 : Option β) : laws_eqIntS_l0b N v0 v1 v2 rec_ k0 k1 = BV_laws_eqIntS_l0b N v0 v1 v2 rec_ k0 k1 := by
  unfold laws_eqIntS_l0b BV_laws_eqIntS_l0b
  rfl
theorem vst36_0_0 {β : Type} (N : Nat) (q_laws_eqIntS_l0 : Nat → List Int → List Int → Int → (Bool → Option β) → (Option β) → Option β)  (v0 : List Int) (v1 : List Int) (v2 : Int) (rec_ : St → Option β) (K : Exit → St → Option β) :
    ev lay (VE36 N q_laws_eqIntS_l0) (retMask Tryd.f36) (lp Tryd.f36 0).body (lp Tryd.f36 0).ex ((lp Tryd.f36 0).lv (retMask Tryd.f36)) (h36_0_0  v0 v1 v2) (nextR (fun s' => rec_ (s'.tidy ((lp Tryd.f36 0).lv (retMask Tryd.f36)))) K) = BV_laws_eqIntS_l0b N  v0 v1 v2 (fun v0 v1 v2 => rec_ (h36_0_0  v0 v1 v2)) (fun y0 => K .ret (x36_0_0_k0  y0)) (K (.exit 0) (x36_0_0_k1  )) := by kernel_rfl
theorem st36_0_0 {β : Type} (N : Nat)  (v0 : List Int) (v1 : List Int) (v2 : Int) (rec_ : St → Option β) (K : Exit → St → Option β) :
    ev lay (E36 N) (retMask Tryd.f36) (lp Tryd.f36 0).body (lp Tryd.f36 0).ex ((lp Tryd.f36 0).lv (retMask Tryd.f36)) (h36_0_0  v0 v1 v2) (nextR (fun s' => rec_ (s'.tidy ((lp Tryd.f36 0).lv (retMask Tryd.f36)))) K) = laws_eqIntS_l0b N  v0 v1 v2 (fun v0 v1 v2 => rec_ (h36_0_0  v0 v1 v2)) (fun y0 => K .ret (x36_0_0_k0  y0)) (K (.exit 0) (x36_0_0_k1  )) := (vst36_0_0 N (laws_eqIntS_l0 N) v0 v1 v2 rec_ K).trans (t_laws_eqIntS_l0b N  v0 v1 v2 (fun v0 v1 v2 => rec_ (h36_0_0  v0 v1 v2)) (fun y0 => K .ret (x36_0_0_k0  y0)) (K (.exit 0) (x36_0_0_k1  ))).symm
theorem ro36_0_0 {β : Type} (N : Nat)  (K : Exit → St → Option β) : ∀ (F : Nat) (v0 : List Int) (v1 : List Int) (v2 : Int), (lp Tryd.f36 0).rounds lay (E36 N) (retMask Tryd.f36) F (h36_0_0  v0 v1 v2) K = laws_eqIntS_l0 N  F v0 v1 v2 (fun y0 => K .ret (x36_0_0_k0  y0)) (K (.exit 0) (x36_0_0_k1  )) := by
  intro F
  induction F with
  | zero => intros; rfl
  | succ F ih =>
    intros
    rw [rounds_next]
    refine (st36_0_0 N  _ _ _ (fun s => (lp Tryd.f36 0).rounds lay (E36 N) (retMask Tryd.f36) F s K) K).trans ?_
    simp only [ih]
    rfl
theorem lk36_0 {β : Type} (N : Nat) : lookL (E36 (β := β) N).loops (lp Tryd.f36 0).id = LS36_0 N := by kernel_rfl
theorem rk36_0 {β : Type} (N : Nat) : RoundsOK lay (E36 (β := β) N) (retMask Tryd.f36) (lp Tryd.f36 0) := by
  intro s K r h
  rw [lk36_0] at h
  unfold LS36_0 VLS36_0 at h
  cases hb : shpSt (h36_0_0 [] [] 0) s with
  | true =>
    rw [hb, cond_true] at h
    exact ⟨N, by rw [← shpSt_ref hb, fl36_0_0 s]; exact (ro36_0_0 N  K N (rInts (rowV (oneA (vT (nx tund s.tmps 0))))) (rInts (rowV (oneA (vT (nx tund s.tmps 1))))) (intS (oneA (vT (nx tund s.tmps 5))))).trans h⟩
  | false =>
  rw [hb, cond_false] at h
  clear hb
  cases h
def BV_laws_eqIntS {β : Type} (N : Nat) (q_laws_eqIntS_l0 : Nat → List Int → List Int → Int → (Bool → Option β) → (Option β) → Option β) (a0 : List Int) (a1 : List Int) (k : Bool → Option β) : Option β :=
(cond (((a0.length : Int) != (a1.length : Int)))
(k false)
(q_laws_eqIntS_l0  N a0 a1 0 (fun e3_0 =>
k e3_0) (k true)))
theorem t_laws_eqIntS {β : Type} (N : Nat) (a0 : List Int) (a1 : List Int) (k : Bool → Option β) : laws_eqIntS N a0 a1 k = BV_laws_eqIntS N (laws_eqIntS_l0 N) a0 a1 k := by
  unfold laws_eqIntS BV_laws_eqIntS
  rfl
theorem ve36_0 {β : Type} (N : Nat) (q_laws_eqIntS_l0 : Nat → List Int → List Int → Int → (Bool → Option β) → (Option β) → Option β)  (a0 : List Int) (a1 : List Int) (K : TV → Option β) : evFn lay (VE36 N q_laws_eqIntS_l0) Tryd.f36 [.v (.one (.sl 3 (.ints .i64 a0))), .v (.one (.sl 3 (.ints .i64 a1)))] K = BV_laws_eqIntS N q_laws_eqIntS_l0 a0 a1 (fun z2 => K (.v (.one (.bool z2)))) := by kernel_rfl
theorem e36_0 {β : Type} (N : Nat)  (a0 : List Int) (a1 : List Int) (K : TV → Option β) : evFn lay (E36 N) Tryd.f36 [.v (.one (.sl 3 (.ints .i64 a0))), .v (.one (.sl 3 (.ints .i64 a1)))] K = laws_eqIntS N a0 a1 (fun z2 => K (.v (.one (.bool z2)))) := (ve36_0 N (laws_eqIntS_l0 N) a0 a1 K).trans (t_laws_eqIntS N a0 a1 (fun z2 => K (.v (.one (.bool z2))))).symm
theorem o36 {β : Type} (N : Nat) : SpecOK (β := β) inv Tryd.prog 36 (S36 N) := by
  refine spec_of lay_ok mixed (E := E36 N) (specs_loops specs_nil) muts_nil gs_nil Tryd.func36 (by kernel_rfl) 1 (by kernel_rfl) ⟨trivial, rk36_0 N⟩ fun args K r h => ?_
  unfold S36 VS36 at h
  split at h
  · exact (e36_0 N _ _ _).trans h
  · cases h
def VS13 {β : Type} (N : Nat) (q_laws_eqClaim : (a0 : Int) → (a1 : Int) → (a2 : Int) → (a3 : Int) → (a4 : Int) → (a5 : ByteArray) → (a6 : List Int) → (a7 : Int) → (a8 : Int) → (a9 : Int) → (a10 : Int) → (a11 : Int) → (a12 : ByteArray) → (a13 : List Int) → (k : Bool → Option β) → Option β) : Rv.Spec β := fun args K => match args with
  | [.v (.agg [.int .i64 a0, .int .i64 a1, .int .i64 a2, .int .i64 a3, .int .i64 a4, .str a5, .sl 3 (.ints .i64 a6)]), .v (.agg [.int .i64 a7, .int .i64 a8, .int .i64 a9, .int .i64 a10, .int .i64 a11, .str a12, .sl 3 (.ints .i64 a13)])] => q_laws_eqClaim a0 a1 a2 a3 a4 a5 a6 a7 a8 a9 a10 a11 a12 a13 (fun z14 => K (.v (.one (.bool z14))))
  | _ => none
def S13 {β : Type} (N : Nat) : Rv.Spec β := VS13 N (laws_eqClaim N)
def VE13 {β : Type} (N : Nat) (q_laws_eqTable : (a0 : Int) → (a1 : Int) → (a2 : Int) → (a3 : Int) → (k : Bool → Option β) → Option β) (q_laws_eqIntS : (a0 : List Int) → (a1 : List Int) → (k : Bool → Option β) → Option β) : Env β := ⟨[(35, VS35 N q_laws_eqTable), (36, VS36 N q_laws_eqIntS)], [], [], [], ⟨[], [], []⟩⟩
def E13 {β : Type} (N : Nat) : Env β := VE13 N (laws_eqTable N) (laws_eqIntS N)
def BV_laws_eqClaim {β : Type} (N : Nat) (q_laws_eqTable : (a0 : Int) → (a1 : Int) → (a2 : Int) → (a3 : Int) → (k : Bool → Option β) → Option β) (q_laws_eqIntS : (a0 : List Int) → (a1 : List Int) → (k : Bool → Option β) → Option β) (a0 : Int) (a1 : Int) (a2 : Int) (a3 : Int) (a4 : Int) (a5 : ByteArray) (a6 : List Int) (a7 : Int) (a8 : Int) (a9 : Int) (a10 : Int) (a11 : Int) (a12 : ByteArray) (a13 : List Int) (k : Bool → Option β) : Option β :=
(cond ((a0 != a7))
(k false)
(q_laws_eqTable a1 a2 a8 a9 fun r15 =>
(cond (!r15)
(k false)
((cond ((a3 != a10))
(k false)
((cond ((a4 != a11))
(k false)
((cond ((!(a5.toList == a12.toList)))
(k false)
(q_laws_eqIntS a6 a13 fun r16 =>
(cond (!r16)
(k false)
(k true))))))))))))
theorem t_laws_eqClaim {β : Type} (N : Nat) (a0 : Int) (a1 : Int) (a2 : Int) (a3 : Int) (a4 : Int) (a5 : ByteArray) (a6 : List Int) (a7 : Int) (a8 : Int) (a9 : Int) (a10 : Int) (a11 : Int) (a12 : ByteArray) (a13 : List Int) (k : Bool → Option β) : laws_eqClaim N a0 a1 a2 a3 a4 a5 a6 a7 a8 a9 a10 a11 a12 a13 k = BV_laws_eqClaim N (laws_eqTable N) (laws_eqIntS N) a0 a1 a2 a3 a4 a5 a6 a7 a8 a9 a10 a11 a12 a13 k := by
  unfold laws_eqClaim BV_laws_eqClaim
  rfl
theorem ve13_0 {β : Type} (N : Nat) (q_laws_eqTable : (a0 : Int) → (a1 : Int) → (a2 : Int) → (a3 : Int) → (k : Bool → Option β) → Option β) (q_laws_eqIntS : (a0 : List Int) → (a1 : List Int) → (k : Bool → Option β) → Option β)  (a0 : Int) (a1 : Int) (a2 : Int) (a3 : Int) (a4 : Int) (a5 : ByteArray) (a6 : List Int) (a7 : Int) (a8 : Int) (a9 : Int) (a10 : Int) (a11 : Int) (a12 : ByteArray) (a13 : List Int) (K : TV → Option β) : evFn lay (VE13 N q_laws_eqTable q_laws_eqIntS) Tryd.f13 [.v (.agg [.int .i64 a0, .int .i64 a1, .int .i64 a2, .int .i64 a3, .int .i64 a4, .str a5, .sl 3 (.ints .i64 a6)]), .v (.agg [.int .i64 a7, .int .i64 a8, .int .i64 a9, .int .i64 a10, .int .i64 a11, .str a12, .sl 3 (.ints .i64 a13)])] K = BV_laws_eqClaim N q_laws_eqTable q_laws_eqIntS a0 a1 a2 a3 a4 a5 a6 a7 a8 a9 a10 a11 a12 a13 (fun z14 => K (.v (.one (.bool z14)))) := by kernel_rfl
theorem e13_0 {β : Type} (N : Nat)  (a0 : Int) (a1 : Int) (a2 : Int) (a3 : Int) (a4 : Int) (a5 : ByteArray) (a6 : List Int) (a7 : Int) (a8 : Int) (a9 : Int) (a10 : Int) (a11 : Int) (a12 : ByteArray) (a13 : List Int) (K : TV → Option β) : evFn lay (E13 N) Tryd.f13 [.v (.agg [.int .i64 a0, .int .i64 a1, .int .i64 a2, .int .i64 a3, .int .i64 a4, .str a5, .sl 3 (.ints .i64 a6)]), .v (.agg [.int .i64 a7, .int .i64 a8, .int .i64 a9, .int .i64 a10, .int .i64 a11, .str a12, .sl 3 (.ints .i64 a13)])] K = laws_eqClaim N a0 a1 a2 a3 a4 a5 a6 a7 a8 a9 a10 a11 a12 a13 (fun z14 => K (.v (.one (.bool z14)))) := (ve13_0 N (laws_eqTable N) (laws_eqIntS N) a0 a1 a2 a3 a4 a5 a6 a7 a8 a9 a10 a11 a12 a13 K).trans (t_laws_eqClaim N a0 a1 a2 a3 a4 a5 a6 a7 a8 a9 a10 a11 a12 a13 (fun z14 => K (.v (.one (.bool z14))))).symm
theorem o13 {β : Type} (N : Nat) : SpecOK (β := β) inv Tryd.prog 13 (S13 N) := by
  refine spec_of lay_ok mixed (E := E13 N) (specs_loops (specs_cons (o35 N) (specs_cons (o36 N) specs_nil))) muts_nil gs_nil Tryd.func13 (by kernel_rfl) 0 (by kernel_rfl) trivial fun args K r h => ?_
  unfold S13 VS13 at h
  split at h
  · exact (e13_0 N _ _ _ _ _ _ _ _ _ _ _ _ _ _ _).trans h
  · cases h
end Go.Proofs.YtfdggelojmofmaaDoor
