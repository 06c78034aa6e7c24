/- The functions that the claims reach answer as their texts do. -/
import Derived.Test.YtdkjnadhgdneaaaE5
namespace Go.Proofs.Ytdkjnadhgdneaaa
open Go.Rv
set_option maxRecDepth 100000
set_option maxHeartbeats 2000000
set_option linter.unusedVariables false
def VS59 {β : Type} (N : Nat) (q_spec_l30Flip : (a0 : Int) → (a1 : Int) → (a2 : Int) → (a3 : List Int) → (a4 : Int) → (k : Int → Int → Int → List Int → Option β) → Option β) : Rv.Spec β := fun args K => match args with
  | [.v (.agg [.int .i64 a0, .int .i64 a1, .int .i64 a2, .sl 3 (.ints .i64 a3)]), .v (.one (.int .i64 a4))] => q_spec_l30Flip a0 a1 a2 a3 a4 (fun z5 z6 z7 z8 => K (.v (.agg [.int .i64 z5, .int .i64 z6, .int .i64 z7, .sl 3 (.ints .i64 z8)])))
  | _ => none
def S59 {β : Type} (N : Nat) : Rv.Spec β := VS59 N (spec_l30Flip N)
def h59_0_0  (v0 : Int) (v1 : Int) (v2 : Int) (v3 : Int) (v4 : Int) (v5 : List Int) (v6 : Int) (v7 : Int) (v8 : Int) (v9 : Int) (v10 : Int) (v11 : Int) (v12 : Int) (v13 : Int) (v14 : List Int) (v15 : List Int) : St := ⟨.v (.one .und) :: .v (.one (.int .i64 v0)) :: .v (.one (.ptr 0 0)) :: .v (.one .und) :: .v (.one (.ptr 1 0)) :: .v (.one (.ptr 2 0)) :: .v (.one (.ptr 3 0)) :: .v (.one (.int .i64 v1)) :: .v (.one .und) :: .v (.one .und) :: .v (.one .und) :: .v (.one .und) :: .v (.one .und) :: .v (.one .und) :: .v (.one .und) :: .v (.one .und) :: .v (.one .und) :: .v (.one .und) :: .v (.one .und) :: .v (.one .und) :: .v (.one .und) :: .v (.one .und) :: .v (.one .und) :: .v (.one .und) :: .v (.one .und) :: .v (.one .und) :: .v (.one .und) :: .v (.one .und) :: .v (.one .und) :: .v (.one .und) :: .v (.one .und) :: .v (.one .und) :: .v (.one .und) :: .v (.one .und) :: .v (.one .und) :: .v (.one .und) :: .v (.one .und) :: .v (.one .und) :: .v (.one .und) :: .v (.one .und) :: .v (.one .und) :: .v (.one .und) :: .v (.one .und) :: .v (.one .und) :: .v (.one .und) :: .v (.one .und) :: .v (.one .und) :: .v (.one .und) :: .v (.one .und) :: .v (.one .und) :: .v (.one .und) :: .v (.one .und) :: .v (.one .und) :: .v (.one .und) :: .v (.one .und) :: .v (.one .und) :: .v (.one .und) :: .v (.one .und) :: .v (.one .und) :: .v (.one .und) :: .v (.one .und) :: .v (.one .und) :: .v (.one .und) :: .v (.one .und) :: .v (.one .und) :: .v (.one .und) :: .v (.one .und) :: [], [.cells 28 [.int .i64 v2, .int .i64 v3, .int .i64 v4, .sl 3 (.ints .i64 v5)], .cells 28 [.int .i64 v6, .int .i64 v7, .int .i64 v8, .row 4], .cells 25 [.int .i64 v9, .int .i64 v10], .cells 28 [.int .i64 v11, .int .i64 v12, .int .i64 v13, .row 5], .row 3 (.ints .i64 v14), .row 3 (.ints .i64 v15)]⟩
def x59_0_0_k0  (y0 : Int) (y1 : Int) (y2 : Int) (y3 : Int) (y4 : Int) (y5 : Int) (y6 : List Int) (y7 : List Int) : St := ⟨.v (.one .und) :: .v (.one .und) :: .v (.one .und) :: .v (.one .und) :: .v (.one (.ptr 0 0)) :: .v (.one .und) :: .v (.one (.ptr 1 0)) :: .v (.one .und) :: .v (.one .und) :: .v (.one .und) :: .v (.one .und) :: .v (.one .und) :: .v (.one .und) :: .v (.one .und) :: .v (.one .und) :: .v (.one .und) :: .v (.one .und) :: .v (.one .und) :: .v (.one .und) :: .v (.one .und) :: .v (.one .und) :: .v (.one .und) :: .v (.one .und) :: .v (.one .und) :: .v (.one .und) :: .v (.one .und) :: .v (.one .und) :: .v (.one .und) :: .v (.one .und) :: .v (.one .und) :: .v (.one .und) :: .v (.one .und) :: .v (.one .und) :: .v (.one .und) :: .v (.one .und) :: .v (.one .und) :: .v (.one .und) :: .v (.one .und) :: .v (.one .und) :: .v (.one .und) :: .v (.one .und) :: .v (.one .und) :: .v (.one .und) :: .v (.one .und) :: .v (.one .und) :: .v (.one .und) :: .v (.one .und) :: .v (.one .und) :: .v (.one .und) :: .v (.one .und) :: .v (.one .und) :: .v (.one .und) :: .v (.one .und) :: .v (.one .und) :: .v (.one .und) :: .v (.one .und) :: .v (.one .und) :: .v (.one .und) :: .v (.one .und) :: .v (.one .und) :: .v (.one .und) :: .v (.one .und) :: .v (.one .und) :: .v (.one .und) :: .v (.one .und) :: .v (.one .und) :: .v (.one .und) :: [], [.cells 28 [.int .i64 y0, .int .i64 y1, .int .i64 y2, .row 2], .cells 28 [.int .i64 y3, .int .i64 y4, .int .i64 y5, .row 3], .row 3 (.ints .i64 y6), .row 3 (.ints .i64 y7)]⟩
theorem fl59_0_0 (s : St) : refSt (h59_0_0 0 0 0 0 0 [] 0 0 0 0 0 0 0 0 [] []) s = h59_0_0 (intS (oneA (vT (nx tund s.tmps 1)))) (intS (oneA (vT (nx tund s.tmps 7)))) (intS (nx .und (cellsB (nx .dead s.blks 0)) 0)) (intS (nx .und (cellsB (nx .dead s.blks 0)) 1)) (intS (nx .und (cellsB (nx .dead s.blks 0)) 2)) (rInts (rowV (nx .und (cellsB (nx .dead s.blks 0)) 3))) (intS (nx .und (cellsB (nx .dead s.blks 1)) 0)) (intS (nx .und (cellsB (nx .dead s.blks 1)) 1)) (intS (nx .und (cellsB (nx .dead s.blks 1)) 2)) (intS (nx .und (cellsB (nx .dead s.blks 2)) 0)) (intS (nx .und (cellsB (nx .dead s.blks 2)) 1)) (intS (nx .und (cellsB (nx .dead s.blks 3)) 0)) (intS (nx .und (cellsB (nx .dead s.blks 3)) 1)) (intS (nx .und (cellsB (nx .dead s.blks 3)) 2)) (rInts (rowB_ (nx .dead s.blks 4))) (rInts (rowB_ (nx .dead s.blks 5))) := by kernel_rfl
def VLS59_0 {β : Type} (N : Nat) (q_spec_l30Flip_l0 : Nat → Int → Int → Int → Int → Int → List Int → Int → Int → Int → Int → Int → Int → Int → Int → List Int → List Int → (Int → Int → Int → Int → Int → Int → List Int → List Int → Option β) → Option β) : LSpec β := fun s K => cond (shpSt (h59_0_0 0 0 0 0 0 [] 0 0 0 0 0 0 0 0 [] []) s) ((fun (v0 : Int) (v1 : Int) (v2 : Int) (v3 : Int) (v4 : Int) (v5 : List Int) (v6 : Int) (v7 : Int) (v8 : Int) (v9 : Int) (v10 : Int) (v11 : Int) (v12 : Int) (v13 : Int) (v14 : List Int) (v15 : List Int) => q_spec_l30Flip_l0  N v0 v1 v2 v3 v4 v5 v6 v7 v8 v9 v10 v11 v12 v13 v14 v15 (fun y0 y1 y2 y3 y4 y5 y6 y7 => K (.exit 0) (x59_0_0_k0  y0 y1 y2 y3 y4 y5 y6 y7))) (intS (oneA (vT (nx tund s.tmps 1)))) (intS (oneA (vT (nx tund s.tmps 7)))) (intS (nx .und (cellsB (nx .dead s.blks 0)) 0)) (intS (nx .und (cellsB (nx .dead s.blks 0)) 1)) (intS (nx .und (cellsB (nx .dead s.blks 0)) 2)) (rInts (rowV (nx .und (cellsB (nx .dead s.blks 0)) 3))) (intS (nx .und (cellsB (nx .dead s.blks 1)) 0)) (intS (nx .und (cellsB (nx .dead s.blks 1)) 1)) (intS (nx .und (cellsB (nx .dead s.blks 1)) 2)) (intS (nx .und (cellsB (nx .dead s.blks 2)) 0)) (intS (nx .und (cellsB (nx .dead s.blks 2)) 1)) (intS (nx .und (cellsB (nx .dead s.blks 3)) 0)) (intS (nx .und (cellsB (nx .dead s.blks 3)) 1)) (intS (nx .und (cellsB (nx .dead s.blks 3)) 2)) (rInts (rowB_ (nx .dead s.blks 4))) (rInts (rowB_ (nx .dead s.blks 5)))) (none)
def LS59_0 {β : Type} (N : Nat) : LSpec β := VLS59_0 N (spec_l30Flip_l0 N)
def VE59 {β : Type} (N : Nat) (q_spec_l30Flip_l0 : Nat → Int → Int → Int → Int → Int → List Int → Int → Int → Int → Int → Int → Int → Int → Int → List Int → List Int → (Int → Int → Int → Int → Int → Int → List Int → List Int → Option β) → Option β) : Env β := ⟨[], [], [(0, VLS59_0 N q_spec_l30Flip_l0)], []⟩
def E59 {β : Type} (N : Nat) : Env β := VE59 N (spec_l30Flip_l0 N)
def BV_spec_l30Flip_l0b {β : Type} (N : Nat)  (v0 : Int) (v1 : Int) (v2 : Int) (v3 : Int) (v4 : Int) (v5 : List Int) (v6 : Int) (v7 : Int) (v8 : Int) (v9 : Int) (v10 : Int) (v11 : Int) (v12 : Int) (v13 : Int) (v14 : List Int) (v15 : List Int) (rec_ : Int → Int → Int → Int → Int → List Int → Int → Int → Int → Int → Int → Int → Int → Int → List Int → List Int → Option β) (k0 : Int → Int → Int → Int → Int → Int → List Int → List Int → Option β) : Option β :=
(cond ((decide (v1 < v9)))
((gd ((decide (0 ≤ v0)))
((gd ((decide (0 ≤ v1)))
((gd ((decide (0 ≤ (bits .xor .i64 v0 (shlI .i64 1 v1)))))
((cond (((bits .and .i64 (bits .xor .i64 (shrI .i64 v10 v0) (shrI .i64 v10 (bits .xor .i64 v0 (shlI .i64 1 v1)))) 1) == 1))
((gd ((decide (0 ≤ v1)))
((gd ((decide (v1 < (v5.length : Int))))
((gd ((decide ((v15.length + ((([] : List Int) ++ [(w64 ((rd 0 v5 v1) + (-2)))])).length) * 8 ≤ 140737488355328)))
(rec_ v0 ((w64 (v1 + 1))) v2 v3 v4 v5 v6 v7 v8 v9 v10 v11 v12 v13 v14 ((v15 ++ (([] : List Int) ++ [(w64 ((rd 0 v5 v1) + (-2)))]))))))))))
((gd ((decide (0 ≤ v1)))
((gd ((decide (v1 < (v5.length : Int))))
((gd ((decide ((v15.length + ((([] : List Int) ++ [(w64 ((rd 0 v5 v1) + 2))])).length) * 8 ≤ 140737488355328)))
(rec_ v0 ((w64 (v1 + 1))) v2 v3 v4 v5 v6 v7 v8 v9 v10 v11 v12 v13 v14 ((v15 ++ (([] : List Int) ++ [(w64 ((rd 0 v5 v1) + 2))]))))))))))))))))))
(k0 v6 v7 v8 v11 v12 v13 v14 v15))
theorem t_spec_l30Flip_l0b {β : Type} (N : Nat)  (v0 : Int) (v1 : Int) (v2 : Int) (v3 : Int) (v4 : Int) (v5 : List Int) (v6 : Int) (v7 : Int) (v8 : Int) (v9 : Int) (v10 : Int) (v11 : Int) (v12 : Int) (v13 : Int) (v14 : List Int) (v15 : List Int) (rec_ : Int → Int → Int → Int → Int → List Int → Int → Int → Int → Int → Int → Int → Int → Int → List Int → List Int → Option β) (k0 : Int → Int → Int → Int → Int → Int → List Int → List Int → Option β) : spec_l30Flip_l0b N v0 v1 v2 v3 v4 v5 v6 v7 v8 v9 v10 v11 v12 v13 v14 v15 rec_ k0 = BV_spec_l30Flip_l0b N v0 v1 v2 v3 v4 v5 v6 v7 v8 v9 v10 v11 v12 v13 v14 v15 rec_ k0 := by
  unfold spec_l30Flip_l0b BV_spec_l30Flip_l0b
  rfl
theorem vst59_0_0 {β : Type} (N : Nat) (q_spec_l30Flip_l0 : Nat → Int → Int → Int → Int → Int → List Int → Int → Int → Int → Int → Int → Int → Int → Int → List Int → List Int → (Int → Int → Int → Int → Int → Int → List Int → List Int → Option β) → Option β)  (v0 : Int) (v1 : Int) (v2 : Int) (v3 : Int) (v4 : Int) (v5 : List Int) (v6 : Int) (v7 : Int) (v8 : Int) (v9 : Int) (v10 : Int) (v11 : Int) (v12 : Int) (v13 : Int) (v14 : List Int) (v15 : List Int) (rec_ : St → Option β) (K : Exit → St → Option β) :
    ev lay (VE59 N q_spec_l30Flip_l0) (retMask Try.f59) (lp Try.f59 0).body (lp Try.f59 0).ex ((lp Try.f59 0).lv (retMask Try.f59)) (h59_0_0  v0 v1 v2 v3 v4 v5 v6 v7 v8 v9 v10 v11 v12 v13 v14 v15) (nextR (fun s' => rec_ (s'.tidy ((lp Try.f59 0).lv (retMask Try.f59)))) K) = BV_spec_l30Flip_l0b N  v0 v1 v2 v3 v4 v5 v6 v7 v8 v9 v10 v11 v12 v13 v14 v15 (fun v0 v1 v2 v3 v4 v5 v6 v7 v8 v9 v10 v11 v12 v13 v14 v15 => rec_ (h59_0_0  v0 v1 v2 v3 v4 v5 v6 v7 v8 v9 v10 v11 v12 v13 v14 v15)) (fun y0 y1 y2 y3 y4 y5 y6 y7 => K (.exit 0) (x59_0_0_k0  y0 y1 y2 y3 y4 y5 y6 y7)) := by kernel_rfl
theorem st59_0_0 {β : Type} (N : Nat)  (v0 : Int) (v1 : Int) (v2 : Int) (v3 : Int) (v4 : Int) (v5 : List Int) (v6 : Int) (v7 : Int) (v8 : Int) (v9 : Int) (v10 : Int) (v11 : Int) (v12 : Int) (v13 : Int) (v14 : List Int) (v15 : List Int) (rec_ : St → Option β) (K : Exit → St → Option β) :
    ev lay (E59 N) (retMask Try.f59) (lp Try.f59 0).body (lp Try.f59 0).ex ((lp Try.f59 0).lv (retMask Try.f59)) (h59_0_0  v0 v1 v2 v3 v4 v5 v6 v7 v8 v9 v10 v11 v12 v13 v14 v15) (nextR (fun s' => rec_ (s'.tidy ((lp Try.f59 0).lv (retMask Try.f59)))) K) = spec_l30Flip_l0b N  v0 v1 v2 v3 v4 v5 v6 v7 v8 v9 v10 v11 v12 v13 v14 v15 (fun v0 v1 v2 v3 v4 v5 v6 v7 v8 v9 v10 v11 v12 v13 v14 v15 => rec_ (h59_0_0  v0 v1 v2 v3 v4 v5 v6 v7 v8 v9 v10 v11 v12 v13 v14 v15)) (fun y0 y1 y2 y3 y4 y5 y6 y7 => K (.exit 0) (x59_0_0_k0  y0 y1 y2 y3 y4 y5 y6 y7)) := (vst59_0_0 N (spec_l30Flip_l0 N) v0 v1 v2 v3 v4 v5 v6 v7 v8 v9 v10 v11 v12 v13 v14 v15 rec_ K).trans (t_spec_l30Flip_l0b N  v0 v1 v2 v3 v4 v5 v6 v7 v8 v9 v10 v11 v12 v13 v14 v15 (fun v0 v1 v2 v3 v4 v5 v6 v7 v8 v9 v10 v11 v12 v13 v14 v15 => rec_ (h59_0_0  v0 v1 v2 v3 v4 v5 v6 v7 v8 v9 v10 v11 v12 v13 v14 v15)) (fun y0 y1 y2 y3 y4 y5 y6 y7 => K (.exit 0) (x59_0_0_k0  y0 y1 y2 y3 y4 y5 y6 y7))).symm
theorem ro59_0_0 {β : Type} (N : Nat)  (K : Exit → St → Option β) : ∀ (F : Nat) (v0 : Int) (v1 : Int) (v2 : Int) (v3 : Int) (v4 : Int) (v5 : List Int) (v6 : Int) (v7 : Int) (v8 : Int) (v9 : Int) (v10 : Int) (v11 : Int) (v12 : Int) (v13 : Int) (v14 : List Int) (v15 : List Int), (lp Try.f59 0).rounds lay (E59 N) (retMask Try.f59) F (h59_0_0  v0 v1 v2 v3 v4 v5 v6 v7 v8 v9 v10 v11 v12 v13 v14 v15) K = spec_l30Flip_l0 N  F v0 v1 v2 v3 v4 v5 v6 v7 v8 v9 v10 v11 v12 v13 v14 v15 (fun y0 y1 y2 y3 y4 y5 y6 y7 => K (.exit 0) (x59_0_0_k0  y0 y1 y2 y3 y4 y5 y6 y7)) := by
  intro F
  induction F with
  | zero => intros; rfl
  | succ F ih =>
    intros
    rw [rounds_next]
    refine (st59_0_0 N  _ _ _ _ _ _ _ _ _ _ _ _ _ _ _ _ (fun s => (lp Try.f59 0).rounds lay (E59 N) (retMask Try.f59) F s K) K).trans ?_
    simp only [ih]
    rfl
theorem lk59_0 {β : Type} (N : Nat) : lookL (E59 (β := β) N).loops (lp Try.f59 0).id = LS59_0 N := by kernel_rfl
theorem rk59_0 {β : Type} (N : Nat) : RoundsOK lay (E59 (β := β) N) (retMask Try.f59) (lp Try.f59 0) := by
  intro s K r h
  rw [lk59_0] at h
  unfold LS59_0 VLS59_0 at h
  cases hb : shpSt (h59_0_0 0 0 0 0 0 [] 0 0 0 0 0 0 0 0 [] []) s with
  | true =>
    rw [hb, cond_true] at h
    exact ⟨N, by rw [← shpSt_ref hb, fl59_0_0 s]; exact (ro59_0_0 N  K N (intS (oneA (vT (nx tund s.tmps 1)))) (intS (oneA (vT (nx tund s.tmps 7)))) (intS (nx .und (cellsB (nx .dead s.blks 0)) 0)) (intS (nx .und (cellsB (nx .dead s.blks 0)) 1)) (intS (nx .und (cellsB (nx .dead s.blks 0)) 2)) (rInts (rowV (nx .und (cellsB (nx .dead s.blks 0)) 3))) (intS (nx .und (cellsB (nx .dead s.blks 1)) 0)) (intS (nx .und (cellsB (nx .dead s.blks 1)) 1)) (intS (nx .und (cellsB (nx .dead s.blks 1)) 2)) (intS (nx .und (cellsB (nx .dead s.blks 2)) 0)) (intS (nx .und (cellsB (nx .dead s.blks 2)) 1)) (intS (nx .und (cellsB (nx .dead s.blks 3)) 0)) (intS (nx .und (cellsB (nx .dead s.blks 3)) 1)) (intS (nx .und (cellsB (nx .dead s.blks 3)) 2)) (rInts (rowB_ (nx .dead s.blks 4))) (rInts (rowB_ (nx .dead s.blks 5)))).trans h⟩
  | false =>
  rw [hb, cond_false] at h
  clear hb
  cases h
def BV_spec_l30Flip {β : Type} (N : Nat) (q_spec_l30Flip_l0 : Nat → Int → Int → Int → Int → Int → List Int → Int → Int → Int → Int → Int → Int → Int → Int → List Int → List Int → (Int → Int → Int → Int → Int → Int → List Int → List Int → Option β) → Option β) (a0 : Int) (a1 : Int) (a2 : Int) (a3 : List Int) (a4 : Int) (k : Int → Int → Int → List Int → Option β) : Option β :=
(gd ((decide (0 ≤ a4)))
((spec_l30Flip_s2 a4 a0 a1 a2 a3 0 0 0 a0 a1 a0 ((bits .xor .i64 a1 (shlI .i64 1 a4))) ((w64 (a2 + 1))) (([] : List Int)) (([] : List Int))
((gd ((decide (0 ≤ a4)))
((cond (((bits .and .i64 (shrI .i64 a1 a4) 1) == 1))
(q_spec_l30Flip_l0  N a4 0 a0 a1 a2 a3 0 0 0 a0 a1 a0 ((bits .xor .i64 a1 (shlI .i64 1 a4))) ((w64 (a2 - 1))) (([] : List Int)) (([] : List Int)) (fun e9_0 e9_1 e9_2 e9_3 e9_4 e9_5 e9_6 e9_7 =>
k e9_3 e9_4 e9_5 e9_7))
(q_spec_l30Flip_l0  N a4 0 a0 a1 a2 a3 0 0 0 a0 a1 a0 ((bits .xor .i64 a1 (shlI .i64 1 a4))) ((w64 (a2 + 1))) (([] : List Int)) (([] : List Int)) (fun e10_0 e10_1 e10_2 e10_3 e10_4 e10_5 e10_6 e10_7 =>
k e10_3 e10_4 e10_5 e10_7)))))))))
theorem t_spec_l30Flip {β : Type} (N : Nat) (a0 : Int) (a1 : Int) (a2 : Int) (a3 : List Int) (a4 : Int) (k : Int → Int → Int → List Int → Option β) : spec_l30Flip N a0 a1 a2 a3 a4 k = BV_spec_l30Flip N (spec_l30Flip_l0 N) a0 a1 a2 a3 a4 k := by
  unfold spec_l30Flip BV_spec_l30Flip
  rfl
theorem ve59_0 {β : Type} (N : Nat) (q_spec_l30Flip_l0 : Nat → Int → Int → Int → Int → Int → List Int → Int → Int → Int → Int → Int → Int → Int → Int → List Int → List Int → (Int → Int → Int → Int → Int → Int → List Int → List Int → Option β) → Option β)  (a0 : Int) (a1 : Int) (a2 : Int) (a3 : List Int) (a4 : Int) (K : TV → Option β) : evFn lay (VE59 N q_spec_l30Flip_l0) Try.f59 [.v (.agg [.int .i64 a0, .int .i64 a1, .int .i64 a2, .sl 3 (.ints .i64 a3)]), .v (.one (.int .i64 a4))] K = BV_spec_l30Flip N q_spec_l30Flip_l0 a0 a1 a2 a3 a4 (fun z5 z6 z7 z8 => K (.v (.agg [.int .i64 z5, .int .i64 z6, .int .i64 z7, .sl 3 (.ints .i64 z8)]))) := by kernel_rfl
theorem e59_0 {β : Type} (N : Nat)  (a0 : Int) (a1 : Int) (a2 : Int) (a3 : List Int) (a4 : Int) (K : TV → Option β) : evFn lay (E59 N) Try.f59 [.v (.agg [.int .i64 a0, .int .i64 a1, .int .i64 a2, .sl 3 (.ints .i64 a3)]), .v (.one (.int .i64 a4))] K = spec_l30Flip N a0 a1 a2 a3 a4 (fun z5 z6 z7 z8 => K (.v (.agg [.int .i64 z5, .int .i64 z6, .int .i64 z7, .sl 3 (.ints .i64 z8)]))) := (ve59_0 N (spec_l30Flip_l0 N) a0 a1 a2 a3 a4 K).trans (t_spec_l30Flip N a0 a1 a2 a3 a4 (fun z5 z6 z7 z8 => K (.v (.agg [.int .i64 z5, .int .i64 z6, .int .i64 z7, .sl 3 (.ints .i64 z8)])))).symm
theorem o59 {β : Type} (N : Nat) : SpecOK (β := β) Try.prog 59 (S59 N) := by
  refine spec_of lay_ok mixed (E := E59 N) (specs_loops specs_nil) muts_nil gs_nil Try.func59 (by kernel_rfl) 1 (by kernel_rfl) ⟨trivial, rk59_0 N⟩ fun args K r h => ?_
  unfold S59 VS59 at h
  split at h
  · exact (e59_0 N _ _ _ _ _ _).trans h
  · cases h
def VS11 {β : Type} (N : Nat) (q_spec_FlipAt : (a0 : Int) → (a1 : Int) → (a2 : Int) → (a3 : List Int) → (a4 : Int) → (k : Int → Int → Int → List Int → Bool → Option β) → Option β) : Rv.Spec β := fun args K => match args with
  | [.v (.agg [.int .i64 a0, .int .i64 a1, .int .i64 a2, .sl 3 (.ints .i64 a3)]), .v (.one (.int .i64 a4))] => q_spec_FlipAt a0 a1 a2 a3 a4 (fun z5 z6 z7 z8 z9 => K (.tup [.agg [.int .i64 z5, .int .i64 z6, .int .i64 z7, .sl 3 (.ints .i64 z8)], .one (.bool z9)]))
  | _ => none
def S11 {β : Type} (N : Nat) : Rv.Spec β := VS11 N (spec_FlipAt N)
def VE11 {β : Type} (N : Nat) (q_spec_IsKept : (a0 : Int) → (a1 : Int) → (a2 : Int) → (a3 : List Int) → (k : Bool → Option β) → Option β) (q_spec_l9In : (a0 : Int) → (a1 : Int) → (a2 : Int) → (k : Bool → Option β) → Option β) (q_spec_l30Flip : (a0 : Int) → (a1 : Int) → (a2 : Int) → (a3 : List Int) → (a4 : Int) → (k : Int → Int → Int → List Int → Option β) → Option β) : Env β := ⟨[(23, VS23 N q_spec_IsKept), (58, VS58 N q_spec_l9In), (59, VS59 N q_spec_l30Flip)], [], [], []⟩
def E11 {β : Type} (N : Nat) : Env β := VE11 N (spec_IsKept N) (spec_l9In N) (spec_l30Flip N)
def BV_spec_FlipAt {β : Type} (N : Nat) (q_spec_IsKept : (a0 : Int) → (a1 : Int) → (a2 : Int) → (a3 : List Int) → (k : Bool → Option β) → Option β) (q_spec_l9In : (a0 : Int) → (a1 : Int) → (a2 : Int) → (k : Bool → Option β) → Option β) (q_spec_l30Flip : (a0 : Int) → (a1 : Int) → (a2 : Int) → (a3 : List Int) → (a4 : Int) → (k : Int → Int → Int → List Int → Option β) → Option β) (a0 : Int) (a1 : Int) (a2 : Int) (a3 : List Int) (a4 : Int) (k : Int → Int → Int → List Int → Bool → Option β) : Option β :=
q_spec_IsKept a0 a1 a2 a3 fun r10 =>
(cond (!r10)
(k 0 0 0 (([] : List Int)) false)
(q_spec_l9In a0 a1 a4 fun r11 =>
(cond (!r11)
(k 0 0 0 (([] : List Int)) false)
(q_spec_l30Flip a0 a1 a2 a3 a4 fun r12 r13 r14 r15 =>
k r12 r13 r14 r15 true))))
theorem t_spec_FlipAt {β : Type} (N : Nat) (a0 : Int) (a1 : Int) (a2 : Int) (a3 : List Int) (a4 : Int) (k : Int → Int → Int → List Int → Bool → Option β) : spec_FlipAt N a0 a1 a2 a3 a4 k = BV_spec_FlipAt N (spec_IsKept N) (spec_l9In N) (spec_l30Flip N) a0 a1 a2 a3 a4 k := by
  unfold spec_FlipAt BV_spec_FlipAt
  rfl
theorem ve11_0 {β : Type} (N : Nat) (q_spec_IsKept : (a0 : Int) → (a1 : Int) → (a2 : Int) → (a3 : List Int) → (k : Bool → Option β) → Option β) (q_spec_l9In : (a0 : Int) → (a1 : Int) → (a2 : Int) → (k : Bool → Option β) → Option β) (q_spec_l30Flip : (a0 : Int) → (a1 : Int) → (a2 : Int) → (a3 : List Int) → (a4 : Int) → (k : Int → Int → Int → List Int → Option β) → Option β)  (a0 : Int) (a1 : Int) (a2 : Int) (a3 : List Int) (a4 : Int) (K : TV → Option β) : evFn lay (VE11 N q_spec_IsKept q_spec_l9In q_spec_l30Flip) Try.f11 [.v (.agg [.int .i64 a0, .int .i64 a1, .int .i64 a2, .sl 3 (.ints .i64 a3)]), .v (.one (.int .i64 a4))] K = BV_spec_FlipAt N q_spec_IsKept q_spec_l9In q_spec_l30Flip a0 a1 a2 a3 a4 (fun z5 z6 z7 z8 z9 => K (.tup [.agg [.int .i64 z5, .int .i64 z6, .int .i64 z7, .sl 3 (.ints .i64 z8)], .one (.bool z9)])) := by kernel_rfl
theorem e11_0 {β : Type} (N : Nat)  (a0 : Int) (a1 : Int) (a2 : Int) (a3 : List Int) (a4 : Int) (K : TV → Option β) : evFn lay (E11 N) Try.f11 [.v (.agg [.int .i64 a0, .int .i64 a1, .int .i64 a2, .sl 3 (.ints .i64 a3)]), .v (.one (.int .i64 a4))] K = spec_FlipAt N a0 a1 a2 a3 a4 (fun z5 z6 z7 z8 z9 => K (.tup [.agg [.int .i64 z5, .int .i64 z6, .int .i64 z7, .sl 3 (.ints .i64 z8)], .one (.bool z9)])) := (ve11_0 N (spec_IsKept N) (spec_l9In N) (spec_l30Flip N) a0 a1 a2 a3 a4 K).trans (t_spec_FlipAt N a0 a1 a2 a3 a4 (fun z5 z6 z7 z8 z9 => K (.tup [.agg [.int .i64 z5, .int .i64 z6, .int .i64 z7, .sl 3 (.ints .i64 z8)], .one (.bool z9)]))).symm
theorem o11 {β : Type} (N : Nat) : SpecOK (β := β) Try.prog 11 (S11 N) := by
  refine spec_of lay_ok mixed (E := E11 N) (specs_loops (specs_cons (o23 N) (specs_cons (o58 N) (specs_cons (o59 N) specs_nil)))) muts_nil gs_nil Try.func11 (by kernel_rfl) 0 (by kernel_rfl) trivial fun args K r h => ?_
  unfold S11 VS11 at h
  split at h
  · exact (e11_0 N _ _ _ _ _ _).trans h
  · cases h
def VS12 {β : Type} (N : Nat) (q_spec_EqualKept : (a0 : Int) → (a1 : Int) → (a2 : Int) → (a3 : List Int) → (a4 : Int) → (a5 : Int) → (a6 : Int) → (a7 : List Int) → (k : Bool → Option β) → Option β) : Rv.Spec β := fun args K => match args with
  | [.v (.agg [.int .i64 a0, .int .i64 a1, .int .i64 a2, .sl 3 (.ints .i64 a3)]), .v (.agg [.int .i64 a4, .int .i64 a5, .int .i64 a6, .sl 3 (.ints .i64 a7)])] => q_spec_EqualKept a0 a1 a2 a3 a4 a5 a6 a7 (fun z8 => K (.v (.one (.bool z8))))
  | _ => none
def S12 {β : Type} (N : Nat) : Rv.Spec β := VS12 N (spec_EqualKept N)
def VE12 {β : Type} (N : Nat) (q_spec_l30Same : (a0 : List Int) → (a1 : List Int) → (k : Bool → Option β) → Option β) : Env β := ⟨[(60, VS60 N q_spec_l30Same)], [], [], []⟩
def E12 {β : Type} (N : Nat) : Env β := VE12 N (spec_l30Same N)
def BV_spec_EqualKept {β : Type} (N : Nat) (q_spec_l30Same : (a0 : List Int) → (a1 : List Int) → (k : Bool → Option β) → Option β) (a0 : Int) (a1 : Int) (a2 : Int) (a3 : List Int) (a4 : Int) (a5 : Int) (a6 : Int) (a7 : List Int) (k : Bool → Option β) : Option β :=
(cond (((a0 == a4) && (a1 == a5)))
((cond ((a2 == a6))
(q_spec_l30Same a3 a7 fun r9 =>
k r9)
(k false)))
(k false))
theorem t_spec_EqualKept {β : Type} (N : Nat) (a0 : Int) (a1 : Int) (a2 : Int) (a3 : List Int) (a4 : Int) (a5 : Int) (a6 : Int) (a7 : List Int) (k : Bool → Option β) : spec_EqualKept N a0 a1 a2 a3 a4 a5 a6 a7 k = BV_spec_EqualKept N (spec_l30Same N) a0 a1 a2 a3 a4 a5 a6 a7 k := by
  unfold spec_EqualKept BV_spec_EqualKept
  rfl
theorem ve12_0 {β : Type} (N : Nat) (q_spec_l30Same : (a0 : List Int) → (a1 : List Int) → (k : Bool → Option β) → Option β)  (a0 : Int) (a1 : Int) (a2 : Int) (a3 : List Int) (a4 : Int) (a5 : Int) (a6 : Int) (a7 : List Int) (K : TV → Option β) : evFn lay (VE12 N q_spec_l30Same) Try.f12 [.v (.agg [.int .i64 a0, .int .i64 a1, .int .i64 a2, .sl 3 (.ints .i64 a3)]), .v (.agg [.int .i64 a4, .int .i64 a5, .int .i64 a6, .sl 3 (.ints .i64 a7)])] K = BV_spec_EqualKept N q_spec_l30Same a0 a1 a2 a3 a4 a5 a6 a7 (fun z8 => K (.v (.one (.bool z8)))) := by kernel_rfl
theorem e12_0 {β : Type} (N : Nat)  (a0 : Int) (a1 : Int) (a2 : Int) (a3 : List Int) (a4 : Int) (a5 : Int) (a6 : Int) (a7 : List Int) (K : TV → Option β) : evFn lay (E12 N) Try.f12 [.v (.agg [.int .i64 a0, .int .i64 a1, .int .i64 a2, .sl 3 (.ints .i64 a3)]), .v (.agg [.int .i64 a4, .int .i64 a5, .int .i64 a6, .sl 3 (.ints .i64 a7)])] K = spec_EqualKept N a0 a1 a2 a3 a4 a5 a6 a7 (fun z8 => K (.v (.one (.bool z8)))) := (ve12_0 N (spec_l30Same N) a0 a1 a2 a3 a4 a5 a6 a7 K).trans (t_spec_EqualKept N a0 a1 a2 a3 a4 a5 a6 a7 (fun z8 => K (.v (.one (.bool z8))))).symm
theorem o12 {β : Type} (N : Nat) : SpecOK (β := β) Try.prog 12 (S12 N) := by
  refine spec_of lay_ok mixed (E := E12 N) (specs_loops (specs_cons (o60 N) specs_nil)) muts_nil gs_nil Try.func12 (by kernel_rfl) 0 (by kernel_rfl) trivial fun args K r h => ?_
  unfold S12 VS12 at h
  split at h
  · exact (e12_0 N _ _ _ _ _ _ _ _ _).trans h
  · cases h
def VS13 {β : Type} (N : Nat) (q_impl_NewKept : (a0 : Int) → (a1 : Int) → (k : Int → Int → Int → List Int → Bool → Option β) → Option β) : Rv.Spec β := fun args K => match args with
  | [.v (.agg [.int .i64 a0, .int .i64 a1])] => q_impl_NewKept a0 a1 (fun z2 z3 z4 z5 z6 => K (.tup [.agg [.int .i64 z2, .int .i64 z3, .int .i64 z4, .sl 3 (.ints .i64 z5)], .one (.bool z6)]))
  | _ => none
def S13 {β : Type} (N : Nat) : Rv.Spec β := VS13 N (impl_NewKept N)
def VE13 {β : Type} (N : Nat) (q_impl_IsTable : (a0 : Int) → (a1 : Int) → (k : Bool → Option β) → Option β) (q_impl_Table_kept : (a0 : Int) → (a1 : Int) → (k : Int → Int → Int → List Int → Option β) → Option β) : Env β := ⟨[(61, VS61 N q_impl_IsTable), (62, VS62 N q_impl_Table_kept)], [], [], []⟩
def E13 {β : Type} (N : Nat) : Env β := VE13 N (impl_IsTable N) (impl_Table_kept N)
def BV_impl_NewKept {β : Type} (N : Nat) (q_impl_IsTable : (a0 : Int) → (a1 : Int) → (k : Bool → Option β) → Option β) (q_impl_Table_kept : (a0 : Int) → (a1 : Int) → (k : Int → Int → Int → List Int → Option β) → Option β) (a0 : Int) (a1 : Int) (k : Int → Int → Int → List Int → Bool → Option β) : Option β :=
q_impl_IsTable a0 a1 fun r7 =>
(cond (!r7)
(k 0 0 0 (([] : List Int)) false)
(q_impl_Table_kept a0 a1 fun r8 r9 r10 r11 =>
k r8 r9 r10 r11 true))
theorem t_impl_NewKept {β : Type} (N : Nat) (a0 : Int) (a1 : Int) (k : Int → Int → Int → List Int → Bool → Option β) : impl_NewKept N a0 a1 k = BV_impl_NewKept N (impl_IsTable N) (impl_Table_kept N) a0 a1 k := by
  unfold impl_NewKept BV_impl_NewKept
  rfl
theorem ve13_0 {β : Type} (N : Nat) (q_impl_IsTable : (a0 : Int) → (a1 : Int) → (k : Bool → Option β) → Option β) (q_impl_Table_kept : (a0 : Int) → (a1 : Int) → (k : Int → Int → Int → List Int → Option β) → Option β)  (a0 : Int) (a1 : Int) (K : TV → Option β) : evFn lay (VE13 N q_impl_IsTable q_impl_Table_kept) Try.f13 [.v (.agg [.int .i64 a0, .int .i64 a1])] K = BV_impl_NewKept N q_impl_IsTable q_impl_Table_kept a0 a1 (fun z2 z3 z4 z5 z6 => K (.tup [.agg [.int .i64 z2, .int .i64 z3, .int .i64 z4, .sl 3 (.ints .i64 z5)], .one (.bool z6)])) := by kernel_rfl
theorem e13_0 {β : Type} (N : Nat)  (a0 : Int) (a1 : Int) (K : TV → Option β) : evFn lay (E13 N) Try.f13 [.v (.agg [.int .i64 a0, .int .i64 a1])] K = impl_NewKept N a0 a1 (fun z2 z3 z4 z5 z6 => K (.tup [.agg [.int .i64 z2, .int .i64 z3, .int .i64 z4, .sl 3 (.ints .i64 z5)], .one (.bool z6)])) := (ve13_0 N (impl_IsTable N) (impl_Table_kept N) a0 a1 K).trans (t_impl_NewKept N a0 a1 (fun z2 z3 z4 z5 z6 => K (.tup [.agg [.int .i64 z2, .int .i64 z3, .int .i64 z4, .sl 3 (.ints .i64 z5)], .one (.bool z6)]))).symm
theorem o13 {β : Type} (N : Nat) : SpecOK (β := β) Try.prog 13 (S13 N) := by
  refine spec_of lay_ok mixed (E := E13 N) (specs_loops (specs_cons (o61 N) (specs_cons (o62 N) specs_nil))) muts_nil gs_nil Try.func13 (by kernel_rfl) 0 (by kernel_rfl) trivial fun args K r h => ?_
  unfold S13 VS13 at h
  split at h
  · exact (e13_0 N _ _ _).trans h
  · cases h
def VS63 {β : Type} (N : Nat) (q_impl_areTables : (a0 : Int) → (a1 : Int) → (a2 : Int) → (a3 : Int) → (k : Bool → Option β) → Option β) : Rv.Spec β := fun args K => match args with
  | [.v (.agg [.int .i64 a0, .int .i64 a1]), .v (.agg [.int .i64 a2, .int .i64 a3])] => q_impl_areTables a0 a1 a2 a3 (fun z4 => K (.v (.one (.bool z4))))
  | _ => none
def S63 {β : Type} (N : Nat) : Rv.Spec β := VS63 N (impl_areTables N)
def VE63 {β : Type} (N : Nat) (q_impl_IsTable : (a0 : Int) → (a1 : Int) → (k : Bool → Option β) → Option β) : Env β := ⟨[(61, VS61 N q_impl_IsTable)], [], [], []⟩
def E63 {β : Type} (N : Nat) : Env β := VE63 N (impl_IsTable N)
def BV_impl_areTables {β : Type} (N : Nat) (q_impl_IsTable : (a0 : Int) → (a1 : Int) → (k : Bool → Option β) → Option β) (a0 : Int) (a1 : Int) (a2 : Int) (a3 : Int) (k : Bool → Option β) : Option β :=
q_impl_IsTable a0 a1 fun r5 =>
(cond r5
(q_impl_IsTable a2 a3 fun r6 =>
(cond r6
(k ((a0 == a2)))
(k false)))
(k false))
theorem t_impl_areTables {β : Type} (N : Nat) (a0 : Int) (a1 : Int) (a2 : Int) (a3 : Int) (k : Bool → Option β) : impl_areTables N a0 a1 a2 a3 k = BV_impl_areTables N (impl_IsTable N) a0 a1 a2 a3 k := by
  unfold impl_areTables BV_impl_areTables
  rfl
theorem ve63_0 {β : Type} (N : Nat) (q_impl_IsTable : (a0 : Int) → (a1 : Int) → (k : Bool → Option β) → Option β)  (a0 : Int) (a1 : Int) (a2 : Int) (a3 : Int) (K : TV → Option β) : evFn lay (VE63 N q_impl_IsTable) Try.f63 [.v (.agg [.int .i64 a0, .int .i64 a1]), .v (.agg [.int .i64 a2, .int .i64 a3])] K = BV_impl_areTables N q_impl_IsTable a0 a1 a2 a3 (fun z4 => K (.v (.one (.bool z4)))) := by kernel_rfl
theorem e63_0 {β : Type} (N : Nat)  (a0 : Int) (a1 : Int) (a2 : Int) (a3 : Int) (K : TV → Option β) : evFn lay (E63 N) Try.f63 [.v (.agg [.int .i64 a0, .int .i64 a1]), .v (.agg [.int .i64 a2, .int .i64 a3])] K = impl_areTables N a0 a1 a2 a3 (fun z4 => K (.v (.one (.bool z4)))) := (ve63_0 N (impl_IsTable N) a0 a1 a2 a3 K).trans (t_impl_areTables N a0 a1 a2 a3 (fun z4 => K (.v (.one (.bool z4))))).symm
theorem o63 {β : Type} (N : Nat) : SpecOK (β := β) Try.prog 63 (S63 N) := by
  refine spec_of lay_ok mixed (E := E63 N) (specs_loops (specs_cons (o61 N) specs_nil)) muts_nil gs_nil Try.func63 (by kernel_rfl) 0 (by kernel_rfl) trivial fun args K r h => ?_
  unfold S63 VS63 at h
  split at h
  · exact (e63_0 N _ _ _ _ _).trans h
  · cases h
def VS15 {β : Type} (N : Nat) (q_impl_DistanceBetween : (a0 : Int) → (a1 : Int) → (a2 : Int) → (a3 : Int) → (k : Int → Option β) → Option β) : Rv.Spec β := fun args K => match args with
  | [.v (.agg [.int .i64 a0, .int .i64 a1]), .v (.agg [.int .i64 a2, .int .i64 a3])] => q_impl_DistanceBetween a0 a1 a2 a3 (fun z4 => K (.v (.one (.int .i64 z4))))
  | _ => none
def S15 {β : Type} (N : Nat) : Rv.Spec β := VS15 N (impl_DistanceBetween N)
def VE15 {β : Type} (N : Nat) (q_impl_areTables : (a0 : Int) → (a1 : Int) → (a2 : Int) → (a3 : Int) → (k : Bool → Option β) → Option β) (q_impl_ones : (a0 : Int) → (k : Int → Option β) → Option β) : Env β := ⟨[(63, VS63 N q_impl_areTables), (64, VS64 N q_impl_ones)], [], [], []⟩
def E15 {β : Type} (N : Nat) : Env β := VE15 N (impl_areTables N) (impl_ones N)
def BV_impl_DistanceBetween {β : Type} (N : Nat) (q_impl_areTables : (a0 : Int) → (a1 : Int) → (a2 : Int) → (a3 : Int) → (k : Bool → Option β) → Option β) (q_impl_ones : (a0 : Int) → (k : Int → Option β) → Option β) (a0 : Int) (a1 : Int) (a2 : Int) (a3 : Int) (k : Int → Option β) : Option β :=
q_impl_areTables a0 a1 a2 a3 fun r5 =>
(cond (!r5)
(k (-1))
(q_impl_ones ((bits .xor .i64 a1 a3)) fun r6 =>
k r6))
theorem t_impl_DistanceBetween {β : Type} (N : Nat) (a0 : Int) (a1 : Int) (a2 : Int) (a3 : Int) (k : Int → Option β) : impl_DistanceBetween N a0 a1 a2 a3 k = BV_impl_DistanceBetween N (impl_areTables N) (impl_ones N) a0 a1 a2 a3 k := by
  unfold impl_DistanceBetween BV_impl_DistanceBetween
  rfl
theorem ve15_0 {β : Type} (N : Nat) (q_impl_areTables : (a0 : Int) → (a1 : Int) → (a2 : Int) → (a3 : Int) → (k : Bool → Option β) → Option β) (q_impl_ones : (a0 : Int) → (k : Int → Option β) → Option β)  (a0 : Int) (a1 : Int) (a2 : Int) (a3 : Int) (K : TV → Option β) : evFn lay (VE15 N q_impl_areTables q_impl_ones) Try.f15 [.v (.agg [.int .i64 a0, .int .i64 a1]), .v (.agg [.int .i64 a2, .int .i64 a3])] K = BV_impl_DistanceBetween N q_impl_areTables q_impl_ones a0 a1 a2 a3 (fun z4 => K (.v (.one (.int .i64 z4)))) := by kernel_rfl
theorem e15_0 {β : Type} (N : Nat)  (a0 : Int) (a1 : Int) (a2 : Int) (a3 : Int) (K : TV → Option β) : evFn lay (E15 N) Try.f15 [.v (.agg [.int .i64 a0, .int .i64 a1]), .v (.agg [.int .i64 a2, .int .i64 a3])] K = impl_DistanceBetween N a0 a1 a2 a3 (fun z4 => K (.v (.one (.int .i64 z4)))) := (ve15_0 N (impl_areTables N) (impl_ones N) a0 a1 a2 a3 K).trans (t_impl_DistanceBetween N a0 a1 a2 a3 (fun z4 => K (.v (.one (.int .i64 z4))))).symm
theorem o15 {β : Type} (N : Nat) : SpecOK (β := β) Try.prog 15 (S15 N) := by
  refine spec_of lay_ok mixed (E := E15 N) (specs_loops (specs_cons (o63 N) (specs_cons (o64 N) specs_nil))) muts_nil gs_nil Try.func15 (by kernel_rfl) 0 (by kernel_rfl) trivial fun args K r h => ?_
  unfold S15 VS15 at h
  split at h
  · exact (e15_0 N _ _ _ _ _).trans h
  · cases h
def VS65 {β : Type} (N : Nat) (q_spec_l1Once_g0 : (a0 : Int) → (a1 : List Int) → (a2 : Int) → (a3 : Int) → (k0 : Bool → List Int → Int → Int → Option β) → Option β) : GSpec β := fun args bl K => match args, bl with
  | [.v (.one (.ptr 0 0)), .v (.one (.int .i64 a0))], [.pcells 0 96 [.sl 5 (.ints .u8 a1), .int .i64 a2, .int .i64 a3]] => q_spec_l1Once_g0 a0 a1 a2 a3 (fun y0 y1 y2 y3 => K (.v (.one (.bool y0))) [.pcells 0 96 [.sl 5 (.ints .u8 y1), .int .i64 y2, .int .i64 y3]])
  | _, _ => none
def S65 {β : Type} (N : Nat) : GSpec β := VS65 N (spec_l1Once_g0 N)
def VE65 {β : Type} (N : Nat) (q_spec_l1Below_g0 : (a0 : Int) → (a1 : List Int) → (a2 : Int) → (a3 : Int) → (k0 : Int → List Int → Int → Int → Option β) → Option β) : Env β := ⟨[], [], [], [(57, VS57 N q_spec_l1Below_g0)]⟩
def E65 {β : Type} (N : Nat) : Env β := VE65 N (spec_l1Below_g0 N)
def BV_spec_l1Once_g0 {β : Type} (N : Nat) (q_spec_l1Below_g0 : (a0 : Int) → (a1 : List Int) → (a2 : Int) → (a3 : Int) → (k0 : Int → List Int → Int → Int → Option β) → Option β) (a0 : Int) (a1 : List Int) (a2 : Int) (a3 : Int) (k0 : Bool → List Int → Int → Int → Option β) : Option β :=
q_spec_l1Below_g0 a0 a1 a2 a3 (fun r108_0 r108_1 r108_2 r108_3 =>
k0 ((r108_0 == 0)) r108_1 r108_2 r108_3)
theorem t_spec_l1Once_g0 {β : Type} (N : Nat) (a0 : Int) (a1 : List Int) (a2 : Int) (a3 : Int) (k0 : Bool → List Int → Int → Int → Option β) : spec_l1Once_g0 N a0 a1 a2 a3 k0 = BV_spec_l1Once_g0 N (spec_l1Below_g0 N) a0 a1 a2 a3 k0 := by
  unfold spec_l1Once_g0 BV_spec_l1Once_g0
  rfl
theorem ve65_0 {β : Type} (N : Nat) (q_spec_l1Below_g0 : (a0 : Int) → (a1 : List Int) → (a2 : Int) → (a3 : Int) → (k0 : Int → List Int → Int → Int → Option β) → Option β) (a0 : Int) (a1 : List Int) (a2 : Int) (a3 : Int) (K : TV → List Blk → Option β) : evFnG lay (VE65 N q_spec_l1Below_g0) Try.f65 [.v (.one (.ptr 0 0)), .v (.one (.int .i64 a0))] [.pcells 0 96 [.sl 5 (.ints .u8 a1), .int .i64 a2, .int .i64 a3]] K = BV_spec_l1Once_g0 N q_spec_l1Below_g0 a0 a1 a2 a3 (fun y0 y1 y2 y3 => K (.v (.one (.bool y0))) [.pcells 0 96 [.sl 5 (.ints .u8 y1), .int .i64 y2, .int .i64 y3]]) := by kernel_rfl
theorem e65_0 {β : Type} (N : Nat) (a0 : Int) (a1 : List Int) (a2 : Int) (a3 : Int) (K : TV → List Blk → Option β) : evFnG lay (E65 N) Try.f65 [.v (.one (.ptr 0 0)), .v (.one (.int .i64 a0))] [.pcells 0 96 [.sl 5 (.ints .u8 a1), .int .i64 a2, .int .i64 a3]] K = spec_l1Once_g0 N a0 a1 a2 a3 (fun y0 y1 y2 y3 => K (.v (.one (.bool y0))) [.pcells 0 96 [.sl 5 (.ints .u8 y1), .int .i64 y2, .int .i64 y3]]) := (ve65_0 N (spec_l1Below_g0 N) a0 a1 a2 a3 K).trans (t_spec_l1Once_g0 N a0 a1 a2 a3 (fun y0 y1 y2 y3 => K (.v (.one (.bool y0))) [.pcells 0 96 [.sl 5 (.ints .u8 y1), .int .i64 y2, .int .i64 y3]])).symm
theorem o65 {β : Type} (N : Nat) : GOK (β := β) Try.prog 65 (S65 N) := by
  refine g_of lay_ok mixed (E := E65 N) (specs_loops specs_nil) muts_nil (gs_cons (o57 N) gs_nil) Try.func65 (by kernel_rfl) 0 (by kernel_rfl) trivial fun args bl K r h => ?_
  unfold S65 VS65 at h
  split at h
  · exact (e65_0 N _ _ _ _ _).trans h
  · cases h
end Go.Proofs.Ytdkjnadhgdneaaa
