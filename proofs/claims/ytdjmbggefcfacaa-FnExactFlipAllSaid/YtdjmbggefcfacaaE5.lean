/- The functions that the claims reach answer as their texts do. -/
import Derived.Test.YtdjmbggefcfacaaE4
namespace Go.Proofs.Ytdjmbggefcfacaa
open Go.Rv
set_option maxRecDepth 100000
set_option maxHeartbeats 2000000
set_option linter.unusedVariables false
def VS34 {β : Type} (N : Nat) (q_spec_FlipAll : (a0 : Int) → (a1 : Int) → (a2 : Int) → (a3 : List Int) → (a4 : List Int) → (k : Int → Int → Int → List Int → Bool → Option β) → Option β) : Rv.Spec β := fun args K => match args with
  | [.v (.agg [.int .i64 a0, .int .i64 a1, .int .i64 a2, .sl 3 (.ints .i64 a3)]), .v (.one (.sl 3 (.ints .i64 a4)))] => q_spec_FlipAll a0 a1 a2 a3 a4 (fun z5 z6 z7 z8 z9 => K (.tup [.agg [.int .i64 z5, .int .i64 z6, .int .i64 z7, .sl 3 (.ints .i64 z8)], .one (.bool z9)]))
  | _ => none
def S34 {β : Type} (N : Nat) : Rv.Spec β := VS34 N (spec_FlipAll N)
def h34_0_0  (v0 : List Int) (v1 : Int) (v2 : Int) (v3 : Int) (v4 : Int) (v5 : List Int) (v6 : Int) (v7 : Int) (v8 : Int) (v9 : Int) (v10 : Int) (v11 : Int) (v12 : List Int) (v13 : List Int) : St := ⟨.v (.one .und) :: .v (.one (.sl 3 (.ints .i64 v0))) :: .v (.one (.ptr 0 0)) :: .v (.one .und) :: .v (.one (.ptr 1 0)) :: .v (.one .und) :: .v (.one (.ptr 2 0)) :: .v (.one (.int .i64 v1)) :: .v (.one .und) :: .v (.one .und) :: .v (.one .und) :: .v (.one .und) :: .v (.one .und) :: .v (.one .und) :: .v (.one .und) :: .v (.one .und) :: .v (.one .und) :: .v (.one .und) :: .v (.one .und) :: .v (.one .und) :: .v (.one .und) :: .v (.one .und) :: .v (.one .und) :: .v (.one .und) :: .v (.one .und) :: .v (.one .und) :: .v (.one .und) :: .v (.one .und) :: .v (.one .und) :: .v (.one .und) :: .v (.one .und) :: .v (.one .und) :: .v (.one .und) :: .v (.one .und) :: .v (.one .und) :: .v (.one .und) :: .v (.one .und) :: .v (.one .und) :: .v (.one .und) :: .v (.one .und) :: .v (.one .und) :: .v (.one .und) :: .v (.one .und) :: .v (.one .und) :: .v (.one .und) :: .v (.one .und) :: .v (.one .und) :: .v (.one .und) :: [], [.cells 27 [.int .i64 v2, .int .i64 v3, .int .i64 v4, .sl 3 (.ints .i64 v5)], .cells 27 [.int .i64 v6, .int .i64 v7, .int .i64 v8, .row 3], .cells 27 [.int .i64 v9, .int .i64 v10, .int .i64 v11, .row 4], .row 3 (.ints .i64 v12), .row 3 (.ints .i64 v13)]⟩
def x34_0_0_k0  (y0 : Bool) (y1 : Int) (y2 : Int) (y3 : Int) (y4 : List Int) : St := ⟨.v (.one .und) :: .v (.one .und) :: .v (.one .und) :: .v (.one .und) :: .v (.one (.ptr 0 0)) :: .v (.one (.bool y0)) :: .v (.one .und) :: .v (.one .und) :: .v (.one .und) :: .v (.one .und) :: .v (.one .und) :: .v (.one .und) :: .v (.one .und) :: .v (.one .und) :: .v (.one .und) :: .v (.one .und) :: .v (.one .und) :: .v (.one .und) :: .v (.one .und) :: .v (.one .und) :: .v (.one .und) :: .v (.one .und) :: .v (.one .und) :: .v (.one .und) :: .v (.one .und) :: .v (.one .und) :: .v (.one .und) :: .v (.one .und) :: .v (.one .und) :: .v (.one .und) :: .v (.one .und) :: .v (.one .und) :: .v (.one .und) :: .v (.one .und) :: .v (.one .und) :: .v (.one .und) :: .v (.one .und) :: .v (.one .und) :: .v (.one .und) :: .v (.one .und) :: .v (.one .und) :: .v (.one .und) :: .v (.one .und) :: .v (.one .und) :: .v (.one .und) :: .v (.one .und) :: .v (.one .und) :: .v (.one .und) :: [], [.cells 27 [.int .i64 y1, .int .i64 y2, .int .i64 y3, .row 1], .row 3 (.ints .i64 y4)]⟩
def x34_0_0_k1  (y0 : Int) (y1 : Int) (y2 : Int) (y3 : Int) (y4 : Int) (y5 : Int) (y6 : List Int) (y7 : List Int) : St := ⟨.v (.one .und) :: .v (.one .und) :: .v (.one .und) :: .v (.one .und) :: .v (.one (.ptr 0 0)) :: .v (.one .und) :: .v (.one (.ptr 1 0)) :: .v (.one .und) :: .v (.one .und) :: .v (.one .und) :: .v (.one .und) :: .v (.one .und) :: .v (.one .und) :: .v (.one .und) :: .v (.one .und) :: .v (.one .und) :: .v (.one .und) :: .v (.one .und) :: .v (.one .und) :: .v (.one .und) :: .v (.one .und) :: .v (.one .und) :: .v (.one .und) :: .v (.one .und) :: .v (.one .und) :: .v (.one .und) :: .v (.one .und) :: .v (.one .und) :: .v (.one .und) :: .v (.one .und) :: .v (.one .und) :: .v (.one .und) :: .v (.one .und) :: .v (.one .und) :: .v (.one .und) :: .v (.one .und) :: .v (.one .und) :: .v (.one .und) :: .v (.one .und) :: .v (.one .und) :: .v (.one .und) :: .v (.one .und) :: .v (.one .und) :: .v (.one .und) :: .v (.one .und) :: .v (.one .und) :: .v (.one .und) :: .v (.one .und) :: [], [.cells 27 [.int .i64 y0, .int .i64 y1, .int .i64 y2, .row 2], .cells 27 [.int .i64 y3, .int .i64 y4, .int .i64 y5, .row 3], .row 3 (.ints .i64 y6), .row 3 (.ints .i64 y7)]⟩
theorem fl34_0_0 (s : St) : refSt (h34_0_0 [] 0 0 0 0 [] 0 0 0 0 0 0 [] []) s = h34_0_0 (rInts (rowV (oneA (vT (nx tund s.tmps 1))))) (intS (oneA (vT (nx tund s.tmps 7)))) (intS (nx .und (cellsB (nx .dead s.blks 0)) 0)) (intS (nx .und (cellsB (nx .dead s.blks 0)) 1)) (intS (nx .und (cellsB (nx .dead s.blks 0)) 2)) (rInts (rowV (nx .und (cellsB (nx .dead s.blks 0)) 3))) (intS (nx .und (cellsB (nx .dead s.blks 1)) 0)) (intS (nx .und (cellsB (nx .dead s.blks 1)) 1)) (intS (nx .und (cellsB (nx .dead s.blks 1)) 2)) (intS (nx .und (cellsB (nx .dead s.blks 2)) 0)) (intS (nx .und (cellsB (nx .dead s.blks 2)) 1)) (intS (nx .und (cellsB (nx .dead s.blks 2)) 2)) (rInts (rowB_ (nx .dead s.blks 3))) (rInts (rowB_ (nx .dead s.blks 4))) := by kernel_rfl
def VLS34_0 {β : Type} (N : Nat) (q_spec_FlipAll_l0 : Nat → List Int → Int → Int → Int → Int → List Int → Int → Int → Int → Int → Int → Int → List Int → List Int → (Bool → Int → Int → Int → List Int → Option β) → (Int → Int → Int → Int → Int → Int → List Int → List Int → Option β) → Option β) : LSpec β := fun s K => cond (shpSt (h34_0_0 [] 0 0 0 0 [] 0 0 0 0 0 0 [] []) s) ((fun (v0 : List Int) (v1 : Int) (v2 : Int) (v3 : Int) (v4 : Int) (v5 : List Int) (v6 : Int) (v7 : Int) (v8 : Int) (v9 : Int) (v10 : Int) (v11 : Int) (v12 : List Int) (v13 : List Int) => q_spec_FlipAll_l0  N v0 v1 v2 v3 v4 v5 v6 v7 v8 v9 v10 v11 v12 v13 (fun y0 y1 y2 y3 y4 => K .ret (x34_0_0_k0  y0 y1 y2 y3 y4)) (fun y0 y1 y2 y3 y4 y5 y6 y7 => K (.exit 0) (x34_0_0_k1  y0 y1 y2 y3 y4 y5 y6 y7))) (rInts (rowV (oneA (vT (nx tund s.tmps 1))))) (intS (oneA (vT (nx tund s.tmps 7)))) (intS (nx .und (cellsB (nx .dead s.blks 0)) 0)) (intS (nx .und (cellsB (nx .dead s.blks 0)) 1)) (intS (nx .und (cellsB (nx .dead s.blks 0)) 2)) (rInts (rowV (nx .und (cellsB (nx .dead s.blks 0)) 3))) (intS (nx .und (cellsB (nx .dead s.blks 1)) 0)) (intS (nx .und (cellsB (nx .dead s.blks 1)) 1)) (intS (nx .und (cellsB (nx .dead s.blks 1)) 2)) (intS (nx .und (cellsB (nx .dead s.blks 2)) 0)) (intS (nx .und (cellsB (nx .dead s.blks 2)) 1)) (intS (nx .und (cellsB (nx .dead s.blks 2)) 2)) (rInts (rowB_ (nx .dead s.blks 3))) (rInts (rowB_ (nx .dead s.blks 4)))) (none)
def LS34_0 {β : Type} (N : Nat) : LSpec β := VLS34_0 N (spec_FlipAll_l0 N)
def VE34 {β : Type} (N : Nat) (q_spec_IsKept : (a0 : Int) → (a1 : Int) → (a2 : Int) → (a3 : List Int) → (k : Bool → Option β) → Option β) (q_spec_l9In : (a0 : Int) → (a1 : Int) → (a2 : Int) → (k : Bool → Option β) → Option β) (q_spec_l30Flip : (a0 : Int) → (a1 : Int) → (a2 : Int) → (a3 : List Int) → (a4 : Int) → (k : Int → Int → Int → List Int → Option β) → Option β) (q_spec_FlipAll_l0 : Nat → List Int → Int → Int → Int → Int → List Int → Int → Int → Int → Int → Int → Int → List Int → List Int → (Bool → Int → Int → Int → List Int → Option β) → (Int → Int → Int → Int → Int → Int → List Int → List Int → Option β) → Option β) : Env β := ⟨[(24, VS24 N q_spec_IsKept), (59, VS59 N q_spec_l9In), (60, VS60 N q_spec_l30Flip)], [], [(0, VLS34_0 N q_spec_FlipAll_l0)], []⟩
def E34 {β : Type} (N : Nat) : Env β := VE34 N (spec_IsKept N) (spec_l9In N) (spec_l30Flip N) (spec_FlipAll_l0 N)
def BV_spec_FlipAll_l0b {β : Type} (N : Nat) (q_spec_l9In : (a0 : Int) → (a1 : Int) → (a2 : Int) → (k : Bool → Option β) → Option β) (q_spec_l30Flip : (a0 : Int) → (a1 : Int) → (a2 : Int) → (a3 : List Int) → (a4 : Int) → (k : Int → Int → Int → List Int → Option β) → Option β)  (v0 : List Int) (v1 : Int) (v2 : Int) (v3 : Int) (v4 : Int) (v5 : List Int) (v6 : Int) (v7 : Int) (v8 : Int) (v9 : Int) (v10 : Int) (v11 : Int) (v12 : List Int) (v13 : List Int) (rec_ : List Int → Int → Int → Int → Int → List Int → Int → Int → Int → Int → Int → Int → List Int → List Int → Option β) (k0 : Bool → Int → Int → Int → List Int → Option β) (k1 : Int → Int → Int → Int → Int → Int → List Int → List Int → Option β) : Option β :=
(cond ((decide (v1 < (v0.length : Int))))
((gd ((decide (0 ≤ v1)))
((gd ((decide (v1 < (v0.length : Int))))
(q_spec_l9In v2 v3 ((rd 0 v0 v1)) fun r11 =>
(cond (!r11)
(k0 false 0 0 0 (([] : List Int)))
((gd ((decide (0 ≤ v1)))
((gd ((decide (v1 < (v0.length : Int))))
(q_spec_l30Flip v9 v10 v11 v13 ((rd 0 v0 v1)) fun r12 r13 r14 r15 =>
rec_ v0 ((w64 (v1 + 1))) v2 v3 v4 v5 v6 v7 v8 r12 r13 r14 v12 r15)))))))))))
(k1 v6 v7 v8 v9 v10 v11 v12 v13))
theorem t_spec_FlipAll_l0b {β : Type} (N : Nat)  (v0 : List Int) (v1 : Int) (v2 : Int) (v3 : Int) (v4 : Int) (v5 : List Int) (v6 : Int) (v7 : Int) (v8 : Int) (v9 : Int) (v10 : Int) (v11 : Int) (v12 : List Int) (v13 : List Int) (rec_ : List Int → Int → Int → Int → Int → List Int → Int → Int → Int → Int → Int → Int → List Int → List Int → Option β) (k0 : Bool → Int → Int → Int → List Int → Option β) (k1 : Int → Int → Int → Int → Int → Int → List Int → List Int → Option β) : spec_FlipAll_l0b N v0 v1 v2 v3 v4 v5 v6 v7 v8 v9 v10 v11 v12 v13 rec_ k0 k1 = BV_spec_FlipAll_l0b N (spec_l9In N) (spec_l30Flip N) v0 v1 v2 v3 v4 v5 v6 v7 v8 v9 v10 v11 v12 v13 rec_ k0 k1 := by
  unfold spec_FlipAll_l0b BV_spec_FlipAll_l0b
  rfl
theorem vst34_0_0 {β : Type} (N : Nat) (q_spec_IsKept : (a0 : Int) → (a1 : Int) → (a2 : Int) → (a3 : List Int) → (k : Bool → Option β) → Option β) (q_spec_l9In : (a0 : Int) → (a1 : Int) → (a2 : Int) → (k : Bool → Option β) → Option β) (q_spec_l30Flip : (a0 : Int) → (a1 : Int) → (a2 : Int) → (a3 : List Int) → (a4 : Int) → (k : Int → Int → Int → List Int → Option β) → Option β) (q_spec_FlipAll_l0 : Nat → List Int → Int → Int → Int → Int → List Int → Int → Int → Int → Int → Int → Int → List Int → List Int → (Bool → Int → Int → Int → List Int → Option β) → (Int → Int → Int → Int → Int → Int → List Int → List Int → Option β) → Option β)  (v0 : List Int) (v1 : Int) (v2 : Int) (v3 : Int) (v4 : Int) (v5 : List Int) (v6 : Int) (v7 : Int) (v8 : Int) (v9 : Int) (v10 : Int) (v11 : Int) (v12 : List Int) (v13 : List Int) (rec_ : St → Option β) (K : Exit → St → Option β) :
    ev lay (VE34 N q_spec_IsKept q_spec_l9In q_spec_l30Flip q_spec_FlipAll_l0) (retMask Try.f34) (lp Try.f34 0).body (lp Try.f34 0).ex ((lp Try.f34 0).lv (retMask Try.f34)) (h34_0_0  v0 v1 v2 v3 v4 v5 v6 v7 v8 v9 v10 v11 v12 v13) (nextR (fun s' => rec_ (s'.tidy ((lp Try.f34 0).lv (retMask Try.f34)))) K) = BV_spec_FlipAll_l0b N q_spec_l9In q_spec_l30Flip  v0 v1 v2 v3 v4 v5 v6 v7 v8 v9 v10 v11 v12 v13 (fun v0 v1 v2 v3 v4 v5 v6 v7 v8 v9 v10 v11 v12 v13 => rec_ (h34_0_0  v0 v1 v2 v3 v4 v5 v6 v7 v8 v9 v10 v11 v12 v13)) (fun y0 y1 y2 y3 y4 => K .ret (x34_0_0_k0  y0 y1 y2 y3 y4)) (fun y0 y1 y2 y3 y4 y5 y6 y7 => K (.exit 0) (x34_0_0_k1  y0 y1 y2 y3 y4 y5 y6 y7)) := by kernel_rfl
theorem st34_0_0 {β : Type} (N : Nat)  (v0 : List Int) (v1 : Int) (v2 : Int) (v3 : Int) (v4 : Int) (v5 : List Int) (v6 : Int) (v7 : Int) (v8 : Int) (v9 : Int) (v10 : Int) (v11 : Int) (v12 : List Int) (v13 : List Int) (rec_ : St → Option β) (K : Exit → St → Option β) :
    ev lay (E34 N) (retMask Try.f34) (lp Try.f34 0).body (lp Try.f34 0).ex ((lp Try.f34 0).lv (retMask Try.f34)) (h34_0_0  v0 v1 v2 v3 v4 v5 v6 v7 v8 v9 v10 v11 v12 v13) (nextR (fun s' => rec_ (s'.tidy ((lp Try.f34 0).lv (retMask Try.f34)))) K) = spec_FlipAll_l0b N  v0 v1 v2 v3 v4 v5 v6 v7 v8 v9 v10 v11 v12 v13 (fun v0 v1 v2 v3 v4 v5 v6 v7 v8 v9 v10 v11 v12 v13 => rec_ (h34_0_0  v0 v1 v2 v3 v4 v5 v6 v7 v8 v9 v10 v11 v12 v13)) (fun y0 y1 y2 y3 y4 => K .ret (x34_0_0_k0  y0 y1 y2 y3 y4)) (fun y0 y1 y2 y3 y4 y5 y6 y7 => K (.exit 0) (x34_0_0_k1  y0 y1 y2 y3 y4 y5 y6 y7)) := (vst34_0_0 N (spec_IsKept N) (spec_l9In N) (spec_l30Flip N) (spec_FlipAll_l0 N) v0 v1 v2 v3 v4 v5 v6 v7 v8 v9 v10 v11 v12 v13 rec_ K).trans (t_spec_FlipAll_l0b N  v0 v1 v2 v3 v4 v5 v6 v7 v8 v9 v10 v11 v12 v13 (fun v0 v1 v2 v3 v4 v5 v6 v7 v8 v9 v10 v11 v12 v13 => rec_ (h34_0_0  v0 v1 v2 v3 v4 v5 v6 v7 v8 v9 v10 v11 v12 v13)) (fun y0 y1 y2 y3 y4 => K .ret (x34_0_0_k0  y0 y1 y2 y3 y4)) (fun y0 y1 y2 y3 y4 y5 y6 y7 => K (.exit 0) (x34_0_0_k1  y0 y1 y2 y3 y4 y5 y6 y7))).symm
theorem ro34_0_0 {β : Type} (N : Nat)  (K : Exit → St → Option β) : ∀ (F : Nat) (v0 : List Int) (v1 : Int) (v2 : Int) (v3 : Int) (v4 : Int) (v5 : List Int) (v6 : Int) (v7 : Int) (v8 : Int) (v9 : Int) (v10 : Int) (v11 : Int) (v12 : List Int) (v13 : List Int), (lp Try.f34 0).rounds lay (E34 N) (retMask Try.f34) F (h34_0_0  v0 v1 v2 v3 v4 v5 v6 v7 v8 v9 v10 v11 v12 v13) K = spec_FlipAll_l0 N  F v0 v1 v2 v3 v4 v5 v6 v7 v8 v9 v10 v11 v12 v13 (fun y0 y1 y2 y3 y4 => K .ret (x34_0_0_k0  y0 y1 y2 y3 y4)) (fun y0 y1 y2 y3 y4 y5 y6 y7 => K (.exit 0) (x34_0_0_k1  y0 y1 y2 y3 y4 y5 y6 y7)) := by
  intro F
  induction F with
  | zero => intros; rfl
  | succ F ih =>
    intros
    rw [rounds_next]
    refine (st34_0_0 N  _ _ _ _ _ _ _ _ _ _ _ _ _ _ (fun s => (lp Try.f34 0).rounds lay (E34 N) (retMask Try.f34) F s K) K).trans ?_
    simp only [ih]
    rfl
theorem lk34_0 {β : Type} (N : Nat) : lookL (E34 (β := β) N).loops (lp Try.f34 0).id = LS34_0 N := by kernel_rfl
theorem rk34_0 {β : Type} (N : Nat) : RoundsOK lay (E34 (β := β) N) (retMask Try.f34) (lp Try.f34 0) := by
  intro s K r h
  rw [lk34_0] at h
  unfold LS34_0 VLS34_0 at h
  cases hb : shpSt (h34_0_0 [] 0 0 0 0 [] 0 0 0 0 0 0 [] []) s with
  | true =>
    rw [hb, cond_true] at h
    exact ⟨N, by rw [← shpSt_ref hb, fl34_0_0 s]; exact (ro34_0_0 N  K N (rInts (rowV (oneA (vT (nx tund s.tmps 1))))) (intS (oneA (vT (nx tund s.tmps 7)))) (intS (nx .und (cellsB (nx .dead s.blks 0)) 0)) (intS (nx .und (cellsB (nx .dead s.blks 0)) 1)) (intS (nx .und (cellsB (nx .dead s.blks 0)) 2)) (rInts (rowV (nx .und (cellsB (nx .dead s.blks 0)) 3))) (intS (nx .und (cellsB (nx .dead s.blks 1)) 0)) (intS (nx .und (cellsB (nx .dead s.blks 1)) 1)) (intS (nx .und (cellsB (nx .dead s.blks 1)) 2)) (intS (nx .und (cellsB (nx .dead s.blks 2)) 0)) (intS (nx .und (cellsB (nx .dead s.blks 2)) 1)) (intS (nx .und (cellsB (nx .dead s.blks 2)) 2)) (rInts (rowB_ (nx .dead s.blks 3))) (rInts (rowB_ (nx .dead s.blks 4)))).trans h⟩
  | false =>
  rw [hb, cond_false] at h
  clear hb
  cases h
def BV_spec_FlipAll {β : Type} (N : Nat) (q_spec_IsKept : (a0 : Int) → (a1 : Int) → (a2 : Int) → (a3 : List Int) → (k : Bool → Option β) → Option β) (q_spec_FlipAll_l0 : Nat → List Int → Int → Int → Int → Int → List Int → Int → Int → Int → Int → Int → Int → List Int → List Int → (Bool → Int → Int → Int → List Int → Option β) → (Int → Int → Int → Int → Int → Int → List Int → List Int → Option β) → Option β) (a0 : Int) (a1 : Int) (a2 : Int) (a3 : List Int) (a4 : List Int) (k : Int → Int → Int → List Int → Bool → Option β) : Option β :=
q_spec_IsKept a0 a1 a2 a3 fun r10 =>
(cond (!r10)
(k 0 0 0 (([] : List Int)) false)
((cond ((decide ((a4.length : Int) > 40)))
(k 0 0 0 (([] : List Int)) false)
((gd ((decide (((([] : List Int)).length + a3.length) * 8 ≤ 140737488355328)))
((gd ((decide (((([] : List Int)).length + a3.length) * 8 ≤ 140737488355328)))
((spec_FlipAll_s3 a4 a0 a1 a2 a3 0 0 0 a0 a1 a2 (([] : List Int)) ((([] : List Int) ++ a3))
((gd ((decide (((([] : List Int)).length + a3.length) * 8 ≤ 140737488355328)))
((spec_FlipAll_s3 a4 a0 a1 a2 a3 0 0 0 a0 a1 a2 (([] : List Int)) ((([] : List Int) ++ a3))
(q_spec_FlipAll_l0  N a4 0 a0 a1 a2 a3 0 0 0 a0 a1 a2 (([] : List Int)) ((([] : List Int) ++ a3)) (fun e16_0 e16_1 e16_2 e16_3 e16_4 =>
k e16_1 e16_2 e16_3 e16_4 e16_0) (fun e17_0 e17_1 e17_2 e17_3 e17_4 e17_5 e17_6 e17_7 =>
k e17_3 e17_4 e17_5 e17_7 true)))))))))))))))
theorem t_spec_FlipAll {β : Type} (N : Nat) (a0 : Int) (a1 : Int) (a2 : Int) (a3 : List Int) (a4 : List Int) (k : Int → Int → Int → List Int → Bool → Option β) : spec_FlipAll N a0 a1 a2 a3 a4 k = BV_spec_FlipAll N (spec_IsKept N) (spec_FlipAll_l0 N) a0 a1 a2 a3 a4 k := by
  unfold spec_FlipAll BV_spec_FlipAll
  rfl
theorem ve34_0 {β : Type} (N : Nat) (q_spec_IsKept : (a0 : Int) → (a1 : Int) → (a2 : Int) → (a3 : List Int) → (k : Bool → Option β) → Option β) (q_spec_l9In : (a0 : Int) → (a1 : Int) → (a2 : Int) → (k : Bool → Option β) → Option β) (q_spec_l30Flip : (a0 : Int) → (a1 : Int) → (a2 : Int) → (a3 : List Int) → (a4 : Int) → (k : Int → Int → Int → List Int → Option β) → Option β) (q_spec_FlipAll_l0 : Nat → List Int → Int → Int → Int → Int → List Int → Int → Int → Int → Int → Int → Int → List Int → List Int → (Bool → Int → Int → Int → List Int → Option β) → (Int → Int → Int → Int → Int → Int → List Int → List Int → Option β) → Option β)  (a0 : Int) (a1 : Int) (a2 : Int) (a3 : List Int) (a4 : List Int) (K : TV → Option β) : evFn lay (VE34 N q_spec_IsKept q_spec_l9In q_spec_l30Flip q_spec_FlipAll_l0) Try.f34 [.v (.agg [.int .i64 a0, .int .i64 a1, .int .i64 a2, .sl 3 (.ints .i64 a3)]), .v (.one (.sl 3 (.ints .i64 a4)))] K = BV_spec_FlipAll N q_spec_IsKept q_spec_FlipAll_l0 a0 a1 a2 a3 a4 (fun z5 z6 z7 z8 z9 => K (.tup [.agg [.int .i64 z5, .int .i64 z6, .int .i64 z7, .sl 3 (.ints .i64 z8)], .one (.bool z9)])) := by kernel_rfl
theorem e34_0 {β : Type} (N : Nat)  (a0 : Int) (a1 : Int) (a2 : Int) (a3 : List Int) (a4 : List Int) (K : TV → Option β) : evFn lay (E34 N) Try.f34 [.v (.agg [.int .i64 a0, .int .i64 a1, .int .i64 a2, .sl 3 (.ints .i64 a3)]), .v (.one (.sl 3 (.ints .i64 a4)))] K = spec_FlipAll N a0 a1 a2 a3 a4 (fun z5 z6 z7 z8 z9 => K (.tup [.agg [.int .i64 z5, .int .i64 z6, .int .i64 z7, .sl 3 (.ints .i64 z8)], .one (.bool z9)])) := (ve34_0 N (spec_IsKept N) (spec_l9In N) (spec_l30Flip N) (spec_FlipAll_l0 N) a0 a1 a2 a3 a4 K).trans (t_spec_FlipAll N a0 a1 a2 a3 a4 (fun z5 z6 z7 z8 z9 => K (.tup [.agg [.int .i64 z5, .int .i64 z6, .int .i64 z7, .sl 3 (.ints .i64 z8)], .one (.bool z9)]))).symm
theorem o34 {β : Type} (N : Nat) : SpecOK (β := β) Try.prog 34 (S34 N) := by
  refine spec_of lay_ok mixed (E := E34 N) (specs_loops (specs_cons (o24 N) (specs_cons (o59 N) (specs_cons (o60 N) specs_nil)))) muts_nil gs_nil Try.func34 (by kernel_rfl) 1 (by kernel_rfl) ⟨trivial, rk34_0 N⟩ fun args K r h => ?_
  unfold S34 VS34 at h
  split at h
  · exact (e34_0 N _ _ _ _ _ _).trans h
  · cases h
def VS8 {β : Type} (N : Nat) (q_laws_FnExactFlipAll : (a0 : Int) → (a1 : Int) → (a2 : Int) → (a3 : List Int) → (a4 : List Int) → (k : Bool → Option β) → Option β) : Rv.Spec β := fun args K => match args with
  | [.v (.agg [.int .i64 a0, .int .i64 a1, .int .i64 a2, .sl 3 (.ints .i64 a3)]), .v (.one (.sl 3 (.ints .i64 a4)))] => q_laws_FnExactFlipAll a0 a1 a2 a3 a4 (fun z5 => K (.v (.one (.bool z5))))
  | _ => none
def S8 {β : Type} (N : Nat) : Rv.Spec β := VS8 N (laws_FnExactFlipAll N)
def VE8 {β : Type} (N : Nat) (q_laws_szKept : (a0 : Int) → (a1 : Int) → (a2 : Int) → (a3 : List Int) → (a4 : Int) → (k : Int → Option β) → Option β) (q_laws_toKept : (a0 : Int) → (a1 : Int) → (a2 : Int) → (a3 : List Int) → (k : Int → Int → Int → List Int → Option β) → Option β) (q_laws_toIntS : (a0 : List Int) → (k : List Int → Option β) → Option β) (q_spec_FlipAll : (a0 : Int) → (a1 : Int) → (a2 : Int) → (a3 : List Int) → (a4 : List Int) → (k : Int → Int → Int → List Int → Bool → Option β) → Option β) (q_impl_FlipAll : (a0 : Int) → (a1 : Int) → (a2 : Int) → (a3 : List Int) → (a4 : List Int) → (k : Int → Int → Int → List Int → Bool → Option β) → Option β) (q_laws_eqKept : (a0 : Int) → (a1 : Int) → (a2 : Int) → (a3 : List Int) → (a4 : Int) → (a5 : Int) → (a6 : Int) → (a7 : List Int) → (k : Bool → Option β) → Option β) (q_laws_eqIntS : (a0 : List Int) → (a1 : List Int) → (k : Bool → Option β) → Option β) (q_laws_heldKept : (a0 : Int) → (a1 : Int) → (a2 : Int) → (a3 : List Int) → (a4 : Int) → (k : Int → Option β) → Option β) (q_laws_markKept : (a0 : Int) → (a1 : Int) → (a2 : Int) → (a3 : List Int) → (a4 : Int) → (k : Int → List Int → Option β) → Option β) (q_laws_markIntS : (a0 : List Int) → (a1 : Int) → (k : Int → List Int → Option β) → Option β) : Env β := ⟨[(23, VS23 N q_laws_szKept), (25, VS25 N q_laws_toKept), (35, VS35 N q_laws_toIntS), (34, VS34 N q_spec_FlipAll), (36, VS36 N q_impl_FlipAll), (15, VS15 N q_laws_eqKept), (20, VS20 N q_laws_eqIntS), (17, VS17 N q_laws_heldKept)], [(16, VS16 N q_laws_markKept), (21, VS21 N q_laws_markIntS)], [], []⟩
def E8 {β : Type} (N : Nat) : Env β := VE8 N (laws_szKept N) (laws_toKept N) (laws_toIntS N) (spec_FlipAll N) (impl_FlipAll N) (laws_eqKept N) (laws_eqIntS N) (laws_heldKept N) (laws_markKept N) (laws_markIntS N)
def BV_laws_FnExactFlipAll {β : Type} (N : Nat) (q_laws_szKept : (a0 : Int) → (a1 : Int) → (a2 : Int) → (a3 : List Int) → (a4 : Int) → (k : Int → Option β) → Option β) (q_laws_toKept : (a0 : Int) → (a1 : Int) → (a2 : Int) → (a3 : List Int) → (k : Int → Int → Int → List Int → Option β) → Option β) (q_laws_toIntS : (a0 : List Int) → (k : List Int → Option β) → Option β) (q_spec_FlipAll : (a0 : Int) → (a1 : Int) → (a2 : Int) → (a3 : List Int) → (a4 : List Int) → (k : Int → Int → Int → List Int → Bool → Option β) → Option β) (q_impl_FlipAll : (a0 : Int) → (a1 : Int) → (a2 : Int) → (a3 : List Int) → (a4 : List Int) → (k : Int → Int → Int → List Int → Bool → Option β) → Option β) (q_laws_eqKept : (a0 : Int) → (a1 : Int) → (a2 : Int) → (a3 : List Int) → (a4 : Int) → (a5 : Int) → (a6 : Int) → (a7 : List Int) → (k : Bool → Option β) → Option β) (q_laws_eqIntS : (a0 : List Int) → (a1 : List Int) → (k : Bool → Option β) → Option β) (q_laws_markKept : (a0 : Int) → (a1 : Int) → (a2 : Int) → (a3 : List Int) → (a4 : Int) → (k : Int → List Int → Option β) → Option β) (q_laws_markIntS : (a0 : List Int) → (a1 : Int) → (k : Int → List Int → Option β) → Option β) (q_laws_heldKept : (a0 : Int) → (a1 : Int) → (a2 : Int) → (a3 : List Int) → (a4 : Int) → (k : Int → Option β) → Option β) (a0 : Int) (a1 : Int) (a2 : Int) (a3 : List Int) (a4 : List Int) (k : Bool → Option β) : Option β :=
(cond ((decide ((a4.length : Int) > 1048576)))
(k true)
(q_laws_szKept a0 a1 a2 a3 1048576 fun r6 =>
(cond ((decide (r6 < 0)))
(k true)
(q_laws_toKept a0 a1 a2 a3 fun r7 r8 r9 r10 =>
q_laws_toIntS a4 fun r11 =>
q_spec_FlipAll r7 r8 r9 r10 r11 fun r12 r13 r14 r15 r16 =>
q_laws_toKept a0 a1 a2 a3 fun r17 r18 r19 r20 =>
q_laws_toIntS a4 fun r21 =>
q_impl_FlipAll r17 r18 r19 r20 r21 fun r22 r23 r24 r25 r26 =>
q_laws_eqKept r22 r23 r24 r25 r12 r13 r14 r15 fun r27 =>
(cond (!r27)
(k false)
((cond ((!(r26 == r16)))
(k false)
(q_laws_toKept a0 a1 a2 a3 fun r28 r29 r30 r31 =>
q_laws_eqKept r17 r18 r19 r20 r28 r29 r30 r31 fun r32 =>
(cond (!r32)
(k false)
(q_laws_toIntS a4 fun r33 =>
q_laws_eqIntS r21 r33 fun r34 =>
(cond (!r34)
(k false)
(q_laws_markKept r17 r18 r19 r20 1 fun r35 m36 =>
q_laws_markIntS r21 r35 fun r37 m38 =>
(cond ((decide (r37 < 0)))
(k false)
(q_laws_eqKept r22 r23 r24 r25 r12 r13 r14 r15 fun r39 =>
(cond (!r39)
(k false)
((cond ((!(r26 == r16)))
(k false)
(q_laws_markKept r22 r23 r24 r25 1 fun r40 m41 =>
q_laws_heldKept r22 r23 r24 m41 1 fun r42 =>
(cond ((decide (r42 < 0)))
(k false)
((cond ((r42 != r40))
(k false)
(q_laws_toKept a0 a1 a2 a3 fun r43 r44 r45 r46 =>
q_laws_toIntS a4 fun r47 =>
q_impl_FlipAll r43 r44 r45 r46 r47 fun r48 r49 r50 r51 r52 =>
q_laws_eqKept r48 r49 r50 r51 r12 r13 r14 r15 fun r53 =>
(cond (!r53)
(k false)
((cond ((!(r52 == r16)))
(k false)
(q_laws_heldKept r22 r23 r24 m41 1 fun r54 =>
(cond ((decide (r54 < 0)))
(k false)
((cond ((r54 != r40))
(k false)
(k true))))))))))))))))))))))))))))))
theorem t_laws_FnExactFlipAll {β : Type} (N : Nat) (a0 : Int) (a1 : Int) (a2 : Int) (a3 : List Int) (a4 : List Int) (k : Bool → Option β) : laws_FnExactFlipAll N a0 a1 a2 a3 a4 k = BV_laws_FnExactFlipAll N (laws_szKept N) (laws_toKept N) (laws_toIntS N) (spec_FlipAll N) (impl_FlipAll N) (laws_eqKept N) (laws_eqIntS N) (laws_markKept N) (laws_markIntS N) (laws_heldKept N) a0 a1 a2 a3 a4 k := by
  unfold laws_FnExactFlipAll BV_laws_FnExactFlipAll
  rfl
theorem ve8_0 {β : Type} (N : Nat) (q_laws_szKept : (a0 : Int) → (a1 : Int) → (a2 : Int) → (a3 : List Int) → (a4 : Int) → (k : Int → Option β) → Option β) (q_laws_toKept : (a0 : Int) → (a1 : Int) → (a2 : Int) → (a3 : List Int) → (k : Int → Int → Int → List Int → Option β) → Option β) (q_laws_toIntS : (a0 : List Int) → (k : List Int → Option β) → Option β) (q_spec_FlipAll : (a0 : Int) → (a1 : Int) → (a2 : Int) → (a3 : List Int) → (a4 : List Int) → (k : Int → Int → Int → List Int → Bool → Option β) → Option β) (q_impl_FlipAll : (a0 : Int) → (a1 : Int) → (a2 : Int) → (a3 : List Int) → (a4 : List Int) → (k : Int → Int → Int → List Int → Bool → Option β) → Option β) (q_laws_eqKept : (a0 : Int) → (a1 : Int) → (a2 : Int) → (a3 : List Int) → (a4 : Int) → (a5 : Int) → (a6 : Int) → (a7 : List Int) → (k : Bool → Option β) → Option β) (q_laws_eqIntS : (a0 : List Int) → (a1 : List Int) → (k : Bool → Option β) → Option β) (q_laws_heldKept : (a0 : Int) → (a1 : Int) → (a2 : Int) → (a3 : List Int) → (a4 : Int) → (k : Int → Option β) → Option β) (q_laws_markKept : (a0 : Int) → (a1 : Int) → (a2 : Int) → (a3 : List Int) → (a4 : Int) → (k : Int → List Int → Option β) → Option β) (q_laws_markIntS : (a0 : List Int) → (a1 : Int) → (k : Int → List Int → Option β) → Option β)  (a0 : Int) (a1 : Int) (a2 : Int) (a3 : List Int) (a4 : List Int) (K : TV → Option β) : evFn lay (VE8 N q_laws_szKept q_laws_toKept q_laws_toIntS q_spec_FlipAll q_impl_FlipAll q_laws_eqKept q_laws_eqIntS q_laws_heldKept q_laws_markKept q_laws_markIntS) Try.f8 [.v (.agg [.int .i64 a0, .int .i64 a1, .int .i64 a2, .sl 3 (.ints .i64 a3)]), .v (.one (.sl 3 (.ints .i64 a4)))] K = BV_laws_FnExactFlipAll N q_laws_szKept q_laws_toKept q_laws_toIntS q_spec_FlipAll q_impl_FlipAll q_laws_eqKept q_laws_eqIntS q_laws_markKept q_laws_markIntS q_laws_heldKept a0 a1 a2 a3 a4 (fun z5 => K (.v (.one (.bool z5)))) := by kernel_rfl
theorem e8_0 {β : Type} (N : Nat)  (a0 : Int) (a1 : Int) (a2 : Int) (a3 : List Int) (a4 : List Int) (K : TV → Option β) : evFn lay (E8 N) Try.f8 [.v (.agg [.int .i64 a0, .int .i64 a1, .int .i64 a2, .sl 3 (.ints .i64 a3)]), .v (.one (.sl 3 (.ints .i64 a4)))] K = laws_FnExactFlipAll N a0 a1 a2 a3 a4 (fun z5 => K (.v (.one (.bool z5)))) := (ve8_0 N (laws_szKept N) (laws_toKept N) (laws_toIntS N) (spec_FlipAll N) (impl_FlipAll N) (laws_eqKept N) (laws_eqIntS N) (laws_heldKept N) (laws_markKept N) (laws_markIntS N) a0 a1 a2 a3 a4 K).trans (t_laws_FnExactFlipAll N a0 a1 a2 a3 a4 (fun z5 => K (.v (.one (.bool z5))))).symm
theorem o8 {β : Type} (N : Nat) : SpecOK (β := β) Try.prog 8 (S8 N) := by
  refine spec_of lay_ok mixed (E := E8 N) (specs_loops (specs_cons (o23 N) (specs_cons (o25 N) (specs_cons (o35 N) (specs_cons (o34 N) (specs_cons (o36 N) (specs_cons (o15 N) (specs_cons (o20 N) (specs_cons (o17 N) specs_nil))))))))) (muts_cons (o16 N) (muts_cons (o21 N) muts_nil)) gs_nil Try.func8 (by kernel_rfl) 0 (by kernel_rfl) trivial fun args K r h => ?_
  unfold S8 VS8 at h
  split at h
  · exact (e8_0 N _ _ _ _ _ _).trans h
  · cases h
end Go.Proofs.Ytdjmbggefcfacaa
