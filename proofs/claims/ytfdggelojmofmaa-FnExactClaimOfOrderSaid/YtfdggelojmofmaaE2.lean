/- The functions that the claims reach answer as their texts do. -/
import Derived.Test.YtfdggelojmofmaaE1
namespace Go.Proofs.Ytfdggelojmofmaa
open Go.Rv
set_option maxRecDepth 100000
set_option maxHeartbeats 2000000
set_option linter.unusedVariables false
def VSF147 {β : Type} (N : Nat) (q_impl_permutations_1_g0_f : Nat → Int → List Int → List (List Int) → List Bool → (Int → List Int → List (List Int) → List Bool → Option β) → Option β) (G : Nat) : GSpec β := fun args bl K => match args, bl with
  | [.v (.one (.ptr 0 0)), .v (.one (.ptr 1 0)), .v (.one (.ptr 2 0)), .v (.one (.ptr 3 0)), .v (.one (.ptr 4 0))], [.pcells 0 28 [.row 5], .pcells 1 3 [.int .i64 a0], .pcells 2 103 [.row 6], .pcells 3 125 [.row 7], .pcells 4 1 [.fn 147 [(0, 0), (1, 0), (2, 0), (3, 0), (4, 0)]], .row 3 (.ints .i64 a1), .row 28 (.lists 3 a2), .row 4 (.bools a3)] => q_impl_permutations_1_g0_f G a0 a1 a2 a3 (fun y0 y1 y2 y3 => K (.tup []) [.pcells 0 28 [.row 5], .pcells 1 3 [.int .i64 y0], .pcells 2 103 [.row 6], .pcells 3 125 [.row 7], .pcells 4 1 [.fn 147 [(0, 0), (1, 0), (2, 0), (3, 0), (4, 0)]], .row 3 (.ints .i64 y1), .row 28 (.lists 3 y2), .row 4 (.bools y3)])
  | _, _ => none
def SF147 {β : Type} (N : Nat) (G : Nat) : GSpec β := VSF147 N (impl_permutations_1_g0_f N) G
def VS147 {β : Type} (N : Nat) (q_impl_permutations_1_g0_f : Nat → Int → List Int → List (List Int) → List Bool → (Int → List Int → List (List Int) → List Bool → Option β) → Option β) : GSpec β := VSF147 N q_impl_permutations_1_g0_f N
def S147 {β : Type} (N : Nat) : GSpec β := SF147 N N
def h147_0_0  (v0 : Int) (v1 : Int) (v2 : Int) (v3 : List Int) (v4 : List (List Int)) (v5 : List Bool) : St := ⟨.v (.one (.ptr 0 0)) :: .v (.one .und) :: .v (.one .und) :: .v (.one (.ptr 3 0)) :: .v (.one (.ptr 4 0)) :: .v (.one .und) :: .v (.one .und) :: .v (.one .und) :: .v (.one .und) :: .v (.one .und) :: .v (.one .und) :: .v (.one .und) :: .v (.one .und) :: .v (.one .und) :: .v (.one .und) :: .v (.one .und) :: .v (.one (.int .i64 v0)) :: .v (.one (.int .i64 v1)) :: .v (.one .und) :: .v (.one .und) :: .v (.one .und) :: .v (.one .und) :: .v (.one .und) :: .v (.one .und) :: .v (.one .und) :: .v (.one .und) :: .v (.one .und) :: .v (.one .und) :: .v (.one .und) :: .v (.one .und) :: .v (.one .und) :: .v (.one .und) :: .v (.one .und) :: .v (.one .und) :: .v (.one .und) :: .v (.one .und) :: .v (.one .und) :: .v (.one .und) :: .v (.one .und) :: .v (.one .und) :: .v (.one .und) :: .v (.one .und) :: .v (.one .und) :: [], [.pcells 0 28 [.row 5], .pcells 1 3 [.int .i64 v2], .pcells 2 103 [.row 6], .pcells 3 125 [.row 7], .pcells 4 1 [.fn 147 [(0, 0), (1, 0), (2, 0), (3, 0), (4, 0)]], .row 3 (.ints .i64 v3), .row 28 (.lists 3 v4), .row 4 (.bools v5)]⟩
def x147_0_0_k0  (y0 : Int) (y1 : List Int) (y2 : List (List Int)) (y3 : List Bool) : St := ⟨.v (.one .und) :: .v (.one .und) :: .v (.one .und) :: .v (.one .und) :: .v (.one .und) :: .v (.one .und) :: .v (.one .und) :: .v (.one .und) :: .v (.one .und) :: .v (.one .und) :: .v (.one .und) :: .v (.one .und) :: .v (.one .und) :: .v (.one .und) :: .v (.one .und) :: .v (.one .und) :: .v (.one .und) :: .v (.one .und) :: .v (.one .und) :: .v (.one .und) :: .v (.one .und) :: .v (.one .und) :: .v (.one .und) :: .v (.one .und) :: .v (.one .und) :: .v (.one .und) :: .v (.one .und) :: .v (.one .und) :: .v (.one .und) :: .v (.one .und) :: .v (.one .und) :: .v (.one .und) :: .v (.one .und) :: .v (.one .und) :: .v (.one .und) :: .v (.one .und) :: .v (.one .und) :: .v (.one .und) :: .v (.one .und) :: .v (.one .und) :: .v (.one .und) :: .v (.one .und) :: .v (.one .und) :: [], [.pcells 0 28 [.row 5], .pcells 1 3 [.int .i64 y0], .pcells 2 103 [.row 6], .pcells 3 125 [.row 7], .pcells 4 1 [.fn 147 [(0, 0), (1, 0), (2, 0), (3, 0), (4, 0)]], .row 3 (.ints .i64 y1), .row 28 (.lists 3 y2), .row 4 (.bools y3)]⟩
theorem fl147_0_0 (s : St) : refSt (h147_0_0 0 0 0 [] [] []) s = h147_0_0 (intS (oneA (vT (nx tund s.tmps 16)))) (intS (oneA (vT (nx tund s.tmps 17)))) (intS (nx .und (cellsB (nx .dead s.blks 1)) 0)) (rInts (rowB_ (nx .dead s.blks 5))) (rLists (rowB_ (nx .dead s.blks 6))) (rBools (rowB_ (nx .dead s.blks 7))) := by kernel_rfl
def VLS147_0 {β : Type} (N : Nat) (q_impl_permutations_1_l0 : (self : Int → List Int → List (List Int) → List Bool → (Int → List Int → List (List Int) → List Bool → Option β) → Option β) → Nat → Int → Int → Int → List Int → List (List Int) → List Bool → (Int → List Int → List (List Int) → List Bool → Option β) → Option β) (q_impl_permutations_1_g0_f : Nat → Int → List Int → List (List Int) → List Bool → (Int → List Int → List (List Int) → List Bool → Option β) → Option β) (G : Nat) : LSpec β := fun s K => cond (shpSt (h147_0_0 0 0 0 [] [] []) s) ((fun (v0 : Int) (v1 : Int) (v2 : Int) (v3 : List Int) (v4 : List (List Int)) (v5 : List Bool) => q_impl_permutations_1_l0 (q_impl_permutations_1_g0_f G)  N v0 v1 v2 v3 v4 v5 (fun y0 y1 y2 y3 => K (.exit 0) (x147_0_0_k0  y0 y1 y2 y3))) (intS (oneA (vT (nx tund s.tmps 16)))) (intS (oneA (vT (nx tund s.tmps 17)))) (intS (nx .und (cellsB (nx .dead s.blks 1)) 0)) (rInts (rowB_ (nx .dead s.blks 5))) (rLists (rowB_ (nx .dead s.blks 6))) (rBools (rowB_ (nx .dead s.blks 7)))) (none)
def LS147_0 {β : Type} (N : Nat) (G : Nat) : LSpec β := VLS147_0 N (impl_permutations_1_l0 N) (impl_permutations_1_g0_f N) G
def VE147 {β : Type} (N : Nat) (q_impl_permutations_1_l0 : (self : Int → List Int → List (List Int) → List Bool → (Int → List Int → List (List Int) → List Bool → Option β) → Option β) → Nat → Int → Int → Int → List Int → List (List Int) → List Bool → (Int → List Int → List (List Int) → List Bool → Option β) → Option β) (q_impl_permutations_1_g0_f : Nat → Int → List Int → List (List Int) → List Bool → (Int → List Int → List (List Int) → List Bool → Option β) → Option β) (G : Nat) : Env β := ⟨[], [], [(0, VLS147_0 N q_impl_permutations_1_l0 q_impl_permutations_1_g0_f G)], [(147, VSF147 N q_impl_permutations_1_g0_f G)], ⟨[], [], [106], [147, 148, 186]⟩⟩
def E147 {β : Type} (N : Nat) (G : Nat) : Env β := VE147 N (impl_permutations_1_l0 N) (impl_permutations_1_g0_f N) G
def BV_impl_permutations_1_l0b {β : Type} (N : Nat) (self : Int → List Int → List (List Int) → List Bool → (Int → List Int → List (List Int) → List Bool → Option β) → Option β)  (v0 : Int) (v1 : Int) (v2 : Int) (v3 : List Int) (v4 : List (List Int)) (v5 : List Bool) (rec_ : Int → Int → Int → List Int → List (List Int) → List Bool → Option β) (k0 : Int → List Int → List (List Int) → List Bool → Option β) : Option β :=
(cond ((decide (v1 < v0)))
((gd ((decide (0 ≤ v1)))
((gd ((decide (v1 < (v5.length : Int))))
((cond ((!(rd false v5 v1)))
((gd ((decide (0 ≤ v1)))
((gd ((decide (v1 < (v5.length : Int))))
((gd ((decide ((v3.length + ((([] : List Int) ++ [v1])).length) * 8 ≤ 140737488355328)))
(self v2 ((v3 ++ (([] : List Int) ++ [v1]))) v4 ((wr v5 v1 true)) (fun r2_0 r2_1 r2_2 r2_3 =>
(gd ((decide (0 ≤ (w64 ((r2_1.length : Int) - 1)))))
((gd ((decide ((w64 ((r2_1.length : Int) - 1)) ≤ (r2_1.length : Int))))
((gd ((decide (0 ≤ v1)))
((gd ((decide (v1 < (r2_3.length : Int))))
(rec_ v0 ((w64 (v1 + 1))) r2_0 ((List.drop 0 (List.take (Int.toNat (w64 ((r2_1.length : Int) - 1))) r2_1))) r2_2 ((wr r2_3 v1 false))))))))))))))))))
(rec_ v0 ((w64 (v1 + 1))) v2 v3 v4 v5)))))))
(k0 v2 v3 v4 v5))
theorem t_impl_permutations_1_l0b {β : Type} (N : Nat) (self : Int → List Int → List (List Int) → List Bool → (Int → List Int → List (List Int) → List Bool → Option β) → Option β)  (v0 : Int) (v1 : Int) (v2 : Int) (v3 : List Int) (v4 : List (List Int)) (v5 : List Bool) (rec_ : Int → Int → Int → List Int → List (List Int) → List Bool → Option β) (k0 : Int → List Int → List (List Int) → List Bool → Option β) : impl_permutations_1_l0b N self v0 v1 v2 v3 v4 v5 rec_ k0 = BV_impl_permutations_1_l0b N self v0 v1 v2 v3 v4 v5 rec_ k0 := by
  unfold impl_permutations_1_l0b BV_impl_permutations_1_l0b
  rfl
theorem vst147_0_0 {β : Type} (N : Nat) (q_impl_permutations_1_l0 : (self : Int → List Int → List (List Int) → List Bool → (Int → List Int → List (List Int) → List Bool → Option β) → Option β) → Nat → Int → Int → Int → List Int → List (List Int) → List Bool → (Int → List Int → List (List Int) → List Bool → Option β) → Option β) (q_impl_permutations_1_g0_f : Nat → Int → List Int → List (List Int) → List Bool → (Int → List Int → List (List Int) → List Bool → Option β) → Option β) (G : Nat)  (v0 : Int) (v1 : Int) (v2 : Int) (v3 : List Int) (v4 : List (List Int)) (v5 : List Bool) (rec_ : St → Option β) (K : Exit → St → Option β) :
    ev lay (VE147 N q_impl_permutations_1_l0 q_impl_permutations_1_g0_f G) (retMask Try.f147) (lp Try.f147 0).body (lp Try.f147 0).ex ((lp Try.f147 0).lv (retMask Try.f147)) (h147_0_0  v0 v1 v2 v3 v4 v5) (nextR (fun s' => rec_ (s'.tidy ((lp Try.f147 0).lv (retMask Try.f147)))) K) = BV_impl_permutations_1_l0b N (q_impl_permutations_1_g0_f G)  v0 v1 v2 v3 v4 v5 (fun v0 v1 v2 v3 v4 v5 => rec_ (h147_0_0  v0 v1 v2 v3 v4 v5)) (fun y0 y1 y2 y3 => K (.exit 0) (x147_0_0_k0  y0 y1 y2 y3)) := by kernel_rfl
theorem st147_0_0 {β : Type} (N : Nat) (G : Nat)  (v0 : Int) (v1 : Int) (v2 : Int) (v3 : List Int) (v4 : List (List Int)) (v5 : List Bool) (rec_ : St → Option β) (K : Exit → St → Option β) :
    ev lay (E147 N G) (retMask Try.f147) (lp Try.f147 0).body (lp Try.f147 0).ex ((lp Try.f147 0).lv (retMask Try.f147)) (h147_0_0  v0 v1 v2 v3 v4 v5) (nextR (fun s' => rec_ (s'.tidy ((lp Try.f147 0).lv (retMask Try.f147)))) K) = impl_permutations_1_l0b N (impl_permutations_1_g0_f N G)  v0 v1 v2 v3 v4 v5 (fun v0 v1 v2 v3 v4 v5 => rec_ (h147_0_0  v0 v1 v2 v3 v4 v5)) (fun y0 y1 y2 y3 => K (.exit 0) (x147_0_0_k0  y0 y1 y2 y3)) := (vst147_0_0 N (impl_permutations_1_l0 N) (impl_permutations_1_g0_f N) G v0 v1 v2 v3 v4 v5 rec_ K).trans (t_impl_permutations_1_l0b N (impl_permutations_1_g0_f N G)  v0 v1 v2 v3 v4 v5 (fun v0 v1 v2 v3 v4 v5 => rec_ (h147_0_0  v0 v1 v2 v3 v4 v5)) (fun y0 y1 y2 y3 => K (.exit 0) (x147_0_0_k0  y0 y1 y2 y3))).symm
theorem ro147_0_0 {β : Type} (N : Nat) (G : Nat)  (K : Exit → St → Option β) : ∀ (F : Nat) (v0 : Int) (v1 : Int) (v2 : Int) (v3 : List Int) (v4 : List (List Int)) (v5 : List Bool), (lp Try.f147 0).rounds lay (E147 N G) (retMask Try.f147) F (h147_0_0  v0 v1 v2 v3 v4 v5) K = impl_permutations_1_l0 N (impl_permutations_1_g0_f N G)  F v0 v1 v2 v3 v4 v5 (fun y0 y1 y2 y3 => K (.exit 0) (x147_0_0_k0  y0 y1 y2 y3)) := by
  intro F
  induction F with
  | zero => intros; rfl
  | succ F ih =>
    intros
    rw [rounds_next]
    refine (st147_0_0 N G  _ _ _ _ _ _ (fun s => (lp Try.f147 0).rounds lay (E147 N G) (retMask Try.f147) F s K) K).trans ?_
    simp only [ih]
    rfl
theorem lk147_0 {β : Type} (N : Nat) (G : Nat) : lookL (E147 (β := β) N G).loops (lp Try.f147 0).id = LS147_0 N G := by kernel_rfl
theorem rk147_0 {β : Type} (N : Nat) (G : Nat) : RoundsOK lay (E147 (β := β) N G) (retMask Try.f147) (lp Try.f147 0) := by
  intro s K r h
  rw [lk147_0] at h
  unfold LS147_0 VLS147_0 at h
  cases hb : shpSt (h147_0_0 0 0 0 [] [] []) s with
  | true =>
    rw [hb, cond_true] at h
    exact ⟨N, by rw [← shpSt_ref hb, fl147_0_0 s]; exact (ro147_0_0 N G  K N (intS (oneA (vT (nx tund s.tmps 16)))) (intS (oneA (vT (nx tund s.tmps 17)))) (intS (nx .und (cellsB (nx .dead s.blks 1)) 0)) (rInts (rowB_ (nx .dead s.blks 5))) (rLists (rowB_ (nx .dead s.blks 6))) (rBools (rowB_ (nx .dead s.blks 7)))).trans h⟩
  | false =>
  rw [hb, cond_false] at h
  clear hb
  cases h
def BV_impl_permutations_1_g0_b {β : Type} (N : Nat) (q_impl_permutations_1_l0 : (self : Int → List Int → List (List Int) → List Bool → (Int → List Int → List (List Int) → List Bool → Option β) → Option β) → Nat → Int → Int → Int → List Int → List (List Int) → List Bool → (Int → List Int → List (List Int) → List Bool → Option β) → Option β) (self : Int → List Int → List (List Int) → List Bool → (Int → List Int → List (List Int) → List Bool → Option β) → Option β) (a0 : Int) (a1 : List Int) (a2 : List (List Int)) (a3 : List Bool) (k0 : Int → List Int → List (List Int) → List Bool → Option β) : Option β :=
(cond (((a1.length : Int) == a0))
((gd ((decide (((([] : List Int)).length + a1.length) * 8 ≤ 140737488355328)))
((gd ((decide ((a2.length + ((([] : List (List Int)) ++ [(([] : List Int) ++ a1)])).length) * 24 ≤ 140737488355328)))
(k0 a0 a1 ((a2 ++ (([] : List (List Int)) ++ [(([] : List Int) ++ a1)]))) a3)))))
(q_impl_permutations_1_l0 self  N a0 0 a0 a1 a2 a3 (fun e3_0 e3_1 e3_2 e3_3 =>
k0 e3_0 e3_1 e3_2 e3_3)))
theorem t_impl_permutations_1_g0_b {β : Type} (N : Nat) (self : Int → List Int → List (List Int) → List Bool → (Int → List Int → List (List Int) → List Bool → Option β) → Option β) (a0 : Int) (a1 : List Int) (a2 : List (List Int)) (a3 : List Bool) (k0 : Int → List Int → List (List Int) → List Bool → Option β) : impl_permutations_1_g0_b N self a0 a1 a2 a3 k0 = BV_impl_permutations_1_g0_b N (impl_permutations_1_l0 N) self a0 a1 a2 a3 k0 := by
  unfold impl_permutations_1_g0_b BV_impl_permutations_1_g0_b
  rfl
theorem ve147_0 {β : Type} (N : Nat) (q_impl_permutations_1_l0 : (self : Int → List Int → List (List Int) → List Bool → (Int → List Int → List (List Int) → List Bool → Option β) → Option β) → Nat → Int → Int → Int → List Int → List (List Int) → List Bool → (Int → List Int → List (List Int) → List Bool → Option β) → Option β) (q_impl_permutations_1_g0_f : Nat → Int → List Int → List (List Int) → List Bool → (Int → List Int → List (List Int) → List Bool → Option β) → Option β) (G : Nat) (a0 : Int) (a1 : List Int) (a2 : List (List Int)) (a3 : List Bool) (K : TV → List Blk → Option β) : evFnG lay (VE147 N q_impl_permutations_1_l0 q_impl_permutations_1_g0_f G) Try.f147 [.v (.one (.ptr 0 0)), .v (.one (.ptr 1 0)), .v (.one (.ptr 2 0)), .v (.one (.ptr 3 0)), .v (.one (.ptr 4 0))] [.pcells 0 28 [.row 5], .pcells 1 3 [.int .i64 a0], .pcells 2 103 [.row 6], .pcells 3 125 [.row 7], .pcells 4 1 [.fn 147 [(0, 0), (1, 0), (2, 0), (3, 0), (4, 0)]], .row 3 (.ints .i64 a1), .row 28 (.lists 3 a2), .row 4 (.bools a3)] K = BV_impl_permutations_1_g0_b N q_impl_permutations_1_l0 (q_impl_permutations_1_g0_f G) a0 a1 a2 a3 (fun y0 y1 y2 y3 => K (.tup []) [.pcells 0 28 [.row 5], .pcells 1 3 [.int .i64 y0], .pcells 2 103 [.row 6], .pcells 3 125 [.row 7], .pcells 4 1 [.fn 147 [(0, 0), (1, 0), (2, 0), (3, 0), (4, 0)]], .row 3 (.ints .i64 y1), .row 28 (.lists 3 y2), .row 4 (.bools y3)]) := by kernel_rfl
theorem e147_0 {β : Type} (N : Nat) (G : Nat) (a0 : Int) (a1 : List Int) (a2 : List (List Int)) (a3 : List Bool) (K : TV → List Blk → Option β) : evFnG lay (E147 N G) Try.f147 [.v (.one (.ptr 0 0)), .v (.one (.ptr 1 0)), .v (.one (.ptr 2 0)), .v (.one (.ptr 3 0)), .v (.one (.ptr 4 0))] [.pcells 0 28 [.row 5], .pcells 1 3 [.int .i64 a0], .pcells 2 103 [.row 6], .pcells 3 125 [.row 7], .pcells 4 1 [.fn 147 [(0, 0), (1, 0), (2, 0), (3, 0), (4, 0)]], .row 3 (.ints .i64 a1), .row 28 (.lists 3 a2), .row 4 (.bools a3)] K = impl_permutations_1_g0_f N (G + 1) a0 a1 a2 a3 (fun y0 y1 y2 y3 => K (.tup []) [.pcells 0 28 [.row 5], .pcells 1 3 [.int .i64 y0], .pcells 2 103 [.row 6], .pcells 3 125 [.row 7], .pcells 4 1 [.fn 147 [(0, 0), (1, 0), (2, 0), (3, 0), (4, 0)]], .row 3 (.ints .i64 y1), .row 28 (.lists 3 y2), .row 4 (.bools y3)]) := (ve147_0 N (impl_permutations_1_l0 N) (impl_permutations_1_g0_f N) G a0 a1 a2 a3 K).trans (t_impl_permutations_1_g0_b N (impl_permutations_1_g0_f N G) a0 a1 a2 a3 (fun y0 y1 y2 y3 => K (.tup []) [.pcells 0 28 [.row 5], .pcells 1 3 [.int .i64 y0], .pcells 2 103 [.row 6], .pcells 3 125 [.row 7], .pcells 4 1 [.fn 147 [(0, 0), (1, 0), (2, 0), (3, 0), (4, 0)]], .row 3 (.ints .i64 y1), .row 28 (.lists 3 y2), .row 4 (.bools y3)])).symm
theorem z147 {β : Type} (N : Nat) : ∀ args bl K r, SF147 (β := β) N 0 args bl K = some r → (none : Option β) = some r := by
  intro args bl K r h
  unfold SF147 VSF147 at h
  split at h <;> exact h
theorem of147 {β : Type} (N : Nat) : ∀ G, GOK (β := β) inv Try.prog 147 (SF147 N G) := by
  intro G
  induction G with
  | zero => exact g_zero Try.func147 (by kernel_rfl) (z147 N)
  | succ G ih =>
    refine g_of lay_ok mixed (E := E147 N G) (specs_loops specs_nil) muts_nil (gs_cons ih gs_nil) Try.func147 (by kernel_rfl) 1 (by kernel_rfl) ⟨trivial, rk147_0 N G⟩ fun args bl K r h => ?_
    unfold SF147 VSF147 at h
    split at h
    · exact (e147_0 N G _ _ _ _ _).trans h
    · cases h
theorem o147 {β : Type} (N : Nat) : GOK (β := β) inv Try.prog 147 (S147 N) := of147 N N
def VS108 {β : Type} (N : Nat) (q_impl_permutations : (a0 : Int) → (k : List (List Int) → Option β) → Option β) : Rv.Spec β := fun args K => match args with
  | [.v (.one (.int .i64 a0))] => q_impl_permutations a0 (fun z1 => K (.v (.one (.sl 28 (.lists 3 z1)))))
  | _ => none
def S108 {β : Type} (N : Nat) : Rv.Spec β := VS108 N (impl_permutations N)
def VE108 {β : Type} (N : Nat) (q_impl_permutations_1_g0_f : Nat → Int → List Int → List (List Int) → List Bool → (Int → List Int → List (List Int) → List Bool → Option β) → Option β) : Env β := ⟨[], [], [], [(147, VS147 N q_impl_permutations_1_g0_f)], ⟨[], [], [106], [147, 148, 186]⟩⟩
def E108 {β : Type} (N : Nat) : Env β := VE108 N (impl_permutations_1_g0_f N)
def BV_impl_permutations {β : Type} (N : Nat) (q_impl_permutations_1_g0_f : Nat → Int → List Int → List (List Int) → List Bool → (Int → List Int → List (List Int) → List Bool → Option β) → Option β) (a0 : Int) (k : List (List Int) → Option β) : Option β :=
(gd ((decide (0 ≤ a0)))
((gd ((decide (8 * a0 ≤ 281474976710656)))
((gd ((decide (0 ≤ a0)))
((gd ((decide (a0 ≤ a0)))
((gd ((decide (1 * a0 ≤ 281474976710656)))
(q_impl_permutations_1_g0_f N a0 ((List.replicate (Int.toNat 0) (0 : Int))) (([] : List (List Int))) ((List.replicate (Int.toNat a0) false)) (fun r2_0 r2_1 r2_2 r2_3 =>
k r2_2)))))))))))
theorem t_impl_permutations {β : Type} (N : Nat) (a0 : Int) (k : List (List Int) → Option β) : impl_permutations N a0 k = BV_impl_permutations N (impl_permutations_1_g0_f N) a0 k := by
  unfold impl_permutations BV_impl_permutations
  rfl
theorem ve108_0 {β : Type} (N : Nat) (q_impl_permutations_1_g0_f : Nat → Int → List Int → List (List Int) → List Bool → (Int → List Int → List (List Int) → List Bool → Option β) → Option β)  (a0 : Int) (K : TV → Option β) : evFn lay (VE108 N q_impl_permutations_1_g0_f) Try.f108 [.v (.one (.int .i64 a0))] K = BV_impl_permutations N q_impl_permutations_1_g0_f a0 (fun z1 => K (.v (.one (.sl 28 (.lists 3 z1))))) := by kernel_rfl
theorem e108_0 {β : Type} (N : Nat)  (a0 : Int) (K : TV → Option β) : evFn lay (E108 N) Try.f108 [.v (.one (.int .i64 a0))] K = impl_permutations N a0 (fun z1 => K (.v (.one (.sl 28 (.lists 3 z1))))) := (ve108_0 N (impl_permutations_1_g0_f N) a0 K).trans (t_impl_permutations N a0 (fun z1 => K (.v (.one (.sl 28 (.lists 3 z1)))))).symm
theorem o108 {β : Type} (N : Nat) : SpecOK (β := β) inv Try.prog 108 (S108 N) := by
  refine spec_of lay_ok mixed (E := E108 N) (specs_loops specs_nil) muts_nil (gs_cons (o147 N) gs_nil) Try.func108 (by kernel_rfl) 0 (by kernel_rfl) trivial fun args K r h => ?_
  unfold S108 VS108 at h
  split at h
  · exact (e108_0 N _ _).trans h
  · cases h
def VS117 {β : Type} (N : Nat) (q_impl_Table_not : (a0 : Int) → (a1 : Int) → (k : Int → Int → Option β) → Option β) : Rv.Spec β := fun args K => match args with
  | [.v (.agg [.int .i64 a0, .int .i64 a1])] => q_impl_Table_not a0 a1 (fun z2 z3 => K (.v (.agg [.int .i64 z2, .int .i64 z3])))
  | _ => none
def S117 {β : Type} (N : Nat) : Rv.Spec β := VS117 N (impl_Table_not N)
def VE117 {β : Type} (N : Nat) (q_impl_Table_size : (a0 : Int) → (a1 : Int) → (k : Int → Option β) → Option β) : Env β := ⟨[(96, VS96 N q_impl_Table_size)], [], [], [], ⟨[], [], [106], [147, 148, 186]⟩⟩
def E117 {β : Type} (N : Nat) : Env β := VE117 N (impl_Table_size N)
def BV_impl_Table_not {β : Type} (N : Nat) (q_impl_Table_size : (a0 : Int) → (a1 : Int) → (k : Int → Option β) → Option β) (a0 : Int) (a1 : Int) (k : Int → Int → Option β) : Option β :=
q_impl_Table_size a0 a1 fun r4 =>
(gd ((decide (0 ≤ r4)))
(k a0 ((bits .xor .i64 a1 (w64 ((shlI .i64 1 r4) - 1))))))
theorem t_impl_Table_not {β : Type} (N : Nat) (a0 : Int) (a1 : Int) (k : Int → Int → Option β) : impl_Table_not N a0 a1 k = BV_impl_Table_not N (impl_Table_size N) a0 a1 k := by
  unfold impl_Table_not BV_impl_Table_not
  rfl
theorem ve117_0 {β : Type} (N : Nat) (q_impl_Table_size : (a0 : Int) → (a1 : Int) → (k : Int → Option β) → Option β)  (a0 : Int) (a1 : Int) (K : TV → Option β) : evFn lay (VE117 N q_impl_Table_size) Try.f117 [.v (.agg [.int .i64 a0, .int .i64 a1])] K = BV_impl_Table_not N q_impl_Table_size a0 a1 (fun z2 z3 => K (.v (.agg [.int .i64 z2, .int .i64 z3]))) := by kernel_rfl
theorem e117_0 {β : Type} (N : Nat)  (a0 : Int) (a1 : Int) (K : TV → Option β) : evFn lay (E117 N) Try.f117 [.v (.agg [.int .i64 a0, .int .i64 a1])] K = impl_Table_not N a0 a1 (fun z2 z3 => K (.v (.agg [.int .i64 z2, .int .i64 z3]))) := (ve117_0 N (impl_Table_size N) a0 a1 K).trans (t_impl_Table_not N a0 a1 (fun z2 z3 => K (.v (.agg [.int .i64 z2, .int .i64 z3])))).symm
theorem o117 {β : Type} (N : Nat) : SpecOK (β := β) inv Try.prog 117 (S117 N) := by
  refine spec_of lay_ok mixed (E := E117 N) (specs_loops (specs_cons (o96 N) specs_nil)) muts_nil gs_nil Try.func117 (by kernel_rfl) 0 (by kernel_rfl) trivial fun args K r h => ?_
  unfold S117 VS117 at h
  split at h
  · exact (e117_0 N _ _ _).trans h
  · cases h
def VS187 {β : Type} (N : Nat) (q_impl_Table_isSame : (a0 : Int) → (a1 : Int) → (k : Bool → Option β) → Option β) : Rv.Spec β := fun args K => match args with
  | [.v (.agg [.int .i64 a0, .int .i64 a1])] => q_impl_Table_isSame a0 a1 (fun z2 => K (.v (.one (.bool z2))))
  | _ => none
def S187 {β : Type} (N : Nat) : Rv.Spec β := VS187 N (impl_Table_isSame N)
def VE187 {β : Type} (N : Nat) (q_impl_Table_not : (a0 : Int) → (a1 : Int) → (k : Int → Int → Option β) → Option β) : Env β := ⟨[(117, VS117 N q_impl_Table_not)], [], [], [], ⟨[], [], [106], [147, 148, 186]⟩⟩
def E187 {β : Type} (N : Nat) : Env β := VE187 N (impl_Table_not N)
def BV_impl_Table_isSame {β : Type} (N : Nat) (q_impl_Table_not : (a0 : Int) → (a1 : Int) → (k : Int → Int → Option β) → Option β) (a0 : Int) (a1 : Int) (k : Bool → Option β) : Option β :=
(cond ((a1 == 0))
(k true)
(q_impl_Table_not a0 a1 fun r3 r4 =>
k ((r4 == 0))))
theorem t_impl_Table_isSame {β : Type} (N : Nat) (a0 : Int) (a1 : Int) (k : Bool → Option β) : impl_Table_isSame N a0 a1 k = BV_impl_Table_isSame N (impl_Table_not N) a0 a1 k := by
  unfold impl_Table_isSame BV_impl_Table_isSame
  rfl
theorem ve187_0 {β : Type} (N : Nat) (q_impl_Table_not : (a0 : Int) → (a1 : Int) → (k : Int → Int → Option β) → Option β)  (a0 : Int) (a1 : Int) (K : TV → Option β) : evFn lay (VE187 N q_impl_Table_not) Try.f187 [.v (.agg [.int .i64 a0, .int .i64 a1])] K = BV_impl_Table_isSame N q_impl_Table_not a0 a1 (fun z2 => K (.v (.one (.bool z2)))) := by kernel_rfl
theorem e187_0 {β : Type} (N : Nat)  (a0 : Int) (a1 : Int) (K : TV → Option β) : evFn lay (E187 N) Try.f187 [.v (.agg [.int .i64 a0, .int .i64 a1])] K = impl_Table_isSame N a0 a1 (fun z2 => K (.v (.one (.bool z2)))) := (ve187_0 N (impl_Table_not N) a0 a1 K).trans (t_impl_Table_isSame N a0 a1 (fun z2 => K (.v (.one (.bool z2))))).symm
theorem o187 {β : Type} (N : Nat) : SpecOK (β := β) inv Try.prog 187 (S187 N) := by
  refine spec_of lay_ok mixed (E := E187 N) (specs_loops (specs_cons (o117 N) specs_nil)) muts_nil gs_nil Try.func187 (by kernel_rfl) 0 (by kernel_rfl) trivial fun args K r h => ?_
  unfold S187 VS187 at h
  split at h
  · exact (e187_0 N _ _ _).trans h
  · cases h
def VS97 {β : Type} (N : Nat) (q_impl_Table_at : (a0 : Int) → (a1 : Int) → (a2 : Int) → (k : Int → Option β) → Option β) : Rv.Spec β := fun args K => match args with
  | [.v (.agg [.int .i64 a0, .int .i64 a1]), .v (.one (.int .i64 a2))] => q_impl_Table_at a0 a1 a2 (fun z3 => K (.v (.one (.int .i64 z3))))
  | _ => none
def S97 {β : Type} (N : Nat) : Rv.Spec β := VS97 N (impl_Table_at N)
def VE97 {β : Type} (N : Nat) : Env β := ⟨[], [], [], [], ⟨[], [], [106], [147, 148, 186]⟩⟩
def E97 {β : Type} (N : Nat) : Env β := VE97 N
def BV_impl_Table_at {β : Type} (N : Nat) (a0 : Int) (a1 : Int) (a2 : Int) (k : Int → Option β) : Option β :=
(gd ((decide (0 ≤ a2)))
(k ((bits .and .i64 (shrI .i64 a1 a2) 1))))
theorem t_impl_Table_at {β : Type} (N : Nat) (a0 : Int) (a1 : Int) (a2 : Int) (k : Int → Option β) : impl_Table_at N a0 a1 a2 k = BV_impl_Table_at N a0 a1 a2 k := by
  unfold impl_Table_at BV_impl_Table_at
  rfl
theorem ve97_0 {β : Type} (N : Nat)  (a0 : Int) (a1 : Int) (a2 : Int) (K : TV → Option β) : evFn lay (VE97 N) Try.f97 [.v (.agg [.int .i64 a0, .int .i64 a1]), .v (.one (.int .i64 a2))] K = BV_impl_Table_at N a0 a1 a2 (fun z3 => K (.v (.one (.int .i64 z3)))) := by kernel_rfl
theorem e97_0 {β : Type} (N : Nat)  (a0 : Int) (a1 : Int) (a2 : Int) (K : TV → Option β) : evFn lay (E97 N) Try.f97 [.v (.agg [.int .i64 a0, .int .i64 a1]), .v (.one (.int .i64 a2))] K = impl_Table_at N a0 a1 a2 (fun z3 => K (.v (.one (.int .i64 z3)))) := (ve97_0 N a0 a1 a2 K).trans (t_impl_Table_at N a0 a1 a2 (fun z3 => K (.v (.one (.int .i64 z3))))).symm
theorem o97 {β : Type} (N : Nat) : SpecOK (β := β) inv Try.prog 97 (S97 N) := by
  refine spec_of lay_ok mixed (E := E97 N) (specs_loops specs_nil) muts_nil gs_nil Try.func97 (by kernel_rfl) 0 (by kernel_rfl) trivial fun args K r h => ?_
  unfold S97 VS97 at h
  split at h
  · exact (e97_0 N _ _ _ _).trans h
  · cases h
def VS159 {β : Type} (N : Nat) (q_impl_spread : (a0 : Int) → (a1 : Int) → (a2 : Int) → (k : Int → Option β) → Option β) : Rv.Spec β := fun args K => match args with
  | [.v (.one (.int .i64 a0)), .v (.one (.int .i64 a1)), .v (.one (.int .i64 a2))] => q_impl_spread a0 a1 a2 (fun z3 => K (.v (.one (.int .i64 z3))))
  | _ => none
def S159 {β : Type} (N : Nat) : Rv.Spec β := VS159 N (impl_spread N)
def VE159 {β : Type} (N : Nat) : Env β := ⟨[], [], [], [], ⟨[], [], [106], [147, 148, 186]⟩⟩
def E159 {β : Type} (N : Nat) : Env β := VE159 N
def BV_impl_spread {β : Type} (N : Nat) (a0 : Int) (a1 : Int) (a2 : Int) (k : Int → Option β) : Option β :=
(gd ((decide (0 ≤ a1)))
((gd ((decide (0 ≤ a1)))
(k ((bits .or .i64 (bits .or .i64 (shlI .i64 (w64 (a0 - (bits .and .i64 a0 (w64 ((shlI .i64 1 a1) - 1))))) 1) (shlI .i64 a2 a1)) (bits .and .i64 a0 (w64 ((shlI .i64 1 a1) - 1)))))))))
theorem t_impl_spread {β : Type} (N : Nat) (a0 : Int) (a1 : Int) (a2 : Int) (k : Int → Option β) : impl_spread N a0 a1 a2 k = BV_impl_spread N a0 a1 a2 k := by
  unfold impl_spread BV_impl_spread
  rfl
theorem ve159_0 {β : Type} (N : Nat)  (a0 : Int) (a1 : Int) (a2 : Int) (K : TV → Option β) : evFn lay (VE159 N) Try.f159 [.v (.one (.int .i64 a0)), .v (.one (.int .i64 a1)), .v (.one (.int .i64 a2))] K = BV_impl_spread N a0 a1 a2 (fun z3 => K (.v (.one (.int .i64 z3)))) := by kernel_rfl
theorem e159_0 {β : Type} (N : Nat)  (a0 : Int) (a1 : Int) (a2 : Int) (K : TV → Option β) : evFn lay (E159 N) Try.f159 [.v (.one (.int .i64 a0)), .v (.one (.int .i64 a1)), .v (.one (.int .i64 a2))] K = impl_spread N a0 a1 a2 (fun z3 => K (.v (.one (.int .i64 z3)))) := (ve159_0 N a0 a1 a2 K).trans (t_impl_spread N a0 a1 a2 (fun z3 => K (.v (.one (.int .i64 z3))))).symm
theorem o159 {β : Type} (N : Nat) : SpecOK (β := β) inv Try.prog 159 (S159 N) := by
  refine spec_of lay_ok mixed (E := E159 N) (specs_loops specs_nil) muts_nil gs_nil Try.func159 (by kernel_rfl) 0 (by kernel_rfl) trivial fun args K r h => ?_
  unfold S159 VS159 at h
  split at h
  · exact (e159_0 N _ _ _ _).trans h
  · cases h
def VS158 {β : Type} (N : Nat) (q_impl_Table_restrict_1 : (a0 : Int) → (c0 : Int) → (c1 : Int) → (c2 : Int) → (c3 : Int) → (k : Bool → Option β) → Option β) : Rv.Spec β := fun args K => match args with
  | [.v (.one (.int .i64 a0)), .v (.one (.cref [.int .i64 c0, .int .i64 c1] 0)), .v (.one (.cref [.int .i64 c2] 0)), .v (.one (.cref [.int .i64 c3] 0))] => q_impl_Table_restrict_1 a0 c0 c1 c2 c3 (fun z1 => K (.v (.one (.bool z1))))
  | _ => none
def S158 {β : Type} (N : Nat) : Rv.Spec β := VS158 N (impl_Table_restrict_1 N)
def VE158 {β : Type} (N : Nat) (q_impl_spread : (a0 : Int) → (a1 : Int) → (a2 : Int) → (k : Int → Option β) → Option β) (q_impl_Table_at : (a0 : Int) → (a1 : Int) → (a2 : Int) → (k : Int → Option β) → Option β) : Env β := ⟨[(159, VS159 N q_impl_spread), (97, VS97 N q_impl_Table_at)], [], [], [], ⟨[], [], [106], [147, 148, 186]⟩⟩
def E158 {β : Type} (N : Nat) : Env β := VE158 N (impl_spread N) (impl_Table_at N)
def BV_impl_Table_restrict_1 {β : Type} (N : Nat) (q_impl_spread : (a0 : Int) → (a1 : Int) → (a2 : Int) → (k : Int → Option β) → Option β) (q_impl_Table_at : (a0 : Int) → (a1 : Int) → (a2 : Int) → (k : Int → Option β) → Option β) (a0 : Int) (c0 : Int) (c1 : Int) (c2 : Int) (c3 : Int) (k : Bool → Option β) : Option β :=
q_impl_spread a0 c2 c3 fun r2 =>
q_impl_Table_at c0 c1 r2 fun r3 =>
k ((r3 == 1))
theorem t_impl_Table_restrict_1 {β : Type} (N : Nat) (a0 : Int) (c0 : Int) (c1 : Int) (c2 : Int) (c3 : Int) (k : Bool → Option β) : impl_Table_restrict_1 N a0 c0 c1 c2 c3 k = BV_impl_Table_restrict_1 N (impl_spread N) (impl_Table_at N) a0 c0 c1 c2 c3 k := by
  unfold impl_Table_restrict_1 BV_impl_Table_restrict_1
  rfl
theorem ve158_0 {β : Type} (N : Nat) (q_impl_spread : (a0 : Int) → (a1 : Int) → (a2 : Int) → (k : Int → Option β) → Option β) (q_impl_Table_at : (a0 : Int) → (a1 : Int) → (a2 : Int) → (k : Int → Option β) → Option β)  (a0 : Int) (c0 : Int) (c1 : Int) (c2 : Int) (c3 : Int) (K : TV → Option β) : evFn lay (VE158 N q_impl_spread q_impl_Table_at) Try.f158 [.v (.one (.int .i64 a0)), .v (.one (.cref [.int .i64 c0, .int .i64 c1] 0)), .v (.one (.cref [.int .i64 c2] 0)), .v (.one (.cref [.int .i64 c3] 0))] K = BV_impl_Table_restrict_1 N q_impl_spread q_impl_Table_at a0 c0 c1 c2 c3 (fun z1 => K (.v (.one (.bool z1)))) := by kernel_rfl
theorem e158_0 {β : Type} (N : Nat)  (a0 : Int) (c0 : Int) (c1 : Int) (c2 : Int) (c3 : Int) (K : TV → Option β) : evFn lay (E158 N) Try.f158 [.v (.one (.int .i64 a0)), .v (.one (.cref [.int .i64 c0, .int .i64 c1] 0)), .v (.one (.cref [.int .i64 c2] 0)), .v (.one (.cref [.int .i64 c3] 0))] K = impl_Table_restrict_1 N a0 c0 c1 c2 c3 (fun z1 => K (.v (.one (.bool z1)))) := (ve158_0 N (impl_spread N) (impl_Table_at N) a0 c0 c1 c2 c3 K).trans (t_impl_Table_restrict_1 N a0 c0 c1 c2 c3 (fun z1 => K (.v (.one (.bool z1))))).symm
theorem o158 {β : Type} (N : Nat) : SpecOK (β := β) inv Try.prog 158 (S158 N) := by
  refine spec_of lay_ok mixed (E := E158 N) (specs_loops (specs_cons (o159 N) (specs_cons (o97 N) specs_nil))) muts_nil gs_nil Try.func158 (by kernel_rfl) 0 (by kernel_rfl) trivial fun args K r h => ?_
  unfold S158 VS158 at h
  split at h
  · exact (e158_0 N _ _ _ _ _ _).trans h
  · cases h
def VS208 {β : Type} (N : Nat) (q_impl_Table_stuck_1 : (a0 : Int) → (c0 : Int) → (c1 : Int) → (c2 : Int) → (c3 : Int) → (k : Bool → Option β) → Option β) : Rv.Spec β := fun args K => match args with
  | [.v (.one (.int .i64 a0)), .v (.one (.cref [.int .i64 c0, .int .i64 c1] 0)), .v (.one (.cref [.int .i64 c2] 0)), .v (.one (.cref [.int .i64 c3] 0))] => q_impl_Table_stuck_1 a0 c0 c1 c2 c3 (fun z1 => K (.v (.one (.bool z1))))
  | _ => none
def S208 {β : Type} (N : Nat) : Rv.Spec β := VS208 N (impl_Table_stuck_1 N)
def VE208 {β : Type} (N : Nat) (q_impl_Table_at : (a0 : Int) → (a1 : Int) → (a2 : Int) → (k : Int → Option β) → Option β) : Env β := ⟨[(97, VS97 N q_impl_Table_at)], [], [], [], ⟨[], [], [106], [147, 148, 186]⟩⟩
def E208 {β : Type} (N : Nat) : Env β := VE208 N (impl_Table_at N)
def BV_impl_Table_stuck_1 {β : Type} (N : Nat) (q_impl_Table_at : (a0 : Int) → (a1 : Int) → (a2 : Int) → (k : Int → Option β) → Option β) (a0 : Int) (c0 : Int) (c1 : Int) (c2 : Int) (c3 : Int) (k : Bool → Option β) : Option β :=
(gd ((decide (0 ≤ c2)))
((gd ((decide (0 ≤ c2)))
(q_impl_Table_at c0 c1 ((bits .or .i64 (bits .andNot .i64 a0 (shlI .i64 1 c2)) (shlI .i64 c3 c2))) fun r2 =>
k ((r2 == 1))))))
theorem t_impl_Table_stuck_1 {β : Type} (N : Nat) (a0 : Int) (c0 : Int) (c1 : Int) (c2 : Int) (c3 : Int) (k : Bool → Option β) : impl_Table_stuck_1 N a0 c0 c1 c2 c3 k = BV_impl_Table_stuck_1 N (impl_Table_at N) a0 c0 c1 c2 c3 k := by
  unfold impl_Table_stuck_1 BV_impl_Table_stuck_1
  rfl
theorem ve208_0 {β : Type} (N : Nat) (q_impl_Table_at : (a0 : Int) → (a1 : Int) → (a2 : Int) → (k : Int → Option β) → Option β)  (a0 : Int) (c0 : Int) (c1 : Int) (c2 : Int) (c3 : Int) (K : TV → Option β) : evFn lay (VE208 N q_impl_Table_at) Try.f208 [.v (.one (.int .i64 a0)), .v (.one (.cref [.int .i64 c0, .int .i64 c1] 0)), .v (.one (.cref [.int .i64 c2] 0)), .v (.one (.cref [.int .i64 c3] 0))] K = BV_impl_Table_stuck_1 N q_impl_Table_at a0 c0 c1 c2 c3 (fun z1 => K (.v (.one (.bool z1)))) := by kernel_rfl
theorem e208_0 {β : Type} (N : Nat)  (a0 : Int) (c0 : Int) (c1 : Int) (c2 : Int) (c3 : Int) (K : TV → Option β) : evFn lay (E208 N) Try.f208 [.v (.one (.int .i64 a0)), .v (.one (.cref [.int .i64 c0, .int .i64 c1] 0)), .v (.one (.cref [.int .i64 c2] 0)), .v (.one (.cref [.int .i64 c3] 0))] K = impl_Table_stuck_1 N a0 c0 c1 c2 c3 (fun z1 => K (.v (.one (.bool z1)))) := (ve208_0 N (impl_Table_at N) a0 c0 c1 c2 c3 K).trans (t_impl_Table_stuck_1 N a0 c0 c1 c2 c3 (fun z1 => K (.v (.one (.bool z1))))).symm
theorem o208 {β : Type} (N : Nat) : SpecOK (β := β) inv Try.prog 208 (S208 N) := by
  refine spec_of lay_ok mixed (E := E208 N) (specs_loops (specs_cons (o97 N) specs_nil)) muts_nil gs_nil Try.func208 (by kernel_rfl) 0 (by kernel_rfl) trivial fun args K r h => ?_
  unfold S208 VS208 at h
  split at h
  · exact (e208_0 N _ _ _ _ _ _).trans h
  · cases h
def VS115 {β : Type} (N : Nat) (q_impl_makeTable : (a0 : Int) → (a1 : (Int → (Bool → Option β) → Option β)) → (k : Int → Int → Option β) → Option β) (q_impl_Table_restrict_1 : (a0 : Int) → (c0 : Int) → (c1 : Int) → (c2 : Int) → (c3 : Int) → (k : Bool → Option β) → Option β) (q_impl_Table_stuck_1 : (a0 : Int) → (c0 : Int) → (c1 : Int) → (c2 : Int) → (c3 : Int) → (k : Bool → Option β) → Option β) : Rv.Spec β := fun args K => match args with
  | [.v (.one (.int .i64 a0)), .v (.one (.dfn 158 [([.int .i64 q0, .int .i64 q1], 0), ([.int .i64 q2], 0), ([.int .i64 q3], 0)]))] => q_impl_makeTable a0 (fun x0 k => q_impl_Table_restrict_1 x0 q0 q1 q2 q3 k) (fun z2 z3 => K (.v (.agg [.int .i64 z2, .int .i64 z3])))
  | [.v (.one (.int .i64 a0)), .v (.one (.dfn 208 [([.int .i64 q0, .int .i64 q1], 0), ([.int .i64 q2], 0), ([.int .i64 q3], 0)]))] => q_impl_makeTable a0 (fun x0 k => q_impl_Table_stuck_1 x0 q0 q1 q2 q3 k) (fun z2 z3 => K (.v (.agg [.int .i64 z2, .int .i64 z3])))
  | _ => none
def S115 {β : Type} (N : Nat) : Rv.Spec β := VS115 N (impl_makeTable N) (impl_Table_restrict_1 N) (impl_Table_stuck_1 N)
def h115_0_0 (q0 : Int) (q1 : Int) (q2 : Int) (q3 : Int) (v0 : Int) (v1 : Int) (v2 : Int) (v3 : Int) (v4 : Int) (v5 : Int) : St := ⟨.v (.one .und) :: .v (.one (.dfn 158 [([.int .i64 q0, .int .i64 q1], 0), ([.int .i64 q2], 0), ([.int .i64 q3], 0)])) :: .v (.one .und) :: .v (.one .und) :: .v (.one (.ptr 0 0)) :: .v (.one (.ptr 1 0)) :: .v (.one .und) :: .v (.one .und) :: .v (.one .und) :: .v (.one .und) :: .v (.one (.int .i64 v0)) :: .v (.one (.int .i64 v1)) :: .v (.one .und) :: .v (.one .und) :: .v (.one .und) :: .v (.one .und) :: .v (.one .und) :: .v (.one .und) :: .v (.one .und) :: .v (.one .und) :: .v (.one .und) :: .v (.one .und) :: .v (.one .und) :: .v (.one .und) :: .v (.one .und) :: [], [.cells 27 [.int .i64 v2, .int .i64 v3], .cells 27 [.int .i64 v4, .int .i64 v5]]⟩
def x115_0_0_k0 (q0 : Int) (q1 : Int) (q2 : Int) (q3 : Int) (y0 : Int) (y1 : Int) (y2 : Int) (y3 : Int) : St := ⟨.v (.one .und) :: .v (.one .und) :: .v (.one .und) :: .v (.one .und) :: .v (.one (.ptr 0 0)) :: .v (.one (.ptr 1 0)) :: .v (.one .und) :: .v (.one .und) :: .v (.one .und) :: .v (.one .und) :: .v (.one .und) :: .v (.one .und) :: .v (.one .und) :: .v (.one .und) :: .v (.one .und) :: .v (.one .und) :: .v (.one .und) :: .v (.one .und) :: .v (.one .und) :: .v (.one .und) :: .v (.one .und) :: .v (.one .und) :: .v (.one .und) :: .v (.one .und) :: .v (.one .und) :: [], [.cells 27 [.int .i64 y0, .int .i64 y1], .cells 27 [.int .i64 y2, .int .i64 y3]]⟩
def h115_0_1 (q0 : Int) (q1 : Int) (q2 : Int) (q3 : Int) (v0 : Int) (v1 : Int) (v2 : Int) (v3 : Int) (v4 : Int) (v5 : Int) : St := ⟨.v (.one .und) :: .v (.one (.dfn 208 [([.int .i64 q0, .int .i64 q1], 0), ([.int .i64 q2], 0), ([.int .i64 q3], 0)])) :: .v (.one .und) :: .v (.one .und) :: .v (.one (.ptr 0 0)) :: .v (.one (.ptr 1 0)) :: .v (.one .und) :: .v (.one .und) :: .v (.one .und) :: .v (.one .und) :: .v (.one (.int .i64 v0)) :: .v (.one (.int .i64 v1)) :: .v (.one .und) :: .v (.one .und) :: .v (.one .und) :: .v (.one .und) :: .v (.one .und) :: .v (.one .und) :: .v (.one .und) :: .v (.one .und) :: .v (.one .und) :: .v (.one .und) :: .v (.one .und) :: .v (.one .und) :: .v (.one .und) :: [], [.cells 27 [.int .i64 v2, .int .i64 v3], .cells 27 [.int .i64 v4, .int .i64 v5]]⟩
def x115_0_1_k0 (q0 : Int) (q1 : Int) (q2 : Int) (q3 : Int) (y0 : Int) (y1 : Int) (y2 : Int) (y3 : Int) : St := ⟨.v (.one .und) :: .v (.one .und) :: .v (.one .und) :: .v (.one .und) :: .v (.one (.ptr 0 0)) :: .v (.one (.ptr 1 0)) :: .v (.one .und) :: .v (.one .und) :: .v (.one .und) :: .v (.one .und) :: .v (.one .und) :: .v (.one .und) :: .v (.one .und) :: .v (.one .und) :: .v (.one .und) :: .v (.one .und) :: .v (.one .und) :: .v (.one .und) :: .v (.one .und) :: .v (.one .und) :: .v (.one .und) :: .v (.one .und) :: .v (.one .und) :: .v (.one .und) :: .v (.one .und) :: [], [.cells 27 [.int .i64 y0, .int .i64 y1], .cells 27 [.int .i64 y2, .int .i64 y3]]⟩
theorem fl115_0_0 (s : St) : refSt (h115_0_0 0 0 0 0 0 0 0 0 0 0) s = h115_0_0 (intF (nx .no (nx ([], 0) (dfnS (oneA (vT (nx tund s.tmps 1)))) 0).1 0)) (intF (nx .no (nx ([], 0) (dfnS (oneA (vT (nx tund s.tmps 1)))) 0).1 1)) (intF (nx .no (nx ([], 0) (dfnS (oneA (vT (nx tund s.tmps 1)))) 1).1 0)) (intF (nx .no (nx ([], 0) (dfnS (oneA (vT (nx tund s.tmps 1)))) 2).1 0)) (intS (oneA (vT (nx tund s.tmps 10)))) (intS (oneA (vT (nx tund s.tmps 11)))) (intS (nx .und (cellsB (nx .dead s.blks 0)) 0)) (intS (nx .und (cellsB (nx .dead s.blks 0)) 1)) (intS (nx .und (cellsB (nx .dead s.blks 1)) 0)) (intS (nx .und (cellsB (nx .dead s.blks 1)) 1)) := by kernel_rfl
theorem fl115_0_1 (s : St) : refSt (h115_0_1 0 0 0 0 0 0 0 0 0 0) s = h115_0_1 (intF (nx .no (nx ([], 0) (dfnS (oneA (vT (nx tund s.tmps 1)))) 0).1 0)) (intF (nx .no (nx ([], 0) (dfnS (oneA (vT (nx tund s.tmps 1)))) 0).1 1)) (intF (nx .no (nx ([], 0) (dfnS (oneA (vT (nx tund s.tmps 1)))) 1).1 0)) (intF (nx .no (nx ([], 0) (dfnS (oneA (vT (nx tund s.tmps 1)))) 2).1 0)) (intS (oneA (vT (nx tund s.tmps 10)))) (intS (oneA (vT (nx tund s.tmps 11)))) (intS (nx .und (cellsB (nx .dead s.blks 0)) 0)) (intS (nx .und (cellsB (nx .dead s.blks 0)) 1)) (intS (nx .und (cellsB (nx .dead s.blks 1)) 0)) (intS (nx .und (cellsB (nx .dead s.blks 1)) 1)) := by kernel_rfl
def VLS115_0 {β : Type} (N : Nat) (q_impl_makeTable_l0 : (a1 : (Int → (Bool → Option β) → Option β)) → Nat → Int → Int → Int → Int → Int → Int → (Int → Int → Int → Int → Option β) → Option β) (q_impl_Table_restrict_1 : (a0 : Int) → (c0 : Int) → (c1 : Int) → (c2 : Int) → (c3 : Int) → (k : Bool → Option β) → Option β) (q_impl_Table_stuck_1 : (a0 : Int) → (c0 : Int) → (c1 : Int) → (c2 : Int) → (c3 : Int) → (k : Bool → Option β) → Option β) : LSpec β := fun s K => cond (shpSt (h115_0_0 0 0 0 0 0 0 0 0 0 0) s) ((fun (q0 : Int) (q1 : Int) (q2 : Int) (q3 : Int) (v0 : Int) (v1 : Int) (v2 : Int) (v3 : Int) (v4 : Int) (v5 : Int) => q_impl_makeTable_l0 (fun x0 k => q_impl_Table_restrict_1 x0 q0 q1 q2 q3 k) N v0 v1 v2 v3 v4 v5 (fun y0 y1 y2 y3 => K (.exit 0) (x115_0_0_k0 q0 q1 q2 q3 y0 y1 y2 y3))) (intF (nx .no (nx ([], 0) (dfnS (oneA (vT (nx tund s.tmps 1)))) 0).1 0)) (intF (nx .no (nx ([], 0) (dfnS (oneA (vT (nx tund s.tmps 1)))) 0).1 1)) (intF (nx .no (nx ([], 0) (dfnS (oneA (vT (nx tund s.tmps 1)))) 1).1 0)) (intF (nx .no (nx ([], 0) (dfnS (oneA (vT (nx tund s.tmps 1)))) 2).1 0)) (intS (oneA (vT (nx tund s.tmps 10)))) (intS (oneA (vT (nx tund s.tmps 11)))) (intS (nx .und (cellsB (nx .dead s.blks 0)) 0)) (intS (nx .und (cellsB (nx .dead s.blks 0)) 1)) (intS (nx .und (cellsB (nx .dead s.blks 1)) 0)) (intS (nx .und (cellsB (nx .dead s.blks 1)) 1))) (cond (shpSt (h115_0_1 0 0 0 0 0 0 0 0 0 0) s) ((fun (q0 : Int) (q1 : Int) (q2 : Int) (q3 : Int) (v0 : Int) (v1 : Int) (v2 : Int) (v3 : Int) (v4 : Int) (v5 : Int) => q_impl_makeTable_l0 (fun x0 k => q_impl_Table_stuck_1 x0 q0 q1 q2 q3 k) N v0 v1 v2 v3 v4 v5 (fun y0 y1 y2 y3 => K (.exit 0) (x115_0_1_k0 q0 q1 q2 q3 y0 y1 y2 y3))) (intF (nx .no (nx ([], 0) (dfnS (oneA (vT (nx tund s.tmps 1)))) 0).1 0)) (intF (nx .no (nx ([], 0) (dfnS (oneA (vT (nx tund s.tmps 1)))) 0).1 1)) (intF (nx .no (nx ([], 0) (dfnS (oneA (vT (nx tund s.tmps 1)))) 1).1 0)) (intF (nx .no (nx ([], 0) (dfnS (oneA (vT (nx tund s.tmps 1)))) 2).1 0)) (intS (oneA (vT (nx tund s.tmps 10)))) (intS (oneA (vT (nx tund s.tmps 11)))) (intS (nx .und (cellsB (nx .dead s.blks 0)) 0)) (intS (nx .und (cellsB (nx .dead s.blks 0)) 1)) (intS (nx .und (cellsB (nx .dead s.blks 1)) 0)) (intS (nx .und (cellsB (nx .dead s.blks 1)) 1))) (none))
def LS115_0 {β : Type} (N : Nat) : LSpec β := VLS115_0 N (impl_makeTable_l0 N) (impl_Table_restrict_1 N) (impl_Table_stuck_1 N)
def VE115 {β : Type} (N : Nat) (q_impl_Table_restrict_1 : (a0 : Int) → (c0 : Int) → (c1 : Int) → (c2 : Int) → (c3 : Int) → (k : Bool → Option β) → Option β) (q_impl_Table_stuck_1 : (a0 : Int) → (c0 : Int) → (c1 : Int) → (c2 : Int) → (c3 : Int) → (k : Bool → Option β) → Option β) (q_impl_makeTable_l0 : (a1 : (Int → (Bool → Option β) → Option β)) → Nat → Int → Int → Int → Int → Int → Int → (Int → Int → Int → Int → Option β) → Option β) : Env β := ⟨[(158, VS158 N q_impl_Table_restrict_1), (208, VS208 N q_impl_Table_stuck_1)], [], [(0, VLS115_0 N q_impl_makeTable_l0 q_impl_Table_restrict_1 q_impl_Table_stuck_1)], [], ⟨[], [], [106], [147, 148, 186]⟩⟩
def E115 {β : Type} (N : Nat) : Env β := VE115 N (impl_Table_restrict_1 N) (impl_Table_stuck_1 N) (impl_makeTable_l0 N)
def BV_impl_makeTable_l0b {β : Type} (N : Nat) (a1 : (Int → (Bool → Option β) → Option β)) (v0 : Int) (v1 : Int) (v2 : Int) (v3 : Int) (v4 : Int) (v5 : Int) (rec_ : Int → Int → Int → Int → Int → Int → Option β) (k0 : Int → Int → Int → Int → Option β) : Option β :=
(cond ((decide (v1 < v0)))
(a1 v1 fun r4 =>
(cond r4
((gd ((decide (0 ≤ v1)))
(rec_ v0 ((w64 (v1 + 1))) v2 v3 v4 ((bits .or .i64 v5 (shlI .i64 1 v1))))))
(rec_ v0 ((w64 (v1 + 1))) v2 v3 v4 v5)))
(k0 v2 v3 v4 v5))
theorem t_impl_makeTable_l0b {β : Type} (N : Nat) (a1 : (Int → (Bool → Option β) → Option β)) (v0 : Int) (v1 : Int) (v2 : Int) (v3 : Int) (v4 : Int) (v5 : Int) (rec_ : Int → Int → Int → Int → Int → Int → Option β) (k0 : Int → Int → Int → Int → Option β) : impl_makeTable_l0b N a1 v0 v1 v2 v3 v4 v5 rec_ k0 = BV_impl_makeTable_l0b N a1 v0 v1 v2 v3 v4 v5 rec_ k0 := by
  unfold impl_makeTable_l0b BV_impl_makeTable_l0b
  rfl
theorem vst115_0_0 {β : Type} (N : Nat) (q_impl_Table_restrict_1 : (a0 : Int) → (c0 : Int) → (c1 : Int) → (c2 : Int) → (c3 : Int) → (k : Bool → Option β) → Option β) (q_impl_Table_stuck_1 : (a0 : Int) → (c0 : Int) → (c1 : Int) → (c2 : Int) → (c3 : Int) → (k : Bool → Option β) → Option β) (q_impl_makeTable_l0 : (a1 : (Int → (Bool → Option β) → Option β)) → Nat → Int → Int → Int → Int → Int → Int → (Int → Int → Int → Int → Option β) → Option β) (q0 : Int) (q1 : Int) (q2 : Int) (q3 : Int) (v0 : Int) (v1 : Int) (v2 : Int) (v3 : Int) (v4 : Int) (v5 : Int) (rec_ : St → Option β) (K : Exit → St → Option β) :
    ev lay (VE115 N q_impl_Table_restrict_1 q_impl_Table_stuck_1 q_impl_makeTable_l0) (retMask Try.f115) (lp Try.f115 0).body (lp Try.f115 0).ex ((lp Try.f115 0).lv (retMask Try.f115)) (h115_0_0 q0 q1 q2 q3 v0 v1 v2 v3 v4 v5) (nextR (fun s' => rec_ (s'.tidy ((lp Try.f115 0).lv (retMask Try.f115)))) K) = BV_impl_makeTable_l0b N (fun x0 k => q_impl_Table_restrict_1 x0 q0 q1 q2 q3 k) v0 v1 v2 v3 v4 v5 (fun v0 v1 v2 v3 v4 v5 => rec_ (h115_0_0 q0 q1 q2 q3 v0 v1 v2 v3 v4 v5)) (fun y0 y1 y2 y3 => K (.exit 0) (x115_0_0_k0 q0 q1 q2 q3 y0 y1 y2 y3)) := by kernel_rfl
theorem st115_0_0 {β : Type} (N : Nat) (q0 : Int) (q1 : Int) (q2 : Int) (q3 : Int) (v0 : Int) (v1 : Int) (v2 : Int) (v3 : Int) (v4 : Int) (v5 : Int) (rec_ : St → Option β) (K : Exit → St → Option β) :
    ev lay (E115 N) (retMask Try.f115) (lp Try.f115 0).body (lp Try.f115 0).ex ((lp Try.f115 0).lv (retMask Try.f115)) (h115_0_0 q0 q1 q2 q3 v0 v1 v2 v3 v4 v5) (nextR (fun s' => rec_ (s'.tidy ((lp Try.f115 0).lv (retMask Try.f115)))) K) = impl_makeTable_l0b N (fun x0 k => impl_Table_restrict_1 N x0 q0 q1 q2 q3 k) v0 v1 v2 v3 v4 v5 (fun v0 v1 v2 v3 v4 v5 => rec_ (h115_0_0 q0 q1 q2 q3 v0 v1 v2 v3 v4 v5)) (fun y0 y1 y2 y3 => K (.exit 0) (x115_0_0_k0 q0 q1 q2 q3 y0 y1 y2 y3)) := (vst115_0_0 N (impl_Table_restrict_1 N) (impl_Table_stuck_1 N) (impl_makeTable_l0 N) q0 q1 q2 q3 v0 v1 v2 v3 v4 v5 rec_ K).trans (t_impl_makeTable_l0b N (fun x0 k => impl_Table_restrict_1 N x0 q0 q1 q2 q3 k) v0 v1 v2 v3 v4 v5 (fun v0 v1 v2 v3 v4 v5 => rec_ (h115_0_0 q0 q1 q2 q3 v0 v1 v2 v3 v4 v5)) (fun y0 y1 y2 y3 => K (.exit 0) (x115_0_0_k0 q0 q1 q2 q3 y0 y1 y2 y3))).symm
theorem ro115_0_0 {β : Type} (N : Nat) (q0 : Int) (q1 : Int) (q2 : Int) (q3 : Int) (K : Exit → St → Option β) : ∀ (F : Nat) (v0 : Int) (v1 : Int) (v2 : Int) (v3 : Int) (v4 : Int) (v5 : Int), (lp Try.f115 0).rounds lay (E115 N) (retMask Try.f115) F (h115_0_0 q0 q1 q2 q3 v0 v1 v2 v3 v4 v5) K = impl_makeTable_l0 N (fun x0 k => impl_Table_restrict_1 N x0 q0 q1 q2 q3 k) F v0 v1 v2 v3 v4 v5 (fun y0 y1 y2 y3 => K (.exit 0) (x115_0_0_k0 q0 q1 q2 q3 y0 y1 y2 y3)) := by
  intro F
  induction F with
  | zero => intros; rfl
  | succ F ih =>
    intros
    rw [rounds_next]
    refine (st115_0_0 N q0 q1 q2 q3 _ _ _ _ _ _ (fun s => (lp Try.f115 0).rounds lay (E115 N) (retMask Try.f115) F s K) K).trans ?_
    simp only [ih]
    rfl
theorem vst115_0_1 {β : Type} (N : Nat) (q_impl_Table_restrict_1 : (a0 : Int) → (c0 : Int) → (c1 : Int) → (c2 : Int) → (c3 : Int) → (k : Bool → Option β) → Option β) (q_impl_Table_stuck_1 : (a0 : Int) → (c0 : Int) → (c1 : Int) → (c2 : Int) → (c3 : Int) → (k : Bool → Option β) → Option β) (q_impl_makeTable_l0 : (a1 : (Int → (Bool → Option β) → Option β)) → Nat → Int → Int → Int → Int → Int → Int → (Int → Int → Int → Int → Option β) → Option β) (q0 : Int) (q1 : Int) (q2 : Int) (q3 : Int) (v0 : Int) (v1 : Int) (v2 : Int) (v3 : Int) (v4 : Int) (v5 : Int) (rec_ : St → Option β) (K : Exit → St → Option β) :
    ev lay (VE115 N q_impl_Table_restrict_1 q_impl_Table_stuck_1 q_impl_makeTable_l0) (retMask Try.f115) (lp Try.f115 0).body (lp Try.f115 0).ex ((lp Try.f115 0).lv (retMask Try.f115)) (h115_0_1 q0 q1 q2 q3 v0 v1 v2 v3 v4 v5) (nextR (fun s' => rec_ (s'.tidy ((lp Try.f115 0).lv (retMask Try.f115)))) K) = BV_impl_makeTable_l0b N (fun x0 k => q_impl_Table_stuck_1 x0 q0 q1 q2 q3 k) v0 v1 v2 v3 v4 v5 (fun v0 v1 v2 v3 v4 v5 => rec_ (h115_0_1 q0 q1 q2 q3 v0 v1 v2 v3 v4 v5)) (fun y0 y1 y2 y3 => K (.exit 0) (x115_0_1_k0 q0 q1 q2 q3 y0 y1 y2 y3)) := by kernel_rfl
theorem st115_0_1 {β : Type} (N : Nat) (q0 : Int) (q1 : Int) (q2 : Int) (q3 : Int) (v0 : Int) (v1 : Int) (v2 : Int) (v3 : Int) (v4 : Int) (v5 : Int) (rec_ : St → Option β) (K : Exit → St → Option β) :
    ev lay (E115 N) (retMask Try.f115) (lp Try.f115 0).body (lp Try.f115 0).ex ((lp Try.f115 0).lv (retMask Try.f115)) (h115_0_1 q0 q1 q2 q3 v0 v1 v2 v3 v4 v5) (nextR (fun s' => rec_ (s'.tidy ((lp Try.f115 0).lv (retMask Try.f115)))) K) = impl_makeTable_l0b N (fun x0 k => impl_Table_stuck_1 N x0 q0 q1 q2 q3 k) v0 v1 v2 v3 v4 v5 (fun v0 v1 v2 v3 v4 v5 => rec_ (h115_0_1 q0 q1 q2 q3 v0 v1 v2 v3 v4 v5)) (fun y0 y1 y2 y3 => K (.exit 0) (x115_0_1_k0 q0 q1 q2 q3 y0 y1 y2 y3)) := (vst115_0_1 N (impl_Table_restrict_1 N) (impl_Table_stuck_1 N) (impl_makeTable_l0 N) q0 q1 q2 q3 v0 v1 v2 v3 v4 v5 rec_ K).trans (t_impl_makeTable_l0b N (fun x0 k => impl_Table_stuck_1 N x0 q0 q1 q2 q3 k) v0 v1 v2 v3 v4 v5 (fun v0 v1 v2 v3 v4 v5 => rec_ (h115_0_1 q0 q1 q2 q3 v0 v1 v2 v3 v4 v5)) (fun y0 y1 y2 y3 => K (.exit 0) (x115_0_1_k0 q0 q1 q2 q3 y0 y1 y2 y3))).symm
theorem ro115_0_1 {β : Type} (N : Nat) (q0 : Int) (q1 : Int) (q2 : Int) (q3 : Int) (K : Exit → St → Option β) : ∀ (F : Nat) (v0 : Int) (v1 : Int) (v2 : Int) (v3 : Int) (v4 : Int) (v5 : Int), (lp Try.f115 0).rounds lay (E115 N) (retMask Try.f115) F (h115_0_1 q0 q1 q2 q3 v0 v1 v2 v3 v4 v5) K = impl_makeTable_l0 N (fun x0 k => impl_Table_stuck_1 N x0 q0 q1 q2 q3 k) F v0 v1 v2 v3 v4 v5 (fun y0 y1 y2 y3 => K (.exit 0) (x115_0_1_k0 q0 q1 q2 q3 y0 y1 y2 y3)) := by
  intro F
  induction F with
  | zero => intros; rfl
  | succ F ih =>
    intros
    rw [rounds_next]
    refine (st115_0_1 N q0 q1 q2 q3 _ _ _ _ _ _ (fun s => (lp Try.f115 0).rounds lay (E115 N) (retMask Try.f115) F s K) K).trans ?_
    simp only [ih]
    rfl
theorem lk115_0 {β : Type} (N : Nat) : lookL (E115 (β := β) N).loops (lp Try.f115 0).id = LS115_0 N := by kernel_rfl
theorem rk115_0 {β : Type} (N : Nat) : RoundsOK lay (E115 (β := β) N) (retMask Try.f115) (lp Try.f115 0) := by
  intro s K r h
  rw [lk115_0] at h
  unfold LS115_0 VLS115_0 at h
  cases hb : shpSt (h115_0_0 0 0 0 0 0 0 0 0 0 0) s with
  | true =>
    rw [hb, cond_true] at h
    exact ⟨N, by rw [← shpSt_ref hb, fl115_0_0 s]; exact (ro115_0_0 N (intF (nx .no (nx ([], 0) (dfnS (oneA (vT (nx tund s.tmps 1)))) 0).1 0)) (intF (nx .no (nx ([], 0) (dfnS (oneA (vT (nx tund s.tmps 1)))) 0).1 1)) (intF (nx .no (nx ([], 0) (dfnS (oneA (vT (nx tund s.tmps 1)))) 1).1 0)) (intF (nx .no (nx ([], 0) (dfnS (oneA (vT (nx tund s.tmps 1)))) 2).1 0)) K N (intS (oneA (vT (nx tund s.tmps 10)))) (intS (oneA (vT (nx tund s.tmps 11)))) (intS (nx .und (cellsB (nx .dead s.blks 0)) 0)) (intS (nx .und (cellsB (nx .dead s.blks 0)) 1)) (intS (nx .und (cellsB (nx .dead s.blks 1)) 0)) (intS (nx .und (cellsB (nx .dead s.blks 1)) 1))).trans h⟩
  | false =>
  rw [hb, cond_false] at h
  clear hb
  cases hb : shpSt (h115_0_1 0 0 0 0 0 0 0 0 0 0) s with
  | true =>
    rw [hb, cond_true] at h
    exact ⟨N, by rw [← shpSt_ref hb, fl115_0_1 s]; exact (ro115_0_1 N (intF (nx .no (nx ([], 0) (dfnS (oneA (vT (nx tund s.tmps 1)))) 0).1 0)) (intF (nx .no (nx ([], 0) (dfnS (oneA (vT (nx tund s.tmps 1)))) 0).1 1)) (intF (nx .no (nx ([], 0) (dfnS (oneA (vT (nx tund s.tmps 1)))) 1).1 0)) (intF (nx .no (nx ([], 0) (dfnS (oneA (vT (nx tund s.tmps 1)))) 2).1 0)) K N (intS (oneA (vT (nx tund s.tmps 10)))) (intS (oneA (vT (nx tund s.tmps 11)))) (intS (nx .und (cellsB (nx .dead s.blks 0)) 0)) (intS (nx .und (cellsB (nx .dead s.blks 0)) 1)) (intS (nx .und (cellsB (nx .dead s.blks 1)) 0)) (intS (nx .und (cellsB (nx .dead s.blks 1)) 1))).trans h⟩
  | false =>
  rw [hb, cond_false] at h
  clear hb
  cases h
def BV_impl_makeTable {β : Type} (N : Nat) (q_impl_makeTable_l0 : (a1 : (Int → (Bool → Option β) → Option β)) → Nat → Int → Int → Int → Int → Int → Int → (Int → Int → Int → Int → Option β) → Option β) (a0 : Int) (a1 : (Int → (Bool → Option β) → Option β)) (k : Int → Int → Option β) : Option β :=
(gd ((decide (0 ≤ a0)))
(q_impl_makeTable_l0 a1 N ((shlI .i64 1 a0)) 0 0 0 a0 0 (fun e5_0 e5_1 e5_2 e5_3 =>
k e5_2 e5_3)))
theorem t_impl_makeTable {β : Type} (N : Nat) (a0 : Int) (a1 : (Int → (Bool → Option β) → Option β)) (k : Int → Int → Option β) : impl_makeTable N a0 a1 k = BV_impl_makeTable N (impl_makeTable_l0 N) a0 a1 k := by
  unfold impl_makeTable BV_impl_makeTable
  rfl
theorem ve115_0 {β : Type} (N : Nat) (q_impl_Table_restrict_1 : (a0 : Int) → (c0 : Int) → (c1 : Int) → (c2 : Int) → (c3 : Int) → (k : Bool → Option β) → Option β) (q_impl_Table_stuck_1 : (a0 : Int) → (c0 : Int) → (c1 : Int) → (c2 : Int) → (c3 : Int) → (k : Bool → Option β) → Option β) (q_impl_makeTable_l0 : (a1 : (Int → (Bool → Option β) → Option β)) → Nat → Int → Int → Int → Int → Int → Int → (Int → Int → Int → Int → Option β) → Option β) (q0 : Int) (q1 : Int) (q2 : Int) (q3 : Int) (a0 : Int) (K : TV → Option β) : evFn lay (VE115 N q_impl_Table_restrict_1 q_impl_Table_stuck_1 q_impl_makeTable_l0) Try.f115 [.v (.one (.int .i64 a0)), .v (.one (.dfn 158 [([.int .i64 q0, .int .i64 q1], 0), ([.int .i64 q2], 0), ([.int .i64 q3], 0)]))] K = BV_impl_makeTable N q_impl_makeTable_l0 a0 (fun x0 k => q_impl_Table_restrict_1 x0 q0 q1 q2 q3 k) (fun z2 z3 => K (.v (.agg [.int .i64 z2, .int .i64 z3]))) := by kernel_rfl
theorem e115_0 {β : Type} (N : Nat) (q0 : Int) (q1 : Int) (q2 : Int) (q3 : Int) (a0 : Int) (K : TV → Option β) : evFn lay (E115 N) Try.f115 [.v (.one (.int .i64 a0)), .v (.one (.dfn 158 [([.int .i64 q0, .int .i64 q1], 0), ([.int .i64 q2], 0), ([.int .i64 q3], 0)]))] K = impl_makeTable N a0 (fun x0 k => impl_Table_restrict_1 N x0 q0 q1 q2 q3 k) (fun z2 z3 => K (.v (.agg [.int .i64 z2, .int .i64 z3]))) := (ve115_0 N (impl_Table_restrict_1 N) (impl_Table_stuck_1 N) (impl_makeTable_l0 N) q0 q1 q2 q3 a0 K).trans (t_impl_makeTable N a0 (fun x0 k => impl_Table_restrict_1 N x0 q0 q1 q2 q3 k) (fun z2 z3 => K (.v (.agg [.int .i64 z2, .int .i64 z3])))).symm
theorem ve115_1 {β : Type} (N : Nat) (q_impl_Table_restrict_1 : (a0 : Int) → (c0 : Int) → (c1 : Int) → (c2 : Int) → (c3 : Int) → (k : Bool → Option β) → Option β) (q_impl_Table_stuck_1 : (a0 : Int) → (c0 : Int) → (c1 : Int) → (c2 : Int) → (c3 : Int) → (k : Bool → Option β) → Option β) (q_impl_makeTable_l0 : (a1 : (Int → (Bool → Option β) → Option β)) → Nat → Int → Int → Int → Int → Int → Int → (Int → Int → Int → Int → Option β) → Option β) (q0 : Int) (q1 : Int) (q2 : Int) (q3 : Int) (a0 : Int) (K : TV → Option β) : evFn lay (VE115 N q_impl_Table_restrict_1 q_impl_Table_stuck_1 q_impl_makeTable_l0) Try.f115 [.v (.one (.int .i64 a0)), .v (.one (.dfn 208 [([.int .i64 q0, .int .i64 q1], 0), ([.int .i64 q2], 0), ([.int .i64 q3], 0)]))] K = BV_impl_makeTable N q_impl_makeTable_l0 a0 (fun x0 k => q_impl_Table_stuck_1 x0 q0 q1 q2 q3 k) (fun z2 z3 => K (.v (.agg [.int .i64 z2, .int .i64 z3]))) := by kernel_rfl
theorem e115_1 {β : Type} (N : Nat) (q0 : Int) (q1 : Int) (q2 : Int) (q3 : Int) (a0 : Int) (K : TV → Option β) : evFn lay (E115 N) Try.f115 [.v (.one (.int .i64 a0)), .v (.one (.dfn 208 [([.int .i64 q0, .int .i64 q1], 0), ([.int .i64 q2], 0), ([.int .i64 q3], 0)]))] K = impl_makeTable N a0 (fun x0 k => impl_Table_stuck_1 N x0 q0 q1 q2 q3 k) (fun z2 z3 => K (.v (.agg [.int .i64 z2, .int .i64 z3]))) := (ve115_1 N (impl_Table_restrict_1 N) (impl_Table_stuck_1 N) (impl_makeTable_l0 N) q0 q1 q2 q3 a0 K).trans (t_impl_makeTable N a0 (fun x0 k => impl_Table_stuck_1 N x0 q0 q1 q2 q3 k) (fun z2 z3 => K (.v (.agg [.int .i64 z2, .int .i64 z3])))).symm
theorem o115 {β : Type} (N : Nat) : SpecOK (β := β) inv Try.prog 115 (S115 N) := by
  refine spec_of lay_ok mixed (E := E115 N) (specs_loops (specs_cons (o158 N) (specs_cons (o208 N) specs_nil))) muts_nil gs_nil Try.func115 (by kernel_rfl) 1 (by kernel_rfl) ⟨trivial, rk115_0 N⟩ fun args K r h => ?_
  unfold S115 VS115 at h
  split at h
  · exact (e115_0 N _ _ _ _ _ _).trans h
  · exact (e115_1 N _ _ _ _ _ _).trans h
  · cases h
def VS120 {β : Type} (N : Nat) (q_impl_Table_restrict : (a0 : Int) → (a1 : Int) → (a2 : Int) → (a3 : Int) → (k : Int → Int → Option β) → Option β) : Rv.Spec β := fun args K => match args with
  | [.v (.agg [.int .i64 a0, .int .i64 a1]), .v (.one (.int .i64 a2)), .v (.one (.int .i64 a3))] => q_impl_Table_restrict a0 a1 a2 a3 (fun z4 z5 => K (.v (.agg [.int .i64 z4, .int .i64 z5])))
  | _ => none
def S120 {β : Type} (N : Nat) : Rv.Spec β := VS120 N (impl_Table_restrict N)
def VE120 {β : Type} (N : Nat) (q_impl_makeTable : (a0 : Int) → (a1 : (Int → (Bool → Option β) → Option β)) → (k : Int → Int → Option β) → Option β) (q_impl_Table_restrict_1 : (a0 : Int) → (c0 : Int) → (c1 : Int) → (c2 : Int) → (c3 : Int) → (k : Bool → Option β) → Option β) (q_impl_Table_stuck_1 : (a0 : Int) → (c0 : Int) → (c1 : Int) → (c2 : Int) → (c3 : Int) → (k : Bool → Option β) → Option β) : Env β := ⟨[(115, VS115 N q_impl_makeTable q_impl_Table_restrict_1 q_impl_Table_stuck_1), (158, VS158 N q_impl_Table_restrict_1)], [], [], [], ⟨[], [], [106], [147, 148, 186]⟩⟩
def E120 {β : Type} (N : Nat) : Env β := VE120 N (impl_makeTable N) (impl_Table_restrict_1 N) (impl_Table_stuck_1 N)
def BV_impl_Table_restrict {β : Type} (N : Nat) (q_impl_makeTable : (a0 : Int) → (a1 : (Int → (Bool → Option β) → Option β)) → (k : Int → Int → Option β) → Option β) (q_impl_Table_restrict_1 : (a0 : Int) → (c0 : Int) → (c1 : Int) → (c2 : Int) → (c3 : Int) → (k : Bool → Option β) → Option β) (a0 : Int) (a1 : Int) (a2 : Int) (a3 : Int) (k : Int → Int → Option β) : Option β :=
q_impl_makeTable ((w64 (a0 - 1))) (fun x0 k => q_impl_Table_restrict_1 x0 a0 a1 a2 a3 k) fun r6 r7 =>
k r6 r7
theorem t_impl_Table_restrict {β : Type} (N : Nat) (a0 : Int) (a1 : Int) (a2 : Int) (a3 : Int) (k : Int → Int → Option β) : impl_Table_restrict N a0 a1 a2 a3 k = BV_impl_Table_restrict N (impl_makeTable N) (impl_Table_restrict_1 N) a0 a1 a2 a3 k := by
  unfold impl_Table_restrict BV_impl_Table_restrict
  rfl
theorem ve120_0 {β : Type} (N : Nat) (q_impl_makeTable : (a0 : Int) → (a1 : (Int → (Bool → Option β) → Option β)) → (k : Int → Int → Option β) → Option β) (q_impl_Table_restrict_1 : (a0 : Int) → (c0 : Int) → (c1 : Int) → (c2 : Int) → (c3 : Int) → (k : Bool → Option β) → Option β) (q_impl_Table_stuck_1 : (a0 : Int) → (c0 : Int) → (c1 : Int) → (c2 : Int) → (c3 : Int) → (k : Bool → Option β) → Option β)  (a0 : Int) (a1 : Int) (a2 : Int) (a3 : Int) (K : TV → Option β) : evFn lay (VE120 N q_impl_makeTable q_impl_Table_restrict_1 q_impl_Table_stuck_1) Try.f120 [.v (.agg [.int .i64 a0, .int .i64 a1]), .v (.one (.int .i64 a2)), .v (.one (.int .i64 a3))] K = BV_impl_Table_restrict N q_impl_makeTable q_impl_Table_restrict_1 a0 a1 a2 a3 (fun z4 z5 => K (.v (.agg [.int .i64 z4, .int .i64 z5]))) := by kernel_rfl
theorem e120_0 {β : Type} (N : Nat)  (a0 : Int) (a1 : Int) (a2 : Int) (a3 : Int) (K : TV → Option β) : evFn lay (E120 N) Try.f120 [.v (.agg [.int .i64 a0, .int .i64 a1]), .v (.one (.int .i64 a2)), .v (.one (.int .i64 a3))] K = impl_Table_restrict N a0 a1 a2 a3 (fun z4 z5 => K (.v (.agg [.int .i64 z4, .int .i64 z5]))) := (ve120_0 N (impl_makeTable N) (impl_Table_restrict_1 N) (impl_Table_stuck_1 N) a0 a1 a2 a3 K).trans (t_impl_Table_restrict N a0 a1 a2 a3 (fun z4 z5 => K (.v (.agg [.int .i64 z4, .int .i64 z5])))).symm
theorem o120 {β : Type} (N : Nat) : SpecOK (β := β) inv Try.prog 120 (S120 N) := by
  refine spec_of lay_ok mixed (E := E120 N) (specs_loops (specs_cons (o115 N) (specs_cons (o158 N) specs_nil))) muts_nil gs_nil Try.func120 (by kernel_rfl) 0 (by kernel_rfl) trivial fun args K r h => ?_
  unfold S120 VS120 at h
  split at h
  · exact (e120_0 N _ _ _ _ _).trans h
  · cases h
def VS85 {β : Type} (N : Nat) (q_impl_Table_depends : (a0 : Int) → (a1 : Int) → (a2 : Int) → (k : Bool → Option β) → Option β) : Rv.Spec β := fun args K => match args with
  | [.v (.agg [.int .i64 a0, .int .i64 a1]), .v (.one (.int .i64 a2))] => q_impl_Table_depends a0 a1 a2 (fun z3 => K (.v (.one (.bool z3))))
  | _ => none
def S85 {β : Type} (N : Nat) : Rv.Spec β := VS85 N (impl_Table_depends N)
def VE85 {β : Type} (N : Nat) (q_impl_Table_restrict : (a0 : Int) → (a1 : Int) → (a2 : Int) → (a3 : Int) → (k : Int → Int → Option β) → Option β) : Env β := ⟨[(120, VS120 N q_impl_Table_restrict)], [], [], [], ⟨[], [], [106], [147, 148, 186]⟩⟩
def E85 {β : Type} (N : Nat) : Env β := VE85 N (impl_Table_restrict N)
def BV_impl_Table_depends {β : Type} (N : Nat) (q_impl_Table_restrict : (a0 : Int) → (a1 : Int) → (a2 : Int) → (a3 : Int) → (k : Int → Int → Option β) → Option β) (a0 : Int) (a1 : Int) (a2 : Int) (k : Bool → Option β) : Option β :=
q_impl_Table_restrict a0 a1 a2 0 fun r4 r5 =>
q_impl_Table_restrict a0 a1 a2 1 fun r6 r7 =>
k ((!((r4 == r6) && (r5 == r7))))
theorem t_impl_Table_depends {β : Type} (N : Nat) (a0 : Int) (a1 : Int) (a2 : Int) (k : Bool → Option β) : impl_Table_depends N a0 a1 a2 k = BV_impl_Table_depends N (impl_Table_restrict N) a0 a1 a2 k := by
  unfold impl_Table_depends BV_impl_Table_depends
  rfl
theorem ve85_0 {β : Type} (N : Nat) (q_impl_Table_restrict : (a0 : Int) → (a1 : Int) → (a2 : Int) → (a3 : Int) → (k : Int → Int → Option β) → Option β)  (a0 : Int) (a1 : Int) (a2 : Int) (K : TV → Option β) : evFn lay (VE85 N q_impl_Table_restrict) Try.f85 [.v (.agg [.int .i64 a0, .int .i64 a1]), .v (.one (.int .i64 a2))] K = BV_impl_Table_depends N q_impl_Table_restrict a0 a1 a2 (fun z3 => K (.v (.one (.bool z3)))) := by kernel_rfl
theorem e85_0 {β : Type} (N : Nat)  (a0 : Int) (a1 : Int) (a2 : Int) (K : TV → Option β) : evFn lay (E85 N) Try.f85 [.v (.agg [.int .i64 a0, .int .i64 a1]), .v (.one (.int .i64 a2))] K = impl_Table_depends N a0 a1 a2 (fun z3 => K (.v (.one (.bool z3)))) := (ve85_0 N (impl_Table_restrict N) a0 a1 a2 K).trans (t_impl_Table_depends N a0 a1 a2 (fun z3 => K (.v (.one (.bool z3))))).symm
theorem o85 {β : Type} (N : Nat) : SpecOK (β := β) inv Try.prog 85 (S85 N) := by
  refine spec_of lay_ok mixed (E := E85 N) (specs_loops (specs_cons (o120 N) specs_nil)) muts_nil gs_nil Try.func85 (by kernel_rfl) 0 (by kernel_rfl) trivial fun args K r h => ?_
  unfold S85 VS85 at h
  split at h
  · exact (e85_0 N _ _ _ _).trans h
  · cases h
end Go.Proofs.Ytfdggelojmofmaa
