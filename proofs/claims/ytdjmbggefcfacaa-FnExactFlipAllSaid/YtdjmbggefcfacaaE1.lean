/- The functions that the claims reach answer as their texts do. -/
import Derived.Test.YtdjmbggefcfacaaE0
namespace Go.Proofs.Ytdjmbggefcfacaa
open Go.Rv
set_option maxRecDepth 100000
set_option maxHeartbeats 2000000
set_option linter.unusedVariables false
def VS12 {β : Type} (N : Nat) (q_spec_NewKept : (a0 : Int) → (a1 : Int) → (k : Int → Int → Int → List Int → Bool → Option β) → Option β) : Rv.Spec β := fun args K => match args with
  | [.v (.agg [.int .i64 a0, .int .i64 a1])] => q_spec_NewKept a0 a1 (fun z2 z3 z4 z5 z6 => K (.tup [.agg [.int .i64 z2, .int .i64 z3, .int .i64 z4, .sl 3 (.ints .i64 z5)], .one (.bool z6)]))
  | _ => none
def S12 {β : Type} (N : Nat) : Rv.Spec β := VS12 N (spec_NewKept N)
def h12_0_0  (v0 : Int) (v1 : Int) (v2 : Int) (v3 : Int) (v4 : Int) (v5 : Int) (v6 : Int) (v7 : Int) (v8 : Int) (v9 : List Int) (v10 : List Int) : St := ⟨.v (.one .und) :: .v (.one (.ptr 0 0)) :: .v (.one (.ptr 1 0)) :: .v (.one .und) :: .v (.one (.ptr 2 0)) :: .v (.one (.int .i64 v0)) :: .v (.one .und) :: .v (.one .und) :: .v (.one .und) :: .v (.one .und) :: .v (.one .und) :: .v (.one .und) :: .v (.one .und) :: .v (.one .und) :: .v (.one .und) :: .v (.one .und) :: .v (.one .und) :: .v (.one .und) :: .v (.one .und) :: .v (.one .und) :: .v (.one .und) :: .v (.one .und) :: .v (.one .und) :: .v (.one .und) :: .v (.one .und) :: .v (.one .und) :: .v (.one .und) :: .v (.one .und) :: .v (.one .und) :: .v (.one .und) :: .v (.one .und) :: [], [.cells 24 [.int .i64 v1, .int .i64 v2], .cells 27 [.int .i64 v3, .int .i64 v4, .int .i64 v5, .row 3], .cells 27 [.int .i64 v6, .int .i64 v7, .int .i64 v8, .row 4], .row 3 (.ints .i64 v9), .row 3 (.ints .i64 v10)]⟩
def x12_0_0_k0  (y0 : Int) (y1 : Int) (y2 : Int) (y3 : Int) (y4 : Int) (y5 : Int) (y6 : List Int) (y7 : List Int) : St := ⟨.v (.one .und) :: .v (.one .und) :: .v (.one (.ptr 0 0)) :: .v (.one .und) :: .v (.one (.ptr 1 0)) :: .v (.one .und) :: .v (.one .und) :: .v (.one .und) :: .v (.one .und) :: .v (.one .und) :: .v (.one .und) :: .v (.one .und) :: .v (.one .und) :: .v (.one .und) :: .v (.one .und) :: .v (.one .und) :: .v (.one .und) :: .v (.one .und) :: .v (.one .und) :: .v (.one .und) :: .v (.one .und) :: .v (.one .und) :: .v (.one .und) :: .v (.one .und) :: .v (.one .und) :: .v (.one .und) :: .v (.one .und) :: .v (.one .und) :: .v (.one .und) :: .v (.one .und) :: .v (.one .und) :: [], [.cells 27 [.int .i64 y0, .int .i64 y1, .int .i64 y2, .row 2], .cells 27 [.int .i64 y3, .int .i64 y4, .int .i64 y5, .row 3], .row 3 (.ints .i64 y6), .row 3 (.ints .i64 y7)]⟩
theorem fl12_0_0 (s : St) : refSt (h12_0_0 0 0 0 0 0 0 0 0 0 [] []) s = h12_0_0 (intS (oneA (vT (nx tund s.tmps 5)))) (intS (nx .und (cellsB (nx .dead s.blks 0)) 0)) (intS (nx .und (cellsB (nx .dead s.blks 0)) 1)) (intS (nx .und (cellsB (nx .dead s.blks 1)) 0)) (intS (nx .und (cellsB (nx .dead s.blks 1)) 1)) (intS (nx .und (cellsB (nx .dead s.blks 1)) 2)) (intS (nx .und (cellsB (nx .dead s.blks 2)) 0)) (intS (nx .und (cellsB (nx .dead s.blks 2)) 1)) (intS (nx .und (cellsB (nx .dead s.blks 2)) 2)) (rInts (rowB_ (nx .dead s.blks 3))) (rInts (rowB_ (nx .dead s.blks 4))) := by kernel_rfl
def VLS12_0 {β : Type} (N : Nat) (q_spec_NewKept_l0 : Nat → Int → Int → Int → Int → Int → Int → Int → Int → Int → List Int → List Int → (Int → Int → Int → Int → Int → Int → List Int → List Int → Option β) → Option β) : LSpec β := fun s K => cond (shpSt (h12_0_0 0 0 0 0 0 0 0 0 0 [] []) s) ((fun (v0 : Int) (v1 : Int) (v2 : Int) (v3 : Int) (v4 : Int) (v5 : Int) (v6 : Int) (v7 : Int) (v8 : Int) (v9 : List Int) (v10 : List Int) => q_spec_NewKept_l0  N v0 v1 v2 v3 v4 v5 v6 v7 v8 v9 v10 (fun y0 y1 y2 y3 y4 y5 y6 y7 => K (.exit 0) (x12_0_0_k0  y0 y1 y2 y3 y4 y5 y6 y7))) (intS (oneA (vT (nx tund s.tmps 5)))) (intS (nx .und (cellsB (nx .dead s.blks 0)) 0)) (intS (nx .und (cellsB (nx .dead s.blks 0)) 1)) (intS (nx .und (cellsB (nx .dead s.blks 1)) 0)) (intS (nx .und (cellsB (nx .dead s.blks 1)) 1)) (intS (nx .und (cellsB (nx .dead s.blks 1)) 2)) (intS (nx .und (cellsB (nx .dead s.blks 2)) 0)) (intS (nx .und (cellsB (nx .dead s.blks 2)) 1)) (intS (nx .und (cellsB (nx .dead s.blks 2)) 2)) (rInts (rowB_ (nx .dead s.blks 3))) (rInts (rowB_ (nx .dead s.blks 4)))) (none)
def LS12_0 {β : Type} (N : Nat) : LSpec β := VLS12_0 N (spec_NewKept_l0 N)
def VE12 {β : Type} (N : Nat) (q_spec_IsTable : (a0 : Int) → (a1 : Int) → (k : Bool → Option β) → Option β) (q_spec_l2Count : (a0 : Int) → (k : Int → Option β) → Option β) (q_spec_InfluenceOf : (a0 : Int) → (a1 : Int) → (a2 : Int) → (k : Int → Option β) → Option β) (q_spec_NewKept_l0 : Nat → Int → Int → Int → Int → Int → Int → Int → Int → Int → List Int → List Int → (Int → Int → Int → Int → Int → Int → List Int → List Int → Option β) → Option β) : Env β := ⟨[(43, VS43 N q_spec_IsTable), (44, VS44 N q_spec_l2Count), (45, VS45 N q_spec_InfluenceOf)], [], [(0, VLS12_0 N q_spec_NewKept_l0)], []⟩
def E12 {β : Type} (N : Nat) : Env β := VE12 N (spec_IsTable N) (spec_l2Count N) (spec_InfluenceOf N) (spec_NewKept_l0 N)
def BV_spec_NewKept_l0b {β : Type} (N : Nat) (q_spec_InfluenceOf : (a0 : Int) → (a1 : Int) → (a2 : Int) → (k : Int → Option β) → Option β)  (v0 : Int) (v1 : Int) (v2 : Int) (v3 : Int) (v4 : Int) (v5 : Int) (v6 : Int) (v7 : Int) (v8 : Int) (v9 : List Int) (v10 : List Int) (rec_ : Int → Int → Int → Int → Int → Int → Int → Int → Int → List Int → List Int → Option β) (k0 : Int → Int → Int → Int → Int → Int → List Int → List Int → Option β) : Option β :=
(cond ((decide (v0 < v1)))
(q_spec_InfluenceOf v1 v2 v0 fun r9 =>
(gd ((decide ((v10.length + ((([] : List Int) ++ [r9])).length) * 8 ≤ 140737488355328)))
(rec_ ((w64 (v0 + 1))) v1 v2 v3 v4 v5 v6 v7 v8 v9 ((v10 ++ (([] : List Int) ++ [r9]))))))
(k0 v3 v4 v5 v6 v7 v8 v9 v10))
theorem t_spec_NewKept_l0b {β : Type} (N : Nat)  (v0 : Int) (v1 : Int) (v2 : Int) (v3 : Int) (v4 : Int) (v5 : Int) (v6 : Int) (v7 : Int) (v8 : Int) (v9 : List Int) (v10 : List Int) (rec_ : Int → Int → Int → Int → Int → Int → Int → Int → Int → List Int → List Int → Option β) (k0 : Int → Int → Int → Int → Int → Int → List Int → List Int → Option β) : spec_NewKept_l0b N v0 v1 v2 v3 v4 v5 v6 v7 v8 v9 v10 rec_ k0 = BV_spec_NewKept_l0b N (spec_InfluenceOf N) v0 v1 v2 v3 v4 v5 v6 v7 v8 v9 v10 rec_ k0 := by
  unfold spec_NewKept_l0b BV_spec_NewKept_l0b
  rfl
theorem vst12_0_0 {β : Type} (N : Nat) (q_spec_IsTable : (a0 : Int) → (a1 : Int) → (k : Bool → Option β) → Option β) (q_spec_l2Count : (a0 : Int) → (k : Int → Option β) → Option β) (q_spec_InfluenceOf : (a0 : Int) → (a1 : Int) → (a2 : Int) → (k : Int → Option β) → Option β) (q_spec_NewKept_l0 : Nat → Int → Int → Int → Int → Int → Int → Int → Int → Int → List Int → List Int → (Int → Int → Int → Int → Int → Int → List Int → List Int → Option β) → Option β)  (v0 : Int) (v1 : Int) (v2 : Int) (v3 : Int) (v4 : Int) (v5 : Int) (v6 : Int) (v7 : Int) (v8 : Int) (v9 : List Int) (v10 : List Int) (rec_ : St → Option β) (K : Exit → St → Option β) :
    ev lay (VE12 N q_spec_IsTable q_spec_l2Count q_spec_InfluenceOf q_spec_NewKept_l0) (retMask Try.f12) (lp Try.f12 0).body (lp Try.f12 0).ex ((lp Try.f12 0).lv (retMask Try.f12)) (h12_0_0  v0 v1 v2 v3 v4 v5 v6 v7 v8 v9 v10) (nextR (fun s' => rec_ (s'.tidy ((lp Try.f12 0).lv (retMask Try.f12)))) K) = BV_spec_NewKept_l0b N q_spec_InfluenceOf  v0 v1 v2 v3 v4 v5 v6 v7 v8 v9 v10 (fun v0 v1 v2 v3 v4 v5 v6 v7 v8 v9 v10 => rec_ (h12_0_0  v0 v1 v2 v3 v4 v5 v6 v7 v8 v9 v10)) (fun y0 y1 y2 y3 y4 y5 y6 y7 => K (.exit 0) (x12_0_0_k0  y0 y1 y2 y3 y4 y5 y6 y7)) := by kernel_rfl
theorem st12_0_0 {β : Type} (N : Nat)  (v0 : Int) (v1 : Int) (v2 : Int) (v3 : Int) (v4 : Int) (v5 : Int) (v6 : Int) (v7 : Int) (v8 : Int) (v9 : List Int) (v10 : List Int) (rec_ : St → Option β) (K : Exit → St → Option β) :
    ev lay (E12 N) (retMask Try.f12) (lp Try.f12 0).body (lp Try.f12 0).ex ((lp Try.f12 0).lv (retMask Try.f12)) (h12_0_0  v0 v1 v2 v3 v4 v5 v6 v7 v8 v9 v10) (nextR (fun s' => rec_ (s'.tidy ((lp Try.f12 0).lv (retMask Try.f12)))) K) = spec_NewKept_l0b N  v0 v1 v2 v3 v4 v5 v6 v7 v8 v9 v10 (fun v0 v1 v2 v3 v4 v5 v6 v7 v8 v9 v10 => rec_ (h12_0_0  v0 v1 v2 v3 v4 v5 v6 v7 v8 v9 v10)) (fun y0 y1 y2 y3 y4 y5 y6 y7 => K (.exit 0) (x12_0_0_k0  y0 y1 y2 y3 y4 y5 y6 y7)) := (vst12_0_0 N (spec_IsTable N) (spec_l2Count N) (spec_InfluenceOf N) (spec_NewKept_l0 N) v0 v1 v2 v3 v4 v5 v6 v7 v8 v9 v10 rec_ K).trans (t_spec_NewKept_l0b N  v0 v1 v2 v3 v4 v5 v6 v7 v8 v9 v10 (fun v0 v1 v2 v3 v4 v5 v6 v7 v8 v9 v10 => rec_ (h12_0_0  v0 v1 v2 v3 v4 v5 v6 v7 v8 v9 v10)) (fun y0 y1 y2 y3 y4 y5 y6 y7 => K (.exit 0) (x12_0_0_k0  y0 y1 y2 y3 y4 y5 y6 y7))).symm
theorem ro12_0_0 {β : Type} (N : Nat)  (K : Exit → St → Option β) : ∀ (F : Nat) (v0 : Int) (v1 : Int) (v2 : Int) (v3 : Int) (v4 : Int) (v5 : Int) (v6 : Int) (v7 : Int) (v8 : Int) (v9 : List Int) (v10 : List Int), (lp Try.f12 0).rounds lay (E12 N) (retMask Try.f12) F (h12_0_0  v0 v1 v2 v3 v4 v5 v6 v7 v8 v9 v10) K = spec_NewKept_l0 N  F v0 v1 v2 v3 v4 v5 v6 v7 v8 v9 v10 (fun y0 y1 y2 y3 y4 y5 y6 y7 => K (.exit 0) (x12_0_0_k0  y0 y1 y2 y3 y4 y5 y6 y7)) := by
  intro F
  induction F with
  | zero => intros; rfl
  | succ F ih =>
    intros
    rw [rounds_next]
    refine (st12_0_0 N  _ _ _ _ _ _ _ _ _ _ _ (fun s => (lp Try.f12 0).rounds lay (E12 N) (retMask Try.f12) F s K) K).trans ?_
    simp only [ih]
    rfl
theorem lk12_0 {β : Type} (N : Nat) : lookL (E12 (β := β) N).loops (lp Try.f12 0).id = LS12_0 N := by kernel_rfl
theorem rk12_0 {β : Type} (N : Nat) : RoundsOK lay (E12 (β := β) N) (retMask Try.f12) (lp Try.f12 0) := by
  intro s K r h
  rw [lk12_0] at h
  unfold LS12_0 VLS12_0 at h
  cases hb : shpSt (h12_0_0 0 0 0 0 0 0 0 0 0 [] []) s with
  | true =>
    rw [hb, cond_true] at h
    exact ⟨N, by rw [← shpSt_ref hb, fl12_0_0 s]; exact (ro12_0_0 N  K N (intS (oneA (vT (nx tund s.tmps 5)))) (intS (nx .und (cellsB (nx .dead s.blks 0)) 0)) (intS (nx .und (cellsB (nx .dead s.blks 0)) 1)) (intS (nx .und (cellsB (nx .dead s.blks 1)) 0)) (intS (nx .und (cellsB (nx .dead s.blks 1)) 1)) (intS (nx .und (cellsB (nx .dead s.blks 1)) 2)) (intS (nx .und (cellsB (nx .dead s.blks 2)) 0)) (intS (nx .und (cellsB (nx .dead s.blks 2)) 1)) (intS (nx .und (cellsB (nx .dead s.blks 2)) 2)) (rInts (rowB_ (nx .dead s.blks 3))) (rInts (rowB_ (nx .dead s.blks 4)))).trans h⟩
  | false =>
  rw [hb, cond_false] at h
  clear hb
  cases h
def BV_spec_NewKept {β : Type} (N : Nat) (q_spec_IsTable : (a0 : Int) → (a1 : Int) → (k : Bool → Option β) → Option β) (q_spec_l2Count : (a0 : Int) → (k : Int → Option β) → Option β) (q_spec_NewKept_l0 : Nat → Int → Int → Int → Int → Int → Int → Int → Int → Int → List Int → List Int → (Int → Int → Int → Int → Int → Int → List Int → List Int → Option β) → Option β) (a0 : Int) (a1 : Int) (k : Int → Int → Int → List Int → Bool → Option β) : Option β :=
q_spec_IsTable a0 a1 fun r7 =>
(cond (!r7)
(k 0 0 0 (([] : List Int)) false)
(q_spec_l2Count a1 fun r8 =>
(spec_NewKept_s3 a0 a1 0 0 0 a0 a1 r8 (([] : List Int)) (([] : List Int))
(q_spec_NewKept_l0  N 0 a0 a1 0 0 0 a0 a1 r8 (([] : List Int)) (([] : List Int)) (fun e10_0 e10_1 e10_2 e10_3 e10_4 e10_5 e10_6 e10_7 =>
k e10_3 e10_4 e10_5 e10_7 true)))))
theorem t_spec_NewKept {β : Type} (N : Nat) (a0 : Int) (a1 : Int) (k : Int → Int → Int → List Int → Bool → Option β) : spec_NewKept N a0 a1 k = BV_spec_NewKept N (spec_IsTable N) (spec_l2Count N) (spec_NewKept_l0 N) a0 a1 k := by
  unfold spec_NewKept BV_spec_NewKept
  rfl
theorem ve12_0 {β : Type} (N : Nat) (q_spec_IsTable : (a0 : Int) → (a1 : Int) → (k : Bool → Option β) → Option β) (q_spec_l2Count : (a0 : Int) → (k : Int → Option β) → Option β) (q_spec_InfluenceOf : (a0 : Int) → (a1 : Int) → (a2 : Int) → (k : Int → Option β) → Option β) (q_spec_NewKept_l0 : Nat → Int → Int → Int → Int → Int → Int → Int → Int → Int → List Int → List Int → (Int → Int → Int → Int → Int → Int → List Int → List Int → Option β) → Option β)  (a0 : Int) (a1 : Int) (K : TV → Option β) : evFn lay (VE12 N q_spec_IsTable q_spec_l2Count q_spec_InfluenceOf q_spec_NewKept_l0) Try.f12 [.v (.agg [.int .i64 a0, .int .i64 a1])] K = BV_spec_NewKept N q_spec_IsTable q_spec_l2Count q_spec_NewKept_l0 a0 a1 (fun z2 z3 z4 z5 z6 => K (.tup [.agg [.int .i64 z2, .int .i64 z3, .int .i64 z4, .sl 3 (.ints .i64 z5)], .one (.bool z6)])) := by kernel_rfl
theorem e12_0 {β : Type} (N : Nat)  (a0 : Int) (a1 : Int) (K : TV → Option β) : evFn lay (E12 N) Try.f12 [.v (.agg [.int .i64 a0, .int .i64 a1])] K = spec_NewKept N a0 a1 (fun z2 z3 z4 z5 z6 => K (.tup [.agg [.int .i64 z2, .int .i64 z3, .int .i64 z4, .sl 3 (.ints .i64 z5)], .one (.bool z6)])) := (ve12_0 N (spec_IsTable N) (spec_l2Count N) (spec_InfluenceOf N) (spec_NewKept_l0 N) a0 a1 K).trans (t_spec_NewKept N a0 a1 (fun z2 z3 z4 z5 z6 => K (.tup [.agg [.int .i64 z2, .int .i64 z3, .int .i64 z4, .sl 3 (.ints .i64 z5)], .one (.bool z6)]))).symm
theorem o12 {β : Type} (N : Nat) : SpecOK (β := β) Try.prog 12 (S12 N) := by
  refine spec_of lay_ok mixed (E := E12 N) (specs_loops (specs_cons (o43 N) (specs_cons (o44 N) (specs_cons (o45 N) specs_nil)))) muts_nil gs_nil Try.func12 (by kernel_rfl) 1 (by kernel_rfl) ⟨trivial, rk12_0 N⟩ fun args K r h => ?_
  unfold S12 VS12 at h
  split at h
  · exact (e12_0 N _ _ _).trans h
  · cases h
def VS57 {β : Type} (N : Nat) (q_spec_l30Same : (a0 : List Int) → (a1 : List Int) → (k : Bool → Option β) → Option β) : Rv.Spec β := fun args K => match args with
  | [.v (.one (.sl 3 (.ints .i64 a0))), .v (.one (.sl 3 (.ints .i64 a1)))] => q_spec_l30Same a0 a1 (fun z2 => K (.v (.one (.bool z2))))
  | _ => none
def S57 {β : Type} (N : Nat) : Rv.Spec β := VS57 N (spec_l30Same N)
def h57_0_0  (v0 : List Int) (v1 : List Int) (v2 : Int) : St := ⟨.v (.one (.sl 3 (.ints .i64 v0))) :: .v (.one (.sl 3 (.ints .i64 v1))) :: .v (.one .und) :: .v (.one .und) :: .v (.one .und) :: .v (.one (.int .i64 v2)) :: .v (.one .und) :: .v (.one .und) :: .v (.one .und) :: .v (.one .und) :: .v (.one .und) :: .v (.one .und) :: .v (.one .und) :: .v (.one .und) :: .v (.one .und) :: .v (.one .und) :: .v (.one .und) :: .v (.one .und) :: .v (.one .und) :: .v (.one .und) :: .v (.one .und) :: .v (.one .und) :: .v (.one .und) :: .v (.one .und) :: .v (.one .und) :: .v (.one .und) :: [], []⟩
def x57_0_0_k0  (y0 : Bool) : St := ⟨.v (.one .und) :: .v (.one .und) :: .v (.one .und) :: .v (.one .und) :: .v (.one (.bool y0)) :: .v (.one .und) :: .v (.one .und) :: .v (.one .und) :: .v (.one .und) :: .v (.one .und) :: .v (.one .und) :: .v (.one .und) :: .v (.one .und) :: .v (.one .und) :: .v (.one .und) :: .v (.one .und) :: .v (.one .und) :: .v (.one .und) :: .v (.one .und) :: .v (.one .und) :: .v (.one .und) :: .v (.one .und) :: .v (.one .und) :: .v (.one .und) :: .v (.one .und) :: .v (.one .und) :: [], []⟩
def x57_0_0_k1   : St := ⟨.v (.one .und) :: .v (.one .und) :: .v (.one .und) :: .v (.one .und) :: .v (.one .und) :: .v (.one .und) :: .v (.one .und) :: .v (.one .und) :: .v (.one .und) :: .v (.one .und) :: .v (.one .und) :: .v (.one .und) :: .v (.one .und) :: .v (.one .und) :: .v (.one .und) :: .v (.one .und) :: .v (.one .und) :: .v (.one .und) :: .v (.one .und) :: .v (.one .und) :: .v (.one .und) :: .v (.one .und) :: .v (.one .und) :: .v (.one .und) :: .v (.one .und) :: .v (.one .und) :: [], []⟩
theorem fl57_0_0 (s : St) : refSt (h57_0_0 [] [] 0) s = h57_0_0 (rInts (rowV (oneA (vT (nx tund s.tmps 0))))) (rInts (rowV (oneA (vT (nx tund s.tmps 1))))) (intS (oneA (vT (nx tund s.tmps 5)))) := by kernel_rfl
def VLS57_0 {β : Type} (N : Nat) (q_spec_l30Same_l0 : Nat → List Int → List Int → Int → (Bool → Option β) → (Option β) → Option β) : LSpec β := fun s K => cond (shpSt (h57_0_0 [] [] 0) s) ((fun (v0 : List Int) (v1 : List Int) (v2 : Int) => q_spec_l30Same_l0  N v0 v1 v2 (fun y0 => K .ret (x57_0_0_k0  y0)) (K (.exit 0) (x57_0_0_k1  ))) (rInts (rowV (oneA (vT (nx tund s.tmps 0))))) (rInts (rowV (oneA (vT (nx tund s.tmps 1))))) (intS (oneA (vT (nx tund s.tmps 5))))) (none)
def LS57_0 {β : Type} (N : Nat) : LSpec β := VLS57_0 N (spec_l30Same_l0 N)
def VE57 {β : Type} (N : Nat) (q_spec_l30Same_l0 : Nat → List Int → List Int → Int → (Bool → Option β) → (Option β) → Option β) : Env β := ⟨[], [], [(0, VLS57_0 N q_spec_l30Same_l0)], []⟩
def E57 {β : Type} (N : Nat) : Env β := VE57 N (spec_l30Same_l0 N)
def BV_spec_l30Same_l0b {β : Type} (N : Nat)  (v0 : List Int) (v1 : List Int) (v2 : Int) (rec_ : List Int → List Int → Int → Option β) (k0 : Bool → Option β) (k1 : Option β) : Option β :=
(cond ((decide (v2 < (v0.length : Int))))
((gd ((decide (0 ≤ v2)))
((gd ((decide (v2 < (v0.length : Int))))
((gd ((decide (0 ≤ v2)))
((gd ((decide (v2 < (v1.length : Int))))
((cond (((rd 0 v0 v2) != (rd 0 v1 v2)))
(k0 false)
(rec_ v0 v1 ((w64 (v2 + 1))))))))))))))
(k1 ))
theorem t_spec_l30Same_l0b {β : Type} (N : Nat)  (v0 : List Int) (v1 : List Int) (v2 : Int) (rec_ : List Int → List Int → Int → Option β) (k0 : Bool → Option β) (k1 : Option β) : spec_l30Same_l0b N v0 v1 v2 rec_ k0 k1 = BV_spec_l30Same_l0b N v0 v1 v2 rec_ k0 k1 := by
  unfold spec_l30Same_l0b BV_spec_l30Same_l0b
  rfl
theorem vst57_0_0 {β : Type} (N : Nat) (q_spec_l30Same_l0 : Nat → List Int → List Int → Int → (Bool → Option β) → (Option β) → Option β)  (v0 : List Int) (v1 : List Int) (v2 : Int) (rec_ : St → Option β) (K : Exit → St → Option β) :
    ev lay (VE57 N q_spec_l30Same_l0) (retMask Try.f57) (lp Try.f57 0).body (lp Try.f57 0).ex ((lp Try.f57 0).lv (retMask Try.f57)) (h57_0_0  v0 v1 v2) (nextR (fun s' => rec_ (s'.tidy ((lp Try.f57 0).lv (retMask Try.f57)))) K) = BV_spec_l30Same_l0b N  v0 v1 v2 (fun v0 v1 v2 => rec_ (h57_0_0  v0 v1 v2)) (fun y0 => K .ret (x57_0_0_k0  y0)) (K (.exit 0) (x57_0_0_k1  )) := by kernel_rfl
theorem st57_0_0 {β : Type} (N : Nat)  (v0 : List Int) (v1 : List Int) (v2 : Int) (rec_ : St → Option β) (K : Exit → St → Option β) :
    ev lay (E57 N) (retMask Try.f57) (lp Try.f57 0).body (lp Try.f57 0).ex ((lp Try.f57 0).lv (retMask Try.f57)) (h57_0_0  v0 v1 v2) (nextR (fun s' => rec_ (s'.tidy ((lp Try.f57 0).lv (retMask Try.f57)))) K) = spec_l30Same_l0b N  v0 v1 v2 (fun v0 v1 v2 => rec_ (h57_0_0  v0 v1 v2)) (fun y0 => K .ret (x57_0_0_k0  y0)) (K (.exit 0) (x57_0_0_k1  )) := (vst57_0_0 N (spec_l30Same_l0 N) v0 v1 v2 rec_ K).trans (t_spec_l30Same_l0b N  v0 v1 v2 (fun v0 v1 v2 => rec_ (h57_0_0  v0 v1 v2)) (fun y0 => K .ret (x57_0_0_k0  y0)) (K (.exit 0) (x57_0_0_k1  ))).symm
theorem ro57_0_0 {β : Type} (N : Nat)  (K : Exit → St → Option β) : ∀ (F : Nat) (v0 : List Int) (v1 : List Int) (v2 : Int), (lp Try.f57 0).rounds lay (E57 N) (retMask Try.f57) F (h57_0_0  v0 v1 v2) K = spec_l30Same_l0 N  F v0 v1 v2 (fun y0 => K .ret (x57_0_0_k0  y0)) (K (.exit 0) (x57_0_0_k1  )) := by
  intro F
  induction F with
  | zero => intros; rfl
  | succ F ih =>
    intros
    rw [rounds_next]
    refine (st57_0_0 N  _ _ _ (fun s => (lp Try.f57 0).rounds lay (E57 N) (retMask Try.f57) F s K) K).trans ?_
    simp only [ih]
    rfl
theorem lk57_0 {β : Type} (N : Nat) : lookL (E57 (β := β) N).loops (lp Try.f57 0).id = LS57_0 N := by kernel_rfl
theorem rk57_0 {β : Type} (N : Nat) : RoundsOK lay (E57 (β := β) N) (retMask Try.f57) (lp Try.f57 0) := by
  intro s K r h
  rw [lk57_0] at h
  unfold LS57_0 VLS57_0 at h
  cases hb : shpSt (h57_0_0 [] [] 0) s with
  | true =>
    rw [hb, cond_true] at h
    exact ⟨N, by rw [← shpSt_ref hb, fl57_0_0 s]; exact (ro57_0_0 N  K N (rInts (rowV (oneA (vT (nx tund s.tmps 0))))) (rInts (rowV (oneA (vT (nx tund s.tmps 1))))) (intS (oneA (vT (nx tund s.tmps 5))))).trans h⟩
  | false =>
  rw [hb, cond_false] at h
  clear hb
  cases h
def BV_spec_l30Same {β : Type} (N : Nat) (q_spec_l30Same_l0 : Nat → List Int → List Int → Int → (Bool → Option β) → (Option β) → Option β) (a0 : List Int) (a1 : List Int) (k : Bool → Option β) : Option β :=
(cond (((a0.length : Int) != (a1.length : Int)))
(k false)
(q_spec_l30Same_l0  N a0 a1 0 (fun e3_0 =>
k e3_0) (k true)))
theorem t_spec_l30Same {β : Type} (N : Nat) (a0 : List Int) (a1 : List Int) (k : Bool → Option β) : spec_l30Same N a0 a1 k = BV_spec_l30Same N (spec_l30Same_l0 N) a0 a1 k := by
  unfold spec_l30Same BV_spec_l30Same
  rfl
theorem ve57_0 {β : Type} (N : Nat) (q_spec_l30Same_l0 : Nat → List Int → List Int → Int → (Bool → Option β) → (Option β) → Option β)  (a0 : List Int) (a1 : List Int) (K : TV → Option β) : evFn lay (VE57 N q_spec_l30Same_l0) Try.f57 [.v (.one (.sl 3 (.ints .i64 a0))), .v (.one (.sl 3 (.ints .i64 a1)))] K = BV_spec_l30Same N q_spec_l30Same_l0 a0 a1 (fun z2 => K (.v (.one (.bool z2)))) := by kernel_rfl
theorem e57_0 {β : Type} (N : Nat)  (a0 : List Int) (a1 : List Int) (K : TV → Option β) : evFn lay (E57 N) Try.f57 [.v (.one (.sl 3 (.ints .i64 a0))), .v (.one (.sl 3 (.ints .i64 a1)))] K = spec_l30Same N a0 a1 (fun z2 => K (.v (.one (.bool z2)))) := (ve57_0 N (spec_l30Same_l0 N) a0 a1 K).trans (t_spec_l30Same N a0 a1 (fun z2 => K (.v (.one (.bool z2))))).symm
theorem o57 {β : Type} (N : Nat) : SpecOK (β := β) Try.prog 57 (S57 N) := by
  refine spec_of lay_ok mixed (E := E57 N) (specs_loops specs_nil) muts_nil gs_nil Try.func57 (by kernel_rfl) 1 (by kernel_rfl) ⟨trivial, rk57_0 N⟩ fun args K r h => ?_
  unfold S57 VS57 at h
  split at h
  · exact (e57_0 N _ _ _).trans h
  · cases h
def VS24 {β : Type} (N : Nat) (q_spec_IsKept : (a0 : Int) → (a1 : Int) → (a2 : Int) → (a3 : List Int) → (k : Bool → Option β) → Option β) : Rv.Spec β := fun args K => match args with
  | [.v (.agg [.int .i64 a0, .int .i64 a1, .int .i64 a2, .sl 3 (.ints .i64 a3)])] => q_spec_IsKept a0 a1 a2 a3 (fun z4 => K (.v (.one (.bool z4))))
  | _ => none
def S24 {β : Type} (N : Nat) : Rv.Spec β := VS24 N (spec_IsKept N)
def VE24 {β : Type} (N : Nat) (q_spec_NewKept : (a0 : Int) → (a1 : Int) → (k : Int → Int → Int → List Int → Bool → Option β) → Option β) (q_spec_l30Same : (a0 : List Int) → (a1 : List Int) → (k : Bool → Option β) → Option β) : Env β := ⟨[(12, VS12 N q_spec_NewKept), (57, VS57 N q_spec_l30Same)], [], [], []⟩
def E24 {β : Type} (N : Nat) : Env β := VE24 N (spec_NewKept N) (spec_l30Same N)
def BV_spec_IsKept {β : Type} (N : Nat) (q_spec_NewKept : (a0 : Int) → (a1 : Int) → (k : Int → Int → Int → List Int → Bool → Option β) → Option β) (q_spec_l30Same : (a0 : List Int) → (a1 : List Int) → (k : Bool → Option β) → Option β) (a0 : Int) (a1 : Int) (a2 : Int) (a3 : List Int) (k : Bool → Option β) : Option β :=
q_spec_NewKept a0 a1 fun r5 r6 r7 r8 r9 =>
(cond r9
((cond ((a2 == r7))
(q_spec_l30Same a3 r8 fun r10 =>
k r10)
(k false)))
(k false))
theorem t_spec_IsKept {β : Type} (N : Nat) (a0 : Int) (a1 : Int) (a2 : Int) (a3 : List Int) (k : Bool → Option β) : spec_IsKept N a0 a1 a2 a3 k = BV_spec_IsKept N (spec_NewKept N) (spec_l30Same N) a0 a1 a2 a3 k := by
  unfold spec_IsKept BV_spec_IsKept
  rfl
theorem ve24_0 {β : Type} (N : Nat) (q_spec_NewKept : (a0 : Int) → (a1 : Int) → (k : Int → Int → Int → List Int → Bool → Option β) → Option β) (q_spec_l30Same : (a0 : List Int) → (a1 : List Int) → (k : Bool → Option β) → Option β)  (a0 : Int) (a1 : Int) (a2 : Int) (a3 : List Int) (K : TV → Option β) : evFn lay (VE24 N q_spec_NewKept q_spec_l30Same) Try.f24 [.v (.agg [.int .i64 a0, .int .i64 a1, .int .i64 a2, .sl 3 (.ints .i64 a3)])] K = BV_spec_IsKept N q_spec_NewKept q_spec_l30Same a0 a1 a2 a3 (fun z4 => K (.v (.one (.bool z4)))) := by kernel_rfl
theorem e24_0 {β : Type} (N : Nat)  (a0 : Int) (a1 : Int) (a2 : Int) (a3 : List Int) (K : TV → Option β) : evFn lay (E24 N) Try.f24 [.v (.agg [.int .i64 a0, .int .i64 a1, .int .i64 a2, .sl 3 (.ints .i64 a3)])] K = spec_IsKept N a0 a1 a2 a3 (fun z4 => K (.v (.one (.bool z4)))) := (ve24_0 N (spec_NewKept N) (spec_l30Same N) a0 a1 a2 a3 K).trans (t_spec_IsKept N a0 a1 a2 a3 (fun z4 => K (.v (.one (.bool z4))))).symm
theorem o24 {β : Type} (N : Nat) : SpecOK (β := β) Try.prog 24 (S24 N) := by
  refine spec_of lay_ok mixed (E := E24 N) (specs_loops (specs_cons (o12 N) (specs_cons (o57 N) specs_nil))) muts_nil gs_nil Try.func24 (by kernel_rfl) 0 (by kernel_rfl) trivial fun args K r h => ?_
  unfold S24 VS24 at h
  split at h
  · exact (e24_0 N _ _ _ _ _).trans h
  · cases h
def VS59 {β : Type} (N : Nat) (q_spec_l9In : (a0 : Int) → (a1 : Int) → (a2 : Int) → (k : Bool → Option β) → Option β) : Rv.Spec β := fun args K => match args with
  | [.v (.agg [.int .i64 a0, .int .i64 a1]), .v (.one (.int .i64 a2))] => q_spec_l9In a0 a1 a2 (fun z3 => K (.v (.one (.bool z3))))
  | _ => none
def S59 {β : Type} (N : Nat) : Rv.Spec β := VS59 N (spec_l9In N)
def VE59 {β : Type} (N : Nat) (q_spec_IsTable : (a0 : Int) → (a1 : Int) → (k : Bool → Option β) → Option β) (q_spec_l1In : (a0 : Int) → (a1 : Int) → (a2 : Int) → (k : Bool → Option β) → Option β) : Env β := ⟨[(43, VS43 N q_spec_IsTable), (73, VS73 N q_spec_l1In)], [], [], []⟩
def E59 {β : Type} (N : Nat) : Env β := VE59 N (spec_IsTable N) (spec_l1In N)
def BV_spec_l9In {β : Type} (N : Nat) (q_spec_IsTable : (a0 : Int) → (a1 : Int) → (k : Bool → Option β) → Option β) (q_spec_l1In : (a0 : Int) → (a1 : Int) → (a2 : Int) → (k : Bool → Option β) → Option β) (a0 : Int) (a1 : Int) (a2 : Int) (k : Bool → Option β) : Option β :=
q_spec_IsTable a0 a1 fun r4 =>
(cond r4
((gd ((decide (0 ≤ a0)))
(q_spec_l1In a2 0 ((w64 ((shlI .i64 1 a0) - 1))) fun r5 =>
k r5)))
(k false))
theorem t_spec_l9In {β : Type} (N : Nat) (a0 : Int) (a1 : Int) (a2 : Int) (k : Bool → Option β) : spec_l9In N a0 a1 a2 k = BV_spec_l9In N (spec_IsTable N) (spec_l1In N) a0 a1 a2 k := by
  unfold spec_l9In BV_spec_l9In
  rfl
theorem ve59_0 {β : Type} (N : Nat) (q_spec_IsTable : (a0 : Int) → (a1 : Int) → (k : Bool → Option β) → Option β) (q_spec_l1In : (a0 : Int) → (a1 : Int) → (a2 : Int) → (k : Bool → Option β) → Option β)  (a0 : Int) (a1 : Int) (a2 : Int) (K : TV → Option β) : evFn lay (VE59 N q_spec_IsTable q_spec_l1In) Try.f59 [.v (.agg [.int .i64 a0, .int .i64 a1]), .v (.one (.int .i64 a2))] K = BV_spec_l9In N q_spec_IsTable q_spec_l1In a0 a1 a2 (fun z3 => K (.v (.one (.bool z3)))) := by kernel_rfl
theorem e59_0 {β : Type} (N : Nat)  (a0 : Int) (a1 : Int) (a2 : Int) (K : TV → Option β) : evFn lay (E59 N) Try.f59 [.v (.agg [.int .i64 a0, .int .i64 a1]), .v (.one (.int .i64 a2))] K = spec_l9In N a0 a1 a2 (fun z3 => K (.v (.one (.bool z3)))) := (ve59_0 N (spec_IsTable N) (spec_l1In N) a0 a1 a2 K).trans (t_spec_l9In N a0 a1 a2 (fun z3 => K (.v (.one (.bool z3))))).symm
theorem o59 {β : Type} (N : Nat) : SpecOK (β := β) Try.prog 59 (S59 N) := by
  refine spec_of lay_ok mixed (E := E59 N) (specs_loops (specs_cons (o43 N) (specs_cons (o73 N) specs_nil))) muts_nil gs_nil Try.func59 (by kernel_rfl) 0 (by kernel_rfl) trivial fun args K r h => ?_
  unfold S59 VS59 at h
  split at h
  · exact (e59_0 N _ _ _ _).trans h
  · cases h
def VS60 {β : Type} (N : Nat) (q_spec_l30Flip : (a0 : Int) → (a1 : Int) → (a2 : Int) → (a3 : List Int) → (a4 : Int) → (k : Int → Int → Int → List Int → Option β) → Option β) : Rv.Spec β := fun args K => match args with
  | [.v (.agg [.int .i64 a0, .int .i64 a1, .int .i64 a2, .sl 3 (.ints .i64 a3)]), .v (.one (.int .i64 a4))] => q_spec_l30Flip a0 a1 a2 a3 a4 (fun z5 z6 z7 z8 => K (.v (.agg [.int .i64 z5, .int .i64 z6, .int .i64 z7, .sl 3 (.ints .i64 z8)])))
  | _ => none
def S60 {β : Type} (N : Nat) : Rv.Spec β := VS60 N (spec_l30Flip N)
def h60_0_0  (v0 : Int) (v1 : Int) (v2 : Int) (v3 : Int) (v4 : Int) (v5 : List Int) (v6 : Int) (v7 : Int) (v8 : Int) (v9 : Int) (v10 : Int) (v11 : Int) (v12 : Int) (v13 : Int) (v14 : List Int) (v15 : List Int) : St := ⟨.v (.one .und) :: .v (.one (.int .i64 v0)) :: .v (.one (.ptr 0 0)) :: .v (.one .und) :: .v (.one (.ptr 1 0)) :: .v (.one (.ptr 2 0)) :: .v (.one (.ptr 3 0)) :: .v (.one (.int .i64 v1)) :: .v (.one .und) :: .v (.one .und) :: .v (.one .und) :: .v (.one .und) :: .v (.one .und) :: .v (.one .und) :: .v (.one .und) :: .v (.one .und) :: .v (.one .und) :: .v (.one .und) :: .v (.one .und) :: .v (.one .und) :: .v (.one .und) :: .v (.one .und) :: .v (.one .und) :: .v (.one .und) :: .v (.one .und) :: .v (.one .und) :: .v (.one .und) :: .v (.one .und) :: .v (.one .und) :: .v (.one .und) :: .v (.one .und) :: .v (.one .und) :: .v (.one .und) :: .v (.one .und) :: .v (.one .und) :: .v (.one .und) :: .v (.one .und) :: .v (.one .und) :: .v (.one .und) :: .v (.one .und) :: .v (.one .und) :: .v (.one .und) :: .v (.one .und) :: .v (.one .und) :: .v (.one .und) :: .v (.one .und) :: .v (.one .und) :: .v (.one .und) :: .v (.one .und) :: .v (.one .und) :: .v (.one .und) :: .v (.one .und) :: .v (.one .und) :: .v (.one .und) :: .v (.one .und) :: .v (.one .und) :: .v (.one .und) :: .v (.one .und) :: .v (.one .und) :: .v (.one .und) :: .v (.one .und) :: .v (.one .und) :: .v (.one .und) :: .v (.one .und) :: .v (.one .und) :: .v (.one .und) :: .v (.one .und) :: [], [.cells 27 [.int .i64 v2, .int .i64 v3, .int .i64 v4, .sl 3 (.ints .i64 v5)], .cells 27 [.int .i64 v6, .int .i64 v7, .int .i64 v8, .row 4], .cells 24 [.int .i64 v9, .int .i64 v10], .cells 27 [.int .i64 v11, .int .i64 v12, .int .i64 v13, .row 5], .row 3 (.ints .i64 v14), .row 3 (.ints .i64 v15)]⟩
def x60_0_0_k0  (y0 : Int) (y1 : Int) (y2 : Int) (y3 : Int) (y4 : Int) (y5 : Int) (y6 : List Int) (y7 : List Int) : St := ⟨.v (.one .und) :: .v (.one .und) :: .v (.one .und) :: .v (.one .und) :: .v (.one (.ptr 0 0)) :: .v (.one .und) :: .v (.one (.ptr 1 0)) :: .v (.one .und) :: .v (.one .und) :: .v (.one .und) :: .v (.one .und) :: .v (.one .und) :: .v (.one .und) :: .v (.one .und) :: .v (.one .und) :: .v (.one .und) :: .v (.one .und) :: .v (.one .und) :: .v (.one .und) :: .v (.one .und) :: .v (.one .und) :: .v (.one .und) :: .v (.one .und) :: .v (.one .und) :: .v (.one .und) :: .v (.one .und) :: .v (.one .und) :: .v (.one .und) :: .v (.one .und) :: .v (.one .und) :: .v (.one .und) :: .v (.one .und) :: .v (.one .und) :: .v (.one .und) :: .v (.one .und) :: .v (.one .und) :: .v (.one .und) :: .v (.one .und) :: .v (.one .und) :: .v (.one .und) :: .v (.one .und) :: .v (.one .und) :: .v (.one .und) :: .v (.one .und) :: .v (.one .und) :: .v (.one .und) :: .v (.one .und) :: .v (.one .und) :: .v (.one .und) :: .v (.one .und) :: .v (.one .und) :: .v (.one .und) :: .v (.one .und) :: .v (.one .und) :: .v (.one .und) :: .v (.one .und) :: .v (.one .und) :: .v (.one .und) :: .v (.one .und) :: .v (.one .und) :: .v (.one .und) :: .v (.one .und) :: .v (.one .und) :: .v (.one .und) :: .v (.one .und) :: .v (.one .und) :: .v (.one .und) :: [], [.cells 27 [.int .i64 y0, .int .i64 y1, .int .i64 y2, .row 2], .cells 27 [.int .i64 y3, .int .i64 y4, .int .i64 y5, .row 3], .row 3 (.ints .i64 y6), .row 3 (.ints .i64 y7)]⟩
theorem fl60_0_0 (s : St) : refSt (h60_0_0 0 0 0 0 0 [] 0 0 0 0 0 0 0 0 [] []) s = h60_0_0 (intS (oneA (vT (nx tund s.tmps 1)))) (intS (oneA (vT (nx tund s.tmps 7)))) (intS (nx .und (cellsB (nx .dead s.blks 0)) 0)) (intS (nx .und (cellsB (nx .dead s.blks 0)) 1)) (intS (nx .und (cellsB (nx .dead s.blks 0)) 2)) (rInts (rowV (nx .und (cellsB (nx .dead s.blks 0)) 3))) (intS (nx .und (cellsB (nx .dead s.blks 1)) 0)) (intS (nx .und (cellsB (nx .dead s.blks 1)) 1)) (intS (nx .und (cellsB (nx .dead s.blks 1)) 2)) (intS (nx .und (cellsB (nx .dead s.blks 2)) 0)) (intS (nx .und (cellsB (nx .dead s.blks 2)) 1)) (intS (nx .und (cellsB (nx .dead s.blks 3)) 0)) (intS (nx .und (cellsB (nx .dead s.blks 3)) 1)) (intS (nx .und (cellsB (nx .dead s.blks 3)) 2)) (rInts (rowB_ (nx .dead s.blks 4))) (rInts (rowB_ (nx .dead s.blks 5))) := by kernel_rfl
def VLS60_0 {β : Type} (N : Nat) (q_spec_l30Flip_l0 : Nat → Int → Int → Int → Int → Int → List Int → Int → Int → Int → Int → Int → Int → Int → Int → List Int → List Int → (Int → Int → Int → Int → Int → Int → List Int → List Int → Option β) → Option β) : LSpec β := fun s K => cond (shpSt (h60_0_0 0 0 0 0 0 [] 0 0 0 0 0 0 0 0 [] []) s) ((fun (v0 : Int) (v1 : Int) (v2 : Int) (v3 : Int) (v4 : Int) (v5 : List Int) (v6 : Int) (v7 : Int) (v8 : Int) (v9 : Int) (v10 : Int) (v11 : Int) (v12 : Int) (v13 : Int) (v14 : List Int) (v15 : List Int) => q_spec_l30Flip_l0  N v0 v1 v2 v3 v4 v5 v6 v7 v8 v9 v10 v11 v12 v13 v14 v15 (fun y0 y1 y2 y3 y4 y5 y6 y7 => K (.exit 0) (x60_0_0_k0  y0 y1 y2 y3 y4 y5 y6 y7))) (intS (oneA (vT (nx tund s.tmps 1)))) (intS (oneA (vT (nx tund s.tmps 7)))) (intS (nx .und (cellsB (nx .dead s.blks 0)) 0)) (intS (nx .und (cellsB (nx .dead s.blks 0)) 1)) (intS (nx .und (cellsB (nx .dead s.blks 0)) 2)) (rInts (rowV (nx .und (cellsB (nx .dead s.blks 0)) 3))) (intS (nx .und (cellsB (nx .dead s.blks 1)) 0)) (intS (nx .und (cellsB (nx .dead s.blks 1)) 1)) (intS (nx .und (cellsB (nx .dead s.blks 1)) 2)) (intS (nx .und (cellsB (nx .dead s.blks 2)) 0)) (intS (nx .und (cellsB (nx .dead s.blks 2)) 1)) (intS (nx .und (cellsB (nx .dead s.blks 3)) 0)) (intS (nx .und (cellsB (nx .dead s.blks 3)) 1)) (intS (nx .und (cellsB (nx .dead s.blks 3)) 2)) (rInts (rowB_ (nx .dead s.blks 4))) (rInts (rowB_ (nx .dead s.blks 5)))) (none)
def LS60_0 {β : Type} (N : Nat) : LSpec β := VLS60_0 N (spec_l30Flip_l0 N)
def VE60 {β : Type} (N : Nat) (q_spec_l30Flip_l0 : Nat → Int → Int → Int → Int → Int → List Int → Int → Int → Int → Int → Int → Int → Int → Int → List Int → List Int → (Int → Int → Int → Int → Int → Int → List Int → List Int → Option β) → Option β) : Env β := ⟨[], [], [(0, VLS60_0 N q_spec_l30Flip_l0)], []⟩
def E60 {β : Type} (N : Nat) : Env β := VE60 N (spec_l30Flip_l0 N)
def BV_spec_l30Flip_l0b {β : Type} (N : Nat)  (v0 : Int) (v1 : Int) (v2 : Int) (v3 : Int) (v4 : Int) (v5 : List Int) (v6 : Int) (v7 : Int) (v8 : Int) (v9 : Int) (v10 : Int) (v11 : Int) (v12 : Int) (v13 : Int) (v14 : List Int) (v15 : List Int) (rec_ : Int → Int → Int → Int → Int → List Int → Int → Int → Int → Int → Int → Int → Int → Int → List Int → List Int → Option β) (k0 : Int → Int → Int → Int → Int → Int → List Int → List Int → Option β) : Option β :=
(cond ((decide (v1 < v9)))
((gd ((decide (0 ≤ v0)))
((gd ((decide (0 ≤ v1)))
((gd ((decide (0 ≤ (bits .xor .i64 v0 (shlI .i64 1 v1)))))
((cond (((bits .and .i64 (bits .xor .i64 (shrI .i64 v10 v0) (shrI .i64 v10 (bits .xor .i64 v0 (shlI .i64 1 v1)))) 1) == 1))
((gd ((decide (0 ≤ v1)))
((gd ((decide (v1 < (v5.length : Int))))
((gd ((decide ((v15.length + ((([] : List Int) ++ [(w64 ((rd 0 v5 v1) + (-2)))])).length) * 8 ≤ 140737488355328)))
(rec_ v0 ((w64 (v1 + 1))) v2 v3 v4 v5 v6 v7 v8 v9 v10 v11 v12 v13 v14 ((v15 ++ (([] : List Int) ++ [(w64 ((rd 0 v5 v1) + (-2)))]))))))))))
((gd ((decide (0 ≤ v1)))
((gd ((decide (v1 < (v5.length : Int))))
((gd ((decide ((v15.length + ((([] : List Int) ++ [(w64 ((rd 0 v5 v1) + 2))])).length) * 8 ≤ 140737488355328)))
(rec_ v0 ((w64 (v1 + 1))) v2 v3 v4 v5 v6 v7 v8 v9 v10 v11 v12 v13 v14 ((v15 ++ (([] : List Int) ++ [(w64 ((rd 0 v5 v1) + 2))]))))))))))))))))))
(k0 v6 v7 v8 v11 v12 v13 v14 v15))
theorem t_spec_l30Flip_l0b {β : Type} (N : Nat)  (v0 : Int) (v1 : Int) (v2 : Int) (v3 : Int) (v4 : Int) (v5 : List Int) (v6 : Int) (v7 : Int) (v8 : Int) (v9 : Int) (v10 : Int) (v11 : Int) (v12 : Int) (v13 : Int) (v14 : List Int) (v15 : List Int) (rec_ : Int → Int → Int → Int → Int → List Int → Int → Int → Int → Int → Int → Int → Int → Int → List Int → List Int → Option β) (k0 : Int → Int → Int → Int → Int → Int → List Int → List Int → Option β) : spec_l30Flip_l0b N v0 v1 v2 v3 v4 v5 v6 v7 v8 v9 v10 v11 v12 v13 v14 v15 rec_ k0 = BV_spec_l30Flip_l0b N v0 v1 v2 v3 v4 v5 v6 v7 v8 v9 v10 v11 v12 v13 v14 v15 rec_ k0 := by
  unfold spec_l30Flip_l0b BV_spec_l30Flip_l0b
  rfl
theorem vst60_0_0 {β : Type} (N : Nat) (q_spec_l30Flip_l0 : Nat → Int → Int → Int → Int → Int → List Int → Int → Int → Int → Int → Int → Int → Int → Int → List Int → List Int → (Int → Int → Int → Int → Int → Int → List Int → List Int → Option β) → Option β)  (v0 : Int) (v1 : Int) (v2 : Int) (v3 : Int) (v4 : Int) (v5 : List Int) (v6 : Int) (v7 : Int) (v8 : Int) (v9 : Int) (v10 : Int) (v11 : Int) (v12 : Int) (v13 : Int) (v14 : List Int) (v15 : List Int) (rec_ : St → Option β) (K : Exit → St → Option β) :
    ev lay (VE60 N q_spec_l30Flip_l0) (retMask Try.f60) (lp Try.f60 0).body (lp Try.f60 0).ex ((lp Try.f60 0).lv (retMask Try.f60)) (h60_0_0  v0 v1 v2 v3 v4 v5 v6 v7 v8 v9 v10 v11 v12 v13 v14 v15) (nextR (fun s' => rec_ (s'.tidy ((lp Try.f60 0).lv (retMask Try.f60)))) K) = BV_spec_l30Flip_l0b N  v0 v1 v2 v3 v4 v5 v6 v7 v8 v9 v10 v11 v12 v13 v14 v15 (fun v0 v1 v2 v3 v4 v5 v6 v7 v8 v9 v10 v11 v12 v13 v14 v15 => rec_ (h60_0_0  v0 v1 v2 v3 v4 v5 v6 v7 v8 v9 v10 v11 v12 v13 v14 v15)) (fun y0 y1 y2 y3 y4 y5 y6 y7 => K (.exit 0) (x60_0_0_k0  y0 y1 y2 y3 y4 y5 y6 y7)) := by kernel_rfl
theorem st60_0_0 {β : Type} (N : Nat)  (v0 : Int) (v1 : Int) (v2 : Int) (v3 : Int) (v4 : Int) (v5 : List Int) (v6 : Int) (v7 : Int) (v8 : Int) (v9 : Int) (v10 : Int) (v11 : Int) (v12 : Int) (v13 : Int) (v14 : List Int) (v15 : List Int) (rec_ : St → Option β) (K : Exit → St → Option β) :
    ev lay (E60 N) (retMask Try.f60) (lp Try.f60 0).body (lp Try.f60 0).ex ((lp Try.f60 0).lv (retMask Try.f60)) (h60_0_0  v0 v1 v2 v3 v4 v5 v6 v7 v8 v9 v10 v11 v12 v13 v14 v15) (nextR (fun s' => rec_ (s'.tidy ((lp Try.f60 0).lv (retMask Try.f60)))) K) = spec_l30Flip_l0b N  v0 v1 v2 v3 v4 v5 v6 v7 v8 v9 v10 v11 v12 v13 v14 v15 (fun v0 v1 v2 v3 v4 v5 v6 v7 v8 v9 v10 v11 v12 v13 v14 v15 => rec_ (h60_0_0  v0 v1 v2 v3 v4 v5 v6 v7 v8 v9 v10 v11 v12 v13 v14 v15)) (fun y0 y1 y2 y3 y4 y5 y6 y7 => K (.exit 0) (x60_0_0_k0  y0 y1 y2 y3 y4 y5 y6 y7)) := (vst60_0_0 N (spec_l30Flip_l0 N) v0 v1 v2 v3 v4 v5 v6 v7 v8 v9 v10 v11 v12 v13 v14 v15 rec_ K).trans (t_spec_l30Flip_l0b N  v0 v1 v2 v3 v4 v5 v6 v7 v8 v9 v10 v11 v12 v13 v14 v15 (fun v0 v1 v2 v3 v4 v5 v6 v7 v8 v9 v10 v11 v12 v13 v14 v15 => rec_ (h60_0_0  v0 v1 v2 v3 v4 v5 v6 v7 v8 v9 v10 v11 v12 v13 v14 v15)) (fun y0 y1 y2 y3 y4 y5 y6 y7 => K (.exit 0) (x60_0_0_k0  y0 y1 y2 y3 y4 y5 y6 y7))).symm
theorem ro60_0_0 {β : Type} (N : Nat)  (K : Exit → St → Option β) : ∀ (F : Nat) (v0 : Int) (v1 : Int) (v2 : Int) (v3 : Int) (v4 : Int) (v5 : List Int) (v6 : Int) (v7 : Int) (v8 : Int) (v9 : Int) (v10 : Int) (v11 : Int) (v12 : Int) (v13 : Int) (v14 : List Int) (v15 : List Int), (lp Try.f60 0).rounds lay (E60 N) (retMask Try.f60) F (h60_0_0  v0 v1 v2 v3 v4 v5 v6 v7 v8 v9 v10 v11 v12 v13 v14 v15) K = spec_l30Flip_l0 N  F v0 v1 v2 v3 v4 v5 v6 v7 v8 v9 v10 v11 v12 v13 v14 v15 (fun y0 y1 y2 y3 y4 y5 y6 y7 => K (.exit 0) (x60_0_0_k0  y0 y1 y2 y3 y4 y5 y6 y7)) := by
  intro F
  induction F with
  | zero => intros; rfl
  | succ F ih =>
    intros
    rw [rounds_next]
    refine (st60_0_0 N  _ _ _ _ _ _ _ _ _ _ _ _ _ _ _ _ (fun s => (lp Try.f60 0).rounds lay (E60 N) (retMask Try.f60) F s K) K).trans ?_
    simp only [ih]
    rfl
theorem lk60_0 {β : Type} (N : Nat) : lookL (E60 (β := β) N).loops (lp Try.f60 0).id = LS60_0 N := by kernel_rfl
theorem rk60_0 {β : Type} (N : Nat) : RoundsOK lay (E60 (β := β) N) (retMask Try.f60) (lp Try.f60 0) := by
  intro s K r h
  rw [lk60_0] at h
  unfold LS60_0 VLS60_0 at h
  cases hb : shpSt (h60_0_0 0 0 0 0 0 [] 0 0 0 0 0 0 0 0 [] []) s with
  | true =>
    rw [hb, cond_true] at h
    exact ⟨N, by rw [← shpSt_ref hb, fl60_0_0 s]; exact (ro60_0_0 N  K N (intS (oneA (vT (nx tund s.tmps 1)))) (intS (oneA (vT (nx tund s.tmps 7)))) (intS (nx .und (cellsB (nx .dead s.blks 0)) 0)) (intS (nx .und (cellsB (nx .dead s.blks 0)) 1)) (intS (nx .und (cellsB (nx .dead s.blks 0)) 2)) (rInts (rowV (nx .und (cellsB (nx .dead s.blks 0)) 3))) (intS (nx .und (cellsB (nx .dead s.blks 1)) 0)) (intS (nx .und (cellsB (nx .dead s.blks 1)) 1)) (intS (nx .und (cellsB (nx .dead s.blks 1)) 2)) (intS (nx .und (cellsB (nx .dead s.blks 2)) 0)) (intS (nx .und (cellsB (nx .dead s.blks 2)) 1)) (intS (nx .und (cellsB (nx .dead s.blks 3)) 0)) (intS (nx .und (cellsB (nx .dead s.blks 3)) 1)) (intS (nx .und (cellsB (nx .dead s.blks 3)) 2)) (rInts (rowB_ (nx .dead s.blks 4))) (rInts (rowB_ (nx .dead s.blks 5)))).trans h⟩
  | false =>
  rw [hb, cond_false] at h
  clear hb
  cases h
def BV_spec_l30Flip {β : Type} (N : Nat) (q_spec_l30Flip_l0 : Nat → Int → Int → Int → Int → Int → List Int → Int → Int → Int → Int → Int → Int → Int → Int → List Int → List Int → (Int → Int → Int → Int → Int → Int → List Int → List Int → Option β) → Option β) (a0 : Int) (a1 : Int) (a2 : Int) (a3 : List Int) (a4 : Int) (k : Int → Int → Int → List Int → Option β) : Option β :=
(gd ((decide (0 ≤ a4)))
((spec_l30Flip_s2 a4 a0 a1 a2 a3 0 0 0 a0 a1 a0 ((bits .xor .i64 a1 (shlI .i64 1 a4))) ((w64 (a2 + 1))) (([] : List Int)) (([] : List Int))
((gd ((decide (0 ≤ a4)))
((cond (((bits .and .i64 (shrI .i64 a1 a4) 1) == 1))
(q_spec_l30Flip_l0  N a4 0 a0 a1 a2 a3 0 0 0 a0 a1 a0 ((bits .xor .i64 a1 (shlI .i64 1 a4))) ((w64 (a2 - 1))) (([] : List Int)) (([] : List Int)) (fun e9_0 e9_1 e9_2 e9_3 e9_4 e9_5 e9_6 e9_7 =>
k e9_3 e9_4 e9_5 e9_7))
(q_spec_l30Flip_l0  N a4 0 a0 a1 a2 a3 0 0 0 a0 a1 a0 ((bits .xor .i64 a1 (shlI .i64 1 a4))) ((w64 (a2 + 1))) (([] : List Int)) (([] : List Int)) (fun e10_0 e10_1 e10_2 e10_3 e10_4 e10_5 e10_6 e10_7 =>
k e10_3 e10_4 e10_5 e10_7)))))))))
theorem t_spec_l30Flip {β : Type} (N : Nat) (a0 : Int) (a1 : Int) (a2 : Int) (a3 : List Int) (a4 : Int) (k : Int → Int → Int → List Int → Option β) : spec_l30Flip N a0 a1 a2 a3 a4 k = BV_spec_l30Flip N (spec_l30Flip_l0 N) a0 a1 a2 a3 a4 k := by
  unfold spec_l30Flip BV_spec_l30Flip
  rfl
theorem ve60_0 {β : Type} (N : Nat) (q_spec_l30Flip_l0 : Nat → Int → Int → Int → Int → Int → List Int → Int → Int → Int → Int → Int → Int → Int → Int → List Int → List Int → (Int → Int → Int → Int → Int → Int → List Int → List Int → Option β) → Option β)  (a0 : Int) (a1 : Int) (a2 : Int) (a3 : List Int) (a4 : Int) (K : TV → Option β) : evFn lay (VE60 N q_spec_l30Flip_l0) Try.f60 [.v (.agg [.int .i64 a0, .int .i64 a1, .int .i64 a2, .sl 3 (.ints .i64 a3)]), .v (.one (.int .i64 a4))] K = BV_spec_l30Flip N q_spec_l30Flip_l0 a0 a1 a2 a3 a4 (fun z5 z6 z7 z8 => K (.v (.agg [.int .i64 z5, .int .i64 z6, .int .i64 z7, .sl 3 (.ints .i64 z8)]))) := by kernel_rfl
theorem e60_0 {β : Type} (N : Nat)  (a0 : Int) (a1 : Int) (a2 : Int) (a3 : List Int) (a4 : Int) (K : TV → Option β) : evFn lay (E60 N) Try.f60 [.v (.agg [.int .i64 a0, .int .i64 a1, .int .i64 a2, .sl 3 (.ints .i64 a3)]), .v (.one (.int .i64 a4))] K = spec_l30Flip N a0 a1 a2 a3 a4 (fun z5 z6 z7 z8 => K (.v (.agg [.int .i64 z5, .int .i64 z6, .int .i64 z7, .sl 3 (.ints .i64 z8)]))) := (ve60_0 N (spec_l30Flip_l0 N) a0 a1 a2 a3 a4 K).trans (t_spec_l30Flip N a0 a1 a2 a3 a4 (fun z5 z6 z7 z8 => K (.v (.agg [.int .i64 z5, .int .i64 z6, .int .i64 z7, .sl 3 (.ints .i64 z8)])))).symm
theorem o60 {β : Type} (N : Nat) : SpecOK (β := β) Try.prog 60 (S60 N) := by
  refine spec_of lay_ok mixed (E := E60 N) (specs_loops specs_nil) muts_nil gs_nil Try.func60 (by kernel_rfl) 1 (by kernel_rfl) ⟨trivial, rk60_0 N⟩ fun args K r h => ?_
  unfold S60 VS60 at h
  split at h
  · exact (e60_0 N _ _ _ _ _ _).trans h
  · cases h
end Go.Proofs.Ytdjmbggefcfacaa
