/- The functions that the claims reach answer as their texts do. -/
import Derived.Test.YtdkjnadhgdneaaaE2
namespace Go.Proofs.Ytdkjnadhgdneaaa
open Go.Rv
set_option maxRecDepth 100000
set_option maxHeartbeats 2000000
set_option linter.unusedVariables false
def VS27 {β : Type} (N : Nat) (q_spec_DetectingInputs : (a0 : Int) → (a1 : Int) → (a2 : Int) → (a3 : Int) → (k : List Int → Bool → Option β) → Option β) : Rv.Spec β := fun args K => match args with
  | [.v (.agg [.int .i64 a0, .int .i64 a1]), .v (.one (.int .i64 a2)), .v (.one (.int .i64 a3))] => q_spec_DetectingInputs a0 a1 a2 a3 (fun z4 z5 => K (.tup [.one (.sl 3 (.ints .i64 z4)), .one (.bool z5)]))
  | _ => none
def S27 {β : Type} (N : Nat) : Rv.Spec β := VS27 N (spec_DetectingInputs N)
def h27_0_0  (v0 : Bool) (v1 : Int) (v2 : Int) (v3 : Int) (v4 : List Int) (v5 : Int) (v6 : Int) : St := ⟨.v (.one .und) :: .v (.one .und) :: .v (.one .und) :: .v (.one (.ptr 0 0)) :: .v (.one .und) :: .v (.one .und) :: .v (.one .und) :: .v (.one .und) :: .v (.one (.row 1)) :: .v (.one (.ptr 2 0)) :: .v (.one (.bool v0)) :: .v (.one (.int .i64 v1)) :: .v (.one .und) :: .v (.one .und) :: .v (.one .und) :: .v (.one .und) :: .v (.one .und) :: .v (.one .und) :: .v (.one .und) :: .v (.one .und) :: .v (.one .und) :: .v (.one .und) :: .v (.one .und) :: .v (.one .und) :: .v (.one .und) :: .v (.one .und) :: .v (.one .und) :: .v (.one .und) :: .v (.one .und) :: .v (.one .und) :: .v (.one .und) :: .v (.one .und) :: .v (.one .und) :: .v (.one .und) :: .v (.one .und) :: .v (.one .und) :: .v (.one .und) :: .v (.one .und) :: .v (.one .und) :: .v (.one .und) :: .v (.one .und) :: .v (.one .und) :: .v (.one .und) :: .v (.one .und) :: .v (.one .und) :: .v (.one .und) :: .v (.one .und) :: [], [.cells 25 [.int .i64 v2, .int .i64 v3], .row 3 (.ints .i64 v4), .cells 25 [.int .i64 v5, .int .i64 v6]]⟩
def x27_0_0_k0  (y0 : Bool) (y1 : List Int) : St := ⟨.v (.one .und) :: .v (.one .und) :: .v (.one .und) :: .v (.one .und) :: .v (.one .und) :: .v (.one .und) :: .v (.one .und) :: .v (.one .und) :: .v (.one (.row 0)) :: .v (.one .und) :: .v (.one (.bool y0)) :: .v (.one .und) :: .v (.one .und) :: .v (.one .und) :: .v (.one .und) :: .v (.one .und) :: .v (.one .und) :: .v (.one .und) :: .v (.one .und) :: .v (.one .und) :: .v (.one .und) :: .v (.one .und) :: .v (.one .und) :: .v (.one .und) :: .v (.one .und) :: .v (.one .und) :: .v (.one .und) :: .v (.one .und) :: .v (.one .und) :: .v (.one .und) :: .v (.one .und) :: .v (.one .und) :: .v (.one .und) :: .v (.one .und) :: .v (.one .und) :: .v (.one .und) :: .v (.one .und) :: .v (.one .und) :: .v (.one .und) :: .v (.one .und) :: .v (.one .und) :: .v (.one .und) :: .v (.one .und) :: .v (.one .und) :: .v (.one .und) :: .v (.one .und) :: .v (.one .und) :: [], [.row 3 (.ints .i64 y1)]⟩
theorem fl27_0_0 (s : St) : refSt (h27_0_0 false 0 0 0 [] 0 0) s = h27_0_0 (boolS (oneA (vT (nx tund s.tmps 10)))) (intS (oneA (vT (nx tund s.tmps 11)))) (intS (nx .und (cellsB (nx .dead s.blks 0)) 0)) (intS (nx .und (cellsB (nx .dead s.blks 0)) 1)) (rInts (rowB_ (nx .dead s.blks 1))) (intS (nx .und (cellsB (nx .dead s.blks 2)) 0)) (intS (nx .und (cellsB (nx .dead s.blks 2)) 1)) := by kernel_rfl
def VLS27_0 {β : Type} (N : Nat) (q_spec_DetectingInputs_l0 : Nat → Bool → Int → Int → Int → List Int → Int → Int → (Bool → List Int → Option β) → Option β) : LSpec β := fun s K => cond (shpSt (h27_0_0 false 0 0 0 [] 0 0) s) ((fun (v0 : Bool) (v1 : Int) (v2 : Int) (v3 : Int) (v4 : List Int) (v5 : Int) (v6 : Int) => q_spec_DetectingInputs_l0  N v0 v1 v2 v3 v4 v5 v6 (fun y0 y1 => K (.exit 0) (x27_0_0_k0  y0 y1))) (boolS (oneA (vT (nx tund s.tmps 10)))) (intS (oneA (vT (nx tund s.tmps 11)))) (intS (nx .und (cellsB (nx .dead s.blks 0)) 0)) (intS (nx .und (cellsB (nx .dead s.blks 0)) 1)) (rInts (rowB_ (nx .dead s.blks 1))) (intS (nx .und (cellsB (nx .dead s.blks 2)) 0)) (intS (nx .und (cellsB (nx .dead s.blks 2)) 1))) (none)
def LS27_0 {β : Type} (N : Nat) : LSpec β := VLS27_0 N (spec_DetectingInputs_l0 N)
def VE27 {β : Type} (N : Nat) (q_spec_StuckTable : (a0 : Int) → (a1 : Int) → (a2 : Int) → (a3 : Int) → (k : Int → Int → Bool → Option β) → Option β) (q_spec_DetectingInputs_l0 : Nat → Bool → Int → Int → Int → List Int → Int → Int → (Bool → List Int → Option β) → Option β) : Env β := ⟨[(44, VS44 N q_spec_StuckTable)], [], [(0, VLS27_0 N q_spec_DetectingInputs_l0)], []⟩
def E27 {β : Type} (N : Nat) : Env β := VE27 N (spec_StuckTable N) (spec_DetectingInputs_l0 N)
def BV_spec_DetectingInputs_l0b {β : Type} (N : Nat)  (v0 : Bool) (v1 : Int) (v2 : Int) (v3 : Int) (v4 : List Int) (v5 : Int) (v6 : Int) (rec_ : Bool → Int → Int → Int → List Int → Int → Int → Option β) (k0 : Bool → List Int → Option β) : Option β :=
(cond v0
((gd ((decide (0 ≤ v2)))
((cond ((decide (v1 < (shlI .i64 1 v2))))
((gd ((decide (0 ≤ v1)))
((gd ((decide (0 ≤ v1)))
((cond (((bits .and .i64 (bits .xor .i64 (shrI .i64 v3 v1) (shrI .i64 v6 v1)) 1) == 1))
((gd ((decide ((v4.length + ((([] : List Int) ++ [v1])).length) * 8 ≤ 140737488355328)))
(rec_ v0 ((w64 (v1 + 1))) v2 v3 ((v4 ++ (([] : List Int) ++ [v1]))) v5 v6)))
(rec_ v0 ((w64 (v1 + 1))) v2 v3 v4 v5 v6)))))))
(k0 v0 v4)))))
(k0 v0 v4))
theorem t_spec_DetectingInputs_l0b {β : Type} (N : Nat)  (v0 : Bool) (v1 : Int) (v2 : Int) (v3 : Int) (v4 : List Int) (v5 : Int) (v6 : Int) (rec_ : Bool → Int → Int → Int → List Int → Int → Int → Option β) (k0 : Bool → List Int → Option β) : spec_DetectingInputs_l0b N v0 v1 v2 v3 v4 v5 v6 rec_ k0 = BV_spec_DetectingInputs_l0b N v0 v1 v2 v3 v4 v5 v6 rec_ k0 := by
  unfold spec_DetectingInputs_l0b BV_spec_DetectingInputs_l0b
  rfl
theorem vst27_0_0 {β : Type} (N : Nat) (q_spec_StuckTable : (a0 : Int) → (a1 : Int) → (a2 : Int) → (a3 : Int) → (k : Int → Int → Bool → Option β) → Option β) (q_spec_DetectingInputs_l0 : Nat → Bool → Int → Int → Int → List Int → Int → Int → (Bool → List Int → Option β) → Option β)  (v0 : Bool) (v1 : Int) (v2 : Int) (v3 : Int) (v4 : List Int) (v5 : Int) (v6 : Int) (rec_ : St → Option β) (K : Exit → St → Option β) :
    ev lay (VE27 N q_spec_StuckTable q_spec_DetectingInputs_l0) (retMask Try.f27) (lp Try.f27 0).body (lp Try.f27 0).ex ((lp Try.f27 0).lv (retMask Try.f27)) (h27_0_0  v0 v1 v2 v3 v4 v5 v6) (nextR (fun s' => rec_ (s'.tidy ((lp Try.f27 0).lv (retMask Try.f27)))) K) = BV_spec_DetectingInputs_l0b N  v0 v1 v2 v3 v4 v5 v6 (fun v0 v1 v2 v3 v4 v5 v6 => rec_ (h27_0_0  v0 v1 v2 v3 v4 v5 v6)) (fun y0 y1 => K (.exit 0) (x27_0_0_k0  y0 y1)) := by kernel_rfl
theorem st27_0_0 {β : Type} (N : Nat)  (v0 : Bool) (v1 : Int) (v2 : Int) (v3 : Int) (v4 : List Int) (v5 : Int) (v6 : Int) (rec_ : St → Option β) (K : Exit → St → Option β) :
    ev lay (E27 N) (retMask Try.f27) (lp Try.f27 0).body (lp Try.f27 0).ex ((lp Try.f27 0).lv (retMask Try.f27)) (h27_0_0  v0 v1 v2 v3 v4 v5 v6) (nextR (fun s' => rec_ (s'.tidy ((lp Try.f27 0).lv (retMask Try.f27)))) K) = spec_DetectingInputs_l0b N  v0 v1 v2 v3 v4 v5 v6 (fun v0 v1 v2 v3 v4 v5 v6 => rec_ (h27_0_0  v0 v1 v2 v3 v4 v5 v6)) (fun y0 y1 => K (.exit 0) (x27_0_0_k0  y0 y1)) := (vst27_0_0 N (spec_StuckTable N) (spec_DetectingInputs_l0 N) v0 v1 v2 v3 v4 v5 v6 rec_ K).trans (t_spec_DetectingInputs_l0b N  v0 v1 v2 v3 v4 v5 v6 (fun v0 v1 v2 v3 v4 v5 v6 => rec_ (h27_0_0  v0 v1 v2 v3 v4 v5 v6)) (fun y0 y1 => K (.exit 0) (x27_0_0_k0  y0 y1))).symm
theorem ro27_0_0 {β : Type} (N : Nat)  (K : Exit → St → Option β) : ∀ (F : Nat) (v0 : Bool) (v1 : Int) (v2 : Int) (v3 : Int) (v4 : List Int) (v5 : Int) (v6 : Int), (lp Try.f27 0).rounds lay (E27 N) (retMask Try.f27) F (h27_0_0  v0 v1 v2 v3 v4 v5 v6) K = spec_DetectingInputs_l0 N  F v0 v1 v2 v3 v4 v5 v6 (fun y0 y1 => K (.exit 0) (x27_0_0_k0  y0 y1)) := by
  intro F
  induction F with
  | zero => intros; rfl
  | succ F ih =>
    intros
    rw [rounds_next]
    refine (st27_0_0 N  _ _ _ _ _ _ _ (fun s => (lp Try.f27 0).rounds lay (E27 N) (retMask Try.f27) F s K) K).trans ?_
    simp only [ih]
    rfl
theorem lk27_0 {β : Type} (N : Nat) : lookL (E27 (β := β) N).loops (lp Try.f27 0).id = LS27_0 N := by kernel_rfl
theorem rk27_0 {β : Type} (N : Nat) : RoundsOK lay (E27 (β := β) N) (retMask Try.f27) (lp Try.f27 0) := by
  intro s K r h
  rw [lk27_0] at h
  unfold LS27_0 VLS27_0 at h
  cases hb : shpSt (h27_0_0 false 0 0 0 [] 0 0) s with
  | true =>
    rw [hb, cond_true] at h
    exact ⟨N, by rw [← shpSt_ref hb, fl27_0_0 s]; exact (ro27_0_0 N  K N (boolS (oneA (vT (nx tund s.tmps 10)))) (intS (oneA (vT (nx tund s.tmps 11)))) (intS (nx .und (cellsB (nx .dead s.blks 0)) 0)) (intS (nx .und (cellsB (nx .dead s.blks 0)) 1)) (rInts (rowB_ (nx .dead s.blks 1))) (intS (nx .und (cellsB (nx .dead s.blks 2)) 0)) (intS (nx .und (cellsB (nx .dead s.blks 2)) 1))).trans h⟩
  | false =>
  rw [hb, cond_false] at h
  clear hb
  cases h
def BV_spec_DetectingInputs {β : Type} (N : Nat) (q_spec_StuckTable : (a0 : Int) → (a1 : Int) → (a2 : Int) → (a3 : Int) → (k : Int → Int → Bool → Option β) → Option β) (q_spec_DetectingInputs_l0 : Nat → Bool → Int → Int → Int → List Int → Int → Int → (Bool → List Int → Option β) → Option β) (a0 : Int) (a1 : Int) (a2 : Int) (a3 : Int) (k : List Int → Bool → Option β) : Option β :=
q_spec_StuckTable a0 a1 a2 a3 fun r6 r7 r8 =>
q_spec_DetectingInputs_l0  N r8 0 a0 a1 (([] : List Int)) r6 r7 (fun e9_0 e9_1 =>
k e9_1 e9_0)
theorem t_spec_DetectingInputs {β : Type} (N : Nat) (a0 : Int) (a1 : Int) (a2 : Int) (a3 : Int) (k : List Int → Bool → Option β) : spec_DetectingInputs N a0 a1 a2 a3 k = BV_spec_DetectingInputs N (spec_StuckTable N) (spec_DetectingInputs_l0 N) a0 a1 a2 a3 k := by
  unfold spec_DetectingInputs BV_spec_DetectingInputs
  rfl
theorem ve27_0 {β : Type} (N : Nat) (q_spec_StuckTable : (a0 : Int) → (a1 : Int) → (a2 : Int) → (a3 : Int) → (k : Int → Int → Bool → Option β) → Option β) (q_spec_DetectingInputs_l0 : Nat → Bool → Int → Int → Int → List Int → Int → Int → (Bool → List Int → Option β) → Option β)  (a0 : Int) (a1 : Int) (a2 : Int) (a3 : Int) (K : TV → Option β) : evFn lay (VE27 N q_spec_StuckTable q_spec_DetectingInputs_l0) Try.f27 [.v (.agg [.int .i64 a0, .int .i64 a1]), .v (.one (.int .i64 a2)), .v (.one (.int .i64 a3))] K = BV_spec_DetectingInputs N q_spec_StuckTable q_spec_DetectingInputs_l0 a0 a1 a2 a3 (fun z4 z5 => K (.tup [.one (.sl 3 (.ints .i64 z4)), .one (.bool z5)])) := by kernel_rfl
theorem e27_0 {β : Type} (N : Nat)  (a0 : Int) (a1 : Int) (a2 : Int) (a3 : Int) (K : TV → Option β) : evFn lay (E27 N) Try.f27 [.v (.agg [.int .i64 a0, .int .i64 a1]), .v (.one (.int .i64 a2)), .v (.one (.int .i64 a3))] K = spec_DetectingInputs N a0 a1 a2 a3 (fun z4 z5 => K (.tup [.one (.sl 3 (.ints .i64 z4)), .one (.bool z5)])) := (ve27_0 N (spec_StuckTable N) (spec_DetectingInputs_l0 N) a0 a1 a2 a3 K).trans (t_spec_DetectingInputs N a0 a1 a2 a3 (fun z4 z5 => K (.tup [.one (.sl 3 (.ints .i64 z4)), .one (.bool z5)]))).symm
theorem o27 {β : Type} (N : Nat) : SpecOK (β := β) Try.prog 27 (S27 N) := by
  refine spec_of lay_ok mixed (E := E27 N) (specs_loops (specs_cons (o44 N) specs_nil)) muts_nil gs_nil Try.func27 (by kernel_rfl) 1 (by kernel_rfl) ⟨trivial, rk27_0 N⟩ fun args K r h => ?_
  unfold S27 VS27 at h
  split at h
  · exact (e27_0 N _ _ _ _ _).trans h
  · cases h
def VS28 {β : Type} (N : Nat) (q_laws_sameInts : (a0 : List Int) → (a1 : List Int) → (k : Bool → Option β) → Option β) : Rv.Spec β := fun args K => match args with
  | [.v (.one (.sl 3 (.ints .i64 a0))), .v (.one (.sl 3 (.ints .i64 a1)))] => q_laws_sameInts a0 a1 (fun z2 => K (.v (.one (.bool z2))))
  | _ => none
def S28 {β : Type} (N : Nat) : Rv.Spec β := VS28 N (laws_sameInts N)
def h28_0_0  (v0 : List Int) (v1 : List Int) (v2 : Int) : St := ⟨.v (.one (.sl 3 (.ints .i64 v0))) :: .v (.one (.sl 3 (.ints .i64 v1))) :: .v (.one .und) :: .v (.one .und) :: .v (.one .und) :: .v (.one (.int .i64 v2)) :: .v (.one .und) :: .v (.one .und) :: .v (.one .und) :: .v (.one .und) :: .v (.one .und) :: .v (.one .und) :: .v (.one .und) :: .v (.one .und) :: .v (.one .und) :: .v (.one .und) :: .v (.one .und) :: .v (.one .und) :: .v (.one .und) :: .v (.one .und) :: .v (.one .und) :: .v (.one .und) :: .v (.one .und) :: .v (.one .und) :: .v (.one .und) :: .v (.one .und) :: [], []⟩
def x28_0_0_k0  (y0 : Bool) : St := ⟨.v (.one .und) :: .v (.one .und) :: .v (.one .und) :: .v (.one .und) :: .v (.one (.bool y0)) :: .v (.one .und) :: .v (.one .und) :: .v (.one .und) :: .v (.one .und) :: .v (.one .und) :: .v (.one .und) :: .v (.one .und) :: .v (.one .und) :: .v (.one .und) :: .v (.one .und) :: .v (.one .und) :: .v (.one .und) :: .v (.one .und) :: .v (.one .und) :: .v (.one .und) :: .v (.one .und) :: .v (.one .und) :: .v (.one .und) :: .v (.one .und) :: .v (.one .und) :: .v (.one .und) :: [], []⟩
def x28_0_0_k1   : St := ⟨.v (.one .und) :: .v (.one .und) :: .v (.one .und) :: .v (.one .und) :: .v (.one .und) :: .v (.one .und) :: .v (.one .und) :: .v (.one .und) :: .v (.one .und) :: .v (.one .und) :: .v (.one .und) :: .v (.one .und) :: .v (.one .und) :: .v (.one .und) :: .v (.one .und) :: .v (.one .und) :: .v (.one .und) :: .v (.one .und) :: .v (.one .und) :: .v (.one .und) :: .v (.one .und) :: .v (.one .und) :: .v (.one .und) :: .v (.one .und) :: .v (.one .und) :: .v (.one .und) :: [], []⟩
theorem fl28_0_0 (s : St) : refSt (h28_0_0 [] [] 0) s = h28_0_0 (rInts (rowV (oneA (vT (nx tund s.tmps 0))))) (rInts (rowV (oneA (vT (nx tund s.tmps 1))))) (intS (oneA (vT (nx tund s.tmps 5)))) := by kernel_rfl
def VLS28_0 {β : Type} (N : Nat) (q_laws_sameInts_l0 : Nat → List Int → List Int → Int → (Bool → Option β) → (Option β) → Option β) : LSpec β := fun s K => cond (shpSt (h28_0_0 [] [] 0) s) ((fun (v0 : List Int) (v1 : List Int) (v2 : Int) => q_laws_sameInts_l0  N v0 v1 v2 (fun y0 => K .ret (x28_0_0_k0  y0)) (K (.exit 0) (x28_0_0_k1  ))) (rInts (rowV (oneA (vT (nx tund s.tmps 0))))) (rInts (rowV (oneA (vT (nx tund s.tmps 1))))) (intS (oneA (vT (nx tund s.tmps 5))))) (none)
def LS28_0 {β : Type} (N : Nat) : LSpec β := VLS28_0 N (laws_sameInts_l0 N)
def VE28 {β : Type} (N : Nat) (q_laws_sameInts_l0 : Nat → List Int → List Int → Int → (Bool → Option β) → (Option β) → Option β) : Env β := ⟨[], [], [(0, VLS28_0 N q_laws_sameInts_l0)], []⟩
def E28 {β : Type} (N : Nat) : Env β := VE28 N (laws_sameInts_l0 N)
def BV_laws_sameInts_l0b {β : Type} (N : Nat)  (v0 : List Int) (v1 : List Int) (v2 : Int) (rec_ : List Int → List Int → Int → Option β) (k0 : Bool → Option β) (k1 : Option β) : Option β :=
(cond ((decide (v2 < (v0.length : Int))))
((gd ((decide (0 ≤ v2)))
((gd ((decide (v2 < (v0.length : Int))))
((gd ((decide (0 ≤ v2)))
((gd ((decide (v2 < (v1.length : Int))))
((cond (((rd 0 v0 v2) != (rd 0 v1 v2)))
(k0 false)
(rec_ v0 v1 ((w64 (v2 + 1))))))))))))))
(k1 ))
theorem t_laws_sameInts_l0b {β : Type} (N : Nat)  (v0 : List Int) (v1 : List Int) (v2 : Int) (rec_ : List Int → List Int → Int → Option β) (k0 : Bool → Option β) (k1 : Option β) : laws_sameInts_l0b N v0 v1 v2 rec_ k0 k1 = BV_laws_sameInts_l0b N v0 v1 v2 rec_ k0 k1 := by
  unfold laws_sameInts_l0b BV_laws_sameInts_l0b
  rfl
theorem vst28_0_0 {β : Type} (N : Nat) (q_laws_sameInts_l0 : Nat → List Int → List Int → Int → (Bool → Option β) → (Option β) → Option β)  (v0 : List Int) (v1 : List Int) (v2 : Int) (rec_ : St → Option β) (K : Exit → St → Option β) :
    ev lay (VE28 N q_laws_sameInts_l0) (retMask Try.f28) (lp Try.f28 0).body (lp Try.f28 0).ex ((lp Try.f28 0).lv (retMask Try.f28)) (h28_0_0  v0 v1 v2) (nextR (fun s' => rec_ (s'.tidy ((lp Try.f28 0).lv (retMask Try.f28)))) K) = BV_laws_sameInts_l0b N  v0 v1 v2 (fun v0 v1 v2 => rec_ (h28_0_0  v0 v1 v2)) (fun y0 => K .ret (x28_0_0_k0  y0)) (K (.exit 0) (x28_0_0_k1  )) := by kernel_rfl
theorem st28_0_0 {β : Type} (N : Nat)  (v0 : List Int) (v1 : List Int) (v2 : Int) (rec_ : St → Option β) (K : Exit → St → Option β) :
    ev lay (E28 N) (retMask Try.f28) (lp Try.f28 0).body (lp Try.f28 0).ex ((lp Try.f28 0).lv (retMask Try.f28)) (h28_0_0  v0 v1 v2) (nextR (fun s' => rec_ (s'.tidy ((lp Try.f28 0).lv (retMask Try.f28)))) K) = laws_sameInts_l0b N  v0 v1 v2 (fun v0 v1 v2 => rec_ (h28_0_0  v0 v1 v2)) (fun y0 => K .ret (x28_0_0_k0  y0)) (K (.exit 0) (x28_0_0_k1  )) := (vst28_0_0 N (laws_sameInts_l0 N) v0 v1 v2 rec_ K).trans (t_laws_sameInts_l0b N  v0 v1 v2 (fun v0 v1 v2 => rec_ (h28_0_0  v0 v1 v2)) (fun y0 => K .ret (x28_0_0_k0  y0)) (K (.exit 0) (x28_0_0_k1  ))).symm
theorem ro28_0_0 {β : Type} (N : Nat)  (K : Exit → St → Option β) : ∀ (F : Nat) (v0 : List Int) (v1 : List Int) (v2 : Int), (lp Try.f28 0).rounds lay (E28 N) (retMask Try.f28) F (h28_0_0  v0 v1 v2) K = laws_sameInts_l0 N  F v0 v1 v2 (fun y0 => K .ret (x28_0_0_k0  y0)) (K (.exit 0) (x28_0_0_k1  )) := by
  intro F
  induction F with
  | zero => intros; rfl
  | succ F ih =>
    intros
    rw [rounds_next]
    refine (st28_0_0 N  _ _ _ (fun s => (lp Try.f28 0).rounds lay (E28 N) (retMask Try.f28) F s K) K).trans ?_
    simp only [ih]
    rfl
theorem lk28_0 {β : Type} (N : Nat) : lookL (E28 (β := β) N).loops (lp Try.f28 0).id = LS28_0 N := by kernel_rfl
theorem rk28_0 {β : Type} (N : Nat) : RoundsOK lay (E28 (β := β) N) (retMask Try.f28) (lp Try.f28 0) := by
  intro s K r h
  rw [lk28_0] at h
  unfold LS28_0 VLS28_0 at h
  cases hb : shpSt (h28_0_0 [] [] 0) s with
  | true =>
    rw [hb, cond_true] at h
    exact ⟨N, by rw [← shpSt_ref hb, fl28_0_0 s]; exact (ro28_0_0 N  K N (rInts (rowV (oneA (vT (nx tund s.tmps 0))))) (rInts (rowV (oneA (vT (nx tund s.tmps 1))))) (intS (oneA (vT (nx tund s.tmps 5))))).trans h⟩
  | false =>
  rw [hb, cond_false] at h
  clear hb
  cases h
def BV_laws_sameInts {β : Type} (N : Nat) (q_laws_sameInts_l0 : Nat → List Int → List Int → Int → (Bool → Option β) → (Option β) → Option β) (a0 : List Int) (a1 : List Int) (k : Bool → Option β) : Option β :=
(cond (((a0.length : Int) != (a1.length : Int)))
(k false)
(q_laws_sameInts_l0  N a0 a1 0 (fun e3_0 =>
k e3_0) (k true)))
theorem t_laws_sameInts {β : Type} (N : Nat) (a0 : List Int) (a1 : List Int) (k : Bool → Option β) : laws_sameInts N a0 a1 k = BV_laws_sameInts N (laws_sameInts_l0 N) a0 a1 k := by
  unfold laws_sameInts BV_laws_sameInts
  rfl
theorem ve28_0 {β : Type} (N : Nat) (q_laws_sameInts_l0 : Nat → List Int → List Int → Int → (Bool → Option β) → (Option β) → Option β)  (a0 : List Int) (a1 : List Int) (K : TV → Option β) : evFn lay (VE28 N q_laws_sameInts_l0) Try.f28 [.v (.one (.sl 3 (.ints .i64 a0))), .v (.one (.sl 3 (.ints .i64 a1)))] K = BV_laws_sameInts N q_laws_sameInts_l0 a0 a1 (fun z2 => K (.v (.one (.bool z2)))) := by kernel_rfl
theorem e28_0 {β : Type} (N : Nat)  (a0 : List Int) (a1 : List Int) (K : TV → Option β) : evFn lay (E28 N) Try.f28 [.v (.one (.sl 3 (.ints .i64 a0))), .v (.one (.sl 3 (.ints .i64 a1)))] K = laws_sameInts N a0 a1 (fun z2 => K (.v (.one (.bool z2)))) := (ve28_0 N (laws_sameInts_l0 N) a0 a1 K).trans (t_laws_sameInts N a0 a1 (fun z2 => K (.v (.one (.bool z2))))).symm
theorem o28 {β : Type} (N : Nat) : SpecOK (β := β) Try.prog 28 (S28 N) := by
  refine spec_of lay_ok mixed (E := E28 N) (specs_loops specs_nil) muts_nil gs_nil Try.func28 (by kernel_rfl) 1 (by kernel_rfl) ⟨trivial, rk28_0 N⟩ fun args K r h => ?_
  unfold S28 VS28 at h
  split at h
  · exact (e28_0 N _ _ _).trans h
  · cases h
def VS115 {β : Type} (N : Nat) (q_impl_Table_changes : (a0 : Int) → (a1 : Int) → (a2 : Int) → (a3 : Int) → (k : Bool → Option β) → Option β) : Rv.Spec β := fun args K => match args with
  | [.v (.agg [.int .i64 a0, .int .i64 a1]), .v (.one (.int .i64 a2)), .v (.one (.int .i64 a3))] => q_impl_Table_changes a0 a1 a2 a3 (fun z4 => K (.v (.one (.bool z4))))
  | _ => none
def S115 {β : Type} (N : Nat) : Rv.Spec β := VS115 N (impl_Table_changes N)
def VE115 {β : Type} (N : Nat) (q_impl_Table_at : (a0 : Int) → (a1 : Int) → (a2 : Int) → (k : Int → Option β) → Option β) : Env β := ⟨[(120, VS120 N q_impl_Table_at)], [], [], []⟩
def E115 {β : Type} (N : Nat) : Env β := VE115 N (impl_Table_at N)
def BV_impl_Table_changes {β : Type} (N : Nat) (q_impl_Table_at : (a0 : Int) → (a1 : Int) → (a2 : Int) → (k : Int → Option β) → Option β) (a0 : Int) (a1 : Int) (a2 : Int) (a3 : Int) (k : Bool → Option β) : Option β :=
q_impl_Table_at a0 a1 a2 fun r5 =>
q_impl_Table_at a0 a1 ((bits .xor .i64 a2 a3)) fun r6 =>
k ((r5 != r6))
theorem t_impl_Table_changes {β : Type} (N : Nat) (a0 : Int) (a1 : Int) (a2 : Int) (a3 : Int) (k : Bool → Option β) : impl_Table_changes N a0 a1 a2 a3 k = BV_impl_Table_changes N (impl_Table_at N) a0 a1 a2 a3 k := by
  unfold impl_Table_changes BV_impl_Table_changes
  rfl
theorem ve115_0 {β : Type} (N : Nat) (q_impl_Table_at : (a0 : Int) → (a1 : Int) → (a2 : Int) → (k : Int → Option β) → Option β)  (a0 : Int) (a1 : Int) (a2 : Int) (a3 : Int) (K : TV → Option β) : evFn lay (VE115 N q_impl_Table_at) Try.f115 [.v (.agg [.int .i64 a0, .int .i64 a1]), .v (.one (.int .i64 a2)), .v (.one (.int .i64 a3))] K = BV_impl_Table_changes N q_impl_Table_at a0 a1 a2 a3 (fun z4 => K (.v (.one (.bool z4)))) := by kernel_rfl
theorem e115_0 {β : Type} (N : Nat)  (a0 : Int) (a1 : Int) (a2 : Int) (a3 : Int) (K : TV → Option β) : evFn lay (E115 N) Try.f115 [.v (.agg [.int .i64 a0, .int .i64 a1]), .v (.one (.int .i64 a2)), .v (.one (.int .i64 a3))] K = impl_Table_changes N a0 a1 a2 a3 (fun z4 => K (.v (.one (.bool z4)))) := (ve115_0 N (impl_Table_at N) a0 a1 a2 a3 K).trans (t_impl_Table_changes N a0 a1 a2 a3 (fun z4 => K (.v (.one (.bool z4))))).symm
theorem o115 {β : Type} (N : Nat) : SpecOK (β := β) Try.prog 115 (S115 N) := by
  refine spec_of lay_ok mixed (E := E115 N) (specs_loops (specs_cons (o120 N) specs_nil)) muts_nil gs_nil Try.func115 (by kernel_rfl) 0 (by kernel_rfl) trivial fun args K r h => ?_
  unfold S115 VS115 at h
  split at h
  · exact (e115_0 N _ _ _ _ _).trans h
  · cases h
def VS78 {β : Type} (N : Nat) (q_impl_Table_influence : (a0 : Int) → (a1 : Int) → (a2 : Int) → (k : Int → Option β) → Option β) : Rv.Spec β := fun args K => match args with
  | [.v (.agg [.int .i64 a0, .int .i64 a1]), .v (.one (.int .i64 a2))] => q_impl_Table_influence a0 a1 a2 (fun z3 => K (.v (.one (.int .i64 z3))))
  | _ => none
def S78 {β : Type} (N : Nat) : Rv.Spec β := VS78 N (impl_Table_influence N)
def h78_0_0  (v0 : Int) (v1 : Int) (v2 : Int) (v3 : Int) (v4 : Int) (v5 : Int) : St := ⟨.v (.one .und) :: .v (.one (.int .i64 v0)) :: .v (.one (.ptr 0 0)) :: .v (.one .und) :: .v (.one .und) :: .v (.one (.int .i64 v1)) :: .v (.one .und) :: .v (.one .und) :: .v (.one (.int .i64 v2)) :: .v (.one (.int .i64 v3)) :: .v (.one .und) :: .v (.one .und) :: .v (.one .und) :: .v (.one .und) :: .v (.one .und) :: .v (.one .und) :: .v (.one .und) :: .v (.one .und) :: .v (.one .und) :: .v (.one .und) :: .v (.one .und) :: [], [.cells 25 [.int .i64 v4, .int .i64 v5]]⟩
def x78_0_0_k0  (y0 : Int) : St := ⟨.v (.one .und) :: .v (.one .und) :: .v (.one .und) :: .v (.one .und) :: .v (.one .und) :: .v (.one (.int .i64 y0)) :: .v (.one .und) :: .v (.one .und) :: .v (.one .und) :: .v (.one .und) :: .v (.one .und) :: .v (.one .und) :: .v (.one .und) :: .v (.one .und) :: .v (.one .und) :: .v (.one .und) :: .v (.one .und) :: .v (.one .und) :: .v (.one .und) :: .v (.one .und) :: .v (.one .und) :: [], []⟩
theorem fl78_0_0 (s : St) : refSt (h78_0_0 0 0 0 0 0 0) s = h78_0_0 (intS (oneA (vT (nx tund s.tmps 1)))) (intS (oneA (vT (nx tund s.tmps 5)))) (intS (oneA (vT (nx tund s.tmps 8)))) (intS (oneA (vT (nx tund s.tmps 9)))) (intS (nx .und (cellsB (nx .dead s.blks 0)) 0)) (intS (nx .und (cellsB (nx .dead s.blks 0)) 1)) := by kernel_rfl
def VLS78_0 {β : Type} (N : Nat) (q_impl_Table_influence_l0 : Nat → Int → Int → Int → Int → Int → Int → (Int → Option β) → Option β) : LSpec β := fun s K => cond (shpSt (h78_0_0 0 0 0 0 0 0) s) ((fun (v0 : Int) (v1 : Int) (v2 : Int) (v3 : Int) (v4 : Int) (v5 : Int) => q_impl_Table_influence_l0  N v0 v1 v2 v3 v4 v5 (fun y0 => K (.exit 0) (x78_0_0_k0  y0))) (intS (oneA (vT (nx tund s.tmps 1)))) (intS (oneA (vT (nx tund s.tmps 5)))) (intS (oneA (vT (nx tund s.tmps 8)))) (intS (oneA (vT (nx tund s.tmps 9)))) (intS (nx .und (cellsB (nx .dead s.blks 0)) 0)) (intS (nx .und (cellsB (nx .dead s.blks 0)) 1))) (none)
def LS78_0 {β : Type} (N : Nat) : LSpec β := VLS78_0 N (impl_Table_influence_l0 N)
def VE78 {β : Type} (N : Nat) (q_impl_Table_size : (a0 : Int) → (a1 : Int) → (k : Int → Option β) → Option β) (q_impl_Table_changes : (a0 : Int) → (a1 : Int) → (a2 : Int) → (a3 : Int) → (k : Bool → Option β) → Option β) (q_impl_Table_influence_l0 : Nat → Int → Int → Int → Int → Int → Int → (Int → Option β) → Option β) : Env β := ⟨[(82, VS82 N q_impl_Table_size), (115, VS115 N q_impl_Table_changes)], [], [(0, VLS78_0 N q_impl_Table_influence_l0)], []⟩
def E78 {β : Type} (N : Nat) : Env β := VE78 N (impl_Table_size N) (impl_Table_changes N) (impl_Table_influence_l0 N)
def BV_impl_Table_influence_l0b {β : Type} (N : Nat) (q_impl_Table_changes : (a0 : Int) → (a1 : Int) → (a2 : Int) → (a3 : Int) → (k : Bool → Option β) → Option β)  (v0 : Int) (v1 : Int) (v2 : Int) (v3 : Int) (v4 : Int) (v5 : Int) (rec_ : Int → Int → Int → Int → Int → Int → Option β) (k0 : Int → Option β) : Option β :=
(cond ((decide (v3 < v2)))
((gd ((decide (0 ≤ v0)))
(q_impl_Table_changes v4 v5 v3 ((shlI .i64 1 v0)) fun r5 =>
(cond r5
(rec_ v0 ((w64 (v1 + 1))) v2 ((w64 (v3 + 1))) v4 v5)
(rec_ v0 v1 v2 ((w64 (v3 + 1))) v4 v5)))))
(k0 v1))
theorem t_impl_Table_influence_l0b {β : Type} (N : Nat)  (v0 : Int) (v1 : Int) (v2 : Int) (v3 : Int) (v4 : Int) (v5 : Int) (rec_ : Int → Int → Int → Int → Int → Int → Option β) (k0 : Int → Option β) : impl_Table_influence_l0b N v0 v1 v2 v3 v4 v5 rec_ k0 = BV_impl_Table_influence_l0b N (impl_Table_changes N) v0 v1 v2 v3 v4 v5 rec_ k0 := by
  unfold impl_Table_influence_l0b BV_impl_Table_influence_l0b
  rfl
theorem vst78_0_0 {β : Type} (N : Nat) (q_impl_Table_size : (a0 : Int) → (a1 : Int) → (k : Int → Option β) → Option β) (q_impl_Table_changes : (a0 : Int) → (a1 : Int) → (a2 : Int) → (a3 : Int) → (k : Bool → Option β) → Option β) (q_impl_Table_influence_l0 : Nat → Int → Int → Int → Int → Int → Int → (Int → Option β) → Option β)  (v0 : Int) (v1 : Int) (v2 : Int) (v3 : Int) (v4 : Int) (v5 : Int) (rec_ : St → Option β) (K : Exit → St → Option β) :
    ev lay (VE78 N q_impl_Table_size q_impl_Table_changes q_impl_Table_influence_l0) (retMask Try.f78) (lp Try.f78 0).body (lp Try.f78 0).ex ((lp Try.f78 0).lv (retMask Try.f78)) (h78_0_0  v0 v1 v2 v3 v4 v5) (nextR (fun s' => rec_ (s'.tidy ((lp Try.f78 0).lv (retMask Try.f78)))) K) = BV_impl_Table_influence_l0b N q_impl_Table_changes  v0 v1 v2 v3 v4 v5 (fun v0 v1 v2 v3 v4 v5 => rec_ (h78_0_0  v0 v1 v2 v3 v4 v5)) (fun y0 => K (.exit 0) (x78_0_0_k0  y0)) := by kernel_rfl
theorem st78_0_0 {β : Type} (N : Nat)  (v0 : Int) (v1 : Int) (v2 : Int) (v3 : Int) (v4 : Int) (v5 : Int) (rec_ : St → Option β) (K : Exit → St → Option β) :
    ev lay (E78 N) (retMask Try.f78) (lp Try.f78 0).body (lp Try.f78 0).ex ((lp Try.f78 0).lv (retMask Try.f78)) (h78_0_0  v0 v1 v2 v3 v4 v5) (nextR (fun s' => rec_ (s'.tidy ((lp Try.f78 0).lv (retMask Try.f78)))) K) = impl_Table_influence_l0b N  v0 v1 v2 v3 v4 v5 (fun v0 v1 v2 v3 v4 v5 => rec_ (h78_0_0  v0 v1 v2 v3 v4 v5)) (fun y0 => K (.exit 0) (x78_0_0_k0  y0)) := (vst78_0_0 N (impl_Table_size N) (impl_Table_changes N) (impl_Table_influence_l0 N) v0 v1 v2 v3 v4 v5 rec_ K).trans (t_impl_Table_influence_l0b N  v0 v1 v2 v3 v4 v5 (fun v0 v1 v2 v3 v4 v5 => rec_ (h78_0_0  v0 v1 v2 v3 v4 v5)) (fun y0 => K (.exit 0) (x78_0_0_k0  y0))).symm
theorem ro78_0_0 {β : Type} (N : Nat)  (K : Exit → St → Option β) : ∀ (F : Nat) (v0 : Int) (v1 : Int) (v2 : Int) (v3 : Int) (v4 : Int) (v5 : Int), (lp Try.f78 0).rounds lay (E78 N) (retMask Try.f78) F (h78_0_0  v0 v1 v2 v3 v4 v5) K = impl_Table_influence_l0 N  F v0 v1 v2 v3 v4 v5 (fun y0 => K (.exit 0) (x78_0_0_k0  y0)) := by
  intro F
  induction F with
  | zero => intros; rfl
  | succ F ih =>
    intros
    rw [rounds_next]
    refine (st78_0_0 N  _ _ _ _ _ _ (fun s => (lp Try.f78 0).rounds lay (E78 N) (retMask Try.f78) F s K) K).trans ?_
    simp only [ih]
    rfl
theorem lk78_0 {β : Type} (N : Nat) : lookL (E78 (β := β) N).loops (lp Try.f78 0).id = LS78_0 N := by kernel_rfl
theorem rk78_0 {β : Type} (N : Nat) : RoundsOK lay (E78 (β := β) N) (retMask Try.f78) (lp Try.f78 0) := by
  intro s K r h
  rw [lk78_0] at h
  unfold LS78_0 VLS78_0 at h
  cases hb : shpSt (h78_0_0 0 0 0 0 0 0) s with
  | true =>
    rw [hb, cond_true] at h
    exact ⟨N, by rw [← shpSt_ref hb, fl78_0_0 s]; exact (ro78_0_0 N  K N (intS (oneA (vT (nx tund s.tmps 1)))) (intS (oneA (vT (nx tund s.tmps 5)))) (intS (oneA (vT (nx tund s.tmps 8)))) (intS (oneA (vT (nx tund s.tmps 9)))) (intS (nx .und (cellsB (nx .dead s.blks 0)) 0)) (intS (nx .und (cellsB (nx .dead s.blks 0)) 1))).trans h⟩
  | false =>
  rw [hb, cond_false] at h
  clear hb
  cases h
def BV_impl_Table_influence {β : Type} (N : Nat) (q_impl_Table_size : (a0 : Int) → (a1 : Int) → (k : Int → Option β) → Option β) (q_impl_Table_influence_l0 : Nat → Int → Int → Int → Int → Int → Int → (Int → Option β) → Option β) (a0 : Int) (a1 : Int) (a2 : Int) (k : Int → Option β) : Option β :=
q_impl_Table_size a0 a1 fun r4 =>
q_impl_Table_influence_l0  N a2 0 r4 0 a0 a1 (fun e6_0 =>
k e6_0)
theorem t_impl_Table_influence {β : Type} (N : Nat) (a0 : Int) (a1 : Int) (a2 : Int) (k : Int → Option β) : impl_Table_influence N a0 a1 a2 k = BV_impl_Table_influence N (impl_Table_size N) (impl_Table_influence_l0 N) a0 a1 a2 k := by
  unfold impl_Table_influence BV_impl_Table_influence
  rfl
theorem ve78_0 {β : Type} (N : Nat) (q_impl_Table_size : (a0 : Int) → (a1 : Int) → (k : Int → Option β) → Option β) (q_impl_Table_changes : (a0 : Int) → (a1 : Int) → (a2 : Int) → (a3 : Int) → (k : Bool → Option β) → Option β) (q_impl_Table_influence_l0 : Nat → Int → Int → Int → Int → Int → Int → (Int → Option β) → Option β)  (a0 : Int) (a1 : Int) (a2 : Int) (K : TV → Option β) : evFn lay (VE78 N q_impl_Table_size q_impl_Table_changes q_impl_Table_influence_l0) Try.f78 [.v (.agg [.int .i64 a0, .int .i64 a1]), .v (.one (.int .i64 a2))] K = BV_impl_Table_influence N q_impl_Table_size q_impl_Table_influence_l0 a0 a1 a2 (fun z3 => K (.v (.one (.int .i64 z3)))) := by kernel_rfl
theorem e78_0 {β : Type} (N : Nat)  (a0 : Int) (a1 : Int) (a2 : Int) (K : TV → Option β) : evFn lay (E78 N) Try.f78 [.v (.agg [.int .i64 a0, .int .i64 a1]), .v (.one (.int .i64 a2))] K = impl_Table_influence N a0 a1 a2 (fun z3 => K (.v (.one (.int .i64 z3)))) := (ve78_0 N (impl_Table_size N) (impl_Table_changes N) (impl_Table_influence_l0 N) a0 a1 a2 K).trans (t_impl_Table_influence N a0 a1 a2 (fun z3 => K (.v (.one (.int .i64 z3))))).symm
theorem o78 {β : Type} (N : Nat) : SpecOK (β := β) Try.prog 78 (S78 N) := by
  refine spec_of lay_ok mixed (E := E78 N) (specs_loops (specs_cons (o82 N) (specs_cons (o115 N) specs_nil))) muts_nil gs_nil Try.func78 (by kernel_rfl) 1 (by kernel_rfl) ⟨trivial, rk78_0 N⟩ fun args K r h => ?_
  unfold S78 VS78 at h
  split at h
  · exact (e78_0 N _ _ _ _).trans h
  · cases h
def VS29 {β : Type} (N : Nat) (q_impl_InfluenceOf : (a0 : Int) → (a1 : Int) → (a2 : Int) → (k : Int → Option β) → Option β) : Rv.Spec β := fun args K => match args with
  | [.v (.agg [.int .i64 a0, .int .i64 a1]), .v (.one (.int .i64 a2))] => q_impl_InfluenceOf a0 a1 a2 (fun z3 => K (.v (.one (.int .i64 z3))))
  | _ => none
def S29 {β : Type} (N : Nat) : Rv.Spec β := VS29 N (impl_InfluenceOf N)
def VE29 {β : Type} (N : Nat) (q_impl_hasVariable : (a0 : Int) → (a1 : Int) → (a2 : Int) → (k : Bool → Option β) → Option β) (q_impl_Table_influence : (a0 : Int) → (a1 : Int) → (a2 : Int) → (k : Int → Option β) → Option β) : Env β := ⟨[(74, VS74 N q_impl_hasVariable), (78, VS78 N q_impl_Table_influence)], [], [], []⟩
def E29 {β : Type} (N : Nat) : Env β := VE29 N (impl_hasVariable N) (impl_Table_influence N)
def BV_impl_InfluenceOf {β : Type} (N : Nat) (q_impl_hasVariable : (a0 : Int) → (a1 : Int) → (a2 : Int) → (k : Bool → Option β) → Option β) (q_impl_Table_influence : (a0 : Int) → (a1 : Int) → (a2 : Int) → (k : Int → Option β) → Option β) (a0 : Int) (a1 : Int) (a2 : Int) (k : Int → Option β) : Option β :=
q_impl_hasVariable a0 a1 a2 fun r4 =>
(cond (!r4)
(k (-1))
(q_impl_Table_influence a0 a1 a2 fun r5 =>
k r5))
theorem t_impl_InfluenceOf {β : Type} (N : Nat) (a0 : Int) (a1 : Int) (a2 : Int) (k : Int → Option β) : impl_InfluenceOf N a0 a1 a2 k = BV_impl_InfluenceOf N (impl_hasVariable N) (impl_Table_influence N) a0 a1 a2 k := by
  unfold impl_InfluenceOf BV_impl_InfluenceOf
  rfl
theorem ve29_0 {β : Type} (N : Nat) (q_impl_hasVariable : (a0 : Int) → (a1 : Int) → (a2 : Int) → (k : Bool → Option β) → Option β) (q_impl_Table_influence : (a0 : Int) → (a1 : Int) → (a2 : Int) → (k : Int → Option β) → Option β)  (a0 : Int) (a1 : Int) (a2 : Int) (K : TV → Option β) : evFn lay (VE29 N q_impl_hasVariable q_impl_Table_influence) Try.f29 [.v (.agg [.int .i64 a0, .int .i64 a1]), .v (.one (.int .i64 a2))] K = BV_impl_InfluenceOf N q_impl_hasVariable q_impl_Table_influence a0 a1 a2 (fun z3 => K (.v (.one (.int .i64 z3)))) := by kernel_rfl
theorem e29_0 {β : Type} (N : Nat)  (a0 : Int) (a1 : Int) (a2 : Int) (K : TV → Option β) : evFn lay (E29 N) Try.f29 [.v (.agg [.int .i64 a0, .int .i64 a1]), .v (.one (.int .i64 a2))] K = impl_InfluenceOf N a0 a1 a2 (fun z3 => K (.v (.one (.int .i64 z3)))) := (ve29_0 N (impl_hasVariable N) (impl_Table_influence N) a0 a1 a2 K).trans (t_impl_InfluenceOf N a0 a1 a2 (fun z3 => K (.v (.one (.int .i64 z3))))).symm
theorem o29 {β : Type} (N : Nat) : SpecOK (β := β) Try.prog 29 (S29 N) := by
  refine spec_of lay_ok mixed (E := E29 N) (specs_loops (specs_cons (o74 N) (specs_cons (o78 N) specs_nil))) muts_nil gs_nil Try.func29 (by kernel_rfl) 0 (by kernel_rfl) trivial fun args K r h => ?_
  unfold S29 VS29 at h
  split at h
  · exact (e29_0 N _ _ _ _).trans h
  · cases h
def VS67 {β : Type} (N : Nat) (q_impl_isInput : (a0 : Int) → (a1 : Int) → (k : Bool → Option β) → Option β) : Rv.Spec β := fun args K => match args with
  | [.v (.one (.int .i64 a0)), .v (.one (.int .i64 a1))] => q_impl_isInput a0 a1 (fun z2 => K (.v (.one (.bool z2))))
  | _ => none
def S67 {β : Type} (N : Nat) : Rv.Spec β := VS67 N (impl_isInput N)
def VE67 {β : Type} (N : Nat) : Env β := ⟨[], [], [], []⟩
def E67 {β : Type} (N : Nat) : Env β := VE67 N
def BV_impl_isInput {β : Type} (N : Nat) (a0 : Int) (a1 : Int) (k : Bool → Option β) : Option β :=
(cond ((decide (a1 ≥ 0)))
((gd ((decide (0 ≤ a0)))
(k ((decide (a1 < (shlI .i64 1 a0)))))))
(k false))
theorem t_impl_isInput {β : Type} (N : Nat) (a0 : Int) (a1 : Int) (k : Bool → Option β) : impl_isInput N a0 a1 k = BV_impl_isInput N a0 a1 k := by
  unfold impl_isInput BV_impl_isInput
  rfl
theorem ve67_0 {β : Type} (N : Nat)  (a0 : Int) (a1 : Int) (K : TV → Option β) : evFn lay (VE67 N) Try.f67 [.v (.one (.int .i64 a0)), .v (.one (.int .i64 a1))] K = BV_impl_isInput N a0 a1 (fun z2 => K (.v (.one (.bool z2)))) := by kernel_rfl
theorem e67_0 {β : Type} (N : Nat)  (a0 : Int) (a1 : Int) (K : TV → Option β) : evFn lay (E67 N) Try.f67 [.v (.one (.int .i64 a0)), .v (.one (.int .i64 a1))] K = impl_isInput N a0 a1 (fun z2 => K (.v (.one (.bool z2)))) := (ve67_0 N a0 a1 K).trans (t_impl_isInput N a0 a1 (fun z2 => K (.v (.one (.bool z2))))).symm
theorem o67 {β : Type} (N : Nat) : SpecOK (β := β) Try.prog 67 (S67 N) := by
  refine spec_of lay_ok mixed (E := E67 N) (specs_loops specs_nil) muts_nil gs_nil Try.func67 (by kernel_rfl) 0 (by kernel_rfl) trivial fun args K r h => ?_
  unfold S67 VS67 at h
  split at h
  · exact (e67_0 N _ _ _).trans h
  · cases h
def VS79 {β : Type} (N : Nat) (q_impl_hasInput : (a0 : Int) → (a1 : Int) → (a2 : Int) → (k : Bool → Option β) → Option β) : Rv.Spec β := fun args K => match args with
  | [.v (.agg [.int .i64 a0, .int .i64 a1]), .v (.one (.int .i64 a2))] => q_impl_hasInput a0 a1 a2 (fun z3 => K (.v (.one (.bool z3))))
  | _ => none
def S79 {β : Type} (N : Nat) : Rv.Spec β := VS79 N (impl_hasInput N)
def VE79 {β : Type} (N : Nat) (q_impl_IsTable : (a0 : Int) → (a1 : Int) → (k : Bool → Option β) → Option β) (q_impl_isInput : (a0 : Int) → (a1 : Int) → (k : Bool → Option β) → Option β) : Env β := ⟨[(61, VS61 N q_impl_IsTable), (67, VS67 N q_impl_isInput)], [], [], []⟩
def E79 {β : Type} (N : Nat) : Env β := VE79 N (impl_IsTable N) (impl_isInput N)
def BV_impl_hasInput {β : Type} (N : Nat) (q_impl_IsTable : (a0 : Int) → (a1 : Int) → (k : Bool → Option β) → Option β) (q_impl_isInput : (a0 : Int) → (a1 : Int) → (k : Bool → Option β) → Option β) (a0 : Int) (a1 : Int) (a2 : Int) (k : Bool → Option β) : Option β :=
q_impl_IsTable a0 a1 fun r4 =>
(cond r4
(q_impl_isInput a0 a2 fun r5 =>
k r5)
(k false))
theorem t_impl_hasInput {β : Type} (N : Nat) (a0 : Int) (a1 : Int) (a2 : Int) (k : Bool → Option β) : impl_hasInput N a0 a1 a2 k = BV_impl_hasInput N (impl_IsTable N) (impl_isInput N) a0 a1 a2 k := by
  unfold impl_hasInput BV_impl_hasInput
  rfl
theorem ve79_0 {β : Type} (N : Nat) (q_impl_IsTable : (a0 : Int) → (a1 : Int) → (k : Bool → Option β) → Option β) (q_impl_isInput : (a0 : Int) → (a1 : Int) → (k : Bool → Option β) → Option β)  (a0 : Int) (a1 : Int) (a2 : Int) (K : TV → Option β) : evFn lay (VE79 N q_impl_IsTable q_impl_isInput) Try.f79 [.v (.agg [.int .i64 a0, .int .i64 a1]), .v (.one (.int .i64 a2))] K = BV_impl_hasInput N q_impl_IsTable q_impl_isInput a0 a1 a2 (fun z3 => K (.v (.one (.bool z3)))) := by kernel_rfl
theorem e79_0 {β : Type} (N : Nat)  (a0 : Int) (a1 : Int) (a2 : Int) (K : TV → Option β) : evFn lay (E79 N) Try.f79 [.v (.agg [.int .i64 a0, .int .i64 a1]), .v (.one (.int .i64 a2))] K = impl_hasInput N a0 a1 a2 (fun z3 => K (.v (.one (.bool z3)))) := (ve79_0 N (impl_IsTable N) (impl_isInput N) a0 a1 a2 K).trans (t_impl_hasInput N a0 a1 a2 (fun z3 => K (.v (.one (.bool z3))))).symm
theorem o79 {β : Type} (N : Nat) : SpecOK (β := β) Try.prog 79 (S79 N) := by
  refine spec_of lay_ok mixed (E := E79 N) (specs_loops (specs_cons (o61 N) (specs_cons (o67 N) specs_nil))) muts_nil gs_nil Try.func79 (by kernel_rfl) 0 (by kernel_rfl) trivial fun args K r h => ?_
  unfold S79 VS79 at h
  split at h
  · exact (e79_0 N _ _ _ _).trans h
  · cases h
def VS31 {β : Type} (N : Nat) (q_impl_DetectedBy : (a0 : Int) → (a1 : Int) → (a2 : Int) → (k : List Int → Option β) → Option β) : Rv.Spec β := fun args K => match args with
  | [.v (.agg [.int .i64 a0, .int .i64 a1]), .v (.one (.int .i64 a2))] => q_impl_DetectedBy a0 a1 a2 (fun z3 => K (.v (.one (.sl 3 (.ints .i64 z3)))))
  | _ => none
def S31 {β : Type} (N : Nat) : Rv.Spec β := VS31 N (impl_DetectedBy N)
def h31_0_0  (v0 : Int) (v1 : Int) (v2 : Int) (v3 : Int) (v4 : Int) (v5 : List Int) : St := ⟨.v (.one .und) :: .v (.one (.int .i64 v0)) :: .v (.one (.ptr 0 0)) :: .v (.one .und) :: .v (.one .und) :: .v (.one (.row 1)) :: .v (.one .und) :: .v (.one .und) :: .v (.one .und) :: .v (.one .und) :: .v (.one .und) :: .v (.one .und) :: .v (.one .und) :: .v (.one (.int .i64 v1)) :: .v (.one (.int .i64 v2)) :: .v (.one .und) :: .v (.one .und) :: .v (.one .und) :: .v (.one .und) :: .v (.one .und) :: .v (.one .und) :: .v (.one .und) :: .v (.one .und) :: .v (.one .und) :: .v (.one .und) :: .v (.one .und) :: .v (.one .und) :: .v (.one .und) :: .v (.one .und) :: .v (.one .und) :: .v (.one .und) :: .v (.one .und) :: .v (.one .und) :: .v (.one .und) :: .v (.one .und) :: .v (.one .und) :: .v (.one .und) :: .v (.one .und) :: [], [.cells 25 [.int .i64 v3, .int .i64 v4], .row 3 (.ints .i64 v5)]⟩
def x31_0_0_k0  (y0 : List Int) : St := ⟨.v (.one .und) :: .v (.one .und) :: .v (.one .und) :: .v (.one .und) :: .v (.one .und) :: .v (.one (.row 0)) :: .v (.one .und) :: .v (.one .und) :: .v (.one .und) :: .v (.one .und) :: .v (.one .und) :: .v (.one .und) :: .v (.one .und) :: .v (.one .und) :: .v (.one .und) :: .v (.one .und) :: .v (.one .und) :: .v (.one .und) :: .v (.one .und) :: .v (.one .und) :: .v (.one .und) :: .v (.one .und) :: .v (.one .und) :: .v (.one .und) :: .v (.one .und) :: .v (.one .und) :: .v (.one .und) :: .v (.one .und) :: .v (.one .und) :: .v (.one .und) :: .v (.one .und) :: .v (.one .und) :: .v (.one .und) :: .v (.one .und) :: .v (.one .und) :: .v (.one .und) :: .v (.one .und) :: .v (.one .und) :: [], [.row 3 (.ints .i64 y0)]⟩
def h31_1_0  (v0 : Int) (v1 : Int) (v2 : Int) (v3 : Int) (v4 : Int) (v5 : Int) (v6 : Int) (v7 : List Int) : St := ⟨.v (.one .und) :: .v (.one (.int .i64 v0)) :: .v (.one (.ptr 0 0)) :: .v (.one .und) :: .v (.one .und) :: .v (.one (.row 1)) :: .v (.one (.int .i64 v1)) :: .v (.one .und) :: .v (.one .und) :: .v (.one .und) :: .v (.one .und) :: .v (.one .und) :: .v (.one .und) :: .v (.one (.int .i64 v2)) :: .v (.one (.int .i64 v3)) :: .v (.one .und) :: .v (.one .und) :: .v (.one (.int .i64 v4)) :: .v (.one .und) :: .v (.one .und) :: .v (.one .und) :: .v (.one .und) :: .v (.one .und) :: .v (.one .und) :: .v (.one .und) :: .v (.one .und) :: .v (.one .und) :: .v (.one .und) :: .v (.one .und) :: .v (.one .und) :: .v (.one .und) :: .v (.one .und) :: .v (.one .und) :: .v (.one .und) :: .v (.one .und) :: .v (.one .und) :: .v (.one .und) :: .v (.one .und) :: [], [.cells 25 [.int .i64 v5, .int .i64 v6], .row 3 (.ints .i64 v7)]⟩
def x31_1_0_k0  (y0 : Int) (y1 : Int) (y2 : Int) (y3 : Int) (y4 : Int) (y5 : List Int) : St := ⟨.v (.one .und) :: .v (.one (.int .i64 y0)) :: .v (.one (.ptr 0 0)) :: .v (.one .und) :: .v (.one .und) :: .v (.one (.row 1)) :: .v (.one .und) :: .v (.one .und) :: .v (.one .und) :: .v (.one .und) :: .v (.one .und) :: .v (.one .und) :: .v (.one .und) :: .v (.one (.int .i64 y1)) :: .v (.one (.int .i64 y2)) :: .v (.one .und) :: .v (.one .und) :: .v (.one .und) :: .v (.one .und) :: .v (.one .und) :: .v (.one .und) :: .v (.one .und) :: .v (.one .und) :: .v (.one .und) :: .v (.one .und) :: .v (.one .und) :: .v (.one .und) :: .v (.one .und) :: .v (.one .und) :: .v (.one .und) :: .v (.one .und) :: .v (.one .und) :: .v (.one .und) :: .v (.one .und) :: .v (.one .und) :: .v (.one .und) :: .v (.one .und) :: .v (.one .und) :: [], [.cells 25 [.int .i64 y3, .int .i64 y4], .row 3 (.ints .i64 y5)]⟩
theorem fl31_0_0 (s : St) : refSt (h31_0_0 0 0 0 0 0 []) s = h31_0_0 (intS (oneA (vT (nx tund s.tmps 1)))) (intS (oneA (vT (nx tund s.tmps 13)))) (intS (oneA (vT (nx tund s.tmps 14)))) (intS (nx .und (cellsB (nx .dead s.blks 0)) 0)) (intS (nx .und (cellsB (nx .dead s.blks 0)) 1)) (rInts (rowB_ (nx .dead s.blks 1))) := by kernel_rfl
def VLS31_0 {β : Type} (N : Nat) (q_impl_DetectedBy_l0 : Nat → Int → Int → Int → Int → Int → List Int → (List Int → Option β) → Option β) : LSpec β := fun s K => cond (shpSt (h31_0_0 0 0 0 0 0 []) s) ((fun (v0 : Int) (v1 : Int) (v2 : Int) (v3 : Int) (v4 : Int) (v5 : List Int) => q_impl_DetectedBy_l0  N v0 v1 v2 v3 v4 v5 (fun y0 => K (.exit 0) (x31_0_0_k0  y0))) (intS (oneA (vT (nx tund s.tmps 1)))) (intS (oneA (vT (nx tund s.tmps 13)))) (intS (oneA (vT (nx tund s.tmps 14)))) (intS (nx .und (cellsB (nx .dead s.blks 0)) 0)) (intS (nx .und (cellsB (nx .dead s.blks 0)) 1)) (rInts (rowB_ (nx .dead s.blks 1)))) (none)
def LS31_0 {β : Type} (N : Nat) : LSpec β := VLS31_0 N (impl_DetectedBy_l0 N)
theorem fl31_1_0 (s : St) : refSt (h31_1_0 0 0 0 0 0 0 0 []) s = h31_1_0 (intS (oneA (vT (nx tund s.tmps 1)))) (intS (oneA (vT (nx tund s.tmps 6)))) (intS (oneA (vT (nx tund s.tmps 13)))) (intS (oneA (vT (nx tund s.tmps 14)))) (intS (oneA (vT (nx tund s.tmps 17)))) (intS (nx .und (cellsB (nx .dead s.blks 0)) 0)) (intS (nx .und (cellsB (nx .dead s.blks 0)) 1)) (rInts (rowB_ (nx .dead s.blks 1))) := by kernel_rfl
def VLS31_2 {β : Type} (N : Nat) (q_impl_DetectedBy_l2 : Nat → Int → Int → Int → Int → Int → Int → Int → List Int → (Int → Int → Int → Int → Int → List Int → Option β) → Option β) : LSpec β := fun s K => cond (shpSt (h31_1_0 0 0 0 0 0 0 0 []) s) ((fun (v0 : Int) (v1 : Int) (v2 : Int) (v3 : Int) (v4 : Int) (v5 : Int) (v6 : Int) (v7 : List Int) => q_impl_DetectedBy_l2  N v0 v1 v2 v3 v4 v5 v6 v7 (fun y0 y1 y2 y3 y4 y5 => K (.exit 2) (x31_1_0_k0  y0 y1 y2 y3 y4 y5))) (intS (oneA (vT (nx tund s.tmps 1)))) (intS (oneA (vT (nx tund s.tmps 6)))) (intS (oneA (vT (nx tund s.tmps 13)))) (intS (oneA (vT (nx tund s.tmps 14)))) (intS (oneA (vT (nx tund s.tmps 17)))) (intS (nx .und (cellsB (nx .dead s.blks 0)) 0)) (intS (nx .und (cellsB (nx .dead s.blks 0)) 1)) (rInts (rowB_ (nx .dead s.blks 1)))) (none)
def LS31_2 {β : Type} (N : Nat) : LSpec β := VLS31_2 N (impl_DetectedBy_l2 N)
def VE31 {β : Type} (N : Nat) (q_impl_hasInput : (a0 : Int) → (a1 : Int) → (a2 : Int) → (k : Bool → Option β) → Option β) (q_impl_Table_detecting : (a0 : Int) → (a1 : Int) → (a2 : Int) → (a3 : Int) → (k : Int → Option β) → Option β) (q_impl_DetectedBy_l0 : Nat → Int → Int → Int → Int → Int → List Int → (List Int → Option β) → Option β) (q_impl_DetectedBy_l2 : Nat → Int → Int → Int → Int → Int → Int → Int → List Int → (Int → Int → Int → Int → Int → List Int → Option β) → Option β) : Env β := ⟨[(79, VS79 N q_impl_hasInput), (77, VS77 N q_impl_Table_detecting)], [], [(0, VLS31_0 N q_impl_DetectedBy_l0), (2, VLS31_2 N q_impl_DetectedBy_l2)], []⟩
def E31 {β : Type} (N : Nat) : Env β := VE31 N (impl_hasInput N) (impl_Table_detecting N) (impl_DetectedBy_l0 N) (impl_DetectedBy_l2 N)
def BV_impl_DetectedBy_l0b {β : Type} (N : Nat) (q_impl_DetectedBy_l2 : Nat → Int → Int → Int → Int → Int → Int → Int → List Int → (Int → Int → Int → Int → Int → List Int → Option β) → Option β)  (v0 : Int) (v1 : Int) (v2 : Int) (v3 : Int) (v4 : Int) (v5 : List Int) (rec_ : Int → Int → Int → Int → Int → List Int → Option β) (k0 : List Int → Option β) : Option β :=
(cond ((decide (v2 < v1)))
(q_impl_DetectedBy_l2  N v0 v2 v1 v2 0 v3 v4 v5 (fun e6_0 e6_1 e6_2 e6_3 e6_4 e6_5 =>
rec_ e6_0 e6_1 ((w64 (e6_2 + 1))) e6_3 e6_4 e6_5))
(k0 v5))
theorem t_impl_DetectedBy_l0b {β : Type} (N : Nat)  (v0 : Int) (v1 : Int) (v2 : Int) (v3 : Int) (v4 : Int) (v5 : List Int) (rec_ : Int → Int → Int → Int → Int → List Int → Option β) (k0 : List Int → Option β) : impl_DetectedBy_l0b N v0 v1 v2 v3 v4 v5 rec_ k0 = BV_impl_DetectedBy_l0b N (impl_DetectedBy_l2 N) v0 v1 v2 v3 v4 v5 rec_ k0 := by
  unfold impl_DetectedBy_l0b BV_impl_DetectedBy_l0b
  rfl
theorem vst31_0_0 {β : Type} (N : Nat) (q_impl_hasInput : (a0 : Int) → (a1 : Int) → (a2 : Int) → (k : Bool → Option β) → Option β) (q_impl_Table_detecting : (a0 : Int) → (a1 : Int) → (a2 : Int) → (a3 : Int) → (k : Int → Option β) → Option β) (q_impl_DetectedBy_l0 : Nat → Int → Int → Int → Int → Int → List Int → (List Int → Option β) → Option β) (q_impl_DetectedBy_l2 : Nat → Int → Int → Int → Int → Int → Int → Int → List Int → (Int → Int → Int → Int → Int → List Int → Option β) → Option β)  (v0 : Int) (v1 : Int) (v2 : Int) (v3 : Int) (v4 : Int) (v5 : List Int) (rec_ : St → Option β) (K : Exit → St → Option β) :
    ev lay (VE31 N q_impl_hasInput q_impl_Table_detecting q_impl_DetectedBy_l0 q_impl_DetectedBy_l2) (retMask Try.f31) (lp Try.f31 0).body (lp Try.f31 0).ex ((lp Try.f31 0).lv (retMask Try.f31)) (h31_0_0  v0 v1 v2 v3 v4 v5) (nextR (fun s' => rec_ (s'.tidy ((lp Try.f31 0).lv (retMask Try.f31)))) K) = BV_impl_DetectedBy_l0b N q_impl_DetectedBy_l2  v0 v1 v2 v3 v4 v5 (fun v0 v1 v2 v3 v4 v5 => rec_ (h31_0_0  v0 v1 v2 v3 v4 v5)) (fun y0 => K (.exit 0) (x31_0_0_k0  y0)) := by kernel_rfl
theorem st31_0_0 {β : Type} (N : Nat)  (v0 : Int) (v1 : Int) (v2 : Int) (v3 : Int) (v4 : Int) (v5 : List Int) (rec_ : St → Option β) (K : Exit → St → Option β) :
    ev lay (E31 N) (retMask Try.f31) (lp Try.f31 0).body (lp Try.f31 0).ex ((lp Try.f31 0).lv (retMask Try.f31)) (h31_0_0  v0 v1 v2 v3 v4 v5) (nextR (fun s' => rec_ (s'.tidy ((lp Try.f31 0).lv (retMask Try.f31)))) K) = impl_DetectedBy_l0b N  v0 v1 v2 v3 v4 v5 (fun v0 v1 v2 v3 v4 v5 => rec_ (h31_0_0  v0 v1 v2 v3 v4 v5)) (fun y0 => K (.exit 0) (x31_0_0_k0  y0)) := (vst31_0_0 N (impl_hasInput N) (impl_Table_detecting N) (impl_DetectedBy_l0 N) (impl_DetectedBy_l2 N) v0 v1 v2 v3 v4 v5 rec_ K).trans (t_impl_DetectedBy_l0b N  v0 v1 v2 v3 v4 v5 (fun v0 v1 v2 v3 v4 v5 => rec_ (h31_0_0  v0 v1 v2 v3 v4 v5)) (fun y0 => K (.exit 0) (x31_0_0_k0  y0))).symm
theorem ro31_0_0 {β : Type} (N : Nat)  (K : Exit → St → Option β) : ∀ (F : Nat) (v0 : Int) (v1 : Int) (v2 : Int) (v3 : Int) (v4 : Int) (v5 : List Int), (lp Try.f31 0).rounds lay (E31 N) (retMask Try.f31) F (h31_0_0  v0 v1 v2 v3 v4 v5) K = impl_DetectedBy_l0 N  F v0 v1 v2 v3 v4 v5 (fun y0 => K (.exit 0) (x31_0_0_k0  y0)) := by
  intro F
  induction F with
  | zero => intros; rfl
  | succ F ih =>
    intros
    rw [rounds_next]
    refine (st31_0_0 N  _ _ _ _ _ _ (fun s => (lp Try.f31 0).rounds lay (E31 N) (retMask Try.f31) F s K) K).trans ?_
    simp only [ih]
    rfl
theorem lk31_0 {β : Type} (N : Nat) : lookL (E31 (β := β) N).loops (lp Try.f31 0).id = LS31_0 N := by kernel_rfl
theorem rk31_0 {β : Type} (N : Nat) : RoundsOK lay (E31 (β := β) N) (retMask Try.f31) (lp Try.f31 0) := by
  intro s K r h
  rw [lk31_0] at h
  unfold LS31_0 VLS31_0 at h
  cases hb : shpSt (h31_0_0 0 0 0 0 0 []) s with
  | true =>
    rw [hb, cond_true] at h
    exact ⟨N, by rw [← shpSt_ref hb, fl31_0_0 s]; exact (ro31_0_0 N  K N (intS (oneA (vT (nx tund s.tmps 1)))) (intS (oneA (vT (nx tund s.tmps 13)))) (intS (oneA (vT (nx tund s.tmps 14)))) (intS (nx .und (cellsB (nx .dead s.blks 0)) 0)) (intS (nx .und (cellsB (nx .dead s.blks 0)) 1)) (rInts (rowB_ (nx .dead s.blks 1)))).trans h⟩
  | false =>
  rw [hb, cond_false] at h
  clear hb
  cases h
def BV_impl_DetectedBy_l2b {β : Type} (N : Nat) (q_impl_Table_detecting : (a0 : Int) → (a1 : Int) → (a2 : Int) → (a3 : Int) → (k : Int → Option β) → Option β)  (v0 : Int) (v1 : Int) (v2 : Int) (v3 : Int) (v4 : Int) (v5 : Int) (v6 : Int) (v7 : List Int) (rec_ : Int → Int → Int → Int → Int → Int → Int → List Int → Option β) (k0 : Int → Int → Int → Int → Int → List Int → Option β) : Option β :=
(cond ((decide (v4 < 2)))
(q_impl_Table_detecting v5 v6 v1 v4 fun r5 =>
(gd ((decide (0 ≤ v0)))
((cond (((bits .and .i64 (shrI .i64 r5 v0) 1) == 1))
((gd ((decide ((v7.length + ((([] : List Int) ++ [(w64 ((w64 (2 * v1)) + v4))])).length) * 8 ≤ 140737488355328)))
(rec_ v0 v1 v2 v3 ((w64 (v4 + 1))) v5 v6 ((v7 ++ (([] : List Int) ++ [(w64 ((w64 (2 * v1)) + v4))]))))))
(rec_ v0 v1 v2 v3 ((w64 (v4 + 1))) v5 v6 v7)))))
(k0 v0 v2 v3 v5 v6 v7))
theorem t_impl_DetectedBy_l2b {β : Type} (N : Nat)  (v0 : Int) (v1 : Int) (v2 : Int) (v3 : Int) (v4 : Int) (v5 : Int) (v6 : Int) (v7 : List Int) (rec_ : Int → Int → Int → Int → Int → Int → Int → List Int → Option β) (k0 : Int → Int → Int → Int → Int → List Int → Option β) : impl_DetectedBy_l2b N v0 v1 v2 v3 v4 v5 v6 v7 rec_ k0 = BV_impl_DetectedBy_l2b N (impl_Table_detecting N) v0 v1 v2 v3 v4 v5 v6 v7 rec_ k0 := by
  unfold impl_DetectedBy_l2b BV_impl_DetectedBy_l2b
  rfl
theorem vst31_1_0 {β : Type} (N : Nat) (q_impl_hasInput : (a0 : Int) → (a1 : Int) → (a2 : Int) → (k : Bool → Option β) → Option β) (q_impl_Table_detecting : (a0 : Int) → (a1 : Int) → (a2 : Int) → (a3 : Int) → (k : Int → Option β) → Option β) (q_impl_DetectedBy_l0 : Nat → Int → Int → Int → Int → Int → List Int → (List Int → Option β) → Option β) (q_impl_DetectedBy_l2 : Nat → Int → Int → Int → Int → Int → Int → Int → List Int → (Int → Int → Int → Int → Int → List Int → Option β) → Option β)  (v0 : Int) (v1 : Int) (v2 : Int) (v3 : Int) (v4 : Int) (v5 : Int) (v6 : Int) (v7 : List Int) (rec_ : St → Option β) (K : Exit → St → Option β) :
    ev lay (VE31 N q_impl_hasInput q_impl_Table_detecting q_impl_DetectedBy_l0 q_impl_DetectedBy_l2) (retMask Try.f31) (lp Try.f31 1).body (lp Try.f31 1).ex ((lp Try.f31 1).lv (retMask Try.f31)) (h31_1_0  v0 v1 v2 v3 v4 v5 v6 v7) (nextR (fun s' => rec_ (s'.tidy ((lp Try.f31 1).lv (retMask Try.f31)))) K) = BV_impl_DetectedBy_l2b N q_impl_Table_detecting  v0 v1 v2 v3 v4 v5 v6 v7 (fun v0 v1 v2 v3 v4 v5 v6 v7 => rec_ (h31_1_0  v0 v1 v2 v3 v4 v5 v6 v7)) (fun y0 y1 y2 y3 y4 y5 => K (.exit 2) (x31_1_0_k0  y0 y1 y2 y3 y4 y5)) := by kernel_rfl
theorem st31_1_0 {β : Type} (N : Nat)  (v0 : Int) (v1 : Int) (v2 : Int) (v3 : Int) (v4 : Int) (v5 : Int) (v6 : Int) (v7 : List Int) (rec_ : St → Option β) (K : Exit → St → Option β) :
    ev lay (E31 N) (retMask Try.f31) (lp Try.f31 1).body (lp Try.f31 1).ex ((lp Try.f31 1).lv (retMask Try.f31)) (h31_1_0  v0 v1 v2 v3 v4 v5 v6 v7) (nextR (fun s' => rec_ (s'.tidy ((lp Try.f31 1).lv (retMask Try.f31)))) K) = impl_DetectedBy_l2b N  v0 v1 v2 v3 v4 v5 v6 v7 (fun v0 v1 v2 v3 v4 v5 v6 v7 => rec_ (h31_1_0  v0 v1 v2 v3 v4 v5 v6 v7)) (fun y0 y1 y2 y3 y4 y5 => K (.exit 2) (x31_1_0_k0  y0 y1 y2 y3 y4 y5)) := (vst31_1_0 N (impl_hasInput N) (impl_Table_detecting N) (impl_DetectedBy_l0 N) (impl_DetectedBy_l2 N) v0 v1 v2 v3 v4 v5 v6 v7 rec_ K).trans (t_impl_DetectedBy_l2b N  v0 v1 v2 v3 v4 v5 v6 v7 (fun v0 v1 v2 v3 v4 v5 v6 v7 => rec_ (h31_1_0  v0 v1 v2 v3 v4 v5 v6 v7)) (fun y0 y1 y2 y3 y4 y5 => K (.exit 2) (x31_1_0_k0  y0 y1 y2 y3 y4 y5))).symm
theorem ro31_1_0 {β : Type} (N : Nat)  (K : Exit → St → Option β) : ∀ (F : Nat) (v0 : Int) (v1 : Int) (v2 : Int) (v3 : Int) (v4 : Int) (v5 : Int) (v6 : Int) (v7 : List Int), (lp Try.f31 1).rounds lay (E31 N) (retMask Try.f31) F (h31_1_0  v0 v1 v2 v3 v4 v5 v6 v7) K = impl_DetectedBy_l2 N  F v0 v1 v2 v3 v4 v5 v6 v7 (fun y0 y1 y2 y3 y4 y5 => K (.exit 2) (x31_1_0_k0  y0 y1 y2 y3 y4 y5)) := by
  intro F
  induction F with
  | zero => intros; rfl
  | succ F ih =>
    intros
    rw [rounds_next]
    refine (st31_1_0 N  _ _ _ _ _ _ _ _ (fun s => (lp Try.f31 1).rounds lay (E31 N) (retMask Try.f31) F s K) K).trans ?_
    simp only [ih]
    rfl
theorem lk31_2 {β : Type} (N : Nat) : lookL (E31 (β := β) N).loops (lp Try.f31 1).id = LS31_2 N := by kernel_rfl
theorem rk31_2 {β : Type} (N : Nat) : RoundsOK lay (E31 (β := β) N) (retMask Try.f31) (lp Try.f31 1) := by
  intro s K r h
  rw [lk31_2] at h
  unfold LS31_2 VLS31_2 at h
  cases hb : shpSt (h31_1_0 0 0 0 0 0 0 0 []) s with
  | true =>
    rw [hb, cond_true] at h
    exact ⟨N, by rw [← shpSt_ref hb, fl31_1_0 s]; exact (ro31_1_0 N  K N (intS (oneA (vT (nx tund s.tmps 1)))) (intS (oneA (vT (nx tund s.tmps 6)))) (intS (oneA (vT (nx tund s.tmps 13)))) (intS (oneA (vT (nx tund s.tmps 14)))) (intS (oneA (vT (nx tund s.tmps 17)))) (intS (nx .und (cellsB (nx .dead s.blks 0)) 0)) (intS (nx .und (cellsB (nx .dead s.blks 0)) 1)) (rInts (rowB_ (nx .dead s.blks 1)))).trans h⟩
  | false =>
  rw [hb, cond_false] at h
  clear hb
  cases h
def BV_impl_DetectedBy {β : Type} (N : Nat) (q_impl_hasInput : (a0 : Int) → (a1 : Int) → (a2 : Int) → (k : Bool → Option β) → Option β) (q_impl_DetectedBy_l0 : Nat → Int → Int → Int → Int → Int → List Int → (List Int → Option β) → Option β) (a0 : Int) (a1 : Int) (a2 : Int) (k : List Int → Option β) : Option β :=
q_impl_hasInput a0 a1 a2 fun r4 =>
(cond (!r4)
(k (([] : List Int)))
(q_impl_DetectedBy_l0  N a2 a0 0 a0 a1 (([] : List Int)) (fun e7_0 =>
k e7_0)))
theorem t_impl_DetectedBy {β : Type} (N : Nat) (a0 : Int) (a1 : Int) (a2 : Int) (k : List Int → Option β) : impl_DetectedBy N a0 a1 a2 k = BV_impl_DetectedBy N (impl_hasInput N) (impl_DetectedBy_l0 N) a0 a1 a2 k := by
  unfold impl_DetectedBy BV_impl_DetectedBy
  rfl
theorem ve31_0 {β : Type} (N : Nat) (q_impl_hasInput : (a0 : Int) → (a1 : Int) → (a2 : Int) → (k : Bool → Option β) → Option β) (q_impl_Table_detecting : (a0 : Int) → (a1 : Int) → (a2 : Int) → (a3 : Int) → (k : Int → Option β) → Option β) (q_impl_DetectedBy_l0 : Nat → Int → Int → Int → Int → Int → List Int → (List Int → Option β) → Option β) (q_impl_DetectedBy_l2 : Nat → Int → Int → Int → Int → Int → Int → Int → List Int → (Int → Int → Int → Int → Int → List Int → Option β) → Option β)  (a0 : Int) (a1 : Int) (a2 : Int) (K : TV → Option β) : evFn lay (VE31 N q_impl_hasInput q_impl_Table_detecting q_impl_DetectedBy_l0 q_impl_DetectedBy_l2) Try.f31 [.v (.agg [.int .i64 a0, .int .i64 a1]), .v (.one (.int .i64 a2))] K = BV_impl_DetectedBy N q_impl_hasInput q_impl_DetectedBy_l0 a0 a1 a2 (fun z3 => K (.v (.one (.sl 3 (.ints .i64 z3))))) := by kernel_rfl
theorem e31_0 {β : Type} (N : Nat)  (a0 : Int) (a1 : Int) (a2 : Int) (K : TV → Option β) : evFn lay (E31 N) Try.f31 [.v (.agg [.int .i64 a0, .int .i64 a1]), .v (.one (.int .i64 a2))] K = impl_DetectedBy N a0 a1 a2 (fun z3 => K (.v (.one (.sl 3 (.ints .i64 z3))))) := (ve31_0 N (impl_hasInput N) (impl_Table_detecting N) (impl_DetectedBy_l0 N) (impl_DetectedBy_l2 N) a0 a1 a2 K).trans (t_impl_DetectedBy N a0 a1 a2 (fun z3 => K (.v (.one (.sl 3 (.ints .i64 z3)))))).symm
theorem o31 {β : Type} (N : Nat) : SpecOK (β := β) Try.prog 31 (S31 N) := by
  refine spec_of lay_ok mixed (E := E31 N) (specs_loops (specs_cons (o79 N) (specs_cons (o77 N) specs_nil))) muts_nil gs_nil Try.func31 (by kernel_rfl) 2 (by kernel_rfl) ⟨⟨trivial, rk31_0 N⟩, rk31_2 N⟩ fun args K r h => ?_
  unfold S31 VS31 at h
  split at h
  · exact (e31_0 N _ _ _ _).trans h
  · cases h
def VS30 {β : Type} (N : Nat) (q_laws_has : (a0 : List Int) → (a1 : Int) → (k : Bool → Option β) → Option β) : Rv.Spec β := fun args K => match args with
  | [.v (.one (.sl 3 (.ints .i64 a0))), .v (.one (.int .i64 a1))] => q_laws_has a0 a1 (fun z2 => K (.v (.one (.bool z2))))
  | _ => none
def S30 {β : Type} (N : Nat) : Rv.Spec β := VS30 N (laws_has N)
def h30_0_0  (v0 : List Int) (v1 : Int) (v2 : Int) : St := ⟨.v (.one (.sl 3 (.ints .i64 v0))) :: .v (.one (.int .i64 v1)) :: .v (.one .und) :: .v (.one .und) :: .v (.one .und) :: .v (.one (.int .i64 v2)) :: .v (.one .und) :: .v (.one .und) :: .v (.one .und) :: .v (.one .und) :: .v (.one .und) :: .v (.one .und) :: .v (.one .und) :: .v (.one .und) :: .v (.one .und) :: .v (.one .und) :: .v (.one .und) :: .v (.one .und) :: [], []⟩
def x30_0_0_k0  (y0 : Bool) : St := ⟨.v (.one .und) :: .v (.one .und) :: .v (.one .und) :: .v (.one .und) :: .v (.one (.bool y0)) :: .v (.one .und) :: .v (.one .und) :: .v (.one .und) :: .v (.one .und) :: .v (.one .und) :: .v (.one .und) :: .v (.one .und) :: .v (.one .und) :: .v (.one .und) :: .v (.one .und) :: .v (.one .und) :: .v (.one .und) :: .v (.one .und) :: [], []⟩
def x30_0_0_k1   : St := ⟨.v (.one .und) :: .v (.one .und) :: .v (.one .und) :: .v (.one .und) :: .v (.one .und) :: .v (.one .und) :: .v (.one .und) :: .v (.one .und) :: .v (.one .und) :: .v (.one .und) :: .v (.one .und) :: .v (.one .und) :: .v (.one .und) :: .v (.one .und) :: .v (.one .und) :: .v (.one .und) :: .v (.one .und) :: .v (.one .und) :: [], []⟩
theorem fl30_0_0 (s : St) : refSt (h30_0_0 [] 0 0) s = h30_0_0 (rInts (rowV (oneA (vT (nx tund s.tmps 0))))) (intS (oneA (vT (nx tund s.tmps 1)))) (intS (oneA (vT (nx tund s.tmps 5)))) := by kernel_rfl
def VLS30_0 {β : Type} (N : Nat) (q_laws_has_l0 : Nat → List Int → Int → Int → (Bool → Option β) → (Option β) → Option β) : LSpec β := fun s K => cond (shpSt (h30_0_0 [] 0 0) s) ((fun (v0 : List Int) (v1 : Int) (v2 : Int) => q_laws_has_l0  N v0 v1 v2 (fun y0 => K .ret (x30_0_0_k0  y0)) (K (.exit 0) (x30_0_0_k1  ))) (rInts (rowV (oneA (vT (nx tund s.tmps 0))))) (intS (oneA (vT (nx tund s.tmps 1)))) (intS (oneA (vT (nx tund s.tmps 5))))) (none)
def LS30_0 {β : Type} (N : Nat) : LSpec β := VLS30_0 N (laws_has_l0 N)
def VE30 {β : Type} (N : Nat) (q_laws_has_l0 : Nat → List Int → Int → Int → (Bool → Option β) → (Option β) → Option β) : Env β := ⟨[], [], [(0, VLS30_0 N q_laws_has_l0)], []⟩
def E30 {β : Type} (N : Nat) : Env β := VE30 N (laws_has_l0 N)
def BV_laws_has_l0b {β : Type} (N : Nat)  (v0 : List Int) (v1 : Int) (v2 : Int) (rec_ : List Int → Int → Int → Option β) (k0 : Bool → Option β) (k1 : Option β) : Option β :=
(cond ((decide (v2 < (v0.length : Int))))
((gd ((decide (0 ≤ v2)))
((gd ((decide (v2 < (v0.length : Int))))
((cond (((rd 0 v0 v2) == v1))
(k0 true)
(rec_ v0 v1 ((w64 (v2 + 1))))))))))
(k1 ))
theorem t_laws_has_l0b {β : Type} (N : Nat)  (v0 : List Int) (v1 : Int) (v2 : Int) (rec_ : List Int → Int → Int → Option β) (k0 : Bool → Option β) (k1 : Option β) : laws_has_l0b N v0 v1 v2 rec_ k0 k1 = BV_laws_has_l0b N v0 v1 v2 rec_ k0 k1 := by
  unfold laws_has_l0b BV_laws_has_l0b
  rfl
theorem vst30_0_0 {β : Type} (N : Nat) (q_laws_has_l0 : Nat → List Int → Int → Int → (Bool → Option β) → (Option β) → Option β)  (v0 : List Int) (v1 : Int) (v2 : Int) (rec_ : St → Option β) (K : Exit → St → Option β) :
    ev lay (VE30 N q_laws_has_l0) (retMask Try.f30) (lp Try.f30 0).body (lp Try.f30 0).ex ((lp Try.f30 0).lv (retMask Try.f30)) (h30_0_0  v0 v1 v2) (nextR (fun s' => rec_ (s'.tidy ((lp Try.f30 0).lv (retMask Try.f30)))) K) = BV_laws_has_l0b N  v0 v1 v2 (fun v0 v1 v2 => rec_ (h30_0_0  v0 v1 v2)) (fun y0 => K .ret (x30_0_0_k0  y0)) (K (.exit 0) (x30_0_0_k1  )) := by kernel_rfl
theorem st30_0_0 {β : Type} (N : Nat)  (v0 : List Int) (v1 : Int) (v2 : Int) (rec_ : St → Option β) (K : Exit → St → Option β) :
    ev lay (E30 N) (retMask Try.f30) (lp Try.f30 0).body (lp Try.f30 0).ex ((lp Try.f30 0).lv (retMask Try.f30)) (h30_0_0  v0 v1 v2) (nextR (fun s' => rec_ (s'.tidy ((lp Try.f30 0).lv (retMask Try.f30)))) K) = laws_has_l0b N  v0 v1 v2 (fun v0 v1 v2 => rec_ (h30_0_0  v0 v1 v2)) (fun y0 => K .ret (x30_0_0_k0  y0)) (K (.exit 0) (x30_0_0_k1  )) := (vst30_0_0 N (laws_has_l0 N) v0 v1 v2 rec_ K).trans (t_laws_has_l0b N  v0 v1 v2 (fun v0 v1 v2 => rec_ (h30_0_0  v0 v1 v2)) (fun y0 => K .ret (x30_0_0_k0  y0)) (K (.exit 0) (x30_0_0_k1  ))).symm
theorem ro30_0_0 {β : Type} (N : Nat)  (K : Exit → St → Option β) : ∀ (F : Nat) (v0 : List Int) (v1 : Int) (v2 : Int), (lp Try.f30 0).rounds lay (E30 N) (retMask Try.f30) F (h30_0_0  v0 v1 v2) K = laws_has_l0 N  F v0 v1 v2 (fun y0 => K .ret (x30_0_0_k0  y0)) (K (.exit 0) (x30_0_0_k1  )) := by
  intro F
  induction F with
  | zero => intros; rfl
  | succ F ih =>
    intros
    rw [rounds_next]
    refine (st30_0_0 N  _ _ _ (fun s => (lp Try.f30 0).rounds lay (E30 N) (retMask Try.f30) F s K) K).trans ?_
    simp only [ih]
    rfl
theorem lk30_0 {β : Type} (N : Nat) : lookL (E30 (β := β) N).loops (lp Try.f30 0).id = LS30_0 N := by kernel_rfl
theorem rk30_0 {β : Type} (N : Nat) : RoundsOK lay (E30 (β := β) N) (retMask Try.f30) (lp Try.f30 0) := by
  intro s K r h
  rw [lk30_0] at h
  unfold LS30_0 VLS30_0 at h
  cases hb : shpSt (h30_0_0 [] 0 0) s with
  | true =>
    rw [hb, cond_true] at h
    exact ⟨N, by rw [← shpSt_ref hb, fl30_0_0 s]; exact (ro30_0_0 N  K N (rInts (rowV (oneA (vT (nx tund s.tmps 0))))) (intS (oneA (vT (nx tund s.tmps 1)))) (intS (oneA (vT (nx tund s.tmps 5))))).trans h⟩
  | false =>
  rw [hb, cond_false] at h
  clear hb
  cases h
def BV_laws_has {β : Type} (N : Nat) (q_laws_has_l0 : Nat → List Int → Int → Int → (Bool → Option β) → (Option β) → Option β) (a0 : List Int) (a1 : Int) (k : Bool → Option β) : Option β :=
q_laws_has_l0  N a0 a1 0 (fun e3_0 =>
k e3_0) (k false)
theorem t_laws_has {β : Type} (N : Nat) (a0 : List Int) (a1 : Int) (k : Bool → Option β) : laws_has N a0 a1 k = BV_laws_has N (laws_has_l0 N) a0 a1 k := by
  unfold laws_has BV_laws_has
  rfl
theorem ve30_0 {β : Type} (N : Nat) (q_laws_has_l0 : Nat → List Int → Int → Int → (Bool → Option β) → (Option β) → Option β)  (a0 : List Int) (a1 : Int) (K : TV → Option β) : evFn lay (VE30 N q_laws_has_l0) Try.f30 [.v (.one (.sl 3 (.ints .i64 a0))), .v (.one (.int .i64 a1))] K = BV_laws_has N q_laws_has_l0 a0 a1 (fun z2 => K (.v (.one (.bool z2)))) := by kernel_rfl
theorem e30_0 {β : Type} (N : Nat)  (a0 : List Int) (a1 : Int) (K : TV → Option β) : evFn lay (E30 N) Try.f30 [.v (.one (.sl 3 (.ints .i64 a0))), .v (.one (.int .i64 a1))] K = laws_has N a0 a1 (fun z2 => K (.v (.one (.bool z2)))) := (ve30_0 N (laws_has_l0 N) a0 a1 K).trans (t_laws_has N a0 a1 (fun z2 => K (.v (.one (.bool z2))))).symm
theorem o30 {β : Type} (N : Nat) : SpecOK (β := β) Try.prog 30 (S30 N) := by
  refine spec_of lay_ok mixed (E := E30 N) (specs_loops specs_nil) muts_nil gs_nil Try.func30 (by kernel_rfl) 1 (by kernel_rfl) ⟨trivial, rk30_0 N⟩ fun args K r h => ?_
  unfold S30 VS30 at h
  split at h
  · exact (e30_0 N _ _ _).trans h
  · cases h
def VS65 {β : Type} (N : Nat) (q_spec_l1Once_g0 : (a0 : Int) → (a1 : List Int) → (a2 : Int) → (a3 : Int) → (k0 : Bool → List Int → Int → Int → Option β) → Option β) : GSpec β := fun args bl K => match args, bl with
  | [.v (.one (.ptr 0 0)), .v (.one (.int .i64 a0))], [.pcells 0 96 [.sl 5 (.ints .u8 a1), .int .i64 a2, .int .i64 a3]] => q_spec_l1Once_g0 a0 a1 a2 a3 (fun y0 y1 y2 y3 => K (.v (.one (.bool y0))) [.pcells 0 96 [.sl 5 (.ints .u8 y1), .int .i64 y2, .int .i64 y3]])
  | _, _ => none
def S65 {β : Type} (N : Nat) : GSpec β := VS65 N (spec_l1Once_g0 N)
def VE65 {β : Type} (N : Nat) (q_spec_l1Below_g0 : (a0 : Int) → (a1 : List Int) → (a2 : Int) → (a3 : Int) → (k0 : Int → List Int → Int → Int → Option β) → Option β) : Env β := ⟨[], [], [], [(57, VS57 N q_spec_l1Below_g0)]⟩
def E65 {β : Type} (N : Nat) : Env β := VE65 N (spec_l1Below_g0 N)
def BV_spec_l1Once_g0 {β : Type} (N : Nat) (q_spec_l1Below_g0 : (a0 : Int) → (a1 : List Int) → (a2 : Int) → (a3 : Int) → (k0 : Int → List Int → Int → Int → Option β) → Option β) (a0 : Int) (a1 : List Int) (a2 : Int) (a3 : Int) (k0 : Bool → List Int → Int → Int → Option β) : Option β :=
q_spec_l1Below_g0 a0 a1 a2 a3 (fun r4_0 r4_1 r4_2 r4_3 =>
k0 ((r4_0 == 0)) r4_1 r4_2 r4_3)
theorem t_spec_l1Once_g0 {β : Type} (N : Nat) (a0 : Int) (a1 : List Int) (a2 : Int) (a3 : Int) (k0 : Bool → List Int → Int → Int → Option β) : spec_l1Once_g0 N a0 a1 a2 a3 k0 = BV_spec_l1Once_g0 N (spec_l1Below_g0 N) a0 a1 a2 a3 k0 := by
  unfold spec_l1Once_g0 BV_spec_l1Once_g0
  rfl
theorem ve65_0 {β : Type} (N : Nat) (q_spec_l1Below_g0 : (a0 : Int) → (a1 : List Int) → (a2 : Int) → (a3 : Int) → (k0 : Int → List Int → Int → Int → Option β) → Option β) (a0 : Int) (a1 : List Int) (a2 : Int) (a3 : Int) (K : TV → List Blk → Option β) : evFnG lay (VE65 N q_spec_l1Below_g0) Try.f65 [.v (.one (.ptr 0 0)), .v (.one (.int .i64 a0))] [.pcells 0 96 [.sl 5 (.ints .u8 a1), .int .i64 a2, .int .i64 a3]] K = BV_spec_l1Once_g0 N q_spec_l1Below_g0 a0 a1 a2 a3 (fun y0 y1 y2 y3 => K (.v (.one (.bool y0))) [.pcells 0 96 [.sl 5 (.ints .u8 y1), .int .i64 y2, .int .i64 y3]]) := by kernel_rfl
theorem e65_0 {β : Type} (N : Nat) (a0 : Int) (a1 : List Int) (a2 : Int) (a3 : Int) (K : TV → List Blk → Option β) : evFnG lay (E65 N) Try.f65 [.v (.one (.ptr 0 0)), .v (.one (.int .i64 a0))] [.pcells 0 96 [.sl 5 (.ints .u8 a1), .int .i64 a2, .int .i64 a3]] K = spec_l1Once_g0 N a0 a1 a2 a3 (fun y0 y1 y2 y3 => K (.v (.one (.bool y0))) [.pcells 0 96 [.sl 5 (.ints .u8 y1), .int .i64 y2, .int .i64 y3]]) := (ve65_0 N (spec_l1Below_g0 N) a0 a1 a2 a3 K).trans (t_spec_l1Once_g0 N a0 a1 a2 a3 (fun y0 y1 y2 y3 => K (.v (.one (.bool y0))) [.pcells 0 96 [.sl 5 (.ints .u8 y1), .int .i64 y2, .int .i64 y3]])).symm
theorem o65 {β : Type} (N : Nat) : GOK (β := β) Try.prog 65 (S65 N) := by
  refine g_of lay_ok mixed (E := E65 N) (specs_loops specs_nil) muts_nil (gs_cons (o57 N) gs_nil) Try.func65 (by kernel_rfl) 0 (by kernel_rfl) trivial fun args bl K r h => ?_
  unfold S65 VS65 at h
  split at h
  · exact (e65_0 N _ _ _ _ _).trans h
  · cases h
end Go.Proofs.Ytdkjnadhgdneaaa
