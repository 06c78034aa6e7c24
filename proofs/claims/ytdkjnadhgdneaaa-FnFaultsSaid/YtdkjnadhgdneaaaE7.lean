/- The functions that the claims reach answer as their texts do. -/
import Derived.Test.YtdkjnadhgdneaaaE6
namespace Go.Proofs.Ytdkjnadhgdneaaa
open Go.Rv
set_option maxRecDepth 100000
set_option maxHeartbeats 2000000
set_option linter.unusedVariables false
def VS154 {β : Type} (N : Nat) (q_spec_l3Insert : (a0 : Int) → (a1 : Int) → (a2 : Int) → (k : Int → Option β) → Option β) : Rv.Spec β := fun args K => match args with
  | [.v (.one (.int .i64 a0)), .v (.one (.int .i64 a1)), .v (.one (.int .i64 a2))] => q_spec_l3Insert a0 a1 a2 (fun z3 => K (.v (.one (.int .i64 z3))))
  | _ => none
def S154 {β : Type} (N : Nat) : Rv.Spec β := VS154 N (spec_l3Insert N)
def VE154 {β : Type} (N : Nat) : Env β := ⟨[], [], [], []⟩
def E154 {β : Type} (N : Nat) : Env β := VE154 N
def BV_spec_l3Insert {β : Type} (N : Nat) (a0 : Int) (a1 : Int) (a2 : Int) (k : Int → Option β) : Option β :=
(gd ((decide (0 ≤ a1)))
((gd ((decide (0 ≤ a1)))
((gd ((decide (0 ≤ (w64 (a1 + 1)))))
((gd ((decide (0 ≤ a1)))
(k ((bits .or .i64 (bits .or .i64 (shlI .i64 (shrI .i64 a0 a1) (w64 (a1 + 1))) (shlI .i64 a2 a1)) (bits .and .i64 a0 (w64 ((shlI .i64 1 a1) - 1)))))))))))))
theorem t_spec_l3Insert {β : Type} (N : Nat) (a0 : Int) (a1 : Int) (a2 : Int) (k : Int → Option β) : spec_l3Insert N a0 a1 a2 k = BV_spec_l3Insert N a0 a1 a2 k := by
  unfold spec_l3Insert BV_spec_l3Insert
  rfl
theorem ve154_0 {β : Type} (N : Nat)  (a0 : Int) (a1 : Int) (a2 : Int) (K : TV → Option β) : evFn lay (VE154 N) Try.f154 [.v (.one (.int .i64 a0)), .v (.one (.int .i64 a1)), .v (.one (.int .i64 a2))] K = BV_spec_l3Insert N a0 a1 a2 (fun z3 => K (.v (.one (.int .i64 z3)))) := by kernel_rfl
theorem e154_0 {β : Type} (N : Nat)  (a0 : Int) (a1 : Int) (a2 : Int) (K : TV → Option β) : evFn lay (E154 N) Try.f154 [.v (.one (.int .i64 a0)), .v (.one (.int .i64 a1)), .v (.one (.int .i64 a2))] K = spec_l3Insert N a0 a1 a2 (fun z3 => K (.v (.one (.int .i64 z3)))) := (ve154_0 N a0 a1 a2 K).trans (t_spec_l3Insert N a0 a1 a2 (fun z3 => K (.v (.one (.int .i64 z3))))).symm
theorem o154 {β : Type} (N : Nat) : SpecOK (β := β) Try.prog 154 (S154 N) := by
  refine spec_of lay_ok mixed (E := E154 N) (specs_loops specs_nil) muts_nil gs_nil Try.func154 (by kernel_rfl) 0 (by kernel_rfl) trivial fun args K r h => ?_
  unfold S154 VS154 at h
  split at h
  · exact (e154_0 N _ _ _ _).trans h
  · cases h
def VS139 {β : Type} (N : Nat) (q_spec_l3Restrict : (a0 : Int) → (a1 : Int) → (a2 : Int) → (a3 : Int) → (k : Int → Int → Option β) → Option β) : Rv.Spec β := fun args K => match args with
  | [.v (.agg [.int .i64 a0, .int .i64 a1]), .v (.one (.int .i64 a2)), .v (.one (.int .i64 a3))] => q_spec_l3Restrict a0 a1 a2 a3 (fun z4 z5 => K (.v (.agg [.int .i64 z4, .int .i64 z5])))
  | _ => none
def S139 {β : Type} (N : Nat) : Rv.Spec β := VS139 N (spec_l3Restrict N)
def h139_0_0  (v0 : Int) (v1 : Int) (v2 : Int) (v3 : Int) (v4 : Int) (v5 : Int) (v6 : Int) (v7 : Int) : St := ⟨.v (.one .und) :: .v (.one (.int .i64 v0)) :: .v (.one (.int .i64 v1)) :: .v (.one (.ptr 0 0)) :: .v (.one .und) :: .v (.one .und) :: .v (.one (.ptr 1 0)) :: .v (.one (.int .i64 v2)) :: .v (.one (.int .i64 v3)) :: .v (.one .und) :: .v (.one .und) :: .v (.one .und) :: .v (.one .und) :: .v (.one .und) :: .v (.one .und) :: .v (.one .und) :: .v (.one .und) :: .v (.one .und) :: .v (.one .und) :: .v (.one .und) :: .v (.one .und) :: .v (.one .und) :: .v (.one .und) :: .v (.one .und) :: .v (.one .und) :: .v (.one .und) :: .v (.one .und) :: .v (.one .und) :: .v (.one .und) :: .v (.one .und) :: .v (.one .und) :: .v (.one .und) :: .v (.one .und) :: .v (.one .und) :: [], [.cells 25 [.int .i64 v4, .int .i64 v5], .cells 25 [.int .i64 v6, .int .i64 v7]]⟩
def x139_0_0_k0  (y0 : Int) (y1 : Int) (y2 : Int) (y3 : Int) (y4 : Int) : St := ⟨.v (.one .und) :: .v (.one .und) :: .v (.one .und) :: .v (.one (.ptr 0 0)) :: .v (.one .und) :: .v (.one .und) :: .v (.one (.ptr 1 0)) :: .v (.one (.int .i64 y0)) :: .v (.one .und) :: .v (.one .und) :: .v (.one .und) :: .v (.one .und) :: .v (.one .und) :: .v (.one .und) :: .v (.one .und) :: .v (.one .und) :: .v (.one .und) :: .v (.one .und) :: .v (.one .und) :: .v (.one .und) :: .v (.one .und) :: .v (.one .und) :: .v (.one .und) :: .v (.one .und) :: .v (.one .und) :: .v (.one .und) :: .v (.one .und) :: .v (.one .und) :: .v (.one .und) :: .v (.one .und) :: .v (.one .und) :: .v (.one .und) :: .v (.one .und) :: .v (.one .und) :: [], [.cells 25 [.int .i64 y1, .int .i64 y2], .cells 25 [.int .i64 y3, .int .i64 y4]]⟩
theorem fl139_0_0 (s : St) : refSt (h139_0_0 0 0 0 0 0 0 0 0) s = h139_0_0 (intS (oneA (vT (nx tund s.tmps 1)))) (intS (oneA (vT (nx tund s.tmps 2)))) (intS (oneA (vT (nx tund s.tmps 7)))) (intS (oneA (vT (nx tund s.tmps 8)))) (intS (nx .und (cellsB (nx .dead s.blks 0)) 0)) (intS (nx .und (cellsB (nx .dead s.blks 0)) 1)) (intS (nx .und (cellsB (nx .dead s.blks 1)) 0)) (intS (nx .und (cellsB (nx .dead s.blks 1)) 1)) := by kernel_rfl
def VLS139_0 {β : Type} (N : Nat) (q_spec_l3Restrict_l0 : Nat → Int → Int → Int → Int → Int → Int → Int → Int → (Int → Int → Int → Int → Int → Option β) → Option β) : LSpec β := fun s K => cond (shpSt (h139_0_0 0 0 0 0 0 0 0 0) s) ((fun (v0 : Int) (v1 : Int) (v2 : Int) (v3 : Int) (v4 : Int) (v5 : Int) (v6 : Int) (v7 : Int) => q_spec_l3Restrict_l0  N v0 v1 v2 v3 v4 v5 v6 v7 (fun y0 y1 y2 y3 y4 => K (.exit 0) (x139_0_0_k0  y0 y1 y2 y3 y4))) (intS (oneA (vT (nx tund s.tmps 1)))) (intS (oneA (vT (nx tund s.tmps 2)))) (intS (oneA (vT (nx tund s.tmps 7)))) (intS (oneA (vT (nx tund s.tmps 8)))) (intS (nx .und (cellsB (nx .dead s.blks 0)) 0)) (intS (nx .und (cellsB (nx .dead s.blks 0)) 1)) (intS (nx .und (cellsB (nx .dead s.blks 1)) 0)) (intS (nx .und (cellsB (nx .dead s.blks 1)) 1))) (none)
def LS139_0 {β : Type} (N : Nat) : LSpec β := VLS139_0 N (spec_l3Restrict_l0 N)
def VE139 {β : Type} (N : Nat) (q_spec_l3Insert : (a0 : Int) → (a1 : Int) → (a2 : Int) → (k : Int → Option β) → Option β) (q_spec_l3Restrict_l0 : Nat → Int → Int → Int → Int → Int → Int → Int → Int → (Int → Int → Int → Int → Int → Option β) → Option β) : Env β := ⟨[(154, VS154 N q_spec_l3Insert)], [], [(0, VLS139_0 N q_spec_l3Restrict_l0)], []⟩
def E139 {β : Type} (N : Nat) : Env β := VE139 N (spec_l3Insert N) (spec_l3Restrict_l0 N)
def BV_spec_l3Restrict_l0b {β : Type} (N : Nat) (q_spec_l3Insert : (a0 : Int) → (a1 : Int) → (a2 : Int) → (k : Int → Option β) → Option β)  (v0 : Int) (v1 : Int) (v2 : Int) (v3 : Int) (v4 : Int) (v5 : Int) (v6 : Int) (v7 : Int) (rec_ : Int → Int → Int → Int → Int → Int → Int → Int → Option β) (k0 : Int → Int → Int → Int → Int → Option β) : Option β :=
(gd ((decide (0 ≤ (w64 (v4 - 1)))))
((cond ((decide (v3 < (shlI .i64 1 (w64 (v4 - 1))))))
(q_spec_l3Insert v3 v0 v1 fun r6 =>
(gd ((decide (0 ≤ r6)))
((gd ((decide (0 ≤ v3)))
(rec_ v0 v1 ((bits .or .i64 v2 (shlI .i64 (bits .and .i64 (shrI .i64 v5 r6) 1) v3))) ((w64 (v3 + 1))) v4 v5 v6 v7)))))
(k0 v2 v4 v5 v6 v7))))
theorem t_spec_l3Restrict_l0b {β : Type} (N : Nat)  (v0 : Int) (v1 : Int) (v2 : Int) (v3 : Int) (v4 : Int) (v5 : Int) (v6 : Int) (v7 : Int) (rec_ : Int → Int → Int → Int → Int → Int → Int → Int → Option β) (k0 : Int → Int → Int → Int → Int → Option β) : spec_l3Restrict_l0b N v0 v1 v2 v3 v4 v5 v6 v7 rec_ k0 = BV_spec_l3Restrict_l0b N (spec_l3Insert N) v0 v1 v2 v3 v4 v5 v6 v7 rec_ k0 := by
  unfold spec_l3Restrict_l0b BV_spec_l3Restrict_l0b
  rfl
theorem vst139_0_0 {β : Type} (N : Nat) (q_spec_l3Insert : (a0 : Int) → (a1 : Int) → (a2 : Int) → (k : Int → Option β) → Option β) (q_spec_l3Restrict_l0 : Nat → Int → Int → Int → Int → Int → Int → Int → Int → (Int → Int → Int → Int → Int → Option β) → Option β)  (v0 : Int) (v1 : Int) (v2 : Int) (v3 : Int) (v4 : Int) (v5 : Int) (v6 : Int) (v7 : Int) (rec_ : St → Option β) (K : Exit → St → Option β) :
    ev lay (VE139 N q_spec_l3Insert q_spec_l3Restrict_l0) (retMask Try.f139) (lp Try.f139 0).body (lp Try.f139 0).ex ((lp Try.f139 0).lv (retMask Try.f139)) (h139_0_0  v0 v1 v2 v3 v4 v5 v6 v7) (nextR (fun s' => rec_ (s'.tidy ((lp Try.f139 0).lv (retMask Try.f139)))) K) = BV_spec_l3Restrict_l0b N q_spec_l3Insert  v0 v1 v2 v3 v4 v5 v6 v7 (fun v0 v1 v2 v3 v4 v5 v6 v7 => rec_ (h139_0_0  v0 v1 v2 v3 v4 v5 v6 v7)) (fun y0 y1 y2 y3 y4 => K (.exit 0) (x139_0_0_k0  y0 y1 y2 y3 y4)) := by kernel_rfl
theorem st139_0_0 {β : Type} (N : Nat)  (v0 : Int) (v1 : Int) (v2 : Int) (v3 : Int) (v4 : Int) (v5 : Int) (v6 : Int) (v7 : Int) (rec_ : St → Option β) (K : Exit → St → Option β) :
    ev lay (E139 N) (retMask Try.f139) (lp Try.f139 0).body (lp Try.f139 0).ex ((lp Try.f139 0).lv (retMask Try.f139)) (h139_0_0  v0 v1 v2 v3 v4 v5 v6 v7) (nextR (fun s' => rec_ (s'.tidy ((lp Try.f139 0).lv (retMask Try.f139)))) K) = spec_l3Restrict_l0b N  v0 v1 v2 v3 v4 v5 v6 v7 (fun v0 v1 v2 v3 v4 v5 v6 v7 => rec_ (h139_0_0  v0 v1 v2 v3 v4 v5 v6 v7)) (fun y0 y1 y2 y3 y4 => K (.exit 0) (x139_0_0_k0  y0 y1 y2 y3 y4)) := (vst139_0_0 N (spec_l3Insert N) (spec_l3Restrict_l0 N) v0 v1 v2 v3 v4 v5 v6 v7 rec_ K).trans (t_spec_l3Restrict_l0b N  v0 v1 v2 v3 v4 v5 v6 v7 (fun v0 v1 v2 v3 v4 v5 v6 v7 => rec_ (h139_0_0  v0 v1 v2 v3 v4 v5 v6 v7)) (fun y0 y1 y2 y3 y4 => K (.exit 0) (x139_0_0_k0  y0 y1 y2 y3 y4))).symm
theorem ro139_0_0 {β : Type} (N : Nat)  (K : Exit → St → Option β) : ∀ (F : Nat) (v0 : Int) (v1 : Int) (v2 : Int) (v3 : Int) (v4 : Int) (v5 : Int) (v6 : Int) (v7 : Int), (lp Try.f139 0).rounds lay (E139 N) (retMask Try.f139) F (h139_0_0  v0 v1 v2 v3 v4 v5 v6 v7) K = spec_l3Restrict_l0 N  F v0 v1 v2 v3 v4 v5 v6 v7 (fun y0 y1 y2 y3 y4 => K (.exit 0) (x139_0_0_k0  y0 y1 y2 y3 y4)) := by
  intro F
  induction F with
  | zero => intros; rfl
  | succ F ih =>
    intros
    rw [rounds_next]
    refine (st139_0_0 N  _ _ _ _ _ _ _ _ (fun s => (lp Try.f139 0).rounds lay (E139 N) (retMask Try.f139) F s K) K).trans ?_
    simp only [ih]
    rfl
theorem lk139_0 {β : Type} (N : Nat) : lookL (E139 (β := β) N).loops (lp Try.f139 0).id = LS139_0 N := by kernel_rfl
theorem rk139_0 {β : Type} (N : Nat) : RoundsOK lay (E139 (β := β) N) (retMask Try.f139) (lp Try.f139 0) := by
  intro s K r h
  rw [lk139_0] at h
  unfold LS139_0 VLS139_0 at h
  cases hb : shpSt (h139_0_0 0 0 0 0 0 0 0 0) s with
  | true =>
    rw [hb, cond_true] at h
    exact ⟨N, by rw [← shpSt_ref hb, fl139_0_0 s]; exact (ro139_0_0 N  K N (intS (oneA (vT (nx tund s.tmps 1)))) (intS (oneA (vT (nx tund s.tmps 2)))) (intS (oneA (vT (nx tund s.tmps 7)))) (intS (oneA (vT (nx tund s.tmps 8)))) (intS (nx .und (cellsB (nx .dead s.blks 0)) 0)) (intS (nx .und (cellsB (nx .dead s.blks 0)) 1)) (intS (nx .und (cellsB (nx .dead s.blks 1)) 0)) (intS (nx .und (cellsB (nx .dead s.blks 1)) 1))).trans h⟩
  | false =>
  rw [hb, cond_false] at h
  clear hb
  cases h
def BV_spec_l3Restrict {β : Type} (N : Nat) (q_spec_l3Restrict_l0 : Nat → Int → Int → Int → Int → Int → Int → Int → Int → (Int → Int → Int → Int → Int → Option β) → Option β) (a0 : Int) (a1 : Int) (a2 : Int) (a3 : Int) (k : Int → Int → Option β) : Option β :=
q_spec_l3Restrict_l0  N a2 a3 0 0 a0 a1 0 0 (fun e7_0 e7_1 e7_2 e7_3 e7_4 =>
k ((w64 (e7_1 - 1))) e7_0)
theorem t_spec_l3Restrict {β : Type} (N : Nat) (a0 : Int) (a1 : Int) (a2 : Int) (a3 : Int) (k : Int → Int → Option β) : spec_l3Restrict N a0 a1 a2 a3 k = BV_spec_l3Restrict N (spec_l3Restrict_l0 N) a0 a1 a2 a3 k := by
  unfold spec_l3Restrict BV_spec_l3Restrict
  rfl
theorem ve139_0 {β : Type} (N : Nat) (q_spec_l3Insert : (a0 : Int) → (a1 : Int) → (a2 : Int) → (k : Int → Option β) → Option β) (q_spec_l3Restrict_l0 : Nat → Int → Int → Int → Int → Int → Int → Int → Int → (Int → Int → Int → Int → Int → Option β) → Option β)  (a0 : Int) (a1 : Int) (a2 : Int) (a3 : Int) (K : TV → Option β) : evFn lay (VE139 N q_spec_l3Insert q_spec_l3Restrict_l0) Try.f139 [.v (.agg [.int .i64 a0, .int .i64 a1]), .v (.one (.int .i64 a2)), .v (.one (.int .i64 a3))] K = BV_spec_l3Restrict N q_spec_l3Restrict_l0 a0 a1 a2 a3 (fun z4 z5 => K (.v (.agg [.int .i64 z4, .int .i64 z5]))) := by kernel_rfl
theorem e139_0 {β : Type} (N : Nat)  (a0 : Int) (a1 : Int) (a2 : Int) (a3 : Int) (K : TV → Option β) : evFn lay (E139 N) Try.f139 [.v (.agg [.int .i64 a0, .int .i64 a1]), .v (.one (.int .i64 a2)), .v (.one (.int .i64 a3))] K = spec_l3Restrict N a0 a1 a2 a3 (fun z4 z5 => K (.v (.agg [.int .i64 z4, .int .i64 z5]))) := (ve139_0 N (spec_l3Insert N) (spec_l3Restrict_l0 N) a0 a1 a2 a3 K).trans (t_spec_l3Restrict N a0 a1 a2 a3 (fun z4 z5 => K (.v (.agg [.int .i64 z4, .int .i64 z5])))).symm
theorem o139 {β : Type} (N : Nat) : SpecOK (β := β) Try.prog 139 (S139 N) := by
  refine spec_of lay_ok mixed (E := E139 N) (specs_loops (specs_cons (o154 N) specs_nil)) muts_nil gs_nil Try.func139 (by kernel_rfl) 1 (by kernel_rfl) ⟨trivial, rk139_0 N⟩ fun args K r h => ?_
  unfold S139 VS139 at h
  split at h
  · exact (e139_0 N _ _ _ _ _).trans h
  · cases h
def VS121 {β : Type} (N : Nat) (q_spec_l3Depends : (a0 : Int) → (a1 : Int) → (a2 : Int) → (k : Bool → Option β) → Option β) : Rv.Spec β := fun args K => match args with
  | [.v (.agg [.int .i64 a0, .int .i64 a1]), .v (.one (.int .i64 a2))] => q_spec_l3Depends a0 a1 a2 (fun z3 => K (.v (.one (.bool z3))))
  | _ => none
def S121 {β : Type} (N : Nat) : Rv.Spec β := VS121 N (spec_l3Depends N)
def VE121 {β : Type} (N : Nat) (q_spec_l3Restrict : (a0 : Int) → (a1 : Int) → (a2 : Int) → (a3 : Int) → (k : Int → Int → Option β) → Option β) : Env β := ⟨[(139, VS139 N q_spec_l3Restrict)], [], [], []⟩
def E121 {β : Type} (N : Nat) : Env β := VE121 N (spec_l3Restrict N)
def BV_spec_l3Depends {β : Type} (N : Nat) (q_spec_l3Restrict : (a0 : Int) → (a1 : Int) → (a2 : Int) → (a3 : Int) → (k : Int → Int → Option β) → Option β) (a0 : Int) (a1 : Int) (a2 : Int) (k : Bool → Option β) : Option β :=
q_spec_l3Restrict a0 a1 a2 0 fun r4 r5 =>
q_spec_l3Restrict a0 a1 a2 1 fun r6 r7 =>
k ((r5 != r7))
theorem t_spec_l3Depends {β : Type} (N : Nat) (a0 : Int) (a1 : Int) (a2 : Int) (k : Bool → Option β) : spec_l3Depends N a0 a1 a2 k = BV_spec_l3Depends N (spec_l3Restrict N) a0 a1 a2 k := by
  unfold spec_l3Depends BV_spec_l3Depends
  rfl
theorem ve121_0 {β : Type} (N : Nat) (q_spec_l3Restrict : (a0 : Int) → (a1 : Int) → (a2 : Int) → (a3 : Int) → (k : Int → Int → Option β) → Option β)  (a0 : Int) (a1 : Int) (a2 : Int) (K : TV → Option β) : evFn lay (VE121 N q_spec_l3Restrict) Try.f121 [.v (.agg [.int .i64 a0, .int .i64 a1]), .v (.one (.int .i64 a2))] K = BV_spec_l3Depends N q_spec_l3Restrict a0 a1 a2 (fun z3 => K (.v (.one (.bool z3)))) := by kernel_rfl
theorem e121_0 {β : Type} (N : Nat)  (a0 : Int) (a1 : Int) (a2 : Int) (K : TV → Option β) : evFn lay (E121 N) Try.f121 [.v (.agg [.int .i64 a0, .int .i64 a1]), .v (.one (.int .i64 a2))] K = spec_l3Depends N a0 a1 a2 (fun z3 => K (.v (.one (.bool z3)))) := (ve121_0 N (spec_l3Restrict N) a0 a1 a2 K).trans (t_spec_l3Depends N a0 a1 a2 (fun z3 => K (.v (.one (.bool z3))))).symm
theorem o121 {β : Type} (N : Nat) : SpecOK (β := β) Try.prog 121 (S121 N) := by
  refine spec_of lay_ok mixed (E := E121 N) (specs_loops (specs_cons (o139 N) specs_nil)) muts_nil gs_nil Try.func121 (by kernel_rfl) 0 (by kernel_rfl) trivial fun args K r h => ?_
  unfold S121 VS121 at h
  split at h
  · exact (e121_0 N _ _ _ _).trans h
  · cases h
def VS94 {β : Type} (N : Nat) (q_spec_VariablesOf : (a0 : Int) → (a1 : Int) → (k : List Int → Option β) → Option β) : Rv.Spec β := fun args K => match args with
  | [.v (.agg [.int .i64 a0, .int .i64 a1])] => q_spec_VariablesOf a0 a1 (fun z2 => K (.v (.one (.sl 3 (.ints .i64 z2)))))
  | _ => none
def S94 {β : Type} (N : Nat) : Rv.Spec β := VS94 N (spec_VariablesOf N)
def h94_0_0  (v0 : Int) (v1 : Int) (v2 : Int) (v3 : List Int) : St := ⟨.v (.one .und) :: .v (.one (.ptr 0 0)) :: .v (.one .und) :: .v (.one (.row 1)) :: .v (.one (.int .i64 v0)) :: .v (.one .und) :: .v (.one .und) :: .v (.one .und) :: .v (.one .und) :: .v (.one .und) :: .v (.one .und) :: .v (.one .und) :: .v (.one .und) :: .v (.one .und) :: .v (.one .und) :: .v (.one .und) :: .v (.one .und) :: .v (.one .und) :: .v (.one .und) :: .v (.one .und) :: .v (.one .und) :: .v (.one .und) :: .v (.one .und) :: .v (.one .und) :: [], [.cells 25 [.int .i64 v1, .int .i64 v2], .row 3 (.ints .i64 v3)]⟩
def x94_0_0_k0  (y0 : List Int) : St := ⟨.v (.one .und) :: .v (.one .und) :: .v (.one .und) :: .v (.one (.row 0)) :: .v (.one .und) :: .v (.one .und) :: .v (.one .und) :: .v (.one .und) :: .v (.one .und) :: .v (.one .und) :: .v (.one .und) :: .v (.one .und) :: .v (.one .und) :: .v (.one .und) :: .v (.one .und) :: .v (.one .und) :: .v (.one .und) :: .v (.one .und) :: .v (.one .und) :: .v (.one .und) :: .v (.one .und) :: .v (.one .und) :: .v (.one .und) :: .v (.one .und) :: [], [.row 3 (.ints .i64 y0)]⟩
theorem fl94_0_0 (s : St) : refSt (h94_0_0 0 0 0 []) s = h94_0_0 (intS (oneA (vT (nx tund s.tmps 4)))) (intS (nx .und (cellsB (nx .dead s.blks 0)) 0)) (intS (nx .und (cellsB (nx .dead s.blks 0)) 1)) (rInts (rowB_ (nx .dead s.blks 1))) := by kernel_rfl
def VLS94_0 {β : Type} (N : Nat) (q_spec_VariablesOf_l0 : Nat → Int → Int → Int → List Int → (List Int → Option β) → Option β) : LSpec β := fun s K => cond (shpSt (h94_0_0 0 0 0 []) s) ((fun (v0 : Int) (v1 : Int) (v2 : Int) (v3 : List Int) => q_spec_VariablesOf_l0  N v0 v1 v2 v3 (fun y0 => K (.exit 0) (x94_0_0_k0  y0))) (intS (oneA (vT (nx tund s.tmps 4)))) (intS (nx .und (cellsB (nx .dead s.blks 0)) 0)) (intS (nx .und (cellsB (nx .dead s.blks 0)) 1)) (rInts (rowB_ (nx .dead s.blks 1)))) (none)
def LS94_0 {β : Type} (N : Nat) : LSpec β := VLS94_0 N (spec_VariablesOf_l0 N)
def VE94 {β : Type} (N : Nat) (q_spec_IsTable : (a0 : Int) → (a1 : Int) → (k : Bool → Option β) → Option β) (q_spec_l3Depends : (a0 : Int) → (a1 : Int) → (a2 : Int) → (k : Bool → Option β) → Option β) (q_spec_VariablesOf_l0 : Nat → Int → Int → Int → List Int → (List Int → Option β) → Option β) : Env β := ⟨[(69, VS69 N q_spec_IsTable), (121, VS121 N q_spec_l3Depends)], [], [(0, VLS94_0 N q_spec_VariablesOf_l0)], []⟩
def E94 {β : Type} (N : Nat) : Env β := VE94 N (spec_IsTable N) (spec_l3Depends N) (spec_VariablesOf_l0 N)
def BV_spec_VariablesOf_l0b {β : Type} (N : Nat) (q_spec_IsTable : (a0 : Int) → (a1 : Int) → (k : Bool → Option β) → Option β) (q_spec_l3Depends : (a0 : Int) → (a1 : Int) → (a2 : Int) → (k : Bool → Option β) → Option β)  (v0 : Int) (v1 : Int) (v2 : Int) (v3 : List Int) (rec_ : Int → Int → Int → List Int → Option β) (k0 : List Int → Option β) : Option β :=
q_spec_IsTable v1 v2 fun r3 =>
(cond r3
((cond ((decide (v0 < v1)))
(q_spec_l3Depends v1 v2 v0 fun r4 =>
(cond r4
((gd ((decide ((v3.length + ((([] : List Int) ++ [v0])).length) * 8 ≤ 140737488355328)))
(rec_ ((w64 (v0 + 1))) v1 v2 ((v3 ++ (([] : List Int) ++ [v0]))))))
(rec_ ((w64 (v0 + 1))) v1 v2 v3)))
(k0 v3)))
(k0 v3))
theorem t_spec_VariablesOf_l0b {β : Type} (N : Nat)  (v0 : Int) (v1 : Int) (v2 : Int) (v3 : List Int) (rec_ : Int → Int → Int → List Int → Option β) (k0 : List Int → Option β) : spec_VariablesOf_l0b N v0 v1 v2 v3 rec_ k0 = BV_spec_VariablesOf_l0b N (spec_IsTable N) (spec_l3Depends N) v0 v1 v2 v3 rec_ k0 := by
  unfold spec_VariablesOf_l0b BV_spec_VariablesOf_l0b
  rfl
theorem vst94_0_0 {β : Type} (N : Nat) (q_spec_IsTable : (a0 : Int) → (a1 : Int) → (k : Bool → Option β) → Option β) (q_spec_l3Depends : (a0 : Int) → (a1 : Int) → (a2 : Int) → (k : Bool → Option β) → Option β) (q_spec_VariablesOf_l0 : Nat → Int → Int → Int → List Int → (List Int → Option β) → Option β)  (v0 : Int) (v1 : Int) (v2 : Int) (v3 : List Int) (rec_ : St → Option β) (K : Exit → St → Option β) :
    ev lay (VE94 N q_spec_IsTable q_spec_l3Depends q_spec_VariablesOf_l0) (retMask Try.f94) (lp Try.f94 0).body (lp Try.f94 0).ex ((lp Try.f94 0).lv (retMask Try.f94)) (h94_0_0  v0 v1 v2 v3) (nextR (fun s' => rec_ (s'.tidy ((lp Try.f94 0).lv (retMask Try.f94)))) K) = BV_spec_VariablesOf_l0b N q_spec_IsTable q_spec_l3Depends  v0 v1 v2 v3 (fun v0 v1 v2 v3 => rec_ (h94_0_0  v0 v1 v2 v3)) (fun y0 => K (.exit 0) (x94_0_0_k0  y0)) := by kernel_rfl
theorem st94_0_0 {β : Type} (N : Nat)  (v0 : Int) (v1 : Int) (v2 : Int) (v3 : List Int) (rec_ : St → Option β) (K : Exit → St → Option β) :
    ev lay (E94 N) (retMask Try.f94) (lp Try.f94 0).body (lp Try.f94 0).ex ((lp Try.f94 0).lv (retMask Try.f94)) (h94_0_0  v0 v1 v2 v3) (nextR (fun s' => rec_ (s'.tidy ((lp Try.f94 0).lv (retMask Try.f94)))) K) = spec_VariablesOf_l0b N  v0 v1 v2 v3 (fun v0 v1 v2 v3 => rec_ (h94_0_0  v0 v1 v2 v3)) (fun y0 => K (.exit 0) (x94_0_0_k0  y0)) := (vst94_0_0 N (spec_IsTable N) (spec_l3Depends N) (spec_VariablesOf_l0 N) v0 v1 v2 v3 rec_ K).trans (t_spec_VariablesOf_l0b N  v0 v1 v2 v3 (fun v0 v1 v2 v3 => rec_ (h94_0_0  v0 v1 v2 v3)) (fun y0 => K (.exit 0) (x94_0_0_k0  y0))).symm
theorem ro94_0_0 {β : Type} (N : Nat)  (K : Exit → St → Option β) : ∀ (F : Nat) (v0 : Int) (v1 : Int) (v2 : Int) (v3 : List Int), (lp Try.f94 0).rounds lay (E94 N) (retMask Try.f94) F (h94_0_0  v0 v1 v2 v3) K = spec_VariablesOf_l0 N  F v0 v1 v2 v3 (fun y0 => K (.exit 0) (x94_0_0_k0  y0)) := by
  intro F
  induction F with
  | zero => intros; rfl
  | succ F ih =>
    intros
    rw [rounds_next]
    refine (st94_0_0 N  _ _ _ _ (fun s => (lp Try.f94 0).rounds lay (E94 N) (retMask Try.f94) F s K) K).trans ?_
    simp only [ih]
    rfl
theorem lk94_0 {β : Type} (N : Nat) : lookL (E94 (β := β) N).loops (lp Try.f94 0).id = LS94_0 N := by kernel_rfl
theorem rk94_0 {β : Type} (N : Nat) : RoundsOK lay (E94 (β := β) N) (retMask Try.f94) (lp Try.f94 0) := by
  intro s K r h
  rw [lk94_0] at h
  unfold LS94_0 VLS94_0 at h
  cases hb : shpSt (h94_0_0 0 0 0 []) s with
  | true =>
    rw [hb, cond_true] at h
    exact ⟨N, by rw [← shpSt_ref hb, fl94_0_0 s]; exact (ro94_0_0 N  K N (intS (oneA (vT (nx tund s.tmps 4)))) (intS (nx .und (cellsB (nx .dead s.blks 0)) 0)) (intS (nx .und (cellsB (nx .dead s.blks 0)) 1)) (rInts (rowB_ (nx .dead s.blks 1)))).trans h⟩
  | false =>
  rw [hb, cond_false] at h
  clear hb
  cases h
def BV_spec_VariablesOf {β : Type} (N : Nat) (q_spec_VariablesOf_l0 : Nat → Int → Int → Int → List Int → (List Int → Option β) → Option β) (a0 : Int) (a1 : Int) (k : List Int → Option β) : Option β :=
q_spec_VariablesOf_l0  N 0 a0 a1 (([] : List Int)) (fun e5_0 =>
k e5_0)
theorem t_spec_VariablesOf {β : Type} (N : Nat) (a0 : Int) (a1 : Int) (k : List Int → Option β) : spec_VariablesOf N a0 a1 k = BV_spec_VariablesOf N (spec_VariablesOf_l0 N) a0 a1 k := by
  unfold spec_VariablesOf BV_spec_VariablesOf
  rfl
theorem ve94_0 {β : Type} (N : Nat) (q_spec_IsTable : (a0 : Int) → (a1 : Int) → (k : Bool → Option β) → Option β) (q_spec_l3Depends : (a0 : Int) → (a1 : Int) → (a2 : Int) → (k : Bool → Option β) → Option β) (q_spec_VariablesOf_l0 : Nat → Int → Int → Int → List Int → (List Int → Option β) → Option β)  (a0 : Int) (a1 : Int) (K : TV → Option β) : evFn lay (VE94 N q_spec_IsTable q_spec_l3Depends q_spec_VariablesOf_l0) Try.f94 [.v (.agg [.int .i64 a0, .int .i64 a1])] K = BV_spec_VariablesOf N q_spec_VariablesOf_l0 a0 a1 (fun z2 => K (.v (.one (.sl 3 (.ints .i64 z2))))) := by kernel_rfl
theorem e94_0 {β : Type} (N : Nat)  (a0 : Int) (a1 : Int) (K : TV → Option β) : evFn lay (E94 N) Try.f94 [.v (.agg [.int .i64 a0, .int .i64 a1])] K = spec_VariablesOf N a0 a1 (fun z2 => K (.v (.one (.sl 3 (.ints .i64 z2))))) := (ve94_0 N (spec_IsTable N) (spec_l3Depends N) (spec_VariablesOf_l0 N) a0 a1 K).trans (t_spec_VariablesOf N a0 a1 (fun z2 => K (.v (.one (.sl 3 (.ints .i64 z2)))))).symm
theorem o94 {β : Type} (N : Nat) : SpecOK (β := β) Try.prog 94 (S94 N) := by
  refine spec_of lay_ok mixed (E := E94 N) (specs_loops (specs_cons (o69 N) (specs_cons (o121 N) specs_nil))) muts_nil gs_nil Try.func94 (by kernel_rfl) 1 (by kernel_rfl) ⟨trivial, rk94_0 N⟩ fun args K r h => ?_
  unfold S94 VS94 at h
  split at h
  · exact (e94_0 N _ _ _).trans h
  · cases h
def VS47 {β : Type} (N : Nat) (q_spec_CountDetectable : (a0 : Int) → (a1 : Int) → (k : Int → Option β) → Option β) : Rv.Spec β := fun args K => match args with
  | [.v (.agg [.int .i64 a0, .int .i64 a1])] => q_spec_CountDetectable a0 a1 (fun z2 => K (.v (.one (.int .i64 z2))))
  | _ => none
def S47 {β : Type} (N : Nat) : Rv.Spec β := VS47 N (spec_CountDetectable N)
def VE47 {β : Type} (N : Nat) (q_spec_IsTable : (a0 : Int) → (a1 : Int) → (k : Bool → Option β) → Option β) (q_spec_VariablesOf : (a0 : Int) → (a1 : Int) → (k : List Int → Option β) → Option β) : Env β := ⟨[(69, VS69 N q_spec_IsTable), (94, VS94 N q_spec_VariablesOf)], [], [], []⟩
def E47 {β : Type} (N : Nat) : Env β := VE47 N (spec_IsTable N) (spec_VariablesOf N)
def BV_spec_CountDetectable {β : Type} (N : Nat) (q_spec_IsTable : (a0 : Int) → (a1 : Int) → (k : Bool → Option β) → Option β) (q_spec_VariablesOf : (a0 : Int) → (a1 : Int) → (k : List Int → Option β) → Option β) (a0 : Int) (a1 : Int) (k : Int → Option β) : Option β :=
q_spec_IsTable a0 a1 fun r3 =>
(cond (!r3)
(k (-1))
(q_spec_VariablesOf a0 a1 fun r4 =>
k ((w64 (2 * (r4.length : Int))))))
theorem t_spec_CountDetectable {β : Type} (N : Nat) (a0 : Int) (a1 : Int) (k : Int → Option β) : spec_CountDetectable N a0 a1 k = BV_spec_CountDetectable N (spec_IsTable N) (spec_VariablesOf N) a0 a1 k := by
  unfold spec_CountDetectable BV_spec_CountDetectable
  rfl
theorem ve47_0 {β : Type} (N : Nat) (q_spec_IsTable : (a0 : Int) → (a1 : Int) → (k : Bool → Option β) → Option β) (q_spec_VariablesOf : (a0 : Int) → (a1 : Int) → (k : List Int → Option β) → Option β)  (a0 : Int) (a1 : Int) (K : TV → Option β) : evFn lay (VE47 N q_spec_IsTable q_spec_VariablesOf) Try.f47 [.v (.agg [.int .i64 a0, .int .i64 a1])] K = BV_spec_CountDetectable N q_spec_IsTable q_spec_VariablesOf a0 a1 (fun z2 => K (.v (.one (.int .i64 z2)))) := by kernel_rfl
theorem e47_0 {β : Type} (N : Nat)  (a0 : Int) (a1 : Int) (K : TV → Option β) : evFn lay (E47 N) Try.f47 [.v (.agg [.int .i64 a0, .int .i64 a1])] K = spec_CountDetectable N a0 a1 (fun z2 => K (.v (.one (.int .i64 z2)))) := (ve47_0 N (spec_IsTable N) (spec_VariablesOf N) a0 a1 K).trans (t_spec_CountDetectable N a0 a1 (fun z2 => K (.v (.one (.int .i64 z2))))).symm
theorem o47 {β : Type} (N : Nat) : SpecOK (β := β) Try.prog 47 (S47 N) := by
  refine spec_of lay_ok mixed (E := E47 N) (specs_loops (specs_cons (o69 N) (specs_cons (o94 N) specs_nil))) muts_nil gs_nil Try.func47 (by kernel_rfl) 0 (by kernel_rfl) trivial fun args K r h => ?_
  unfold S47 VS47 at h
  split at h
  · exact (e47_0 N _ _ _).trans h
  · cases h
end Go.Proofs.Ytdkjnadhgdneaaa
