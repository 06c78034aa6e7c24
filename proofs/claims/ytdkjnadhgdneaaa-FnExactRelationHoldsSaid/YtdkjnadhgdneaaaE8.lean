/- The functions that the claims reach answer as their texts do. -/
import Derived.Test.YtdkjnadhgdneaaaE7
namespace Go.Proofs.Ytdkjnadhgdneaaa
open Go.Rv
set_option maxRecDepth 100000
set_option maxHeartbeats 2000000
set_option linter.unusedVariables false
def VS154 {β : Type} (N : Nat) (q_spec_l3Insert : (a0 : Int) → (a1 : Int) → (a2 : Int) → (k : Int → Option β) → Option β) : Rv.Spec β := fun args K => match args with
  | [.v (.one (.int .i64 a0)), .v (.one (.int .i64 a1)), .v (.one (.int .i64 a2))] => q_spec_l3Insert a0 a1 a2 (fun z3 => K (.v (.one (.int .i64 z3))))
  | _ => none
def S154 {β : Type} (N : Nat) : Rv.Spec β := VS154 N (spec_l3Insert N)
def VE154 {β : Type} (N : Nat) : Env β := ⟨[], [], [], []⟩
def E154 {β : Type} (N : Nat) : Env β := VE154 N
def BV_spec_l3Insert {β : Type} (N : Nat) (a0 : Int) (a1 : Int) (a2 : Int) (k : Int → Option β) : Option β :=
(gd ((decide (0 ≤ a1)))
((gd ((decide (0 ≤ a1)))
((gd ((decide (0 ≤ (w64 (a1 + 1)))))
((gd ((decide (0 ≤ a1)))
(k ((bits .or .i64 (bits .or .i64 (shlI .i64 (shrI .i64 a0 a1) (w64 (a1 + 1))) (shlI .i64 a2 a1)) (bits .and .i64 a0 (w64 ((shlI .i64 1 a1) - 1)))))))))))))
theorem t_spec_l3Insert {β : Type} (N : Nat) (a0 : Int) (a1 : Int) (a2 : Int) (k : Int → Option β) : spec_l3Insert N a0 a1 a2 k = BV_spec_l3Insert N a0 a1 a2 k := by
  unfold spec_l3Insert BV_spec_l3Insert
  rfl
theorem ve154_0 {β : Type} (N : Nat)  (a0 : Int) (a1 : Int) (a2 : Int) (K : TV → Option β) : evFn lay (VE154 N) Try.f154 [.v (.one (.int .i64 a0)), .v (.one (.int .i64 a1)), .v (.one (.int .i64 a2))] K = BV_spec_l3Insert N a0 a1 a2 (fun z3 => K (.v (.one (.int .i64 z3)))) := by kernel_rfl
theorem e154_0 {β : Type} (N : Nat)  (a0 : Int) (a1 : Int) (a2 : Int) (K : TV → Option β) : evFn lay (E154 N) Try.f154 [.v (.one (.int .i64 a0)), .v (.one (.int .i64 a1)), .v (.one (.int .i64 a2))] K = spec_l3Insert N a0 a1 a2 (fun z3 => K (.v (.one (.int .i64 z3)))) := (ve154_0 N a0 a1 a2 K).trans (t_spec_l3Insert N a0 a1 a2 (fun z3 => K (.v (.one (.int .i64 z3))))).symm
theorem o154 {β : Type} (N : Nat) : SpecOK (β := β) Try.prog 154 (S154 N) := by
  refine spec_of lay_ok mixed (E := E154 N) (specs_loops specs_nil) muts_nil gs_nil Try.func154 (by kernel_rfl) 0 (by kernel_rfl) trivial fun args K r h => ?_
  unfold S154 VS154 at h
  split at h
  · exact (e154_0 N _ _ _ _).trans h
  · cases h
def VS139 {β : Type} (N : Nat) (q_spec_l3Restrict : (a0 : Int) → (a1 : Int) → (a2 : Int) → (a3 : Int) → (k : Int → Int → Option β) → Option β) : Rv.Spec β := fun args K => match args with
  | [.v (.agg [.int .i64 a0, .int .i64 a1]), .v (.one (.int .i64 a2)), .v (.one (.int .i64 a3))] => q_spec_l3Restrict a0 a1 a2 a3 (fun z4 z5 => K (.v (.agg [.int .i64 z4, .int .i64 z5])))
  | _ => none
def S139 {β : Type} (N : Nat) : Rv.Spec β := VS139 N (spec_l3Restrict N)
def h139_0_0  (v0 : Int) (v1 : Int) (v2 : Int) (v3 : Int) (v4 : Int) (v5 : Int) (v6 : Int) (v7 : Int) : St := ⟨.v (.one .und) :: .v (.one (.int .i64 v0)) :: .v (.one (.int .i64 v1)) :: .v (.one (.ptr 0 0)) :: .v (.one .und) :: .v (.one .und) :: .v (.one (.ptr 1 0)) :: .v (.one (.int .i64 v2)) :: .v (.one (.int .i64 v3)) :: .v (.one .und) :: .v (.one .und) :: .v (.one .und) :: .v (.one .und) :: .v (.one .und) :: .v (.one .und) :: .v (.one .und) :: .v (.one .und) :: .v (.one .und) :: .v (.one .und) :: .v (.one .und) :: .v (.one .und) :: .v (.one .und) :: .v (.one .und) :: .v (.one .und) :: .v (.one .und) :: .v (.one .und) :: .v (.one .und) :: .v (.one .und) :: .v (.one .und) :: .v (.one .und) :: .v (.one .und) :: .v (.one .und) :: .v (.one .und) :: .v (.one .und) :: [], [.cells 25 [.int .i64 v4, .int .i64 v5], .cells 25 [.int .i64 v6, .int .i64 v7]]⟩
def x139_0_0_k0  (y0 : Int) (y1 : Int) (y2 : Int) (y3 : Int) (y4 : Int) : St := ⟨.v (.one .und) :: .v (.one .und) :: .v (.one .und) :: .v (.one (.ptr 0 0)) :: .v (.one .und) :: .v (.one .und) :: .v (.one (.ptr 1 0)) :: .v (.one (.int .i64 y0)) :: .v (.one .und) :: .v (.one .und) :: .v (.one .und) :: .v (.one .und) :: .v (.one .und) :: .v (.one .und) :: .v (.one .und) :: .v (.one .und) :: .v (.one .und) :: .v (.one .und) :: .v (.one .und) :: .v (.one .und) :: .v (.one .und) :: .v (.one .und) :: .v (.one .und) :: .v (.one .und) :: .v (.one .und) :: .v (.one .und) :: .v (.one .und) :: .v (.one .und) :: .v (.one .und) :: .v (.one .und) :: .v (.one .und) :: .v (.one .und) :: .v (.one .und) :: .v (.one .und) :: [], [.cells 25 [.int .i64 y1, .int .i64 y2], .cells 25 [.int .i64 y3, .int .i64 y4]]⟩
theorem fl139_0_0 (s : St) : refSt (h139_0_0 0 0 0 0 0 0 0 0) s = h139_0_0 (intS (oneA (vT (nx tund s.tmps 1)))) (intS (oneA (vT (nx tund s.tmps 2)))) (intS (oneA (vT (nx tund s.tmps 7)))) (intS (oneA (vT (nx tund s.tmps 8)))) (intS (nx .und (cellsB (nx .dead s.blks 0)) 0)) (intS (nx .und (cellsB (nx .dead s.blks 0)) 1)) (intS (nx .und (cellsB (nx .dead s.blks 1)) 0)) (intS (nx .und (cellsB (nx .dead s.blks 1)) 1)) := by kernel_rfl
def VLS139_0 {β : Type} (N : Nat) (q_spec_l3Restrict_l0 : Nat → Int → Int → Int → Int → Int → Int → Int → Int → (Int → Int → Int → Int → Int → Option β) → Option β) : LSpec β := fun s K => cond (shpSt (h139_0_0 0 0 0 0 0 0 0 0) s) ((fun (v0 : Int) (v1 : Int) (v2 : Int) (v3 : Int) (v4 : Int) (v5 : Int) (v6 : Int) (v7 : Int) => q_spec_l3Restrict_l0  N v0 v1 v2 v3 v4 v5 v6 v7 (fun y0 y1 y2 y3 y4 => K (.exit 0) (x139_0_0_k0  y0 y1 y2 y3 y4))) (intS (oneA (vT (nx tund s.tmps 1)))) (intS (oneA (vT (nx tund s.tmps 2)))) (intS (oneA (vT (nx tund s.tmps 7)))) (intS (oneA (vT (nx tund s.tmps 8)))) (intS (nx .und (cellsB (nx .dead s.blks 0)) 0)) (intS (nx .und (cellsB (nx .dead s.blks 0)) 1)) (intS (nx .und (cellsB (nx .dead s.blks 1)) 0)) (intS (nx .und (cellsB (nx .dead s.blks 1)) 1))) (none)
def LS139_0 {β : Type} (N : Nat) : LSpec β := VLS139_0 N (spec_l3Restrict_l0 N)
def VE139 {β : Type} (N : Nat) (q_spec_l3Insert : (a0 : Int) → (a1 : Int) → (a2 : Int) → (k : Int → Option β) → Option β) (q_spec_l3Restrict_l0 : Nat → Int → Int → Int → Int → Int → Int → Int → Int → (Int → Int → Int → Int → Int → Option β) → Option β) : Env β := ⟨[(154, VS154 N q_spec_l3Insert)], [], [(0, VLS139_0 N q_spec_l3Restrict_l0)], []⟩
def E139 {β : Type} (N : Nat) : Env β := VE139 N (spec_l3Insert N) (spec_l3Restrict_l0 N)
def BV_spec_l3Restrict_l0b {β : Type} (N : Nat) (q_spec_l3Insert : (a0 : Int) → (a1 : Int) → (a2 : Int) → (k : Int → Option β) → Option β)  (v0 : Int) (v1 : Int) (v2 : Int) (v3 : Int) (v4 : Int) (v5 : Int) (v6 : Int) (v7 : Int) (rec_ : Int → Int → Int → Int → Int → Int → Int → Int → Option β) (k0 : Int → Int → Int → Int → Int → Option β) : Option β :=
(gd ((decide (0 ≤ (w64 (v4 - 1)))))
((cond ((decide (v3 < (shlI .i64 1 (w64 (v4 - 1))))))
(q_spec_l3Insert v3 v0 v1 fun r6 =>
(gd ((decide (0 ≤ r6)))
((gd ((decide (0 ≤ v3)))
(rec_ v0 v1 ((bits .or .i64 v2 (shlI .i64 (bits .and .i64 (shrI .i64 v5 r6) 1) v3))) ((w64 (v3 + 1))) v4 v5 v6 v7)))))
(k0 v2 v4 v5 v6 v7))))
theorem t_spec_l3Restrict_l0b {β : Type} (N : Nat)  (v0 : Int) (v1 : Int) (v2 : Int) (v3 : Int) (v4 : Int) (v5 : Int) (v6 : Int) (v7 : Int) (rec_ : Int → Int → Int → Int → Int → Int → Int → Int → Option β) (k0 : Int → Int → Int → Int → Int → Option β) : spec_l3Restrict_l0b N v0 v1 v2 v3 v4 v5 v6 v7 rec_ k0 = BV_spec_l3Restrict_l0b N (spec_l3Insert N) v0 v1 v2 v3 v4 v5 v6 v7 rec_ k0 := by
  unfold spec_l3Restrict_l0b BV_spec_l3Restrict_l0b
  rfl
theorem vst139_0_0 {β : Type} (N : Nat) (q_spec_l3Insert : (a0 : Int) → (a1 : Int) → (a2 : Int) → (k : Int → Option β) → Option β) (q_spec_l3Restrict_l0 : Nat → Int → Int → Int → Int → Int → Int → Int → Int → (Int → Int → Int → Int → Int → Option β) → Option β)  (v0 : Int) (v1 : Int) (v2 : Int) (v3 : Int) (v4 : Int) (v5 : Int) (v6 : Int) (v7 : Int) (rec_ : St → Option β) (K : Exit → St → Option β) :
    ev lay (VE139 N q_spec_l3Insert q_spec_l3Restrict_l0) (retMask Try.f139) (lp Try.f139 0).body (lp Try.f139 0).ex ((lp Try.f139 0).lv (retMask Try.f139)) (h139_0_0  v0 v1 v2 v3 v4 v5 v6 v7) (nextR (fun s' => rec_ (s'.tidy ((lp Try.f139 0).lv (retMask Try.f139)))) K) = BV_spec_l3Restrict_l0b N q_spec_l3Insert  v0 v1 v2 v3 v4 v5 v6 v7 (fun v0 v1 v2 v3 v4 v5 v6 v7 => rec_ (h139_0_0  v0 v1 v2 v3 v4 v5 v6 v7)) (fun y0 y1 y2 y3 y4 => K (.exit 0) (x139_0_0_k0  y0 y1 y2 y3 y4)) := by kernel_rfl
theorem st139_0_0 {β : Type} (N : Nat)  (v0 : Int) (v1 : Int) (v2 : Int) (v3 : Int) (v4 : Int) (v5 : Int) (v6 : Int) (v7 : Int) (rec_ : St → Option β) (K : Exit → St → Option β) :
    ev lay (E139 N) (retMask Try.f139) (lp Try.f139 0).body (lp Try.f139 0).ex ((lp Try.f139 0).lv (retMask Try.f139)) (h139_0_0  v0 v1 v2 v3 v4 v5 v6 v7) (nextR (fun s' => rec_ (s'.tidy ((lp Try.f139 0).lv (retMask Try.f139)))) K) = spec_l3Restrict_l0b N  v0 v1 v2 v3 v4 v5 v6 v7 (fun v0 v1 v2 v3 v4 v5 v6 v7 => rec_ (h139_0_0  v0 v1 v2 v3 v4 v5 v6 v7)) (fun y0 y1 y2 y3 y4 => K (.exit 0) (x139_0_0_k0  y0 y1 y2 y3 y4)) := (vst139_0_0 N (spec_l3Insert N) (spec_l3Restrict_l0 N) v0 v1 v2 v3 v4 v5 v6 v7 rec_ K).trans (t_spec_l3Restrict_l0b N  v0 v1 v2 v3 v4 v5 v6 v7 (fun v0 v1 v2 v3 v4 v5 v6 v7 => rec_ (h139_0_0  v0 v1 v2 v3 v4 v5 v6 v7)) (fun y0 y1 y2 y3 y4 => K (.exit 0) (x139_0_0_k0  y0 y1 y2 y3 y4))).symm
theorem ro139_0_0 {β : Type} (N : Nat)  (K : Exit → St → Option β) : ∀ (F : Nat) (v0 : Int) (v1 : Int) (v2 : Int) (v3 : Int) (v4 : Int) (v5 : Int) (v6 : Int) (v7 : Int), (lp Try.f139 0).rounds lay (E139 N) (retMask Try.f139) F (h139_0_0  v0 v1 v2 v3 v4 v5 v6 v7) K = spec_l3Restrict_l0 N  F v0 v1 v2 v3 v4 v5 v6 v7 (fun y0 y1 y2 y3 y4 => K (.exit 0) (x139_0_0_k0  y0 y1 y2 y3 y4)) := by
  intro F
  induction F with
  | zero => intros; rfl
  | succ F ih =>
    intros
    rw [rounds_next]
    refine (st139_0_0 N  _ _ _ _ _ _ _ _ (fun s => (lp Try.f139 0).rounds lay (E139 N) (retMask Try.f139) F s K) K).trans ?_
    simp only [ih]
    rfl
theorem lk139_0 {β : Type} (N : Nat) : lookL (E139 (β := β) N).loops (lp Try.f139 0).id = LS139_0 N := by kernel_rfl
theorem rk139_0 {β : Type} (N : Nat) : RoundsOK lay (E139 (β := β) N) (retMask Try.f139) (lp Try.f139 0) := by
  intro s K r h
  rw [lk139_0] at h
  unfold LS139_0 VLS139_0 at h
  cases hb : shpSt (h139_0_0 0 0 0 0 0 0 0 0) s with
  | true =>
    rw [hb, cond_true] at h
    exact ⟨N, by rw [← shpSt_ref hb, fl139_0_0 s]; exact (ro139_0_0 N  K N (intS (oneA (vT (nx tund s.tmps 1)))) (intS (oneA (vT (nx tund s.tmps 2)))) (intS (oneA (vT (nx tund s.tmps 7)))) (intS (oneA (vT (nx tund s.tmps 8)))) (intS (nx .und (cellsB (nx .dead s.blks 0)) 0)) (intS (nx .und (cellsB (nx .dead s.blks 0)) 1)) (intS (nx .und (cellsB (nx .dead s.blks 1)) 0)) (intS (nx .und (cellsB (nx .dead s.blks 1)) 1))).trans h⟩
  | false =>
  rw [hb, cond_false] at h
  clear hb
  cases h
def BV_spec_l3Restrict {β : Type} (N : Nat) (q_spec_l3Restrict_l0 : Nat → Int → Int → Int → Int → Int → Int → Int → Int → (Int → Int → Int → Int → Int → Option β) → Option β) (a0 : Int) (a1 : Int) (a2 : Int) (a3 : Int) (k : Int → Int → Option β) : Option β :=
q_spec_l3Restrict_l0  N a2 a3 0 0 a0 a1 0 0 (fun e7_0 e7_1 e7_2 e7_3 e7_4 =>
k ((w64 (e7_1 - 1))) e7_0)
theorem t_spec_l3Restrict {β : Type} (N : Nat) (a0 : Int) (a1 : Int) (a2 : Int) (a3 : Int) (k : Int → Int → Option β) : spec_l3Restrict N a0 a1 a2 a3 k = BV_spec_l3Restrict N (spec_l3Restrict_l0 N) a0 a1 a2 a3 k := by
  unfold spec_l3Restrict BV_spec_l3Restrict
  rfl
theorem ve139_0 {β : Type} (N : Nat) (q_spec_l3Insert : (a0 : Int) → (a1 : Int) → (a2 : Int) → (k : Int → Option β) → Option β) (q_spec_l3Restrict_l0 : Nat → Int → Int → Int → Int → Int → Int → Int → Int → (Int → Int → Int → Int → Int → Option β) → Option β)  (a0 : Int) (a1 : Int) (a2 : Int) (a3 : Int) (K : TV → Option β) : evFn lay (VE139 N q_spec_l3Insert q_spec_l3Restrict_l0) Try.f139 [.v (.agg [.int .i64 a0, .int .i64 a1]), .v (.one (.int .i64 a2)), .v (.one (.int .i64 a3))] K = BV_spec_l3Restrict N q_spec_l3Restrict_l0 a0 a1 a2 a3 (fun z4 z5 => K (.v (.agg [.int .i64 z4, .int .i64 z5]))) := by kernel_rfl
theorem e139_0 {β : Type} (N : Nat)  (a0 : Int) (a1 : Int) (a2 : Int) (a3 : Int) (K : TV → Option β) : evFn lay (E139 N) Try.f139 [.v (.agg [.int .i64 a0, .int .i64 a1]), .v (.one (.int .i64 a2)), .v (.one (.int .i64 a3))] K = spec_l3Restrict N a0 a1 a2 a3 (fun z4 z5 => K (.v (.agg [.int .i64 z4, .int .i64 z5]))) := (ve139_0 N (spec_l3Insert N) (spec_l3Restrict_l0 N) a0 a1 a2 a3 K).trans (t_spec_l3Restrict N a0 a1 a2 a3 (fun z4 z5 => K (.v (.agg [.int .i64 z4, .int .i64 z5])))).symm
theorem o139 {β : Type} (N : Nat) : SpecOK (β := β) Try.prog 139 (S139 N) := by
  refine spec_of lay_ok mixed (E := E139 N) (specs_loops (specs_cons (o154 N) specs_nil)) muts_nil gs_nil Try.func139 (by kernel_rfl) 1 (by kernel_rfl) ⟨trivial, rk139_0 N⟩ fun args K r h => ?_
  unfold S139 VS139 at h
  split at h
  · exact (e139_0 N _ _ _ _ _).trans h
  · cases h
def VS121 {β : Type} (N : Nat) (q_spec_l3Depends : (a0 : Int) → (a1 : Int) → (a2 : Int) → (k : Bool → Option β) → Option β) : Rv.Spec β := fun args K => match args with
  | [.v (.agg [.int .i64 a0, .int .i64 a1]), .v (.one (.int .i64 a2))] => q_spec_l3Depends a0 a1 a2 (fun z3 => K (.v (.one (.bool z3))))
  | _ => none
def S121 {β : Type} (N : Nat) : Rv.Spec β := VS121 N (spec_l3Depends N)
def VE121 {β : Type} (N : Nat) (q_spec_l3Restrict : (a0 : Int) → (a1 : Int) → (a2 : Int) → (a3 : Int) → (k : Int → Int → Option β) → Option β) : Env β := ⟨[(139, VS139 N q_spec_l3Restrict)], [], [], []⟩
def E121 {β : Type} (N : Nat) : Env β := VE121 N (spec_l3Restrict N)
def BV_spec_l3Depends {β : Type} (N : Nat) (q_spec_l3Restrict : (a0 : Int) → (a1 : Int) → (a2 : Int) → (a3 : Int) → (k : Int → Int → Option β) → Option β) (a0 : Int) (a1 : Int) (a2 : Int) (k : Bool → Option β) : Option β :=
q_spec_l3Restrict a0 a1 a2 0 fun r4 r5 =>
q_spec_l3Restrict a0 a1 a2 1 fun r6 r7 =>
k ((r5 != r7))
theorem t_spec_l3Depends {β : Type} (N : Nat) (a0 : Int) (a1 : Int) (a2 : Int) (k : Bool → Option β) : spec_l3Depends N a0 a1 a2 k = BV_spec_l3Depends N (spec_l3Restrict N) a0 a1 a2 k := by
  unfold spec_l3Depends BV_spec_l3Depends
  rfl
theorem ve121_0 {β : Type} (N : Nat) (q_spec_l3Restrict : (a0 : Int) → (a1 : Int) → (a2 : Int) → (a3 : Int) → (k : Int → Int → Option β) → Option β)  (a0 : Int) (a1 : Int) (a2 : Int) (K : TV → Option β) : evFn lay (VE121 N q_spec_l3Restrict) Try.f121 [.v (.agg [.int .i64 a0, .int .i64 a1]), .v (.one (.int .i64 a2))] K = BV_spec_l3Depends N q_spec_l3Restrict a0 a1 a2 (fun z3 => K (.v (.one (.bool z3)))) := by kernel_rfl
theorem e121_0 {β : Type} (N : Nat)  (a0 : Int) (a1 : Int) (a2 : Int) (K : TV → Option β) : evFn lay (E121 N) Try.f121 [.v (.agg [.int .i64 a0, .int .i64 a1]), .v (.one (.int .i64 a2))] K = spec_l3Depends N a0 a1 a2 (fun z3 => K (.v (.one (.bool z3)))) := (ve121_0 N (spec_l3Restrict N) a0 a1 a2 K).trans (t_spec_l3Depends N a0 a1 a2 (fun z3 => K (.v (.one (.bool z3))))).symm
theorem o121 {β : Type} (N : Nat) : SpecOK (β := β) Try.prog 121 (S121 N) := by
  refine spec_of lay_ok mixed (E := E121 N) (specs_loops (specs_cons (o139 N) specs_nil)) muts_nil gs_nil Try.func121 (by kernel_rfl) 0 (by kernel_rfl) trivial fun args K r h => ?_
  unfold S121 VS121 at h
  split at h
  · exact (e121_0 N _ _ _ _).trans h
  · cases h
def VS94 {β : Type} (N : Nat) (q_spec_VariablesOf : (a0 : Int) → (a1 : Int) → (k : List Int → Option β) → Option β) : Rv.Spec β := fun args K => match args with
  | [.v (.agg [.int .i64 a0, .int .i64 a1])] => q_spec_VariablesOf a0 a1 (fun z2 => K (.v (.one (.sl 3 (.ints .i64 z2)))))
  | _ => none
def S94 {β : Type} (N : Nat) : Rv.Spec β := VS94 N (spec_VariablesOf N)
def h94_0_0  (v0 : Int) (v1 : Int) (v2 : Int) (v3 : List Int) : St := ⟨.v (.one .und) :: .v (.one (.ptr 0 0)) :: .v (.one .und) :: .v (.one (.row 1)) :: .v (.one (.int .i64 v0)) :: .v (.one .und) :: .v (.one .und) :: .v (.one .und) :: .v (.one .und) :: .v (.one .und) :: .v (.one .und) :: .v (.one .und) :: .v (.one .und) :: .v (.one .und) :: .v (.one .und) :: .v (.one .und) :: .v (.one .und) :: .v (.one .und) :: .v (.one .und) :: .v (.one .und) :: .v (.one .und) :: .v (.one .und) :: .v (.one .und) :: .v (.one .und) :: [], [.cells 25 [.int .i64 v1, .int .i64 v2], .row 3 (.ints .i64 v3)]⟩
def x94_0_0_k0  (y0 : List Int) : St := ⟨.v (.one .und) :: .v (.one .und) :: .v (.one .und) :: .v (.one (.row 0)) :: .v (.one .und) :: .v (.one .und) :: .v (.one .und) :: .v (.one .und) :: .v (.one .und) :: .v (.one .und) :: .v (.one .und) :: .v (.one .und) :: .v (.one .und) :: .v (.one .und) :: .v (.one .und) :: .v (.one .und) :: .v (.one .und) :: .v (.one .und) :: .v (.one .und) :: .v (.one .und) :: .v (.one .und) :: .v (.one .und) :: .v (.one .und) :: .v (.one .und) :: [], [.row 3 (.ints .i64 y0)]⟩
theorem fl94_0_0 (s : St) : refSt (h94_0_0 0 0 0 []) s = h94_0_0 (intS (oneA (vT (nx tund s.tmps 4)))) (intS (nx .und (cellsB (nx .dead s.blks 0)) 0)) (intS (nx .und (cellsB (nx .dead s.blks 0)) 1)) (rInts (rowB_ (nx .dead s.blks 1))) := by kernel_rfl
def VLS94_0 {β : Type} (N : Nat) (q_spec_VariablesOf_l0 : Nat → Int → Int → Int → List Int → (List Int → Option β) → Option β) : LSpec β := fun s K => cond (shpSt (h94_0_0 0 0 0 []) s) ((fun (v0 : Int) (v1 : Int) (v2 : Int) (v3 : List Int) => q_spec_VariablesOf_l0  N v0 v1 v2 v3 (fun y0 => K (.exit 0) (x94_0_0_k0  y0))) (intS (oneA (vT (nx tund s.tmps 4)))) (intS (nx .und (cellsB (nx .dead s.blks 0)) 0)) (intS (nx .und (cellsB (nx .dead s.blks 0)) 1)) (rInts (rowB_ (nx .dead s.blks 1)))) (none)
def LS94_0 {β : Type} (N : Nat) : LSpec β := VLS94_0 N (spec_VariablesOf_l0 N)
def VE94 {β : Type} (N : Nat) (q_spec_IsTable : (a0 : Int) → (a1 : Int) → (k : Bool → Option β) → Option β) (q_spec_l3Depends : (a0 : Int) → (a1 : Int) → (a2 : Int) → (k : Bool → Option β) → Option β) (q_spec_VariablesOf_l0 : Nat → Int → Int → Int → List Int → (List Int → Option β) → Option β) : Env β := ⟨[(69, VS69 N q_spec_IsTable), (121, VS121 N q_spec_l3Depends)], [], [(0, VLS94_0 N q_spec_VariablesOf_l0)], []⟩
def E94 {β : Type} (N : Nat) : Env β := VE94 N (spec_IsTable N) (spec_l3Depends N) (spec_VariablesOf_l0 N)
def BV_spec_VariablesOf_l0b {β : Type} (N : Nat) (q_spec_IsTable : (a0 : Int) → (a1 : Int) → (k : Bool → Option β) → Option β) (q_spec_l3Depends : (a0 : Int) → (a1 : Int) → (a2 : Int) → (k : Bool → Option β) → Option β)  (v0 : Int) (v1 : Int) (v2 : Int) (v3 : List Int) (rec_ : Int → Int → Int → List Int → Option β) (k0 : List Int → Option β) : Option β :=
q_spec_IsTable v1 v2 fun r3 =>
(cond r3
((cond ((decide (v0 < v1)))
(q_spec_l3Depends v1 v2 v0 fun r4 =>
(cond r4
((gd ((decide ((v3.length + ((([] : List Int) ++ [v0])).length) * 8 ≤ 140737488355328)))
(rec_ ((w64 (v0 + 1))) v1 v2 ((v3 ++ (([] : List Int) ++ [v0]))))))
(rec_ ((w64 (v0 + 1))) v1 v2 v3)))
(k0 v3)))
(k0 v3))
theorem t_spec_VariablesOf_l0b {β : Type} (N : Nat)  (v0 : Int) (v1 : Int) (v2 : Int) (v3 : List Int) (rec_ : Int → Int → Int → List Int → Option β) (k0 : List Int → Option β) : spec_VariablesOf_l0b N v0 v1 v2 v3 rec_ k0 = BV_spec_VariablesOf_l0b N (spec_IsTable N) (spec_l3Depends N) v0 v1 v2 v3 rec_ k0 := by
  unfold spec_VariablesOf_l0b BV_spec_VariablesOf_l0b
  rfl
theorem vst94_0_0 {β : Type} (N : Nat) (q_spec_IsTable : (a0 : Int) → (a1 : Int) → (k : Bool → Option β) → Option β) (q_spec_l3Depends : (a0 : Int) → (a1 : Int) → (a2 : Int) → (k : Bool → Option β) → Option β) (q_spec_VariablesOf_l0 : Nat → Int → Int → Int → List Int → (List Int → Option β) → Option β)  (v0 : Int) (v1 : Int) (v2 : Int) (v3 : List Int) (rec_ : St → Option β) (K : Exit → St → Option β) :
    ev lay (VE94 N q_spec_IsTable q_spec_l3Depends q_spec_VariablesOf_l0) (retMask Try.f94) (lp Try.f94 0).body (lp Try.f94 0).ex ((lp Try.f94 0).lv (retMask Try.f94)) (h94_0_0  v0 v1 v2 v3) (nextR (fun s' => rec_ (s'.tidy ((lp Try.f94 0).lv (retMask Try.f94)))) K) = BV_spec_VariablesOf_l0b N q_spec_IsTable q_spec_l3Depends  v0 v1 v2 v3 (fun v0 v1 v2 v3 => rec_ (h94_0_0  v0 v1 v2 v3)) (fun y0 => K (.exit 0) (x94_0_0_k0  y0)) := by kernel_rfl
theorem st94_0_0 {β : Type} (N : Nat)  (v0 : Int) (v1 : Int) (v2 : Int) (v3 : List Int) (rec_ : St → Option β) (K : Exit → St → Option β) :
    ev lay (E94 N) (retMask Try.f94) (lp Try.f94 0).body (lp Try.f94 0).ex ((lp Try.f94 0).lv (retMask Try.f94)) (h94_0_0  v0 v1 v2 v3) (nextR (fun s' => rec_ (s'.tidy ((lp Try.f94 0).lv (retMask Try.f94)))) K) = spec_VariablesOf_l0b N  v0 v1 v2 v3 (fun v0 v1 v2 v3 => rec_ (h94_0_0  v0 v1 v2 v3)) (fun y0 => K (.exit 0) (x94_0_0_k0  y0)) := (vst94_0_0 N (spec_IsTable N) (spec_l3Depends N) (spec_VariablesOf_l0 N) v0 v1 v2 v3 rec_ K).trans (t_spec_VariablesOf_l0b N  v0 v1 v2 v3 (fun v0 v1 v2 v3 => rec_ (h94_0_0  v0 v1 v2 v3)) (fun y0 => K (.exit 0) (x94_0_0_k0  y0))).symm
theorem ro94_0_0 {β : Type} (N : Nat)  (K : Exit → St → Option β) : ∀ (F : Nat) (v0 : Int) (v1 : Int) (v2 : Int) (v3 : List Int), (lp Try.f94 0).rounds lay (E94 N) (retMask Try.f94) F (h94_0_0  v0 v1 v2 v3) K = spec_VariablesOf_l0 N  F v0 v1 v2 v3 (fun y0 => K (.exit 0) (x94_0_0_k0  y0)) := by
  intro F
  induction F with
  | zero => intros; rfl
  | succ F ih =>
    intros
    rw [rounds_next]
    refine (st94_0_0 N  _ _ _ _ (fun s => (lp Try.f94 0).rounds lay (E94 N) (retMask Try.f94) F s K) K).trans ?_
    simp only [ih]
    rfl
theorem lk94_0 {β : Type} (N : Nat) : lookL (E94 (β := β) N).loops (lp Try.f94 0).id = LS94_0 N := by kernel_rfl
theorem rk94_0 {β : Type} (N : Nat) : RoundsOK lay (E94 (β := β) N) (retMask Try.f94) (lp Try.f94 0) := by
  intro s K r h
  rw [lk94_0] at h
  unfold LS94_0 VLS94_0 at h
  cases hb : shpSt (h94_0_0 0 0 0 []) s with
  | true =>
    rw [hb, cond_true] at h
    exact ⟨N, by rw [← shpSt_ref hb, fl94_0_0 s]; exact (ro94_0_0 N  K N (intS (oneA (vT (nx tund s.tmps 4)))) (intS (nx .und (cellsB (nx .dead s.blks 0)) 0)) (intS (nx .und (cellsB (nx .dead s.blks 0)) 1)) (rInts (rowB_ (nx .dead s.blks 1)))).trans h⟩
  | false =>
  rw [hb, cond_false] at h
  clear hb
  cases h
def BV_spec_VariablesOf {β : Type} (N : Nat) (q_spec_VariablesOf_l0 : Nat → Int → Int → Int → List Int → (List Int → Option β) → Option β) (a0 : Int) (a1 : Int) (k : List Int → Option β) : Option β :=
q_spec_VariablesOf_l0  N 0 a0 a1 (([] : List Int)) (fun e5_0 =>
k e5_0)
theorem t_spec_VariablesOf {β : Type} (N : Nat) (a0 : Int) (a1 : Int) (k : List Int → Option β) : spec_VariablesOf N a0 a1 k = BV_spec_VariablesOf N (spec_VariablesOf_l0 N) a0 a1 k := by
  unfold spec_VariablesOf BV_spec_VariablesOf
  rfl
theorem ve94_0 {β : Type} (N : Nat) (q_spec_IsTable : (a0 : Int) → (a1 : Int) → (k : Bool → Option β) → Option β) (q_spec_l3Depends : (a0 : Int) → (a1 : Int) → (a2 : Int) → (k : Bool → Option β) → Option β) (q_spec_VariablesOf_l0 : Nat → Int → Int → Int → List Int → (List Int → Option β) → Option β)  (a0 : Int) (a1 : Int) (K : TV → Option β) : evFn lay (VE94 N q_spec_IsTable q_spec_l3Depends q_spec_VariablesOf_l0) Try.f94 [.v (.agg [.int .i64 a0, .int .i64 a1])] K = BV_spec_VariablesOf N q_spec_VariablesOf_l0 a0 a1 (fun z2 => K (.v (.one (.sl 3 (.ints .i64 z2))))) := by kernel_rfl
theorem e94_0 {β : Type} (N : Nat)  (a0 : Int) (a1 : Int) (K : TV → Option β) : evFn lay (E94 N) Try.f94 [.v (.agg [.int .i64 a0, .int .i64 a1])] K = spec_VariablesOf N a0 a1 (fun z2 => K (.v (.one (.sl 3 (.ints .i64 z2))))) := (ve94_0 N (spec_IsTable N) (spec_l3Depends N) (spec_VariablesOf_l0 N) a0 a1 K).trans (t_spec_VariablesOf N a0 a1 (fun z2 => K (.v (.one (.sl 3 (.ints .i64 z2)))))).symm
theorem o94 {β : Type} (N : Nat) : SpecOK (β := β) Try.prog 94 (S94 N) := by
  refine spec_of lay_ok mixed (E := E94 N) (specs_loops (specs_cons (o69 N) (specs_cons (o121 N) specs_nil))) muts_nil gs_nil Try.func94 (by kernel_rfl) 1 (by kernel_rfl) ⟨trivial, rk94_0 N⟩ fun args K r h => ?_
  unfold S94 VS94 at h
  split at h
  · exact (e94_0 N _ _ _).trans h
  · cases h
def VS53 {β : Type} (N : Nat) (q_spec_RelationHolds : (a0 : ByteArray) → (a1 : Int) → (a2 : Int) → (k : Bool → Option β) → Option β) : Rv.Spec β := fun args K => match args with
  | [.v (.one (.str a0)), .v (.agg [.int .i64 a1, .int .i64 a2])] => q_spec_RelationHolds a0 a1 a2 (fun z3 => K (.v (.one (.bool z3))))
  | _ => none
def S53 {β : Type} (N : Nat) : Rv.Spec β := VS53 N (spec_RelationHolds N)
def VE53 {β : Type} (N : Nat) (q_spec_MeasureOf : (a0 : ByteArray) → (a1 : Int) → (a2 : Int) → (k : Int → Option β) → Option β) (q_spec_CertificateOf : (a0 : Int) → (a1 : Int) → (a2 : Int) → (k : Int → Option β) → Option β) (q_spec_VariablesOf : (a0 : Int) → (a1 : Int) → (k : List Int → Option β) → Option β) : Env β := ⟨[(48, VS48 N q_spec_MeasureOf), (97, VS97 N q_spec_CertificateOf), (94, VS94 N q_spec_VariablesOf)], [], [], []⟩
def E53 {β : Type} (N : Nat) : Env β := VE53 N (spec_MeasureOf N) (spec_CertificateOf N) (spec_VariablesOf N)
def BV_spec_RelationHolds {β : Type} (N : Nat) (q_spec_MeasureOf : (a0 : ByteArray) → (a1 : Int) → (a2 : Int) → (k : Int → Option β) → Option β) (q_spec_CertificateOf : (a0 : Int) → (a1 : Int) → (a2 : Int) → (k : Int → Option β) → Option β) (q_spec_VariablesOf : (a0 : Int) → (a1 : Int) → (k : List Int → Option β) → Option β) (a0 : ByteArray) (a1 : Int) (a2 : Int) (k : Bool → Option β) : Option β :=
q_spec_MeasureOf ((strOf [115, 101, 110, 115, 105, 116, 105, 118, 105, 116, 121])) a1 a2 fun r4 =>
q_spec_MeasureOf ((strOf [98, 108, 111, 99, 107, 115])) a1 a2 fun r5 =>
q_spec_MeasureOf ((strOf [99, 101, 114, 116, 105, 102, 105, 99, 97, 116, 101])) a1 a2 fun r6 =>
q_spec_MeasureOf ((strOf [100, 101, 112, 116, 104])) a1 a2 fun r7 =>
q_spec_MeasureOf ((strOf [100, 101, 103, 114, 101, 101])) a1 a2 fun r8 =>
(cond ((decide (r4 < 0)))
(k false)
((cond ((a0.toList == ((strOf [111, 114, 100, 101, 114])).toList))
((cond ((decide (r4 ≤ r5)))
((cond ((decide (r5 ≤ r6)))
((cond ((decide (r6 ≤ r7)))
(k ((decide (r8 ≤ r7))))
(k false)))
(k false)))
(k false)))
((cond ((a0.toList == ((strOf [112, 114, 111, 100, 117, 99, 116])).toList))
(q_spec_CertificateOf a1 a2 0 fun r9 =>
q_spec_CertificateOf a1 a2 1 fun r10 =>
k ((decide (r7 ≤ (w64 (r9 * r10))))))
((cond ((a0.toList == ((strOf [104, 117, 97, 110, 103])).toList))
(k ((decide (r8 ≤ (w64 (r4 * r4))))))
((cond ((a0.toList == ((strOf [98, 108, 111, 99, 107, 115])).toList))
((cond ((decide (r6 ≤ (w64 (r4 * r5)))))
(k ((decide (r7 ≤ (w64 ((w64 (r5 * r5)) * r5))))))
(k false)))
((cond ((a0.toList == ((strOf [100, 101, 103, 114, 101, 101, 115])).toList))
(q_spec_MeasureOf ((strOf [100, 101, 103, 114, 101, 101, 50])) a1 a2 fun r11 =>
k ((decide (r11 ≤ r8))))
((cond ((a0.toList == ((strOf [118, 97, 114, 105, 97, 98, 108, 101, 115])).toList))
(q_spec_VariablesOf a1 a2 fun r12 =>
(cond ((decide (r7 ≤ (r12.length : Int))))
((cond (((r12.length : Int) == 0))
((gd ((decide (0 ≤ a1)))
(q_spec_MeasureOf ((strOf [105, 110, 102, 108, 117, 101, 110, 99, 101])) a1 a2 fun r13 =>
k ((decide (r13 ≤ (shlI .i64 r4 a1)))))))
((cond ((decide (r4 ≥ 1)))
((gd ((decide (0 ≤ a1)))
(q_spec_MeasureOf ((strOf [105, 110, 102, 108, 117, 101, 110, 99, 101])) a1 a2 fun r14 =>
k ((decide (r14 ≤ (shlI .i64 r4 a1)))))))
(k false)))))
(k false)))
(k false))))))))))))))
theorem t_spec_RelationHolds {β : Type} (N : Nat) (a0 : ByteArray) (a1 : Int) (a2 : Int) (k : Bool → Option β) : spec_RelationHolds N a0 a1 a2 k = BV_spec_RelationHolds N (spec_MeasureOf N) (spec_CertificateOf N) (spec_VariablesOf N) a0 a1 a2 k := by
  unfold spec_RelationHolds BV_spec_RelationHolds
  rfl
theorem ve53_0 {β : Type} (N : Nat) (q_spec_MeasureOf : (a0 : ByteArray) → (a1 : Int) → (a2 : Int) → (k : Int → Option β) → Option β) (q_spec_CertificateOf : (a0 : Int) → (a1 : Int) → (a2 : Int) → (k : Int → Option β) → Option β) (q_spec_VariablesOf : (a0 : Int) → (a1 : Int) → (k : List Int → Option β) → Option β)  (a0 : ByteArray) (a1 : Int) (a2 : Int) (K : TV → Option β) : evFn lay (VE53 N q_spec_MeasureOf q_spec_CertificateOf q_spec_VariablesOf) Try.f53 [.v (.one (.str a0)), .v (.agg [.int .i64 a1, .int .i64 a2])] K = BV_spec_RelationHolds N q_spec_MeasureOf q_spec_CertificateOf q_spec_VariablesOf a0 a1 a2 (fun z3 => K (.v (.one (.bool z3)))) := by kernel_rfl
theorem e53_0 {β : Type} (N : Nat)  (a0 : ByteArray) (a1 : Int) (a2 : Int) (K : TV → Option β) : evFn lay (E53 N) Try.f53 [.v (.one (.str a0)), .v (.agg [.int .i64 a1, .int .i64 a2])] K = spec_RelationHolds N a0 a1 a2 (fun z3 => K (.v (.one (.bool z3)))) := (ve53_0 N (spec_MeasureOf N) (spec_CertificateOf N) (spec_VariablesOf N) a0 a1 a2 K).trans (t_spec_RelationHolds N a0 a1 a2 (fun z3 => K (.v (.one (.bool z3))))).symm
theorem o53 {β : Type} (N : Nat) : SpecOK (β := β) Try.prog 53 (S53 N) := by
  refine spec_of lay_ok mixed (E := E53 N) (specs_loops (specs_cons (o48 N) (specs_cons (o97 N) (specs_cons (o94 N) specs_nil)))) muts_nil gs_nil Try.func53 (by kernel_rfl) 0 (by kernel_rfl) trivial fun args K r h => ?_
  unfold S53 VS53 at h
  split at h
  · exact (e53_0 N _ _ _ _).trans h
  · cases h
def VS106 {β : Type} (N : Nat) (q_impl_RelationHolds_1 : (a0 : ByteArray) → (c0 : Int) → (c1 : Int) → (k : Int → Option β) → Option β) : Rv.Spec β := fun args K => match args with
  | [.v (.one (.str a0)), .v (.one (.cref [.int .i64 c0, .int .i64 c1] 0))] => q_impl_RelationHolds_1 a0 c0 c1 (fun z1 => K (.v (.one (.int .i64 z1))))
  | _ => none
def S106 {β : Type} (N : Nat) : Rv.Spec β := VS106 N (impl_RelationHolds_1 N)
def VE106 {β : Type} (N : Nat) (q_impl_measure : (a0 : ByteArray) → (a1 : Int) → (a2 : Int) → (k : Int → Option β) → Option β) : Env β := ⟨[(103, VS103 N q_impl_measure)], [], [], []⟩
def E106 {β : Type} (N : Nat) : Env β := VE106 N (impl_measure N)
def BV_impl_RelationHolds_1 {β : Type} (N : Nat) (q_impl_measure : (a0 : ByteArray) → (a1 : Int) → (a2 : Int) → (k : Int → Option β) → Option β) (a0 : ByteArray) (c0 : Int) (c1 : Int) (k : Int → Option β) : Option β :=
q_impl_measure a0 c0 c1 fun r2 =>
k r2
theorem t_impl_RelationHolds_1 {β : Type} (N : Nat) (a0 : ByteArray) (c0 : Int) (c1 : Int) (k : Int → Option β) : impl_RelationHolds_1 N a0 c0 c1 k = BV_impl_RelationHolds_1 N (impl_measure N) a0 c0 c1 k := by
  unfold impl_RelationHolds_1 BV_impl_RelationHolds_1
  rfl
theorem ve106_0 {β : Type} (N : Nat) (q_impl_measure : (a0 : ByteArray) → (a1 : Int) → (a2 : Int) → (k : Int → Option β) → Option β)  (a0 : ByteArray) (c0 : Int) (c1 : Int) (K : TV → Option β) : evFn lay (VE106 N q_impl_measure) Try.f106 [.v (.one (.str a0)), .v (.one (.cref [.int .i64 c0, .int .i64 c1] 0))] K = BV_impl_RelationHolds_1 N q_impl_measure a0 c0 c1 (fun z1 => K (.v (.one (.int .i64 z1)))) := by kernel_rfl
theorem e106_0 {β : Type} (N : Nat)  (a0 : ByteArray) (c0 : Int) (c1 : Int) (K : TV → Option β) : evFn lay (E106 N) Try.f106 [.v (.one (.str a0)), .v (.one (.cref [.int .i64 c0, .int .i64 c1] 0))] K = impl_RelationHolds_1 N a0 c0 c1 (fun z1 => K (.v (.one (.int .i64 z1)))) := (ve106_0 N (impl_measure N) a0 c0 c1 K).trans (t_impl_RelationHolds_1 N a0 c0 c1 (fun z1 => K (.v (.one (.int .i64 z1))))).symm
theorem o106 {β : Type} (N : Nat) : SpecOK (β := β) Try.prog 106 (S106 N) := by
  refine spec_of lay_ok mixed (E := E106 N) (specs_loops (specs_cons (o103 N) specs_nil)) muts_nil gs_nil Try.func106 (by kernel_rfl) 0 (by kernel_rfl) trivial fun args K r h => ?_
  unfold S106 VS106 at h
  split at h
  · exact (e106_0 N _ _ _ _).trans h
  · cases h
def VS153 {β : Type} (N : Nat) (q_impl_Table_restrict : (a0 : Int) → (a1 : Int) → (a2 : Int) → (a3 : Int) → (k : Int → Int → Option β) → Option β) : Rv.Spec β := fun args K => match args with
  | [.v (.agg [.int .i64 a0, .int .i64 a1]), .v (.one (.int .i64 a2)), .v (.one (.int .i64 a3))] => q_impl_Table_restrict a0 a1 a2 a3 (fun z4 z5 => K (.v (.agg [.int .i64 z4, .int .i64 z5])))
  | _ => none
def S153 {β : Type} (N : Nat) : Rv.Spec β := VS153 N (impl_Table_restrict N)
def VE153 {β : Type} (N : Nat) (q_impl_makeTable : (a0 : Int) → (a1 : (Int → (Bool → Option β) → Option β)) → (k : Int → Int → Option β) → Option β) (q_impl_Table_anf_1 : (a0 : Int) → (c0 : Int) → (c1 : Int) → (k : Bool → Option β) → Option β) (q_impl_Table_restrict_1 : (a0 : Int) → (c0 : Int) → (c1 : Int) → (c2 : Int) → (c3 : Int) → (k : Bool → Option β) → Option β) : Env β := ⟨[(118, VS118 N q_impl_makeTable q_impl_Table_anf_1 q_impl_Table_restrict_1), (159, VS159 N q_impl_Table_restrict_1)], [], [], []⟩
def E153 {β : Type} (N : Nat) : Env β := VE153 N (impl_makeTable N) (impl_Table_anf_1 N) (impl_Table_restrict_1 N)
def BV_impl_Table_restrict {β : Type} (N : Nat) (q_impl_makeTable : (a0 : Int) → (a1 : (Int → (Bool → Option β) → Option β)) → (k : Int → Int → Option β) → Option β) (q_impl_Table_restrict_1 : (a0 : Int) → (c0 : Int) → (c1 : Int) → (c2 : Int) → (c3 : Int) → (k : Bool → Option β) → Option β) (a0 : Int) (a1 : Int) (a2 : Int) (a3 : Int) (k : Int → Int → Option β) : Option β :=
q_impl_makeTable ((w64 (a0 - 1))) (fun x0 k => q_impl_Table_restrict_1 x0 a0 a1 a2 a3 k) fun r6 r7 =>
k r6 r7
theorem t_impl_Table_restrict {β : Type} (N : Nat) (a0 : Int) (a1 : Int) (a2 : Int) (a3 : Int) (k : Int → Int → Option β) : impl_Table_restrict N a0 a1 a2 a3 k = BV_impl_Table_restrict N (impl_makeTable N) (impl_Table_restrict_1 N) a0 a1 a2 a3 k := by
  unfold impl_Table_restrict BV_impl_Table_restrict
  rfl
theorem ve153_0 {β : Type} (N : Nat) (q_impl_makeTable : (a0 : Int) → (a1 : (Int → (Bool → Option β) → Option β)) → (k : Int → Int → Option β) → Option β) (q_impl_Table_anf_1 : (a0 : Int) → (c0 : Int) → (c1 : Int) → (k : Bool → Option β) → Option β) (q_impl_Table_restrict_1 : (a0 : Int) → (c0 : Int) → (c1 : Int) → (c2 : Int) → (c3 : Int) → (k : Bool → Option β) → Option β)  (a0 : Int) (a1 : Int) (a2 : Int) (a3 : Int) (K : TV → Option β) : evFn lay (VE153 N q_impl_makeTable q_impl_Table_anf_1 q_impl_Table_restrict_1) Try.f153 [.v (.agg [.int .i64 a0, .int .i64 a1]), .v (.one (.int .i64 a2)), .v (.one (.int .i64 a3))] K = BV_impl_Table_restrict N q_impl_makeTable q_impl_Table_restrict_1 a0 a1 a2 a3 (fun z4 z5 => K (.v (.agg [.int .i64 z4, .int .i64 z5]))) := by kernel_rfl
theorem e153_0 {β : Type} (N : Nat)  (a0 : Int) (a1 : Int) (a2 : Int) (a3 : Int) (K : TV → Option β) : evFn lay (E153 N) Try.f153 [.v (.agg [.int .i64 a0, .int .i64 a1]), .v (.one (.int .i64 a2)), .v (.one (.int .i64 a3))] K = impl_Table_restrict N a0 a1 a2 a3 (fun z4 z5 => K (.v (.agg [.int .i64 z4, .int .i64 z5]))) := (ve153_0 N (impl_makeTable N) (impl_Table_anf_1 N) (impl_Table_restrict_1 N) a0 a1 a2 a3 K).trans (t_impl_Table_restrict N a0 a1 a2 a3 (fun z4 z5 => K (.v (.agg [.int .i64 z4, .int .i64 z5])))).symm
theorem o153 {β : Type} (N : Nat) : SpecOK (β := β) Try.prog 153 (S153 N) := by
  refine spec_of lay_ok mixed (E := E153 N) (specs_loops (specs_cons (o118 N) (specs_cons (o159 N) specs_nil))) muts_nil gs_nil Try.func153 (by kernel_rfl) 0 (by kernel_rfl) trivial fun args K r h => ?_
  unfold S153 VS153 at h
  split at h
  · exact (e153_0 N _ _ _ _ _).trans h
  · cases h
def VS137 {β : Type} (N : Nat) (q_impl_Table_depends : (a0 : Int) → (a1 : Int) → (a2 : Int) → (k : Bool → Option β) → Option β) : Rv.Spec β := fun args K => match args with
  | [.v (.agg [.int .i64 a0, .int .i64 a1]), .v (.one (.int .i64 a2))] => q_impl_Table_depends a0 a1 a2 (fun z3 => K (.v (.one (.bool z3))))
  | _ => none
def S137 {β : Type} (N : Nat) : Rv.Spec β := VS137 N (impl_Table_depends N)
def VE137 {β : Type} (N : Nat) (q_impl_Table_restrict : (a0 : Int) → (a1 : Int) → (a2 : Int) → (a3 : Int) → (k : Int → Int → Option β) → Option β) : Env β := ⟨[(153, VS153 N q_impl_Table_restrict)], [], [], []⟩
def E137 {β : Type} (N : Nat) : Env β := VE137 N (impl_Table_restrict N)
def BV_impl_Table_depends {β : Type} (N : Nat) (q_impl_Table_restrict : (a0 : Int) → (a1 : Int) → (a2 : Int) → (a3 : Int) → (k : Int → Int → Option β) → Option β) (a0 : Int) (a1 : Int) (a2 : Int) (k : Bool → Option β) : Option β :=
q_impl_Table_restrict a0 a1 a2 0 fun r4 r5 =>
q_impl_Table_restrict a0 a1 a2 1 fun r6 r7 =>
k ((!((r4 == r6) && (r5 == r7))))
theorem t_impl_Table_depends {β : Type} (N : Nat) (a0 : Int) (a1 : Int) (a2 : Int) (k : Bool → Option β) : impl_Table_depends N a0 a1 a2 k = BV_impl_Table_depends N (impl_Table_restrict N) a0 a1 a2 k := by
  unfold impl_Table_depends BV_impl_Table_depends
  rfl
theorem ve137_0 {β : Type} (N : Nat) (q_impl_Table_restrict : (a0 : Int) → (a1 : Int) → (a2 : Int) → (a3 : Int) → (k : Int → Int → Option β) → Option β)  (a0 : Int) (a1 : Int) (a2 : Int) (K : TV → Option β) : evFn lay (VE137 N q_impl_Table_restrict) Try.f137 [.v (.agg [.int .i64 a0, .int .i64 a1]), .v (.one (.int .i64 a2))] K = BV_impl_Table_depends N q_impl_Table_restrict a0 a1 a2 (fun z3 => K (.v (.one (.bool z3)))) := by kernel_rfl
theorem e137_0 {β : Type} (N : Nat)  (a0 : Int) (a1 : Int) (a2 : Int) (K : TV → Option β) : evFn lay (E137 N) Try.f137 [.v (.agg [.int .i64 a0, .int .i64 a1]), .v (.one (.int .i64 a2))] K = impl_Table_depends N a0 a1 a2 (fun z3 => K (.v (.one (.bool z3)))) := (ve137_0 N (impl_Table_restrict N) a0 a1 a2 K).trans (t_impl_Table_depends N a0 a1 a2 (fun z3 => K (.v (.one (.bool z3))))).symm
theorem o137 {β : Type} (N : Nat) : SpecOK (β := β) Try.prog 137 (S137 N) := by
  refine spec_of lay_ok mixed (E := E137 N) (specs_loops (specs_cons (o153 N) specs_nil)) muts_nil gs_nil Try.func137 (by kernel_rfl) 0 (by kernel_rfl) trivial fun args K r h => ?_
  unfold S137 VS137 at h
  split at h
  · exact (e137_0 N _ _ _ _).trans h
  · cases h
def VS108 {β : Type} (N : Nat) (q_impl_VariablesOf : (a0 : Int) → (a1 : Int) → (k : List Int → Option β) → Option β) : Rv.Spec β := fun args K => match args with
  | [.v (.agg [.int .i64 a0, .int .i64 a1])] => q_impl_VariablesOf a0 a1 (fun z2 => K (.v (.one (.sl 3 (.ints .i64 z2)))))
  | _ => none
def S108 {β : Type} (N : Nat) : Rv.Spec β := VS108 N (impl_VariablesOf N)
def h108_0_0  (v0 : Int) (v1 : Int) (v2 : Int) (v3 : Int) (v4 : List Int) : St := ⟨.v (.one .und) :: .v (.one (.ptr 0 0)) :: .v (.one .und) :: .v (.one (.row 1)) :: .v (.one .und) :: .v (.one .und) :: .v (.one .und) :: .v (.one .und) :: .v (.one .und) :: .v (.one (.int .i64 v0)) :: .v (.one (.int .i64 v1)) :: .v (.one .und) :: .v (.one .und) :: .v (.one .und) :: .v (.one .und) :: .v (.one .und) :: .v (.one .und) :: .v (.one .und) :: .v (.one .und) :: .v (.one .und) :: .v (.one .und) :: .v (.one .und) :: [], [.cells 25 [.int .i64 v2, .int .i64 v3], .row 3 (.ints .i64 v4)]⟩
def x108_0_0_k0  (y0 : List Int) : St := ⟨.v (.one .und) :: .v (.one .und) :: .v (.one .und) :: .v (.one (.row 0)) :: .v (.one .und) :: .v (.one .und) :: .v (.one .und) :: .v (.one .und) :: .v (.one .und) :: .v (.one .und) :: .v (.one .und) :: .v (.one .und) :: .v (.one .und) :: .v (.one .und) :: .v (.one .und) :: .v (.one .und) :: .v (.one .und) :: .v (.one .und) :: .v (.one .und) :: .v (.one .und) :: .v (.one .und) :: .v (.one .und) :: [], [.row 3 (.ints .i64 y0)]⟩
theorem fl108_0_0 (s : St) : refSt (h108_0_0 0 0 0 0 []) s = h108_0_0 (intS (oneA (vT (nx tund s.tmps 9)))) (intS (oneA (vT (nx tund s.tmps 10)))) (intS (nx .und (cellsB (nx .dead s.blks 0)) 0)) (intS (nx .und (cellsB (nx .dead s.blks 0)) 1)) (rInts (rowB_ (nx .dead s.blks 1))) := by kernel_rfl
def VLS108_0 {β : Type} (N : Nat) (q_impl_VariablesOf_l0 : Nat → Int → Int → Int → Int → List Int → (List Int → Option β) → Option β) : LSpec β := fun s K => cond (shpSt (h108_0_0 0 0 0 0 []) s) ((fun (v0 : Int) (v1 : Int) (v2 : Int) (v3 : Int) (v4 : List Int) => q_impl_VariablesOf_l0  N v0 v1 v2 v3 v4 (fun y0 => K (.exit 0) (x108_0_0_k0  y0))) (intS (oneA (vT (nx tund s.tmps 9)))) (intS (oneA (vT (nx tund s.tmps 10)))) (intS (nx .und (cellsB (nx .dead s.blks 0)) 0)) (intS (nx .und (cellsB (nx .dead s.blks 0)) 1)) (rInts (rowB_ (nx .dead s.blks 1)))) (none)
def LS108_0 {β : Type} (N : Nat) : LSpec β := VLS108_0 N (impl_VariablesOf_l0 N)
def VE108 {β : Type} (N : Nat) (q_impl_IsTable : (a0 : Int) → (a1 : Int) → (k : Bool → Option β) → Option β) (q_impl_Table_depends : (a0 : Int) → (a1 : Int) → (a2 : Int) → (k : Bool → Option β) → Option β) (q_impl_VariablesOf_l0 : Nat → Int → Int → Int → Int → List Int → (List Int → Option β) → Option β) : Env β := ⟨[(61, VS61 N q_impl_IsTable), (137, VS137 N q_impl_Table_depends)], [], [(0, VLS108_0 N q_impl_VariablesOf_l0)], []⟩
def E108 {β : Type} (N : Nat) : Env β := VE108 N (impl_IsTable N) (impl_Table_depends N) (impl_VariablesOf_l0 N)
def BV_impl_VariablesOf_l0b {β : Type} (N : Nat) (q_impl_Table_depends : (a0 : Int) → (a1 : Int) → (a2 : Int) → (k : Bool → Option β) → Option β)  (v0 : Int) (v1 : Int) (v2 : Int) (v3 : Int) (v4 : List Int) (rec_ : Int → Int → Int → Int → List Int → Option β) (k0 : List Int → Option β) : Option β :=
(cond ((decide (v1 < v0)))
(q_impl_Table_depends v2 v3 v1 fun r4 =>
(cond r4
((gd ((decide ((v4.length + ((([] : List Int) ++ [v1])).length) * 8 ≤ 140737488355328)))
(rec_ v0 ((w64 (v1 + 1))) v2 v3 ((v4 ++ (([] : List Int) ++ [v1]))))))
(rec_ v0 ((w64 (v1 + 1))) v2 v3 v4)))
(k0 v4))
theorem t_impl_VariablesOf_l0b {β : Type} (N : Nat)  (v0 : Int) (v1 : Int) (v2 : Int) (v3 : Int) (v4 : List Int) (rec_ : Int → Int → Int → Int → List Int → Option β) (k0 : List Int → Option β) : impl_VariablesOf_l0b N v0 v1 v2 v3 v4 rec_ k0 = BV_impl_VariablesOf_l0b N (impl_Table_depends N) v0 v1 v2 v3 v4 rec_ k0 := by
  unfold impl_VariablesOf_l0b BV_impl_VariablesOf_l0b
  rfl
theorem vst108_0_0 {β : Type} (N : Nat) (q_impl_IsTable : (a0 : Int) → (a1 : Int) → (k : Bool → Option β) → Option β) (q_impl_Table_depends : (a0 : Int) → (a1 : Int) → (a2 : Int) → (k : Bool → Option β) → Option β) (q_impl_VariablesOf_l0 : Nat → Int → Int → Int → Int → List Int → (List Int → Option β) → Option β)  (v0 : Int) (v1 : Int) (v2 : Int) (v3 : Int) (v4 : List Int) (rec_ : St → Option β) (K : Exit → St → Option β) :
    ev lay (VE108 N q_impl_IsTable q_impl_Table_depends q_impl_VariablesOf_l0) (retMask Try.f108) (lp Try.f108 0).body (lp Try.f108 0).ex ((lp Try.f108 0).lv (retMask Try.f108)) (h108_0_0  v0 v1 v2 v3 v4) (nextR (fun s' => rec_ (s'.tidy ((lp Try.f108 0).lv (retMask Try.f108)))) K) = BV_impl_VariablesOf_l0b N q_impl_Table_depends  v0 v1 v2 v3 v4 (fun v0 v1 v2 v3 v4 => rec_ (h108_0_0  v0 v1 v2 v3 v4)) (fun y0 => K (.exit 0) (x108_0_0_k0  y0)) := by kernel_rfl
theorem st108_0_0 {β : Type} (N : Nat)  (v0 : Int) (v1 : Int) (v2 : Int) (v3 : Int) (v4 : List Int) (rec_ : St → Option β) (K : Exit → St → Option β) :
    ev lay (E108 N) (retMask Try.f108) (lp Try.f108 0).body (lp Try.f108 0).ex ((lp Try.f108 0).lv (retMask Try.f108)) (h108_0_0  v0 v1 v2 v3 v4) (nextR (fun s' => rec_ (s'.tidy ((lp Try.f108 0).lv (retMask Try.f108)))) K) = impl_VariablesOf_l0b N  v0 v1 v2 v3 v4 (fun v0 v1 v2 v3 v4 => rec_ (h108_0_0  v0 v1 v2 v3 v4)) (fun y0 => K (.exit 0) (x108_0_0_k0  y0)) := (vst108_0_0 N (impl_IsTable N) (impl_Table_depends N) (impl_VariablesOf_l0 N) v0 v1 v2 v3 v4 rec_ K).trans (t_impl_VariablesOf_l0b N  v0 v1 v2 v3 v4 (fun v0 v1 v2 v3 v4 => rec_ (h108_0_0  v0 v1 v2 v3 v4)) (fun y0 => K (.exit 0) (x108_0_0_k0  y0))).symm
theorem ro108_0_0 {β : Type} (N : Nat)  (K : Exit → St → Option β) : ∀ (F : Nat) (v0 : Int) (v1 : Int) (v2 : Int) (v3 : Int) (v4 : List Int), (lp Try.f108 0).rounds lay (E108 N) (retMask Try.f108) F (h108_0_0  v0 v1 v2 v3 v4) K = impl_VariablesOf_l0 N  F v0 v1 v2 v3 v4 (fun y0 => K (.exit 0) (x108_0_0_k0  y0)) := by
  intro F
  induction F with
  | zero => intros; rfl
  | succ F ih =>
    intros
    rw [rounds_next]
    refine (st108_0_0 N  _ _ _ _ _ (fun s => (lp Try.f108 0).rounds lay (E108 N) (retMask Try.f108) F s K) K).trans ?_
    simp only [ih]
    rfl
theorem lk108_0 {β : Type} (N : Nat) : lookL (E108 (β := β) N).loops (lp Try.f108 0).id = LS108_0 N := by kernel_rfl
theorem rk108_0 {β : Type} (N : Nat) : RoundsOK lay (E108 (β := β) N) (retMask Try.f108) (lp Try.f108 0) := by
  intro s K r h
  rw [lk108_0] at h
  unfold LS108_0 VLS108_0 at h
  cases hb : shpSt (h108_0_0 0 0 0 0 []) s with
  | true =>
    rw [hb, cond_true] at h
    exact ⟨N, by rw [← shpSt_ref hb, fl108_0_0 s]; exact (ro108_0_0 N  K N (intS (oneA (vT (nx tund s.tmps 9)))) (intS (oneA (vT (nx tund s.tmps 10)))) (intS (nx .und (cellsB (nx .dead s.blks 0)) 0)) (intS (nx .und (cellsB (nx .dead s.blks 0)) 1)) (rInts (rowB_ (nx .dead s.blks 1)))).trans h⟩
  | false =>
  rw [hb, cond_false] at h
  clear hb
  cases h
def BV_impl_VariablesOf {β : Type} (N : Nat) (q_impl_IsTable : (a0 : Int) → (a1 : Int) → (k : Bool → Option β) → Option β) (q_impl_VariablesOf_l0 : Nat → Int → Int → Int → Int → List Int → (List Int → Option β) → Option β) (a0 : Int) (a1 : Int) (k : List Int → Option β) : Option β :=
q_impl_IsTable a0 a1 fun r3 =>
(cond (!r3)
(k (([] : List Int)))
(q_impl_VariablesOf_l0  N a0 0 a0 a1 (([] : List Int)) (fun e5_0 =>
k e5_0)))
theorem t_impl_VariablesOf {β : Type} (N : Nat) (a0 : Int) (a1 : Int) (k : List Int → Option β) : impl_VariablesOf N a0 a1 k = BV_impl_VariablesOf N (impl_IsTable N) (impl_VariablesOf_l0 N) a0 a1 k := by
  unfold impl_VariablesOf BV_impl_VariablesOf
  rfl
theorem ve108_0 {β : Type} (N : Nat) (q_impl_IsTable : (a0 : Int) → (a1 : Int) → (k : Bool → Option β) → Option β) (q_impl_Table_depends : (a0 : Int) → (a1 : Int) → (a2 : Int) → (k : Bool → Option β) → Option β) (q_impl_VariablesOf_l0 : Nat → Int → Int → Int → Int → List Int → (List Int → Option β) → Option β)  (a0 : Int) (a1 : Int) (K : TV → Option β) : evFn lay (VE108 N q_impl_IsTable q_impl_Table_depends q_impl_VariablesOf_l0) Try.f108 [.v (.agg [.int .i64 a0, .int .i64 a1])] K = BV_impl_VariablesOf N q_impl_IsTable q_impl_VariablesOf_l0 a0 a1 (fun z2 => K (.v (.one (.sl 3 (.ints .i64 z2))))) := by kernel_rfl
theorem e108_0 {β : Type} (N : Nat)  (a0 : Int) (a1 : Int) (K : TV → Option β) : evFn lay (E108 N) Try.f108 [.v (.agg [.int .i64 a0, .int .i64 a1])] K = impl_VariablesOf N a0 a1 (fun z2 => K (.v (.one (.sl 3 (.ints .i64 z2))))) := (ve108_0 N (impl_IsTable N) (impl_Table_depends N) (impl_VariablesOf_l0 N) a0 a1 K).trans (t_impl_VariablesOf N a0 a1 (fun z2 => K (.v (.one (.sl 3 (.ints .i64 z2)))))).symm
theorem o108 {β : Type} (N : Nat) : SpecOK (β := β) Try.prog 108 (S108 N) := by
  refine spec_of lay_ok mixed (E := E108 N) (specs_loops (specs_cons (o61 N) (specs_cons (o137 N) specs_nil))) muts_nil gs_nil Try.func108 (by kernel_rfl) 1 (by kernel_rfl) ⟨trivial, rk108_0 N⟩ fun args K r h => ?_
  unfold S108 VS108 at h
  split at h
  · exact (e108_0 N _ _ _).trans h
  · cases h
def VS54 {β : Type} (N : Nat) (q_impl_RelationHolds : (a0 : ByteArray) → (a1 : Int) → (a2 : Int) → (k : Bool → Option β) → Option β) : Rv.Spec β := fun args K => match args with
  | [.v (.one (.str a0)), .v (.agg [.int .i64 a1, .int .i64 a2])] => q_impl_RelationHolds a0 a1 a2 (fun z3 => K (.v (.one (.bool z3))))
  | _ => none
def S54 {β : Type} (N : Nat) : Rv.Spec β := VS54 N (impl_RelationHolds N)
def VE54 {β : Type} (N : Nat) (q_impl_isSmall : (a0 : Int) → (a1 : Int) → (a2 : Int) → (k : Bool → Option β) → Option β) (q_impl_RelationHolds_1 : (a0 : ByteArray) → (c0 : Int) → (c1 : Int) → (k : Int → Option β) → Option β) (q_impl_CertificateOf : (a0 : Int) → (a1 : Int) → (a2 : Int) → (k : Int → Option β) → Option β) (q_impl_VariablesOf : (a0 : Int) → (a1 : Int) → (k : List Int → Option β) → Option β) (q_impl_Table_size : (a0 : Int) → (a1 : Int) → (k : Int → Option β) → Option β) : Env β := ⟨[(81, VS81 N q_impl_isSmall), (106, VS106 N q_impl_RelationHolds_1), (107, VS107 N q_impl_CertificateOf), (108, VS108 N q_impl_VariablesOf), (82, VS82 N q_impl_Table_size)], [], [], []⟩
def E54 {β : Type} (N : Nat) : Env β := VE54 N (impl_isSmall N) (impl_RelationHolds_1 N) (impl_CertificateOf N) (impl_VariablesOf N) (impl_Table_size N)
def BV_impl_RelationHolds {β : Type} (N : Nat) (q_impl_isSmall : (a0 : Int) → (a1 : Int) → (a2 : Int) → (k : Bool → Option β) → Option β) (q_impl_RelationHolds_1 : (a0 : ByteArray) → (c0 : Int) → (c1 : Int) → (k : Int → Option β) → Option β) (q_impl_CertificateOf : (a0 : Int) → (a1 : Int) → (a2 : Int) → (k : Int → Option β) → Option β) (q_impl_VariablesOf : (a0 : Int) → (a1 : Int) → (k : List Int → Option β) → Option β) (q_impl_Table_size : (a0 : Int) → (a1 : Int) → (k : Int → Option β) → Option β) (a0 : ByteArray) (a1 : Int) (a2 : Int) (k : Bool → Option β) : Option β :=
q_impl_isSmall a1 a2 4 fun r4 =>
(cond (!r4)
(k false)
(q_impl_RelationHolds_1 ((strOf [115, 101, 110, 115, 105, 116, 105, 118, 105, 116, 121])) a1 a2 fun r5 =>
q_impl_RelationHolds_1 ((strOf [98, 108, 111, 99, 107, 115])) a1 a2 fun r6 =>
q_impl_RelationHolds_1 ((strOf [99, 101, 114, 116, 105, 102, 105, 99, 97, 116, 101])) a1 a2 fun r7 =>
q_impl_RelationHolds_1 ((strOf [100, 101, 112, 116, 104])) a1 a2 fun r8 =>
(cond ((a0.toList == ((strOf [111, 114, 100, 101, 114])).toList))
((cond ((decide (r5 ≤ r6)))
((cond ((decide (r6 ≤ r7)))
((cond ((decide (r7 ≤ r8)))
(q_impl_RelationHolds_1 ((strOf [100, 101, 103, 114, 101, 101])) a1 a2 fun r9 =>
k ((decide (r9 ≤ r8))))
(k false)))
(k false)))
(k false)))
((cond ((a0.toList == ((strOf [112, 114, 111, 100, 117, 99, 116])).toList))
(q_impl_CertificateOf a1 a2 0 fun r10 =>
q_impl_CertificateOf a1 a2 1 fun r11 =>
k ((decide (r8 ≤ (w64 (r10 * r11))))))
((cond ((a0.toList == ((strOf [104, 117, 97, 110, 103])).toList))
(q_impl_RelationHolds_1 ((strOf [100, 101, 103, 114, 101, 101])) a1 a2 fun r12 =>
k ((decide (r12 ≤ (w64 (r5 * r5))))))
((cond ((a0.toList == ((strOf [98, 108, 111, 99, 107, 115])).toList))
((cond ((decide (r7 ≤ (w64 (r5 * r6)))))
(k ((decide (r8 ≤ (w64 ((w64 (r6 * r6)) * r6))))))
(k false)))
((cond ((a0.toList == ((strOf [100, 101, 103, 114, 101, 101, 115])).toList))
(q_impl_RelationHolds_1 ((strOf [100, 101, 103, 114, 101, 101, 50])) a1 a2 fun r13 =>
q_impl_RelationHolds_1 ((strOf [100, 101, 103, 114, 101, 101])) a1 a2 fun r14 =>
k ((decide (r13 ≤ r14))))
((cond ((a0.toList == ((strOf [118, 97, 114, 105, 97, 98, 108, 101, 115])).toList))
(q_impl_VariablesOf a1 a2 fun r15 =>
(cond ((decide (r8 ≤ (r15.length : Int))))
((cond (((r15.length : Int) == 0))
(q_impl_RelationHolds_1 ((strOf [105, 110, 102, 108, 117, 101, 110, 99, 101])) a1 a2 fun r16 =>
q_impl_Table_size a1 a2 fun r17 =>
k ((decide (r16 ≤ (w64 (r5 * r17))))))
((cond ((decide (r5 > 0)))
(q_impl_RelationHolds_1 ((strOf [105, 110, 102, 108, 117, 101, 110, 99, 101])) a1 a2 fun r18 =>
q_impl_Table_size a1 a2 fun r19 =>
k ((decide (r18 ≤ (w64 (r5 * r19))))))
(k false)))))
(k false)))
(k false))))))))))))))
theorem t_impl_RelationHolds {β : Type} (N : Nat) (a0 : ByteArray) (a1 : Int) (a2 : Int) (k : Bool → Option β) : impl_RelationHolds N a0 a1 a2 k = BV_impl_RelationHolds N (impl_isSmall N) (impl_RelationHolds_1 N) (impl_CertificateOf N) (impl_VariablesOf N) (impl_Table_size N) a0 a1 a2 k := by
  unfold impl_RelationHolds BV_impl_RelationHolds
  rfl
theorem ve54_0 {β : Type} (N : Nat) (q_impl_isSmall : (a0 : Int) → (a1 : Int) → (a2 : Int) → (k : Bool → Option β) → Option β) (q_impl_RelationHolds_1 : (a0 : ByteArray) → (c0 : Int) → (c1 : Int) → (k : Int → Option β) → Option β) (q_impl_CertificateOf : (a0 : Int) → (a1 : Int) → (a2 : Int) → (k : Int → Option β) → Option β) (q_impl_VariablesOf : (a0 : Int) → (a1 : Int) → (k : List Int → Option β) → Option β) (q_impl_Table_size : (a0 : Int) → (a1 : Int) → (k : Int → Option β) → Option β)  (a0 : ByteArray) (a1 : Int) (a2 : Int) (K : TV → Option β) : evFn lay (VE54 N q_impl_isSmall q_impl_RelationHolds_1 q_impl_CertificateOf q_impl_VariablesOf q_impl_Table_size) Try.f54 [.v (.one (.str a0)), .v (.agg [.int .i64 a1, .int .i64 a2])] K = BV_impl_RelationHolds N q_impl_isSmall q_impl_RelationHolds_1 q_impl_CertificateOf q_impl_VariablesOf q_impl_Table_size a0 a1 a2 (fun z3 => K (.v (.one (.bool z3)))) := by kernel_rfl
theorem e54_0 {β : Type} (N : Nat)  (a0 : ByteArray) (a1 : Int) (a2 : Int) (K : TV → Option β) : evFn lay (E54 N) Try.f54 [.v (.one (.str a0)), .v (.agg [.int .i64 a1, .int .i64 a2])] K = impl_RelationHolds N a0 a1 a2 (fun z3 => K (.v (.one (.bool z3)))) := (ve54_0 N (impl_isSmall N) (impl_RelationHolds_1 N) (impl_CertificateOf N) (impl_VariablesOf N) (impl_Table_size N) a0 a1 a2 K).trans (t_impl_RelationHolds N a0 a1 a2 (fun z3 => K (.v (.one (.bool z3))))).symm
theorem o54 {β : Type} (N : Nat) : SpecOK (β := β) Try.prog 54 (S54 N) := by
  refine spec_of lay_ok mixed (E := E54 N) (specs_loops (specs_cons (o81 N) (specs_cons (o106 N) (specs_cons (o107 N) (specs_cons (o108 N) (specs_cons (o82 N) specs_nil)))))) muts_nil gs_nil Try.func54 (by kernel_rfl) 0 (by kernel_rfl) trivial fun args K r h => ?_
  unfold S54 VS54 at h
  split at h
  · exact (e54_0 N _ _ _ _).trans h
  · cases h
def VS7 {β : Type} (N : Nat) (q_laws_FnExactRelationHolds : (a0 : ByteArray) → (a1 : Int) → (a2 : Int) → (k : Bool → Option β) → Option β) : Rv.Spec β := fun args K => match args with
  | [.v (.one (.str a0)), .v (.agg [.int .i64 a1, .int .i64 a2])] => q_laws_FnExactRelationHolds a0 a1 a2 (fun z3 => K (.v (.one (.bool z3))))
  | _ => none
def S7 {β : Type} (N : Nat) : Rv.Spec β := VS7 N (laws_FnExactRelationHolds N)
def VE7 {β : Type} (N : Nat) (q_laws_toTable : (a0 : Int) → (a1 : Int) → (k : Int → Int → Option β) → Option β) (q_spec_RelationHolds : (a0 : ByteArray) → (a1 : Int) → (a2 : Int) → (k : Bool → Option β) → Option β) (q_impl_RelationHolds : (a0 : ByteArray) → (a1 : Int) → (a2 : Int) → (k : Bool → Option β) → Option β) : Env β := ⟨[(49, VS49 N q_laws_toTable), (53, VS53 N q_spec_RelationHolds), (54, VS54 N q_impl_RelationHolds)], [], [], []⟩
def E7 {β : Type} (N : Nat) : Env β := VE7 N (laws_toTable N) (spec_RelationHolds N) (impl_RelationHolds N)
def BV_laws_FnExactRelationHolds {β : Type} (N : Nat) (q_laws_toTable : (a0 : Int) → (a1 : Int) → (k : Int → Int → Option β) → Option β) (q_spec_RelationHolds : (a0 : ByteArray) → (a1 : Int) → (a2 : Int) → (k : Bool → Option β) → Option β) (q_impl_RelationHolds : (a0 : ByteArray) → (a1 : Int) → (a2 : Int) → (k : Bool → Option β) → Option β) (a0 : ByteArray) (a1 : Int) (a2 : Int) (k : Bool → Option β) : Option β :=
(cond ((decide ((a0.size : Int) > 1048576)))
(k true)
(q_laws_toTable a1 a2 fun r4 r5 =>
q_spec_RelationHolds a0 r4 r5 fun r6 =>
q_laws_toTable a1 a2 fun r7 r8 =>
q_impl_RelationHolds a0 r7 r8 fun r9 =>
(cond ((!(r9 == r6)))
(k false)
(k true))))
theorem t_laws_FnExactRelationHolds {β : Type} (N : Nat) (a0 : ByteArray) (a1 : Int) (a2 : Int) (k : Bool → Option β) : laws_FnExactRelationHolds N a0 a1 a2 k = BV_laws_FnExactRelationHolds N (laws_toTable N) (spec_RelationHolds N) (impl_RelationHolds N) a0 a1 a2 k := by
  unfold laws_FnExactRelationHolds BV_laws_FnExactRelationHolds
  rfl
theorem ve7_0 {β : Type} (N : Nat) (q_laws_toTable : (a0 : Int) → (a1 : Int) → (k : Int → Int → Option β) → Option β) (q_spec_RelationHolds : (a0 : ByteArray) → (a1 : Int) → (a2 : Int) → (k : Bool → Option β) → Option β) (q_impl_RelationHolds : (a0 : ByteArray) → (a1 : Int) → (a2 : Int) → (k : Bool → Option β) → Option β)  (a0 : ByteArray) (a1 : Int) (a2 : Int) (K : TV → Option β) : evFn lay (VE7 N q_laws_toTable q_spec_RelationHolds q_impl_RelationHolds) Try.f7 [.v (.one (.str a0)), .v (.agg [.int .i64 a1, .int .i64 a2])] K = BV_laws_FnExactRelationHolds N q_laws_toTable q_spec_RelationHolds q_impl_RelationHolds a0 a1 a2 (fun z3 => K (.v (.one (.bool z3)))) := by kernel_rfl
theorem e7_0 {β : Type} (N : Nat)  (a0 : ByteArray) (a1 : Int) (a2 : Int) (K : TV → Option β) : evFn lay (E7 N) Try.f7 [.v (.one (.str a0)), .v (.agg [.int .i64 a1, .int .i64 a2])] K = laws_FnExactRelationHolds N a0 a1 a2 (fun z3 => K (.v (.one (.bool z3)))) := (ve7_0 N (laws_toTable N) (spec_RelationHolds N) (impl_RelationHolds N) a0 a1 a2 K).trans (t_laws_FnExactRelationHolds N a0 a1 a2 (fun z3 => K (.v (.one (.bool z3))))).symm
theorem o7 {β : Type} (N : Nat) : SpecOK (β := β) Try.prog 7 (S7 N) := by
  refine spec_of lay_ok mixed (E := E7 N) (specs_loops (specs_cons (o49 N) (specs_cons (o53 N) (specs_cons (o54 N) specs_nil)))) muts_nil gs_nil Try.func7 (by kernel_rfl) 0 (by kernel_rfl) trivial fun args K r h => ?_
  unfold S7 VS7 at h
  split at h
  · exact (e7_0 N _ _ _ _).trans h
  · cases h
end Go.Proofs.Ytdkjnadhgdneaaa
