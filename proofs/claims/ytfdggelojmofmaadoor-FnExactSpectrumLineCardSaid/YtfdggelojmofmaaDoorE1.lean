/- The functions that the claims reach answer as their texts do. -/
import Derived.Test.YtfdggelojmofmaaDoorE0
namespace Go.Proofs.YtfdggelojmofmaaDoor
open Go.Rv
set_option maxRecDepth 100000
set_option maxHeartbeats 2000000
set_option linter.unusedVariables false
def VS57 {β : Type} (N : Nat) (q_spec_CorrelationImmunity : (a0 : Int) → (a1 : Int) → (k : Int → Option β) → Option β) : Rv.Spec β := fun args K => match args with
  | [.v (.agg [.int .i64 a0, .int .i64 a1])] => q_spec_CorrelationImmunity a0 a1 (fun z2 => K (.v (.one (.int .i64 z2))))
  | _ => none
def S57 {β : Type} (N : Nat) : Rv.Spec β := VS57 N (spec_CorrelationImmunity N)
def h57_0_0  (v0 : Int) (v1 : Int) (v2 : List Int) : St := ⟨.v (.one .und) :: .v (.one .und) :: .v (.one .und) :: .v (.one (.row 0)) :: .v (.one (.int .i64 v0)) :: .v (.one (.int .i64 v1)) :: .v (.one .und) :: .v (.one .und) :: .v (.one .und) :: .v (.one .und) :: .v (.one .und) :: .v (.one .und) :: .v (.one .und) :: .v (.one .und) :: .v (.one .und) :: .v (.one .und) :: .v (.one .und) :: .v (.one .und) :: .v (.one .und) :: .v (.one .und) :: .v (.one .und) :: .v (.one .und) :: .v (.one .und) :: .v (.one .und) :: .v (.one .und) :: .v (.one .und) :: .v (.one .und) :: .v (.one .und) :: .v (.one .und) :: .v (.one .und) :: [], [.row 3 (.ints .i64 v2)]⟩
def x57_0_0_k0  (y0 : Int) : St := ⟨.v (.one .und) :: .v (.one .und) :: .v (.one .und) :: .v (.one .und) :: .v (.one (.int .i64 y0)) :: .v (.one .und) :: .v (.one .und) :: .v (.one .und) :: .v (.one .und) :: .v (.one .und) :: .v (.one .und) :: .v (.one .und) :: .v (.one .und) :: .v (.one .und) :: .v (.one .und) :: .v (.one .und) :: .v (.one .und) :: .v (.one .und) :: .v (.one .und) :: .v (.one .und) :: .v (.one .und) :: .v (.one .und) :: .v (.one .und) :: .v (.one .und) :: .v (.one .und) :: .v (.one .und) :: .v (.one .und) :: .v (.one .und) :: .v (.one .und) :: .v (.one .und) :: [], []⟩
theorem fl57_0_0 (s : St) : refSt (h57_0_0 0 0 []) s = h57_0_0 (intS (oneA (vT (nx tund s.tmps 4)))) (intS (oneA (vT (nx tund s.tmps 5)))) (rInts (rowB_ (nx .dead s.blks 0))) := by kernel_rfl
def VLS57_0 {β : Type} (N : Nat) (q_spec_CorrelationImmunity_l0 : Nat → Int → Int → List Int → (Int → Option β) → Option β) : LSpec β := fun s K => cond (shpSt (h57_0_0 0 0 []) s) ((fun (v0 : Int) (v1 : Int) (v2 : List Int) => q_spec_CorrelationImmunity_l0  N v0 v1 v2 (fun y0 => K (.exit 0) (x57_0_0_k0  y0))) (intS (oneA (vT (nx tund s.tmps 4)))) (intS (oneA (vT (nx tund s.tmps 5)))) (rInts (rowB_ (nx .dead s.blks 0)))) (none)
def LS57_0 {β : Type} (N : Nat) : LSpec β := VLS57_0 N (spec_CorrelationImmunity_l0 N)
def VE57 {β : Type} (N : Nat) (q_spec_SpectrumOf : (a0 : Int) → (a1 : Int) → (k : List Int → Option β) → Option β) (q_spec_l2Count : (a0 : Int) → (k : Int → Option β) → Option β) (q_spec_CorrelationImmunity_l0 : Nat → Int → Int → List Int → (Int → Option β) → Option β) : Env β := ⟨[(53, VS53 N q_spec_SpectrumOf), (124, VS124 N q_spec_l2Count)], [], [(0, VLS57_0 N q_spec_CorrelationImmunity_l0)], [], ⟨[], [], []⟩⟩
def E57 {β : Type} (N : Nat) : Env β := VE57 N (spec_SpectrumOf N) (spec_l2Count N) (spec_CorrelationImmunity_l0 N)
def BV_spec_CorrelationImmunity_l0b {β : Type} (N : Nat) (q_spec_l2Count : (a0 : Int) → (k : Int → Option β) → Option β)  (v0 : Int) (v1 : Int) (v2 : List Int) (rec_ : Int → Int → List Int → Option β) (k0 : Int → Option β) : Option β :=
(cond ((decide (v1 < (v2.length : Int))))
((gd ((decide (0 ≤ v1)))
((gd ((decide (v1 < (v2.length : Int))))
((cond (((rd 0 v2 v1) != 0))
(q_spec_l2Count v1 fun r4 =>
rec_ ((mnI v0 (w64 (r4 - 1)))) ((w64 (v1 + 1))) v2)
(rec_ v0 ((w64 (v1 + 1))) v2)))))))
(k0 v0))
theorem t_spec_CorrelationImmunity_l0b {β : Type} (N : Nat)  (v0 : Int) (v1 : Int) (v2 : List Int) (rec_ : Int → Int → List Int → Option β) (k0 : Int → Option β) : spec_CorrelationImmunity_l0b N v0 v1 v2 rec_ k0 = BV_spec_CorrelationImmunity_l0b N (spec_l2Count N) v0 v1 v2 rec_ k0 := by
  unfold spec_CorrelationImmunity_l0b BV_spec_CorrelationImmunity_l0b
  rfl
theorem vst57_0_0 {β : Type} (N : Nat) (q_spec_SpectrumOf : (a0 : Int) → (a1 : Int) → (k : List Int → Option β) → Option β) (q_spec_l2Count : (a0 : Int) → (k : Int → Option β) → Option β) (q_spec_CorrelationImmunity_l0 : Nat → Int → Int → List Int → (Int → Option β) → Option β)  (v0 : Int) (v1 : Int) (v2 : List Int) (rec_ : St → Option β) (K : Exit → St → Option β) :
    ev lay (VE57 N q_spec_SpectrumOf q_spec_l2Count q_spec_CorrelationImmunity_l0) (retMask Tryd.f57) (lp Tryd.f57 0).body (lp Tryd.f57 0).ex ((lp Tryd.f57 0).lv (retMask Tryd.f57)) (h57_0_0  v0 v1 v2) (nextR (fun s' => rec_ (s'.tidy ((lp Tryd.f57 0).lv (retMask Tryd.f57)))) K) = BV_spec_CorrelationImmunity_l0b N q_spec_l2Count  v0 v1 v2 (fun v0 v1 v2 => rec_ (h57_0_0  v0 v1 v2)) (fun y0 => K (.exit 0) (x57_0_0_k0  y0)) := by kernel_rfl
theorem st57_0_0 {β : Type} (N : Nat)  (v0 : Int) (v1 : Int) (v2 : List Int) (rec_ : St → Option β) (K : Exit → St → Option β) :
    ev lay (E57 N) (retMask Tryd.f57) (lp Tryd.f57 0).body (lp Tryd.f57 0).ex ((lp Tryd.f57 0).lv (retMask Tryd.f57)) (h57_0_0  v0 v1 v2) (nextR (fun s' => rec_ (s'.tidy ((lp Tryd.f57 0).lv (retMask Tryd.f57)))) K) = spec_CorrelationImmunity_l0b N  v0 v1 v2 (fun v0 v1 v2 => rec_ (h57_0_0  v0 v1 v2)) (fun y0 => K (.exit 0) (x57_0_0_k0  y0)) := (vst57_0_0 N (spec_SpectrumOf N) (spec_l2Count N) (spec_CorrelationImmunity_l0 N) v0 v1 v2 rec_ K).trans (t_spec_CorrelationImmunity_l0b N  v0 v1 v2 (fun v0 v1 v2 => rec_ (h57_0_0  v0 v1 v2)) (fun y0 => K (.exit 0) (x57_0_0_k0  y0))).symm
theorem ro57_0_0 {β : Type} (N : Nat)  (K : Exit → St → Option β) : ∀ (F : Nat) (v0 : Int) (v1 : Int) (v2 : List Int), (lp Tryd.f57 0).rounds lay (E57 N) (retMask Tryd.f57) F (h57_0_0  v0 v1 v2) K = spec_CorrelationImmunity_l0 N  F v0 v1 v2 (fun y0 => K (.exit 0) (x57_0_0_k0  y0)) := by
  intro F
  induction F with
  | zero => intros; rfl
  | succ F ih =>
    intros
    rw [rounds_next]
    refine (st57_0_0 N  _ _ _ (fun s => (lp Tryd.f57 0).rounds lay (E57 N) (retMask Tryd.f57) F s K) K).trans ?_
    simp only [ih]
    rfl
theorem lk57_0 {β : Type} (N : Nat) : lookL (E57 (β := β) N).loops (lp Tryd.f57 0).id = LS57_0 N := by kernel_rfl
theorem rk57_0 {β : Type} (N : Nat) : RoundsOK lay (E57 (β := β) N) (retMask Tryd.f57) (lp Tryd.f57 0) := by
  intro s K r h
  rw [lk57_0] at h
  unfold LS57_0 VLS57_0 at h
  cases hb : shpSt (h57_0_0 0 0 []) s with
  | true =>
    rw [hb, cond_true] at h
    exact ⟨N, by rw [← shpSt_ref hb, fl57_0_0 s]; exact (ro57_0_0 N  K N (intS (oneA (vT (nx tund s.tmps 4)))) (intS (oneA (vT (nx tund s.tmps 5)))) (rInts (rowB_ (nx .dead s.blks 0)))).trans h⟩
  | false =>
  rw [hb, cond_false] at h
  clear hb
  cases h
def BV_spec_CorrelationImmunity {β : Type} (N : Nat) (q_spec_SpectrumOf : (a0 : Int) → (a1 : Int) → (k : List Int → Option β) → Option β) (q_spec_CorrelationImmunity_l0 : Nat → Int → Int → List Int → (Int → Option β) → Option β) (a0 : Int) (a1 : Int) (k : Int → Option β) : Option β :=
q_spec_SpectrumOf a0 a1 fun r3 =>
(cond (((r3.length : Int) == 0))
(k (-1))
(q_spec_CorrelationImmunity_l0  N a0 1 r3 (fun e5_0 =>
k e5_0)))
theorem t_spec_CorrelationImmunity {β : Type} (N : Nat) (a0 : Int) (a1 : Int) (k : Int → Option β) : spec_CorrelationImmunity N a0 a1 k = BV_spec_CorrelationImmunity N (spec_SpectrumOf N) (spec_CorrelationImmunity_l0 N) a0 a1 k := by
  unfold spec_CorrelationImmunity BV_spec_CorrelationImmunity
  rfl
theorem ve57_0 {β : Type} (N : Nat) (q_spec_SpectrumOf : (a0 : Int) → (a1 : Int) → (k : List Int → Option β) → Option β) (q_spec_l2Count : (a0 : Int) → (k : Int → Option β) → Option β) (q_spec_CorrelationImmunity_l0 : Nat → Int → Int → List Int → (Int → Option β) → Option β)  (a0 : Int) (a1 : Int) (K : TV → Option β) : evFn lay (VE57 N q_spec_SpectrumOf q_spec_l2Count q_spec_CorrelationImmunity_l0) Tryd.f57 [.v (.agg [.int .i64 a0, .int .i64 a1])] K = BV_spec_CorrelationImmunity N q_spec_SpectrumOf q_spec_CorrelationImmunity_l0 a0 a1 (fun z2 => K (.v (.one (.int .i64 z2)))) := by kernel_rfl
theorem e57_0 {β : Type} (N : Nat)  (a0 : Int) (a1 : Int) (K : TV → Option β) : evFn lay (E57 N) Tryd.f57 [.v (.agg [.int .i64 a0, .int .i64 a1])] K = spec_CorrelationImmunity N a0 a1 (fun z2 => K (.v (.one (.int .i64 z2)))) := (ve57_0 N (spec_SpectrumOf N) (spec_l2Count N) (spec_CorrelationImmunity_l0 N) a0 a1 K).trans (t_spec_CorrelationImmunity N a0 a1 (fun z2 => K (.v (.one (.int .i64 z2))))).symm
theorem o57 {β : Type} (N : Nat) : SpecOK (β := β) inv Tryd.prog 57 (S57 N) := by
  refine spec_of lay_ok mixed (E := E57 N) (specs_loops (specs_cons (o53 N) (specs_cons (o124 N) specs_nil))) muts_nil gs_nil Tryd.func57 (by kernel_rfl) 1 (by kernel_rfl) ⟨trivial, rk57_0 N⟩ fun args K r h => ?_
  unfold S57 VS57 at h
  split at h
  · exact (e57_0 N _ _ _).trans h
  · cases h
def VS58 {β : Type} (N : Nat) (q_spec_TestRejects : (a0 : Int) → (a1 : Int) → (k : Int → Option β) → Option β) : Rv.Spec β := fun args K => match args with
  | [.v (.agg [.int .i64 a0, .int .i64 a1])] => q_spec_TestRejects a0 a1 (fun z2 => K (.v (.one (.int .i64 z2))))
  | _ => none
def S58 {β : Type} (N : Nat) : Rv.Spec β := VS58 N (spec_TestRejects N)
def h58_0_0  (v0 : Int) (v1 : Int) (v2 : Int) (v3 : Int) : St := ⟨.v (.one .und) :: .v (.one (.ptr 0 0)) :: .v (.one .und) :: .v (.one (.int .i64 v0)) :: .v (.one (.int .i64 v1)) :: .v (.one .und) :: .v (.one .und) :: .v (.one .und) :: .v (.one .und) :: .v (.one .und) :: .v (.one .und) :: .v (.one .und) :: .v (.one .und) :: .v (.one .und) :: .v (.one .und) :: .v (.one .und) :: .v (.one .und) :: .v (.one .und) :: .v (.one .und) :: .v (.one .und) :: .v (.one .und) :: .v (.one .und) :: .v (.one .und) :: .v (.one .und) :: .v (.one .und) :: .v (.one .und) :: .v (.one .und) :: .v (.one .und) :: .v (.one .und) :: .v (.one .und) :: .v (.one .und) :: .v (.one .und) :: .v (.one .und) :: .v (.one .und) :: .v (.one .und) :: .v (.one .und) :: .v (.one .und) :: .v (.one .und) :: .v (.one .und) :: .v (.one .und) :: .v (.one .und) :: .v (.one .und) :: .v (.one .und) :: [], [.cells 24 [.int .i64 v2, .int .i64 v3]]⟩
def x58_0_0_k0  (y0 : Int) : St := ⟨.v (.one .und) :: .v (.one .und) :: .v (.one .und) :: .v (.one (.int .i64 y0)) :: .v (.one .und) :: .v (.one .und) :: .v (.one .und) :: .v (.one .und) :: .v (.one .und) :: .v (.one .und) :: .v (.one .und) :: .v (.one .und) :: .v (.one .und) :: .v (.one .und) :: .v (.one .und) :: .v (.one .und) :: .v (.one .und) :: .v (.one .und) :: .v (.one .und) :: .v (.one .und) :: .v (.one .und) :: .v (.one .und) :: .v (.one .und) :: .v (.one .und) :: .v (.one .und) :: .v (.one .und) :: .v (.one .und) :: .v (.one .und) :: .v (.one .und) :: .v (.one .und) :: .v (.one .und) :: .v (.one .und) :: .v (.one .und) :: .v (.one .und) :: .v (.one .und) :: .v (.one .und) :: .v (.one .und) :: .v (.one .und) :: .v (.one .und) :: .v (.one .und) :: .v (.one .und) :: .v (.one .und) :: .v (.one .und) :: [], []⟩
def h58_1_0  (v0 : Int) (v1 : Int) (v2 : Int) (v3 : Int) (v4 : Int) : St := ⟨.v (.one .und) :: .v (.one (.ptr 0 0)) :: .v (.one .und) :: .v (.one (.int .i64 v0)) :: .v (.one (.int .i64 v1)) :: .v (.one (.int .i64 v2)) :: .v (.one .und) :: .v (.one .und) :: .v (.one .und) :: .v (.one .und) :: .v (.one .und) :: .v (.one .und) :: .v (.one .und) :: .v (.one .und) :: .v (.one .und) :: .v (.one .und) :: .v (.one .und) :: .v (.one .und) :: .v (.one .und) :: .v (.one .und) :: .v (.one .und) :: .v (.one .und) :: .v (.one .und) :: .v (.one .und) :: .v (.one .und) :: .v (.one .und) :: .v (.one .und) :: .v (.one .und) :: .v (.one .und) :: .v (.one .und) :: .v (.one .und) :: .v (.one .und) :: .v (.one .und) :: .v (.one .und) :: .v (.one .und) :: .v (.one .und) :: .v (.one .und) :: .v (.one .und) :: .v (.one .und) :: .v (.one .und) :: .v (.one .und) :: .v (.one .und) :: .v (.one .und) :: [], [.cells 24 [.int .i64 v3, .int .i64 v4]]⟩
def x58_1_0_k0  (y0 : Int) (y1 : Int) (y2 : Int) (y3 : Int) : St := ⟨.v (.one .und) :: .v (.one (.ptr 0 0)) :: .v (.one .und) :: .v (.one (.int .i64 y0)) :: .v (.one (.int .i64 y1)) :: .v (.one .und) :: .v (.one .und) :: .v (.one .und) :: .v (.one .und) :: .v (.one .und) :: .v (.one .und) :: .v (.one .und) :: .v (.one .und) :: .v (.one .und) :: .v (.one .und) :: .v (.one .und) :: .v (.one .und) :: .v (.one .und) :: .v (.one .und) :: .v (.one .und) :: .v (.one .und) :: .v (.one .und) :: .v (.one .und) :: .v (.one .und) :: .v (.one .und) :: .v (.one .und) :: .v (.one .und) :: .v (.one .und) :: .v (.one .und) :: .v (.one .und) :: .v (.one .und) :: .v (.one .und) :: .v (.one .und) :: .v (.one .und) :: .v (.one .und) :: .v (.one .und) :: .v (.one .und) :: .v (.one .und) :: .v (.one .und) :: .v (.one .und) :: .v (.one .und) :: .v (.one .und) :: .v (.one .und) :: [], [.cells 24 [.int .i64 y2, .int .i64 y3]]⟩
theorem fl58_0_0 (s : St) : refSt (h58_0_0 0 0 0 0) s = h58_0_0 (intS (oneA (vT (nx tund s.tmps 3)))) (intS (oneA (vT (nx tund s.tmps 4)))) (intS (nx .und (cellsB (nx .dead s.blks 0)) 0)) (intS (nx .und (cellsB (nx .dead s.blks 0)) 1)) := by kernel_rfl
def VLS58_0 {β : Type} (N : Nat) (q_spec_TestRejects_l0 : Nat → Int → Int → Int → Int → (Int → Option β) → Option β) : LSpec β := fun s K => cond (shpSt (h58_0_0 0 0 0 0) s) ((fun (v0 : Int) (v1 : Int) (v2 : Int) (v3 : Int) => q_spec_TestRejects_l0  N v0 v1 v2 v3 (fun y0 => K (.exit 0) (x58_0_0_k0  y0))) (intS (oneA (vT (nx tund s.tmps 3)))) (intS (oneA (vT (nx tund s.tmps 4)))) (intS (nx .und (cellsB (nx .dead s.blks 0)) 0)) (intS (nx .und (cellsB (nx .dead s.blks 0)) 1))) (none)
def LS58_0 {β : Type} (N : Nat) : LSpec β := VLS58_0 N (spec_TestRejects_l0 N)
theorem fl58_1_0 (s : St) : refSt (h58_1_0 0 0 0 0 0) s = h58_1_0 (intS (oneA (vT (nx tund s.tmps 3)))) (intS (oneA (vT (nx tund s.tmps 4)))) (intS (oneA (vT (nx tund s.tmps 5)))) (intS (nx .und (cellsB (nx .dead s.blks 0)) 0)) (intS (nx .und (cellsB (nx .dead s.blks 0)) 1)) := by kernel_rfl
def VLS58_2 {β : Type} (N : Nat) (q_spec_TestRejects_l2 : Nat → Int → Int → Int → Int → Int → (Int → Int → Int → Int → Option β) → Option β) : LSpec β := fun s K => cond (shpSt (h58_1_0 0 0 0 0 0) s) ((fun (v0 : Int) (v1 : Int) (v2 : Int) (v3 : Int) (v4 : Int) => q_spec_TestRejects_l2  N v0 v1 v2 v3 v4 (fun y0 y1 y2 y3 => K (.exit 2) (x58_1_0_k0  y0 y1 y2 y3))) (intS (oneA (vT (nx tund s.tmps 3)))) (intS (oneA (vT (nx tund s.tmps 4)))) (intS (oneA (vT (nx tund s.tmps 5)))) (intS (nx .und (cellsB (nx .dead s.blks 0)) 0)) (intS (nx .und (cellsB (nx .dead s.blks 0)) 1))) (none)
def LS58_2 {β : Type} (N : Nat) : LSpec β := VLS58_2 N (spec_TestRejects_l2 N)
def VE58 {β : Type} (N : Nat) (q_spec_IsTable : (a0 : Int) → (a1 : Int) → (k : Bool → Option β) → Option β) (q_spec_TestRejects_l0 : Nat → Int → Int → Int → Int → (Int → Option β) → Option β) (q_spec_TestRejects_l2 : Nat → Int → Int → Int → Int → Int → (Int → Int → Int → Int → Option β) → Option β) : Env β := ⟨[(51, VS51 N q_spec_IsTable)], [], [(0, VLS58_0 N q_spec_TestRejects_l0), (2, VLS58_2 N q_spec_TestRejects_l2)], [], ⟨[], [], []⟩⟩
def E58 {β : Type} (N : Nat) : Env β := VE58 N (spec_IsTable N) (spec_TestRejects_l0 N) (spec_TestRejects_l2 N)
def BV_spec_TestRejects_l0b {β : Type} (N : Nat) (q_spec_TestRejects_l2 : Nat → Int → Int → Int → Int → Int → (Int → Int → Int → Int → Option β) → Option β)  (v0 : Int) (v1 : Int) (v2 : Int) (v3 : Int) (rec_ : Int → Int → Int → Int → Option β) (k0 : Int → Option β) : Option β :=
(gd ((decide (0 ≤ v2)))
((cond ((decide (v1 < (shlI .i64 1 v2))))
(q_spec_TestRejects_l2  N v0 v1 0 v2 v3 (fun e4_0 e4_1 e4_2 e4_3 =>
rec_ e4_0 ((w64 (e4_1 + 1))) e4_2 e4_3))
(k0 v0))))
theorem t_spec_TestRejects_l0b {β : Type} (N : Nat)  (v0 : Int) (v1 : Int) (v2 : Int) (v3 : Int) (rec_ : Int → Int → Int → Int → Option β) (k0 : Int → Option β) : spec_TestRejects_l0b N v0 v1 v2 v3 rec_ k0 = BV_spec_TestRejects_l0b N (spec_TestRejects_l2 N) v0 v1 v2 v3 rec_ k0 := by
  unfold spec_TestRejects_l0b BV_spec_TestRejects_l0b
  rfl
theorem vst58_0_0 {β : Type} (N : Nat) (q_spec_IsTable : (a0 : Int) → (a1 : Int) → (k : Bool → Option β) → Option β) (q_spec_TestRejects_l0 : Nat → Int → Int → Int → Int → (Int → Option β) → Option β) (q_spec_TestRejects_l2 : Nat → Int → Int → Int → Int → Int → (Int → Int → Int → Int → Option β) → Option β)  (v0 : Int) (v1 : Int) (v2 : Int) (v3 : Int) (rec_ : St → Option β) (K : Exit → St → Option β) :
    ev lay (VE58 N q_spec_IsTable q_spec_TestRejects_l0 q_spec_TestRejects_l2) (retMask Tryd.f58) (lp Tryd.f58 0).body (lp Tryd.f58 0).ex ((lp Tryd.f58 0).lv (retMask Tryd.f58)) (h58_0_0  v0 v1 v2 v3) (nextR (fun s' => rec_ (s'.tidy ((lp Tryd.f58 0).lv (retMask Tryd.f58)))) K) = BV_spec_TestRejects_l0b N q_spec_TestRejects_l2  v0 v1 v2 v3 (fun v0 v1 v2 v3 => rec_ (h58_0_0  v0 v1 v2 v3)) (fun y0 => K (.exit 0) (x58_0_0_k0  y0)) := by kernel_rfl
theorem st58_0_0 {β : Type} (N : Nat)  (v0 : Int) (v1 : Int) (v2 : Int) (v3 : Int) (rec_ : St → Option β) (K : Exit → St → Option β) :
    ev lay (E58 N) (retMask Tryd.f58) (lp Tryd.f58 0).body (lp Tryd.f58 0).ex ((lp Tryd.f58 0).lv (retMask Tryd.f58)) (h58_0_0  v0 v1 v2 v3) (nextR (fun s' => rec_ (s'.tidy ((lp Tryd.f58 0).lv (retMask Tryd.f58)))) K) = spec_TestRejects_l0b N  v0 v1 v2 v3 (fun v0 v1 v2 v3 => rec_ (h58_0_0  v0 v1 v2 v3)) (fun y0 => K (.exit 0) (x58_0_0_k0  y0)) := (vst58_0_0 N (spec_IsTable N) (spec_TestRejects_l0 N) (spec_TestRejects_l2 N) v0 v1 v2 v3 rec_ K).trans (t_spec_TestRejects_l0b N  v0 v1 v2 v3 (fun v0 v1 v2 v3 => rec_ (h58_0_0  v0 v1 v2 v3)) (fun y0 => K (.exit 0) (x58_0_0_k0  y0))).symm
theorem ro58_0_0 {β : Type} (N : Nat)  (K : Exit → St → Option β) : ∀ (F : Nat) (v0 : Int) (v1 : Int) (v2 : Int) (v3 : Int), (lp Tryd.f58 0).rounds lay (E58 N) (retMask Tryd.f58) F (h58_0_0  v0 v1 v2 v3) K = spec_TestRejects_l0 N  F v0 v1 v2 v3 (fun y0 => K (.exit 0) (x58_0_0_k0  y0)) := by
  intro F
  induction F with
  | zero => intros; rfl
  | succ F ih =>
    intros
    rw [rounds_next]
    refine (st58_0_0 N  _ _ _ _ (fun s => (lp Tryd.f58 0).rounds lay (E58 N) (retMask Tryd.f58) F s K) K).trans ?_
    simp only [ih]
    rfl
theorem lk58_0 {β : Type} (N : Nat) : lookL (E58 (β := β) N).loops (lp Tryd.f58 0).id = LS58_0 N := by kernel_rfl
theorem rk58_0 {β : Type} (N : Nat) : RoundsOK lay (E58 (β := β) N) (retMask Tryd.f58) (lp Tryd.f58 0) := by
  intro s K r h
  rw [lk58_0] at h
  unfold LS58_0 VLS58_0 at h
  cases hb : shpSt (h58_0_0 0 0 0 0) s with
  | true =>
    rw [hb, cond_true] at h
    exact ⟨N, by rw [← shpSt_ref hb, fl58_0_0 s]; exact (ro58_0_0 N  K N (intS (oneA (vT (nx tund s.tmps 3)))) (intS (oneA (vT (nx tund s.tmps 4)))) (intS (nx .und (cellsB (nx .dead s.blks 0)) 0)) (intS (nx .und (cellsB (nx .dead s.blks 0)) 1))).trans h⟩
  | false =>
  rw [hb, cond_false] at h
  clear hb
  cases h
def BV_spec_TestRejects_l2b {β : Type} (N : Nat)  (v0 : Int) (v1 : Int) (v2 : Int) (v3 : Int) (v4 : Int) (rec_ : Int → Int → Int → Int → Int → Option β) (k0 : Int → Int → Int → Int → Option β) : Option β :=
(gd ((decide (0 ≤ v3)))
((cond ((decide (v2 < (shlI .i64 1 v3))))
((gd ((decide (0 ≤ v1)))
((gd ((decide (0 ≤ v2)))
((gd ((decide (0 ≤ (bits .xor .i64 v1 v2))))
(rec_ ((w64 (v0 + (bits .and .i64 (bits .xor .i64 (bits .xor .i64 (shrI .i64 v4 v1) (shrI .i64 v4 v2)) (shrI .i64 v4 (bits .xor .i64 v1 v2))) 1)))) v1 ((w64 (v2 + 1))) v3 v4)))))))
(k0 v0 v1 v3 v4))))
theorem t_spec_TestRejects_l2b {β : Type} (N : Nat)  (v0 : Int) (v1 : Int) (v2 : Int) (v3 : Int) (v4 : Int) (rec_ : Int → Int → Int → Int → Int → Option β) (k0 : Int → Int → Int → Int → Option β) : spec_TestRejects_l2b N v0 v1 v2 v3 v4 rec_ k0 = BV_spec_TestRejects_l2b N v0 v1 v2 v3 v4 rec_ k0 := by
  unfold spec_TestRejects_l2b BV_spec_TestRejects_l2b
  rfl
theorem vst58_1_0 {β : Type} (N : Nat) (q_spec_IsTable : (a0 : Int) → (a1 : Int) → (k : Bool → Option β) → Option β) (q_spec_TestRejects_l0 : Nat → Int → Int → Int → Int → (Int → Option β) → Option β) (q_spec_TestRejects_l2 : Nat → Int → Int → Int → Int → Int → (Int → Int → Int → Int → Option β) → Option β)  (v0 : Int) (v1 : Int) (v2 : Int) (v3 : Int) (v4 : Int) (rec_ : St → Option β) (K : Exit → St → Option β) :
    ev lay (VE58 N q_spec_IsTable q_spec_TestRejects_l0 q_spec_TestRejects_l2) (retMask Tryd.f58) (lp Tryd.f58 1).body (lp Tryd.f58 1).ex ((lp Tryd.f58 1).lv (retMask Tryd.f58)) (h58_1_0  v0 v1 v2 v3 v4) (nextR (fun s' => rec_ (s'.tidy ((lp Tryd.f58 1).lv (retMask Tryd.f58)))) K) = BV_spec_TestRejects_l2b N  v0 v1 v2 v3 v4 (fun v0 v1 v2 v3 v4 => rec_ (h58_1_0  v0 v1 v2 v3 v4)) (fun y0 y1 y2 y3 => K (.exit 2) (x58_1_0_k0  y0 y1 y2 y3)) := by kernel_rfl
theorem st58_1_0 {β : Type} (N : Nat)  (v0 : Int) (v1 : Int) (v2 : Int) (v3 : Int) (v4 : Int) (rec_ : St → Option β) (K : Exit → St → Option β) :
    ev lay (E58 N) (retMask Tryd.f58) (lp Tryd.f58 1).body (lp Tryd.f58 1).ex ((lp Tryd.f58 1).lv (retMask Tryd.f58)) (h58_1_0  v0 v1 v2 v3 v4) (nextR (fun s' => rec_ (s'.tidy ((lp Tryd.f58 1).lv (retMask Tryd.f58)))) K) = spec_TestRejects_l2b N  v0 v1 v2 v3 v4 (fun v0 v1 v2 v3 v4 => rec_ (h58_1_0  v0 v1 v2 v3 v4)) (fun y0 y1 y2 y3 => K (.exit 2) (x58_1_0_k0  y0 y1 y2 y3)) := (vst58_1_0 N (spec_IsTable N) (spec_TestRejects_l0 N) (spec_TestRejects_l2 N) v0 v1 v2 v3 v4 rec_ K).trans (t_spec_TestRejects_l2b N  v0 v1 v2 v3 v4 (fun v0 v1 v2 v3 v4 => rec_ (h58_1_0  v0 v1 v2 v3 v4)) (fun y0 y1 y2 y3 => K (.exit 2) (x58_1_0_k0  y0 y1 y2 y3))).symm
theorem ro58_1_0 {β : Type} (N : Nat)  (K : Exit → St → Option β) : ∀ (F : Nat) (v0 : Int) (v1 : Int) (v2 : Int) (v3 : Int) (v4 : Int), (lp Tryd.f58 1).rounds lay (E58 N) (retMask Tryd.f58) F (h58_1_0  v0 v1 v2 v3 v4) K = spec_TestRejects_l2 N  F v0 v1 v2 v3 v4 (fun y0 y1 y2 y3 => K (.exit 2) (x58_1_0_k0  y0 y1 y2 y3)) := by
  intro F
  induction F with
  | zero => intros; rfl
  | succ F ih =>
    intros
    rw [rounds_next]
    refine (st58_1_0 N  _ _ _ _ _ (fun s => (lp Tryd.f58 1).rounds lay (E58 N) (retMask Tryd.f58) F s K) K).trans ?_
    simp only [ih]
    rfl
theorem lk58_2 {β : Type} (N : Nat) : lookL (E58 (β := β) N).loops (lp Tryd.f58 1).id = LS58_2 N := by kernel_rfl
theorem rk58_2 {β : Type} (N : Nat) : RoundsOK lay (E58 (β := β) N) (retMask Tryd.f58) (lp Tryd.f58 1) := by
  intro s K r h
  rw [lk58_2] at h
  unfold LS58_2 VLS58_2 at h
  cases hb : shpSt (h58_1_0 0 0 0 0 0) s with
  | true =>
    rw [hb, cond_true] at h
    exact ⟨N, by rw [← shpSt_ref hb, fl58_1_0 s]; exact (ro58_1_0 N  K N (intS (oneA (vT (nx tund s.tmps 3)))) (intS (oneA (vT (nx tund s.tmps 4)))) (intS (oneA (vT (nx tund s.tmps 5)))) (intS (nx .und (cellsB (nx .dead s.blks 0)) 0)) (intS (nx .und (cellsB (nx .dead s.blks 0)) 1))).trans h⟩
  | false =>
  rw [hb, cond_false] at h
  clear hb
  cases h
def BV_spec_TestRejects {β : Type} (N : Nat) (q_spec_IsTable : (a0 : Int) → (a1 : Int) → (k : Bool → Option β) → Option β) (q_spec_TestRejects_l0 : Nat → Int → Int → Int → Int → (Int → Option β) → Option β) (a0 : Int) (a1 : Int) (k : Int → Option β) : Option β :=
q_spec_IsTable a0 a1 fun r3 =>
(cond (!r3)
(k (-1))
(q_spec_TestRejects_l0  N 0 0 a0 a1 (fun e5_0 =>
k e5_0)))
theorem t_spec_TestRejects {β : Type} (N : Nat) (a0 : Int) (a1 : Int) (k : Int → Option β) : spec_TestRejects N a0 a1 k = BV_spec_TestRejects N (spec_IsTable N) (spec_TestRejects_l0 N) a0 a1 k := by
  unfold spec_TestRejects BV_spec_TestRejects
  rfl
theorem ve58_0 {β : Type} (N : Nat) (q_spec_IsTable : (a0 : Int) → (a1 : Int) → (k : Bool → Option β) → Option β) (q_spec_TestRejects_l0 : Nat → Int → Int → Int → Int → (Int → Option β) → Option β) (q_spec_TestRejects_l2 : Nat → Int → Int → Int → Int → Int → (Int → Int → Int → Int → Option β) → Option β)  (a0 : Int) (a1 : Int) (K : TV → Option β) : evFn lay (VE58 N q_spec_IsTable q_spec_TestRejects_l0 q_spec_TestRejects_l2) Tryd.f58 [.v (.agg [.int .i64 a0, .int .i64 a1])] K = BV_spec_TestRejects N q_spec_IsTable q_spec_TestRejects_l0 a0 a1 (fun z2 => K (.v (.one (.int .i64 z2)))) := by kernel_rfl
theorem e58_0 {β : Type} (N : Nat)  (a0 : Int) (a1 : Int) (K : TV → Option β) : evFn lay (E58 N) Tryd.f58 [.v (.agg [.int .i64 a0, .int .i64 a1])] K = spec_TestRejects N a0 a1 (fun z2 => K (.v (.one (.int .i64 z2)))) := (ve58_0 N (spec_IsTable N) (spec_TestRejects_l0 N) (spec_TestRejects_l2 N) a0 a1 K).trans (t_spec_TestRejects N a0 a1 (fun z2 => K (.v (.one (.int .i64 z2))))).symm
theorem o58 {β : Type} (N : Nat) : SpecOK (β := β) inv Tryd.prog 58 (S58 N) := by
  refine spec_of lay_ok mixed (E := E58 N) (specs_loops (specs_cons (o51 N) specs_nil)) muts_nil gs_nil Tryd.func58 (by kernel_rfl) 2 (by kernel_rfl) ⟨⟨trivial, rk58_0 N⟩, rk58_2 N⟩ fun args K r h => ?_
  unfold S58 VS58 at h
  split at h
  · exact (e58_0 N _ _ _).trans h
  · cases h
def VS23 {β : Type} (N : Nat) (q_spec_SpectrumLine : (a0 : Int) → (a1 : Int) → (k : ByteArray → Option β) → Option β) : Rv.Spec β := fun args K => match args with
  | [.v (.agg [.int .i64 a0, .int .i64 a1])] => q_spec_SpectrumLine a0 a1 (fun z2 => K (.v (.one (.str z2))))
  | _ => none
def S23 {β : Type} (N : Nat) : Rv.Spec β := VS23 N (spec_SpectrumLine N)
def VE23 {β : Type} (N : Nat) (q_spec_IsTable : (a0 : Int) → (a1 : Int) → (k : Bool → Option β) → Option β) (q_spec_SpectrumOf : (a0 : Int) → (a1 : Int) → (k : List Int → Option β) → Option β) (q_spec_l34Numbers : (a0 : List Int) → (k : ByteArray → Option β) → Option β) (q_spec_EnergyByLevel : (a0 : Int) → (a1 : Int) → (k : List Int → Option β) → Option β) (q_spec_Nonlinearity : (a0 : Int) → (a1 : Int) → (k : Int → Option β) → Option β) (q_spec_FormatInt : (a0 : Int) → (k : ByteArray → Option β) → Option β) (q_spec_CorrelationImmunity : (a0 : Int) → (a1 : Int) → (k : Int → Option β) → Option β) (q_spec_TestRejects : (a0 : Int) → (a1 : Int) → (k : Int → Option β) → Option β) : Env β := ⟨[(51, VS51 N q_spec_IsTable), (53, VS53 N q_spec_SpectrumOf), (52, VS52 N q_spec_l34Numbers), (54, VS54 N q_spec_EnergyByLevel), (56, VS56 N q_spec_Nonlinearity), (55, VS55 N q_spec_FormatInt), (57, VS57 N q_spec_CorrelationImmunity), (58, VS58 N q_spec_TestRejects)], [], [], [], ⟨[], [], []⟩⟩
def E23 {β : Type} (N : Nat) : Env β := VE23 N (spec_IsTable N) (spec_SpectrumOf N) (spec_l34Numbers N) (spec_EnergyByLevel N) (spec_Nonlinearity N) (spec_FormatInt N) (spec_CorrelationImmunity N) (spec_TestRejects N)
def BV_spec_SpectrumLine {β : Type} (N : Nat) (q_spec_IsTable : (a0 : Int) → (a1 : Int) → (k : Bool → Option β) → Option β) (q_spec_SpectrumOf : (a0 : Int) → (a1 : Int) → (k : List Int → Option β) → Option β) (q_spec_l34Numbers : (a0 : List Int) → (k : ByteArray → Option β) → Option β) (q_spec_EnergyByLevel : (a0 : Int) → (a1 : Int) → (k : List Int → Option β) → Option β) (q_spec_Nonlinearity : (a0 : Int) → (a1 : Int) → (k : Int → Option β) → Option β) (q_spec_FormatInt : (a0 : Int) → (k : ByteArray → Option β) → Option β) (q_spec_CorrelationImmunity : (a0 : Int) → (a1 : Int) → (k : Int → Option β) → Option β) (q_spec_TestRejects : (a0 : Int) → (a1 : Int) → (k : Int → Option β) → Option β) (a0 : Int) (a1 : Int) (k : ByteArray → Option β) : Option β :=
q_spec_IsTable a0 a1 fun r3 =>
(cond (!r3)
(k ByteArray.empty)
(q_spec_SpectrumOf a0 a1 fun r4 =>
q_spec_l34Numbers r4 fun r5 =>
(gd ((decide (((strOf [115, 112, 101, 99, 116, 114, 117, 109, 32])).size + r5.size ≤ 9223372036854775807)))
((gd ((decide ((((strOf [115, 112, 101, 99, 116, 114, 117, 109, 32]) ++ r5)).size + ((strOf [32, 108, 101, 118, 101, 108, 115, 32])).size ≤ 9223372036854775807)))
(q_spec_EnergyByLevel a0 a1 fun r6 =>
q_spec_l34Numbers r6 fun r7 =>
(gd ((decide (((((strOf [115, 112, 101, 99, 116, 114, 117, 109, 32]) ++ r5) ++ (strOf [32, 108, 101, 118, 101, 108, 115, 32]))).size + r7.size ≤ 9223372036854775807)))
((gd ((decide ((((((strOf [115, 112, 101, 99, 116, 114, 117, 109, 32]) ++ r5) ++ (strOf [32, 108, 101, 118, 101, 108, 115, 32])) ++ r7)).size + ((strOf [32, 110, 111, 110, 108, 105, 110, 101, 97, 114, 105, 116, 121, 32])).size ≤ 9223372036854775807)))
(q_spec_Nonlinearity a0 a1 fun r8 =>
q_spec_FormatInt r8 fun r9 =>
(gd ((decide (((((((strOf [115, 112, 101, 99, 116, 114, 117, 109, 32]) ++ r5) ++ (strOf [32, 108, 101, 118, 101, 108, 115, 32])) ++ r7) ++ (strOf [32, 110, 111, 110, 108, 105, 110, 101, 97, 114, 105, 116, 121, 32]))).size + r9.size ≤ 9223372036854775807)))
((gd ((decide ((((((((strOf [115, 112, 101, 99, 116, 114, 117, 109, 32]) ++ r5) ++ (strOf [32, 108, 101, 118, 101, 108, 115, 32])) ++ r7) ++ (strOf [32, 110, 111, 110, 108, 105, 110, 101, 97, 114, 105, 116, 121, 32])) ++ r9)).size + ((strOf [32, 105, 109, 109, 117, 110, 105, 116, 121, 32])).size ≤ 9223372036854775807)))
(q_spec_CorrelationImmunity a0 a1 fun r10 =>
q_spec_FormatInt r10 fun r11 =>
(gd ((decide (((((((((strOf [115, 112, 101, 99, 116, 114, 117, 109, 32]) ++ r5) ++ (strOf [32, 108, 101, 118, 101, 108, 115, 32])) ++ r7) ++ (strOf [32, 110, 111, 110, 108, 105, 110, 101, 97, 114, 105, 116, 121, 32])) ++ r9) ++ (strOf [32, 105, 109, 109, 117, 110, 105, 116, 121, 32]))).size + r11.size ≤ 9223372036854775807)))
((gd ((decide ((((((((((strOf [115, 112, 101, 99, 116, 114, 117, 109, 32]) ++ r5) ++ (strOf [32, 108, 101, 118, 101, 108, 115, 32])) ++ r7) ++ (strOf [32, 110, 111, 110, 108, 105, 110, 101, 97, 114, 105, 116, 121, 32])) ++ r9) ++ (strOf [32, 105, 109, 109, 117, 110, 105, 116, 121, 32])) ++ r11)).size + ((strOf [32, 114, 101, 106, 101, 99, 116, 115, 32])).size ≤ 9223372036854775807)))
(q_spec_TestRejects a0 a1 fun r12 =>
q_spec_FormatInt r12 fun r13 =>
(gd ((decide (((((((((((strOf [115, 112, 101, 99, 116, 114, 117, 109, 32]) ++ r5) ++ (strOf [32, 108, 101, 118, 101, 108, 115, 32])) ++ r7) ++ (strOf [32, 110, 111, 110, 108, 105, 110, 101, 97, 114, 105, 116, 121, 32])) ++ r9) ++ (strOf [32, 105, 109, 109, 117, 110, 105, 116, 121, 32])) ++ r11) ++ (strOf [32, 114, 101, 106, 101, 99, 116, 115, 32]))).size + r13.size ≤ 9223372036854775807)))
(k (((((((((((strOf [115, 112, 101, 99, 116, 114, 117, 109, 32]) ++ r5) ++ (strOf [32, 108, 101, 118, 101, 108, 115, 32])) ++ r7) ++ (strOf [32, 110, 111, 110, 108, 105, 110, 101, 97, 114, 105, 116, 121, 32])) ++ r9) ++ (strOf [32, 105, 109, 109, 117, 110, 105, 116, 121, 32])) ++ r11) ++ (strOf [32, 114, 101, 106, 101, 99, 116, 115, 32])) ++ r13))))))))))))))))))))))
theorem t_spec_SpectrumLine {β : Type} (N : Nat) (a0 : Int) (a1 : Int) (k : ByteArray → Option β) : spec_SpectrumLine N a0 a1 k = BV_spec_SpectrumLine N (spec_IsTable N) (spec_SpectrumOf N) (spec_l34Numbers N) (spec_EnergyByLevel N) (spec_Nonlinearity N) (spec_FormatInt N) (spec_CorrelationImmunity N) (spec_TestRejects N) a0 a1 k := by
  unfold spec_SpectrumLine BV_spec_SpectrumLine
  rfl
theorem ve23_0 {β : Type} (N : Nat) (q_spec_IsTable : (a0 : Int) → (a1 : Int) → (k : Bool → Option β) → Option β) (q_spec_SpectrumOf : (a0 : Int) → (a1 : Int) → (k : List Int → Option β) → Option β) (q_spec_l34Numbers : (a0 : List Int) → (k : ByteArray → Option β) → Option β) (q_spec_EnergyByLevel : (a0 : Int) → (a1 : Int) → (k : List Int → Option β) → Option β) (q_spec_Nonlinearity : (a0 : Int) → (a1 : Int) → (k : Int → Option β) → Option β) (q_spec_FormatInt : (a0 : Int) → (k : ByteArray → Option β) → Option β) (q_spec_CorrelationImmunity : (a0 : Int) → (a1 : Int) → (k : Int → Option β) → Option β) (q_spec_TestRejects : (a0 : Int) → (a1 : Int) → (k : Int → Option β) → Option β)  (a0 : Int) (a1 : Int) (K : TV → Option β) : evFn lay (VE23 N q_spec_IsTable q_spec_SpectrumOf q_spec_l34Numbers q_spec_EnergyByLevel q_spec_Nonlinearity q_spec_FormatInt q_spec_CorrelationImmunity q_spec_TestRejects) Tryd.f23 [.v (.agg [.int .i64 a0, .int .i64 a1])] K = BV_spec_SpectrumLine N q_spec_IsTable q_spec_SpectrumOf q_spec_l34Numbers q_spec_EnergyByLevel q_spec_Nonlinearity q_spec_FormatInt q_spec_CorrelationImmunity q_spec_TestRejects a0 a1 (fun z2 => K (.v (.one (.str z2)))) := by kernel_rfl
theorem e23_0 {β : Type} (N : Nat)  (a0 : Int) (a1 : Int) (K : TV → Option β) : evFn lay (E23 N) Tryd.f23 [.v (.agg [.int .i64 a0, .int .i64 a1])] K = spec_SpectrumLine N a0 a1 (fun z2 => K (.v (.one (.str z2)))) := (ve23_0 N (spec_IsTable N) (spec_SpectrumOf N) (spec_l34Numbers N) (spec_EnergyByLevel N) (spec_Nonlinearity N) (spec_FormatInt N) (spec_CorrelationImmunity N) (spec_TestRejects N) a0 a1 K).trans (t_spec_SpectrumLine N a0 a1 (fun z2 => K (.v (.one (.str z2))))).symm
theorem o23 {β : Type} (N : Nat) : SpecOK (β := β) inv Tryd.prog 23 (S23 N) := by
  refine spec_of lay_ok mixed (E := E23 N) (specs_loops (specs_cons (o51 N) (specs_cons (o53 N) (specs_cons (o52 N) (specs_cons (o54 N) (specs_cons (o56 N) (specs_cons (o55 N) (specs_cons (o57 N) (specs_cons (o58 N) specs_nil))))))))) muts_nil gs_nil Tryd.func23 (by kernel_rfl) 0 (by kernel_rfl) trivial fun args K r h => ?_
  unfold S23 VS23 at h
  split at h
  · exact (e23_0 N _ _ _).trans h
  · cases h
def VS46 {β : Type} (N : Nat) (q_impl_isBits : (a0 : Int) → (k : Bool → Option β) → Option β) : Rv.Spec β := fun args K => match args with
  | [.v (.one (.int .i64 a0))] => q_impl_isBits a0 (fun z1 => K (.v (.one (.bool z1))))
  | _ => none
def S46 {β : Type} (N : Nat) : Rv.Spec β := VS46 N (impl_isBits N)
def VE46 {β : Type} (N : Nat) : Env β := ⟨[], [], [], [], ⟨[], [], []⟩⟩
def E46 {β : Type} (N : Nat) : Env β := VE46 N
def BV_impl_isBits {β : Type} (N : Nat) (a0 : Int) (k : Bool → Option β) : Option β :=
(cond ((decide (a0 ≥ 0)))
(k ((decide (a0 ≤ 5))))
(k false))
theorem t_impl_isBits {β : Type} (N : Nat) (a0 : Int) (k : Bool → Option β) : impl_isBits N a0 k = BV_impl_isBits N a0 k := by
  unfold impl_isBits BV_impl_isBits
  rfl
theorem ve46_0 {β : Type} (N : Nat)  (a0 : Int) (K : TV → Option β) : evFn lay (VE46 N) Tryd.f46 [.v (.one (.int .i64 a0))] K = BV_impl_isBits N a0 (fun z1 => K (.v (.one (.bool z1)))) := by kernel_rfl
theorem e46_0 {β : Type} (N : Nat)  (a0 : Int) (K : TV → Option β) : evFn lay (E46 N) Tryd.f46 [.v (.one (.int .i64 a0))] K = impl_isBits N a0 (fun z1 => K (.v (.one (.bool z1)))) := (ve46_0 N a0 K).trans (t_impl_isBits N a0 (fun z1 => K (.v (.one (.bool z1))))).symm
theorem o46 {β : Type} (N : Nat) : SpecOK (β := β) inv Tryd.prog 46 (S46 N) := by
  refine spec_of lay_ok mixed (E := E46 N) (specs_loops specs_nil) muts_nil gs_nil Tryd.func46 (by kernel_rfl) 0 (by kernel_rfl) trivial fun args K r h => ?_
  unfold S46 VS46 at h
  split at h
  · exact (e46_0 N _ _).trans h
  · cases h
def VS125 {β : Type} (N : Nat) (q_impl_Table_size : (a0 : Int) → (a1 : Int) → (k : Int → Option β) → Option β) : Rv.Spec β := fun args K => match args with
  | [.v (.agg [.int .i64 a0, .int .i64 a1])] => q_impl_Table_size a0 a1 (fun z2 => K (.v (.one (.int .i64 z2))))
  | _ => none
def S125 {β : Type} (N : Nat) : Rv.Spec β := VS125 N (impl_Table_size N)
def VE125 {β : Type} (N : Nat) : Env β := ⟨[], [], [], [], ⟨[], [], []⟩⟩
def E125 {β : Type} (N : Nat) : Env β := VE125 N
def BV_impl_Table_size {β : Type} (N : Nat) (a0 : Int) (a1 : Int) (k : Int → Option β) : Option β :=
(gd ((decide (0 ≤ a0)))
(k ((shlI .i64 1 a0))))
theorem t_impl_Table_size {β : Type} (N : Nat) (a0 : Int) (a1 : Int) (k : Int → Option β) : impl_Table_size N a0 a1 k = BV_impl_Table_size N a0 a1 k := by
  unfold impl_Table_size BV_impl_Table_size
  rfl
theorem ve125_0 {β : Type} (N : Nat)  (a0 : Int) (a1 : Int) (K : TV → Option β) : evFn lay (VE125 N) Tryd.f125 [.v (.agg [.int .i64 a0, .int .i64 a1])] K = BV_impl_Table_size N a0 a1 (fun z2 => K (.v (.one (.int .i64 z2)))) := by kernel_rfl
theorem e125_0 {β : Type} (N : Nat)  (a0 : Int) (a1 : Int) (K : TV → Option β) : evFn lay (E125 N) Tryd.f125 [.v (.agg [.int .i64 a0, .int .i64 a1])] K = impl_Table_size N a0 a1 (fun z2 => K (.v (.one (.int .i64 z2)))) := (ve125_0 N a0 a1 K).trans (t_impl_Table_size N a0 a1 (fun z2 => K (.v (.one (.int .i64 z2))))).symm
theorem o125 {β : Type} (N : Nat) : SpecOK (β := β) inv Tryd.prog 125 (S125 N) := by
  refine spec_of lay_ok mixed (E := E125 N) (specs_loops specs_nil) muts_nil gs_nil Tryd.func125 (by kernel_rfl) 0 (by kernel_rfl) trivial fun args K r h => ?_
  unfold S125 VS125 at h
  split at h
  · exact (e125_0 N _ _ _).trans h
  · cases h
def VS59 {β : Type} (N : Nat) (q_impl_IsTable : (a0 : Int) → (a1 : Int) → (k : Bool → Option β) → Option β) : Rv.Spec β := fun args K => match args with
  | [.v (.agg [.int .i64 a0, .int .i64 a1])] => q_impl_IsTable a0 a1 (fun z2 => K (.v (.one (.bool z2))))
  | _ => none
def S59 {β : Type} (N : Nat) : Rv.Spec β := VS59 N (impl_IsTable N)
def VE59 {β : Type} (N : Nat) (q_impl_isBits : (a0 : Int) → (k : Bool → Option β) → Option β) (q_impl_Table_size : (a0 : Int) → (a1 : Int) → (k : Int → Option β) → Option β) : Env β := ⟨[(46, VS46 N q_impl_isBits), (125, VS125 N q_impl_Table_size)], [], [], [], ⟨[], [], []⟩⟩
def E59 {β : Type} (N : Nat) : Env β := VE59 N (impl_isBits N) (impl_Table_size N)
def BV_impl_IsTable {β : Type} (N : Nat) (q_impl_isBits : (a0 : Int) → (k : Bool → Option β) → Option β) (q_impl_Table_size : (a0 : Int) → (a1 : Int) → (k : Int → Option β) → Option β) (a0 : Int) (a1 : Int) (k : Bool → Option β) : Option β :=
q_impl_isBits a0 fun r3 =>
(cond r3
((cond ((decide (a1 ≥ 0)))
(q_impl_Table_size a0 a1 fun r4 =>
(gd ((decide (0 ≤ r4)))
(k (((shrI .i64 a1 r4) == 0)))))
(k false)))
(k false))
theorem t_impl_IsTable {β : Type} (N : Nat) (a0 : Int) (a1 : Int) (k : Bool → Option β) : impl_IsTable N a0 a1 k = BV_impl_IsTable N (impl_isBits N) (impl_Table_size N) a0 a1 k := by
  unfold impl_IsTable BV_impl_IsTable
  rfl
theorem ve59_0 {β : Type} (N : Nat) (q_impl_isBits : (a0 : Int) → (k : Bool → Option β) → Option β) (q_impl_Table_size : (a0 : Int) → (a1 : Int) → (k : Int → Option β) → Option β)  (a0 : Int) (a1 : Int) (K : TV → Option β) : evFn lay (VE59 N q_impl_isBits q_impl_Table_size) Tryd.f59 [.v (.agg [.int .i64 a0, .int .i64 a1])] K = BV_impl_IsTable N q_impl_isBits q_impl_Table_size a0 a1 (fun z2 => K (.v (.one (.bool z2)))) := by kernel_rfl
theorem e59_0 {β : Type} (N : Nat)  (a0 : Int) (a1 : Int) (K : TV → Option β) : evFn lay (E59 N) Tryd.f59 [.v (.agg [.int .i64 a0, .int .i64 a1])] K = impl_IsTable N a0 a1 (fun z2 => K (.v (.one (.bool z2)))) := (ve59_0 N (impl_isBits N) (impl_Table_size N) a0 a1 K).trans (t_impl_IsTable N a0 a1 (fun z2 => K (.v (.one (.bool z2))))).symm
theorem o59 {β : Type} (N : Nat) : SpecOK (β := β) inv Tryd.prog 59 (S59 N) := by
  refine spec_of lay_ok mixed (E := E59 N) (specs_loops (specs_cons (o46 N) (specs_cons (o125 N) specs_nil))) muts_nil gs_nil Tryd.func59 (by kernel_rfl) 0 (by kernel_rfl) trivial fun args K r h => ?_
  unfold S59 VS59 at h
  split at h
  · exact (e59_0 N _ _ _).trans h
  · cases h
def VS128 {β : Type} (N : Nat) (q_impl_Table_at : (a0 : Int) → (a1 : Int) → (a2 : Int) → (k : Int → Option β) → Option β) : Rv.Spec β := fun args K => match args with
  | [.v (.agg [.int .i64 a0, .int .i64 a1]), .v (.one (.int .i64 a2))] => q_impl_Table_at a0 a1 a2 (fun z3 => K (.v (.one (.int .i64 z3))))
  | _ => none
def S128 {β : Type} (N : Nat) : Rv.Spec β := VS128 N (impl_Table_at N)
def VE128 {β : Type} (N : Nat) : Env β := ⟨[], [], [], [], ⟨[], [], []⟩⟩
def E128 {β : Type} (N : Nat) : Env β := VE128 N
def BV_impl_Table_at {β : Type} (N : Nat) (a0 : Int) (a1 : Int) (a2 : Int) (k : Int → Option β) : Option β :=
(gd ((decide (0 ≤ a2)))
(k ((bits .and .i64 (shrI .i64 a1 a2) 1))))
theorem t_impl_Table_at {β : Type} (N : Nat) (a0 : Int) (a1 : Int) (a2 : Int) (k : Int → Option β) : impl_Table_at N a0 a1 a2 k = BV_impl_Table_at N a0 a1 a2 k := by
  unfold impl_Table_at BV_impl_Table_at
  rfl
theorem ve128_0 {β : Type} (N : Nat)  (a0 : Int) (a1 : Int) (a2 : Int) (K : TV → Option β) : evFn lay (VE128 N) Tryd.f128 [.v (.agg [.int .i64 a0, .int .i64 a1]), .v (.one (.int .i64 a2))] K = BV_impl_Table_at N a0 a1 a2 (fun z3 => K (.v (.one (.int .i64 z3)))) := by kernel_rfl
theorem e128_0 {β : Type} (N : Nat)  (a0 : Int) (a1 : Int) (a2 : Int) (K : TV → Option β) : evFn lay (E128 N) Tryd.f128 [.v (.agg [.int .i64 a0, .int .i64 a1]), .v (.one (.int .i64 a2))] K = impl_Table_at N a0 a1 a2 (fun z3 => K (.v (.one (.int .i64 z3)))) := (ve128_0 N a0 a1 a2 K).trans (t_impl_Table_at N a0 a1 a2 (fun z3 => K (.v (.one (.int .i64 z3))))).symm
theorem o128 {β : Type} (N : Nat) : SpecOK (β := β) inv Tryd.prog 128 (S128 N) := by
  refine spec_of lay_ok mixed (E := E128 N) (specs_loops specs_nil) muts_nil gs_nil Tryd.func128 (by kernel_rfl) 0 (by kernel_rfl) trivial fun args K r h => ?_
  unfold S128 VS128 at h
  split at h
  · exact (e128_0 N _ _ _ _).trans h
  · cases h
def VS188 {β : Type} (N : Nat) (q_math_bits_OnesCount64 : (a0 : Int) → (k : Int → Option β) → Option β) : Rv.Spec β := fun args K => match args with
  | [.v (.one (.int .u64 a0))] => q_math_bits_OnesCount64 a0 (fun z1 => K (.v (.one (.int .i64 z1))))
  | _ => none
def S188 {β : Type} (N : Nat) : Rv.Spec β := VS188 N (math_bits_OnesCount64 N)
def VE188 {β : Type} (N : Nat) : Env β := ⟨[], [], [], [], ⟨[], [], []⟩⟩
def E188 {β : Type} (N : Nat) : Env β := VE188 N
def BV_math_bits_OnesCount64 {β : Type} (N : Nat) (a0 : Int) (k : Int → Option β) : Option β :=
k ((bits .and .i64 (w64 ((wu64 ((wu64 ((wu64 ((bits .and .u64 (wu64 ((shrI .u64 (wu64 ((bits .and .u64 (shrI .u64 (wu64 ((bits .and .u64 (shrI .u64 a0 1) 6148914691236517205) + (bits .and .u64 a0 6148914691236517205))) 2) 3689348814741910323) + (bits .and .u64 (wu64 ((bits .and .u64 (shrI .u64 a0 1) 6148914691236517205) + (bits .and .u64 a0 6148914691236517205))) 3689348814741910323))) 4) + (wu64 ((bits .and .u64 (shrI .u64 (wu64 ((bits .and .u64 (shrI .u64 a0 1) 6148914691236517205) + (bits .and .u64 a0 6148914691236517205))) 2) 3689348814741910323) + (bits .and .u64 (wu64 ((bits .and .u64 (shrI .u64 a0 1) 6148914691236517205) + (bits .and .u64 a0 6148914691236517205))) 3689348814741910323))))) 1085102592571150095) + (shrI .u64 (bits .and .u64 (wu64 ((shrI .u64 (wu64 ((bits .and .u64 (shrI .u64 (wu64 ((bits .and .u64 (shrI .u64 a0 1) 6148914691236517205) + (bits .and .u64 a0 6148914691236517205))) 2) 3689348814741910323) + (bits .and .u64 (wu64 ((bits .and .u64 (shrI .u64 a0 1) 6148914691236517205) + (bits .and .u64 a0 6148914691236517205))) 3689348814741910323))) 4) + (wu64 ((bits .and .u64 (shrI .u64 (wu64 ((bits .and .u64 (shrI .u64 a0 1) 6148914691236517205) + (bits .and .u64 a0 6148914691236517205))) 2) 3689348814741910323) + (bits .and .u64 (wu64 ((bits .and .u64 (shrI .u64 a0 1) 6148914691236517205) + (bits .and .u64 a0 6148914691236517205))) 3689348814741910323))))) 1085102592571150095) 8))) + (shrI .u64 (wu64 ((bits .and .u64 (wu64 ((shrI .u64 (wu64 ((bits .and .u64 (shrI .u64 (wu64 ((bits .and .u64 (shrI .u64 a0 1) 6148914691236517205) + (bits .and .u64 a0 6148914691236517205))) 2) 3689348814741910323) + (bits .and .u64 (wu64 ((bits .and .u64 (shrI .u64 a0 1) 6148914691236517205) + (bits .and .u64 a0 6148914691236517205))) 3689348814741910323))) 4) + (wu64 ((bits .and .u64 (shrI .u64 (wu64 ((bits .and .u64 (shrI .u64 a0 1) 6148914691236517205) + (bits .and .u64 a0 6148914691236517205))) 2) 3689348814741910323) + (bits .and .u64 (wu64 ((bits .and .u64 (shrI .u64 a0 1) 6148914691236517205) + (bits .and .u64 a0 6148914691236517205))) 3689348814741910323))))) 1085102592571150095) + (shrI .u64 (bits .and .u64 (wu64 ((shrI .u64 (wu64 ((bits .and .u64 (shrI .u64 (wu64 ((bits .and .u64 (shrI .u64 a0 1) 6148914691236517205) + (bits .and .u64 a0 6148914691236517205))) 2) 3689348814741910323) + (bits .and .u64 (wu64 ((bits .and .u64 (shrI .u64 a0 1) 6148914691236517205) + (bits .and .u64 a0 6148914691236517205))) 3689348814741910323))) 4) + (wu64 ((bits .and .u64 (shrI .u64 (wu64 ((bits .and .u64 (shrI .u64 a0 1) 6148914691236517205) + (bits .and .u64 a0 6148914691236517205))) 2) 3689348814741910323) + (bits .and .u64 (wu64 ((bits .and .u64 (shrI .u64 a0 1) 6148914691236517205) + (bits .and .u64 a0 6148914691236517205))) 3689348814741910323))))) 1085102592571150095) 8))) 16))) + (shrI .u64 (wu64 ((wu64 ((bits .and .u64 (wu64 ((shrI .u64 (wu64 ((bits .and .u64 (shrI .u64 (wu64 ((bits .and .u64 (shrI .u64 a0 1) 6148914691236517205) + (bits .and .u64 a0 6148914691236517205))) 2) 3689348814741910323) + (bits .and .u64 (wu64 ((bits .and .u64 (shrI .u64 a0 1) 6148914691236517205) + (bits .and .u64 a0 6148914691236517205))) 3689348814741910323))) 4) + (wu64 ((bits .and .u64 (shrI .u64 (wu64 ((bits .and .u64 (shrI .u64 a0 1) 6148914691236517205) + (bits .and .u64 a0 6148914691236517205))) 2) 3689348814741910323) + (bits .and .u64 (wu64 ((bits .and .u64 (shrI .u64 a0 1) 6148914691236517205) + (bits .and .u64 a0 6148914691236517205))) 3689348814741910323))))) 1085102592571150095) + (shrI .u64 (bits .and .u64 (wu64 ((shrI .u64 (wu64 ((bits .and .u64 (shrI .u64 (wu64 ((bits .and .u64 (shrI .u64 a0 1) 6148914691236517205) + (bits .and .u64 a0 6148914691236517205))) 2) 3689348814741910323) + (bits .and .u64 (wu64 ((bits .and .u64 (shrI .u64 a0 1) 6148914691236517205) + (bits .and .u64 a0 6148914691236517205))) 3689348814741910323))) 4) + (wu64 ((bits .and .u64 (shrI .u64 (wu64 ((bits .and .u64 (shrI .u64 a0 1) 6148914691236517205) + (bits .and .u64 a0 6148914691236517205))) 2) 3689348814741910323) + (bits .and .u64 (wu64 ((bits .and .u64 (shrI .u64 a0 1) 6148914691236517205) + (bits .and .u64 a0 6148914691236517205))) 3689348814741910323))))) 1085102592571150095) 8))) + (shrI .u64 (wu64 ((bits .and .u64 (wu64 ((shrI .u64 (wu64 ((bits .and .u64 (shrI .u64 (wu64 ((bits .and .u64 (shrI .u64 a0 1) 6148914691236517205) + (bits .and .u64 a0 6148914691236517205))) 2) 3689348814741910323) + (bits .and .u64 (wu64 ((bits .and .u64 (shrI .u64 a0 1) 6148914691236517205) + (bits .and .u64 a0 6148914691236517205))) 3689348814741910323))) 4) + (wu64 ((bits .and .u64 (shrI .u64 (wu64 ((bits .and .u64 (shrI .u64 a0 1) 6148914691236517205) + (bits .and .u64 a0 6148914691236517205))) 2) 3689348814741910323) + (bits .and .u64 (wu64 ((bits .and .u64 (shrI .u64 a0 1) 6148914691236517205) + (bits .and .u64 a0 6148914691236517205))) 3689348814741910323))))) 1085102592571150095) + (shrI .u64 (bits .and .u64 (wu64 ((shrI .u64 (wu64 ((bits .and .u64 (shrI .u64 (wu64 ((bits .and .u64 (shrI .u64 a0 1) 6148914691236517205) + (bits .and .u64 a0 6148914691236517205))) 2) 3689348814741910323) + (bits .and .u64 (wu64 ((bits .and .u64 (shrI .u64 a0 1) 6148914691236517205) + (bits .and .u64 a0 6148914691236517205))) 3689348814741910323))) 4) + (wu64 ((bits .and .u64 (shrI .u64 (wu64 ((bits .and .u64 (shrI .u64 a0 1) 6148914691236517205) + (bits .and .u64 a0 6148914691236517205))) 2) 3689348814741910323) + (bits .and .u64 (wu64 ((bits .and .u64 (shrI .u64 a0 1) 6148914691236517205) + (bits .and .u64 a0 6148914691236517205))) 3689348814741910323))))) 1085102592571150095) 8))) 16))) 32))))) 127))
theorem t_math_bits_OnesCount64 {β : Type} (N : Nat) (a0 : Int) (k : Int → Option β) : math_bits_OnesCount64 N a0 k = BV_math_bits_OnesCount64 N a0 k := by
  unfold math_bits_OnesCount64 BV_math_bits_OnesCount64
  rfl
theorem ve188_0 {β : Type} (N : Nat)  (a0 : Int) (K : TV → Option β) : evFn lay (VE188 N) Tryd.f188 [.v (.one (.int .u64 a0))] K = BV_math_bits_OnesCount64 N a0 (fun z1 => K (.v (.one (.int .i64 z1)))) := by kernel_rfl
theorem e188_0 {β : Type} (N : Nat)  (a0 : Int) (K : TV → Option β) : evFn lay (E188 N) Tryd.f188 [.v (.one (.int .u64 a0))] K = math_bits_OnesCount64 N a0 (fun z1 => K (.v (.one (.int .i64 z1)))) := (ve188_0 N a0 K).trans (t_math_bits_OnesCount64 N a0 (fun z1 => K (.v (.one (.int .i64 z1))))).symm
theorem o188 {β : Type} (N : Nat) : SpecOK (β := β) inv Tryd.prog 188 (S188 N) := by
  refine spec_of lay_ok mixed (E := E188 N) (specs_loops specs_nil) muts_nil gs_nil Tryd.func188 (by kernel_rfl) 0 (by kernel_rfl) trivial fun args K r h => ?_
  unfold S188 VS188 at h
  split at h
  · exact (e188_0 N _ _).trans h
  · cases h
def VS129 {β : Type} (N : Nat) (q_impl_ones : (a0 : Int) → (k : Int → Option β) → Option β) : Rv.Spec β := fun args K => match args with
  | [.v (.one (.int .i64 a0))] => q_impl_ones a0 (fun z1 => K (.v (.one (.int .i64 z1))))
  | _ => none
def S129 {β : Type} (N : Nat) : Rv.Spec β := VS129 N (impl_ones N)
def VE129 {β : Type} (N : Nat) (q_math_bits_OnesCount64 : (a0 : Int) → (k : Int → Option β) → Option β) : Env β := ⟨[(188, VS188 N q_math_bits_OnesCount64)], [], [], [], ⟨[], [], []⟩⟩
def E129 {β : Type} (N : Nat) : Env β := VE129 N (math_bits_OnesCount64 N)
def BV_impl_ones {β : Type} (N : Nat) (q_math_bits_OnesCount64 : (a0 : Int) → (k : Int → Option β) → Option β) (a0 : Int) (k : Int → Option β) : Option β :=
q_math_bits_OnesCount64 ((wu64 (a0))) fun r2 =>
k r2
theorem t_impl_ones {β : Type} (N : Nat) (a0 : Int) (k : Int → Option β) : impl_ones N a0 k = BV_impl_ones N (math_bits_OnesCount64 N) a0 k := by
  unfold impl_ones BV_impl_ones
  rfl
theorem ve129_0 {β : Type} (N : Nat) (q_math_bits_OnesCount64 : (a0 : Int) → (k : Int → Option β) → Option β)  (a0 : Int) (K : TV → Option β) : evFn lay (VE129 N q_math_bits_OnesCount64) Tryd.f129 [.v (.one (.int .i64 a0))] K = BV_impl_ones N q_math_bits_OnesCount64 a0 (fun z1 => K (.v (.one (.int .i64 z1)))) := by kernel_rfl
theorem e129_0 {β : Type} (N : Nat)  (a0 : Int) (K : TV → Option β) : evFn lay (E129 N) Tryd.f129 [.v (.one (.int .i64 a0))] K = impl_ones N a0 (fun z1 => K (.v (.one (.int .i64 z1)))) := (ve129_0 N (math_bits_OnesCount64 N) a0 K).trans (t_impl_ones N a0 (fun z1 => K (.v (.one (.int .i64 z1))))).symm
theorem o129 {β : Type} (N : Nat) : SpecOK (β := β) inv Tryd.prog 129 (S129 N) := by
  refine spec_of lay_ok mixed (E := E129 N) (specs_loops (specs_cons (o188 N) specs_nil)) muts_nil gs_nil Tryd.func129 (by kernel_rfl) 0 (by kernel_rfl) trivial fun args K r h => ?_
  unfold S129 VS129 at h
  split at h
  · exact (e129_0 N _ _).trans h
  · cases h
def VS127 {β : Type} (N : Nat) (q_impl_sign : (a0 : Int) → (k : Int → Option β) → Option β) : Rv.Spec β := fun args K => match args with
  | [.v (.one (.int .i64 a0))] => q_impl_sign a0 (fun z1 => K (.v (.one (.int .i64 z1))))
  | _ => none
def S127 {β : Type} (N : Nat) : Rv.Spec β := VS127 N (impl_sign N)
def VE127 {β : Type} (N : Nat) : Env β := ⟨[], [], [], [], ⟨[], [], []⟩⟩
def E127 {β : Type} (N : Nat) : Env β := VE127 N
def BV_impl_sign {β : Type} (N : Nat) (a0 : Int) (k : Int → Option β) : Option β :=
k ((w64 (1 - (w64 (2 * (bits .and .i64 a0 1))))))
theorem t_impl_sign {β : Type} (N : Nat) (a0 : Int) (k : Int → Option β) : impl_sign N a0 k = BV_impl_sign N a0 k := by
  unfold impl_sign BV_impl_sign
  rfl
theorem ve127_0 {β : Type} (N : Nat)  (a0 : Int) (K : TV → Option β) : evFn lay (VE127 N) Tryd.f127 [.v (.one (.int .i64 a0))] K = BV_impl_sign N a0 (fun z1 => K (.v (.one (.int .i64 z1)))) := by kernel_rfl
theorem e127_0 {β : Type} (N : Nat)  (a0 : Int) (K : TV → Option β) : evFn lay (E127 N) Tryd.f127 [.v (.one (.int .i64 a0))] K = impl_sign N a0 (fun z1 => K (.v (.one (.int .i64 z1)))) := (ve127_0 N a0 K).trans (t_impl_sign N a0 (fun z1 => K (.v (.one (.int .i64 z1))))).symm
theorem o127 {β : Type} (N : Nat) : SpecOK (β := β) inv Tryd.prog 127 (S127 N) := by
  refine spec_of lay_ok mixed (E := E127 N) (specs_loops specs_nil) muts_nil gs_nil Tryd.func127 (by kernel_rfl) 0 (by kernel_rfl) trivial fun args K r h => ?_
  unfold S127 VS127 at h
  split at h
  · exact (e127_0 N _ _).trans h
  · cases h
end Go.Proofs.YtfdggelojmofmaaDoor
