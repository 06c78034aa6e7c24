/- The functions that the claims reach answer as their texts do. -/
import Derived.Test.YtddflpokemgnmaaE2
namespace Go.Proofs.Ytddflpokemgnmaa
open Go.Rv
set_option maxRecDepth 100000
set_option maxHeartbeats 2000000
set_option linter.unusedVariables false
def VS42 {β : Type} (N : Nat) (q_spec_IsTable : (a0 : Int) → (a1 : Int) → (k : Bool → Option β) → Option β) : Rv.Spec β := fun args K => match args with
  | [.v (.agg [.int .i64 a0, .int .i64 a1])] => q_spec_IsTable a0 a1 (fun z2 => K (.v (.one (.bool z2))))
  | _ => none
def S42 {β : Type} (N : Nat) : Rv.Spec β := VS42 N (spec_IsTable N)
def VE42 {β : Type} (N : Nat) (q_spec_l1In : (a0 : Int) → (a1 : Int) → (a2 : Int) → (k : Bool → Option β) → Option β) : Env β := ⟨[(34, VS34 N q_spec_l1In)], [], [], [], ⟨[], [], [], []⟩⟩
def E42 {β : Type} (N : Nat) : Env β := VE42 N (spec_l1In N)
def BV_spec_IsTable {β : Type} (N : Nat) (q_spec_l1In : (a0 : Int) → (a1 : Int) → (a2 : Int) → (k : Bool → Option β) → Option β) (a0 : Int) (a1 : Int) (k : Bool → Option β) : Option β :=
q_spec_l1In a0 0 5 fun r3 =>
(cond r3
((gd ((decide (0 ≤ a0)))
((gd ((decide (0 ≤ (shlI .u64 1 a0))))
(q_spec_l1In a1 0 ((w64 ((shlI .i64 1 (shlI .u64 1 a0)) - 1))) fun r4 =>
k r4)))))
(k false))
theorem t_spec_IsTable {β : Type} (N : Nat) (a0 : Int) (a1 : Int) (k : Bool → Option β) : spec_IsTable N a0 a1 k = BV_spec_IsTable N (spec_l1In N) a0 a1 k := by
  unfold spec_IsTable BV_spec_IsTable
  rfl
theorem ve42_0 {β : Type} (N : Nat) (q_spec_l1In : (a0 : Int) → (a1 : Int) → (a2 : Int) → (k : Bool → Option β) → Option β)  (a0 : Int) (a1 : Int) (K : TV → Option β) : evFn lay (VE42 N q_spec_l1In) Try.f42 [.v (.agg [.int .i64 a0, .int .i64 a1])] K = BV_spec_IsTable N q_spec_l1In a0 a1 (fun z2 => K (.v (.one (.bool z2)))) := by kernel_rfl
theorem e42_0 {β : Type} (N : Nat)  (a0 : Int) (a1 : Int) (K : TV → Option β) : evFn lay (E42 N) Try.f42 [.v (.agg [.int .i64 a0, .int .i64 a1])] K = spec_IsTable N a0 a1 (fun z2 => K (.v (.one (.bool z2)))) := (ve42_0 N (spec_l1In N) a0 a1 K).trans (t_spec_IsTable N a0 a1 (fun z2 => K (.v (.one (.bool z2))))).symm
theorem o42 {β : Type} (N : Nat) : SpecOK (β := β) inv Try.prog 42 (S42 N) := by
  refine spec_of lay_ok mixed (E := E42 N) (specs_loops (specs_cons (o34 N) specs_nil)) muts_nil gs_nil Try.func42 (by kernel_rfl) 0 (by kernel_rfl) trivial fun args K r h => ?_
  unfold S42 VS42 at h
  split at h
  · exact (e42_0 N _ _ _).trans h
  · cases h
def VS43 {β : Type} (N : Nat) (q_spec_l3Shift : (a0 : Int) → (a1 : Int) → (a2 : Int) → (k : Int → Int → Option β) → Option β) : Rv.Spec β := fun args K => match args with
  | [.v (.agg [.int .i64 a0, .int .i64 a1]), .v (.one (.int .i64 a2))] => q_spec_l3Shift a0 a1 a2 (fun z3 z4 => K (.v (.agg [.int .i64 z3, .int .i64 z4])))
  | _ => none
def S43 {β : Type} (N : Nat) : Rv.Spec β := VS43 N (spec_l3Shift N)
def h43_0_0  (v0 : Int) (v1 : Int) (v2 : Int) (v3 : Int) (v4 : Int) (v5 : Int) (v6 : Int) : St := ⟨.v (.one .und) :: .v (.one (.int .i64 v0)) :: .v (.one (.ptr 0 0)) :: .v (.one .und) :: .v (.one (.ptr 1 0)) :: .v (.one (.int .i64 v1)) :: .v (.one (.int .i64 v2)) :: .v (.one .und) :: .v (.one .und) :: .v (.one .und) :: .v (.one .und) :: .v (.one .und) :: .v (.one .und) :: .v (.one .und) :: .v (.one .und) :: .v (.one .und) :: .v (.one .und) :: .v (.one .und) :: .v (.one .und) :: .v (.one .und) :: .v (.one .und) :: .v (.one .und) :: .v (.one .und) :: .v (.one .und) :: .v (.one .und) :: .v (.one .und) :: .v (.one .und) :: .v (.one .und) :: .v (.one .und) :: [], [.cells 27 [.int .i64 v3, .int .i64 v4], .cells 27 [.int .i64 v5, .int .i64 v6]]⟩
def x43_0_0_k0  (y0 : Int) (y1 : Int) (y2 : Int) (y3 : Int) (y4 : Int) : St := ⟨.v (.one .und) :: .v (.one .und) :: .v (.one (.ptr 0 0)) :: .v (.one .und) :: .v (.one (.ptr 1 0)) :: .v (.one (.int .i64 y0)) :: .v (.one .und) :: .v (.one .und) :: .v (.one .und) :: .v (.one .und) :: .v (.one .und) :: .v (.one .und) :: .v (.one .und) :: .v (.one .und) :: .v (.one .und) :: .v (.one .und) :: .v (.one .und) :: .v (.one .und) :: .v (.one .und) :: .v (.one .und) :: .v (.one .und) :: .v (.one .und) :: .v (.one .und) :: .v (.one .und) :: .v (.one .und) :: .v (.one .und) :: .v (.one .und) :: .v (.one .und) :: .v (.one .und) :: [], [.cells 27 [.int .i64 y1, .int .i64 y2], .cells 27 [.int .i64 y3, .int .i64 y4]]⟩
theorem fl43_0_0 (s : St) : refSt (h43_0_0 0 0 0 0 0 0 0) s = h43_0_0 (intS (oneA (vT (nx tund s.tmps 1)))) (intS (oneA (vT (nx tund s.tmps 5)))) (intS (oneA (vT (nx tund s.tmps 6)))) (intS (nx .und (cellsB (nx .dead s.blks 0)) 0)) (intS (nx .und (cellsB (nx .dead s.blks 0)) 1)) (intS (nx .und (cellsB (nx .dead s.blks 1)) 0)) (intS (nx .und (cellsB (nx .dead s.blks 1)) 1)) := by kernel_rfl
def VLS43_0 {β : Type} (N : Nat) (q_spec_l3Shift_l0 : Nat → Int → Int → Int → Int → Int → Int → Int → (Int → Int → Int → Int → Int → Option β) → Option β) : LSpec β := fun s K => cond (shpSt (h43_0_0 0 0 0 0 0 0 0) s) ((fun (v0 : Int) (v1 : Int) (v2 : Int) (v3 : Int) (v4 : Int) (v5 : Int) (v6 : Int) => q_spec_l3Shift_l0  N v0 v1 v2 v3 v4 v5 v6 (fun y0 y1 y2 y3 y4 => K (.exit 0) (x43_0_0_k0  y0 y1 y2 y3 y4))) (intS (oneA (vT (nx tund s.tmps 1)))) (intS (oneA (vT (nx tund s.tmps 5)))) (intS (oneA (vT (nx tund s.tmps 6)))) (intS (nx .und (cellsB (nx .dead s.blks 0)) 0)) (intS (nx .und (cellsB (nx .dead s.blks 0)) 1)) (intS (nx .und (cellsB (nx .dead s.blks 1)) 0)) (intS (nx .und (cellsB (nx .dead s.blks 1)) 1))) (none)
def LS43_0 {β : Type} (N : Nat) : LSpec β := VLS43_0 N (spec_l3Shift_l0 N)
def VE43 {β : Type} (N : Nat) (q_spec_l3Shift_l0 : Nat → Int → Int → Int → Int → Int → Int → Int → (Int → Int → Int → Int → Int → Option β) → Option β) : Env β := ⟨[], [], [(0, VLS43_0 N q_spec_l3Shift_l0)], [], ⟨[], [], [], []⟩⟩
def E43 {β : Type} (N : Nat) : Env β := VE43 N (spec_l3Shift_l0 N)
def BV_spec_l3Shift_l0b {β : Type} (N : Nat)  (v0 : Int) (v1 : Int) (v2 : Int) (v3 : Int) (v4 : Int) (v5 : Int) (v6 : Int) (rec_ : Int → Int → Int → Int → Int → Int → Int → Option β) (k0 : Int → Int → Int → Int → Int → Option β) : Option β :=
(gd ((decide (0 ≤ v3)))
((cond ((decide (v2 < (shlI .i64 1 v3))))
((gd ((decide (0 ≤ v2)))
((gd ((decide (0 ≤ (bits .xor .i64 v2 v0))))
(rec_ v0 ((bits .or .i64 v1 (shlI .i64 (bits .and .i64 (shrI .i64 v4 v2) 1) (bits .xor .i64 v2 v0)))) ((w64 (v2 + 1))) v3 v4 v5 v6)))))
(k0 v1 v3 v4 v5 v6))))
theorem t_spec_l3Shift_l0b {β : Type} (N : Nat)  (v0 : Int) (v1 : Int) (v2 : Int) (v3 : Int) (v4 : Int) (v5 : Int) (v6 : Int) (rec_ : Int → Int → Int → Int → Int → Int → Int → Option β) (k0 : Int → Int → Int → Int → Int → Option β) : spec_l3Shift_l0b N v0 v1 v2 v3 v4 v5 v6 rec_ k0 = BV_spec_l3Shift_l0b N v0 v1 v2 v3 v4 v5 v6 rec_ k0 := by
  unfold spec_l3Shift_l0b BV_spec_l3Shift_l0b
  rfl
theorem vst43_0_0 {β : Type} (N : Nat) (q_spec_l3Shift_l0 : Nat → Int → Int → Int → Int → Int → Int → Int → (Int → Int → Int → Int → Int → Option β) → Option β)  (v0 : Int) (v1 : Int) (v2 : Int) (v3 : Int) (v4 : Int) (v5 : Int) (v6 : Int) (rec_ : St → Option β) (K : Exit → St → Option β) :
    ev lay (VE43 N q_spec_l3Shift_l0) (retMask Try.f43) (lp Try.f43 0).body (lp Try.f43 0).ex ((lp Try.f43 0).lv (retMask Try.f43)) (h43_0_0  v0 v1 v2 v3 v4 v5 v6) (nextR (fun s' => rec_ (s'.tidy ((lp Try.f43 0).lv (retMask Try.f43)))) K) = BV_spec_l3Shift_l0b N  v0 v1 v2 v3 v4 v5 v6 (fun v0 v1 v2 v3 v4 v5 v6 => rec_ (h43_0_0  v0 v1 v2 v3 v4 v5 v6)) (fun y0 y1 y2 y3 y4 => K (.exit 0) (x43_0_0_k0  y0 y1 y2 y3 y4)) := by kernel_rfl
theorem st43_0_0 {β : Type} (N : Nat)  (v0 : Int) (v1 : Int) (v2 : Int) (v3 : Int) (v4 : Int) (v5 : Int) (v6 : Int) (rec_ : St → Option β) (K : Exit → St → Option β) :
    ev lay (E43 N) (retMask Try.f43) (lp Try.f43 0).body (lp Try.f43 0).ex ((lp Try.f43 0).lv (retMask Try.f43)) (h43_0_0  v0 v1 v2 v3 v4 v5 v6) (nextR (fun s' => rec_ (s'.tidy ((lp Try.f43 0).lv (retMask Try.f43)))) K) = spec_l3Shift_l0b N  v0 v1 v2 v3 v4 v5 v6 (fun v0 v1 v2 v3 v4 v5 v6 => rec_ (h43_0_0  v0 v1 v2 v3 v4 v5 v6)) (fun y0 y1 y2 y3 y4 => K (.exit 0) (x43_0_0_k0  y0 y1 y2 y3 y4)) := (vst43_0_0 N (spec_l3Shift_l0 N) v0 v1 v2 v3 v4 v5 v6 rec_ K).trans (t_spec_l3Shift_l0b N  v0 v1 v2 v3 v4 v5 v6 (fun v0 v1 v2 v3 v4 v5 v6 => rec_ (h43_0_0  v0 v1 v2 v3 v4 v5 v6)) (fun y0 y1 y2 y3 y4 => K (.exit 0) (x43_0_0_k0  y0 y1 y2 y3 y4))).symm
theorem ro43_0_0 {β : Type} (N : Nat)  (K : Exit → St → Option β) : ∀ (F : Nat) (v0 : Int) (v1 : Int) (v2 : Int) (v3 : Int) (v4 : Int) (v5 : Int) (v6 : Int), (lp Try.f43 0).rounds lay (E43 N) (retMask Try.f43) F (h43_0_0  v0 v1 v2 v3 v4 v5 v6) K = spec_l3Shift_l0 N  F v0 v1 v2 v3 v4 v5 v6 (fun y0 y1 y2 y3 y4 => K (.exit 0) (x43_0_0_k0  y0 y1 y2 y3 y4)) := by
  intro F
  induction F with
  | zero => intros; rfl
  | succ F ih =>
    intros
    rw [rounds_next]
    refine (st43_0_0 N  _ _ _ _ _ _ _ (fun s => (lp Try.f43 0).rounds lay (E43 N) (retMask Try.f43) F s K) K).trans ?_
    simp only [ih]
    rfl
theorem lk43_0 {β : Type} (N : Nat) : lookL (E43 (β := β) N).loops (lp Try.f43 0).id = LS43_0 N := by kernel_rfl
theorem rk43_0 {β : Type} (N : Nat) : RoundsOK lay (E43 (β := β) N) (retMask Try.f43) (lp Try.f43 0) := by
  intro s K r h
  rw [lk43_0] at h
  unfold LS43_0 VLS43_0 at h
  cases hb : shpSt (h43_0_0 0 0 0 0 0 0 0) s with
  | true =>
    rw [hb, cond_true] at h
    exact ⟨N, by rw [← shpSt_ref hb, fl43_0_0 s]; exact (ro43_0_0 N  K N (intS (oneA (vT (nx tund s.tmps 1)))) (intS (oneA (vT (nx tund s.tmps 5)))) (intS (oneA (vT (nx tund s.tmps 6)))) (intS (nx .und (cellsB (nx .dead s.blks 0)) 0)) (intS (nx .und (cellsB (nx .dead s.blks 0)) 1)) (intS (nx .und (cellsB (nx .dead s.blks 1)) 0)) (intS (nx .und (cellsB (nx .dead s.blks 1)) 1))).trans h⟩
  | false =>
  rw [hb, cond_false] at h
  clear hb
  cases h
def BV_spec_l3Shift {β : Type} (N : Nat) (q_spec_l3Shift_l0 : Nat → Int → Int → Int → Int → Int → Int → Int → (Int → Int → Int → Int → Int → Option β) → Option β) (a0 : Int) (a1 : Int) (a2 : Int) (k : Int → Int → Option β) : Option β :=
q_spec_l3Shift_l0  N a2 0 0 a0 a1 0 0 (fun e5_0 e5_1 e5_2 e5_3 e5_4 =>
k e5_1 e5_0)
theorem t_spec_l3Shift {β : Type} (N : Nat) (a0 : Int) (a1 : Int) (a2 : Int) (k : Int → Int → Option β) : spec_l3Shift N a0 a1 a2 k = BV_spec_l3Shift N (spec_l3Shift_l0 N) a0 a1 a2 k := by
  unfold spec_l3Shift BV_spec_l3Shift
  rfl
theorem ve43_0 {β : Type} (N : Nat) (q_spec_l3Shift_l0 : Nat → Int → Int → Int → Int → Int → Int → Int → (Int → Int → Int → Int → Int → Option β) → Option β)  (a0 : Int) (a1 : Int) (a2 : Int) (K : TV → Option β) : evFn lay (VE43 N q_spec_l3Shift_l0) Try.f43 [.v (.agg [.int .i64 a0, .int .i64 a1]), .v (.one (.int .i64 a2))] K = BV_spec_l3Shift N q_spec_l3Shift_l0 a0 a1 a2 (fun z3 z4 => K (.v (.agg [.int .i64 z3, .int .i64 z4]))) := by kernel_rfl
theorem e43_0 {β : Type} (N : Nat)  (a0 : Int) (a1 : Int) (a2 : Int) (K : TV → Option β) : evFn lay (E43 N) Try.f43 [.v (.agg [.int .i64 a0, .int .i64 a1]), .v (.one (.int .i64 a2))] K = spec_l3Shift N a0 a1 a2 (fun z3 z4 => K (.v (.agg [.int .i64 z3, .int .i64 z4]))) := (ve43_0 N (spec_l3Shift_l0 N) a0 a1 a2 K).trans (t_spec_l3Shift N a0 a1 a2 (fun z3 z4 => K (.v (.agg [.int .i64 z3, .int .i64 z4])))).symm
theorem o43 {β : Type} (N : Nat) : SpecOK (β := β) inv Try.prog 43 (S43 N) := by
  refine spec_of lay_ok mixed (E := E43 N) (specs_loops specs_nil) muts_nil gs_nil Try.func43 (by kernel_rfl) 1 (by kernel_rfl) ⟨trivial, rk43_0 N⟩ fun args K r h => ?_
  unfold S43 VS43 at h
  split at h
  · exact (e43_0 N _ _ _ _).trans h
  · cases h
def VS44 {β : Type} (N : Nat) (q_spec_l2Full : (a0 : Int) → (k : Int → Option β) → Option β) : Rv.Spec β := fun args K => match args with
  | [.v (.one (.int .i64 a0))] => q_spec_l2Full a0 (fun z1 => K (.v (.one (.int .i64 z1))))
  | _ => none
def S44 {β : Type} (N : Nat) : Rv.Spec β := VS44 N (spec_l2Full N)
def VE44 {β : Type} (N : Nat) : Env β := ⟨[], [], [], [], ⟨[], [], [], []⟩⟩
def E44 {β : Type} (N : Nat) : Env β := VE44 N
def BV_spec_l2Full {β : Type} (N : Nat) (a0 : Int) (k : Int → Option β) : Option β :=
(gd ((decide (0 ≤ a0)))
((gd ((decide (0 ≤ (shlI .u64 1 a0))))
(k ((w64 ((shlI .i64 1 (shlI .u64 1 a0)) - 1)))))))
theorem t_spec_l2Full {β : Type} (N : Nat) (a0 : Int) (k : Int → Option β) : spec_l2Full N a0 k = BV_spec_l2Full N a0 k := by
  unfold spec_l2Full BV_spec_l2Full
  rfl
theorem ve44_0 {β : Type} (N : Nat)  (a0 : Int) (K : TV → Option β) : evFn lay (VE44 N) Try.f44 [.v (.one (.int .i64 a0))] K = BV_spec_l2Full N a0 (fun z1 => K (.v (.one (.int .i64 z1)))) := by kernel_rfl
theorem e44_0 {β : Type} (N : Nat)  (a0 : Int) (K : TV → Option β) : evFn lay (E44 N) Try.f44 [.v (.one (.int .i64 a0))] K = spec_l2Full N a0 (fun z1 => K (.v (.one (.int .i64 z1)))) := (ve44_0 N a0 K).trans (t_spec_l2Full N a0 (fun z1 => K (.v (.one (.int .i64 z1))))).symm
theorem o44 {β : Type} (N : Nat) : SpecOK (β := β) inv Try.prog 44 (S44 N) := by
  refine spec_of lay_ok mixed (E := E44 N) (specs_loops specs_nil) muts_nil gs_nil Try.func44 (by kernel_rfl) 0 (by kernel_rfl) trivial fun args K r h => ?_
  unfold S44 VS44 at h
  split at h
  · exact (e44_0 N _ _).trans h
  · cases h
def VS13 {β : Type} (N : Nat) (q_spec_DualTable : (a0 : Int) → (a1 : Int) → (k : Int → Int → Bool → Option β) → Option β) : Rv.Spec β := fun args K => match args with
  | [.v (.agg [.int .i64 a0, .int .i64 a1])] => q_spec_DualTable a0 a1 (fun z2 z3 z4 => K (.tup [.agg [.int .i64 z2, .int .i64 z3], .one (.bool z4)]))
  | _ => none
def S13 {β : Type} (N : Nat) : Rv.Spec β := VS13 N (spec_DualTable N)
def VE13 {β : Type} (N : Nat) (q_spec_IsTable : (a0 : Int) → (a1 : Int) → (k : Bool → Option β) → Option β) (q_spec_l3Shift : (a0 : Int) → (a1 : Int) → (a2 : Int) → (k : Int → Int → Option β) → Option β) (q_spec_l2Full : (a0 : Int) → (k : Int → Option β) → Option β) : Env β := ⟨[(42, VS42 N q_spec_IsTable), (43, VS43 N q_spec_l3Shift), (44, VS44 N q_spec_l2Full)], [], [], [], ⟨[], [], [], []⟩⟩
def E13 {β : Type} (N : Nat) : Env β := VE13 N (spec_IsTable N) (spec_l3Shift N) (spec_l2Full N)
def BV_spec_DualTable {β : Type} (N : Nat) (q_spec_IsTable : (a0 : Int) → (a1 : Int) → (k : Bool → Option β) → Option β) (q_spec_l3Shift : (a0 : Int) → (a1 : Int) → (a2 : Int) → (k : Int → Int → Option β) → Option β) (q_spec_l2Full : (a0 : Int) → (k : Int → Option β) → Option β) (a0 : Int) (a1 : Int) (k : Int → Int → Bool → Option β) : Option β :=
q_spec_IsTable a0 a1 fun r5 =>
(cond (!r5)
(k 0 0 false)
((gd ((decide (0 ≤ a0)))
(q_spec_l3Shift a0 a1 ((w64 ((shlI .i64 1 a0) - 1))) fun r6 r7 =>
q_spec_l2Full a0 fun r8 =>
k a0 ((w64 (r8 - r7))) true))))
theorem t_spec_DualTable {β : Type} (N : Nat) (a0 : Int) (a1 : Int) (k : Int → Int → Bool → Option β) : spec_DualTable N a0 a1 k = BV_spec_DualTable N (spec_IsTable N) (spec_l3Shift N) (spec_l2Full N) a0 a1 k := by
  unfold spec_DualTable BV_spec_DualTable
  rfl
theorem ve13_0 {β : Type} (N : Nat) (q_spec_IsTable : (a0 : Int) → (a1 : Int) → (k : Bool → Option β) → Option β) (q_spec_l3Shift : (a0 : Int) → (a1 : Int) → (a2 : Int) → (k : Int → Int → Option β) → Option β) (q_spec_l2Full : (a0 : Int) → (k : Int → Option β) → Option β)  (a0 : Int) (a1 : Int) (K : TV → Option β) : evFn lay (VE13 N q_spec_IsTable q_spec_l3Shift q_spec_l2Full) Try.f13 [.v (.agg [.int .i64 a0, .int .i64 a1])] K = BV_spec_DualTable N q_spec_IsTable q_spec_l3Shift q_spec_l2Full a0 a1 (fun z2 z3 z4 => K (.tup [.agg [.int .i64 z2, .int .i64 z3], .one (.bool z4)])) := by kernel_rfl
theorem e13_0 {β : Type} (N : Nat)  (a0 : Int) (a1 : Int) (K : TV → Option β) : evFn lay (E13 N) Try.f13 [.v (.agg [.int .i64 a0, .int .i64 a1])] K = spec_DualTable N a0 a1 (fun z2 z3 z4 => K (.tup [.agg [.int .i64 z2, .int .i64 z3], .one (.bool z4)])) := (ve13_0 N (spec_IsTable N) (spec_l3Shift N) (spec_l2Full N) a0 a1 K).trans (t_spec_DualTable N a0 a1 (fun z2 z3 z4 => K (.tup [.agg [.int .i64 z2, .int .i64 z3], .one (.bool z4)]))).symm
theorem o13 {β : Type} (N : Nat) : SpecOK (β := β) inv Try.prog 13 (S13 N) := by
  refine spec_of lay_ok mixed (E := E13 N) (specs_loops (specs_cons (o42 N) (specs_cons (o43 N) (specs_cons (o44 N) specs_nil)))) muts_nil gs_nil Try.func13 (by kernel_rfl) 0 (by kernel_rfl) trivial fun args K r h => ?_
  unfold S13 VS13 at h
  split at h
  · exact (e13_0 N _ _ _).trans h
  · cases h
def VS14 {β : Type} (N : Nat) (q_impl_IsMonotoneFormula : (a0 : ByteArray) → (k : Bool → Option β) → Option β) : Rv.Spec β := fun args K => match args with
  | [.v (.one (.str a0))] => q_impl_IsMonotoneFormula a0 (fun z1 => K (.v (.one (.bool z1))))
  | _ => none
def S14 {β : Type} (N : Nat) : Rv.Spec β := VS14 N (impl_IsMonotoneFormula N)
def VE14 {β : Type} (N : Nat) (q_impl_IsFormula : (a0 : ByteArray) → (k : Bool → Option β) → Option β) : Env β := ⟨[(8, VS8 N q_impl_IsFormula), (45, S45 N)], [], [], [], ⟨[], [], [], []⟩⟩
def E14 {β : Type} (N : Nat) : Env β := VE14 N (impl_IsFormula N)
def BV_impl_IsMonotoneFormula {β : Type} (N : Nat) (q_impl_IsFormula : (a0 : ByteArray) → (k : Bool → Option β) → Option β) (a0 : ByteArray) (k : Bool → Option β) : Option β :=
q_impl_IsFormula a0 fun r2 =>
(cond r2
(strings_ContainsAny N a0 ((strOf [33, 94])) fun r3 =>
k (!r3))
(k false))
theorem t_impl_IsMonotoneFormula {β : Type} (N : Nat) (a0 : ByteArray) (k : Bool → Option β) : impl_IsMonotoneFormula N a0 k = BV_impl_IsMonotoneFormula N (impl_IsFormula N) a0 k := by
  unfold impl_IsMonotoneFormula BV_impl_IsMonotoneFormula
  rfl
theorem ve14_0 {β : Type} (N : Nat) (q_impl_IsFormula : (a0 : ByteArray) → (k : Bool → Option β) → Option β)  (a0 : ByteArray) (K : TV → Option β) : evFn lay (VE14 N q_impl_IsFormula) Try.f14 [.v (.one (.str a0))] K = BV_impl_IsMonotoneFormula N q_impl_IsFormula a0 (fun z1 => K (.v (.one (.bool z1)))) := by kernel_rfl
theorem e14_0 {β : Type} (N : Nat)  (a0 : ByteArray) (K : TV → Option β) : evFn lay (E14 N) Try.f14 [.v (.one (.str a0))] K = impl_IsMonotoneFormula N a0 (fun z1 => K (.v (.one (.bool z1)))) := (ve14_0 N (impl_IsFormula N) a0 K).trans (t_impl_IsMonotoneFormula N a0 (fun z1 => K (.v (.one (.bool z1))))).symm
theorem o14 {β : Type} (N : Nat) : SpecOK (β := β) inv Try.prog 14 (S14 N) := by
  refine spec_of lay_ok mixed (E := E14 N) (specs_loops (specs_cons (o8 N) (specs_cons (o45 N) specs_nil))) muts_nil gs_nil Try.func14 (by kernel_rfl) 0 (by kernel_rfl) trivial fun args K r h => ?_
  unfold S14 VS14 at h
  split at h
  · exact (e14_0 N _ _).trans h
  · cases h
def VS46 {β : Type} (N : Nat) (q_impl_IsTable : (a0 : Int) → (a1 : Int) → (k : Bool → Option β) → Option β) : Rv.Spec β := fun args K => match args with
  | [.v (.agg [.int .i64 a0, .int .i64 a1])] => q_impl_IsTable a0 a1 (fun z2 => K (.v (.one (.bool z2))))
  | _ => none
def S46 {β : Type} (N : Nat) : Rv.Spec β := VS46 N (impl_IsTable N)
def VE46 {β : Type} (N : Nat) (q_impl_isBits : (a0 : Int) → (k : Bool → Option β) → Option β) (q_impl_Table_size : (a0 : Int) → (a1 : Int) → (k : Int → Option β) → Option β) : Env β := ⟨[(32, VS32 N q_impl_isBits), (66, VS66 N q_impl_Table_size)], [], [], [], ⟨[], [], [], []⟩⟩
def E46 {β : Type} (N : Nat) : Env β := VE46 N (impl_isBits N) (impl_Table_size N)
def BV_impl_IsTable {β : Type} (N : Nat) (q_impl_isBits : (a0 : Int) → (k : Bool → Option β) → Option β) (q_impl_Table_size : (a0 : Int) → (a1 : Int) → (k : Int → Option β) → Option β) (a0 : Int) (a1 : Int) (k : Bool → Option β) : Option β :=
q_impl_isBits a0 fun r3 =>
(cond r3
((cond ((decide (a1 ≥ 0)))
(q_impl_Table_size a0 a1 fun r4 =>
(gd ((decide (0 ≤ r4)))
(k (((shrI .i64 a1 r4) == 0)))))
(k false)))
(k false))
theorem t_impl_IsTable {β : Type} (N : Nat) (a0 : Int) (a1 : Int) (k : Bool → Option β) : impl_IsTable N a0 a1 k = BV_impl_IsTable N (impl_isBits N) (impl_Table_size N) a0 a1 k := by
  unfold impl_IsTable BV_impl_IsTable
  rfl
theorem ve46_0 {β : Type} (N : Nat) (q_impl_isBits : (a0 : Int) → (k : Bool → Option β) → Option β) (q_impl_Table_size : (a0 : Int) → (a1 : Int) → (k : Int → Option β) → Option β)  (a0 : Int) (a1 : Int) (K : TV → Option β) : evFn lay (VE46 N q_impl_isBits q_impl_Table_size) Try.f46 [.v (.agg [.int .i64 a0, .int .i64 a1])] K = BV_impl_IsTable N q_impl_isBits q_impl_Table_size a0 a1 (fun z2 => K (.v (.one (.bool z2)))) := by kernel_rfl
theorem e46_0 {β : Type} (N : Nat)  (a0 : Int) (a1 : Int) (K : TV → Option β) : evFn lay (E46 N) Try.f46 [.v (.agg [.int .i64 a0, .int .i64 a1])] K = impl_IsTable N a0 a1 (fun z2 => K (.v (.one (.bool z2)))) := (ve46_0 N (impl_isBits N) (impl_Table_size N) a0 a1 K).trans (t_impl_IsTable N a0 a1 (fun z2 => K (.v (.one (.bool z2))))).symm
theorem o46 {β : Type} (N : Nat) : SpecOK (β := β) inv Try.prog 46 (S46 N) := by
  refine spec_of lay_ok mixed (E := E46 N) (specs_loops (specs_cons (o32 N) (specs_cons (o66 N) specs_nil))) muts_nil gs_nil Try.func46 (by kernel_rfl) 0 (by kernel_rfl) trivial fun args K r h => ?_
  unfold S46 VS46 at h
  split at h
  · exact (e46_0 N _ _ _).trans h
  · cases h
def VS67 {β : Type} (N : Nat) (q_impl_Table_restrict : (a0 : Int) → (a1 : Int) → (a2 : Int) → (a3 : Int) → (k : Int → Int → Option β) → Option β) : Rv.Spec β := fun args K => match args with
  | [.v (.agg [.int .i64 a0, .int .i64 a1]), .v (.one (.int .i64 a2)), .v (.one (.int .i64 a3))] => q_impl_Table_restrict a0 a1 a2 a3 (fun z4 z5 => K (.v (.agg [.int .i64 z4, .int .i64 z5])))
  | _ => none
def S67 {β : Type} (N : Nat) : Rv.Spec β := VS67 N (impl_Table_restrict N)
def VE67 {β : Type} (N : Nat) (q_impl_makeTable : (a0 : Int) → (a1 : (Int → (Bool → Option β) → Option β)) → (k : Int → Int → Option β) → Option β) (q_impl_part_table_1 : (a0 : Int) → (c0 : Tr) → (k : Bool → Option β) → Option β) (q_impl_variable_1 : (a0 : Int) → (c0 : Int) → (k : Bool → Option β) → Option β) (q_impl_Table_restrict_1 : (a0 : Int) → (c0 : Int) → (c1 : Int) → (c2 : Int) → (c3 : Int) → (k : Bool → Option β) → Option β) : Env β := ⟨[(61, VS61 N q_impl_makeTable q_impl_part_table_1 q_impl_variable_1 q_impl_Table_restrict_1), (79, VS79 N q_impl_Table_restrict_1)], [], [], [], ⟨[], [], [], []⟩⟩
def E67 {β : Type} (N : Nat) : Env β := VE67 N (impl_makeTable N) (impl_part_table_1 N) (impl_variable_1 N) (impl_Table_restrict_1 N)
def BV_impl_Table_restrict {β : Type} (N : Nat) (q_impl_makeTable : (a0 : Int) → (a1 : (Int → (Bool → Option β) → Option β)) → (k : Int → Int → Option β) → Option β) (q_impl_Table_restrict_1 : (a0 : Int) → (c0 : Int) → (c1 : Int) → (c2 : Int) → (c3 : Int) → (k : Bool → Option β) → Option β) (a0 : Int) (a1 : Int) (a2 : Int) (a3 : Int) (k : Int → Int → Option β) : Option β :=
q_impl_makeTable ((w64 (a0 - 1))) (fun x0 k => q_impl_Table_restrict_1 x0 a0 a1 a2 a3 k) fun r6 r7 =>
k r6 r7
theorem t_impl_Table_restrict {β : Type} (N : Nat) (a0 : Int) (a1 : Int) (a2 : Int) (a3 : Int) (k : Int → Int → Option β) : impl_Table_restrict N a0 a1 a2 a3 k = BV_impl_Table_restrict N (impl_makeTable N) (impl_Table_restrict_1 N) a0 a1 a2 a3 k := by
  unfold impl_Table_restrict BV_impl_Table_restrict
  rfl
theorem ve67_0 {β : Type} (N : Nat) (q_impl_makeTable : (a0 : Int) → (a1 : (Int → (Bool → Option β) → Option β)) → (k : Int → Int → Option β) → Option β) (q_impl_part_table_1 : (a0 : Int) → (c0 : Tr) → (k : Bool → Option β) → Option β) (q_impl_variable_1 : (a0 : Int) → (c0 : Int) → (k : Bool → Option β) → Option β) (q_impl_Table_restrict_1 : (a0 : Int) → (c0 : Int) → (c1 : Int) → (c2 : Int) → (c3 : Int) → (k : Bool → Option β) → Option β)  (a0 : Int) (a1 : Int) (a2 : Int) (a3 : Int) (K : TV → Option β) : evFn lay (VE67 N q_impl_makeTable q_impl_part_table_1 q_impl_variable_1 q_impl_Table_restrict_1) Try.f67 [.v (.agg [.int .i64 a0, .int .i64 a1]), .v (.one (.int .i64 a2)), .v (.one (.int .i64 a3))] K = BV_impl_Table_restrict N q_impl_makeTable q_impl_Table_restrict_1 a0 a1 a2 a3 (fun z4 z5 => K (.v (.agg [.int .i64 z4, .int .i64 z5]))) := by kernel_rfl
theorem e67_0 {β : Type} (N : Nat)  (a0 : Int) (a1 : Int) (a2 : Int) (a3 : Int) (K : TV → Option β) : evFn lay (E67 N) Try.f67 [.v (.agg [.int .i64 a0, .int .i64 a1]), .v (.one (.int .i64 a2)), .v (.one (.int .i64 a3))] K = impl_Table_restrict N a0 a1 a2 a3 (fun z4 z5 => K (.v (.agg [.int .i64 z4, .int .i64 z5]))) := (ve67_0 N (impl_makeTable N) (impl_part_table_1 N) (impl_variable_1 N) (impl_Table_restrict_1 N) a0 a1 a2 a3 K).trans (t_impl_Table_restrict N a0 a1 a2 a3 (fun z4 z5 => K (.v (.agg [.int .i64 z4, .int .i64 z5])))).symm
theorem o67 {β : Type} (N : Nat) : SpecOK (β := β) inv Try.prog 67 (S67 N) := by
  refine spec_of lay_ok mixed (E := E67 N) (specs_loops (specs_cons (o61 N) (specs_cons (o79 N) specs_nil))) muts_nil gs_nil Try.func67 (by kernel_rfl) 0 (by kernel_rfl) trivial fun args K r h => ?_
  unfold S67 VS67 at h
  split at h
  · exact (e67_0 N _ _ _ _ _).trans h
  · cases h
def VS47 {β : Type} (N : Nat) (q_impl_Table_isMonotone : (a0 : Int) → (a1 : Int) → (k : Bool → Option β) → Option β) : Rv.Spec β := fun args K => match args with
  | [.v (.agg [.int .i64 a0, .int .i64 a1])] => q_impl_Table_isMonotone a0 a1 (fun z2 => K (.v (.one (.bool z2))))
  | _ => none
def S47 {β : Type} (N : Nat) : Rv.Spec β := VS47 N (impl_Table_isMonotone N)
def h47_0_0  (v0 : Int) (v1 : Int) (v2 : Int) (v3 : Int) : St := ⟨.v (.one .und) :: .v (.one (.ptr 0 0)) :: .v (.one .und) :: .v (.one .und) :: .v (.one .und) :: .v (.one (.int .i64 v0)) :: .v (.one (.int .i64 v1)) :: .v (.one .und) :: .v (.one .und) :: .v (.one .und) :: .v (.one .und) :: .v (.one .und) :: .v (.one .und) :: .v (.one .und) :: .v (.one .und) :: .v (.one .und) :: .v (.one .und) :: .v (.one .und) :: .v (.one .und) :: .v (.one .und) :: [], [.cells 27 [.int .i64 v2, .int .i64 v3]]⟩
def x47_0_0_k0  (y0 : Bool) : St := ⟨.v (.one .und) :: .v (.one .und) :: .v (.one (.bool y0)) :: .v (.one .und) :: .v (.one .und) :: .v (.one .und) :: .v (.one .und) :: .v (.one .und) :: .v (.one .und) :: .v (.one .und) :: .v (.one .und) :: .v (.one .und) :: .v (.one .und) :: .v (.one .und) :: .v (.one .und) :: .v (.one .und) :: .v (.one .und) :: .v (.one .und) :: .v (.one .und) :: .v (.one .und) :: [], []⟩
def x47_0_0_k1   : St := ⟨.v (.one .und) :: .v (.one .und) :: .v (.one .und) :: .v (.one .und) :: .v (.one .und) :: .v (.one .und) :: .v (.one .und) :: .v (.one .und) :: .v (.one .und) :: .v (.one .und) :: .v (.one .und) :: .v (.one .und) :: .v (.one .und) :: .v (.one .und) :: .v (.one .und) :: .v (.one .und) :: .v (.one .und) :: .v (.one .und) :: .v (.one .und) :: .v (.one .und) :: [], []⟩
theorem fl47_0_0 (s : St) : refSt (h47_0_0 0 0 0 0) s = h47_0_0 (intS (oneA (vT (nx tund s.tmps 5)))) (intS (oneA (vT (nx tund s.tmps 6)))) (intS (nx .und (cellsB (nx .dead s.blks 0)) 0)) (intS (nx .und (cellsB (nx .dead s.blks 0)) 1)) := by kernel_rfl
def VLS47_0 {β : Type} (N : Nat) (q_impl_Table_isMonotone_l0 : Nat → Int → Int → Int → Int → (Bool → Option β) → (Option β) → Option β) : LSpec β := fun s K => cond (shpSt (h47_0_0 0 0 0 0) s) ((fun (v0 : Int) (v1 : Int) (v2 : Int) (v3 : Int) => q_impl_Table_isMonotone_l0  N v0 v1 v2 v3 (fun y0 => K .ret (x47_0_0_k0  y0)) (K (.exit 0) (x47_0_0_k1  ))) (intS (oneA (vT (nx tund s.tmps 5)))) (intS (oneA (vT (nx tund s.tmps 6)))) (intS (nx .und (cellsB (nx .dead s.blks 0)) 0)) (intS (nx .und (cellsB (nx .dead s.blks 0)) 1))) (none)
def LS47_0 {β : Type} (N : Nat) : LSpec β := VLS47_0 N (impl_Table_isMonotone_l0 N)
def VE47 {β : Type} (N : Nat) (q_impl_Table_restrict : (a0 : Int) → (a1 : Int) → (a2 : Int) → (a3 : Int) → (k : Int → Int → Option β) → Option β) (q_impl_Table_isMonotone_l0 : Nat → Int → Int → Int → Int → (Bool → Option β) → (Option β) → Option β) : Env β := ⟨[(67, VS67 N q_impl_Table_restrict)], [], [(0, VLS47_0 N q_impl_Table_isMonotone_l0)], [], ⟨[], [], [], []⟩⟩
def E47 {β : Type} (N : Nat) : Env β := VE47 N (impl_Table_restrict N) (impl_Table_isMonotone_l0 N)
def BV_impl_Table_isMonotone_l0b {β : Type} (N : Nat) (q_impl_Table_restrict : (a0 : Int) → (a1 : Int) → (a2 : Int) → (a3 : Int) → (k : Int → Int → Option β) → Option β)  (v0 : Int) (v1 : Int) (v2 : Int) (v3 : Int) (rec_ : Int → Int → Int → Int → Option β) (k0 : Bool → Option β) (k1 : Option β) : Option β :=
(cond ((decide (v1 < v0)))
(q_impl_Table_restrict v2 v3 v1 0 fun r3 r4 =>
q_impl_Table_restrict v2 v3 v1 1 fun r5 r6 =>
(cond (((bits .andNot .i64 r4 r6) != 0))
(k0 false)
(rec_ v0 ((w64 (v1 + 1))) v2 v3)))
(k1 ))
theorem t_impl_Table_isMonotone_l0b {β : Type} (N : Nat)  (v0 : Int) (v1 : Int) (v2 : Int) (v3 : Int) (rec_ : Int → Int → Int → Int → Option β) (k0 : Bool → Option β) (k1 : Option β) : impl_Table_isMonotone_l0b N v0 v1 v2 v3 rec_ k0 k1 = BV_impl_Table_isMonotone_l0b N (impl_Table_restrict N) v0 v1 v2 v3 rec_ k0 k1 := by
  unfold impl_Table_isMonotone_l0b BV_impl_Table_isMonotone_l0b
  rfl
theorem vst47_0_0 {β : Type} (N : Nat) (q_impl_Table_restrict : (a0 : Int) → (a1 : Int) → (a2 : Int) → (a3 : Int) → (k : Int → Int → Option β) → Option β) (q_impl_Table_isMonotone_l0 : Nat → Int → Int → Int → Int → (Bool → Option β) → (Option β) → Option β)  (v0 : Int) (v1 : Int) (v2 : Int) (v3 : Int) (rec_ : St → Option β) (K : Exit → St → Option β) :
    ev lay (VE47 N q_impl_Table_restrict q_impl_Table_isMonotone_l0) (retMask Try.f47) (lp Try.f47 0).body (lp Try.f47 0).ex ((lp Try.f47 0).lv (retMask Try.f47)) (h47_0_0  v0 v1 v2 v3) (nextR (fun s' => rec_ (s'.tidy ((lp Try.f47 0).lv (retMask Try.f47)))) K) = BV_impl_Table_isMonotone_l0b N q_impl_Table_restrict  v0 v1 v2 v3 (fun v0 v1 v2 v3 => rec_ (h47_0_0  v0 v1 v2 v3)) (fun y0 => K .ret (x47_0_0_k0  y0)) (K (.exit 0) (x47_0_0_k1  )) := by kernel_rfl
theorem st47_0_0 {β : Type} (N : Nat)  (v0 : Int) (v1 : Int) (v2 : Int) (v3 : Int) (rec_ : St → Option β) (K : Exit → St → Option β) :
    ev lay (E47 N) (retMask Try.f47) (lp Try.f47 0).body (lp Try.f47 0).ex ((lp Try.f47 0).lv (retMask Try.f47)) (h47_0_0  v0 v1 v2 v3) (nextR (fun s' => rec_ (s'.tidy ((lp Try.f47 0).lv (retMask Try.f47)))) K) = impl_Table_isMonotone_l0b N  v0 v1 v2 v3 (fun v0 v1 v2 v3 => rec_ (h47_0_0  v0 v1 v2 v3)) (fun y0 => K .ret (x47_0_0_k0  y0)) (K (.exit 0) (x47_0_0_k1  )) := (vst47_0_0 N (impl_Table_restrict N) (impl_Table_isMonotone_l0 N) v0 v1 v2 v3 rec_ K).trans (t_impl_Table_isMonotone_l0b N  v0 v1 v2 v3 (fun v0 v1 v2 v3 => rec_ (h47_0_0  v0 v1 v2 v3)) (fun y0 => K .ret (x47_0_0_k0  y0)) (K (.exit 0) (x47_0_0_k1  ))).symm
theorem ro47_0_0 {β : Type} (N : Nat)  (K : Exit → St → Option β) : ∀ (F : Nat) (v0 : Int) (v1 : Int) (v2 : Int) (v3 : Int), (lp Try.f47 0).rounds lay (E47 N) (retMask Try.f47) F (h47_0_0  v0 v1 v2 v3) K = impl_Table_isMonotone_l0 N  F v0 v1 v2 v3 (fun y0 => K .ret (x47_0_0_k0  y0)) (K (.exit 0) (x47_0_0_k1  )) := by
  intro F
  induction F with
  | zero => intros; rfl
  | succ F ih =>
    intros
    rw [rounds_next]
    refine (st47_0_0 N  _ _ _ _ (fun s => (lp Try.f47 0).rounds lay (E47 N) (retMask Try.f47) F s K) K).trans ?_
    simp only [ih]
    rfl
theorem lk47_0 {β : Type} (N : Nat) : lookL (E47 (β := β) N).loops (lp Try.f47 0).id = LS47_0 N := by kernel_rfl
theorem rk47_0 {β : Type} (N : Nat) : RoundsOK lay (E47 (β := β) N) (retMask Try.f47) (lp Try.f47 0) := by
  intro s K r h
  rw [lk47_0] at h
  unfold LS47_0 VLS47_0 at h
  cases hb : shpSt (h47_0_0 0 0 0 0) s with
  | true =>
    rw [hb, cond_true] at h
    exact ⟨N, by rw [← shpSt_ref hb, fl47_0_0 s]; exact (ro47_0_0 N  K N (intS (oneA (vT (nx tund s.tmps 5)))) (intS (oneA (vT (nx tund s.tmps 6)))) (intS (nx .und (cellsB (nx .dead s.blks 0)) 0)) (intS (nx .und (cellsB (nx .dead s.blks 0)) 1))).trans h⟩
  | false =>
  rw [hb, cond_false] at h
  clear hb
  cases h
def BV_impl_Table_isMonotone {β : Type} (N : Nat) (q_impl_Table_isMonotone_l0 : Nat → Int → Int → Int → Int → (Bool → Option β) → (Option β) → Option β) (a0 : Int) (a1 : Int) (k : Bool → Option β) : Option β :=
q_impl_Table_isMonotone_l0  N a0 0 a0 a1 (fun e7_0 =>
k e7_0) (k true)
theorem t_impl_Table_isMonotone {β : Type} (N : Nat) (a0 : Int) (a1 : Int) (k : Bool → Option β) : impl_Table_isMonotone N a0 a1 k = BV_impl_Table_isMonotone N (impl_Table_isMonotone_l0 N) a0 a1 k := by
  unfold impl_Table_isMonotone BV_impl_Table_isMonotone
  rfl
theorem ve47_0 {β : Type} (N : Nat) (q_impl_Table_restrict : (a0 : Int) → (a1 : Int) → (a2 : Int) → (a3 : Int) → (k : Int → Int → Option β) → Option β) (q_impl_Table_isMonotone_l0 : Nat → Int → Int → Int → Int → (Bool → Option β) → (Option β) → Option β)  (a0 : Int) (a1 : Int) (K : TV → Option β) : evFn lay (VE47 N q_impl_Table_restrict q_impl_Table_isMonotone_l0) Try.f47 [.v (.agg [.int .i64 a0, .int .i64 a1])] K = BV_impl_Table_isMonotone N q_impl_Table_isMonotone_l0 a0 a1 (fun z2 => K (.v (.one (.bool z2)))) := by kernel_rfl
theorem e47_0 {β : Type} (N : Nat)  (a0 : Int) (a1 : Int) (K : TV → Option β) : evFn lay (E47 N) Try.f47 [.v (.agg [.int .i64 a0, .int .i64 a1])] K = impl_Table_isMonotone N a0 a1 (fun z2 => K (.v (.one (.bool z2)))) := (ve47_0 N (impl_Table_restrict N) (impl_Table_isMonotone_l0 N) a0 a1 K).trans (t_impl_Table_isMonotone N a0 a1 (fun z2 => K (.v (.one (.bool z2))))).symm
theorem o47 {β : Type} (N : Nat) : SpecOK (β := β) inv Try.prog 47 (S47 N) := by
  refine spec_of lay_ok mixed (E := E47 N) (specs_loops (specs_cons (o67 N) specs_nil)) muts_nil gs_nil Try.func47 (by kernel_rfl) 1 (by kernel_rfl) ⟨trivial, rk47_0 N⟩ fun args K r h => ?_
  unfold S47 VS47 at h
  split at h
  · exact (e47_0 N _ _ _).trans h
  · cases h
def VS15 {β : Type} (N : Nat) (q_impl_IsMonotone : (a0 : Int) → (a1 : Int) → (k : Bool → Option β) → Option β) : Rv.Spec β := fun args K => match args with
  | [.v (.agg [.int .i64 a0, .int .i64 a1])] => q_impl_IsMonotone a0 a1 (fun z2 => K (.v (.one (.bool z2))))
  | _ => none
def S15 {β : Type} (N : Nat) : Rv.Spec β := VS15 N (impl_IsMonotone N)
def VE15 {β : Type} (N : Nat) (q_impl_IsTable : (a0 : Int) → (a1 : Int) → (k : Bool → Option β) → Option β) (q_impl_Table_isMonotone : (a0 : Int) → (a1 : Int) → (k : Bool → Option β) → Option β) : Env β := ⟨[(46, VS46 N q_impl_IsTable), (47, VS47 N q_impl_Table_isMonotone)], [], [], [], ⟨[], [], [], []⟩⟩
def E15 {β : Type} (N : Nat) : Env β := VE15 N (impl_IsTable N) (impl_Table_isMonotone N)
def BV_impl_IsMonotone {β : Type} (N : Nat) (q_impl_IsTable : (a0 : Int) → (a1 : Int) → (k : Bool → Option β) → Option β) (q_impl_Table_isMonotone : (a0 : Int) → (a1 : Int) → (k : Bool → Option β) → Option β) (a0 : Int) (a1 : Int) (k : Bool → Option β) : Option β :=
q_impl_IsTable a0 a1 fun r3 =>
(cond r3
(q_impl_Table_isMonotone a0 a1 fun r4 =>
k r4)
(k false))
theorem t_impl_IsMonotone {β : Type} (N : Nat) (a0 : Int) (a1 : Int) (k : Bool → Option β) : impl_IsMonotone N a0 a1 k = BV_impl_IsMonotone N (impl_IsTable N) (impl_Table_isMonotone N) a0 a1 k := by
  unfold impl_IsMonotone BV_impl_IsMonotone
  rfl
theorem ve15_0 {β : Type} (N : Nat) (q_impl_IsTable : (a0 : Int) → (a1 : Int) → (k : Bool → Option β) → Option β) (q_impl_Table_isMonotone : (a0 : Int) → (a1 : Int) → (k : Bool → Option β) → Option β)  (a0 : Int) (a1 : Int) (K : TV → Option β) : evFn lay (VE15 N q_impl_IsTable q_impl_Table_isMonotone) Try.f15 [.v (.agg [.int .i64 a0, .int .i64 a1])] K = BV_impl_IsMonotone N q_impl_IsTable q_impl_Table_isMonotone a0 a1 (fun z2 => K (.v (.one (.bool z2)))) := by kernel_rfl
theorem e15_0 {β : Type} (N : Nat)  (a0 : Int) (a1 : Int) (K : TV → Option β) : evFn lay (E15 N) Try.f15 [.v (.agg [.int .i64 a0, .int .i64 a1])] K = impl_IsMonotone N a0 a1 (fun z2 => K (.v (.one (.bool z2)))) := (ve15_0 N (impl_IsTable N) (impl_Table_isMonotone N) a0 a1 K).trans (t_impl_IsMonotone N a0 a1 (fun z2 => K (.v (.one (.bool z2))))).symm
theorem o15 {β : Type} (N : Nat) : SpecOK (β := β) inv Try.prog 15 (S15 N) := by
  refine spec_of lay_ok mixed (E := E15 N) (specs_loops (specs_cons (o46 N) (specs_cons (o47 N) specs_nil))) muts_nil gs_nil Try.func15 (by kernel_rfl) 0 (by kernel_rfl) trivial fun args K r h => ?_
  unfold S15 VS15 at h
  split at h
  · exact (e15_0 N _ _ _).trans h
  · cases h
def VS16 {β : Type} (N : Nat) (q_impl_IsReadOnce : (a0 : ByteArray) → (k : Bool → Option β) → Option β) : Rv.Spec β := fun args K => match args with
  | [.v (.one (.str a0))] => q_impl_IsReadOnce a0 (fun z1 => K (.v (.one (.bool z1))))
  | _ => none
def S16 {β : Type} (N : Nat) : Rv.Spec β := VS16 N (impl_IsReadOnce N)
def h16_0_0  (v0 : ByteArray) (v1 : Int) : St := ⟨.v (.one (.str v0)) :: .v (.one .und) :: .v (.one .und) :: .v (.one .und) :: .v (.one (.int .u8 v1)) :: .v (.one .und) :: .v (.one .und) :: .v (.one .und) :: .v (.one .und) :: .v (.one .und) :: .v (.one .und) :: .v (.one .und) :: .v (.one .und) :: .v (.one .und) :: .v (.one .und) :: .v (.one .und) :: .v (.one .und) :: [], []⟩
def x16_0_0_k0  (y0 : Bool) : St := ⟨.v (.one .und) :: .v (.one .und) :: .v (.one (.bool y0)) :: .v (.one .und) :: .v (.one .und) :: .v (.one .und) :: .v (.one .und) :: .v (.one .und) :: .v (.one .und) :: .v (.one .und) :: .v (.one .und) :: .v (.one .und) :: .v (.one .und) :: .v (.one .und) :: .v (.one .und) :: .v (.one .und) :: .v (.one .und) :: [], []⟩
def x16_0_0_k1  (y0 : ByteArray) : St := ⟨.v (.one (.str y0)) :: .v (.one .und) :: .v (.one .und) :: .v (.one .und) :: .v (.one .und) :: .v (.one .und) :: .v (.one .und) :: .v (.one .und) :: .v (.one .und) :: .v (.one .und) :: .v (.one .und) :: .v (.one .und) :: .v (.one .und) :: .v (.one .und) :: .v (.one .und) :: .v (.one .und) :: .v (.one .und) :: [], []⟩
theorem fl16_0_0 (s : St) : refSt (h16_0_0 ByteArray.empty 0) s = h16_0_0 (strS (oneA (vT (nx tund s.tmps 0)))) (intS (oneA (vT (nx tund s.tmps 4)))) := by kernel_rfl
def VLS16_0 {β : Type} (N : Nat) (q_impl_IsReadOnce_l0 : Nat → ByteArray → Int → (Bool → Option β) → (ByteArray → Option β) → Option β) : LSpec β := fun s K => cond (shpSt (h16_0_0 ByteArray.empty 0) s) ((fun (v0 : ByteArray) (v1 : Int) => q_impl_IsReadOnce_l0  N v0 v1 (fun y0 => K .ret (x16_0_0_k0  y0)) (fun y0 => K (.exit 0) (x16_0_0_k1  y0))) (strS (oneA (vT (nx tund s.tmps 0)))) (intS (oneA (vT (nx tund s.tmps 4))))) (none)
def LS16_0 {β : Type} (N : Nat) : LSpec β := VLS16_0 N (impl_IsReadOnce_l0 N)
def VE16 {β : Type} (N : Nat) (q_impl_IsFormula : (a0 : ByteArray) → (k : Bool → Option β) → Option β) (q_impl_IsReadOnce_l0 : Nat → ByteArray → Int → (Bool → Option β) → (ByteArray → Option β) → Option β) : Env β := ⟨[(48, S48 N), (8, VS8 N q_impl_IsFormula)], [], [(0, VLS16_0 N q_impl_IsReadOnce_l0)], [], ⟨[], [], [], []⟩⟩
def E16 {β : Type} (N : Nat) : Env β := VE16 N (impl_IsFormula N) (impl_IsReadOnce_l0 N)
def BV_impl_IsReadOnce_l0b {β : Type} (N : Nat)  (v0 : ByteArray) (v1 : Int) (rec_ : ByteArray → Int → Option β) (k0 : Bool → Option β) (k1 : ByteArray → Option β) : Option β :=
(cond ((decide (v1 < 5)))
(strings_Count N v0 ((strOf ((([] : List Int) ++ [(w8 (97 + v1))])))) fun r2 =>
(cond ((decide (r2 > 1)))
(k0 false)
(rec_ v0 ((w8 (v1 + 1))))))
(k1 v0))
theorem t_impl_IsReadOnce_l0b {β : Type} (N : Nat)  (v0 : ByteArray) (v1 : Int) (rec_ : ByteArray → Int → Option β) (k0 : Bool → Option β) (k1 : ByteArray → Option β) : impl_IsReadOnce_l0b N v0 v1 rec_ k0 k1 = BV_impl_IsReadOnce_l0b N v0 v1 rec_ k0 k1 := by
  unfold impl_IsReadOnce_l0b BV_impl_IsReadOnce_l0b
  rfl
theorem vst16_0_0 {β : Type} (N : Nat) (q_impl_IsFormula : (a0 : ByteArray) → (k : Bool → Option β) → Option β) (q_impl_IsReadOnce_l0 : Nat → ByteArray → Int → (Bool → Option β) → (ByteArray → Option β) → Option β)  (v0 : ByteArray) (v1 : Int) (rec_ : St → Option β) (K : Exit → St → Option β) :
    ev lay (VE16 N q_impl_IsFormula q_impl_IsReadOnce_l0) (retMask Try.f16) (lp Try.f16 0).body (lp Try.f16 0).ex ((lp Try.f16 0).lv (retMask Try.f16)) (h16_0_0  v0 v1) (nextR (fun s' => rec_ (s'.tidy ((lp Try.f16 0).lv (retMask Try.f16)))) K) = BV_impl_IsReadOnce_l0b N  v0 v1 (fun v0 v1 => rec_ (h16_0_0  v0 v1)) (fun y0 => K .ret (x16_0_0_k0  y0)) (fun y0 => K (.exit 0) (x16_0_0_k1  y0)) := by kernel_rfl
theorem st16_0_0 {β : Type} (N : Nat)  (v0 : ByteArray) (v1 : Int) (rec_ : St → Option β) (K : Exit → St → Option β) :
    ev lay (E16 N) (retMask Try.f16) (lp Try.f16 0).body (lp Try.f16 0).ex ((lp Try.f16 0).lv (retMask Try.f16)) (h16_0_0  v0 v1) (nextR (fun s' => rec_ (s'.tidy ((lp Try.f16 0).lv (retMask Try.f16)))) K) = impl_IsReadOnce_l0b N  v0 v1 (fun v0 v1 => rec_ (h16_0_0  v0 v1)) (fun y0 => K .ret (x16_0_0_k0  y0)) (fun y0 => K (.exit 0) (x16_0_0_k1  y0)) := (vst16_0_0 N (impl_IsFormula N) (impl_IsReadOnce_l0 N) v0 v1 rec_ K).trans (t_impl_IsReadOnce_l0b N  v0 v1 (fun v0 v1 => rec_ (h16_0_0  v0 v1)) (fun y0 => K .ret (x16_0_0_k0  y0)) (fun y0 => K (.exit 0) (x16_0_0_k1  y0))).symm
theorem ro16_0_0 {β : Type} (N : Nat)  (K : Exit → St → Option β) : ∀ (F : Nat) (v0 : ByteArray) (v1 : Int), (lp Try.f16 0).rounds lay (E16 N) (retMask Try.f16) F (h16_0_0  v0 v1) K = impl_IsReadOnce_l0 N  F v0 v1 (fun y0 => K .ret (x16_0_0_k0  y0)) (fun y0 => K (.exit 0) (x16_0_0_k1  y0)) := by
  intro F
  induction F with
  | zero => intros; rfl
  | succ F ih =>
    intros
    rw [rounds_next]
    refine (st16_0_0 N  _ _ (fun s => (lp Try.f16 0).rounds lay (E16 N) (retMask Try.f16) F s K) K).trans ?_
    simp only [ih]
    rfl
theorem lk16_0 {β : Type} (N : Nat) : lookL (E16 (β := β) N).loops (lp Try.f16 0).id = LS16_0 N := by kernel_rfl
theorem rk16_0 {β : Type} (N : Nat) : RoundsOK lay (E16 (β := β) N) (retMask Try.f16) (lp Try.f16 0) := by
  intro s K r h
  rw [lk16_0] at h
  unfold LS16_0 VLS16_0 at h
  cases hb : shpSt (h16_0_0 ByteArray.empty 0) s with
  | true =>
    rw [hb, cond_true] at h
    exact ⟨N, by rw [← shpSt_ref hb, fl16_0_0 s]; exact (ro16_0_0 N  K N (strS (oneA (vT (nx tund s.tmps 0)))) (intS (oneA (vT (nx tund s.tmps 4))))).trans h⟩
  | false =>
  rw [hb, cond_false] at h
  clear hb
  cases h
def BV_impl_IsReadOnce {β : Type} (N : Nat) (q_impl_IsReadOnce_l0 : Nat → ByteArray → Int → (Bool → Option β) → (ByteArray → Option β) → Option β) (q_impl_IsFormula : (a0 : ByteArray) → (k : Bool → Option β) → Option β) (a0 : ByteArray) (k : Bool → Option β) : Option β :=
q_impl_IsReadOnce_l0  N a0 0 (fun e3_0 =>
k e3_0) (fun e4_0 =>
q_impl_IsFormula e4_0 fun r5 =>
k r5)
theorem t_impl_IsReadOnce {β : Type} (N : Nat) (a0 : ByteArray) (k : Bool → Option β) : impl_IsReadOnce N a0 k = BV_impl_IsReadOnce N (impl_IsReadOnce_l0 N) (impl_IsFormula N) a0 k := by
  unfold impl_IsReadOnce BV_impl_IsReadOnce
  rfl
theorem ve16_0 {β : Type} (N : Nat) (q_impl_IsFormula : (a0 : ByteArray) → (k : Bool → Option β) → Option β) (q_impl_IsReadOnce_l0 : Nat → ByteArray → Int → (Bool → Option β) → (ByteArray → Option β) → Option β)  (a0 : ByteArray) (K : TV → Option β) : evFn lay (VE16 N q_impl_IsFormula q_impl_IsReadOnce_l0) Try.f16 [.v (.one (.str a0))] K = BV_impl_IsReadOnce N q_impl_IsReadOnce_l0 q_impl_IsFormula a0 (fun z1 => K (.v (.one (.bool z1)))) := by kernel_rfl
theorem e16_0 {β : Type} (N : Nat)  (a0 : ByteArray) (K : TV → Option β) : evFn lay (E16 N) Try.f16 [.v (.one (.str a0))] K = impl_IsReadOnce N a0 (fun z1 => K (.v (.one (.bool z1)))) := (ve16_0 N (impl_IsFormula N) (impl_IsReadOnce_l0 N) a0 K).trans (t_impl_IsReadOnce N a0 (fun z1 => K (.v (.one (.bool z1))))).symm
theorem o16 {β : Type} (N : Nat) : SpecOK (β := β) inv Try.prog 16 (S16 N) := by
  refine spec_of lay_ok mixed (E := E16 N) (specs_loops (specs_cons (o48 N) (specs_cons (o8 N) specs_nil))) muts_nil gs_nil Try.func16 (by kernel_rfl) 1 (by kernel_rfl) ⟨trivial, rk16_0 N⟩ fun args K r h => ?_
  unfold S16 VS16 at h
  split at h
  · exact (e16_0 N _ _).trans h
  · cases h
def VS49 {β : Type} (N : Nat) (q_impl_Table_depends : (a0 : Int) → (a1 : Int) → (a2 : Int) → (k : Bool → Option β) → Option β) : Rv.Spec β := fun args K => match args with
  | [.v (.agg [.int .i64 a0, .int .i64 a1]), .v (.one (.int .i64 a2))] => q_impl_Table_depends a0 a1 a2 (fun z3 => K (.v (.one (.bool z3))))
  | _ => none
def S49 {β : Type} (N : Nat) : Rv.Spec β := VS49 N (impl_Table_depends N)
def VE49 {β : Type} (N : Nat) (q_impl_Table_restrict : (a0 : Int) → (a1 : Int) → (a2 : Int) → (a3 : Int) → (k : Int → Int → Option β) → Option β) : Env β := ⟨[(67, VS67 N q_impl_Table_restrict)], [], [], [], ⟨[], [], [], []⟩⟩
def E49 {β : Type} (N : Nat) : Env β := VE49 N (impl_Table_restrict N)
def BV_impl_Table_depends {β : Type} (N : Nat) (q_impl_Table_restrict : (a0 : Int) → (a1 : Int) → (a2 : Int) → (a3 : Int) → (k : Int → Int → Option β) → Option β) (a0 : Int) (a1 : Int) (a2 : Int) (k : Bool → Option β) : Option β :=
q_impl_Table_restrict a0 a1 a2 0 fun r4 r5 =>
q_impl_Table_restrict a0 a1 a2 1 fun r6 r7 =>
k ((!((r4 == r6) && (r5 == r7))))
theorem t_impl_Table_depends {β : Type} (N : Nat) (a0 : Int) (a1 : Int) (a2 : Int) (k : Bool → Option β) : impl_Table_depends N a0 a1 a2 k = BV_impl_Table_depends N (impl_Table_restrict N) a0 a1 a2 k := by
  unfold impl_Table_depends BV_impl_Table_depends
  rfl
theorem ve49_0 {β : Type} (N : Nat) (q_impl_Table_restrict : (a0 : Int) → (a1 : Int) → (a2 : Int) → (a3 : Int) → (k : Int → Int → Option β) → Option β)  (a0 : Int) (a1 : Int) (a2 : Int) (K : TV → Option β) : evFn lay (VE49 N q_impl_Table_restrict) Try.f49 [.v (.agg [.int .i64 a0, .int .i64 a1]), .v (.one (.int .i64 a2))] K = BV_impl_Table_depends N q_impl_Table_restrict a0 a1 a2 (fun z3 => K (.v (.one (.bool z3)))) := by kernel_rfl
theorem e49_0 {β : Type} (N : Nat)  (a0 : Int) (a1 : Int) (a2 : Int) (K : TV → Option β) : evFn lay (E49 N) Try.f49 [.v (.agg [.int .i64 a0, .int .i64 a1]), .v (.one (.int .i64 a2))] K = impl_Table_depends N a0 a1 a2 (fun z3 => K (.v (.one (.bool z3)))) := (ve49_0 N (impl_Table_restrict N) a0 a1 a2 K).trans (t_impl_Table_depends N a0 a1 a2 (fun z3 => K (.v (.one (.bool z3))))).symm
theorem o49 {β : Type} (N : Nat) : SpecOK (β := β) inv Try.prog 49 (S49 N) := by
  refine spec_of lay_ok mixed (E := E49 N) (specs_loops (specs_cons (o67 N) specs_nil)) muts_nil gs_nil Try.func49 (by kernel_rfl) 0 (by kernel_rfl) trivial fun args K r h => ?_
  unfold S49 VS49 at h
  split at h
  · exact (e49_0 N _ _ _ _).trans h
  · cases h
def VS17 {β : Type} (N : Nat) (q_impl_VariablesOf : (a0 : Int) → (a1 : Int) → (k : List Int → Option β) → Option β) : Rv.Spec β := fun args K => match args with
  | [.v (.agg [.int .i64 a0, .int .i64 a1])] => q_impl_VariablesOf a0 a1 (fun z2 => K (.v (.one (.sl 3 (.ints .i64 z2)))))
  | _ => none
def S17 {β : Type} (N : Nat) : Rv.Spec β := VS17 N (impl_VariablesOf N)
def h17_0_0  (v0 : Int) (v1 : Int) (v2 : Int) (v3 : Int) (v4 : List Int) : St := ⟨.v (.one .und) :: .v (.one (.ptr 0 0)) :: .v (.one .und) :: .v (.one (.row 1)) :: .v (.one .und) :: .v (.one .und) :: .v (.one .und) :: .v (.one .und) :: .v (.one .und) :: .v (.one (.int .i64 v0)) :: .v (.one (.int .i64 v1)) :: .v (.one .und) :: .v (.one .und) :: .v (.one .und) :: .v (.one .und) :: .v (.one .und) :: .v (.one .und) :: .v (.one .und) :: .v (.one .und) :: .v (.one .und) :: .v (.one .und) :: .v (.one .und) :: [], [.cells 27 [.int .i64 v2, .int .i64 v3], .row 3 (.ints .i64 v4)]⟩
def x17_0_0_k0  (y0 : List Int) : St := ⟨.v (.one .und) :: .v (.one .und) :: .v (.one .und) :: .v (.one (.row 0)) :: .v (.one .und) :: .v (.one .und) :: .v (.one .und) :: .v (.one .und) :: .v (.one .und) :: .v (.one .und) :: .v (.one .und) :: .v (.one .und) :: .v (.one .und) :: .v (.one .und) :: .v (.one .und) :: .v (.one .und) :: .v (.one .und) :: .v (.one .und) :: .v (.one .und) :: .v (.one .und) :: .v (.one .und) :: .v (.one .und) :: [], [.row 3 (.ints .i64 y0)]⟩
theorem fl17_0_0 (s : St) : refSt (h17_0_0 0 0 0 0 []) s = h17_0_0 (intS (oneA (vT (nx tund s.tmps 9)))) (intS (oneA (vT (nx tund s.tmps 10)))) (intS (nx .und (cellsB (nx .dead s.blks 0)) 0)) (intS (nx .und (cellsB (nx .dead s.blks 0)) 1)) (rInts (rowB_ (nx .dead s.blks 1))) := by kernel_rfl
def VLS17_0 {β : Type} (N : Nat) (q_impl_VariablesOf_l0 : Nat → Int → Int → Int → Int → List Int → (List Int → Option β) → Option β) : LSpec β := fun s K => cond (shpSt (h17_0_0 0 0 0 0 []) s) ((fun (v0 : Int) (v1 : Int) (v2 : Int) (v3 : Int) (v4 : List Int) => q_impl_VariablesOf_l0  N v0 v1 v2 v3 v4 (fun y0 => K (.exit 0) (x17_0_0_k0  y0))) (intS (oneA (vT (nx tund s.tmps 9)))) (intS (oneA (vT (nx tund s.tmps 10)))) (intS (nx .und (cellsB (nx .dead s.blks 0)) 0)) (intS (nx .und (cellsB (nx .dead s.blks 0)) 1)) (rInts (rowB_ (nx .dead s.blks 1)))) (none)
def LS17_0 {β : Type} (N : Nat) : LSpec β := VLS17_0 N (impl_VariablesOf_l0 N)
def VE17 {β : Type} (N : Nat) (q_impl_IsTable : (a0 : Int) → (a1 : Int) → (k : Bool → Option β) → Option β) (q_impl_Table_depends : (a0 : Int) → (a1 : Int) → (a2 : Int) → (k : Bool → Option β) → Option β) (q_impl_VariablesOf_l0 : Nat → Int → Int → Int → Int → List Int → (List Int → Option β) → Option β) : Env β := ⟨[(46, VS46 N q_impl_IsTable), (49, VS49 N q_impl_Table_depends)], [], [(0, VLS17_0 N q_impl_VariablesOf_l0)], [], ⟨[], [], [], []⟩⟩
def E17 {β : Type} (N : Nat) : Env β := VE17 N (impl_IsTable N) (impl_Table_depends N) (impl_VariablesOf_l0 N)
def BV_impl_VariablesOf_l0b {β : Type} (N : Nat) (q_impl_Table_depends : (a0 : Int) → (a1 : Int) → (a2 : Int) → (k : Bool → Option β) → Option β)  (v0 : Int) (v1 : Int) (v2 : Int) (v3 : Int) (v4 : List Int) (rec_ : Int → Int → Int → Int → List Int → Option β) (k0 : List Int → Option β) : Option β :=
(cond ((decide (v1 < v0)))
(q_impl_Table_depends v2 v3 v1 fun r4 =>
(cond r4
((gd ((decide ((v4.length + ((([] : List Int) ++ [v1])).length) * 8 ≤ 140737488355328)))
(rec_ v0 ((w64 (v1 + 1))) v2 v3 ((v4 ++ (([] : List Int) ++ [v1]))))))
(rec_ v0 ((w64 (v1 + 1))) v2 v3 v4)))
(k0 v4))
theorem t_impl_VariablesOf_l0b {β : Type} (N : Nat)  (v0 : Int) (v1 : Int) (v2 : Int) (v3 : Int) (v4 : List Int) (rec_ : Int → Int → Int → Int → List Int → Option β) (k0 : List Int → Option β) : impl_VariablesOf_l0b N v0 v1 v2 v3 v4 rec_ k0 = BV_impl_VariablesOf_l0b N (impl_Table_depends N) v0 v1 v2 v3 v4 rec_ k0 := by
  unfold impl_VariablesOf_l0b BV_impl_VariablesOf_l0b
  rfl
theorem vst17_0_0 {β : Type} (N : Nat) (q_impl_IsTable : (a0 : Int) → (a1 : Int) → (k : Bool → Option β) → Option β) (q_impl_Table_depends : (a0 : Int) → (a1 : Int) → (a2 : Int) → (k : Bool → Option β) → Option β) (q_impl_VariablesOf_l0 : Nat → Int → Int → Int → Int → List Int → (List Int → Option β) → Option β)  (v0 : Int) (v1 : Int) (v2 : Int) (v3 : Int) (v4 : List Int) (rec_ : St → Option β) (K : Exit → St → Option β) :
    ev lay (VE17 N q_impl_IsTable q_impl_Table_depends q_impl_VariablesOf_l0) (retMask Try.f17) (lp Try.f17 0).body (lp Try.f17 0).ex ((lp Try.f17 0).lv (retMask Try.f17)) (h17_0_0  v0 v1 v2 v3 v4) (nextR (fun s' => rec_ (s'.tidy ((lp Try.f17 0).lv (retMask Try.f17)))) K) = BV_impl_VariablesOf_l0b N q_impl_Table_depends  v0 v1 v2 v3 v4 (fun v0 v1 v2 v3 v4 => rec_ (h17_0_0  v0 v1 v2 v3 v4)) (fun y0 => K (.exit 0) (x17_0_0_k0  y0)) := by kernel_rfl
theorem st17_0_0 {β : Type} (N : Nat)  (v0 : Int) (v1 : Int) (v2 : Int) (v3 : Int) (v4 : List Int) (rec_ : St → Option β) (K : Exit → St → Option β) :
    ev lay (E17 N) (retMask Try.f17) (lp Try.f17 0).body (lp Try.f17 0).ex ((lp Try.f17 0).lv (retMask Try.f17)) (h17_0_0  v0 v1 v2 v3 v4) (nextR (fun s' => rec_ (s'.tidy ((lp Try.f17 0).lv (retMask Try.f17)))) K) = impl_VariablesOf_l0b N  v0 v1 v2 v3 v4 (fun v0 v1 v2 v3 v4 => rec_ (h17_0_0  v0 v1 v2 v3 v4)) (fun y0 => K (.exit 0) (x17_0_0_k0  y0)) := (vst17_0_0 N (impl_IsTable N) (impl_Table_depends N) (impl_VariablesOf_l0 N) v0 v1 v2 v3 v4 rec_ K).trans (t_impl_VariablesOf_l0b N  v0 v1 v2 v3 v4 (fun v0 v1 v2 v3 v4 => rec_ (h17_0_0  v0 v1 v2 v3 v4)) (fun y0 => K (.exit 0) (x17_0_0_k0  y0))).symm
theorem ro17_0_0 {β : Type} (N : Nat)  (K : Exit → St → Option β) : ∀ (F : Nat) (v0 : Int) (v1 : Int) (v2 : Int) (v3 : Int) (v4 : List Int), (lp Try.f17 0).rounds lay (E17 N) (retMask Try.f17) F (h17_0_0  v0 v1 v2 v3 v4) K = impl_VariablesOf_l0 N  F v0 v1 v2 v3 v4 (fun y0 => K (.exit 0) (x17_0_0_k0  y0)) := by
  intro F
  induction F with
  | zero => intros; rfl
  | succ F ih =>
    intros
    rw [rounds_next]
    refine (st17_0_0 N  _ _ _ _ _ (fun s => (lp Try.f17 0).rounds lay (E17 N) (retMask Try.f17) F s K) K).trans ?_
    simp only [ih]
    rfl
theorem lk17_0 {β : Type} (N : Nat) : lookL (E17 (β := β) N).loops (lp Try.f17 0).id = LS17_0 N := by kernel_rfl
theorem rk17_0 {β : Type} (N : Nat) : RoundsOK lay (E17 (β := β) N) (retMask Try.f17) (lp Try.f17 0) := by
  intro s K r h
  rw [lk17_0] at h
  unfold LS17_0 VLS17_0 at h
  cases hb : shpSt (h17_0_0 0 0 0 0 []) s with
  | true =>
    rw [hb, cond_true] at h
    exact ⟨N, by rw [← shpSt_ref hb, fl17_0_0 s]; exact (ro17_0_0 N  K N (intS (oneA (vT (nx tund s.tmps 9)))) (intS (oneA (vT (nx tund s.tmps 10)))) (intS (nx .und (cellsB (nx .dead s.blks 0)) 0)) (intS (nx .und (cellsB (nx .dead s.blks 0)) 1)) (rInts (rowB_ (nx .dead s.blks 1)))).trans h⟩
  | false =>
  rw [hb, cond_false] at h
  clear hb
  cases h
def BV_impl_VariablesOf {β : Type} (N : Nat) (q_impl_IsTable : (a0 : Int) → (a1 : Int) → (k : Bool → Option β) → Option β) (q_impl_VariablesOf_l0 : Nat → Int → Int → Int → Int → List Int → (List Int → Option β) → Option β) (a0 : Int) (a1 : Int) (k : List Int → Option β) : Option β :=
q_impl_IsTable a0 a1 fun r3 =>
(cond (!r3)
(k (([] : List Int)))
(q_impl_VariablesOf_l0  N a0 0 a0 a1 (([] : List Int)) (fun e5_0 =>
k e5_0)))
theorem t_impl_VariablesOf {β : Type} (N : Nat) (a0 : Int) (a1 : Int) (k : List Int → Option β) : impl_VariablesOf N a0 a1 k = BV_impl_VariablesOf N (impl_IsTable N) (impl_VariablesOf_l0 N) a0 a1 k := by
  unfold impl_VariablesOf BV_impl_VariablesOf
  rfl
theorem ve17_0 {β : Type} (N : Nat) (q_impl_IsTable : (a0 : Int) → (a1 : Int) → (k : Bool → Option β) → Option β) (q_impl_Table_depends : (a0 : Int) → (a1 : Int) → (a2 : Int) → (k : Bool → Option β) → Option β) (q_impl_VariablesOf_l0 : Nat → Int → Int → Int → Int → List Int → (List Int → Option β) → Option β)  (a0 : Int) (a1 : Int) (K : TV → Option β) : evFn lay (VE17 N q_impl_IsTable q_impl_Table_depends q_impl_VariablesOf_l0) Try.f17 [.v (.agg [.int .i64 a0, .int .i64 a1])] K = BV_impl_VariablesOf N q_impl_IsTable q_impl_VariablesOf_l0 a0 a1 (fun z2 => K (.v (.one (.sl 3 (.ints .i64 z2))))) := by kernel_rfl
theorem e17_0 {β : Type} (N : Nat)  (a0 : Int) (a1 : Int) (K : TV → Option β) : evFn lay (E17 N) Try.f17 [.v (.agg [.int .i64 a0, .int .i64 a1])] K = impl_VariablesOf N a0 a1 (fun z2 => K (.v (.one (.sl 3 (.ints .i64 z2))))) := (ve17_0 N (impl_IsTable N) (impl_Table_depends N) (impl_VariablesOf_l0 N) a0 a1 K).trans (t_impl_VariablesOf N a0 a1 (fun z2 => K (.v (.one (.sl 3 (.ints .i64 z2)))))).symm
theorem o17 {β : Type} (N : Nat) : SpecOK (β := β) inv Try.prog 17 (S17 N) := by
  refine spec_of lay_ok mixed (E := E17 N) (specs_loops (specs_cons (o46 N) (specs_cons (o49 N) specs_nil))) muts_nil gs_nil Try.func17 (by kernel_rfl) 1 (by kernel_rfl) ⟨trivial, rk17_0 N⟩ fun args K r h => ?_
  unfold S17 VS17 at h
  split at h
  · exact (e17_0 N _ _ _).trans h
  · cases h
def VS18 {β : Type} (N : Nat) (q_spec_DrawPushNegations : (a0 : List Int) → (k : ByteArray → Option β) → Option β) : Rv.Spec β := fun args K => match args with
  | [.v (.one (.sl 5 (.ints .u8 a0)))] => q_spec_DrawPushNegations a0 (fun z1 => K (.v (.one (.str z1))))
  | _ => none
def S18 {β : Type} (N : Nat) : Rv.Spec β := VS18 N (spec_DrawPushNegations N)
def VE18 {β : Type} (N : Nat) (q_spec_l1New_g0 : (a0 : List Int) → (k0 : List Int → Int → Int → Option β) → Option β) (q_spec_l5Any_g0 : (a0 : List Int) → (a1 : Int) → (a2 : Int) → (k0 : ByteArray → List Int → Int → Int → Option β) → Option β) : Env β := ⟨[], [], [], [(28, VS28 N q_spec_l1New_g0), (29, VS29 N q_spec_l5Any_g0)], ⟨[], [], [], []⟩⟩
def E18 {β : Type} (N : Nat) : Env β := VE18 N (spec_l1New_g0 N) (spec_l5Any_g0 N)
def BV_spec_DrawPushNegations {β : Type} (N : Nat) (q_spec_l1New_g0 : (a0 : List Int) → (k0 : List Int → Int → Int → Option β) → Option β) (q_spec_l5Any_g0 : (a0 : List Int) → (a1 : Int) → (a2 : Int) → (k0 : ByteArray → List Int → Int → Int → Option β) → Option β) (a0 : List Int) (k : ByteArray → Option β) : Option β :=
q_spec_l1New_g0 a0 (fun r2_0 r2_1 r2_2 =>
q_spec_l5Any_g0 r2_0 r2_1 r2_2 (fun r3_0 r3_1 r3_2 r3_3 =>
k r3_0))
theorem t_spec_DrawPushNegations {β : Type} (N : Nat) (a0 : List Int) (k : ByteArray → Option β) : spec_DrawPushNegations N a0 k = BV_spec_DrawPushNegations N (spec_l1New_g0 N) (spec_l5Any_g0 N) a0 k := by
  unfold spec_DrawPushNegations BV_spec_DrawPushNegations
  rfl
theorem ve18_0 {β : Type} (N : Nat) (q_spec_l1New_g0 : (a0 : List Int) → (k0 : List Int → Int → Int → Option β) → Option β) (q_spec_l5Any_g0 : (a0 : List Int) → (a1 : Int) → (a2 : Int) → (k0 : ByteArray → List Int → Int → Int → Option β) → Option β)  (a0 : List Int) (K : TV → Option β) : evFn lay (VE18 N q_spec_l1New_g0 q_spec_l5Any_g0) Try.f18 [.v (.one (.sl 5 (.ints .u8 a0)))] K = BV_spec_DrawPushNegations N q_spec_l1New_g0 q_spec_l5Any_g0 a0 (fun z1 => K (.v (.one (.str z1)))) := by kernel_rfl
theorem e18_0 {β : Type} (N : Nat)  (a0 : List Int) (K : TV → Option β) : evFn lay (E18 N) Try.f18 [.v (.one (.sl 5 (.ints .u8 a0)))] K = spec_DrawPushNegations N a0 (fun z1 => K (.v (.one (.str z1)))) := (ve18_0 N (spec_l1New_g0 N) (spec_l5Any_g0 N) a0 K).trans (t_spec_DrawPushNegations N a0 (fun z1 => K (.v (.one (.str z1))))).symm
theorem o18 {β : Type} (N : Nat) : SpecOK (β := β) inv Try.prog 18 (S18 N) := by
  refine spec_of lay_ok mixed (E := E18 N) (specs_loops specs_nil) muts_nil (gs_cons (o28 N) (gs_cons (o29 N) gs_nil)) Try.func18 (by kernel_rfl) 0 (by kernel_rfl) trivial fun args K r h => ?_
  unfold S18 VS18 at h
  split at h
  · exact (e18_0 N _ _).trans h
  · cases h
def VSF50 {β : Type} (N : Nat) (q_spec_l5Push_f : Nat → ByteArray → Int → Bool → (ByteArray → Option β) → Option β) (G : Nat) : Rv.Spec β := fun args K => match args with
  | [.v (.one (.str a0)), .v (.one (.int .i64 a1)), .v (.one (.bool a2))] => q_spec_l5Push_f G a0 a1 a2 (fun z3 => K (.v (.one (.str z3))))
  | _ => none
def SF50 {β : Type} (N : Nat) (G : Nat) : Rv.Spec β := VSF50 N (spec_l5Push_f N) G
def VS50 {β : Type} (N : Nat) (q_spec_l5Push_f : Nat → ByteArray → Int → Bool → (ByteArray → Option β) → Option β) : Rv.Spec β := VSF50 N q_spec_l5Push_f N
def S50 {β : Type} (N : Nat) : Rv.Spec β := SF50 N N
def VE50 {β : Type} (N : Nat) (q_spec_l5End_f : Nat → ByteArray → Int → (Int → Option β) → Option β) (q_spec_l5Push_f : Nat → ByteArray → Int → Bool → (ByteArray → Option β) → Option β) (G : Nat) : Env β := ⟨[(51, VS51 N q_spec_l5End_f), (50, VSF50 N q_spec_l5Push_f G)], [], [], [], ⟨[], [], [], []⟩⟩
def E50 {β : Type} (N : Nat) (G : Nat) : Env β := VE50 N (spec_l5End_f N) (spec_l5Push_f N) G
def BV_spec_l5Push_b {β : Type} (N : Nat) (q_spec_l5End_f : Nat → ByteArray → Int → (Int → Option β) → Option β) (self : ByteArray → Int → Bool → (ByteArray → Option β) → Option β) (a0 : ByteArray) (a1 : Int) (a2 : Bool) (k : ByteArray → Option β) : Option β :=
(gd ((decide (0 ≤ a1)))
((gd ((decide (a1 < (a0.size : Int))))
((cond (((bt a0 a1) == 33))
(self a0 ((w64 (a1 + 1))) (!a2) fun r4 =>
k r4)
((cond (((bt a0 a1) == 38))
((cond a2
(self a0 ((w64 (a1 + 1))) true fun r5 =>
(gd ((decide (((strOf [124])).size + r5.size ≤ 9223372036854775807)))
(q_spec_l5End_f N a0 ((w64 (a1 + 1))) fun r6 =>
self a0 r6 true fun r7 =>
(gd ((decide ((((strOf [124]) ++ r5)).size + r7.size ≤ 9223372036854775807)))
(k ((((strOf [124]) ++ r5) ++ r7)))))))
(self a0 ((w64 (a1 + 1))) false fun r8 =>
(gd ((decide (((strOf [38])).size + r8.size ≤ 9223372036854775807)))
(q_spec_l5End_f N a0 ((w64 (a1 + 1))) fun r9 =>
self a0 r9 false fun r10 =>
(gd ((decide ((((strOf [38]) ++ r8)).size + r10.size ≤ 9223372036854775807)))
(k ((((strOf [38]) ++ r8) ++ r10)))))))))
((cond (((bt a0 a1) == 124))
((cond a2
(self a0 ((w64 (a1 + 1))) true fun r11 =>
(gd ((decide (((strOf [38])).size + r11.size ≤ 9223372036854775807)))
(q_spec_l5End_f N a0 ((w64 (a1 + 1))) fun r12 =>
self a0 r12 true fun r13 =>
(gd ((decide ((((strOf [38]) ++ r11)).size + r13.size ≤ 9223372036854775807)))
(k ((((strOf [38]) ++ r11) ++ r13)))))))
(self a0 ((w64 (a1 + 1))) false fun r14 =>
(gd ((decide (((strOf [124])).size + r14.size ≤ 9223372036854775807)))
(q_spec_l5End_f N a0 ((w64 (a1 + 1))) fun r15 =>
self a0 r15 false fun r16 =>
(gd ((decide ((((strOf [124]) ++ r14)).size + r16.size ≤ 9223372036854775807)))
(k ((((strOf [124]) ++ r14) ++ r16)))))))))
((cond (((bt a0 a1) == 94))
(self a0 ((w64 (a1 + 1))) a2 fun r17 =>
(gd ((decide (((strOf [94])).size + r17.size ≤ 9223372036854775807)))
(q_spec_l5End_f N a0 ((w64 (a1 + 1))) fun r18 =>
self a0 r18 false fun r19 =>
(gd ((decide ((((strOf [94]) ++ r17)).size + r19.size ≤ 9223372036854775807)))
(k ((((strOf [94]) ++ r17) ++ r19)))))))
((cond (((bt a0 a1) == 48))
((cond a2
(k ((strOf [49])))
(k ((strOf [48])))))
((cond (((bt a0 a1) == 49))
((cond a2
(k ((strOf [48])))
(k ((strOf [49])))))
((cond a2
((gd ((decide (0 ≤ (w64 (a1 + 1)))))
((gd ((decide ((w64 (a1 + 1)) ≤ (a0.size : Int))))
((gd ((decide (0 ≤ a1)))
((gd ((decide (a1 ≤ (w64 (a1 + 1)))))
((gd ((decide (((strOf [33])).size + ((a0.extract (Int.toNat a1) (Int.toNat (w64 (a1 + 1))))).size ≤ 9223372036854775807)))
(k (((strOf [33]) ++ (a0.extract (Int.toNat a1) (Int.toNat (w64 (a1 + 1)))))))))))))))))
((gd ((decide (0 ≤ (w64 (a1 + 1)))))
((gd ((decide ((w64 (a1 + 1)) ≤ (a0.size : Int))))
((gd ((decide (0 ≤ a1)))
((gd ((decide (a1 ≤ (w64 (a1 + 1)))))
(k ((a0.extract (Int.toNat a1) (Int.toNat (w64 (a1 + 1)))))))))))))))))))))))))))))))
theorem t_spec_l5Push_b {β : Type} (N : Nat) (self : ByteArray → Int → Bool → (ByteArray → Option β) → Option β) (a0 : ByteArray) (a1 : Int) (a2 : Bool) (k : ByteArray → Option β) : spec_l5Push_b N self a0 a1 a2 k = BV_spec_l5Push_b N (spec_l5End_f N) self a0 a1 a2 k := by
  unfold spec_l5Push_b BV_spec_l5Push_b
  rfl
theorem ve50_0 {β : Type} (N : Nat) (q_spec_l5End_f : Nat → ByteArray → Int → (Int → Option β) → Option β) (q_spec_l5Push_f : Nat → ByteArray → Int → Bool → (ByteArray → Option β) → Option β) (G : Nat)  (a0 : ByteArray) (a1 : Int) (a2 : Bool) (K : TV → Option β) : evFn lay (VE50 N q_spec_l5End_f q_spec_l5Push_f G) Try.f50 [.v (.one (.str a0)), .v (.one (.int .i64 a1)), .v (.one (.bool a2))] K = BV_spec_l5Push_b N q_spec_l5End_f (q_spec_l5Push_f G) a0 a1 a2 (fun z3 => K (.v (.one (.str z3)))) := by kernel_rfl
theorem e50_0 {β : Type} (N : Nat) (G : Nat)  (a0 : ByteArray) (a1 : Int) (a2 : Bool) (K : TV → Option β) : evFn lay (E50 N G) Try.f50 [.v (.one (.str a0)), .v (.one (.int .i64 a1)), .v (.one (.bool a2))] K = spec_l5Push_f N (G + 1) a0 a1 a2 (fun z3 => K (.v (.one (.str z3)))) := (ve50_0 N (spec_l5End_f N) (spec_l5Push_f N) G a0 a1 a2 K).trans (t_spec_l5Push_b N (spec_l5Push_f N G) a0 a1 a2 (fun z3 => K (.v (.one (.str z3))))).symm
theorem z50 {β : Type} (N : Nat) : ∀ args K r, SF50 (β := β) N 0 args K = some r → (none : Option β) = some r := by
  intro args K r h
  unfold SF50 VSF50 at h
  split at h <;> exact h
theorem of50 {β : Type} (N : Nat) : ∀ G, SpecOK (β := β) inv Try.prog 50 (SF50 N G) := by
  intro G
  induction G with
  | zero => exact s_zero Try.func50 (by kernel_rfl) (z50 N)
  | succ G ih =>
    refine spec_of lay_ok mixed (E := E50 N G) (specs_loops (specs_cons (o51 N) (specs_cons ih specs_nil))) muts_nil gs_nil Try.func50 (by kernel_rfl) 0 (by kernel_rfl) trivial fun args K r h => ?_
    unfold SF50 VSF50 at h
    split at h
    · exact (e50_0 N G _ _ _ _).trans h
    · cases h
theorem o50 {β : Type} (N : Nat) : SpecOK (β := β) inv Try.prog 50 (S50 N) := of50 N N
def VS19 {β : Type} (N : Nat) (q_spec_PushNegations : (a0 : ByteArray) → (k : ByteArray → Bool → Option β) → Option β) : Rv.Spec β := fun args K => match args with
  | [.v (.one (.str a0))] => q_spec_PushNegations a0 (fun z1 z2 => K (.tup [.one (.str z1), .one (.bool z2)]))
  | _ => none
def S19 {β : Type} (N : Nat) : Rv.Spec β := VS19 N (spec_PushNegations N)
def VE19 {β : Type} (N : Nat) (q_spec_IsFormula : (a0 : ByteArray) → (k : Bool → Option β) → Option β) (q_spec_l5Push_f : Nat → ByteArray → Int → Bool → (ByteArray → Option β) → Option β) : Env β := ⟨[(23, VS23 N q_spec_IsFormula), (50, VS50 N q_spec_l5Push_f)], [], [], [], ⟨[], [], [], []⟩⟩
def E19 {β : Type} (N : Nat) : Env β := VE19 N (spec_IsFormula N) (spec_l5Push_f N)
def BV_spec_PushNegations {β : Type} (N : Nat) (q_spec_IsFormula : (a0 : ByteArray) → (k : Bool → Option β) → Option β) (q_spec_l5Push_f : Nat → ByteArray → Int → Bool → (ByteArray → Option β) → Option β) (a0 : ByteArray) (k : ByteArray → Bool → Option β) : Option β :=
q_spec_IsFormula a0 fun r3 =>
(cond (!r3)
(k ByteArray.empty false)
(q_spec_l5Push_f N a0 0 false fun r4 =>
q_spec_IsFormula r4 fun r5 =>
(cond (!r5)
(k ByteArray.empty false)
(k r4 true))))
theorem t_spec_PushNegations {β : Type} (N : Nat) (a0 : ByteArray) (k : ByteArray → Bool → Option β) : spec_PushNegations N a0 k = BV_spec_PushNegations N (spec_IsFormula N) (spec_l5Push_f N) a0 k := by
  unfold spec_PushNegations BV_spec_PushNegations
  rfl
theorem ve19_0 {β : Type} (N : Nat) (q_spec_IsFormula : (a0 : ByteArray) → (k : Bool → Option β) → Option β) (q_spec_l5Push_f : Nat → ByteArray → Int → Bool → (ByteArray → Option β) → Option β)  (a0 : ByteArray) (K : TV → Option β) : evFn lay (VE19 N q_spec_IsFormula q_spec_l5Push_f) Try.f19 [.v (.one (.str a0))] K = BV_spec_PushNegations N q_spec_IsFormula q_spec_l5Push_f a0 (fun z1 z2 => K (.tup [.one (.str z1), .one (.bool z2)])) := by kernel_rfl
theorem e19_0 {β : Type} (N : Nat)  (a0 : ByteArray) (K : TV → Option β) : evFn lay (E19 N) Try.f19 [.v (.one (.str a0))] K = spec_PushNegations N a0 (fun z1 z2 => K (.tup [.one (.str z1), .one (.bool z2)])) := (ve19_0 N (spec_IsFormula N) (spec_l5Push_f N) a0 K).trans (t_spec_PushNegations N a0 (fun z1 z2 => K (.tup [.one (.str z1), .one (.bool z2)]))).symm
theorem o19 {β : Type} (N : Nat) : SpecOK (β := β) inv Try.prog 19 (S19 N) := by
  refine spec_of lay_ok mixed (E := E19 N) (specs_loops (specs_cons (o23 N) (specs_cons (o50 N) specs_nil))) muts_nil gs_nil Try.func19 (by kernel_rfl) 0 (by kernel_rfl) trivial fun args K r h => ?_
  unfold S19 VS19 at h
  split at h
  · exact (e19_0 N _ _).trans h
  · cases h
end Go.Proofs.Ytddflpokemgnmaa
