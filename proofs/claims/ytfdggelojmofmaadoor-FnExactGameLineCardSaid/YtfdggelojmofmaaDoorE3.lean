/- The functions that the claims reach answer as their texts do. -/
import Derived.Test.YtfdggelojmofmaaDoorE2
namespace Go.Proofs.YtfdggelojmofmaaDoor
open Go.Rv
set_option maxRecDepth 100000
set_option maxHeartbeats 2000000
set_option linter.unusedVariables false
def VS142 {β : Type} (N : Nat) (q_impl_Table_restrict : (a0 : Int) → (a1 : Int) → (a2 : Int) → (a3 : Int) → (k : Int → Int → Option β) → Option β) : Rv.Spec β := fun args K => match args with
  | [.v (.agg [.int .i64 a0, .int .i64 a1]), .v (.one (.int .i64 a2)), .v (.one (.int .i64 a3))] => q_impl_Table_restrict a0 a1 a2 a3 (fun z4 z5 => K (.v (.agg [.int .i64 z4, .int .i64 z5])))
  | _ => none
def S142 {β : Type} (N : Nat) : Rv.Spec β := VS142 N (impl_Table_restrict N)
def VE142 {β : Type} (N : Nat) (q_impl_makeTable : (a0 : Int) → (a1 : (Int → (Bool → Option β) → Option β)) → (k : Int → Int → Option β) → Option β) (q_impl_Table_restrict_1 : (a0 : Int) → (c0 : Int) → (c1 : Int) → (c2 : Int) → (c3 : Int) → (k : Bool → Option β) → Option β) (q_impl_Table_shift_1 : (a0 : Int) → (c0 : Int) → (c1 : Int) → (c2 : Int) → (k : Bool → Option β) → Option β) : Env β := ⟨[(194, VS194 N q_impl_makeTable q_impl_Table_restrict_1 q_impl_Table_shift_1), (195, VS195 N q_impl_Table_restrict_1)], [], [], [], ⟨[], [], []⟩⟩
def E142 {β : Type} (N : Nat) : Env β := VE142 N (impl_makeTable N) (impl_Table_restrict_1 N) (impl_Table_shift_1 N)
def BV_impl_Table_restrict {β : Type} (N : Nat) (q_impl_makeTable : (a0 : Int) → (a1 : (Int → (Bool → Option β) → Option β)) → (k : Int → Int → Option β) → Option β) (q_impl_Table_restrict_1 : (a0 : Int) → (c0 : Int) → (c1 : Int) → (c2 : Int) → (c3 : Int) → (k : Bool → Option β) → Option β) (a0 : Int) (a1 : Int) (a2 : Int) (a3 : Int) (k : Int → Int → Option β) : Option β :=
q_impl_makeTable ((w64 (a0 - 1))) (fun x0 k => q_impl_Table_restrict_1 x0 a0 a1 a2 a3 k) fun r6 r7 =>
k r6 r7
theorem t_impl_Table_restrict {β : Type} (N : Nat) (a0 : Int) (a1 : Int) (a2 : Int) (a3 : Int) (k : Int → Int → Option β) : impl_Table_restrict N a0 a1 a2 a3 k = BV_impl_Table_restrict N (impl_makeTable N) (impl_Table_restrict_1 N) a0 a1 a2 a3 k := by
  unfold impl_Table_restrict BV_impl_Table_restrict
  rfl
theorem ve142_0 {β : Type} (N : Nat) (q_impl_makeTable : (a0 : Int) → (a1 : (Int → (Bool → Option β) → Option β)) → (k : Int → Int → Option β) → Option β) (q_impl_Table_restrict_1 : (a0 : Int) → (c0 : Int) → (c1 : Int) → (c2 : Int) → (c3 : Int) → (k : Bool → Option β) → Option β) (q_impl_Table_shift_1 : (a0 : Int) → (c0 : Int) → (c1 : Int) → (c2 : Int) → (k : Bool → Option β) → Option β)  (a0 : Int) (a1 : Int) (a2 : Int) (a3 : Int) (K : TV → Option β) : evFn lay (VE142 N q_impl_makeTable q_impl_Table_restrict_1 q_impl_Table_shift_1) Tryd.f142 [.v (.agg [.int .i64 a0, .int .i64 a1]), .v (.one (.int .i64 a2)), .v (.one (.int .i64 a3))] K = BV_impl_Table_restrict N q_impl_makeTable q_impl_Table_restrict_1 a0 a1 a2 a3 (fun z4 z5 => K (.v (.agg [.int .i64 z4, .int .i64 z5]))) := by kernel_rfl
theorem e142_0 {β : Type} (N : Nat)  (a0 : Int) (a1 : Int) (a2 : Int) (a3 : Int) (K : TV → Option β) : evFn lay (E142 N) Tryd.f142 [.v (.agg [.int .i64 a0, .int .i64 a1]), .v (.one (.int .i64 a2)), .v (.one (.int .i64 a3))] K = impl_Table_restrict N a0 a1 a2 a3 (fun z4 z5 => K (.v (.agg [.int .i64 z4, .int .i64 z5]))) := (ve142_0 N (impl_makeTable N) (impl_Table_restrict_1 N) (impl_Table_shift_1 N) a0 a1 a2 a3 K).trans (t_impl_Table_restrict N a0 a1 a2 a3 (fun z4 z5 => K (.v (.agg [.int .i64 z4, .int .i64 z5])))).symm
theorem o142 {β : Type} (N : Nat) : SpecOK (β := β) inv Tryd.prog 142 (S142 N) := by
  refine spec_of lay_ok mixed (E := E142 N) (specs_loops (specs_cons (o194 N) (specs_cons (o195 N) specs_nil))) muts_nil gs_nil Tryd.func142 (by kernel_rfl) 0 (by kernel_rfl) trivial fun args K r h => ?_
  unfold S142 VS142 at h
  split at h
  · exact (e142_0 N _ _ _ _ _).trans h
  · cases h
def VS192 {β : Type} (N : Nat) (q_impl_Table_isMonotone : (a0 : Int) → (a1 : Int) → (k : Bool → Option β) → Option β) : Rv.Spec β := fun args K => match args with
  | [.v (.agg [.int .i64 a0, .int .i64 a1])] => q_impl_Table_isMonotone a0 a1 (fun z2 => K (.v (.one (.bool z2))))
  | _ => none
def S192 {β : Type} (N : Nat) : Rv.Spec β := VS192 N (impl_Table_isMonotone N)
def h192_0_0  (v0 : Int) (v1 : Int) (v2 : Int) (v3 : Int) : St := ⟨.v (.one .und) :: .v (.one (.ptr 0 0)) :: .v (.one .und) :: .v (.one .und) :: .v (.one .und) :: .v (.one (.int .i64 v0)) :: .v (.one (.int .i64 v1)) :: .v (.one .und) :: .v (.one .und) :: .v (.one .und) :: .v (.one .und) :: .v (.one .und) :: .v (.one .und) :: .v (.one .und) :: .v (.one .und) :: .v (.one .und) :: .v (.one .und) :: .v (.one .und) :: .v (.one .und) :: .v (.one .und) :: [], [.cells 24 [.int .i64 v2, .int .i64 v3]]⟩
def x192_0_0_k0  (y0 : Bool) : St := ⟨.v (.one .und) :: .v (.one .und) :: .v (.one (.bool y0)) :: .v (.one .und) :: .v (.one .und) :: .v (.one .und) :: .v (.one .und) :: .v (.one .und) :: .v (.one .und) :: .v (.one .und) :: .v (.one .und) :: .v (.one .und) :: .v (.one .und) :: .v (.one .und) :: .v (.one .und) :: .v (.one .und) :: .v (.one .und) :: .v (.one .und) :: .v (.one .und) :: .v (.one .und) :: [], []⟩
def x192_0_0_k1   : St := ⟨.v (.one .und) :: .v (.one .und) :: .v (.one .und) :: .v (.one .und) :: .v (.one .und) :: .v (.one .und) :: .v (.one .und) :: .v (.one .und) :: .v (.one .und) :: .v (.one .und) :: .v (.one .und) :: .v (.one .und) :: .v (.one .und) :: .v (.one .und) :: .v (.one .und) :: .v (.one .und) :: .v (.one .und) :: .v (.one .und) :: .v (.one .und) :: .v (.one .und) :: [], []⟩
theorem fl192_0_0 (s : St) : refSt (h192_0_0 0 0 0 0) s = h192_0_0 (intS (oneA (vT (nx tund s.tmps 5)))) (intS (oneA (vT (nx tund s.tmps 6)))) (intS (nx .und (cellsB (nx .dead s.blks 0)) 0)) (intS (nx .und (cellsB (nx .dead s.blks 0)) 1)) := by kernel_rfl
def VLS192_0 {β : Type} (N : Nat) (q_impl_Table_isMonotone_l0 : Nat → Int → Int → Int → Int → (Bool → Option β) → (Option β) → Option β) : LSpec β := fun s K => cond (shpSt (h192_0_0 0 0 0 0) s) ((fun (v0 : Int) (v1 : Int) (v2 : Int) (v3 : Int) => q_impl_Table_isMonotone_l0  N v0 v1 v2 v3 (fun y0 => K .ret (x192_0_0_k0  y0)) (K (.exit 0) (x192_0_0_k1  ))) (intS (oneA (vT (nx tund s.tmps 5)))) (intS (oneA (vT (nx tund s.tmps 6)))) (intS (nx .und (cellsB (nx .dead s.blks 0)) 0)) (intS (nx .und (cellsB (nx .dead s.blks 0)) 1))) (none)
def LS192_0 {β : Type} (N : Nat) : LSpec β := VLS192_0 N (impl_Table_isMonotone_l0 N)
def VE192 {β : Type} (N : Nat) (q_impl_Table_restrict : (a0 : Int) → (a1 : Int) → (a2 : Int) → (a3 : Int) → (k : Int → Int → Option β) → Option β) (q_impl_Table_isMonotone_l0 : Nat → Int → Int → Int → Int → (Bool → Option β) → (Option β) → Option β) : Env β := ⟨[(142, VS142 N q_impl_Table_restrict)], [], [(0, VLS192_0 N q_impl_Table_isMonotone_l0)], [], ⟨[], [], []⟩⟩
def E192 {β : Type} (N : Nat) : Env β := VE192 N (impl_Table_restrict N) (impl_Table_isMonotone_l0 N)
def BV_impl_Table_isMonotone_l0b {β : Type} (N : Nat) (q_impl_Table_restrict : (a0 : Int) → (a1 : Int) → (a2 : Int) → (a3 : Int) → (k : Int → Int → Option β) → Option β)  (v0 : Int) (v1 : Int) (v2 : Int) (v3 : Int) (rec_ : Int → Int → Int → Int → Option β) (k0 : Bool → Option β) (k1 : Option β) : Option β :=
(cond ((decide (v1 < v0)))
(q_impl_Table_restrict v2 v3 v1 0 fun r3 r4 =>
q_impl_Table_restrict v2 v3 v1 1 fun r5 r6 =>
(cond (((bits .andNot .i64 r4 r6) != 0))
(k0 false)
(rec_ v0 ((w64 (v1 + 1))) v2 v3)))
(k1 ))
theorem t_impl_Table_isMonotone_l0b {β : Type} (N : Nat)  (v0 : Int) (v1 : Int) (v2 : Int) (v3 : Int) (rec_ : Int → Int → Int → Int → Option β) (k0 : Bool → Option β) (k1 : Option β) : impl_Table_isMonotone_l0b N v0 v1 v2 v3 rec_ k0 k1 = BV_impl_Table_isMonotone_l0b N (impl_Table_restrict N) v0 v1 v2 v3 rec_ k0 k1 := by
  unfold impl_Table_isMonotone_l0b BV_impl_Table_isMonotone_l0b
  rfl
theorem vst192_0_0 {β : Type} (N : Nat) (q_impl_Table_restrict : (a0 : Int) → (a1 : Int) → (a2 : Int) → (a3 : Int) → (k : Int → Int → Option β) → Option β) (q_impl_Table_isMonotone_l0 : Nat → Int → Int → Int → Int → (Bool → Option β) → (Option β) → Option β)  (v0 : Int) (v1 : Int) (v2 : Int) (v3 : Int) (rec_ : St → Option β) (K : Exit → St → Option β) :
    ev lay (VE192 N q_impl_Table_restrict q_impl_Table_isMonotone_l0) (retMask Tryd.f192) (lp Tryd.f192 0).body (lp Tryd.f192 0).ex ((lp Tryd.f192 0).lv (retMask Tryd.f192)) (h192_0_0  v0 v1 v2 v3) (nextR (fun s' => rec_ (s'.tidy ((lp Tryd.f192 0).lv (retMask Tryd.f192)))) K) = BV_impl_Table_isMonotone_l0b N q_impl_Table_restrict  v0 v1 v2 v3 (fun v0 v1 v2 v3 => rec_ (h192_0_0  v0 v1 v2 v3)) (fun y0 => K .ret (x192_0_0_k0  y0)) (K (.exit 0) (x192_0_0_k1  )) := by kernel_rfl
theorem st192_0_0 {β : Type} (N : Nat)  (v0 : Int) (v1 : Int) (v2 : Int) (v3 : Int) (rec_ : St → Option β) (K : Exit → St → Option β) :
    ev lay (E192 N) (retMask Tryd.f192) (lp Tryd.f192 0).body (lp Tryd.f192 0).ex ((lp Tryd.f192 0).lv (retMask Tryd.f192)) (h192_0_0  v0 v1 v2 v3) (nextR (fun s' => rec_ (s'.tidy ((lp Tryd.f192 0).lv (retMask Tryd.f192)))) K) = impl_Table_isMonotone_l0b N  v0 v1 v2 v3 (fun v0 v1 v2 v3 => rec_ (h192_0_0  v0 v1 v2 v3)) (fun y0 => K .ret (x192_0_0_k0  y0)) (K (.exit 0) (x192_0_0_k1  )) := (vst192_0_0 N (impl_Table_restrict N) (impl_Table_isMonotone_l0 N) v0 v1 v2 v3 rec_ K).trans (t_impl_Table_isMonotone_l0b N  v0 v1 v2 v3 (fun v0 v1 v2 v3 => rec_ (h192_0_0  v0 v1 v2 v3)) (fun y0 => K .ret (x192_0_0_k0  y0)) (K (.exit 0) (x192_0_0_k1  ))).symm
theorem ro192_0_0 {β : Type} (N : Nat)  (K : Exit → St → Option β) : ∀ (F : Nat) (v0 : Int) (v1 : Int) (v2 : Int) (v3 : Int), (lp Tryd.f192 0).rounds lay (E192 N) (retMask Tryd.f192) F (h192_0_0  v0 v1 v2 v3) K = impl_Table_isMonotone_l0 N  F v0 v1 v2 v3 (fun y0 => K .ret (x192_0_0_k0  y0)) (K (.exit 0) (x192_0_0_k1  )) := by
  intro F
  induction F with
  | zero => intros; rfl
  | succ F ih =>
    intros
    rw [rounds_next]
    refine (st192_0_0 N  _ _ _ _ (fun s => (lp Tryd.f192 0).rounds lay (E192 N) (retMask Tryd.f192) F s K) K).trans ?_
    simp only [ih]
    rfl
theorem lk192_0 {β : Type} (N : Nat) : lookL (E192 (β := β) N).loops (lp Tryd.f192 0).id = LS192_0 N := by kernel_rfl
theorem rk192_0 {β : Type} (N : Nat) : RoundsOK lay (E192 (β := β) N) (retMask Tryd.f192) (lp Tryd.f192 0) := by
  intro s K r h
  rw [lk192_0] at h
  unfold LS192_0 VLS192_0 at h
  cases hb : shpSt (h192_0_0 0 0 0 0) s with
  | true =>
    rw [hb, cond_true] at h
    exact ⟨N, by rw [← shpSt_ref hb, fl192_0_0 s]; exact (ro192_0_0 N  K N (intS (oneA (vT (nx tund s.tmps 5)))) (intS (oneA (vT (nx tund s.tmps 6)))) (intS (nx .und (cellsB (nx .dead s.blks 0)) 0)) (intS (nx .und (cellsB (nx .dead s.blks 0)) 1))).trans h⟩
  | false =>
  rw [hb, cond_false] at h
  clear hb
  cases h
def BV_impl_Table_isMonotone {β : Type} (N : Nat) (q_impl_Table_isMonotone_l0 : Nat → Int → Int → Int → Int → (Bool → Option β) → (Option β) → Option β) (a0 : Int) (a1 : Int) (k : Bool → Option β) : Option β :=
q_impl_Table_isMonotone_l0  N a0 0 a0 a1 (fun e7_0 =>
k e7_0) (k true)
theorem t_impl_Table_isMonotone {β : Type} (N : Nat) (a0 : Int) (a1 : Int) (k : Bool → Option β) : impl_Table_isMonotone N a0 a1 k = BV_impl_Table_isMonotone N (impl_Table_isMonotone_l0 N) a0 a1 k := by
  unfold impl_Table_isMonotone BV_impl_Table_isMonotone
  rfl
theorem ve192_0 {β : Type} (N : Nat) (q_impl_Table_restrict : (a0 : Int) → (a1 : Int) → (a2 : Int) → (a3 : Int) → (k : Int → Int → Option β) → Option β) (q_impl_Table_isMonotone_l0 : Nat → Int → Int → Int → Int → (Bool → Option β) → (Option β) → Option β)  (a0 : Int) (a1 : Int) (K : TV → Option β) : evFn lay (VE192 N q_impl_Table_restrict q_impl_Table_isMonotone_l0) Tryd.f192 [.v (.agg [.int .i64 a0, .int .i64 a1])] K = BV_impl_Table_isMonotone N q_impl_Table_isMonotone_l0 a0 a1 (fun z2 => K (.v (.one (.bool z2)))) := by kernel_rfl
theorem e192_0 {β : Type} (N : Nat)  (a0 : Int) (a1 : Int) (K : TV → Option β) : evFn lay (E192 N) Tryd.f192 [.v (.agg [.int .i64 a0, .int .i64 a1])] K = impl_Table_isMonotone N a0 a1 (fun z2 => K (.v (.one (.bool z2)))) := (ve192_0 N (impl_Table_restrict N) (impl_Table_isMonotone_l0 N) a0 a1 K).trans (t_impl_Table_isMonotone N a0 a1 (fun z2 => K (.v (.one (.bool z2))))).symm
theorem o192 {β : Type} (N : Nat) : SpecOK (β := β) inv Tryd.prog 192 (S192 N) := by
  refine spec_of lay_ok mixed (E := E192 N) (specs_loops (specs_cons (o142 N) specs_nil)) muts_nil gs_nil Tryd.func192 (by kernel_rfl) 1 (by kernel_rfl) ⟨trivial, rk192_0 N⟩ fun args K r h => ?_
  unfold S192 VS192 at h
  split at h
  · exact (e192_0 N _ _ _).trans h
  · cases h
def VS136 {β : Type} (N : Nat) (q_impl_IsMonotone : (a0 : Int) → (a1 : Int) → (k : Bool → Option β) → Option β) : Rv.Spec β := fun args K => match args with
  | [.v (.agg [.int .i64 a0, .int .i64 a1])] => q_impl_IsMonotone a0 a1 (fun z2 => K (.v (.one (.bool z2))))
  | _ => none
def S136 {β : Type} (N : Nat) : Rv.Spec β := VS136 N (impl_IsMonotone N)
def VE136 {β : Type} (N : Nat) (q_impl_IsTable : (a0 : Int) → (a1 : Int) → (k : Bool → Option β) → Option β) (q_impl_Table_isMonotone : (a0 : Int) → (a1 : Int) → (k : Bool → Option β) → Option β) : Env β := ⟨[(59, VS59 N q_impl_IsTable), (192, VS192 N q_impl_Table_isMonotone)], [], [], [], ⟨[], [], []⟩⟩
def E136 {β : Type} (N : Nat) : Env β := VE136 N (impl_IsTable N) (impl_Table_isMonotone N)
def BV_impl_IsMonotone {β : Type} (N : Nat) (q_impl_IsTable : (a0 : Int) → (a1 : Int) → (k : Bool → Option β) → Option β) (q_impl_Table_isMonotone : (a0 : Int) → (a1 : Int) → (k : Bool → Option β) → Option β) (a0 : Int) (a1 : Int) (k : Bool → Option β) : Option β :=
q_impl_IsTable a0 a1 fun r3 =>
(cond r3
(q_impl_Table_isMonotone a0 a1 fun r4 =>
k r4)
(k false))
theorem t_impl_IsMonotone {β : Type} (N : Nat) (a0 : Int) (a1 : Int) (k : Bool → Option β) : impl_IsMonotone N a0 a1 k = BV_impl_IsMonotone N (impl_IsTable N) (impl_Table_isMonotone N) a0 a1 k := by
  unfold impl_IsMonotone BV_impl_IsMonotone
  rfl
theorem ve136_0 {β : Type} (N : Nat) (q_impl_IsTable : (a0 : Int) → (a1 : Int) → (k : Bool → Option β) → Option β) (q_impl_Table_isMonotone : (a0 : Int) → (a1 : Int) → (k : Bool → Option β) → Option β)  (a0 : Int) (a1 : Int) (K : TV → Option β) : evFn lay (VE136 N q_impl_IsTable q_impl_Table_isMonotone) Tryd.f136 [.v (.agg [.int .i64 a0, .int .i64 a1])] K = BV_impl_IsMonotone N q_impl_IsTable q_impl_Table_isMonotone a0 a1 (fun z2 => K (.v (.one (.bool z2)))) := by kernel_rfl
theorem e136_0 {β : Type} (N : Nat)  (a0 : Int) (a1 : Int) (K : TV → Option β) : evFn lay (E136 N) Tryd.f136 [.v (.agg [.int .i64 a0, .int .i64 a1])] K = impl_IsMonotone N a0 a1 (fun z2 => K (.v (.one (.bool z2)))) := (ve136_0 N (impl_IsTable N) (impl_Table_isMonotone N) a0 a1 K).trans (t_impl_IsMonotone N a0 a1 (fun z2 => K (.v (.one (.bool z2))))).symm
theorem o136 {β : Type} (N : Nat) : SpecOK (β := β) inv Tryd.prog 136 (S136 N) := by
  refine spec_of lay_ok mixed (E := E136 N) (specs_loops (specs_cons (o59 N) (specs_cons (o192 N) specs_nil))) muts_nil gs_nil Tryd.func136 (by kernel_rfl) 0 (by kernel_rfl) trivial fun args K r h => ?_
  unfold S136 VS136 at h
  split at h
  · exact (e136_0 N _ _ _).trans h
  · cases h
def VS77 {β : Type} (N : Nat) (q_impl_IsSimpleGame : (a0 : Int) → (a1 : Int) → (k : Bool → Option β) → Option β) : Rv.Spec β := fun args K => match args with
  | [.v (.agg [.int .i64 a0, .int .i64 a1])] => q_impl_IsSimpleGame a0 a1 (fun z2 => K (.v (.one (.bool z2))))
  | _ => none
def S77 {β : Type} (N : Nat) : Rv.Spec β := VS77 N (impl_IsSimpleGame N)
def VE77 {β : Type} (N : Nat) (q_impl_IsMonotone : (a0 : Int) → (a1 : Int) → (k : Bool → Option β) → Option β) (q_impl_Table_at : (a0 : Int) → (a1 : Int) → (a2 : Int) → (k : Int → Option β) → Option β) (q_impl_Table_size : (a0 : Int) → (a1 : Int) → (k : Int → Option β) → Option β) : Env β := ⟨[(136, VS136 N q_impl_IsMonotone), (128, VS128 N q_impl_Table_at), (125, VS125 N q_impl_Table_size)], [], [], [], ⟨[], [], []⟩⟩
def E77 {β : Type} (N : Nat) : Env β := VE77 N (impl_IsMonotone N) (impl_Table_at N) (impl_Table_size N)
def BV_impl_IsSimpleGame {β : Type} (N : Nat) (q_impl_IsMonotone : (a0 : Int) → (a1 : Int) → (k : Bool → Option β) → Option β) (q_impl_Table_at : (a0 : Int) → (a1 : Int) → (a2 : Int) → (k : Int → Option β) → Option β) (q_impl_Table_size : (a0 : Int) → (a1 : Int) → (k : Int → Option β) → Option β) (a0 : Int) (a1 : Int) (k : Bool → Option β) : Option β :=
q_impl_IsMonotone a0 a1 fun r3 =>
(cond r3
(q_impl_Table_at a0 a1 0 fun r4 =>
(cond ((r4 == 0))
(q_impl_Table_size a0 a1 fun r5 =>
q_impl_Table_at a0 a1 ((w64 (r5 - 1))) fun r6 =>
k ((r6 == 1)))
(k false)))
(k false))
theorem t_impl_IsSimpleGame {β : Type} (N : Nat) (a0 : Int) (a1 : Int) (k : Bool → Option β) : impl_IsSimpleGame N a0 a1 k = BV_impl_IsSimpleGame N (impl_IsMonotone N) (impl_Table_at N) (impl_Table_size N) a0 a1 k := by
  unfold impl_IsSimpleGame BV_impl_IsSimpleGame
  rfl
theorem ve77_0 {β : Type} (N : Nat) (q_impl_IsMonotone : (a0 : Int) → (a1 : Int) → (k : Bool → Option β) → Option β) (q_impl_Table_at : (a0 : Int) → (a1 : Int) → (a2 : Int) → (k : Int → Option β) → Option β) (q_impl_Table_size : (a0 : Int) → (a1 : Int) → (k : Int → Option β) → Option β)  (a0 : Int) (a1 : Int) (K : TV → Option β) : evFn lay (VE77 N q_impl_IsMonotone q_impl_Table_at q_impl_Table_size) Tryd.f77 [.v (.agg [.int .i64 a0, .int .i64 a1])] K = BV_impl_IsSimpleGame N q_impl_IsMonotone q_impl_Table_at q_impl_Table_size a0 a1 (fun z2 => K (.v (.one (.bool z2)))) := by kernel_rfl
theorem e77_0 {β : Type} (N : Nat)  (a0 : Int) (a1 : Int) (K : TV → Option β) : evFn lay (E77 N) Tryd.f77 [.v (.agg [.int .i64 a0, .int .i64 a1])] K = impl_IsSimpleGame N a0 a1 (fun z2 => K (.v (.one (.bool z2)))) := (ve77_0 N (impl_IsMonotone N) (impl_Table_at N) (impl_Table_size N) a0 a1 K).trans (t_impl_IsSimpleGame N a0 a1 (fun z2 => K (.v (.one (.bool z2))))).symm
theorem o77 {β : Type} (N : Nat) : SpecOK (β := β) inv Tryd.prog 77 (S77 N) := by
  refine spec_of lay_ok mixed (E := E77 N) (specs_loops (specs_cons (o136 N) (specs_cons (o128 N) (specs_cons (o125 N) specs_nil)))) muts_nil gs_nil Tryd.func77 (by kernel_rfl) 0 (by kernel_rfl) trivial fun args K r h => ?_
  unfold S77 VS77 at h
  split at h
  · exact (e77_0 N _ _ _).trans h
  · cases h
def VS193 {β : Type} (N : Nat) (q_impl_Table_changes : (a0 : Int) → (a1 : Int) → (a2 : Int) → (a3 : Int) → (k : Bool → Option β) → Option β) : Rv.Spec β := fun args K => match args with
  | [.v (.agg [.int .i64 a0, .int .i64 a1]), .v (.one (.int .i64 a2)), .v (.one (.int .i64 a3))] => q_impl_Table_changes a0 a1 a2 a3 (fun z4 => K (.v (.one (.bool z4))))
  | _ => none
def S193 {β : Type} (N : Nat) : Rv.Spec β := VS193 N (impl_Table_changes N)
def VE193 {β : Type} (N : Nat) (q_impl_Table_at : (a0 : Int) → (a1 : Int) → (a2 : Int) → (k : Int → Option β) → Option β) : Env β := ⟨[(128, VS128 N q_impl_Table_at)], [], [], [], ⟨[], [], []⟩⟩
def E193 {β : Type} (N : Nat) : Env β := VE193 N (impl_Table_at N)
def BV_impl_Table_changes {β : Type} (N : Nat) (q_impl_Table_at : (a0 : Int) → (a1 : Int) → (a2 : Int) → (k : Int → Option β) → Option β) (a0 : Int) (a1 : Int) (a2 : Int) (a3 : Int) (k : Bool → Option β) : Option β :=
q_impl_Table_at a0 a1 a2 fun r5 =>
q_impl_Table_at a0 a1 ((bits .xor .i64 a2 a3)) fun r6 =>
k ((r5 != r6))
theorem t_impl_Table_changes {β : Type} (N : Nat) (a0 : Int) (a1 : Int) (a2 : Int) (a3 : Int) (k : Bool → Option β) : impl_Table_changes N a0 a1 a2 a3 k = BV_impl_Table_changes N (impl_Table_at N) a0 a1 a2 a3 k := by
  unfold impl_Table_changes BV_impl_Table_changes
  rfl
theorem ve193_0 {β : Type} (N : Nat) (q_impl_Table_at : (a0 : Int) → (a1 : Int) → (a2 : Int) → (k : Int → Option β) → Option β)  (a0 : Int) (a1 : Int) (a2 : Int) (a3 : Int) (K : TV → Option β) : evFn lay (VE193 N q_impl_Table_at) Tryd.f193 [.v (.agg [.int .i64 a0, .int .i64 a1]), .v (.one (.int .i64 a2)), .v (.one (.int .i64 a3))] K = BV_impl_Table_changes N q_impl_Table_at a0 a1 a2 a3 (fun z4 => K (.v (.one (.bool z4)))) := by kernel_rfl
theorem e193_0 {β : Type} (N : Nat)  (a0 : Int) (a1 : Int) (a2 : Int) (a3 : Int) (K : TV → Option β) : evFn lay (E193 N) Tryd.f193 [.v (.agg [.int .i64 a0, .int .i64 a1]), .v (.one (.int .i64 a2)), .v (.one (.int .i64 a3))] K = impl_Table_changes N a0 a1 a2 a3 (fun z4 => K (.v (.one (.bool z4)))) := (ve193_0 N (impl_Table_at N) a0 a1 a2 a3 K).trans (t_impl_Table_changes N a0 a1 a2 a3 (fun z4 => K (.v (.one (.bool z4))))).symm
theorem o193 {β : Type} (N : Nat) : SpecOK (β := β) inv Tryd.prog 193 (S193 N) := by
  refine spec_of lay_ok mixed (E := E193 N) (specs_loops (specs_cons (o128 N) specs_nil)) muts_nil gs_nil Tryd.func193 (by kernel_rfl) 0 (by kernel_rfl) trivial fun args K r h => ?_
  unfold S193 VS193 at h
  split at h
  · exact (e193_0 N _ _ _ _ _).trans h
  · cases h
def VS137 {β : Type} (N : Nat) (q_impl_Table_edgePoints : (a0 : Int) → (a1 : Int) → (a2 : Int) → (a3 : Int) → (k : List Int → Option β) → Option β) : Rv.Spec β := fun args K => match args with
  | [.v (.agg [.int .i64 a0, .int .i64 a1]), .v (.one (.int .i64 a2)), .v (.one (.int .i64 a3))] => q_impl_Table_edgePoints a0 a1 a2 a3 (fun z4 => K (.v (.one (.sl 3 (.ints .i64 z4)))))
  | _ => none
def S137 {β : Type} (N : Nat) : Rv.Spec β := VS137 N (impl_Table_edgePoints N)
def h137_0_0  (v0 : Int) (v1 : Int) (v2 : Int) (v3 : Int) (v4 : Int) (v5 : Int) (v6 : List Int) : St := ⟨.v (.one .und) :: .v (.one (.int .i64 v0)) :: .v (.one (.int .i64 v1)) :: .v (.one (.ptr 0 0)) :: .v (.one .und) :: .v (.one .und) :: .v (.one .und) :: .v (.one (.row 1)) :: .v (.one .und) :: .v (.one .und) :: .v (.one .und) :: .v (.one .und) :: .v (.one (.int .i64 v2)) :: .v (.one (.int .i64 v3)) :: .v (.one .und) :: .v (.one .und) :: .v (.one .und) :: .v (.one .und) :: .v (.one .und) :: .v (.one .und) :: .v (.one .und) :: .v (.one .und) :: .v (.one .und) :: .v (.one .und) :: .v (.one .und) :: .v (.one .und) :: .v (.one .und) :: .v (.one .und) :: .v (.one .und) :: .v (.one .und) :: .v (.one .und) :: .v (.one .und) :: .v (.one .und) :: .v (.one .und) :: .v (.one .und) :: .v (.one .und) :: .v (.one .und) :: .v (.one .und) :: .v (.one .und) :: .v (.one .und) :: .v (.one .und) :: .v (.one .und) :: .v (.one .und) :: .v (.one .und) :: .v (.one .und) :: .v (.one .und) :: .v (.one .und) :: .v (.one .und) :: .v (.one .und) :: .v (.one .und) :: [], [.cells 24 [.int .i64 v4, .int .i64 v5], .row 3 (.ints .i64 v6)]⟩
def x137_0_0_k0  (y0 : List Int) : St := ⟨.v (.one .und) :: .v (.one .und) :: .v (.one .und) :: .v (.one .und) :: .v (.one .und) :: .v (.one .und) :: .v (.one .und) :: .v (.one (.row 0)) :: .v (.one .und) :: .v (.one .und) :: .v (.one .und) :: .v (.one .und) :: .v (.one .und) :: .v (.one .und) :: .v (.one .und) :: .v (.one .und) :: .v (.one .und) :: .v (.one .und) :: .v (.one .und) :: .v (.one .und) :: .v (.one .und) :: .v (.one .und) :: .v (.one .und) :: .v (.one .und) :: .v (.one .und) :: .v (.one .und) :: .v (.one .und) :: .v (.one .und) :: .v (.one .und) :: .v (.one .und) :: .v (.one .und) :: .v (.one .und) :: .v (.one .und) :: .v (.one .und) :: .v (.one .und) :: .v (.one .und) :: .v (.one .und) :: .v (.one .und) :: .v (.one .und) :: .v (.one .und) :: .v (.one .und) :: .v (.one .und) :: .v (.one .und) :: .v (.one .und) :: .v (.one .und) :: .v (.one .und) :: .v (.one .und) :: .v (.one .und) :: .v (.one .und) :: .v (.one .und) :: [], [.row 3 (.ints .i64 y0)]⟩
def h137_1_0  (v0 : Int) (v1 : Int) (v2 : Int) (v3 : Bool) (v4 : Int) (v5 : Int) (v6 : Int) (v7 : Int) (v8 : Int) (v9 : Int) (v10 : List Int) : St := ⟨.v (.one .und) :: .v (.one (.int .i64 v0)) :: .v (.one (.int .i64 v1)) :: .v (.one (.ptr 0 0)) :: .v (.one .und) :: .v (.one .und) :: .v (.one .und) :: .v (.one (.row 1)) :: .v (.one (.int .i64 v2)) :: .v (.one (.bool v3)) :: .v (.one .und) :: .v (.one .und) :: .v (.one (.int .i64 v4)) :: .v (.one (.int .i64 v5)) :: .v (.one .und) :: .v (.one .und) :: .v (.one .und) :: .v (.one .und) :: .v (.one .und) :: .v (.one .und) :: .v (.one .und) :: .v (.one .und) :: .v (.one (.int .i64 v6)) :: .v (.one (.int .i64 v7)) :: .v (.one .und) :: .v (.one .und) :: .v (.one .und) :: .v (.one .und) :: .v (.one .und) :: .v (.one .und) :: .v (.one .und) :: .v (.one .und) :: .v (.one .und) :: .v (.one .und) :: .v (.one .und) :: .v (.one .und) :: .v (.one .und) :: .v (.one .und) :: .v (.one .und) :: .v (.one .und) :: .v (.one .und) :: .v (.one .und) :: .v (.one .und) :: .v (.one .und) :: .v (.one .und) :: .v (.one .und) :: .v (.one .und) :: .v (.one .und) :: .v (.one .und) :: .v (.one .und) :: [], [.cells 24 [.int .i64 v8, .int .i64 v9], .row 3 (.ints .i64 v10)]⟩
def x137_1_0_k0  (y0 : Int) (y1 : Int) (y2 : Int) (y3 : Bool) (y4 : Int) (y5 : Int) (y6 : Int) (y7 : Int) (y8 : List Int) : St := ⟨.v (.one .und) :: .v (.one (.int .i64 y0)) :: .v (.one (.int .i64 y1)) :: .v (.one (.ptr 0 0)) :: .v (.one .und) :: .v (.one .und) :: .v (.one .und) :: .v (.one (.row 1)) :: .v (.one (.int .i64 y2)) :: .v (.one (.bool y3)) :: .v (.one .und) :: .v (.one .und) :: .v (.one (.int .i64 y4)) :: .v (.one (.int .i64 y5)) :: .v (.one .und) :: .v (.one .und) :: .v (.one .und) :: .v (.one .und) :: .v (.one .und) :: .v (.one .und) :: .v (.one .und) :: .v (.one .und) :: .v (.one .und) :: .v (.one .und) :: .v (.one .und) :: .v (.one .und) :: .v (.one .und) :: .v (.one .und) :: .v (.one .und) :: .v (.one .und) :: .v (.one .und) :: .v (.one .und) :: .v (.one .und) :: .v (.one .und) :: .v (.one .und) :: .v (.one .und) :: .v (.one .und) :: .v (.one .und) :: .v (.one .und) :: .v (.one .und) :: .v (.one .und) :: .v (.one .und) :: .v (.one .und) :: .v (.one .und) :: .v (.one .und) :: .v (.one .und) :: .v (.one .und) :: .v (.one .und) :: .v (.one .und) :: .v (.one .und) :: [], [.cells 24 [.int .i64 y6, .int .i64 y7], .row 3 (.ints .i64 y8)]⟩
theorem fl137_0_0 (s : St) : refSt (h137_0_0 0 0 0 0 0 0 []) s = h137_0_0 (intS (oneA (vT (nx tund s.tmps 1)))) (intS (oneA (vT (nx tund s.tmps 2)))) (intS (oneA (vT (nx tund s.tmps 12)))) (intS (oneA (vT (nx tund s.tmps 13)))) (intS (nx .und (cellsB (nx .dead s.blks 0)) 0)) (intS (nx .und (cellsB (nx .dead s.blks 0)) 1)) (rInts (rowB_ (nx .dead s.blks 1))) := by kernel_rfl
def VLS137_0 {β : Type} (N : Nat) (q_impl_Table_edgePoints_l0 : Nat → Int → Int → Int → Int → Int → Int → List Int → (List Int → Option β) → Option β) : LSpec β := fun s K => cond (shpSt (h137_0_0 0 0 0 0 0 0 []) s) ((fun (v0 : Int) (v1 : Int) (v2 : Int) (v3 : Int) (v4 : Int) (v5 : Int) (v6 : List Int) => q_impl_Table_edgePoints_l0  N v0 v1 v2 v3 v4 v5 v6 (fun y0 => K (.exit 0) (x137_0_0_k0  y0))) (intS (oneA (vT (nx tund s.tmps 1)))) (intS (oneA (vT (nx tund s.tmps 2)))) (intS (oneA (vT (nx tund s.tmps 12)))) (intS (oneA (vT (nx tund s.tmps 13)))) (intS (nx .und (cellsB (nx .dead s.blks 0)) 0)) (intS (nx .und (cellsB (nx .dead s.blks 0)) 1)) (rInts (rowB_ (nx .dead s.blks 1)))) (none)
def LS137_0 {β : Type} (N : Nat) : LSpec β := VLS137_0 N (impl_Table_edgePoints_l0 N)
theorem fl137_1_0 (s : St) : refSt (h137_1_0 0 0 0 false 0 0 0 0 0 0 []) s = h137_1_0 (intS (oneA (vT (nx tund s.tmps 1)))) (intS (oneA (vT (nx tund s.tmps 2)))) (intS (oneA (vT (nx tund s.tmps 8)))) (boolS (oneA (vT (nx tund s.tmps 9)))) (intS (oneA (vT (nx tund s.tmps 12)))) (intS (oneA (vT (nx tund s.tmps 13)))) (intS (oneA (vT (nx tund s.tmps 22)))) (intS (oneA (vT (nx tund s.tmps 23)))) (intS (nx .und (cellsB (nx .dead s.blks 0)) 0)) (intS (nx .und (cellsB (nx .dead s.blks 0)) 1)) (rInts (rowB_ (nx .dead s.blks 1))) := by kernel_rfl
def VLS137_2 {β : Type} (N : Nat) (q_impl_Table_edgePoints_l2 : Nat → Int → Int → Int → Bool → Int → Int → Int → Int → Int → Int → List Int → (Int → Int → Int → Bool → Int → Int → Int → Int → List Int → Option β) → Option β) : LSpec β := fun s K => cond (shpSt (h137_1_0 0 0 0 false 0 0 0 0 0 0 []) s) ((fun (v0 : Int) (v1 : Int) (v2 : Int) (v3 : Bool) (v4 : Int) (v5 : Int) (v6 : Int) (v7 : Int) (v8 : Int) (v9 : Int) (v10 : List Int) => q_impl_Table_edgePoints_l2  N v0 v1 v2 v3 v4 v5 v6 v7 v8 v9 v10 (fun y0 y1 y2 y3 y4 y5 y6 y7 y8 => K (.exit 2) (x137_1_0_k0  y0 y1 y2 y3 y4 y5 y6 y7 y8))) (intS (oneA (vT (nx tund s.tmps 1)))) (intS (oneA (vT (nx tund s.tmps 2)))) (intS (oneA (vT (nx tund s.tmps 8)))) (boolS (oneA (vT (nx tund s.tmps 9)))) (intS (oneA (vT (nx tund s.tmps 12)))) (intS (oneA (vT (nx tund s.tmps 13)))) (intS (oneA (vT (nx tund s.tmps 22)))) (intS (oneA (vT (nx tund s.tmps 23)))) (intS (nx .und (cellsB (nx .dead s.blks 0)) 0)) (intS (nx .und (cellsB (nx .dead s.blks 0)) 1)) (rInts (rowB_ (nx .dead s.blks 1)))) (none)
def LS137_2 {β : Type} (N : Nat) : LSpec β := VLS137_2 N (impl_Table_edgePoints_l2 N)
def VE137 {β : Type} (N : Nat) (q_impl_Table_size : (a0 : Int) → (a1 : Int) → (k : Int → Option β) → Option β) (q_impl_Table_at : (a0 : Int) → (a1 : Int) → (a2 : Int) → (k : Int → Option β) → Option β) (q_impl_Table_changes : (a0 : Int) → (a1 : Int) → (a2 : Int) → (a3 : Int) → (k : Bool → Option β) → Option β) (q_impl_Table_edgePoints_l0 : Nat → Int → Int → Int → Int → Int → Int → List Int → (List Int → Option β) → Option β) (q_impl_Table_edgePoints_l2 : Nat → Int → Int → Int → Bool → Int → Int → Int → Int → Int → Int → List Int → (Int → Int → Int → Bool → Int → Int → Int → Int → List Int → Option β) → Option β) : Env β := ⟨[(125, VS125 N q_impl_Table_size), (128, VS128 N q_impl_Table_at), (193, VS193 N q_impl_Table_changes)], [], [(0, VLS137_0 N q_impl_Table_edgePoints_l0), (2, VLS137_2 N q_impl_Table_edgePoints_l2)], [], ⟨[], [], []⟩⟩
def E137 {β : Type} (N : Nat) : Env β := VE137 N (impl_Table_size N) (impl_Table_at N) (impl_Table_changes N) (impl_Table_edgePoints_l0 N) (impl_Table_edgePoints_l2 N)
def BV_impl_Table_edgePoints_l0b {β : Type} (N : Nat) (q_impl_Table_at : (a0 : Int) → (a1 : Int) → (a2 : Int) → (k : Int → Option β) → Option β) (q_impl_Table_edgePoints_l2 : Nat → Int → Int → Int → Bool → Int → Int → Int → Int → Int → Int → List Int → (Int → Int → Int → Bool → Int → Int → Int → Int → List Int → Option β) → Option β)  (v0 : Int) (v1 : Int) (v2 : Int) (v3 : Int) (v4 : Int) (v5 : Int) (v6 : List Int) (rec_ : Int → Int → Int → Int → Int → Int → List Int → Option β) (k0 : List Int → Option β) : Option β :=
(cond ((decide (v3 < v2)))
(q_impl_Table_at v4 v5 v3 fun r6 =>
q_impl_Table_edgePoints_l2  N v0 v1 v3 ((r6 == v0)) v2 v3 v4 0 v4 v5 v6 (fun e8_0 e8_1 e8_2 e8_3 e8_4 e8_5 e8_6 e8_7 e8_8 =>
(cond e8_3
((gd ((decide ((e8_8.length + ((([] : List Int) ++ [e8_2])).length) * 8 ≤ 140737488355328)))
(rec_ e8_0 e8_1 e8_4 ((w64 (e8_5 + 1))) e8_6 e8_7 ((e8_8 ++ (([] : List Int) ++ [e8_2]))))))
(rec_ e8_0 e8_1 e8_4 ((w64 (e8_5 + 1))) e8_6 e8_7 e8_8))))
(k0 v6))
theorem t_impl_Table_edgePoints_l0b {β : Type} (N : Nat)  (v0 : Int) (v1 : Int) (v2 : Int) (v3 : Int) (v4 : Int) (v5 : Int) (v6 : List Int) (rec_ : Int → Int → Int → Int → Int → Int → List Int → Option β) (k0 : List Int → Option β) : impl_Table_edgePoints_l0b N v0 v1 v2 v3 v4 v5 v6 rec_ k0 = BV_impl_Table_edgePoints_l0b N (impl_Table_at N) (impl_Table_edgePoints_l2 N) v0 v1 v2 v3 v4 v5 v6 rec_ k0 := by
  unfold impl_Table_edgePoints_l0b BV_impl_Table_edgePoints_l0b
  rfl
theorem vst137_0_0 {β : Type} (N : Nat) (q_impl_Table_size : (a0 : Int) → (a1 : Int) → (k : Int → Option β) → Option β) (q_impl_Table_at : (a0 : Int) → (a1 : Int) → (a2 : Int) → (k : Int → Option β) → Option β) (q_impl_Table_changes : (a0 : Int) → (a1 : Int) → (a2 : Int) → (a3 : Int) → (k : Bool → Option β) → Option β) (q_impl_Table_edgePoints_l0 : Nat → Int → Int → Int → Int → Int → Int → List Int → (List Int → Option β) → Option β) (q_impl_Table_edgePoints_l2 : Nat → Int → Int → Int → Bool → Int → Int → Int → Int → Int → Int → List Int → (Int → Int → Int → Bool → Int → Int → Int → Int → List Int → Option β) → Option β)  (v0 : Int) (v1 : Int) (v2 : Int) (v3 : Int) (v4 : Int) (v5 : Int) (v6 : List Int) (rec_ : St → Option β) (K : Exit → St → Option β) :
    ev lay (VE137 N q_impl_Table_size q_impl_Table_at q_impl_Table_changes q_impl_Table_edgePoints_l0 q_impl_Table_edgePoints_l2) (retMask Tryd.f137) (lp Tryd.f137 0).body (lp Tryd.f137 0).ex ((lp Tryd.f137 0).lv (retMask Tryd.f137)) (h137_0_0  v0 v1 v2 v3 v4 v5 v6) (nextR (fun s' => rec_ (s'.tidy ((lp Tryd.f137 0).lv (retMask Tryd.f137)))) K) = BV_impl_Table_edgePoints_l0b N q_impl_Table_at q_impl_Table_edgePoints_l2  v0 v1 v2 v3 v4 v5 v6 (fun v0 v1 v2 v3 v4 v5 v6 => rec_ (h137_0_0  v0 v1 v2 v3 v4 v5 v6)) (fun y0 => K (.exit 0) (x137_0_0_k0  y0)) := by kernel_rfl
theorem st137_0_0 {β : Type} (N : Nat)  (v0 : Int) (v1 : Int) (v2 : Int) (v3 : Int) (v4 : Int) (v5 : Int) (v6 : List Int) (rec_ : St → Option β) (K : Exit → St → Option β) :
    ev lay (E137 N) (retMask Tryd.f137) (lp Tryd.f137 0).body (lp Tryd.f137 0).ex ((lp Tryd.f137 0).lv (retMask Tryd.f137)) (h137_0_0  v0 v1 v2 v3 v4 v5 v6) (nextR (fun s' => rec_ (s'.tidy ((lp Tryd.f137 0).lv (retMask Tryd.f137)))) K) = impl_Table_edgePoints_l0b N  v0 v1 v2 v3 v4 v5 v6 (fun v0 v1 v2 v3 v4 v5 v6 => rec_ (h137_0_0  v0 v1 v2 v3 v4 v5 v6)) (fun y0 => K (.exit 0) (x137_0_0_k0  y0)) := (vst137_0_0 N (impl_Table_size N) (impl_Table_at N) (impl_Table_changes N) (impl_Table_edgePoints_l0 N) (impl_Table_edgePoints_l2 N) v0 v1 v2 v3 v4 v5 v6 rec_ K).trans (t_impl_Table_edgePoints_l0b N  v0 v1 v2 v3 v4 v5 v6 (fun v0 v1 v2 v3 v4 v5 v6 => rec_ (h137_0_0  v0 v1 v2 v3 v4 v5 v6)) (fun y0 => K (.exit 0) (x137_0_0_k0  y0))).symm
theorem ro137_0_0 {β : Type} (N : Nat)  (K : Exit → St → Option β) : ∀ (F : Nat) (v0 : Int) (v1 : Int) (v2 : Int) (v3 : Int) (v4 : Int) (v5 : Int) (v6 : List Int), (lp Tryd.f137 0).rounds lay (E137 N) (retMask Tryd.f137) F (h137_0_0  v0 v1 v2 v3 v4 v5 v6) K = impl_Table_edgePoints_l0 N  F v0 v1 v2 v3 v4 v5 v6 (fun y0 => K (.exit 0) (x137_0_0_k0  y0)) := by
  intro F
  induction F with
  | zero => intros; rfl
  | succ F ih =>
    intros
    rw [rounds_next]
    refine (st137_0_0 N  _ _ _ _ _ _ _ (fun s => (lp Tryd.f137 0).rounds lay (E137 N) (retMask Tryd.f137) F s K) K).trans ?_
    simp only [ih]
    rfl
theorem lk137_0 {β : Type} (N : Nat) : lookL (E137 (β := β) N).loops (lp Tryd.f137 0).id = LS137_0 N := by kernel_rfl
theorem rk137_0 {β : Type} (N : Nat) : RoundsOK lay (E137 (β := β) N) (retMask Tryd.f137) (lp Tryd.f137 0) := by
  intro s K r h
  rw [lk137_0] at h
  unfold LS137_0 VLS137_0 at h
  cases hb : shpSt (h137_0_0 0 0 0 0 0 0 []) s with
  | true =>
    rw [hb, cond_true] at h
    exact ⟨N, by rw [← shpSt_ref hb, fl137_0_0 s]; exact (ro137_0_0 N  K N (intS (oneA (vT (nx tund s.tmps 1)))) (intS (oneA (vT (nx tund s.tmps 2)))) (intS (oneA (vT (nx tund s.tmps 12)))) (intS (oneA (vT (nx tund s.tmps 13)))) (intS (nx .und (cellsB (nx .dead s.blks 0)) 0)) (intS (nx .und (cellsB (nx .dead s.blks 0)) 1)) (rInts (rowB_ (nx .dead s.blks 1)))).trans h⟩
  | false =>
  rw [hb, cond_false] at h
  clear hb
  cases h
def BV_impl_Table_edgePoints_l2b {β : Type} (N : Nat) (q_impl_Table_changes : (a0 : Int) → (a1 : Int) → (a2 : Int) → (a3 : Int) → (k : Bool → Option β) → Option β)  (v0 : Int) (v1 : Int) (v2 : Int) (v3 : Bool) (v4 : Int) (v5 : Int) (v6 : Int) (v7 : Int) (v8 : Int) (v9 : Int) (v10 : List Int) (rec_ : Int → Int → Int → Bool → Int → Int → Int → Int → Int → Int → List Int → Option β) (k0 : Int → Int → Int → Bool → Int → Int → Int → Int → List Int → Option β) : Option β :=
(cond ((decide (v7 < v6)))
((cond v3
((gd ((decide (0 ≤ v7)))
((cond (((bits .and .i64 (shrI .i64 v2 v7) 1) != v1))
(rec_ v0 v1 v2 true v4 v5 v6 ((w64 (v7 + 1))) v8 v9 v10)
((gd ((decide (0 ≤ v7)))
(q_impl_Table_changes v8 v9 v2 ((shlI .i64 1 v7)) fun r7 =>
rec_ v0 v1 v2 r7 v4 v5 v6 ((w64 (v7 + 1))) v8 v9 v10)))))))
(rec_ v0 v1 v2 false v4 v5 v6 ((w64 (v7 + 1))) v8 v9 v10)))
(k0 v0 v1 v2 v3 v4 v5 v8 v9 v10))
theorem t_impl_Table_edgePoints_l2b {β : Type} (N : Nat)  (v0 : Int) (v1 : Int) (v2 : Int) (v3 : Bool) (v4 : Int) (v5 : Int) (v6 : Int) (v7 : Int) (v8 : Int) (v9 : Int) (v10 : List Int) (rec_ : Int → Int → Int → Bool → Int → Int → Int → Int → Int → Int → List Int → Option β) (k0 : Int → Int → Int → Bool → Int → Int → Int → Int → List Int → Option β) : impl_Table_edgePoints_l2b N v0 v1 v2 v3 v4 v5 v6 v7 v8 v9 v10 rec_ k0 = BV_impl_Table_edgePoints_l2b N (impl_Table_changes N) v0 v1 v2 v3 v4 v5 v6 v7 v8 v9 v10 rec_ k0 := by
  unfold impl_Table_edgePoints_l2b BV_impl_Table_edgePoints_l2b
  rfl
theorem vst137_1_0 {β : Type} (N : Nat) (q_impl_Table_size : (a0 : Int) → (a1 : Int) → (k : Int → Option β) → Option β) (q_impl_Table_at : (a0 : Int) → (a1 : Int) → (a2 : Int) → (k : Int → Option β) → Option β) (q_impl_Table_changes : (a0 : Int) → (a1 : Int) → (a2 : Int) → (a3 : Int) → (k : Bool → Option β) → Option β) (q_impl_Table_edgePoints_l0 : Nat → Int → Int → Int → Int → Int → Int → List Int → (List Int → Option β) → Option β) (q_impl_Table_edgePoints_l2 : Nat → Int → Int → Int → Bool → Int → Int → Int → Int → Int → Int → List Int → (Int → Int → Int → Bool → Int → Int → Int → Int → List Int → Option β) → Option β)  (v0 : Int) (v1 : Int) (v2 : Int) (v3 : Bool) (v4 : Int) (v5 : Int) (v6 : Int) (v7 : Int) (v8 : Int) (v9 : Int) (v10 : List Int) (rec_ : St → Option β) (K : Exit → St → Option β) :
    ev lay (VE137 N q_impl_Table_size q_impl_Table_at q_impl_Table_changes q_impl_Table_edgePoints_l0 q_impl_Table_edgePoints_l2) (retMask Tryd.f137) (lp Tryd.f137 1).body (lp Tryd.f137 1).ex ((lp Tryd.f137 1).lv (retMask Tryd.f137)) (h137_1_0  v0 v1 v2 v3 v4 v5 v6 v7 v8 v9 v10) (nextR (fun s' => rec_ (s'.tidy ((lp Tryd.f137 1).lv (retMask Tryd.f137)))) K) = BV_impl_Table_edgePoints_l2b N q_impl_Table_changes  v0 v1 v2 v3 v4 v5 v6 v7 v8 v9 v10 (fun v0 v1 v2 v3 v4 v5 v6 v7 v8 v9 v10 => rec_ (h137_1_0  v0 v1 v2 v3 v4 v5 v6 v7 v8 v9 v10)) (fun y0 y1 y2 y3 y4 y5 y6 y7 y8 => K (.exit 2) (x137_1_0_k0  y0 y1 y2 y3 y4 y5 y6 y7 y8)) := by kernel_rfl
theorem st137_1_0 {β : Type} (N : Nat)  (v0 : Int) (v1 : Int) (v2 : Int) (v3 : Bool) (v4 : Int) (v5 : Int) (v6 : Int) (v7 : Int) (v8 : Int) (v9 : Int) (v10 : List Int) (rec_ : St → Option β) (K : Exit → St → Option β) :
    ev lay (E137 N) (retMask Tryd.f137) (lp Tryd.f137 1).body (lp Tryd.f137 1).ex ((lp Tryd.f137 1).lv (retMask Tryd.f137)) (h137_1_0  v0 v1 v2 v3 v4 v5 v6 v7 v8 v9 v10) (nextR (fun s' => rec_ (s'.tidy ((lp Tryd.f137 1).lv (retMask Tryd.f137)))) K) = impl_Table_edgePoints_l2b N  v0 v1 v2 v3 v4 v5 v6 v7 v8 v9 v10 (fun v0 v1 v2 v3 v4 v5 v6 v7 v8 v9 v10 => rec_ (h137_1_0  v0 v1 v2 v3 v4 v5 v6 v7 v8 v9 v10)) (fun y0 y1 y2 y3 y4 y5 y6 y7 y8 => K (.exit 2) (x137_1_0_k0  y0 y1 y2 y3 y4 y5 y6 y7 y8)) := (vst137_1_0 N (impl_Table_size N) (impl_Table_at N) (impl_Table_changes N) (impl_Table_edgePoints_l0 N) (impl_Table_edgePoints_l2 N) v0 v1 v2 v3 v4 v5 v6 v7 v8 v9 v10 rec_ K).trans (t_impl_Table_edgePoints_l2b N  v0 v1 v2 v3 v4 v5 v6 v7 v8 v9 v10 (fun v0 v1 v2 v3 v4 v5 v6 v7 v8 v9 v10 => rec_ (h137_1_0  v0 v1 v2 v3 v4 v5 v6 v7 v8 v9 v10)) (fun y0 y1 y2 y3 y4 y5 y6 y7 y8 => K (.exit 2) (x137_1_0_k0  y0 y1 y2 y3 y4 y5 y6 y7 y8))).symm
theorem ro137_1_0 {β : Type} (N : Nat)  (K : Exit → St → Option β) : ∀ (F : Nat) (v0 : Int) (v1 : Int) (v2 : Int) (v3 : Bool) (v4 : Int) (v5 : Int) (v6 : Int) (v7 : Int) (v8 : Int) (v9 : Int) (v10 : List Int), (lp Tryd.f137 1).rounds lay (E137 N) (retMask Tryd.f137) F (h137_1_0  v0 v1 v2 v3 v4 v5 v6 v7 v8 v9 v10) K = impl_Table_edgePoints_l2 N  F v0 v1 v2 v3 v4 v5 v6 v7 v8 v9 v10 (fun y0 y1 y2 y3 y4 y5 y6 y7 y8 => K (.exit 2) (x137_1_0_k0  y0 y1 y2 y3 y4 y5 y6 y7 y8)) := by
  intro F
  induction F with
  | zero => intros; rfl
  | succ F ih =>
    intros
    rw [rounds_next]
    refine (st137_1_0 N  _ _ _ _ _ _ _ _ _ _ _ (fun s => (lp Tryd.f137 1).rounds lay (E137 N) (retMask Tryd.f137) F s K) K).trans ?_
    simp only [ih]
    rfl
theorem lk137_2 {β : Type} (N : Nat) : lookL (E137 (β := β) N).loops (lp Tryd.f137 1).id = LS137_2 N := by kernel_rfl
theorem rk137_2 {β : Type} (N : Nat) : RoundsOK lay (E137 (β := β) N) (retMask Tryd.f137) (lp Tryd.f137 1) := by
  intro s K r h
  rw [lk137_2] at h
  unfold LS137_2 VLS137_2 at h
  cases hb : shpSt (h137_1_0 0 0 0 false 0 0 0 0 0 0 []) s with
  | true =>
    rw [hb, cond_true] at h
    exact ⟨N, by rw [← shpSt_ref hb, fl137_1_0 s]; exact (ro137_1_0 N  K N (intS (oneA (vT (nx tund s.tmps 1)))) (intS (oneA (vT (nx tund s.tmps 2)))) (intS (oneA (vT (nx tund s.tmps 8)))) (boolS (oneA (vT (nx tund s.tmps 9)))) (intS (oneA (vT (nx tund s.tmps 12)))) (intS (oneA (vT (nx tund s.tmps 13)))) (intS (oneA (vT (nx tund s.tmps 22)))) (intS (oneA (vT (nx tund s.tmps 23)))) (intS (nx .und (cellsB (nx .dead s.blks 0)) 0)) (intS (nx .und (cellsB (nx .dead s.blks 0)) 1)) (rInts (rowB_ (nx .dead s.blks 1)))).trans h⟩
  | false =>
  rw [hb, cond_false] at h
  clear hb
  cases h
def BV_impl_Table_edgePoints {β : Type} (N : Nat) (q_impl_Table_size : (a0 : Int) → (a1 : Int) → (k : Int → Option β) → Option β) (q_impl_Table_edgePoints_l0 : Nat → Int → Int → Int → Int → Int → Int → List Int → (List Int → Option β) → Option β) (a0 : Int) (a1 : Int) (a2 : Int) (a3 : Int) (k : List Int → Option β) : Option β :=
q_impl_Table_size a0 a1 fun r5 =>
q_impl_Table_edgePoints_l0  N a2 a3 r5 0 a0 a1 (([] : List Int)) (fun e9_0 =>
k e9_0)
theorem t_impl_Table_edgePoints {β : Type} (N : Nat) (a0 : Int) (a1 : Int) (a2 : Int) (a3 : Int) (k : List Int → Option β) : impl_Table_edgePoints N a0 a1 a2 a3 k = BV_impl_Table_edgePoints N (impl_Table_size N) (impl_Table_edgePoints_l0 N) a0 a1 a2 a3 k := by
  unfold impl_Table_edgePoints BV_impl_Table_edgePoints
  rfl
theorem ve137_0 {β : Type} (N : Nat) (q_impl_Table_size : (a0 : Int) → (a1 : Int) → (k : Int → Option β) → Option β) (q_impl_Table_at : (a0 : Int) → (a1 : Int) → (a2 : Int) → (k : Int → Option β) → Option β) (q_impl_Table_changes : (a0 : Int) → (a1 : Int) → (a2 : Int) → (a3 : Int) → (k : Bool → Option β) → Option β) (q_impl_Table_edgePoints_l0 : Nat → Int → Int → Int → Int → Int → Int → List Int → (List Int → Option β) → Option β) (q_impl_Table_edgePoints_l2 : Nat → Int → Int → Int → Bool → Int → Int → Int → Int → Int → Int → List Int → (Int → Int → Int → Bool → Int → Int → Int → Int → List Int → Option β) → Option β)  (a0 : Int) (a1 : Int) (a2 : Int) (a3 : Int) (K : TV → Option β) : evFn lay (VE137 N q_impl_Table_size q_impl_Table_at q_impl_Table_changes q_impl_Table_edgePoints_l0 q_impl_Table_edgePoints_l2) Tryd.f137 [.v (.agg [.int .i64 a0, .int .i64 a1]), .v (.one (.int .i64 a2)), .v (.one (.int .i64 a3))] K = BV_impl_Table_edgePoints N q_impl_Table_size q_impl_Table_edgePoints_l0 a0 a1 a2 a3 (fun z4 => K (.v (.one (.sl 3 (.ints .i64 z4))))) := by kernel_rfl
theorem e137_0 {β : Type} (N : Nat)  (a0 : Int) (a1 : Int) (a2 : Int) (a3 : Int) (K : TV → Option β) : evFn lay (E137 N) Tryd.f137 [.v (.agg [.int .i64 a0, .int .i64 a1]), .v (.one (.int .i64 a2)), .v (.one (.int .i64 a3))] K = impl_Table_edgePoints N a0 a1 a2 a3 (fun z4 => K (.v (.one (.sl 3 (.ints .i64 z4))))) := (ve137_0 N (impl_Table_size N) (impl_Table_at N) (impl_Table_changes N) (impl_Table_edgePoints_l0 N) (impl_Table_edgePoints_l2 N) a0 a1 a2 a3 K).trans (t_impl_Table_edgePoints N a0 a1 a2 a3 (fun z4 => K (.v (.one (.sl 3 (.ints .i64 z4)))))).symm
theorem o137 {β : Type} (N : Nat) : SpecOK (β := β) inv Tryd.prog 137 (S137 N) := by
  refine spec_of lay_ok mixed (E := E137 N) (specs_loops (specs_cons (o125 N) (specs_cons (o128 N) (specs_cons (o193 N) specs_nil)))) muts_nil gs_nil Tryd.func137 (by kernel_rfl) 2 (by kernel_rfl) ⟨⟨trivial, rk137_0 N⟩, rk137_2 N⟩ fun args K r h => ?_
  unfold S137 VS137 at h
  split at h
  · exact (e137_0 N _ _ _ _ _).trans h
  · cases h
def VS78 {β : Type} (N : Nat) (q_impl_MinimalPoints : (a0 : Int) → (a1 : Int) → (k : List Int → Option β) → Option β) : Rv.Spec β := fun args K => match args with
  | [.v (.agg [.int .i64 a0, .int .i64 a1])] => q_impl_MinimalPoints a0 a1 (fun z2 => K (.v (.one (.sl 3 (.ints .i64 z2)))))
  | _ => none
def S78 {β : Type} (N : Nat) : Rv.Spec β := VS78 N (impl_MinimalPoints N)
def VE78 {β : Type} (N : Nat) (q_impl_IsTable : (a0 : Int) → (a1 : Int) → (k : Bool → Option β) → Option β) (q_impl_Table_edgePoints : (a0 : Int) → (a1 : Int) → (a2 : Int) → (a3 : Int) → (k : List Int → Option β) → Option β) : Env β := ⟨[(59, VS59 N q_impl_IsTable), (137, VS137 N q_impl_Table_edgePoints)], [], [], [], ⟨[], [], []⟩⟩
def E78 {β : Type} (N : Nat) : Env β := VE78 N (impl_IsTable N) (impl_Table_edgePoints N)
def BV_impl_MinimalPoints {β : Type} (N : Nat) (q_impl_IsTable : (a0 : Int) → (a1 : Int) → (k : Bool → Option β) → Option β) (q_impl_Table_edgePoints : (a0 : Int) → (a1 : Int) → (a2 : Int) → (a3 : Int) → (k : List Int → Option β) → Option β) (a0 : Int) (a1 : Int) (k : List Int → Option β) : Option β :=
q_impl_IsTable a0 a1 fun r3 =>
(cond (!r3)
(k (([] : List Int)))
(q_impl_Table_edgePoints a0 a1 1 1 fun r4 =>
k r4))
theorem t_impl_MinimalPoints {β : Type} (N : Nat) (a0 : Int) (a1 : Int) (k : List Int → Option β) : impl_MinimalPoints N a0 a1 k = BV_impl_MinimalPoints N (impl_IsTable N) (impl_Table_edgePoints N) a0 a1 k := by
  unfold impl_MinimalPoints BV_impl_MinimalPoints
  rfl
theorem ve78_0 {β : Type} (N : Nat) (q_impl_IsTable : (a0 : Int) → (a1 : Int) → (k : Bool → Option β) → Option β) (q_impl_Table_edgePoints : (a0 : Int) → (a1 : Int) → (a2 : Int) → (a3 : Int) → (k : List Int → Option β) → Option β)  (a0 : Int) (a1 : Int) (K : TV → Option β) : evFn lay (VE78 N q_impl_IsTable q_impl_Table_edgePoints) Tryd.f78 [.v (.agg [.int .i64 a0, .int .i64 a1])] K = BV_impl_MinimalPoints N q_impl_IsTable q_impl_Table_edgePoints a0 a1 (fun z2 => K (.v (.one (.sl 3 (.ints .i64 z2))))) := by kernel_rfl
theorem e78_0 {β : Type} (N : Nat)  (a0 : Int) (a1 : Int) (K : TV → Option β) : evFn lay (E78 N) Tryd.f78 [.v (.agg [.int .i64 a0, .int .i64 a1])] K = impl_MinimalPoints N a0 a1 (fun z2 => K (.v (.one (.sl 3 (.ints .i64 z2))))) := (ve78_0 N (impl_IsTable N) (impl_Table_edgePoints N) a0 a1 K).trans (t_impl_MinimalPoints N a0 a1 (fun z2 => K (.v (.one (.sl 3 (.ints .i64 z2)))))).symm
theorem o78 {β : Type} (N : Nat) : SpecOK (β := β) inv Tryd.prog 78 (S78 N) := by
  refine spec_of lay_ok mixed (E := E78 N) (specs_loops (specs_cons (o59 N) (specs_cons (o137 N) specs_nil))) muts_nil gs_nil Tryd.func78 (by kernel_rfl) 0 (by kernel_rfl) trivial fun args K r h => ?_
  unfold S78 VS78 at h
  split at h
  · exact (e78_0 N _ _ _).trans h
  · cases h
def VS64 {β : Type} (N : Nat) (q_impl_FormatInt : (a0 : Int) → (k : ByteArray → Option β) → Option β) : Rv.Spec β := fun args K => match args with
  | [.v (.one (.int .i64 a0))] => q_impl_FormatInt a0 (fun z1 => K (.v (.one (.str z1))))
  | _ => none
def S64 {β : Type} (N : Nat) : Rv.Spec β := VS64 N (impl_FormatInt N)
def VE64 {β : Type} (N : Nat) : Env β := ⟨[(130, S130 N)], [], [], [], ⟨[], [], []⟩⟩
def E64 {β : Type} (N : Nat) : Env β := VE64 N
def BV_impl_FormatInt {β : Type} (N : Nat) (a0 : Int) (k : ByteArray → Option β) : Option β :=
strconv_Itoa N a0 fun r2 =>
k r2
theorem t_impl_FormatInt {β : Type} (N : Nat) (a0 : Int) (k : ByteArray → Option β) : impl_FormatInt N a0 k = BV_impl_FormatInt N a0 k := by
  unfold impl_FormatInt BV_impl_FormatInt
  rfl
theorem ve64_0 {β : Type} (N : Nat)  (a0 : Int) (K : TV → Option β) : evFn lay (VE64 N) Tryd.f64 [.v (.one (.int .i64 a0))] K = BV_impl_FormatInt N a0 (fun z1 => K (.v (.one (.str z1)))) := by kernel_rfl
theorem e64_0 {β : Type} (N : Nat)  (a0 : Int) (K : TV → Option β) : evFn lay (E64 N) Tryd.f64 [.v (.one (.int .i64 a0))] K = impl_FormatInt N a0 (fun z1 => K (.v (.one (.str z1)))) := (ve64_0 N a0 K).trans (t_impl_FormatInt N a0 (fun z1 => K (.v (.one (.str z1))))).symm
theorem o64 {β : Type} (N : Nat) : SpecOK (β := β) inv Tryd.prog 64 (S64 N) := by
  refine spec_of lay_ok mixed (E := E64 N) (specs_loops (specs_cons (o130 N) specs_nil)) muts_nil gs_nil Tryd.func64 (by kernel_rfl) 0 (by kernel_rfl) trivial fun args K r h => ?_
  unfold S64 VS64 at h
  split at h
  · exact (e64_0 N _ _).trans h
  · cases h
def VS61 {β : Type} (N : Nat) (q_impl_listText : (a0 : List Int) → (k : ByteArray → Option β) → Option β) : Rv.Spec β := fun args K => match args with
  | [.v (.one (.sl 3 (.ints .i64 a0)))] => q_impl_listText a0 (fun z1 => K (.v (.one (.str z1))))
  | _ => none
def S61 {β : Type} (N : Nat) : Rv.Spec β := VS61 N (impl_listText N)
def h61_0_0  (v0 : List Int) (v1 : Int) (v2 : Int) (v3 : List ByteArray) : St := ⟨.v (.one .und) :: .v (.one .und) :: .v (.one .und) :: .v (.one (.row 0)) :: .v (.one .und) :: .v (.one .und) :: .v (.one .und) :: .v (.one .und) :: .v (.one .und) :: .v (.one .und) :: .v (.one .und) :: .v (.one .und) :: .v (.one (.sl 3 (.ints .i64 v0))) :: .v (.one (.int .i64 v1)) :: .v (.one (.int .i64 v2)) :: .v (.one .und) :: .v (.one .und) :: .v (.one .und) :: .v (.one .und) :: .v (.one .und) :: .v (.one .und) :: .v (.one .und) :: .v (.one .und) :: .v (.one .und) :: .v (.one .und) :: .v (.one .und) :: .v (.one .und) :: [], [.row 9 (.strs v3)]⟩
def x61_0_0_k0  (y0 : List ByteArray) : St := ⟨.v (.one .und) :: .v (.one .und) :: .v (.one .und) :: .v (.one (.row 0)) :: .v (.one .und) :: .v (.one .und) :: .v (.one .und) :: .v (.one .und) :: .v (.one .und) :: .v (.one .und) :: .v (.one .und) :: .v (.one .und) :: .v (.one .und) :: .v (.one .und) :: .v (.one .und) :: .v (.one .und) :: .v (.one .und) :: .v (.one .und) :: .v (.one .und) :: .v (.one .und) :: .v (.one .und) :: .v (.one .und) :: .v (.one .und) :: .v (.one .und) :: .v (.one .und) :: .v (.one .und) :: .v (.one .und) :: [], [.row 9 (.strs y0)]⟩
theorem fl61_0_0 (s : St) : refSt (h61_0_0 [] 0 0 []) s = h61_0_0 (rInts (rowV (oneA (vT (nx tund s.tmps 12))))) (intS (oneA (vT (nx tund s.tmps 13)))) (intS (oneA (vT (nx tund s.tmps 14)))) (rStrs (rowB_ (nx .dead s.blks 0))) := by kernel_rfl
def VLS61_0 {β : Type} (N : Nat) (q_impl_listText_l0 : Nat → List Int → Int → Int → List ByteArray → (List ByteArray → Option β) → Option β) : LSpec β := fun s K => cond (shpSt (h61_0_0 [] 0 0 []) s) ((fun (v0 : List Int) (v1 : Int) (v2 : Int) (v3 : List ByteArray) => q_impl_listText_l0  N v0 v1 v2 v3 (fun y0 => K (.exit 0) (x61_0_0_k0  y0))) (rInts (rowV (oneA (vT (nx tund s.tmps 12))))) (intS (oneA (vT (nx tund s.tmps 13)))) (intS (oneA (vT (nx tund s.tmps 14)))) (rStrs (rowB_ (nx .dead s.blks 0)))) (none)
def LS61_0 {β : Type} (N : Nat) : LSpec β := VLS61_0 N (impl_listText_l0 N)
def VE61 {β : Type} (N : Nat) (q_impl_FormatInt : (a0 : Int) → (k : ByteArray → Option β) → Option β) (q_impl_listText_l0 : Nat → List Int → Int → Int → List ByteArray → (List ByteArray → Option β) → Option β) : Env β := ⟨[(64, VS64 N q_impl_FormatInt), (126, S126 N)], [], [(0, VLS61_0 N q_impl_listText_l0)], [], ⟨[], [], []⟩⟩
def E61 {β : Type} (N : Nat) : Env β := VE61 N (impl_FormatInt N) (impl_listText_l0 N)
def BV_impl_listText_l0b {β : Type} (N : Nat) (q_impl_FormatInt : (a0 : Int) → (k : ByteArray → Option β) → Option β)  (v0 : List Int) (v1 : Int) (v2 : Int) (v3 : List ByteArray) (rec_ : List Int → Int → Int → List ByteArray → Option β) (k0 : List ByteArray → Option β) : Option β :=
(cond ((decide (v2 < v1)))
((gd ((decide (0 ≤ v2)))
((gd ((decide (v2 < (v0.length : Int))))
(q_impl_FormatInt ((rd 0 v0 v2)) fun r2 =>
(gd ((decide (0 ≤ v2)))
((gd ((decide (v2 < (v3.length : Int))))
(rec_ v0 v1 ((w64 (v2 + 1))) ((wr v3 v2 r2)))))))))))
(k0 v3))
theorem t_impl_listText_l0b {β : Type} (N : Nat)  (v0 : List Int) (v1 : Int) (v2 : Int) (v3 : List ByteArray) (rec_ : List Int → Int → Int → List ByteArray → Option β) (k0 : List ByteArray → Option β) : impl_listText_l0b N v0 v1 v2 v3 rec_ k0 = BV_impl_listText_l0b N (impl_FormatInt N) v0 v1 v2 v3 rec_ k0 := by
  unfold impl_listText_l0b BV_impl_listText_l0b
  rfl
theorem vst61_0_0 {β : Type} (N : Nat) (q_impl_FormatInt : (a0 : Int) → (k : ByteArray → Option β) → Option β) (q_impl_listText_l0 : Nat → List Int → Int → Int → List ByteArray → (List ByteArray → Option β) → Option β)  (v0 : List Int) (v1 : Int) (v2 : Int) (v3 : List ByteArray) (rec_ : St → Option β) (K : Exit → St → Option β) :
    ev lay (VE61 N q_impl_FormatInt q_impl_listText_l0) (retMask Tryd.f61) (lp Tryd.f61 0).body (lp Tryd.f61 0).ex ((lp Tryd.f61 0).lv (retMask Tryd.f61)) (h61_0_0  v0 v1 v2 v3) (nextR (fun s' => rec_ (s'.tidy ((lp Tryd.f61 0).lv (retMask Tryd.f61)))) K) = BV_impl_listText_l0b N q_impl_FormatInt  v0 v1 v2 v3 (fun v0 v1 v2 v3 => rec_ (h61_0_0  v0 v1 v2 v3)) (fun y0 => K (.exit 0) (x61_0_0_k0  y0)) := by kernel_rfl
theorem st61_0_0 {β : Type} (N : Nat)  (v0 : List Int) (v1 : Int) (v2 : Int) (v3 : List ByteArray) (rec_ : St → Option β) (K : Exit → St → Option β) :
    ev lay (E61 N) (retMask Tryd.f61) (lp Tryd.f61 0).body (lp Tryd.f61 0).ex ((lp Tryd.f61 0).lv (retMask Tryd.f61)) (h61_0_0  v0 v1 v2 v3) (nextR (fun s' => rec_ (s'.tidy ((lp Tryd.f61 0).lv (retMask Tryd.f61)))) K) = impl_listText_l0b N  v0 v1 v2 v3 (fun v0 v1 v2 v3 => rec_ (h61_0_0  v0 v1 v2 v3)) (fun y0 => K (.exit 0) (x61_0_0_k0  y0)) := (vst61_0_0 N (impl_FormatInt N) (impl_listText_l0 N) v0 v1 v2 v3 rec_ K).trans (t_impl_listText_l0b N  v0 v1 v2 v3 (fun v0 v1 v2 v3 => rec_ (h61_0_0  v0 v1 v2 v3)) (fun y0 => K (.exit 0) (x61_0_0_k0  y0))).symm
theorem ro61_0_0 {β : Type} (N : Nat)  (K : Exit → St → Option β) : ∀ (F : Nat) (v0 : List Int) (v1 : Int) (v2 : Int) (v3 : List ByteArray), (lp Tryd.f61 0).rounds lay (E61 N) (retMask Tryd.f61) F (h61_0_0  v0 v1 v2 v3) K = impl_listText_l0 N  F v0 v1 v2 v3 (fun y0 => K (.exit 0) (x61_0_0_k0  y0)) := by
  intro F
  induction F with
  | zero => intros; rfl
  | succ F ih =>
    intros
    rw [rounds_next]
    refine (st61_0_0 N  _ _ _ _ (fun s => (lp Tryd.f61 0).rounds lay (E61 N) (retMask Tryd.f61) F s K) K).trans ?_
    simp only [ih]
    rfl
theorem lk61_0 {β : Type} (N : Nat) : lookL (E61 (β := β) N).loops (lp Tryd.f61 0).id = LS61_0 N := by kernel_rfl
theorem rk61_0 {β : Type} (N : Nat) : RoundsOK lay (E61 (β := β) N) (retMask Tryd.f61) (lp Tryd.f61 0) := by
  intro s K r h
  rw [lk61_0] at h
  unfold LS61_0 VLS61_0 at h
  cases hb : shpSt (h61_0_0 [] 0 0 []) s with
  | true =>
    rw [hb, cond_true] at h
    exact ⟨N, by rw [← shpSt_ref hb, fl61_0_0 s]; exact (ro61_0_0 N  K N (rInts (rowV (oneA (vT (nx tund s.tmps 12))))) (intS (oneA (vT (nx tund s.tmps 13)))) (intS (oneA (vT (nx tund s.tmps 14)))) (rStrs (rowB_ (nx .dead s.blks 0)))).trans h⟩
  | false =>
  rw [hb, cond_false] at h
  clear hb
  cases h
def BV_impl_listText {β : Type} (N : Nat) (q_impl_listText_l0 : Nat → List Int → Int → Int → List ByteArray → (List ByteArray → Option β) → Option β) (a0 : List Int) (k : ByteArray → Option β) : Option β :=
(cond (((a0.length : Int) == 0))
(k ((strOf [110, 111, 110, 101])))
((gd ((decide (0 ≤ (a0.length : Int))))
((gd ((decide ((a0.length : Int) ≤ (a0.length : Int))))
((gd ((decide (16 * (a0.length : Int) ≤ 281474976710656)))
(q_impl_listText_l0  N a0 ((a0.length : Int)) 0 ((List.replicate (Int.toNat (a0.length : Int)) ByteArray.empty)) (fun e3_0 =>
strings_Join N e3_0 ((strOf [44])) fun r4 =>
k r4)))))))))
theorem t_impl_listText {β : Type} (N : Nat) (a0 : List Int) (k : ByteArray → Option β) : impl_listText N a0 k = BV_impl_listText N (impl_listText_l0 N) a0 k := by
  unfold impl_listText BV_impl_listText
  rfl
theorem ve61_0 {β : Type} (N : Nat) (q_impl_FormatInt : (a0 : Int) → (k : ByteArray → Option β) → Option β) (q_impl_listText_l0 : Nat → List Int → Int → Int → List ByteArray → (List ByteArray → Option β) → Option β)  (a0 : List Int) (K : TV → Option β) : evFn lay (VE61 N q_impl_FormatInt q_impl_listText_l0) Tryd.f61 [.v (.one (.sl 3 (.ints .i64 a0)))] K = BV_impl_listText N q_impl_listText_l0 a0 (fun z1 => K (.v (.one (.str z1)))) := by kernel_rfl
theorem e61_0 {β : Type} (N : Nat)  (a0 : List Int) (K : TV → Option β) : evFn lay (E61 N) Tryd.f61 [.v (.one (.sl 3 (.ints .i64 a0)))] K = impl_listText N a0 (fun z1 => K (.v (.one (.str z1)))) := (ve61_0 N (impl_FormatInt N) (impl_listText_l0 N) a0 K).trans (t_impl_listText N a0 (fun z1 => K (.v (.one (.str z1))))).symm
theorem o61 {β : Type} (N : Nat) : SpecOK (β := β) inv Tryd.prog 61 (S61 N) := by
  refine spec_of lay_ok mixed (E := E61 N) (specs_loops (specs_cons (o64 N) (specs_cons (o126 N) specs_nil))) muts_nil gs_nil Tryd.func61 (by kernel_rfl) 1 (by kernel_rfl) ⟨trivial, rk61_0 N⟩ fun args K r h => ?_
  unfold S61 VS61 at h
  split at h
  · exact (e61_0 N _ _).trans h
  · cases h
def VS188 {β : Type} (N : Nat) (q_math_bits_OnesCount64 : (a0 : Int) → (k : Int → Option β) → Option β) : Rv.Spec β := fun args K => match args with
  | [.v (.one (.int .u64 a0))] => q_math_bits_OnesCount64 a0 (fun z1 => K (.v (.one (.int .i64 z1))))
  | _ => none
def S188 {β : Type} (N : Nat) : Rv.Spec β := VS188 N (math_bits_OnesCount64 N)
def VE188 {β : Type} (N : Nat) : Env β := ⟨[], [], [], [], ⟨[], [], []⟩⟩
def E188 {β : Type} (N : Nat) : Env β := VE188 N
def BV_math_bits_OnesCount64 {β : Type} (N : Nat) (a0 : Int) (k : Int → Option β) : Option β :=
k ((bits .and .i64 (w64 ((wu64 ((wu64 ((wu64 ((bits .and .u64 (wu64 ((shrI .u64 (wu64 ((bits .and .u64 (shrI .u64 (wu64 ((bits .and .u64 (shrI .u64 a0 1) 6148914691236517205) + (bits .and .u64 a0 6148914691236517205))) 2) 3689348814741910323) + (bits .and .u64 (wu64 ((bits .and .u64 (shrI .u64 a0 1) 6148914691236517205) + (bits .and .u64 a0 6148914691236517205))) 3689348814741910323))) 4) + (wu64 ((bits .and .u64 (shrI .u64 (wu64 ((bits .and .u64 (shrI .u64 a0 1) 6148914691236517205) + (bits .and .u64 a0 6148914691236517205))) 2) 3689348814741910323) + (bits .and .u64 (wu64 ((bits .and .u64 (shrI .u64 a0 1) 6148914691236517205) + (bits .and .u64 a0 6148914691236517205))) 3689348814741910323))))) 1085102592571150095) + (shrI .u64 (bits .and .u64 (wu64 ((shrI .u64 (wu64 ((bits .and .u64 (shrI .u64 (wu64 ((bits .and .u64 (shrI .u64 a0 1) 6148914691236517205) + (bits .and .u64 a0 6148914691236517205))) 2) 3689348814741910323) + (bits .and .u64 (wu64 ((bits .and .u64 (shrI .u64 a0 1) 6148914691236517205) + (bits .and .u64 a0 6148914691236517205))) 3689348814741910323))) 4) + (wu64 ((bits .and .u64 (shrI .u64 (wu64 ((bits .and .u64 (shrI .u64 a0 1) 6148914691236517205) + (bits .and .u64 a0 6148914691236517205))) 2) 3689348814741910323) + (bits .and .u64 (wu64 ((bits .and .u64 (shrI .u64 a0 1) 6148914691236517205) + (bits .and .u64 a0 6148914691236517205))) 3689348814741910323))))) 1085102592571150095) 8))) + (shrI .u64 (wu64 ((bits .and .u64 (wu64 ((shrI .u64 (wu64 ((bits .and .u64 (shrI .u64 (wu64 ((bits .and .u64 (shrI .u64 a0 1) 6148914691236517205) + (bits .and .u64 a0 6148914691236517205))) 2) 3689348814741910323) + (bits .and .u64 (wu64 ((bits .and .u64 (shrI .u64 a0 1) 6148914691236517205) + (bits .and .u64 a0 6148914691236517205))) 3689348814741910323))) 4) + (wu64 ((bits .and .u64 (shrI .u64 (wu64 ((bits .and .u64 (shrI .u64 a0 1) 6148914691236517205) + (bits .and .u64 a0 6148914691236517205))) 2) 3689348814741910323) + (bits .and .u64 (wu64 ((bits .and .u64 (shrI .u64 a0 1) 6148914691236517205) + (bits .and .u64 a0 6148914691236517205))) 3689348814741910323))))) 1085102592571150095) + (shrI .u64 (bits .and .u64 (wu64 ((shrI .u64 (wu64 ((bits .and .u64 (shrI .u64 (wu64 ((bits .and .u64 (shrI .u64 a0 1) 6148914691236517205) + (bits .and .u64 a0 6148914691236517205))) 2) 3689348814741910323) + (bits .and .u64 (wu64 ((bits .and .u64 (shrI .u64 a0 1) 6148914691236517205) + (bits .and .u64 a0 6148914691236517205))) 3689348814741910323))) 4) + (wu64 ((bits .and .u64 (shrI .u64 (wu64 ((bits .and .u64 (shrI .u64 a0 1) 6148914691236517205) + (bits .and .u64 a0 6148914691236517205))) 2) 3689348814741910323) + (bits .and .u64 (wu64 ((bits .and .u64 (shrI .u64 a0 1) 6148914691236517205) + (bits .and .u64 a0 6148914691236517205))) 3689348814741910323))))) 1085102592571150095) 8))) 16))) + (shrI .u64 (wu64 ((wu64 ((bits .and .u64 (wu64 ((shrI .u64 (wu64 ((bits .and .u64 (shrI .u64 (wu64 ((bits .and .u64 (shrI .u64 a0 1) 6148914691236517205) + (bits .and .u64 a0 6148914691236517205))) 2) 3689348814741910323) + (bits .and .u64 (wu64 ((bits .and .u64 (shrI .u64 a0 1) 6148914691236517205) + (bits .and .u64 a0 6148914691236517205))) 3689348814741910323))) 4) + (wu64 ((bits .and .u64 (shrI .u64 (wu64 ((bits .and .u64 (shrI .u64 a0 1) 6148914691236517205) + (bits .and .u64 a0 6148914691236517205))) 2) 3689348814741910323) + (bits .and .u64 (wu64 ((bits .and .u64 (shrI .u64 a0 1) 6148914691236517205) + (bits .and .u64 a0 6148914691236517205))) 3689348814741910323))))) 1085102592571150095) + (shrI .u64 (bits .and .u64 (wu64 ((shrI .u64 (wu64 ((bits .and .u64 (shrI .u64 (wu64 ((bits .and .u64 (shrI .u64 a0 1) 6148914691236517205) + (bits .and .u64 a0 6148914691236517205))) 2) 3689348814741910323) + (bits .and .u64 (wu64 ((bits .and .u64 (shrI .u64 a0 1) 6148914691236517205) + (bits .and .u64 a0 6148914691236517205))) 3689348814741910323))) 4) + (wu64 ((bits .and .u64 (shrI .u64 (wu64 ((bits .and .u64 (shrI .u64 a0 1) 6148914691236517205) + (bits .and .u64 a0 6148914691236517205))) 2) 3689348814741910323) + (bits .and .u64 (wu64 ((bits .and .u64 (shrI .u64 a0 1) 6148914691236517205) + (bits .and .u64 a0 6148914691236517205))) 3689348814741910323))))) 1085102592571150095) 8))) + (shrI .u64 (wu64 ((bits .and .u64 (wu64 ((shrI .u64 (wu64 ((bits .and .u64 (shrI .u64 (wu64 ((bits .and .u64 (shrI .u64 a0 1) 6148914691236517205) + (bits .and .u64 a0 6148914691236517205))) 2) 3689348814741910323) + (bits .and .u64 (wu64 ((bits .and .u64 (shrI .u64 a0 1) 6148914691236517205) + (bits .and .u64 a0 6148914691236517205))) 3689348814741910323))) 4) + (wu64 ((bits .and .u64 (shrI .u64 (wu64 ((bits .and .u64 (shrI .u64 a0 1) 6148914691236517205) + (bits .and .u64 a0 6148914691236517205))) 2) 3689348814741910323) + (bits .and .u64 (wu64 ((bits .and .u64 (shrI .u64 a0 1) 6148914691236517205) + (bits .and .u64 a0 6148914691236517205))) 3689348814741910323))))) 1085102592571150095) + (shrI .u64 (bits .and .u64 (wu64 ((shrI .u64 (wu64 ((bits .and .u64 (shrI .u64 (wu64 ((bits .and .u64 (shrI .u64 a0 1) 6148914691236517205) + (bits .and .u64 a0 6148914691236517205))) 2) 3689348814741910323) + (bits .and .u64 (wu64 ((bits .and .u64 (shrI .u64 a0 1) 6148914691236517205) + (bits .and .u64 a0 6148914691236517205))) 3689348814741910323))) 4) + (wu64 ((bits .and .u64 (shrI .u64 (wu64 ((bits .and .u64 (shrI .u64 a0 1) 6148914691236517205) + (bits .and .u64 a0 6148914691236517205))) 2) 3689348814741910323) + (bits .and .u64 (wu64 ((bits .and .u64 (shrI .u64 a0 1) 6148914691236517205) + (bits .and .u64 a0 6148914691236517205))) 3689348814741910323))))) 1085102592571150095) 8))) 16))) 32))))) 127))
theorem t_math_bits_OnesCount64 {β : Type} (N : Nat) (a0 : Int) (k : Int → Option β) : math_bits_OnesCount64 N a0 k = BV_math_bits_OnesCount64 N a0 k := by
  unfold math_bits_OnesCount64 BV_math_bits_OnesCount64
  rfl
theorem ve188_0 {β : Type} (N : Nat)  (a0 : Int) (K : TV → Option β) : evFn lay (VE188 N) Tryd.f188 [.v (.one (.int .u64 a0))] K = BV_math_bits_OnesCount64 N a0 (fun z1 => K (.v (.one (.int .i64 z1)))) := by kernel_rfl
theorem e188_0 {β : Type} (N : Nat)  (a0 : Int) (K : TV → Option β) : evFn lay (E188 N) Tryd.f188 [.v (.one (.int .u64 a0))] K = math_bits_OnesCount64 N a0 (fun z1 => K (.v (.one (.int .i64 z1)))) := (ve188_0 N a0 K).trans (t_math_bits_OnesCount64 N a0 (fun z1 => K (.v (.one (.int .i64 z1))))).symm
theorem o188 {β : Type} (N : Nat) : SpecOK (β := β) inv Tryd.prog 188 (S188 N) := by
  refine spec_of lay_ok mixed (E := E188 N) (specs_loops specs_nil) muts_nil gs_nil Tryd.func188 (by kernel_rfl) 0 (by kernel_rfl) trivial fun args K r h => ?_
  unfold S188 VS188 at h
  split at h
  · exact (e188_0 N _ _).trans h
  · cases h
def VS129 {β : Type} (N : Nat) (q_impl_ones : (a0 : Int) → (k : Int → Option β) → Option β) : Rv.Spec β := fun args K => match args with
  | [.v (.one (.int .i64 a0))] => q_impl_ones a0 (fun z1 => K (.v (.one (.int .i64 z1))))
  | _ => none
def S129 {β : Type} (N : Nat) : Rv.Spec β := VS129 N (impl_ones N)
def VE129 {β : Type} (N : Nat) (q_math_bits_OnesCount64 : (a0 : Int) → (k : Int → Option β) → Option β) : Env β := ⟨[(188, VS188 N q_math_bits_OnesCount64)], [], [], [], ⟨[], [], []⟩⟩
def E129 {β : Type} (N : Nat) : Env β := VE129 N (math_bits_OnesCount64 N)
def BV_impl_ones {β : Type} (N : Nat) (q_math_bits_OnesCount64 : (a0 : Int) → (k : Int → Option β) → Option β) (a0 : Int) (k : Int → Option β) : Option β :=
q_math_bits_OnesCount64 ((wu64 (a0))) fun r2 =>
k r2
theorem t_impl_ones {β : Type} (N : Nat) (a0 : Int) (k : Int → Option β) : impl_ones N a0 k = BV_impl_ones N (math_bits_OnesCount64 N) a0 k := by
  unfold impl_ones BV_impl_ones
  rfl
theorem ve129_0 {β : Type} (N : Nat) (q_math_bits_OnesCount64 : (a0 : Int) → (k : Int → Option β) → Option β)  (a0 : Int) (K : TV → Option β) : evFn lay (VE129 N q_math_bits_OnesCount64) Tryd.f129 [.v (.one (.int .i64 a0))] K = BV_impl_ones N q_math_bits_OnesCount64 a0 (fun z1 => K (.v (.one (.int .i64 z1)))) := by kernel_rfl
theorem e129_0 {β : Type} (N : Nat)  (a0 : Int) (K : TV → Option β) : evFn lay (E129 N) Tryd.f129 [.v (.one (.int .i64 a0))] K = impl_ones N a0 (fun z1 => K (.v (.one (.int .i64 z1)))) := (ve129_0 N (math_bits_OnesCount64 N) a0 K).trans (t_impl_ones N a0 (fun z1 => K (.v (.one (.int .i64 z1))))).symm
theorem o129 {β : Type} (N : Nat) : SpecOK (β := β) inv Tryd.prog 129 (S129 N) := by
  refine spec_of lay_ok mixed (E := E129 N) (specs_loops (specs_cons (o188 N) specs_nil)) muts_nil gs_nil Tryd.func129 (by kernel_rfl) 0 (by kernel_rfl) trivial fun args K r h => ?_
  unfold S129 VS129 at h
  split at h
  · exact (e129_0 N _ _).trans h
  · cases h
def VS139 {β : Type} (N : Nat) (q_impl_BanzhafNumbers_1 : (a0 : Int) → (k : Int → Option β) → Option β) : Rv.Spec β := fun args K => match args with
  | [.v (.one (.int .i64 a0))] => q_impl_BanzhafNumbers_1 a0 (fun z1 => K (.v (.one (.int .i64 z1))))
  | _ => none
def S139 {β : Type} (N : Nat) : Rv.Spec β := VS139 N (impl_BanzhafNumbers_1 N)
def VE139 {β : Type} (N : Nat) : Env β := ⟨[], [], [], [], ⟨[], [], []⟩⟩
def E139 {β : Type} (N : Nat) : Env β := VE139 N
def BV_impl_BanzhafNumbers_1 {β : Type} (N : Nat) (a0 : Int) (k : Int → Option β) : Option β :=
k 1
theorem t_impl_BanzhafNumbers_1 {β : Type} (N : Nat) (a0 : Int) (k : Int → Option β) : impl_BanzhafNumbers_1 N a0 k = BV_impl_BanzhafNumbers_1 N a0 k := by
  unfold impl_BanzhafNumbers_1 BV_impl_BanzhafNumbers_1
  rfl
theorem ve139_0 {β : Type} (N : Nat)  (a0 : Int) (K : TV → Option β) : evFn lay (VE139 N) Tryd.f139 [.v (.one (.int .i64 a0))] K = BV_impl_BanzhafNumbers_1 N a0 (fun z1 => K (.v (.one (.int .i64 z1)))) := by kernel_rfl
theorem e139_0 {β : Type} (N : Nat)  (a0 : Int) (K : TV → Option β) : evFn lay (E139 N) Tryd.f139 [.v (.one (.int .i64 a0))] K = impl_BanzhafNumbers_1 N a0 (fun z1 => K (.v (.one (.int .i64 z1)))) := (ve139_0 N a0 K).trans (t_impl_BanzhafNumbers_1 N a0 (fun z1 => K (.v (.one (.int .i64 z1))))).symm
theorem o139 {β : Type} (N : Nat) : SpecOK (β := β) inv Tryd.prog 139 (S139 N) := by
  refine spec_of lay_ok mixed (E := E139 N) (specs_loops specs_nil) muts_nil gs_nil Tryd.func139 (by kernel_rfl) 0 (by kernel_rfl) trivial fun args K r h => ?_
  unfold S139 VS139 at h
  split at h
  · exact (e139_0 N _ _).trans h
  · cases h
end Go.Proofs.YtfdggelojmofmaaDoor
