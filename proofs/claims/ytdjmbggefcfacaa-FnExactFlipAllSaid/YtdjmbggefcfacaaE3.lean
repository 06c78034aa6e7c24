/- The functions that the claims reach answer as their texts do. -/
import Derived.Test.YtdjmbggefcfacaaE2
namespace Go.Proofs.Ytdjmbggefcfacaa
open Go.Rv
set_option maxRecDepth 100000
set_option maxHeartbeats 2000000
set_option linter.unusedVariables false
def VS47 {β : Type} (N : Nat) (q_impl_Table_kept : (a0 : Int) → (a1 : Int) → (k : Int → Int → Int → List Int → Option β) → Option β) : Rv.Spec β := fun args K => match args with
  | [.v (.agg [.int .i64 a0, .int .i64 a1])] => q_impl_Table_kept a0 a1 (fun z2 z3 z4 z5 => K (.v (.agg [.int .i64 z2, .int .i64 z3, .int .i64 z4, .sl 3 (.ints .i64 z5)])))
  | _ => none
def S47 {β : Type} (N : Nat) : Rv.Spec β := VS47 N (impl_Table_kept N)
def VE47 {β : Type} (N : Nat) (q_impl_ones : (a0 : Int) → (k : Int → Option β) → Option β) (q_impl_Table_influences : (a0 : Int) → (a1 : Int) → (k : List Int → Option β) → Option β) : Env β := ⟨[(53, VS53 N q_impl_ones), (75, VS75 N q_impl_Table_influences)], [], [], []⟩
def E47 {β : Type} (N : Nat) : Env β := VE47 N (impl_ones N) (impl_Table_influences N)
def BV_impl_Table_kept {β : Type} (N : Nat) (q_impl_ones : (a0 : Int) → (k : Int → Option β) → Option β) (q_impl_Table_influences : (a0 : Int) → (a1 : Int) → (k : List Int → Option β) → Option β) (a0 : Int) (a1 : Int) (k : Int → Int → Int → List Int → Option β) : Option β :=
q_impl_ones a1 fun r6 =>
q_impl_Table_influences a0 a1 fun r7 =>
k a0 a1 r6 r7
theorem t_impl_Table_kept {β : Type} (N : Nat) (a0 : Int) (a1 : Int) (k : Int → Int → Int → List Int → Option β) : impl_Table_kept N a0 a1 k = BV_impl_Table_kept N (impl_ones N) (impl_Table_influences N) a0 a1 k := by
  unfold impl_Table_kept BV_impl_Table_kept
  rfl
theorem ve47_0 {β : Type} (N : Nat) (q_impl_ones : (a0 : Int) → (k : Int → Option β) → Option β) (q_impl_Table_influences : (a0 : Int) → (a1 : Int) → (k : List Int → Option β) → Option β)  (a0 : Int) (a1 : Int) (K : TV → Option β) : evFn lay (VE47 N q_impl_ones q_impl_Table_influences) Try.f47 [.v (.agg [.int .i64 a0, .int .i64 a1])] K = BV_impl_Table_kept N q_impl_ones q_impl_Table_influences a0 a1 (fun z2 z3 z4 z5 => K (.v (.agg [.int .i64 z2, .int .i64 z3, .int .i64 z4, .sl 3 (.ints .i64 z5)]))) := by kernel_rfl
theorem e47_0 {β : Type} (N : Nat)  (a0 : Int) (a1 : Int) (K : TV → Option β) : evFn lay (E47 N) Try.f47 [.v (.agg [.int .i64 a0, .int .i64 a1])] K = impl_Table_kept N a0 a1 (fun z2 z3 z4 z5 => K (.v (.agg [.int .i64 z2, .int .i64 z3, .int .i64 z4, .sl 3 (.ints .i64 z5)]))) := (ve47_0 N (impl_ones N) (impl_Table_influences N) a0 a1 K).trans (t_impl_Table_kept N a0 a1 (fun z2 z3 z4 z5 => K (.v (.agg [.int .i64 z2, .int .i64 z3, .int .i64 z4, .sl 3 (.ints .i64 z5)])))).symm
theorem o47 {β : Type} (N : Nat) : SpecOK (β := β) Try.prog 47 (S47 N) := by
  refine spec_of lay_ok mixed (E := E47 N) (specs_loops (specs_cons (o53 N) (specs_cons (o75 N) specs_nil))) muts_nil gs_nil Try.func47 (by kernel_rfl) 0 (by kernel_rfl) trivial fun args K r h => ?_
  unfold S47 VS47 at h
  split at h
  · exact (e47_0 N _ _ _).trans h
  · cases h
def VS79 {β : Type} (N : Nat) (q_slices_Equal_Sint_int : (a0 : List Int) → (a1 : List Int) → (k : Bool → Option β) → Option β) : Rv.Spec β := fun args K => match args with
  | [.v (.one (.sl 3 (.ints .i64 a0))), .v (.one (.sl 3 (.ints .i64 a1)))] => q_slices_Equal_Sint_int a0 a1 (fun z2 => K (.v (.one (.bool z2))))
  | _ => none
def S79 {β : Type} (N : Nat) : Rv.Spec β := VS79 N (slices_Equal_Sint_int N)
def h79_0_0  (v0 : List Int) (v1 : List Int) (v2 : Int) (v3 : Int) : St := ⟨.v (.one (.sl 3 (.ints .i64 v0))) :: .v (.one (.sl 3 (.ints .i64 v1))) :: .v (.one .und) :: .v (.one .und) :: .v (.one .und) :: .v (.one .und) :: .v (.one .und) :: .v (.one .und) :: .v (.one .und) :: .v (.one .und) :: .v (.one .und) :: .v (.one .und) :: .v (.one (.int .i64 v2)) :: .v (.one (.int .i64 v3)) :: .v (.one .und) :: .v (.one .und) :: .v (.one .und) :: .v (.one .und) :: .v (.one .und) :: .v (.one .und) :: .v (.one .und) :: .v (.one .und) :: .v (.one .und) :: .v (.one .und) :: .v (.one .und) :: .v (.one .und) :: [], []⟩
def x79_0_0_k0  (y0 : Bool) : St := ⟨.v (.one .und) :: .v (.one .und) :: .v (.one .und) :: .v (.one .und) :: .v (.one (.bool y0)) :: .v (.one .und) :: .v (.one .und) :: .v (.one .und) :: .v (.one .und) :: .v (.one .und) :: .v (.one .und) :: .v (.one .und) :: .v (.one .und) :: .v (.one .und) :: .v (.one .und) :: .v (.one .und) :: .v (.one .und) :: .v (.one .und) :: .v (.one .und) :: .v (.one .und) :: .v (.one .und) :: .v (.one .und) :: .v (.one .und) :: .v (.one .und) :: .v (.one .und) :: .v (.one .und) :: [], []⟩
def x79_0_0_k1   : St := ⟨.v (.one .und) :: .v (.one .und) :: .v (.one .und) :: .v (.one .und) :: .v (.one .und) :: .v (.one .und) :: .v (.one .und) :: .v (.one .und) :: .v (.one .und) :: .v (.one .und) :: .v (.one .und) :: .v (.one .und) :: .v (.one .und) :: .v (.one .und) :: .v (.one .und) :: .v (.one .und) :: .v (.one .und) :: .v (.one .und) :: .v (.one .und) :: .v (.one .und) :: .v (.one .und) :: .v (.one .und) :: .v (.one .und) :: .v (.one .und) :: .v (.one .und) :: .v (.one .und) :: [], []⟩
theorem fl79_0_0 (s : St) : refSt (h79_0_0 [] [] 0 0) s = h79_0_0 (rInts (rowV (oneA (vT (nx tund s.tmps 0))))) (rInts (rowV (oneA (vT (nx tund s.tmps 1))))) (intS (oneA (vT (nx tund s.tmps 12)))) (intS (oneA (vT (nx tund s.tmps 13)))) := by kernel_rfl
def VLS79_0 {β : Type} (N : Nat) (q_slices_Equal_Sint_int_l0 : Nat → List Int → List Int → Int → Int → (Bool → Option β) → (Option β) → Option β) : LSpec β := fun s K => cond (shpSt (h79_0_0 [] [] 0 0) s) ((fun (v0 : List Int) (v1 : List Int) (v2 : Int) (v3 : Int) => q_slices_Equal_Sint_int_l0  N v0 v1 v2 v3 (fun y0 => K .ret (x79_0_0_k0  y0)) (K (.exit 0) (x79_0_0_k1  ))) (rInts (rowV (oneA (vT (nx tund s.tmps 0))))) (rInts (rowV (oneA (vT (nx tund s.tmps 1))))) (intS (oneA (vT (nx tund s.tmps 12)))) (intS (oneA (vT (nx tund s.tmps 13))))) (none)
def LS79_0 {β : Type} (N : Nat) : LSpec β := VLS79_0 N (slices_Equal_Sint_int_l0 N)
def VE79 {β : Type} (N : Nat) (q_slices_Equal_Sint_int_l0 : Nat → List Int → List Int → Int → Int → (Bool → Option β) → (Option β) → Option β) : Env β := ⟨[], [], [(0, VLS79_0 N q_slices_Equal_Sint_int_l0)], []⟩
def E79 {β : Type} (N : Nat) : Env β := VE79 N (slices_Equal_Sint_int_l0 N)
def BV_slices_Equal_Sint_int_l0b {β : Type} (N : Nat)  (v0 : List Int) (v1 : List Int) (v2 : Int) (v3 : Int) (rec_ : List Int → List Int → Int → Int → Option β) (k0 : Bool → Option β) (k1 : Option β) : Option β :=
(cond ((decide (v3 < v2)))
((gd ((decide (0 ≤ v3)))
((gd ((decide (v3 < (v0.length : Int))))
((gd ((decide (0 ≤ v3)))
((gd ((decide (v3 < (v1.length : Int))))
((cond (((rd 0 v0 v3) != (rd 0 v1 v3)))
(k0 false)
(rec_ v0 v1 v2 ((w64 (v3 + 1))))))))))))))
(k1 ))
theorem t_slices_Equal_Sint_int_l0b {β : Type} (N : Nat)  (v0 : List Int) (v1 : List Int) (v2 : Int) (v3 : Int) (rec_ : List Int → List Int → Int → Int → Option β) (k0 : Bool → Option β) (k1 : Option β) : slices_Equal_Sint_int_l0b N v0 v1 v2 v3 rec_ k0 k1 = BV_slices_Equal_Sint_int_l0b N v0 v1 v2 v3 rec_ k0 k1 := by
  unfold slices_Equal_Sint_int_l0b BV_slices_Equal_Sint_int_l0b
  rfl
theorem vst79_0_0 {β : Type} (N : Nat) (q_slices_Equal_Sint_int_l0 : Nat → List Int → List Int → Int → Int → (Bool → Option β) → (Option β) → Option β)  (v0 : List Int) (v1 : List Int) (v2 : Int) (v3 : Int) (rec_ : St → Option β) (K : Exit → St → Option β) :
    ev lay (VE79 N q_slices_Equal_Sint_int_l0) (retMask Try.f79) (lp Try.f79 0).body (lp Try.f79 0).ex ((lp Try.f79 0).lv (retMask Try.f79)) (h79_0_0  v0 v1 v2 v3) (nextR (fun s' => rec_ (s'.tidy ((lp Try.f79 0).lv (retMask Try.f79)))) K) = BV_slices_Equal_Sint_int_l0b N  v0 v1 v2 v3 (fun v0 v1 v2 v3 => rec_ (h79_0_0  v0 v1 v2 v3)) (fun y0 => K .ret (x79_0_0_k0  y0)) (K (.exit 0) (x79_0_0_k1  )) := by kernel_rfl
theorem st79_0_0 {β : Type} (N : Nat)  (v0 : List Int) (v1 : List Int) (v2 : Int) (v3 : Int) (rec_ : St → Option β) (K : Exit → St → Option β) :
    ev lay (E79 N) (retMask Try.f79) (lp Try.f79 0).body (lp Try.f79 0).ex ((lp Try.f79 0).lv (retMask Try.f79)) (h79_0_0  v0 v1 v2 v3) (nextR (fun s' => rec_ (s'.tidy ((lp Try.f79 0).lv (retMask Try.f79)))) K) = slices_Equal_Sint_int_l0b N  v0 v1 v2 v3 (fun v0 v1 v2 v3 => rec_ (h79_0_0  v0 v1 v2 v3)) (fun y0 => K .ret (x79_0_0_k0  y0)) (K (.exit 0) (x79_0_0_k1  )) := (vst79_0_0 N (slices_Equal_Sint_int_l0 N) v0 v1 v2 v3 rec_ K).trans (t_slices_Equal_Sint_int_l0b N  v0 v1 v2 v3 (fun v0 v1 v2 v3 => rec_ (h79_0_0  v0 v1 v2 v3)) (fun y0 => K .ret (x79_0_0_k0  y0)) (K (.exit 0) (x79_0_0_k1  ))).symm
theorem ro79_0_0 {β : Type} (N : Nat)  (K : Exit → St → Option β) : ∀ (F : Nat) (v0 : List Int) (v1 : List Int) (v2 : Int) (v3 : Int), (lp Try.f79 0).rounds lay (E79 N) (retMask Try.f79) F (h79_0_0  v0 v1 v2 v3) K = slices_Equal_Sint_int_l0 N  F v0 v1 v2 v3 (fun y0 => K .ret (x79_0_0_k0  y0)) (K (.exit 0) (x79_0_0_k1  )) := by
  intro F
  induction F with
  | zero => intros; rfl
  | succ F ih =>
    intros
    rw [rounds_next]
    refine (st79_0_0 N  _ _ _ _ (fun s => (lp Try.f79 0).rounds lay (E79 N) (retMask Try.f79) F s K) K).trans ?_
    simp only [ih]
    rfl
theorem lk79_0 {β : Type} (N : Nat) : lookL (E79 (β := β) N).loops (lp Try.f79 0).id = LS79_0 N := by kernel_rfl
theorem rk79_0 {β : Type} (N : Nat) : RoundsOK lay (E79 (β := β) N) (retMask Try.f79) (lp Try.f79 0) := by
  intro s K r h
  rw [lk79_0] at h
  unfold LS79_0 VLS79_0 at h
  cases hb : shpSt (h79_0_0 [] [] 0 0) s with
  | true =>
    rw [hb, cond_true] at h
    exact ⟨N, by rw [← shpSt_ref hb, fl79_0_0 s]; exact (ro79_0_0 N  K N (rInts (rowV (oneA (vT (nx tund s.tmps 0))))) (rInts (rowV (oneA (vT (nx tund s.tmps 1))))) (intS (oneA (vT (nx tund s.tmps 12)))) (intS (oneA (vT (nx tund s.tmps 13))))).trans h⟩
  | false =>
  rw [hb, cond_false] at h
  clear hb
  cases h
def BV_slices_Equal_Sint_int {β : Type} (N : Nat) (q_slices_Equal_Sint_int_l0 : Nat → List Int → List Int → Int → Int → (Bool → Option β) → (Option β) → Option β) (a0 : List Int) (a1 : List Int) (k : Bool → Option β) : Option β :=
(cond (((a0.length : Int) != (a1.length : Int)))
(k false)
(q_slices_Equal_Sint_int_l0  N a0 a1 ((a0.length : Int)) 0 (fun e3_0 =>
k e3_0) (k true)))
theorem t_slices_Equal_Sint_int {β : Type} (N : Nat) (a0 : List Int) (a1 : List Int) (k : Bool → Option β) : slices_Equal_Sint_int N a0 a1 k = BV_slices_Equal_Sint_int N (slices_Equal_Sint_int_l0 N) a0 a1 k := by
  unfold slices_Equal_Sint_int BV_slices_Equal_Sint_int
  rfl
theorem ve79_0 {β : Type} (N : Nat) (q_slices_Equal_Sint_int_l0 : Nat → List Int → List Int → Int → Int → (Bool → Option β) → (Option β) → Option β)  (a0 : List Int) (a1 : List Int) (K : TV → Option β) : evFn lay (VE79 N q_slices_Equal_Sint_int_l0) Try.f79 [.v (.one (.sl 3 (.ints .i64 a0))), .v (.one (.sl 3 (.ints .i64 a1)))] K = BV_slices_Equal_Sint_int N q_slices_Equal_Sint_int_l0 a0 a1 (fun z2 => K (.v (.one (.bool z2)))) := by kernel_rfl
theorem e79_0 {β : Type} (N : Nat)  (a0 : List Int) (a1 : List Int) (K : TV → Option β) : evFn lay (E79 N) Try.f79 [.v (.one (.sl 3 (.ints .i64 a0))), .v (.one (.sl 3 (.ints .i64 a1)))] K = slices_Equal_Sint_int N a0 a1 (fun z2 => K (.v (.one (.bool z2)))) := (ve79_0 N (slices_Equal_Sint_int_l0 N) a0 a1 K).trans (t_slices_Equal_Sint_int N a0 a1 (fun z2 => K (.v (.one (.bool z2))))).symm
theorem o79 {β : Type} (N : Nat) : SpecOK (β := β) Try.prog 79 (S79 N) := by
  refine spec_of lay_ok mixed (E := E79 N) (specs_loops specs_nil) muts_nil gs_nil Try.func79 (by kernel_rfl) 1 (by kernel_rfl) ⟨trivial, rk79_0 N⟩ fun args K r h => ?_
  unfold S79 VS79 at h
  split at h
  · exact (e79_0 N _ _ _).trans h
  · cases h
def VS58 {β : Type} (N : Nat) (q_impl_EqualKept : (a0 : Int) → (a1 : Int) → (a2 : Int) → (a3 : List Int) → (a4 : Int) → (a5 : Int) → (a6 : Int) → (a7 : List Int) → (k : Bool → Option β) → Option β) : Rv.Spec β := fun args K => match args with
  | [.v (.agg [.int .i64 a0, .int .i64 a1, .int .i64 a2, .sl 3 (.ints .i64 a3)]), .v (.agg [.int .i64 a4, .int .i64 a5, .int .i64 a6, .sl 3 (.ints .i64 a7)])] => q_impl_EqualKept a0 a1 a2 a3 a4 a5 a6 a7 (fun z8 => K (.v (.one (.bool z8))))
  | _ => none
def S58 {β : Type} (N : Nat) : Rv.Spec β := VS58 N (impl_EqualKept N)
def VE58 {β : Type} (N : Nat) (q_slices_Equal_Sint_int : (a0 : List Int) → (a1 : List Int) → (k : Bool → Option β) → Option β) : Env β := ⟨[(79, VS79 N q_slices_Equal_Sint_int)], [], [], []⟩
def E58 {β : Type} (N : Nat) : Env β := VE58 N (slices_Equal_Sint_int N)
def BV_impl_EqualKept {β : Type} (N : Nat) (q_slices_Equal_Sint_int : (a0 : List Int) → (a1 : List Int) → (k : Bool → Option β) → Option β) (a0 : Int) (a1 : Int) (a2 : Int) (a3 : List Int) (a4 : Int) (a5 : Int) (a6 : Int) (a7 : List Int) (k : Bool → Option β) : Option β :=
(cond (((a0 == a4) && (a1 == a5)))
((cond ((a2 == a6))
(q_slices_Equal_Sint_int a3 a7 fun r9 =>
k r9)
(k false)))
(k false))
theorem t_impl_EqualKept {β : Type} (N : Nat) (a0 : Int) (a1 : Int) (a2 : Int) (a3 : List Int) (a4 : Int) (a5 : Int) (a6 : Int) (a7 : List Int) (k : Bool → Option β) : impl_EqualKept N a0 a1 a2 a3 a4 a5 a6 a7 k = BV_impl_EqualKept N (slices_Equal_Sint_int N) a0 a1 a2 a3 a4 a5 a6 a7 k := by
  unfold impl_EqualKept BV_impl_EqualKept
  rfl
theorem ve58_0 {β : Type} (N : Nat) (q_slices_Equal_Sint_int : (a0 : List Int) → (a1 : List Int) → (k : Bool → Option β) → Option β)  (a0 : Int) (a1 : Int) (a2 : Int) (a3 : List Int) (a4 : Int) (a5 : Int) (a6 : Int) (a7 : List Int) (K : TV → Option β) : evFn lay (VE58 N q_slices_Equal_Sint_int) Try.f58 [.v (.agg [.int .i64 a0, .int .i64 a1, .int .i64 a2, .sl 3 (.ints .i64 a3)]), .v (.agg [.int .i64 a4, .int .i64 a5, .int .i64 a6, .sl 3 (.ints .i64 a7)])] K = BV_impl_EqualKept N q_slices_Equal_Sint_int a0 a1 a2 a3 a4 a5 a6 a7 (fun z8 => K (.v (.one (.bool z8)))) := by kernel_rfl
theorem e58_0 {β : Type} (N : Nat)  (a0 : Int) (a1 : Int) (a2 : Int) (a3 : List Int) (a4 : Int) (a5 : Int) (a6 : Int) (a7 : List Int) (K : TV → Option β) : evFn lay (E58 N) Try.f58 [.v (.agg [.int .i64 a0, .int .i64 a1, .int .i64 a2, .sl 3 (.ints .i64 a3)]), .v (.agg [.int .i64 a4, .int .i64 a5, .int .i64 a6, .sl 3 (.ints .i64 a7)])] K = impl_EqualKept N a0 a1 a2 a3 a4 a5 a6 a7 (fun z8 => K (.v (.one (.bool z8)))) := (ve58_0 N (slices_Equal_Sint_int N) a0 a1 a2 a3 a4 a5 a6 a7 K).trans (t_impl_EqualKept N a0 a1 a2 a3 a4 a5 a6 a7 (fun z8 => K (.v (.one (.bool z8))))).symm
theorem o58 {β : Type} (N : Nat) : SpecOK (β := β) Try.prog 58 (S58 N) := by
  refine spec_of lay_ok mixed (E := E58 N) (specs_loops (specs_cons (o79 N) specs_nil)) muts_nil gs_nil Try.func58 (by kernel_rfl) 0 (by kernel_rfl) trivial fun args K r h => ?_
  unfold S58 VS58 at h
  split at h
  · exact (e58_0 N _ _ _ _ _ _ _ _ _).trans h
  · cases h
def VS26 {β : Type} (N : Nat) (q_impl_IsKept : (a0 : Int) → (a1 : Int) → (a2 : Int) → (a3 : List Int) → (k : Bool → Option β) → Option β) : Rv.Spec β := fun args K => match args with
  | [.v (.agg [.int .i64 a0, .int .i64 a1, .int .i64 a2, .sl 3 (.ints .i64 a3)])] => q_impl_IsKept a0 a1 a2 a3 (fun z4 => K (.v (.one (.bool z4))))
  | _ => none
def S26 {β : Type} (N : Nat) : Rv.Spec β := VS26 N (impl_IsKept N)
def VE26 {β : Type} (N : Nat) (q_impl_IsTable : (a0 : Int) → (a1 : Int) → (k : Bool → Option β) → Option β) (q_impl_Table_kept : (a0 : Int) → (a1 : Int) → (k : Int → Int → Int → List Int → Option β) → Option β) (q_impl_EqualKept : (a0 : Int) → (a1 : Int) → (a2 : Int) → (a3 : List Int) → (a4 : Int) → (a5 : Int) → (a6 : Int) → (a7 : List Int) → (k : Bool → Option β) → Option β) : Env β := ⟨[(46, VS46 N q_impl_IsTable), (47, VS47 N q_impl_Table_kept), (58, VS58 N q_impl_EqualKept)], [], [], []⟩
def E26 {β : Type} (N : Nat) : Env β := VE26 N (impl_IsTable N) (impl_Table_kept N) (impl_EqualKept N)
def BV_impl_IsKept {β : Type} (N : Nat) (q_impl_IsTable : (a0 : Int) → (a1 : Int) → (k : Bool → Option β) → Option β) (q_impl_Table_kept : (a0 : Int) → (a1 : Int) → (k : Int → Int → Int → List Int → Option β) → Option β) (q_impl_EqualKept : (a0 : Int) → (a1 : Int) → (a2 : Int) → (a3 : List Int) → (a4 : Int) → (a5 : Int) → (a6 : Int) → (a7 : List Int) → (k : Bool → Option β) → Option β) (a0 : Int) (a1 : Int) (a2 : Int) (a3 : List Int) (k : Bool → Option β) : Option β :=
q_impl_IsTable a0 a1 fun r5 =>
(cond r5
(q_impl_Table_kept a0 a1 fun r6 r7 r8 r9 =>
q_impl_EqualKept a0 a1 a2 a3 r6 r7 r8 r9 fun r10 =>
k r10)
(k false))
theorem t_impl_IsKept {β : Type} (N : Nat) (a0 : Int) (a1 : Int) (a2 : Int) (a3 : List Int) (k : Bool → Option β) : impl_IsKept N a0 a1 a2 a3 k = BV_impl_IsKept N (impl_IsTable N) (impl_Table_kept N) (impl_EqualKept N) a0 a1 a2 a3 k := by
  unfold impl_IsKept BV_impl_IsKept
  rfl
theorem ve26_0 {β : Type} (N : Nat) (q_impl_IsTable : (a0 : Int) → (a1 : Int) → (k : Bool → Option β) → Option β) (q_impl_Table_kept : (a0 : Int) → (a1 : Int) → (k : Int → Int → Int → List Int → Option β) → Option β) (q_impl_EqualKept : (a0 : Int) → (a1 : Int) → (a2 : Int) → (a3 : List Int) → (a4 : Int) → (a5 : Int) → (a6 : Int) → (a7 : List Int) → (k : Bool → Option β) → Option β)  (a0 : Int) (a1 : Int) (a2 : Int) (a3 : List Int) (K : TV → Option β) : evFn lay (VE26 N q_impl_IsTable q_impl_Table_kept q_impl_EqualKept) Try.f26 [.v (.agg [.int .i64 a0, .int .i64 a1, .int .i64 a2, .sl 3 (.ints .i64 a3)])] K = BV_impl_IsKept N q_impl_IsTable q_impl_Table_kept q_impl_EqualKept a0 a1 a2 a3 (fun z4 => K (.v (.one (.bool z4)))) := by kernel_rfl
theorem e26_0 {β : Type} (N : Nat)  (a0 : Int) (a1 : Int) (a2 : Int) (a3 : List Int) (K : TV → Option β) : evFn lay (E26 N) Try.f26 [.v (.agg [.int .i64 a0, .int .i64 a1, .int .i64 a2, .sl 3 (.ints .i64 a3)])] K = impl_IsKept N a0 a1 a2 a3 (fun z4 => K (.v (.one (.bool z4)))) := (ve26_0 N (impl_IsTable N) (impl_Table_kept N) (impl_EqualKept N) a0 a1 a2 a3 K).trans (t_impl_IsKept N a0 a1 a2 a3 (fun z4 => K (.v (.one (.bool z4))))).symm
theorem o26 {β : Type} (N : Nat) : SpecOK (β := β) Try.prog 26 (S26 N) := by
  refine spec_of lay_ok mixed (E := E26 N) (specs_loops (specs_cons (o46 N) (specs_cons (o47 N) (specs_cons (o58 N) specs_nil)))) muts_nil gs_nil Try.func26 (by kernel_rfl) 0 (by kernel_rfl) trivial fun args K r h => ?_
  unfold S26 VS26 at h
  split at h
  · exact (e26_0 N _ _ _ _ _).trans h
  · cases h
def VS61 {β : Type} (N : Nat) (q_impl_isInput : (a0 : Int) → (a1 : Int) → (k : Bool → Option β) → Option β) : Rv.Spec β := fun args K => match args with
  | [.v (.one (.int .i64 a0)), .v (.one (.int .i64 a1))] => q_impl_isInput a0 a1 (fun z2 => K (.v (.one (.bool z2))))
  | _ => none
def S61 {β : Type} (N : Nat) : Rv.Spec β := VS61 N (impl_isInput N)
def VE61 {β : Type} (N : Nat) : Env β := ⟨[], [], [], []⟩
def E61 {β : Type} (N : Nat) : Env β := VE61 N
def BV_impl_isInput {β : Type} (N : Nat) (a0 : Int) (a1 : Int) (k : Bool → Option β) : Option β :=
(cond ((decide (a1 ≥ 0)))
((gd ((decide (0 ≤ a0)))
(k ((decide (a1 < (shlI .i64 1 a0)))))))
(k false))
theorem t_impl_isInput {β : Type} (N : Nat) (a0 : Int) (a1 : Int) (k : Bool → Option β) : impl_isInput N a0 a1 k = BV_impl_isInput N a0 a1 k := by
  unfold impl_isInput BV_impl_isInput
  rfl
theorem ve61_0 {β : Type} (N : Nat)  (a0 : Int) (a1 : Int) (K : TV → Option β) : evFn lay (VE61 N) Try.f61 [.v (.one (.int .i64 a0)), .v (.one (.int .i64 a1))] K = BV_impl_isInput N a0 a1 (fun z2 => K (.v (.one (.bool z2)))) := by kernel_rfl
theorem e61_0 {β : Type} (N : Nat)  (a0 : Int) (a1 : Int) (K : TV → Option β) : evFn lay (E61 N) Try.f61 [.v (.one (.int .i64 a0)), .v (.one (.int .i64 a1))] K = impl_isInput N a0 a1 (fun z2 => K (.v (.one (.bool z2)))) := (ve61_0 N a0 a1 K).trans (t_impl_isInput N a0 a1 (fun z2 => K (.v (.one (.bool z2))))).symm
theorem o61 {β : Type} (N : Nat) : SpecOK (β := β) Try.prog 61 (S61 N) := by
  refine spec_of lay_ok mixed (E := E61 N) (specs_loops specs_nil) muts_nil gs_nil Try.func61 (by kernel_rfl) 0 (by kernel_rfl) trivial fun args K r h => ?_
  unfold S61 VS61 at h
  split at h
  · exact (e61_0 N _ _ _).trans h
  · cases h
def VS36 {β : Type} (N : Nat) (q_impl_FlipAll : (a0 : Int) → (a1 : Int) → (a2 : Int) → (a3 : List Int) → (a4 : List Int) → (k : Int → Int → Int → List Int → Bool → Option β) → Option β) : Rv.Spec β := fun args K => match args with
  | [.v (.agg [.int .i64 a0, .int .i64 a1, .int .i64 a2, .sl 3 (.ints .i64 a3)]), .v (.one (.sl 3 (.ints .i64 a4)))] => q_impl_FlipAll a0 a1 a2 a3 a4 (fun z5 z6 z7 z8 z9 => K (.tup [.agg [.int .i64 z5, .int .i64 z6, .int .i64 z7, .sl 3 (.ints .i64 z8)], .one (.bool z9)]))
  | _ => none
def S36 {β : Type} (N : Nat) : Rv.Spec β := VS36 N (impl_FlipAll N)
def h36_0_0  (v0 : List Int) (v1 : Int) (v2 : Int) (v3 : Int) (v4 : Int) (v5 : Int) (v6 : Int) (v7 : Int) (v8 : List Int) : St := ⟨.v (.one .und) :: .v (.one .und) :: .v (.one .und) :: .v (.one .und) :: .v (.one (.ptr 0 0)) :: .v (.one .und) :: .v (.one (.ptr 1 0)) :: .v (.one .und) :: .v (.one .und) :: .v (.one .und) :: .v (.one .und) :: .v (.one .und) :: .v (.one .und) :: .v (.one .und) :: .v (.one .und) :: .v (.one .und) :: .v (.one .und) :: .v (.one .und) :: .v (.one .und) :: .v (.one .und) :: .v (.one (.sl 3 (.ints .i64 v0))) :: .v (.one (.int .i64 v1)) :: .v (.one (.int .i64 v2)) :: .v (.one .und) :: .v (.one .und) :: .v (.one .und) :: .v (.one .und) :: .v (.one .und) :: .v (.one .und) :: .v (.one .und) :: .v (.one .und) :: .v (.one .und) :: .v (.one .und) :: .v (.one .und) :: .v (.one .und) :: .v (.one .und) :: .v (.one .und) :: .v (.one .und) :: .v (.one .und) :: .v (.one .und) :: .v (.one .und) :: [], [.cells 27 [.int .i64 v3, .int .i64 v4, .int .i64 v5, .row 2], .cells 24 [.int .i64 v6, .int .i64 v7], .row 3 (.ints .i64 v8)]⟩
def x36_0_0_k0  (y0 : Bool) (y1 : Int) (y2 : Int) (y3 : Int) (y4 : List Int) : St := ⟨.v (.one .und) :: .v (.one .und) :: .v (.one .und) :: .v (.one .und) :: .v (.one (.ptr 0 0)) :: .v (.one (.bool y0)) :: .v (.one .und) :: .v (.one .und) :: .v (.one .und) :: .v (.one .und) :: .v (.one .und) :: .v (.one .und) :: .v (.one .und) :: .v (.one .und) :: .v (.one .und) :: .v (.one .und) :: .v (.one .und) :: .v (.one .und) :: .v (.one .und) :: .v (.one .und) :: .v (.one .und) :: .v (.one .und) :: .v (.one .und) :: .v (.one .und) :: .v (.one .und) :: .v (.one .und) :: .v (.one .und) :: .v (.one .und) :: .v (.one .und) :: .v (.one .und) :: .v (.one .und) :: .v (.one .und) :: .v (.one .und) :: .v (.one .und) :: .v (.one .und) :: .v (.one .und) :: .v (.one .und) :: .v (.one .und) :: .v (.one .und) :: .v (.one .und) :: .v (.one .und) :: [], [.cells 27 [.int .i64 y1, .int .i64 y2, .int .i64 y3, .row 1], .row 3 (.ints .i64 y4)]⟩
def x36_0_0_k1  (y0 : Int) (y1 : Int) (y2 : Int) (y3 : Int) (y4 : Int) (y5 : List Int) : St := ⟨.v (.one .und) :: .v (.one .und) :: .v (.one .und) :: .v (.one .und) :: .v (.one (.ptr 0 0)) :: .v (.one .und) :: .v (.one (.ptr 1 0)) :: .v (.one .und) :: .v (.one .und) :: .v (.one .und) :: .v (.one .und) :: .v (.one .und) :: .v (.one .und) :: .v (.one .und) :: .v (.one .und) :: .v (.one .und) :: .v (.one .und) :: .v (.one .und) :: .v (.one .und) :: .v (.one .und) :: .v (.one .und) :: .v (.one .und) :: .v (.one .und) :: .v (.one .und) :: .v (.one .und) :: .v (.one .und) :: .v (.one .und) :: .v (.one .und) :: .v (.one .und) :: .v (.one .und) :: .v (.one .und) :: .v (.one .und) :: .v (.one .und) :: .v (.one .und) :: .v (.one .und) :: .v (.one .und) :: .v (.one .und) :: .v (.one .und) :: .v (.one .und) :: .v (.one .und) :: .v (.one .und) :: [], [.cells 27 [.int .i64 y0, .int .i64 y1, .int .i64 y2, .row 2], .cells 24 [.int .i64 y3, .int .i64 y4], .row 3 (.ints .i64 y5)]⟩
theorem fl36_0_0 (s : St) : refSt (h36_0_0 [] 0 0 0 0 0 0 0 []) s = h36_0_0 (rInts (rowV (oneA (vT (nx tund s.tmps 20))))) (intS (oneA (vT (nx tund s.tmps 21)))) (intS (oneA (vT (nx tund s.tmps 22)))) (intS (nx .und (cellsB (nx .dead s.blks 0)) 0)) (intS (nx .und (cellsB (nx .dead s.blks 0)) 1)) (intS (nx .und (cellsB (nx .dead s.blks 0)) 2)) (intS (nx .und (cellsB (nx .dead s.blks 1)) 0)) (intS (nx .und (cellsB (nx .dead s.blks 1)) 1)) (rInts (rowB_ (nx .dead s.blks 2))) := by kernel_rfl
def VLS36_0 {β : Type} (N : Nat) (q_impl_FlipAll_l0 : Nat → List Int → Int → Int → Int → Int → Int → Int → Int → List Int → (Bool → Int → Int → Int → List Int → Option β) → (Int → Int → Int → Int → Int → List Int → Option β) → Option β) : LSpec β := fun s K => cond (shpSt (h36_0_0 [] 0 0 0 0 0 0 0 []) s) ((fun (v0 : List Int) (v1 : Int) (v2 : Int) (v3 : Int) (v4 : Int) (v5 : Int) (v6 : Int) (v7 : Int) (v8 : List Int) => q_impl_FlipAll_l0  N v0 v1 v2 v3 v4 v5 v6 v7 v8 (fun y0 y1 y2 y3 y4 => K .ret (x36_0_0_k0  y0 y1 y2 y3 y4)) (fun y0 y1 y2 y3 y4 y5 => K (.exit 0) (x36_0_0_k1  y0 y1 y2 y3 y4 y5))) (rInts (rowV (oneA (vT (nx tund s.tmps 20))))) (intS (oneA (vT (nx tund s.tmps 21)))) (intS (oneA (vT (nx tund s.tmps 22)))) (intS (nx .und (cellsB (nx .dead s.blks 0)) 0)) (intS (nx .und (cellsB (nx .dead s.blks 0)) 1)) (intS (nx .und (cellsB (nx .dead s.blks 0)) 2)) (intS (nx .und (cellsB (nx .dead s.blks 1)) 0)) (intS (nx .und (cellsB (nx .dead s.blks 1)) 1)) (rInts (rowB_ (nx .dead s.blks 2)))) (none)
def LS36_0 {β : Type} (N : Nat) : LSpec β := VLS36_0 N (impl_FlipAll_l0 N)
def VE36 {β : Type} (N : Nat) (q_impl_IsKept : (a0 : Int) → (a1 : Int) → (a2 : Int) → (a3 : List Int) → (k : Bool → Option β) → Option β) (q_impl_isInput : (a0 : Int) → (a1 : Int) → (k : Bool → Option β) → Option β) (q_impl_Table_kept : (a0 : Int) → (a1 : Int) → (k : Int → Int → Int → List Int → Option β) → Option β) (q_impl_FlipAll_l0 : Nat → List Int → Int → Int → Int → Int → Int → Int → Int → List Int → (Bool → Int → Int → Int → List Int → Option β) → (Int → Int → Int → Int → Int → List Int → Option β) → Option β) : Env β := ⟨[(26, VS26 N q_impl_IsKept), (61, VS61 N q_impl_isInput), (47, VS47 N q_impl_Table_kept)], [], [(0, VLS36_0 N q_impl_FlipAll_l0)], []⟩
def E36 {β : Type} (N : Nat) : Env β := VE36 N (impl_IsKept N) (impl_isInput N) (impl_Table_kept N) (impl_FlipAll_l0 N)
def BV_impl_FlipAll_l0b {β : Type} (N : Nat) (q_impl_isInput : (a0 : Int) → (a1 : Int) → (k : Bool → Option β) → Option β)  (v0 : List Int) (v1 : Int) (v2 : Int) (v3 : Int) (v4 : Int) (v5 : Int) (v6 : Int) (v7 : Int) (v8 : List Int) (rec_ : List Int → Int → Int → Int → Int → Int → Int → Int → List Int → Option β) (k0 : Bool → Int → Int → Int → List Int → Option β) (k1 : Int → Int → Int → Int → Int → List Int → Option β) : Option β :=
(cond ((decide (v2 < v1)))
((gd ((decide (0 ≤ v2)))
((gd ((decide (v2 < (v0.length : Int))))
(q_impl_isInput v6 ((rd 0 v0 v2)) fun r11 =>
(cond (!r11)
(k0 false 0 0 0 (([] : List Int)))
((gd ((decide (0 ≤ (rd 0 v0 v2))))
(rec_ v0 v1 ((w64 (v2 + 1))) v3 v4 v5 v6 ((bits .xor .i64 v7 (shlI .i64 1 (rd 0 v0 v2)))) v8)))))))))
(k1 v3 v4 v5 v6 v7 v8))
theorem t_impl_FlipAll_l0b {β : Type} (N : Nat)  (v0 : List Int) (v1 : Int) (v2 : Int) (v3 : Int) (v4 : Int) (v5 : Int) (v6 : Int) (v7 : Int) (v8 : List Int) (rec_ : List Int → Int → Int → Int → Int → Int → Int → Int → List Int → Option β) (k0 : Bool → Int → Int → Int → List Int → Option β) (k1 : Int → Int → Int → Int → Int → List Int → Option β) : impl_FlipAll_l0b N v0 v1 v2 v3 v4 v5 v6 v7 v8 rec_ k0 k1 = BV_impl_FlipAll_l0b N (impl_isInput N) v0 v1 v2 v3 v4 v5 v6 v7 v8 rec_ k0 k1 := by
  unfold impl_FlipAll_l0b BV_impl_FlipAll_l0b
  rfl
theorem vst36_0_0 {β : Type} (N : Nat) (q_impl_IsKept : (a0 : Int) → (a1 : Int) → (a2 : Int) → (a3 : List Int) → (k : Bool → Option β) → Option β) (q_impl_isInput : (a0 : Int) → (a1 : Int) → (k : Bool → Option β) → Option β) (q_impl_Table_kept : (a0 : Int) → (a1 : Int) → (k : Int → Int → Int → List Int → Option β) → Option β) (q_impl_FlipAll_l0 : Nat → List Int → Int → Int → Int → Int → Int → Int → Int → List Int → (Bool → Int → Int → Int → List Int → Option β) → (Int → Int → Int → Int → Int → List Int → Option β) → Option β)  (v0 : List Int) (v1 : Int) (v2 : Int) (v3 : Int) (v4 : Int) (v5 : Int) (v6 : Int) (v7 : Int) (v8 : List Int) (rec_ : St → Option β) (K : Exit → St → Option β) :
    ev lay (VE36 N q_impl_IsKept q_impl_isInput q_impl_Table_kept q_impl_FlipAll_l0) (retMask Try.f36) (lp Try.f36 0).body (lp Try.f36 0).ex ((lp Try.f36 0).lv (retMask Try.f36)) (h36_0_0  v0 v1 v2 v3 v4 v5 v6 v7 v8) (nextR (fun s' => rec_ (s'.tidy ((lp Try.f36 0).lv (retMask Try.f36)))) K) = BV_impl_FlipAll_l0b N q_impl_isInput  v0 v1 v2 v3 v4 v5 v6 v7 v8 (fun v0 v1 v2 v3 v4 v5 v6 v7 v8 => rec_ (h36_0_0  v0 v1 v2 v3 v4 v5 v6 v7 v8)) (fun y0 y1 y2 y3 y4 => K .ret (x36_0_0_k0  y0 y1 y2 y3 y4)) (fun y0 y1 y2 y3 y4 y5 => K (.exit 0) (x36_0_0_k1  y0 y1 y2 y3 y4 y5)) := by kernel_rfl
theorem st36_0_0 {β : Type} (N : Nat)  (v0 : List Int) (v1 : Int) (v2 : Int) (v3 : Int) (v4 : Int) (v5 : Int) (v6 : Int) (v7 : Int) (v8 : List Int) (rec_ : St → Option β) (K : Exit → St → Option β) :
    ev lay (E36 N) (retMask Try.f36) (lp Try.f36 0).body (lp Try.f36 0).ex ((lp Try.f36 0).lv (retMask Try.f36)) (h36_0_0  v0 v1 v2 v3 v4 v5 v6 v7 v8) (nextR (fun s' => rec_ (s'.tidy ((lp Try.f36 0).lv (retMask Try.f36)))) K) = impl_FlipAll_l0b N  v0 v1 v2 v3 v4 v5 v6 v7 v8 (fun v0 v1 v2 v3 v4 v5 v6 v7 v8 => rec_ (h36_0_0  v0 v1 v2 v3 v4 v5 v6 v7 v8)) (fun y0 y1 y2 y3 y4 => K .ret (x36_0_0_k0  y0 y1 y2 y3 y4)) (fun y0 y1 y2 y3 y4 y5 => K (.exit 0) (x36_0_0_k1  y0 y1 y2 y3 y4 y5)) := (vst36_0_0 N (impl_IsKept N) (impl_isInput N) (impl_Table_kept N) (impl_FlipAll_l0 N) v0 v1 v2 v3 v4 v5 v6 v7 v8 rec_ K).trans (t_impl_FlipAll_l0b N  v0 v1 v2 v3 v4 v5 v6 v7 v8 (fun v0 v1 v2 v3 v4 v5 v6 v7 v8 => rec_ (h36_0_0  v0 v1 v2 v3 v4 v5 v6 v7 v8)) (fun y0 y1 y2 y3 y4 => K .ret (x36_0_0_k0  y0 y1 y2 y3 y4)) (fun y0 y1 y2 y3 y4 y5 => K (.exit 0) (x36_0_0_k1  y0 y1 y2 y3 y4 y5))).symm
theorem ro36_0_0 {β : Type} (N : Nat)  (K : Exit → St → Option β) : ∀ (F : Nat) (v0 : List Int) (v1 : Int) (v2 : Int) (v3 : Int) (v4 : Int) (v5 : Int) (v6 : Int) (v7 : Int) (v8 : List Int), (lp Try.f36 0).rounds lay (E36 N) (retMask Try.f36) F (h36_0_0  v0 v1 v2 v3 v4 v5 v6 v7 v8) K = impl_FlipAll_l0 N  F v0 v1 v2 v3 v4 v5 v6 v7 v8 (fun y0 y1 y2 y3 y4 => K .ret (x36_0_0_k0  y0 y1 y2 y3 y4)) (fun y0 y1 y2 y3 y4 y5 => K (.exit 0) (x36_0_0_k1  y0 y1 y2 y3 y4 y5)) := by
  intro F
  induction F with
  | zero => intros; rfl
  | succ F ih =>
    intros
    rw [rounds_next]
    refine (st36_0_0 N  _ _ _ _ _ _ _ _ _ (fun s => (lp Try.f36 0).rounds lay (E36 N) (retMask Try.f36) F s K) K).trans ?_
    simp only [ih]
    rfl
theorem lk36_0 {β : Type} (N : Nat) : lookL (E36 (β := β) N).loops (lp Try.f36 0).id = LS36_0 N := by kernel_rfl
theorem rk36_0 {β : Type} (N : Nat) : RoundsOK lay (E36 (β := β) N) (retMask Try.f36) (lp Try.f36 0) := by
  intro s K r h
  rw [lk36_0] at h
  unfold LS36_0 VLS36_0 at h
  cases hb : shpSt (h36_0_0 [] 0 0 0 0 0 0 0 []) s with
  | true =>
    rw [hb, cond_true] at h
    exact ⟨N, by rw [← shpSt_ref hb, fl36_0_0 s]; exact (ro36_0_0 N  K N (rInts (rowV (oneA (vT (nx tund s.tmps 20))))) (intS (oneA (vT (nx tund s.tmps 21)))) (intS (oneA (vT (nx tund s.tmps 22)))) (intS (nx .und (cellsB (nx .dead s.blks 0)) 0)) (intS (nx .und (cellsB (nx .dead s.blks 0)) 1)) (intS (nx .und (cellsB (nx .dead s.blks 0)) 2)) (intS (nx .und (cellsB (nx .dead s.blks 1)) 0)) (intS (nx .und (cellsB (nx .dead s.blks 1)) 1)) (rInts (rowB_ (nx .dead s.blks 2)))).trans h⟩
  | false =>
  rw [hb, cond_false] at h
  clear hb
  cases h
def BV_impl_FlipAll {β : Type} (N : Nat) (q_impl_IsKept : (a0 : Int) → (a1 : Int) → (a2 : Int) → (a3 : List Int) → (k : Bool → Option β) → Option β) (q_impl_FlipAll_l0 : Nat → List Int → Int → Int → Int → Int → Int → Int → Int → List Int → (Bool → Int → Int → Int → List Int → Option β) → (Int → Int → Int → Int → Int → List Int → Option β) → Option β) (q_impl_Table_kept : (a0 : Int) → (a1 : Int) → (k : Int → Int → Int → List Int → Option β) → Option β) (a0 : Int) (a1 : Int) (a2 : Int) (a3 : List Int) (a4 : List Int) (k : Int → Int → Int → List Int → Bool → Option β) : Option β :=
q_impl_IsKept a0 a1 a2 a3 fun r10 =>
(cond (!r10)
(k 0 0 0 (([] : List Int)) false)
((cond ((decide ((a4.length : Int) > 40)))
(k 0 0 0 (([] : List Int)) false)
(q_impl_FlipAll_l0  N a4 ((a4.length : Int)) 0 0 0 0 a0 a1 (([] : List Int)) (fun e12_0 e12_1 e12_2 e12_3 e12_4 =>
k e12_1 e12_2 e12_3 e12_4 e12_0) (fun e13_0 e13_1 e13_2 e13_3 e13_4 e13_5 =>
q_impl_Table_kept e13_3 e13_4 fun r14 r15 r16 r17 =>
k r14 r15 r16 r17 true)))))
theorem t_impl_FlipAll {β : Type} (N : Nat) (a0 : Int) (a1 : Int) (a2 : Int) (a3 : List Int) (a4 : List Int) (k : Int → Int → Int → List Int → Bool → Option β) : impl_FlipAll N a0 a1 a2 a3 a4 k = BV_impl_FlipAll N (impl_IsKept N) (impl_FlipAll_l0 N) (impl_Table_kept N) a0 a1 a2 a3 a4 k := by
  unfold impl_FlipAll BV_impl_FlipAll
  rfl
theorem ve36_0 {β : Type} (N : Nat) (q_impl_IsKept : (a0 : Int) → (a1 : Int) → (a2 : Int) → (a3 : List Int) → (k : Bool → Option β) → Option β) (q_impl_isInput : (a0 : Int) → (a1 : Int) → (k : Bool → Option β) → Option β) (q_impl_Table_kept : (a0 : Int) → (a1 : Int) → (k : Int → Int → Int → List Int → Option β) → Option β) (q_impl_FlipAll_l0 : Nat → List Int → Int → Int → Int → Int → Int → Int → Int → List Int → (Bool → Int → Int → Int → List Int → Option β) → (Int → Int → Int → Int → Int → List Int → Option β) → Option β)  (a0 : Int) (a1 : Int) (a2 : Int) (a3 : List Int) (a4 : List Int) (K : TV → Option β) : evFn lay (VE36 N q_impl_IsKept q_impl_isInput q_impl_Table_kept q_impl_FlipAll_l0) Try.f36 [.v (.agg [.int .i64 a0, .int .i64 a1, .int .i64 a2, .sl 3 (.ints .i64 a3)]), .v (.one (.sl 3 (.ints .i64 a4)))] K = BV_impl_FlipAll N q_impl_IsKept q_impl_FlipAll_l0 q_impl_Table_kept a0 a1 a2 a3 a4 (fun z5 z6 z7 z8 z9 => K (.tup [.agg [.int .i64 z5, .int .i64 z6, .int .i64 z7, .sl 3 (.ints .i64 z8)], .one (.bool z9)])) := by kernel_rfl
theorem e36_0 {β : Type} (N : Nat)  (a0 : Int) (a1 : Int) (a2 : Int) (a3 : List Int) (a4 : List Int) (K : TV → Option β) : evFn lay (E36 N) Try.f36 [.v (.agg [.int .i64 a0, .int .i64 a1, .int .i64 a2, .sl 3 (.ints .i64 a3)]), .v (.one (.sl 3 (.ints .i64 a4)))] K = impl_FlipAll N a0 a1 a2 a3 a4 (fun z5 z6 z7 z8 z9 => K (.tup [.agg [.int .i64 z5, .int .i64 z6, .int .i64 z7, .sl 3 (.ints .i64 z8)], .one (.bool z9)])) := (ve36_0 N (impl_IsKept N) (impl_isInput N) (impl_Table_kept N) (impl_FlipAll_l0 N) a0 a1 a2 a3 a4 K).trans (t_impl_FlipAll N a0 a1 a2 a3 a4 (fun z5 z6 z7 z8 z9 => K (.tup [.agg [.int .i64 z5, .int .i64 z6, .int .i64 z7, .sl 3 (.ints .i64 z8)], .one (.bool z9)]))).symm
theorem o36 {β : Type} (N : Nat) : SpecOK (β := β) Try.prog 36 (S36 N) := by
  refine spec_of lay_ok mixed (E := E36 N) (specs_loops (specs_cons (o26 N) (specs_cons (o61 N) (specs_cons (o47 N) specs_nil)))) muts_nil gs_nil Try.func36 (by kernel_rfl) 1 (by kernel_rfl) ⟨trivial, rk36_0 N⟩ fun args K r h => ?_
  unfold S36 VS36 at h
  split at h
  · exact (e36_0 N _ _ _ _ _ _).trans h
  · cases h
def VS33 {β : Type} (N : Nat) (q_impl_FlipAt : (a0 : Int) → (a1 : Int) → (a2 : Int) → (a3 : List Int) → (a4 : Int) → (k : Int → Int → Int → List Int → Bool → Option β) → Option β) : Rv.Spec β := fun args K => match args with
  | [.v (.agg [.int .i64 a0, .int .i64 a1, .int .i64 a2, .sl 3 (.ints .i64 a3)]), .v (.one (.int .i64 a4))] => q_impl_FlipAt a0 a1 a2 a3 a4 (fun z5 z6 z7 z8 z9 => K (.tup [.agg [.int .i64 z5, .int .i64 z6, .int .i64 z7, .sl 3 (.ints .i64 z8)], .one (.bool z9)]))
  | _ => none
def S33 {β : Type} (N : Nat) : Rv.Spec β := VS33 N (impl_FlipAt N)
def VE33 {β : Type} (N : Nat) (q_impl_FlipAll : (a0 : Int) → (a1 : Int) → (a2 : Int) → (a3 : List Int) → (a4 : List Int) → (k : Int → Int → Int → List Int → Bool → Option β) → Option β) : Env β := ⟨[(36, VS36 N q_impl_FlipAll)], [], [], []⟩
def E33 {β : Type} (N : Nat) : Env β := VE33 N (impl_FlipAll N)
def BV_impl_FlipAt {β : Type} (N : Nat) (q_impl_FlipAll : (a0 : Int) → (a1 : Int) → (a2 : Int) → (a3 : List Int) → (a4 : List Int) → (k : Int → Int → Int → List Int → Bool → Option β) → Option β) (a0 : Int) (a1 : Int) (a2 : Int) (a3 : List Int) (a4 : Int) (k : Int → Int → Int → List Int → Bool → Option β) : Option β :=
q_impl_FlipAll a0 a1 a2 a3 ((([] : List Int) ++ [a4])) fun r10 r11 r12 r13 r14 =>
k r10 r11 r12 r13 r14
theorem t_impl_FlipAt {β : Type} (N : Nat) (a0 : Int) (a1 : Int) (a2 : Int) (a3 : List Int) (a4 : Int) (k : Int → Int → Int → List Int → Bool → Option β) : impl_FlipAt N a0 a1 a2 a3 a4 k = BV_impl_FlipAt N (impl_FlipAll N) a0 a1 a2 a3 a4 k := by
  unfold impl_FlipAt BV_impl_FlipAt
  rfl
theorem ve33_0 {β : Type} (N : Nat) (q_impl_FlipAll : (a0 : Int) → (a1 : Int) → (a2 : Int) → (a3 : List Int) → (a4 : List Int) → (k : Int → Int → Int → List Int → Bool → Option β) → Option β)  (a0 : Int) (a1 : Int) (a2 : Int) (a3 : List Int) (a4 : Int) (K : TV → Option β) : evFn lay (VE33 N q_impl_FlipAll) Try.f33 [.v (.agg [.int .i64 a0, .int .i64 a1, .int .i64 a2, .sl 3 (.ints .i64 a3)]), .v (.one (.int .i64 a4))] K = BV_impl_FlipAt N q_impl_FlipAll a0 a1 a2 a3 a4 (fun z5 z6 z7 z8 z9 => K (.tup [.agg [.int .i64 z5, .int .i64 z6, .int .i64 z7, .sl 3 (.ints .i64 z8)], .one (.bool z9)])) := by kernel_rfl
theorem e33_0 {β : Type} (N : Nat)  (a0 : Int) (a1 : Int) (a2 : Int) (a3 : List Int) (a4 : Int) (K : TV → Option β) : evFn lay (E33 N) Try.f33 [.v (.agg [.int .i64 a0, .int .i64 a1, .int .i64 a2, .sl 3 (.ints .i64 a3)]), .v (.one (.int .i64 a4))] K = impl_FlipAt N a0 a1 a2 a3 a4 (fun z5 z6 z7 z8 z9 => K (.tup [.agg [.int .i64 z5, .int .i64 z6, .int .i64 z7, .sl 3 (.ints .i64 z8)], .one (.bool z9)])) := (ve33_0 N (impl_FlipAll N) a0 a1 a2 a3 a4 K).trans (t_impl_FlipAt N a0 a1 a2 a3 a4 (fun z5 z6 z7 z8 z9 => K (.tup [.agg [.int .i64 z5, .int .i64 z6, .int .i64 z7, .sl 3 (.ints .i64 z8)], .one (.bool z9)]))).symm
theorem o33 {β : Type} (N : Nat) : SpecOK (β := β) Try.prog 33 (S33 N) := by
  refine spec_of lay_ok mixed (E := E33 N) (specs_loops (specs_cons (o36 N) specs_nil)) muts_nil gs_nil Try.func33 (by kernel_rfl) 0 (by kernel_rfl) trivial fun args K r h => ?_
  unfold S33 VS33 at h
  split at h
  · exact (e33_0 N _ _ _ _ _ _).trans h
  · cases h
def VS48 {β : Type} (N : Nat) (q_laws_eqTable : (a0 : Int) → (a1 : Int) → (a2 : Int) → (a3 : Int) → (k : Bool → Option β) → Option β) : Rv.Spec β := fun args K => match args with
  | [.v (.agg [.int .i64 a0, .int .i64 a1]), .v (.agg [.int .i64 a2, .int .i64 a3])] => q_laws_eqTable a0 a1 a2 a3 (fun z4 => K (.v (.one (.bool z4))))
  | _ => none
def S48 {β : Type} (N : Nat) : Rv.Spec β := VS48 N (laws_eqTable N)
def VE48 {β : Type} (N : Nat) : Env β := ⟨[], [], [], []⟩
def E48 {β : Type} (N : Nat) : Env β := VE48 N
def BV_laws_eqTable {β : Type} (N : Nat) (a0 : Int) (a1 : Int) (a2 : Int) (a3 : Int) (k : Bool → Option β) : Option β :=
(cond ((a0 != a2))
(k false)
((cond ((a1 != a3))
(k false)
(k true))))
theorem t_laws_eqTable {β : Type} (N : Nat) (a0 : Int) (a1 : Int) (a2 : Int) (a3 : Int) (k : Bool → Option β) : laws_eqTable N a0 a1 a2 a3 k = BV_laws_eqTable N a0 a1 a2 a3 k := by
  unfold laws_eqTable BV_laws_eqTable
  rfl
theorem ve48_0 {β : Type} (N : Nat)  (a0 : Int) (a1 : Int) (a2 : Int) (a3 : Int) (K : TV → Option β) : evFn lay (VE48 N) Try.f48 [.v (.agg [.int .i64 a0, .int .i64 a1]), .v (.agg [.int .i64 a2, .int .i64 a3])] K = BV_laws_eqTable N a0 a1 a2 a3 (fun z4 => K (.v (.one (.bool z4)))) := by kernel_rfl
theorem e48_0 {β : Type} (N : Nat)  (a0 : Int) (a1 : Int) (a2 : Int) (a3 : Int) (K : TV → Option β) : evFn lay (E48 N) Try.f48 [.v (.agg [.int .i64 a0, .int .i64 a1]), .v (.agg [.int .i64 a2, .int .i64 a3])] K = laws_eqTable N a0 a1 a2 a3 (fun z4 => K (.v (.one (.bool z4)))) := (ve48_0 N a0 a1 a2 a3 K).trans (t_laws_eqTable N a0 a1 a2 a3 (fun z4 => K (.v (.one (.bool z4))))).symm
theorem o48 {β : Type} (N : Nat) : SpecOK (β := β) Try.prog 48 (S48 N) := by
  refine spec_of lay_ok mixed (E := E48 N) (specs_loops specs_nil) muts_nil gs_nil Try.func48 (by kernel_rfl) 0 (by kernel_rfl) trivial fun args K r h => ?_
  unfold S48 VS48 at h
  split at h
  · exact (e48_0 N _ _ _ _ _).trans h
  · cases h
end Go.Proofs.Ytdjmbggefcfacaa
