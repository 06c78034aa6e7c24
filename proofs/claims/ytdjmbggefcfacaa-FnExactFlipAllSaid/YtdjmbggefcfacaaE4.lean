/- The functions that the claims reach answer as their texts do. -/
import Derived.Test.YtdjmbggefcfacaaE3
namespace Go.Proofs.Ytdjmbggefcfacaa
open Go.Rv
set_option maxRecDepth 100000
set_option maxHeartbeats 2000000
set_option linter.unusedVariables false
def VS20 {β : Type} (N : Nat) (q_laws_eqIntS : (a0 : List Int) → (a1 : List Int) → (k : Bool → Option β) → Option β) : Rv.Spec β := fun args K => match args with
  | [.v (.one (.sl 3 (.ints .i64 a0))), .v (.one (.sl 3 (.ints .i64 a1)))] => q_laws_eqIntS a0 a1 (fun z2 => K (.v (.one (.bool z2))))
  | _ => none
def S20 {β : Type} (N : Nat) : Rv.Spec β := VS20 N (laws_eqIntS N)
def h20_0_0  (v0 : List Int) (v1 : List Int) (v2 : Int) : St := ⟨.v (.one (.sl 3 (.ints .i64 v0))) :: .v (.one (.sl 3 (.ints .i64 v1))) :: .v (.one .und) :: .v (.one .und) :: .v (.one .und) :: .v (.one (.int .i64 v2)) :: .v (.one .und) :: .v (.one .und) :: .v (.one .und) :: .v (.one .und) :: .v (.one .und) :: .v (.one .und) :: .v (.one .und) :: .v (.one .und) :: .v (.one .und) :: .v (.one .und) :: .v (.one .und) :: .v (.one .und) :: .v (.one .und) :: .v (.one .und) :: .v (.one .und) :: .v (.one .und) :: .v (.one .und) :: .v (.one .und) :: .v (.one .und) :: .v (.one .und) :: [], []⟩
def x20_0_0_k0  (y0 : Bool) : St := ⟨.v (.one .und) :: .v (.one .und) :: .v (.one .und) :: .v (.one .und) :: .v (.one (.bool y0)) :: .v (.one .und) :: .v (.one .und) :: .v (.one .und) :: .v (.one .und) :: .v (.one .und) :: .v (.one .und) :: .v (.one .und) :: .v (.one .und) :: .v (.one .und) :: .v (.one .und) :: .v (.one .und) :: .v (.one .und) :: .v (.one .und) :: .v (.one .und) :: .v (.one .und) :: .v (.one .und) :: .v (.one .und) :: .v (.one .und) :: .v (.one .und) :: .v (.one .und) :: .v (.one .und) :: [], []⟩
def x20_0_0_k1   : St := ⟨.v (.one .und) :: .v (.one .und) :: .v (.one .und) :: .v (.one .und) :: .v (.one .und) :: .v (.one .und) :: .v (.one .und) :: .v (.one .und) :: .v (.one .und) :: .v (.one .und) :: .v (.one .und) :: .v (.one .und) :: .v (.one .und) :: .v (.one .und) :: .v (.one .und) :: .v (.one .und) :: .v (.one .und) :: .v (.one .und) :: .v (.one .und) :: .v (.one .und) :: .v (.one .und) :: .v (.one .und) :: .v (.one .und) :: .v (.one .und) :: .v (.one .und) :: .v (.one .und) :: [], []⟩
theorem fl20_0_0 (s : St) : refSt (h20_0_0 [] [] 0) s = h20_0_0 (rInts (rowV (oneA (vT (nx tund s.tmps 0))))) (rInts (rowV (oneA (vT (nx tund s.tmps 1))))) (intS (oneA (vT (nx tund s.tmps 5)))) := by kernel_rfl
def VLS20_0 {β : Type} (N : Nat) (q_laws_eqIntS_l0 : Nat → List Int → List Int → Int → (Bool → Option β) → (Option β) → Option β) : LSpec β := fun s K => cond (shpSt (h20_0_0 [] [] 0) s) ((fun (v0 : List Int) (v1 : List Int) (v2 : Int) => q_laws_eqIntS_l0  N v0 v1 v2 (fun y0 => K .ret (x20_0_0_k0  y0)) (K (.exit 0) (x20_0_0_k1  ))) (rInts (rowV (oneA (vT (nx tund s.tmps 0))))) (rInts (rowV (oneA (vT (nx tund s.tmps 1))))) (intS (oneA (vT (nx tund s.tmps 5))))) (none)
def LS20_0 {β : Type} (N : Nat) : LSpec β := VLS20_0 N (laws_eqIntS_l0 N)
def VE20 {β : Type} (N : Nat) (q_laws_eqIntS_l0 : Nat → List Int → List Int → Int → (Bool → Option β) → (Option β) → Option β) : Env β := ⟨[], [], [(0, VLS20_0 N q_laws_eqIntS_l0)], []⟩
def E20 {β : Type} (N : Nat) : Env β := VE20 N (laws_eqIntS_l0 N)
def BV_laws_eqIntS_l0b {β : Type} (N : Nat)  (v0 : List Int) (v1 : List Int) (v2 : Int) (rec_ : List Int → List Int → Int → Option β) (k0 : Bool → Option β) (k1 : Option β) : Option β :=
(cond ((decide (v2 < (v0.length : Int))))
((gd ((decide (0 ≤ v2)))
((gd ((decide (v2 < (v0.length : Int))))
((gd ((decide (0 ≤ v2)))
((gd ((decide (v2 < (v1.length : Int))))
((cond (((rd 0 v0 v2) != (rd 0 v1 v2)))
(k0 false)
(rec_ v0 v1 ((w64 (v2 + 1))))))))))))))
(k1 ))
theorem t_laws_eqIntS_l0b {β : Type} (N : Nat)  (v0 : List Int) (v1 : List Int) (v2 : Int) (rec_ : List Int → List Int → Int → Option β) (k0 : Bool → Option β) (k1 : Option β) : laws_eqIntS_l0b N v0 v1 v2 rec_ k0 k1 = BV_laws_eqIntS_l0b N v0 v1 v2 rec_ k0 k1 := by
  unfold laws_eqIntS_l0b BV_laws_eqIntS_l0b
  rfl
theorem vst20_0_0 {β : Type} (N : Nat) (q_laws_eqIntS_l0 : Nat → List Int → List Int → Int → (Bool → Option β) → (Option β) → Option β)  (v0 : List Int) (v1 : List Int) (v2 : Int) (rec_ : St → Option β) (K : Exit → St → Option β) :
    ev lay (VE20 N q_laws_eqIntS_l0) (retMask Try.f20) (lp Try.f20 0).body (lp Try.f20 0).ex ((lp Try.f20 0).lv (retMask Try.f20)) (h20_0_0  v0 v1 v2) (nextR (fun s' => rec_ (s'.tidy ((lp Try.f20 0).lv (retMask Try.f20)))) K) = BV_laws_eqIntS_l0b N  v0 v1 v2 (fun v0 v1 v2 => rec_ (h20_0_0  v0 v1 v2)) (fun y0 => K .ret (x20_0_0_k0  y0)) (K (.exit 0) (x20_0_0_k1  )) := by kernel_rfl
theorem st20_0_0 {β : Type} (N : Nat)  (v0 : List Int) (v1 : List Int) (v2 : Int) (rec_ : St → Option β) (K : Exit → St → Option β) :
    ev lay (E20 N) (retMask Try.f20) (lp Try.f20 0).body (lp Try.f20 0).ex ((lp Try.f20 0).lv (retMask Try.f20)) (h20_0_0  v0 v1 v2) (nextR (fun s' => rec_ (s'.tidy ((lp Try.f20 0).lv (retMask Try.f20)))) K) = laws_eqIntS_l0b N  v0 v1 v2 (fun v0 v1 v2 => rec_ (h20_0_0  v0 v1 v2)) (fun y0 => K .ret (x20_0_0_k0  y0)) (K (.exit 0) (x20_0_0_k1  )) := (vst20_0_0 N (laws_eqIntS_l0 N) v0 v1 v2 rec_ K).trans (t_laws_eqIntS_l0b N  v0 v1 v2 (fun v0 v1 v2 => rec_ (h20_0_0  v0 v1 v2)) (fun y0 => K .ret (x20_0_0_k0  y0)) (K (.exit 0) (x20_0_0_k1  ))).symm
theorem ro20_0_0 {β : Type} (N : Nat)  (K : Exit → St → Option β) : ∀ (F : Nat) (v0 : List Int) (v1 : List Int) (v2 : Int), (lp Try.f20 0).rounds lay (E20 N) (retMask Try.f20) F (h20_0_0  v0 v1 v2) K = laws_eqIntS_l0 N  F v0 v1 v2 (fun y0 => K .ret (x20_0_0_k0  y0)) (K (.exit 0) (x20_0_0_k1  )) := by
  intro F
  induction F with
  | zero => intros; rfl
  | succ F ih =>
    intros
    rw [rounds_next]
    refine (st20_0_0 N  _ _ _ (fun s => (lp Try.f20 0).rounds lay (E20 N) (retMask Try.f20) F s K) K).trans ?_
    simp only [ih]
    rfl
theorem lk20_0 {β : Type} (N : Nat) : lookL (E20 (β := β) N).loops (lp Try.f20 0).id = LS20_0 N := by kernel_rfl
theorem rk20_0 {β : Type} (N : Nat) : RoundsOK lay (E20 (β := β) N) (retMask Try.f20) (lp Try.f20 0) := by
  intro s K r h
  rw [lk20_0] at h
  unfold LS20_0 VLS20_0 at h
  cases hb : shpSt (h20_0_0 [] [] 0) s with
  | true =>
    rw [hb, cond_true] at h
    exact ⟨N, by rw [← shpSt_ref hb, fl20_0_0 s]; exact (ro20_0_0 N  K N (rInts (rowV (oneA (vT (nx tund s.tmps 0))))) (rInts (rowV (oneA (vT (nx tund s.tmps 1))))) (intS (oneA (vT (nx tund s.tmps 5))))).trans h⟩
  | false =>
  rw [hb, cond_false] at h
  clear hb
  cases h
def BV_laws_eqIntS {β : Type} (N : Nat) (q_laws_eqIntS_l0 : Nat → List Int → List Int → Int → (Bool → Option β) → (Option β) → Option β) (a0 : List Int) (a1 : List Int) (k : Bool → Option β) : Option β :=
(cond (((a0.length : Int) != (a1.length : Int)))
(k false)
(q_laws_eqIntS_l0  N a0 a1 0 (fun e3_0 =>
k e3_0) (k true)))
theorem t_laws_eqIntS {β : Type} (N : Nat) (a0 : List Int) (a1 : List Int) (k : Bool → Option β) : laws_eqIntS N a0 a1 k = BV_laws_eqIntS N (laws_eqIntS_l0 N) a0 a1 k := by
  unfold laws_eqIntS BV_laws_eqIntS
  rfl
theorem ve20_0 {β : Type} (N : Nat) (q_laws_eqIntS_l0 : Nat → List Int → List Int → Int → (Bool → Option β) → (Option β) → Option β)  (a0 : List Int) (a1 : List Int) (K : TV → Option β) : evFn lay (VE20 N q_laws_eqIntS_l0) Try.f20 [.v (.one (.sl 3 (.ints .i64 a0))), .v (.one (.sl 3 (.ints .i64 a1)))] K = BV_laws_eqIntS N q_laws_eqIntS_l0 a0 a1 (fun z2 => K (.v (.one (.bool z2)))) := by kernel_rfl
theorem e20_0 {β : Type} (N : Nat)  (a0 : List Int) (a1 : List Int) (K : TV → Option β) : evFn lay (E20 N) Try.f20 [.v (.one (.sl 3 (.ints .i64 a0))), .v (.one (.sl 3 (.ints .i64 a1)))] K = laws_eqIntS N a0 a1 (fun z2 => K (.v (.one (.bool z2)))) := (ve20_0 N (laws_eqIntS_l0 N) a0 a1 K).trans (t_laws_eqIntS N a0 a1 (fun z2 => K (.v (.one (.bool z2))))).symm
theorem o20 {β : Type} (N : Nat) : SpecOK (β := β) Try.prog 20 (S20 N) := by
  refine spec_of lay_ok mixed (E := E20 N) (specs_loops specs_nil) muts_nil gs_nil Try.func20 (by kernel_rfl) 1 (by kernel_rfl) ⟨trivial, rk20_0 N⟩ fun args K r h => ?_
  unfold S20 VS20 at h
  split at h
  · exact (e20_0 N _ _ _).trans h
  · cases h
def VS15 {β : Type} (N : Nat) (q_laws_eqKept : (a0 : Int) → (a1 : Int) → (a2 : Int) → (a3 : List Int) → (a4 : Int) → (a5 : Int) → (a6 : Int) → (a7 : List Int) → (k : Bool → Option β) → Option β) : Rv.Spec β := fun args K => match args with
  | [.v (.agg [.int .i64 a0, .int .i64 a1, .int .i64 a2, .sl 3 (.ints .i64 a3)]), .v (.agg [.int .i64 a4, .int .i64 a5, .int .i64 a6, .sl 3 (.ints .i64 a7)])] => q_laws_eqKept a0 a1 a2 a3 a4 a5 a6 a7 (fun z8 => K (.v (.one (.bool z8))))
  | _ => none
def S15 {β : Type} (N : Nat) : Rv.Spec β := VS15 N (laws_eqKept N)
def VE15 {β : Type} (N : Nat) (q_laws_eqTable : (a0 : Int) → (a1 : Int) → (a2 : Int) → (a3 : Int) → (k : Bool → Option β) → Option β) (q_laws_eqIntS : (a0 : List Int) → (a1 : List Int) → (k : Bool → Option β) → Option β) : Env β := ⟨[(48, VS48 N q_laws_eqTable), (20, VS20 N q_laws_eqIntS)], [], [], []⟩
def E15 {β : Type} (N : Nat) : Env β := VE15 N (laws_eqTable N) (laws_eqIntS N)
def BV_laws_eqKept {β : Type} (N : Nat) (q_laws_eqTable : (a0 : Int) → (a1 : Int) → (a2 : Int) → (a3 : Int) → (k : Bool → Option β) → Option β) (q_laws_eqIntS : (a0 : List Int) → (a1 : List Int) → (k : Bool → Option β) → Option β) (a0 : Int) (a1 : Int) (a2 : Int) (a3 : List Int) (a4 : Int) (a5 : Int) (a6 : Int) (a7 : List Int) (k : Bool → Option β) : Option β :=
q_laws_eqTable a0 a1 a4 a5 fun r9 =>
(cond (!r9)
(k false)
((cond ((a2 != a6))
(k false)
(q_laws_eqIntS a3 a7 fun r10 =>
(cond (!r10)
(k false)
(k true))))))
theorem t_laws_eqKept {β : Type} (N : Nat) (a0 : Int) (a1 : Int) (a2 : Int) (a3 : List Int) (a4 : Int) (a5 : Int) (a6 : Int) (a7 : List Int) (k : Bool → Option β) : laws_eqKept N a0 a1 a2 a3 a4 a5 a6 a7 k = BV_laws_eqKept N (laws_eqTable N) (laws_eqIntS N) a0 a1 a2 a3 a4 a5 a6 a7 k := by
  unfold laws_eqKept BV_laws_eqKept
  rfl
theorem ve15_0 {β : Type} (N : Nat) (q_laws_eqTable : (a0 : Int) → (a1 : Int) → (a2 : Int) → (a3 : Int) → (k : Bool → Option β) → Option β) (q_laws_eqIntS : (a0 : List Int) → (a1 : List Int) → (k : Bool → Option β) → Option β)  (a0 : Int) (a1 : Int) (a2 : Int) (a3 : List Int) (a4 : Int) (a5 : Int) (a6 : Int) (a7 : List Int) (K : TV → Option β) : evFn lay (VE15 N q_laws_eqTable q_laws_eqIntS) Try.f15 [.v (.agg [.int .i64 a0, .int .i64 a1, .int .i64 a2, .sl 3 (.ints .i64 a3)]), .v (.agg [.int .i64 a4, .int .i64 a5, .int .i64 a6, .sl 3 (.ints .i64 a7)])] K = BV_laws_eqKept N q_laws_eqTable q_laws_eqIntS a0 a1 a2 a3 a4 a5 a6 a7 (fun z8 => K (.v (.one (.bool z8)))) := by kernel_rfl
theorem e15_0 {β : Type} (N : Nat)  (a0 : Int) (a1 : Int) (a2 : Int) (a3 : List Int) (a4 : Int) (a5 : Int) (a6 : Int) (a7 : List Int) (K : TV → Option β) : evFn lay (E15 N) Try.f15 [.v (.agg [.int .i64 a0, .int .i64 a1, .int .i64 a2, .sl 3 (.ints .i64 a3)]), .v (.agg [.int .i64 a4, .int .i64 a5, .int .i64 a6, .sl 3 (.ints .i64 a7)])] K = laws_eqKept N a0 a1 a2 a3 a4 a5 a6 a7 (fun z8 => K (.v (.one (.bool z8)))) := (ve15_0 N (laws_eqTable N) (laws_eqIntS N) a0 a1 a2 a3 a4 a5 a6 a7 K).trans (t_laws_eqKept N a0 a1 a2 a3 a4 a5 a6 a7 (fun z8 => K (.v (.one (.bool z8))))).symm
theorem o15 {β : Type} (N : Nat) : SpecOK (β := β) Try.prog 15 (S15 N) := by
  refine spec_of lay_ok mixed (E := E15 N) (specs_loops (specs_cons (o48 N) (specs_cons (o20 N) specs_nil))) muts_nil gs_nil Try.func15 (by kernel_rfl) 0 (by kernel_rfl) trivial fun args K r h => ?_
  unfold S15 VS15 at h
  split at h
  · exact (e15_0 N _ _ _ _ _ _ _ _ _).trans h
  · cases h
def VS22 {β : Type} (N : Nat) (q_laws_heldIntS : (a0 : List Int) → (a1 : Int) → (k : Int → Option β) → Option β) : Rv.Spec β := fun args K => match args with
  | [.v (.one (.sl 3 (.ints .i64 a0))), .v (.one (.int .i64 a1))] => q_laws_heldIntS a0 a1 (fun z2 => K (.v (.one (.int .i64 z2))))
  | _ => none
def S22 {β : Type} (N : Nat) : Rv.Spec β := VS22 N (laws_heldIntS N)
def h22_0_0  (v0 : List Int) (v1 : Int) (v2 : Int) : St := ⟨.v (.one (.sl 3 (.ints .i64 v0))) :: .v (.one (.int .i64 v1)) :: .v (.one .und) :: .v (.one .und) :: .v (.one .und) :: .v (.one (.int .i64 v2)) :: .v (.one .und) :: .v (.one .und) :: .v (.one .und) :: .v (.one .und) :: .v (.one .und) :: .v (.one .und) :: .v (.one .und) :: .v (.one .und) :: .v (.one .und) :: .v (.one .und) :: .v (.one .und) :: .v (.one .und) :: .v (.one .und) :: .v (.one .und) :: .v (.one .und) :: [], []⟩
def x22_0_0_k0  (y0 : Int) : St := ⟨.v (.one .und) :: .v (.one .und) :: .v (.one .und) :: .v (.one .und) :: .v (.one (.int .i64 y0)) :: .v (.one .und) :: .v (.one .und) :: .v (.one .und) :: .v (.one .und) :: .v (.one .und) :: .v (.one .und) :: .v (.one .und) :: .v (.one .und) :: .v (.one .und) :: .v (.one .und) :: .v (.one .und) :: .v (.one .und) :: .v (.one .und) :: .v (.one .und) :: .v (.one .und) :: .v (.one .und) :: [], []⟩
def x22_0_0_k1  (y0 : Int) : St := ⟨.v (.one .und) :: .v (.one (.int .i64 y0)) :: .v (.one .und) :: .v (.one .und) :: .v (.one .und) :: .v (.one .und) :: .v (.one .und) :: .v (.one .und) :: .v (.one .und) :: .v (.one .und) :: .v (.one .und) :: .v (.one .und) :: .v (.one .und) :: .v (.one .und) :: .v (.one .und) :: .v (.one .und) :: .v (.one .und) :: .v (.one .und) :: .v (.one .und) :: .v (.one .und) :: .v (.one .und) :: [], []⟩
theorem fl22_0_0 (s : St) : refSt (h22_0_0 [] 0 0) s = h22_0_0 (rInts (rowV (oneA (vT (nx tund s.tmps 0))))) (intS (oneA (vT (nx tund s.tmps 1)))) (intS (oneA (vT (nx tund s.tmps 5)))) := by kernel_rfl
def VLS22_0 {β : Type} (N : Nat) (q_laws_heldIntS_l0 : Nat → List Int → Int → Int → (Int → Option β) → (Int → Option β) → Option β) : LSpec β := fun s K => cond (shpSt (h22_0_0 [] 0 0) s) ((fun (v0 : List Int) (v1 : Int) (v2 : Int) => q_laws_heldIntS_l0  N v0 v1 v2 (fun y0 => K .ret (x22_0_0_k0  y0)) (fun y0 => K (.exit 0) (x22_0_0_k1  y0))) (rInts (rowV (oneA (vT (nx tund s.tmps 0))))) (intS (oneA (vT (nx tund s.tmps 1)))) (intS (oneA (vT (nx tund s.tmps 5))))) (none)
def LS22_0 {β : Type} (N : Nat) : LSpec β := VLS22_0 N (laws_heldIntS_l0 N)
def VE22 {β : Type} (N : Nat) (q_laws_heldIntS_l0 : Nat → List Int → Int → Int → (Int → Option β) → (Int → Option β) → Option β) : Env β := ⟨[], [], [(0, VLS22_0 N q_laws_heldIntS_l0)], []⟩
def E22 {β : Type} (N : Nat) : Env β := VE22 N (laws_heldIntS_l0 N)
def BV_laws_heldIntS_l0b {β : Type} (N : Nat)  (v0 : List Int) (v1 : Int) (v2 : Int) (rec_ : List Int → Int → Int → Option β) (k0 : Int → Option β) (k1 : Int → Option β) : Option β :=
(cond ((decide (v2 < (v0.length : Int))))
((gd ((decide (0 ≤ v2)))
((gd ((decide (v2 < (v0.length : Int))))
((cond (((rd 0 v0 v2) != v1))
(k0 (-1))
(rec_ v0 ((w64 (v1 + 1))) ((w64 (v2 + 1))))))))))
(k1 v1))
theorem t_laws_heldIntS_l0b {β : Type} (N : Nat)  (v0 : List Int) (v1 : Int) (v2 : Int) (rec_ : List Int → Int → Int → Option β) (k0 : Int → Option β) (k1 : Int → Option β) : laws_heldIntS_l0b N v0 v1 v2 rec_ k0 k1 = BV_laws_heldIntS_l0b N v0 v1 v2 rec_ k0 k1 := by
  unfold laws_heldIntS_l0b BV_laws_heldIntS_l0b
  rfl
theorem vst22_0_0 {β : Type} (N : Nat) (q_laws_heldIntS_l0 : Nat → List Int → Int → Int → (Int → Option β) → (Int → Option β) → Option β)  (v0 : List Int) (v1 : Int) (v2 : Int) (rec_ : St → Option β) (K : Exit → St → Option β) :
    ev lay (VE22 N q_laws_heldIntS_l0) (retMask Try.f22) (lp Try.f22 0).body (lp Try.f22 0).ex ((lp Try.f22 0).lv (retMask Try.f22)) (h22_0_0  v0 v1 v2) (nextR (fun s' => rec_ (s'.tidy ((lp Try.f22 0).lv (retMask Try.f22)))) K) = BV_laws_heldIntS_l0b N  v0 v1 v2 (fun v0 v1 v2 => rec_ (h22_0_0  v0 v1 v2)) (fun y0 => K .ret (x22_0_0_k0  y0)) (fun y0 => K (.exit 0) (x22_0_0_k1  y0)) := by kernel_rfl
theorem st22_0_0 {β : Type} (N : Nat)  (v0 : List Int) (v1 : Int) (v2 : Int) (rec_ : St → Option β) (K : Exit → St → Option β) :
    ev lay (E22 N) (retMask Try.f22) (lp Try.f22 0).body (lp Try.f22 0).ex ((lp Try.f22 0).lv (retMask Try.f22)) (h22_0_0  v0 v1 v2) (nextR (fun s' => rec_ (s'.tidy ((lp Try.f22 0).lv (retMask Try.f22)))) K) = laws_heldIntS_l0b N  v0 v1 v2 (fun v0 v1 v2 => rec_ (h22_0_0  v0 v1 v2)) (fun y0 => K .ret (x22_0_0_k0  y0)) (fun y0 => K (.exit 0) (x22_0_0_k1  y0)) := (vst22_0_0 N (laws_heldIntS_l0 N) v0 v1 v2 rec_ K).trans (t_laws_heldIntS_l0b N  v0 v1 v2 (fun v0 v1 v2 => rec_ (h22_0_0  v0 v1 v2)) (fun y0 => K .ret (x22_0_0_k0  y0)) (fun y0 => K (.exit 0) (x22_0_0_k1  y0))).symm
theorem ro22_0_0 {β : Type} (N : Nat)  (K : Exit → St → Option β) : ∀ (F : Nat) (v0 : List Int) (v1 : Int) (v2 : Int), (lp Try.f22 0).rounds lay (E22 N) (retMask Try.f22) F (h22_0_0  v0 v1 v2) K = laws_heldIntS_l0 N  F v0 v1 v2 (fun y0 => K .ret (x22_0_0_k0  y0)) (fun y0 => K (.exit 0) (x22_0_0_k1  y0)) := by
  intro F
  induction F with
  | zero => intros; rfl
  | succ F ih =>
    intros
    rw [rounds_next]
    refine (st22_0_0 N  _ _ _ (fun s => (lp Try.f22 0).rounds lay (E22 N) (retMask Try.f22) F s K) K).trans ?_
    simp only [ih]
    rfl
theorem lk22_0 {β : Type} (N : Nat) : lookL (E22 (β := β) N).loops (lp Try.f22 0).id = LS22_0 N := by kernel_rfl
theorem rk22_0 {β : Type} (N : Nat) : RoundsOK lay (E22 (β := β) N) (retMask Try.f22) (lp Try.f22 0) := by
  intro s K r h
  rw [lk22_0] at h
  unfold LS22_0 VLS22_0 at h
  cases hb : shpSt (h22_0_0 [] 0 0) s with
  | true =>
    rw [hb, cond_true] at h
    exact ⟨N, by rw [← shpSt_ref hb, fl22_0_0 s]; exact (ro22_0_0 N  K N (rInts (rowV (oneA (vT (nx tund s.tmps 0))))) (intS (oneA (vT (nx tund s.tmps 1)))) (intS (oneA (vT (nx tund s.tmps 5))))).trans h⟩
  | false =>
  rw [hb, cond_false] at h
  clear hb
  cases h
def BV_laws_heldIntS {β : Type} (N : Nat) (q_laws_heldIntS_l0 : Nat → List Int → Int → Int → (Int → Option β) → (Int → Option β) → Option β) (a0 : List Int) (a1 : Int) (k : Int → Option β) : Option β :=
q_laws_heldIntS_l0  N a0 a1 0 (fun e3_0 =>
k e3_0) (fun e4_0 =>
k e4_0)
theorem t_laws_heldIntS {β : Type} (N : Nat) (a0 : List Int) (a1 : Int) (k : Int → Option β) : laws_heldIntS N a0 a1 k = BV_laws_heldIntS N (laws_heldIntS_l0 N) a0 a1 k := by
  unfold laws_heldIntS BV_laws_heldIntS
  rfl
theorem ve22_0 {β : Type} (N : Nat) (q_laws_heldIntS_l0 : Nat → List Int → Int → Int → (Int → Option β) → (Int → Option β) → Option β)  (a0 : List Int) (a1 : Int) (K : TV → Option β) : evFn lay (VE22 N q_laws_heldIntS_l0) Try.f22 [.v (.one (.sl 3 (.ints .i64 a0))), .v (.one (.int .i64 a1))] K = BV_laws_heldIntS N q_laws_heldIntS_l0 a0 a1 (fun z2 => K (.v (.one (.int .i64 z2)))) := by kernel_rfl
theorem e22_0 {β : Type} (N : Nat)  (a0 : List Int) (a1 : Int) (K : TV → Option β) : evFn lay (E22 N) Try.f22 [.v (.one (.sl 3 (.ints .i64 a0))), .v (.one (.int .i64 a1))] K = laws_heldIntS N a0 a1 (fun z2 => K (.v (.one (.int .i64 z2)))) := (ve22_0 N (laws_heldIntS_l0 N) a0 a1 K).trans (t_laws_heldIntS N a0 a1 (fun z2 => K (.v (.one (.int .i64 z2))))).symm
theorem o22 {β : Type} (N : Nat) : SpecOK (β := β) Try.prog 22 (S22 N) := by
  refine spec_of lay_ok mixed (E := E22 N) (specs_loops specs_nil) muts_nil gs_nil Try.func22 (by kernel_rfl) 1 (by kernel_rfl) ⟨trivial, rk22_0 N⟩ fun args K r h => ?_
  unfold S22 VS22 at h
  split at h
  · exact (e22_0 N _ _ _).trans h
  · cases h
def VS17 {β : Type} (N : Nat) (q_laws_heldKept : (a0 : Int) → (a1 : Int) → (a2 : Int) → (a3 : List Int) → (a4 : Int) → (k : Int → Option β) → Option β) : Rv.Spec β := fun args K => match args with
  | [.v (.agg [.int .i64 a0, .int .i64 a1, .int .i64 a2, .sl 3 (.ints .i64 a3)]), .v (.one (.int .i64 a4))] => q_laws_heldKept a0 a1 a2 a3 a4 (fun z5 => K (.v (.one (.int .i64 z5))))
  | _ => none
def S17 {β : Type} (N : Nat) : Rv.Spec β := VS17 N (laws_heldKept N)
def VE17 {β : Type} (N : Nat) (q_laws_heldIntS : (a0 : List Int) → (a1 : Int) → (k : Int → Option β) → Option β) : Env β := ⟨[(22, VS22 N q_laws_heldIntS)], [], [], []⟩
def E17 {β : Type} (N : Nat) : Env β := VE17 N (laws_heldIntS N)
def BV_laws_heldKept {β : Type} (N : Nat) (q_laws_heldIntS : (a0 : List Int) → (a1 : Int) → (k : Int → Option β) → Option β) (a0 : Int) (a1 : Int) (a2 : Int) (a3 : List Int) (a4 : Int) (k : Int → Option β) : Option β :=
q_laws_heldIntS a3 a4 fun r6 =>
(cond ((decide (r6 < 0)))
(k (-1))
(k r6))
theorem t_laws_heldKept {β : Type} (N : Nat) (a0 : Int) (a1 : Int) (a2 : Int) (a3 : List Int) (a4 : Int) (k : Int → Option β) : laws_heldKept N a0 a1 a2 a3 a4 k = BV_laws_heldKept N (laws_heldIntS N) a0 a1 a2 a3 a4 k := by
  unfold laws_heldKept BV_laws_heldKept
  rfl
theorem ve17_0 {β : Type} (N : Nat) (q_laws_heldIntS : (a0 : List Int) → (a1 : Int) → (k : Int → Option β) → Option β)  (a0 : Int) (a1 : Int) (a2 : Int) (a3 : List Int) (a4 : Int) (K : TV → Option β) : evFn lay (VE17 N q_laws_heldIntS) Try.f17 [.v (.agg [.int .i64 a0, .int .i64 a1, .int .i64 a2, .sl 3 (.ints .i64 a3)]), .v (.one (.int .i64 a4))] K = BV_laws_heldKept N q_laws_heldIntS a0 a1 a2 a3 a4 (fun z5 => K (.v (.one (.int .i64 z5)))) := by kernel_rfl
theorem e17_0 {β : Type} (N : Nat)  (a0 : Int) (a1 : Int) (a2 : Int) (a3 : List Int) (a4 : Int) (K : TV → Option β) : evFn lay (E17 N) Try.f17 [.v (.agg [.int .i64 a0, .int .i64 a1, .int .i64 a2, .sl 3 (.ints .i64 a3)]), .v (.one (.int .i64 a4))] K = laws_heldKept N a0 a1 a2 a3 a4 (fun z5 => K (.v (.one (.int .i64 z5)))) := (ve17_0 N (laws_heldIntS N) a0 a1 a2 a3 a4 K).trans (t_laws_heldKept N a0 a1 a2 a3 a4 (fun z5 => K (.v (.one (.int .i64 z5))))).symm
theorem o17 {β : Type} (N : Nat) : SpecOK (β := β) Try.prog 17 (S17 N) := by
  refine spec_of lay_ok mixed (E := E17 N) (specs_loops (specs_cons (o22 N) specs_nil)) muts_nil gs_nil Try.func17 (by kernel_rfl) 0 (by kernel_rfl) trivial fun args K r h => ?_
  unfold S17 VS17 at h
  split at h
  · exact (e17_0 N _ _ _ _ _ _).trans h
  · cases h
def VS21 {β : Type} (N : Nat) (q_laws_markIntS : (a0 : List Int) → (a1 : Int) → (k : Int → List Int → Option β) → Option β) : MSpec β := fun args bl K => match args, bl with
  | [.v (.one (.row 0)), .v (.one (.int .i64 a1))], [.prow 0 3 (.ints .i64 a0)] => q_laws_markIntS a0 a1 (fun z2 m0 => K (.v (.one (.int .i64 z2))) [(.ints .i64 m0)])
  | _, _ => none
def S21 {β : Type} (N : Nat) : MSpec β := VS21 N (laws_markIntS N)
def h21_0_0  (v0 : Int) (v1 : Int) (v2 : List Int) : St := ⟨.v (.one (.row 0)) :: .v (.one (.int .i64 v0)) :: .v (.one .und) :: .v (.one .und) :: .v (.one .und) :: .v (.one (.int .i64 v1)) :: .v (.one .und) :: .v (.one .und) :: .v (.one .und) :: .v (.one .und) :: .v (.one .und) :: .v (.one .und) :: .v (.one .und) :: .v (.one .und) :: .v (.one .und) :: .v (.one .und) :: .v (.one .und) :: .v (.one .und) :: .v (.one .und) :: [], [.prow 0 3 (.ints .i64 v2)]⟩
def x21_0_0_k0  (y0 : Int) (y1 : List Int) : St := ⟨.v (.one (.row 0)) :: .v (.one (.int .i64 y0)) :: .v (.one .und) :: .v (.one .und) :: .v (.one .und) :: .v (.one .und) :: .v (.one .und) :: .v (.one .und) :: .v (.one .und) :: .v (.one .und) :: .v (.one .und) :: .v (.one .und) :: .v (.one .und) :: .v (.one .und) :: .v (.one .und) :: .v (.one .und) :: .v (.one .und) :: .v (.one .und) :: .v (.one .und) :: [], [.prow 0 3 (.ints .i64 y1)]⟩
theorem fl21_0_0 (s : St) : refSt (h21_0_0 0 0 []) s = h21_0_0 (intS (oneA (vT (nx tund s.tmps 1)))) (intS (oneA (vT (nx tund s.tmps 5)))) (rInts (rowB_ (nx .dead s.blks 0))) := by kernel_rfl
def VLS21_0 {β : Type} (N : Nat) (q_laws_markIntS_l0 : Nat → Int → Int → List Int → (Int → List Int → Option β) → Option β) : LSpec β := fun s K => cond (shpSt (h21_0_0 0 0 []) s) ((fun (v0 : Int) (v1 : Int) (v2 : List Int) => q_laws_markIntS_l0  N v0 v1 v2 (fun y0 y1 => K (.exit 0) (x21_0_0_k0  y0 y1))) (intS (oneA (vT (nx tund s.tmps 1)))) (intS (oneA (vT (nx tund s.tmps 5)))) (rInts (rowB_ (nx .dead s.blks 0)))) (none)
def LS21_0 {β : Type} (N : Nat) : LSpec β := VLS21_0 N (laws_markIntS_l0 N)
def VE21 {β : Type} (N : Nat) (q_laws_markIntS_l0 : Nat → Int → Int → List Int → (Int → List Int → Option β) → Option β) : Env β := ⟨[], [], [(0, VLS21_0 N q_laws_markIntS_l0)], []⟩
def E21 {β : Type} (N : Nat) : Env β := VE21 N (laws_markIntS_l0 N)
def BV_laws_markIntS_l0b {β : Type} (N : Nat)  (v0 : Int) (v1 : Int) (v2 : List Int) (rec_ : Int → Int → List Int → Option β) (k0 : Int → List Int → Option β) : Option β :=
(cond ((decide (v1 < (v2.length : Int))))
((gd ((decide (0 ≤ v1)))
((gd ((decide (v1 < (v2.length : Int))))
(rec_ ((w64 (v0 + 1))) ((w64 (v1 + 1))) ((wr v2 v1 v0)))))))
(k0 v0 v2))
theorem t_laws_markIntS_l0b {β : Type} (N : Nat)  (v0 : Int) (v1 : Int) (v2 : List Int) (rec_ : Int → Int → List Int → Option β) (k0 : Int → List Int → Option β) : laws_markIntS_l0b N v0 v1 v2 rec_ k0 = BV_laws_markIntS_l0b N v0 v1 v2 rec_ k0 := by
  unfold laws_markIntS_l0b BV_laws_markIntS_l0b
  rfl
theorem vst21_0_0 {β : Type} (N : Nat) (q_laws_markIntS_l0 : Nat → Int → Int → List Int → (Int → List Int → Option β) → Option β)  (v0 : Int) (v1 : Int) (v2 : List Int) (rec_ : St → Option β) (K : Exit → St → Option β) :
    ev lay (VE21 N q_laws_markIntS_l0) (retMaskM Try.f21) (lpM Try.f21 0).body (lpM Try.f21 0).ex ((lpM Try.f21 0).lv (retMaskM Try.f21)) (h21_0_0  v0 v1 v2) (nextR (fun s' => rec_ (s'.tidy ((lpM Try.f21 0).lv (retMaskM Try.f21)))) K) = BV_laws_markIntS_l0b N  v0 v1 v2 (fun v0 v1 v2 => rec_ (h21_0_0  v0 v1 v2)) (fun y0 y1 => K (.exit 0) (x21_0_0_k0  y0 y1)) := by kernel_rfl
theorem st21_0_0 {β : Type} (N : Nat)  (v0 : Int) (v1 : Int) (v2 : List Int) (rec_ : St → Option β) (K : Exit → St → Option β) :
    ev lay (E21 N) (retMaskM Try.f21) (lpM Try.f21 0).body (lpM Try.f21 0).ex ((lpM Try.f21 0).lv (retMaskM Try.f21)) (h21_0_0  v0 v1 v2) (nextR (fun s' => rec_ (s'.tidy ((lpM Try.f21 0).lv (retMaskM Try.f21)))) K) = laws_markIntS_l0b N  v0 v1 v2 (fun v0 v1 v2 => rec_ (h21_0_0  v0 v1 v2)) (fun y0 y1 => K (.exit 0) (x21_0_0_k0  y0 y1)) := (vst21_0_0 N (laws_markIntS_l0 N) v0 v1 v2 rec_ K).trans (t_laws_markIntS_l0b N  v0 v1 v2 (fun v0 v1 v2 => rec_ (h21_0_0  v0 v1 v2)) (fun y0 y1 => K (.exit 0) (x21_0_0_k0  y0 y1))).symm
theorem ro21_0_0 {β : Type} (N : Nat)  (K : Exit → St → Option β) : ∀ (F : Nat) (v0 : Int) (v1 : Int) (v2 : List Int), (lpM Try.f21 0).rounds lay (E21 N) (retMaskM Try.f21) F (h21_0_0  v0 v1 v2) K = laws_markIntS_l0 N  F v0 v1 v2 (fun y0 y1 => K (.exit 0) (x21_0_0_k0  y0 y1)) := by
  intro F
  induction F with
  | zero => intros; rfl
  | succ F ih =>
    intros
    rw [rounds_next]
    refine (st21_0_0 N  _ _ _ (fun s => (lpM Try.f21 0).rounds lay (E21 N) (retMaskM Try.f21) F s K) K).trans ?_
    simp only [ih]
    rfl
theorem lk21_0 {β : Type} (N : Nat) : lookL (E21 (β := β) N).loops (lpM Try.f21 0).id = LS21_0 N := by kernel_rfl
theorem rk21_0 {β : Type} (N : Nat) : RoundsOK lay (E21 (β := β) N) (retMaskM Try.f21) (lpM Try.f21 0) := by
  intro s K r h
  rw [lk21_0] at h
  unfold LS21_0 VLS21_0 at h
  cases hb : shpSt (h21_0_0 0 0 []) s with
  | true =>
    rw [hb, cond_true] at h
    exact ⟨N, by rw [← shpSt_ref hb, fl21_0_0 s]; exact (ro21_0_0 N  K N (intS (oneA (vT (nx tund s.tmps 1)))) (intS (oneA (vT (nx tund s.tmps 5)))) (rInts (rowB_ (nx .dead s.blks 0)))).trans h⟩
  | false =>
  rw [hb, cond_false] at h
  clear hb
  cases h
def BV_laws_markIntS {β : Type} (N : Nat) (q_laws_markIntS_l0 : Nat → Int → Int → List Int → (Int → List Int → Option β) → Option β) (a0 : List Int) (a1 : Int) (k : Int → List Int → Option β) : Option β :=
q_laws_markIntS_l0  N a1 0 a0 (fun e3_0 e3_1 =>
k e3_0 e3_1)
theorem t_laws_markIntS {β : Type} (N : Nat) (a0 : List Int) (a1 : Int) (k : Int → List Int → Option β) : laws_markIntS N a0 a1 k = BV_laws_markIntS N (laws_markIntS_l0 N) a0 a1 k := by
  unfold laws_markIntS BV_laws_markIntS
  rfl
theorem ve21_0 {β : Type} (N : Nat) (q_laws_markIntS_l0 : Nat → Int → Int → List Int → (Int → List Int → Option β) → Option β)  (a0 : List Int) (a1 : Int) (K : TV → List Row → Option β) : evFnM lay (VE21 N q_laws_markIntS_l0) Try.f21 [.v (.one (.row 0)), .v (.one (.int .i64 a1))] [.prow 0 3 (.ints .i64 a0)] K = BV_laws_markIntS N q_laws_markIntS_l0 a0 a1 (fun z2 m0 => K (.v (.one (.int .i64 z2))) [(.ints .i64 m0)]) := by kernel_rfl
theorem e21_0 {β : Type} (N : Nat)  (a0 : List Int) (a1 : Int) (K : TV → List Row → Option β) : evFnM lay (E21 N) Try.f21 [.v (.one (.row 0)), .v (.one (.int .i64 a1))] [.prow 0 3 (.ints .i64 a0)] K = laws_markIntS N a0 a1 (fun z2 m0 => K (.v (.one (.int .i64 z2))) [(.ints .i64 m0)]) := (ve21_0 N (laws_markIntS_l0 N) a0 a1 K).trans (t_laws_markIntS N a0 a1 (fun z2 m0 => K (.v (.one (.int .i64 z2))) [(.ints .i64 m0)])).symm
theorem o21 {β : Type} (N : Nat) : MutOK (β := β) Try.prog 21 (S21 N) := by
  refine mut_of lay_ok mixed (E := E21 N) (specs_loops specs_nil) muts_nil gs_nil Try.func21 (by kernel_rfl) 1 (by kernel_rfl) ⟨trivial, rk21_0 N⟩ fun args bl K r h => ?_
  unfold S21 VS21 at h
  split at h
  · exact (e21_0 N _ _ _).trans h
  · cases h
def VS16 {β : Type} (N : Nat) (q_laws_markKept : (a0 : Int) → (a1 : Int) → (a2 : Int) → (a3 : List Int) → (a4 : Int) → (k : Int → List Int → Option β) → Option β) : MSpec β := fun args bl K => match args, bl with
  | [.v (.agg [.int .i64 a0, .int .i64 a1, .int .i64 a2, .row 0]), .v (.one (.int .i64 a4))], [.prow 0 3 (.ints .i64 a3)] => q_laws_markKept a0 a1 a2 a3 a4 (fun z5 m0 => K (.v (.one (.int .i64 z5))) [(.ints .i64 m0)])
  | _, _ => none
def S16 {β : Type} (N : Nat) : MSpec β := VS16 N (laws_markKept N)
def VE16 {β : Type} (N : Nat) (q_laws_markIntS : (a0 : List Int) → (a1 : Int) → (k : Int → List Int → Option β) → Option β) : Env β := ⟨[], [(21, VS21 N q_laws_markIntS)], [], []⟩
def E16 {β : Type} (N : Nat) : Env β := VE16 N (laws_markIntS N)
def BV_laws_markKept {β : Type} (N : Nat) (q_laws_markIntS : (a0 : List Int) → (a1 : Int) → (k : Int → List Int → Option β) → Option β) (a0 : Int) (a1 : Int) (a2 : Int) (a3 : List Int) (a4 : Int) (k : Int → List Int → Option β) : Option β :=
q_laws_markIntS a3 a4 fun r6 m7 =>
k r6 m7
theorem t_laws_markKept {β : Type} (N : Nat) (a0 : Int) (a1 : Int) (a2 : Int) (a3 : List Int) (a4 : Int) (k : Int → List Int → Option β) : laws_markKept N a0 a1 a2 a3 a4 k = BV_laws_markKept N (laws_markIntS N) a0 a1 a2 a3 a4 k := by
  unfold laws_markKept BV_laws_markKept
  rfl
theorem ve16_0 {β : Type} (N : Nat) (q_laws_markIntS : (a0 : List Int) → (a1 : Int) → (k : Int → List Int → Option β) → Option β)  (a0 : Int) (a1 : Int) (a2 : Int) (a3 : List Int) (a4 : Int) (K : TV → List Row → Option β) : evFnM lay (VE16 N q_laws_markIntS) Try.f16 [.v (.agg [.int .i64 a0, .int .i64 a1, .int .i64 a2, .row 0]), .v (.one (.int .i64 a4))] [.prow 0 3 (.ints .i64 a3)] K = BV_laws_markKept N q_laws_markIntS a0 a1 a2 a3 a4 (fun z5 m0 => K (.v (.one (.int .i64 z5))) [(.ints .i64 m0)]) := by kernel_rfl
theorem e16_0 {β : Type} (N : Nat)  (a0 : Int) (a1 : Int) (a2 : Int) (a3 : List Int) (a4 : Int) (K : TV → List Row → Option β) : evFnM lay (E16 N) Try.f16 [.v (.agg [.int .i64 a0, .int .i64 a1, .int .i64 a2, .row 0]), .v (.one (.int .i64 a4))] [.prow 0 3 (.ints .i64 a3)] K = laws_markKept N a0 a1 a2 a3 a4 (fun z5 m0 => K (.v (.one (.int .i64 z5))) [(.ints .i64 m0)]) := (ve16_0 N (laws_markIntS N) a0 a1 a2 a3 a4 K).trans (t_laws_markKept N a0 a1 a2 a3 a4 (fun z5 m0 => K (.v (.one (.int .i64 z5))) [(.ints .i64 m0)])).symm
theorem o16 {β : Type} (N : Nat) : MutOK (β := β) Try.prog 16 (S16 N) := by
  refine mut_of lay_ok mixed (E := E16 N) (specs_loops specs_nil) (muts_cons (o21 N) muts_nil) gs_nil Try.func16 (by kernel_rfl) 0 (by kernel_rfl) trivial fun args bl K r h => ?_
  unfold S16 VS16 at h
  split at h
  · exact (e16_0 N _ _ _ _ _ _).trans h
  · cases h
def VS7 {β : Type} (N : Nat) (q_laws_FnExactFlipAt : (a0 : Int) → (a1 : Int) → (a2 : Int) → (a3 : List Int) → (a4 : Int) → (k : Bool → Option β) → Option β) : Rv.Spec β := fun args K => match args with
  | [.v (.agg [.int .i64 a0, .int .i64 a1, .int .i64 a2, .sl 3 (.ints .i64 a3)]), .v (.one (.int .i64 a4))] => q_laws_FnExactFlipAt a0 a1 a2 a3 a4 (fun z5 => K (.v (.one (.bool z5))))
  | _ => none
def S7 {β : Type} (N : Nat) : Rv.Spec β := VS7 N (laws_FnExactFlipAt N)
def VE7 {β : Type} (N : Nat) (q_laws_szKept : (a0 : Int) → (a1 : Int) → (a2 : Int) → (a3 : List Int) → (a4 : Int) → (k : Int → Option β) → Option β) (q_laws_toKept : (a0 : Int) → (a1 : Int) → (a2 : Int) → (a3 : List Int) → (k : Int → Int → Int → List Int → Option β) → Option β) (q_spec_FlipAt : (a0 : Int) → (a1 : Int) → (a2 : Int) → (a3 : List Int) → (a4 : Int) → (k : Int → Int → Int → List Int → Bool → Option β) → Option β) (q_impl_FlipAt : (a0 : Int) → (a1 : Int) → (a2 : Int) → (a3 : List Int) → (a4 : Int) → (k : Int → Int → Int → List Int → Bool → Option β) → Option β) (q_laws_eqKept : (a0 : Int) → (a1 : Int) → (a2 : Int) → (a3 : List Int) → (a4 : Int) → (a5 : Int) → (a6 : Int) → (a7 : List Int) → (k : Bool → Option β) → Option β) (q_laws_heldKept : (a0 : Int) → (a1 : Int) → (a2 : Int) → (a3 : List Int) → (a4 : Int) → (k : Int → Option β) → Option β) (q_laws_markKept : (a0 : Int) → (a1 : Int) → (a2 : Int) → (a3 : List Int) → (a4 : Int) → (k : Int → List Int → Option β) → Option β) : Env β := ⟨[(23, VS23 N q_laws_szKept), (25, VS25 N q_laws_toKept), (32, VS32 N q_spec_FlipAt), (33, VS33 N q_impl_FlipAt), (15, VS15 N q_laws_eqKept), (17, VS17 N q_laws_heldKept)], [(16, VS16 N q_laws_markKept)], [], []⟩
def E7 {β : Type} (N : Nat) : Env β := VE7 N (laws_szKept N) (laws_toKept N) (spec_FlipAt N) (impl_FlipAt N) (laws_eqKept N) (laws_heldKept N) (laws_markKept N)
def BV_laws_FnExactFlipAt {β : Type} (N : Nat) (q_laws_szKept : (a0 : Int) → (a1 : Int) → (a2 : Int) → (a3 : List Int) → (a4 : Int) → (k : Int → Option β) → Option β) (q_laws_toKept : (a0 : Int) → (a1 : Int) → (a2 : Int) → (a3 : List Int) → (k : Int → Int → Int → List Int → Option β) → Option β) (q_spec_FlipAt : (a0 : Int) → (a1 : Int) → (a2 : Int) → (a3 : List Int) → (a4 : Int) → (k : Int → Int → Int → List Int → Bool → Option β) → Option β) (q_impl_FlipAt : (a0 : Int) → (a1 : Int) → (a2 : Int) → (a3 : List Int) → (a4 : Int) → (k : Int → Int → Int → List Int → Bool → Option β) → Option β) (q_laws_eqKept : (a0 : Int) → (a1 : Int) → (a2 : Int) → (a3 : List Int) → (a4 : Int) → (a5 : Int) → (a6 : Int) → (a7 : List Int) → (k : Bool → Option β) → Option β) (q_laws_markKept : (a0 : Int) → (a1 : Int) → (a2 : Int) → (a3 : List Int) → (a4 : Int) → (k : Int → List Int → Option β) → Option β) (q_laws_heldKept : (a0 : Int) → (a1 : Int) → (a2 : Int) → (a3 : List Int) → (a4 : Int) → (k : Int → Option β) → Option β) (a0 : Int) (a1 : Int) (a2 : Int) (a3 : List Int) (a4 : Int) (k : Bool → Option β) : Option β :=
q_laws_szKept a0 a1 a2 a3 1048576 fun r6 =>
(cond ((decide (r6 < 0)))
(k true)
(q_laws_toKept a0 a1 a2 a3 fun r7 r8 r9 r10 =>
q_spec_FlipAt r7 r8 r9 r10 a4 fun r11 r12 r13 r14 r15 =>
q_laws_toKept a0 a1 a2 a3 fun r16 r17 r18 r19 =>
q_impl_FlipAt r16 r17 r18 r19 a4 fun r20 r21 r22 r23 r24 =>
q_laws_eqKept r20 r21 r22 r23 r11 r12 r13 r14 fun r25 =>
(cond (!r25)
(k false)
((cond ((!(r24 == r15)))
(k false)
(q_laws_toKept a0 a1 a2 a3 fun r26 r27 r28 r29 =>
q_laws_eqKept r16 r17 r18 r19 r26 r27 r28 r29 fun r30 =>
(cond (!r30)
(k false)
(q_laws_markKept r16 r17 r18 r19 1 fun r31 m32 =>
(cond ((decide (r31 < 0)))
(k false)
(q_laws_eqKept r20 r21 r22 r23 r11 r12 r13 r14 fun r33 =>
(cond (!r33)
(k false)
((cond ((!(r24 == r15)))
(k false)
(q_laws_markKept r20 r21 r22 r23 1 fun r34 m35 =>
q_laws_heldKept r20 r21 r22 m35 1 fun r36 =>
(cond ((decide (r36 < 0)))
(k false)
((cond ((r36 != r34))
(k false)
(q_laws_toKept a0 a1 a2 a3 fun r37 r38 r39 r40 =>
q_impl_FlipAt r37 r38 r39 r40 a4 fun r41 r42 r43 r44 r45 =>
q_laws_eqKept r41 r42 r43 r44 r11 r12 r13 r14 fun r46 =>
(cond (!r46)
(k false)
((cond ((!(r45 == r15)))
(k false)
(q_laws_heldKept r20 r21 r22 m35 1 fun r47 =>
(cond ((decide (r47 < 0)))
(k false)
((cond ((r47 != r34))
(k false)
(k true))))))))))))))))))))))))))
theorem t_laws_FnExactFlipAt {β : Type} (N : Nat) (a0 : Int) (a1 : Int) (a2 : Int) (a3 : List Int) (a4 : Int) (k : Bool → Option β) : laws_FnExactFlipAt N a0 a1 a2 a3 a4 k = BV_laws_FnExactFlipAt N (laws_szKept N) (laws_toKept N) (spec_FlipAt N) (impl_FlipAt N) (laws_eqKept N) (laws_markKept N) (laws_heldKept N) a0 a1 a2 a3 a4 k := by
  unfold laws_FnExactFlipAt BV_laws_FnExactFlipAt
  rfl
theorem ve7_0 {β : Type} (N : Nat) (q_laws_szKept : (a0 : Int) → (a1 : Int) → (a2 : Int) → (a3 : List Int) → (a4 : Int) → (k : Int → Option β) → Option β) (q_laws_toKept : (a0 : Int) → (a1 : Int) → (a2 : Int) → (a3 : List Int) → (k : Int → Int → Int → List Int → Option β) → Option β) (q_spec_FlipAt : (a0 : Int) → (a1 : Int) → (a2 : Int) → (a3 : List Int) → (a4 : Int) → (k : Int → Int → Int → List Int → Bool → Option β) → Option β) (q_impl_FlipAt : (a0 : Int) → (a1 : Int) → (a2 : Int) → (a3 : List Int) → (a4 : Int) → (k : Int → Int → Int → List Int → Bool → Option β) → Option β) (q_laws_eqKept : (a0 : Int) → (a1 : Int) → (a2 : Int) → (a3 : List Int) → (a4 : Int) → (a5 : Int) → (a6 : Int) → (a7 : List Int) → (k : Bool → Option β) → Option β) (q_laws_heldKept : (a0 : Int) → (a1 : Int) → (a2 : Int) → (a3 : List Int) → (a4 : Int) → (k : Int → Option β) → Option β) (q_laws_markKept : (a0 : Int) → (a1 : Int) → (a2 : Int) → (a3 : List Int) → (a4 : Int) → (k : Int → List Int → Option β) → Option β)  (a0 : Int) (a1 : Int) (a2 : Int) (a3 : List Int) (a4 : Int) (K : TV → Option β) : evFn lay (VE7 N q_laws_szKept q_laws_toKept q_spec_FlipAt q_impl_FlipAt q_laws_eqKept q_laws_heldKept q_laws_markKept) Try.f7 [.v (.agg [.int .i64 a0, .int .i64 a1, .int .i64 a2, .sl 3 (.ints .i64 a3)]), .v (.one (.int .i64 a4))] K = BV_laws_FnExactFlipAt N q_laws_szKept q_laws_toKept q_spec_FlipAt q_impl_FlipAt q_laws_eqKept q_laws_markKept q_laws_heldKept a0 a1 a2 a3 a4 (fun z5 => K (.v (.one (.bool z5)))) := by kernel_rfl
theorem e7_0 {β : Type} (N : Nat)  (a0 : Int) (a1 : Int) (a2 : Int) (a3 : List Int) (a4 : Int) (K : TV → Option β) : evFn lay (E7 N) Try.f7 [.v (.agg [.int .i64 a0, .int .i64 a1, .int .i64 a2, .sl 3 (.ints .i64 a3)]), .v (.one (.int .i64 a4))] K = laws_FnExactFlipAt N a0 a1 a2 a3 a4 (fun z5 => K (.v (.one (.bool z5)))) := (ve7_0 N (laws_szKept N) (laws_toKept N) (spec_FlipAt N) (impl_FlipAt N) (laws_eqKept N) (laws_heldKept N) (laws_markKept N) a0 a1 a2 a3 a4 K).trans (t_laws_FnExactFlipAt N a0 a1 a2 a3 a4 (fun z5 => K (.v (.one (.bool z5))))).symm
theorem o7 {β : Type} (N : Nat) : SpecOK (β := β) Try.prog 7 (S7 N) := by
  refine spec_of lay_ok mixed (E := E7 N) (specs_loops (specs_cons (o23 N) (specs_cons (o25 N) (specs_cons (o32 N) (specs_cons (o33 N) (specs_cons (o15 N) (specs_cons (o17 N) specs_nil))))))) (muts_cons (o16 N) muts_nil) gs_nil Try.func7 (by kernel_rfl) 0 (by kernel_rfl) trivial fun args K r h => ?_
  unfold S7 VS7 at h
  split at h
  · exact (e7_0 N _ _ _ _ _ _).trans h
  · cases h
end Go.Proofs.Ytdjmbggefcfacaa
