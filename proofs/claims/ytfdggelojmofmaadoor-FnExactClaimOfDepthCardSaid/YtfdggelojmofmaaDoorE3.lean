/- The functions that the claims reach answer as their texts do. -/
import Derived.Test.YtfdggelojmofmaaDoorE2
namespace Go.Proofs.YtfdggelojmofmaaDoor
open Go.Rv
set_option maxRecDepth 100000
set_option maxHeartbeats 2000000
set_option linter.unusedVariables false
def VS38 {β : Type} (N : Nat) (q_laws_heldIntS : (a0 : List Int) → (a1 : Int) → (k : Int → Option β) → Option β) : Rv.Spec β := fun args K => match args with
  | [.v (.one (.sl 3 (.ints .i64 a0))), .v (.one (.int .i64 a1))] => q_laws_heldIntS a0 a1 (fun z2 => K (.v (.one (.int .i64 z2))))
  | _ => none
def S38 {β : Type} (N : Nat) : Rv.Spec β := VS38 N (laws_heldIntS N)
def h38_0_0  (v0 : List Int) (v1 : Int) (v2 : Int) : St := ⟨.v (.one (.sl 3 (.ints .i64 v0))) :: .v (.one (.int .i64 v1)) :: .v (.one .und) :: .v (.one .und) :: .v (.one .und) :: .v (.one (.int .i64 v2)) :: .v (.one .und) :: .v (.one .und) :: .v (.one .und) :: .v (.one .und) :: .v (.one .und) :: .v (.one .und) :: .v (.one .und) :: .v (.one .und) :: .v (.one .und) :: .v (.one .und) :: .v (.one .und) :: .v (.one .und) :: .v (.one .und) :: .v (.one .und) :: .v (.one .und) :: [], []⟩
def x38_0_0_k0  (y0 : Int) : St := ⟨.v (.one .und) :: .v (.one .und) :: .v (.one .und) :: .v (.one .und) :: .v (.one (.int .i64 y0)) :: .v (.one .und) :: .v (.one .und) :: .v (.one .und) :: .v (.one .und) :: .v (.one .und) :: .v (.one .und) :: .v (.one .und) :: .v (.one .und) :: .v (.one .und) :: .v (.one .und) :: .v (.one .und) :: .v (.one .und) :: .v (.one .und) :: .v (.one .und) :: .v (.one .und) :: .v (.one .und) :: [], []⟩
def x38_0_0_k1  (y0 : Int) : St := ⟨.v (.one .und) :: .v (.one (.int .i64 y0)) :: .v (.one .und) :: .v (.one .und) :: .v (.one .und) :: .v (.one .und) :: .v (.one .und) :: .v (.one .und) :: .v (.one .und) :: .v (.one .und) :: .v (.one .und) :: .v (.one .und) :: .v (.one .und) :: .v (.one .und) :: .v (.one .und) :: .v (.one .und) :: .v (.one .und) :: .v (.one .und) :: .v (.one .und) :: .v (.one .und) :: .v (.one .und) :: [], []⟩
theorem fl38_0_0 (s : St) : refSt (h38_0_0 [] 0 0) s = h38_0_0 (rInts (rowV (oneA (vT (nx tund s.tmps 0))))) (intS (oneA (vT (nx tund s.tmps 1)))) (intS (oneA (vT (nx tund s.tmps 5)))) := by kernel_rfl
def VLS38_0 {β : Type} (N : Nat) (q_laws_heldIntS_l0 : Nat → List Int → Int → Int → (Int → Option β) → (Int → Option β) → Option β) : LSpec β := fun s K => cond (shpSt (h38_0_0 [] 0 0) s) ((fun (v0 : List Int) (v1 : Int) (v2 : Int) => q_laws_heldIntS_l0  N v0 v1 v2 (fun y0 => K .ret (x38_0_0_k0  y0)) (fun y0 => K (.exit 0) (x38_0_0_k1  y0))) (rInts (rowV (oneA (vT (nx tund s.tmps 0))))) (intS (oneA (vT (nx tund s.tmps 1)))) (intS (oneA (vT (nx tund s.tmps 5))))) (none)
def LS38_0 {β : Type} (N : Nat) : LSpec β := VLS38_0 N (laws_heldIntS_l0 N)
def VE38 {β : Type} (N : Nat) (q_laws_heldIntS_l0 : Nat → List Int → Int → Int → (Int → Option β) → (Int → Option β) → Option β) : Env β := ⟨[], [], [(0, VLS38_0 N q_laws_heldIntS_l0)], [], ⟨[], [], []⟩⟩
def E38 {β : Type} (N : Nat) : Env β := VE38 N (laws_heldIntS_l0 N)
def BV_laws_heldIntS_l0b {β : Type} (N : Nat)  (v0 : List Int) (v1 : Int) (v2 : Int) (rec_ : List Int → Int → Int → Option β) (k0 : Int → Option β) (k1 : Int → Option β) : Option β :=
(cond ((decide (v2 < (v0.length : Int))))
((gd ((decide (0 ≤ v2)))
((gd ((decide (v2 < (v0.length : Int))))
((cond (((rd 0 v0 v2) != v1))
(k0 (-1))
(rec_ v0 ((w64 (v1 + 1))) ((w64 (v2 + 1))))))))))
(k1 v1))
theorem t_laws_heldIntS_l0b {β : Type} (N : Nat)  (v0 : List Int) (v1 : Int) (v2 : Int) (rec_ : List Int → Int → Int → Option β) (k0 : Int → Option β) (k1 : Int → Option β) : laws_heldIntS_l0b N v0 v1 v2 rec_ k0 k1 = BV_laws_heldIntS_l0b N v0 v1 v2 rec_ k0 k1 := by
  unfold laws_heldIntS_l0b BV_laws_heldIntS_l0b
  rfl
theorem vst38_0_0 {β : Type} (N : Nat) (q_laws_heldIntS_l0 : Nat → List Int → Int → Int → (Int → Option β) → (Int → Option β) → Option β)  (v0 : List Int) (v1 : Int) (v2 : Int) (rec_ : St → Option β) (K : Exit → St → Option β) :
    ev lay (VE38 N q_laws_heldIntS_l0) (retMask Tryd.f38) (lp Tryd.f38 0).body (lp Tryd.f38 0).ex ((lp Tryd.f38 0).lv (retMask Tryd.f38)) (h38_0_0  v0 v1 v2) (nextR (fun s' => rec_ (s'.tidy ((lp Tryd.f38 0).lv (retMask Tryd.f38)))) K) = BV_laws_heldIntS_l0b N  v0 v1 v2 (fun v0 v1 v2 => rec_ (h38_0_0  v0 v1 v2)) (fun y0 => K .ret (x38_0_0_k0  y0)) (fun y0 => K (.exit 0) (x38_0_0_k1  y0)) := by kernel_rfl
theorem st38_0_0 {β : Type} (N : Nat)  (v0 : List Int) (v1 : Int) (v2 : Int) (rec_ : St → Option β) (K : Exit → St → Option β) :
    ev lay (E38 N) (retMask Tryd.f38) (lp Tryd.f38 0).body (lp Tryd.f38 0).ex ((lp Tryd.f38 0).lv (retMask Tryd.f38)) (h38_0_0  v0 v1 v2) (nextR (fun s' => rec_ (s'.tidy ((lp Tryd.f38 0).lv (retMask Tryd.f38)))) K) = laws_heldIntS_l0b N  v0 v1 v2 (fun v0 v1 v2 => rec_ (h38_0_0  v0 v1 v2)) (fun y0 => K .ret (x38_0_0_k0  y0)) (fun y0 => K (.exit 0) (x38_0_0_k1  y0)) := (vst38_0_0 N (laws_heldIntS_l0 N) v0 v1 v2 rec_ K).trans (t_laws_heldIntS_l0b N  v0 v1 v2 (fun v0 v1 v2 => rec_ (h38_0_0  v0 v1 v2)) (fun y0 => K .ret (x38_0_0_k0  y0)) (fun y0 => K (.exit 0) (x38_0_0_k1  y0))).symm
theorem ro38_0_0 {β : Type} (N : Nat)  (K : Exit → St → Option β) : ∀ (F : Nat) (v0 : List Int) (v1 : Int) (v2 : Int), (lp Tryd.f38 0).rounds lay (E38 N) (retMask Tryd.f38) F (h38_0_0  v0 v1 v2) K = laws_heldIntS_l0 N  F v0 v1 v2 (fun y0 => K .ret (x38_0_0_k0  y0)) (fun y0 => K (.exit 0) (x38_0_0_k1  y0)) := by
  intro F
  induction F with
  | zero => intros; rfl
  | succ F ih =>
    intros
    rw [rounds_next]
    refine (st38_0_0 N  _ _ _ (fun s => (lp Tryd.f38 0).rounds lay (E38 N) (retMask Tryd.f38) F s K) K).trans ?_
    simp only [ih]
    rfl
theorem lk38_0 {β : Type} (N : Nat) : lookL (E38 (β := β) N).loops (lp Tryd.f38 0).id = LS38_0 N := by kernel_rfl
theorem rk38_0 {β : Type} (N : Nat) : RoundsOK lay (E38 (β := β) N) (retMask Tryd.f38) (lp Tryd.f38 0) := by
  intro s K r h
  rw [lk38_0] at h
  unfold LS38_0 VLS38_0 at h
  cases hb : shpSt (h38_0_0 [] 0 0) s with
  | true =>
    rw [hb, cond_true] at h
    exact ⟨N, by rw [← shpSt_ref hb, fl38_0_0 s]; exact (ro38_0_0 N  K N (rInts (rowV (oneA (vT (nx tund s.tmps 0))))) (intS (oneA (vT (nx tund s.tmps 1)))) (intS (oneA (vT (nx tund s.tmps 5))))).trans h⟩
  | false =>
  rw [hb, cond_false] at h
  clear hb
  cases h
def BV_laws_heldIntS {β : Type} (N : Nat) (q_laws_heldIntS_l0 : Nat → List Int → Int → Int → (Int → Option β) → (Int → Option β) → Option β) (a0 : List Int) (a1 : Int) (k : Int → Option β) : Option β :=
q_laws_heldIntS_l0  N a0 a1 0 (fun e3_0 =>
k e3_0) (fun e4_0 =>
k e4_0)
theorem t_laws_heldIntS {β : Type} (N : Nat) (a0 : List Int) (a1 : Int) (k : Int → Option β) : laws_heldIntS N a0 a1 k = BV_laws_heldIntS N (laws_heldIntS_l0 N) a0 a1 k := by
  unfold laws_heldIntS BV_laws_heldIntS
  rfl
theorem ve38_0 {β : Type} (N : Nat) (q_laws_heldIntS_l0 : Nat → List Int → Int → Int → (Int → Option β) → (Int → Option β) → Option β)  (a0 : List Int) (a1 : Int) (K : TV → Option β) : evFn lay (VE38 N q_laws_heldIntS_l0) Tryd.f38 [.v (.one (.sl 3 (.ints .i64 a0))), .v (.one (.int .i64 a1))] K = BV_laws_heldIntS N q_laws_heldIntS_l0 a0 a1 (fun z2 => K (.v (.one (.int .i64 z2)))) := by kernel_rfl
theorem e38_0 {β : Type} (N : Nat)  (a0 : List Int) (a1 : Int) (K : TV → Option β) : evFn lay (E38 N) Tryd.f38 [.v (.one (.sl 3 (.ints .i64 a0))), .v (.one (.int .i64 a1))] K = laws_heldIntS N a0 a1 (fun z2 => K (.v (.one (.int .i64 z2)))) := (ve38_0 N (laws_heldIntS_l0 N) a0 a1 K).trans (t_laws_heldIntS N a0 a1 (fun z2 => K (.v (.one (.int .i64 z2))))).symm
theorem o38 {β : Type} (N : Nat) : SpecOK (β := β) inv Tryd.prog 38 (S38 N) := by
  refine spec_of lay_ok mixed (E := E38 N) (specs_loops specs_nil) muts_nil gs_nil Tryd.func38 (by kernel_rfl) 1 (by kernel_rfl) ⟨trivial, rk38_0 N⟩ fun args K r h => ?_
  unfold S38 VS38 at h
  split at h
  · exact (e38_0 N _ _ _).trans h
  · cases h
def VS15 {β : Type} (N : Nat) (q_laws_heldClaim : (a0 : Int) → (a1 : Int) → (a2 : Int) → (a3 : Int) → (a4 : Int) → (a5 : ByteArray) → (a6 : List Int) → (a7 : Int) → (k : Int → Option β) → Option β) : Rv.Spec β := fun args K => match args with
  | [.v (.agg [.int .i64 a0, .int .i64 a1, .int .i64 a2, .int .i64 a3, .int .i64 a4, .str a5, .sl 3 (.ints .i64 a6)]), .v (.one (.int .i64 a7))] => q_laws_heldClaim a0 a1 a2 a3 a4 a5 a6 a7 (fun z8 => K (.v (.one (.int .i64 z8))))
  | _ => none
def S15 {β : Type} (N : Nat) : Rv.Spec β := VS15 N (laws_heldClaim N)
def VE15 {β : Type} (N : Nat) (q_laws_heldIntS : (a0 : List Int) → (a1 : Int) → (k : Int → Option β) → Option β) : Env β := ⟨[(38, VS38 N q_laws_heldIntS)], [], [], [], ⟨[], [], []⟩⟩
def E15 {β : Type} (N : Nat) : Env β := VE15 N (laws_heldIntS N)
def BV_laws_heldClaim {β : Type} (N : Nat) (q_laws_heldIntS : (a0 : List Int) → (a1 : Int) → (k : Int → Option β) → Option β) (a0 : Int) (a1 : Int) (a2 : Int) (a3 : Int) (a4 : Int) (a5 : ByteArray) (a6 : List Int) (a7 : Int) (k : Int → Option β) : Option β :=
q_laws_heldIntS a6 a7 fun r9 =>
(cond ((decide (r9 < 0)))
(k (-1))
(k r9))
theorem t_laws_heldClaim {β : Type} (N : Nat) (a0 : Int) (a1 : Int) (a2 : Int) (a3 : Int) (a4 : Int) (a5 : ByteArray) (a6 : List Int) (a7 : Int) (k : Int → Option β) : laws_heldClaim N a0 a1 a2 a3 a4 a5 a6 a7 k = BV_laws_heldClaim N (laws_heldIntS N) a0 a1 a2 a3 a4 a5 a6 a7 k := by
  unfold laws_heldClaim BV_laws_heldClaim
  rfl
theorem ve15_0 {β : Type} (N : Nat) (q_laws_heldIntS : (a0 : List Int) → (a1 : Int) → (k : Int → Option β) → Option β)  (a0 : Int) (a1 : Int) (a2 : Int) (a3 : Int) (a4 : Int) (a5 : ByteArray) (a6 : List Int) (a7 : Int) (K : TV → Option β) : evFn lay (VE15 N q_laws_heldIntS) Tryd.f15 [.v (.agg [.int .i64 a0, .int .i64 a1, .int .i64 a2, .int .i64 a3, .int .i64 a4, .str a5, .sl 3 (.ints .i64 a6)]), .v (.one (.int .i64 a7))] K = BV_laws_heldClaim N q_laws_heldIntS a0 a1 a2 a3 a4 a5 a6 a7 (fun z8 => K (.v (.one (.int .i64 z8)))) := by kernel_rfl
theorem e15_0 {β : Type} (N : Nat)  (a0 : Int) (a1 : Int) (a2 : Int) (a3 : Int) (a4 : Int) (a5 : ByteArray) (a6 : List Int) (a7 : Int) (K : TV → Option β) : evFn lay (E15 N) Tryd.f15 [.v (.agg [.int .i64 a0, .int .i64 a1, .int .i64 a2, .int .i64 a3, .int .i64 a4, .str a5, .sl 3 (.ints .i64 a6)]), .v (.one (.int .i64 a7))] K = laws_heldClaim N a0 a1 a2 a3 a4 a5 a6 a7 (fun z8 => K (.v (.one (.int .i64 z8)))) := (ve15_0 N (laws_heldIntS N) a0 a1 a2 a3 a4 a5 a6 a7 K).trans (t_laws_heldClaim N a0 a1 a2 a3 a4 a5 a6 a7 (fun z8 => K (.v (.one (.int .i64 z8))))).symm
theorem o15 {β : Type} (N : Nat) : SpecOK (β := β) inv Tryd.prog 15 (S15 N) := by
  refine spec_of lay_ok mixed (E := E15 N) (specs_loops (specs_cons (o38 N) specs_nil)) muts_nil gs_nil Tryd.func15 (by kernel_rfl) 0 (by kernel_rfl) trivial fun args K r h => ?_
  unfold S15 VS15 at h
  split at h
  · exact (e15_0 N _ _ _ _ _ _ _ _ _).trans h
  · cases h
def VS37 {β : Type} (N : Nat) (q_laws_markIntS : (a0 : List Int) → (a1 : Int) → (k : Int → List Int → Option β) → Option β) : MSpec β := fun args bl K => match args, bl with
  | [.v (.one (.row 0)), .v (.one (.int .i64 a1))], [.prow 0 3 (.ints .i64 a0)] => q_laws_markIntS a0 a1 (fun z2 m0 => K (.v (.one (.int .i64 z2))) [(.ints .i64 m0)])
  | _, _ => none
def S37 {β : Type} (N : Nat) : MSpec β := VS37 N (laws_markIntS N)
def h37_0_0  (v0 : Int) (v1 : Int) (v2 : List Int) : St := ⟨.v (.one (.row 0)) :: .v (.one (.int .i64 v0)) :: .v (.one .und) :: .v (.one .und) :: .v (.one .und) :: .v (.one (.int .i64 v1)) :: .v (.one .und) :: .v (.one .und) :: .v (.one .und) :: .v (.one .und) :: .v (.one .und) :: .v (.one .und) :: .v (.one .und) :: .v (.one .und) :: .v (.one .und) :: .v (.one .und) :: .v (.one .und) :: .v (.one .und) :: .v (.one .und) :: [], [.prow 0 3 (.ints .i64 v2)]⟩
def x37_0_0_k0  (y0 : Int) (y1 : List Int) : St := ⟨.v (.one (.row 0)) :: .v (.one (.int .i64 y0)) :: .v (.one .und) :: .v (.one .und) :: .v (.one .und) :: .v (.one .und) :: .v (.one .und) :: .v (.one .und) :: .v (.one .und) :: .v (.one .und) :: .v (.one .und) :: .v (.one .und) :: .v (.one .und) :: .v (.one .und) :: .v (.one .und) :: .v (.one .und) :: .v (.one .und) :: .v (.one .und) :: .v (.one .und) :: [], [.prow 0 3 (.ints .i64 y1)]⟩
theorem fl37_0_0 (s : St) : refSt (h37_0_0 0 0 []) s = h37_0_0 (intS (oneA (vT (nx tund s.tmps 1)))) (intS (oneA (vT (nx tund s.tmps 5)))) (rInts (rowB_ (nx .dead s.blks 0))) := by kernel_rfl
def VLS37_0 {β : Type} (N : Nat) (q_laws_markIntS_l0 : Nat → Int → Int → List Int → (Int → List Int → Option β) → Option β) : LSpec β := fun s K => cond (shpSt (h37_0_0 0 0 []) s) ((fun (v0 : Int) (v1 : Int) (v2 : List Int) => q_laws_markIntS_l0  N v0 v1 v2 (fun y0 y1 => K (.exit 0) (x37_0_0_k0  y0 y1))) (intS (oneA (vT (nx tund s.tmps 1)))) (intS (oneA (vT (nx tund s.tmps 5)))) (rInts (rowB_ (nx .dead s.blks 0)))) (none)
def LS37_0 {β : Type} (N : Nat) : LSpec β := VLS37_0 N (laws_markIntS_l0 N)
def VE37 {β : Type} (N : Nat) (q_laws_markIntS_l0 : Nat → Int → Int → List Int → (Int → List Int → Option β) → Option β) : Env β := ⟨[], [], [(0, VLS37_0 N q_laws_markIntS_l0)], [], ⟨[], [], []⟩⟩
def E37 {β : Type} (N : Nat) : Env β := VE37 N (laws_markIntS_l0 N)
def BV_laws_markIntS_l0b {β : Type} (N : Nat)  (v0 : Int) (v1 : Int) (v2 : List Int) (rec_ : Int → Int → List Int → Option β) (k0 : Int → List Int → Option β) : Option β :=
(cond ((decide (v1 < (v2.length : Int))))
((gd ((decide (0 ≤ v1)))
((gd ((decide (v1 < (v2.length : Int))))
(rec_ ((w64 (v0 + 1))) ((w64 (v1 + 1))) ((wr v2 v1 v0)))))))
(k0 v0 v2))
theorem t_laws_markIntS_l0b {β : Type} (N : Nat)  (v0 : Int) (v1 : Int) (v2 : List Int) (rec_ : Int → Int → List Int → Option β) (k0 : Int → List Int → Option β) : laws_markIntS_l0b N v0 v1 v2 rec_ k0 = BV_laws_markIntS_l0b N v0 v1 v2 rec_ k0 := by
  unfold laws_markIntS_l0b BV_laws_markIntS_l0b
  rfl
theorem vst37_0_0 {β : Type} (N : Nat) (q_laws_markIntS_l0 : Nat → Int → Int → List Int → (Int → List Int → Option β) → Option β)  (v0 : Int) (v1 : Int) (v2 : List Int) (rec_ : St → Option β) (K : Exit → St → Option β) :
    ev lay (VE37 N q_laws_markIntS_l0) (retMaskM Tryd.f37) (lpM Tryd.f37 0).body (lpM Tryd.f37 0).ex ((lpM Tryd.f37 0).lv (retMaskM Tryd.f37)) (h37_0_0  v0 v1 v2) (nextR (fun s' => rec_ (s'.tidy ((lpM Tryd.f37 0).lv (retMaskM Tryd.f37)))) K) = BV_laws_markIntS_l0b N  v0 v1 v2 (fun v0 v1 v2 => rec_ (h37_0_0  v0 v1 v2)) (fun y0 y1 => K (.exit 0) (x37_0_0_k0  y0 y1)) := by kernel_rfl
theorem st37_0_0 {β : Type} (N : Nat)  (v0 : Int) (v1 : Int) (v2 : List Int) (rec_ : St → Option β) (K : Exit → St → Option β) :
    ev lay (E37 N) (retMaskM Tryd.f37) (lpM Tryd.f37 0).body (lpM Tryd.f37 0).ex ((lpM Tryd.f37 0).lv (retMaskM Tryd.f37)) (h37_0_0  v0 v1 v2) (nextR (fun s' => rec_ (s'.tidy ((lpM Tryd.f37 0).lv (retMaskM Tryd.f37)))) K) = laws_markIntS_l0b N  v0 v1 v2 (fun v0 v1 v2 => rec_ (h37_0_0  v0 v1 v2)) (fun y0 y1 => K (.exit 0) (x37_0_0_k0  y0 y1)) := (vst37_0_0 N (laws_markIntS_l0 N) v0 v1 v2 rec_ K).trans (t_laws_markIntS_l0b N  v0 v1 v2 (fun v0 v1 v2 => rec_ (h37_0_0  v0 v1 v2)) (fun y0 y1 => K (.exit 0) (x37_0_0_k0  y0 y1))).symm
theorem ro37_0_0 {β : Type} (N : Nat)  (K : Exit → St → Option β) : ∀ (F : Nat) (v0 : Int) (v1 : Int) (v2 : List Int), (lpM Tryd.f37 0).rounds lay (E37 N) (retMaskM Tryd.f37) F (h37_0_0  v0 v1 v2) K = laws_markIntS_l0 N  F v0 v1 v2 (fun y0 y1 => K (.exit 0) (x37_0_0_k0  y0 y1)) := by
  intro F
  induction F with
  | zero => intros; rfl
  | succ F ih =>
    intros
    rw [rounds_next]
    refine (st37_0_0 N  _ _ _ (fun s => (lpM Tryd.f37 0).rounds lay (E37 N) (retMaskM Tryd.f37) F s K) K).trans ?_
    simp only [ih]
    rfl
theorem lk37_0 {β : Type} (N : Nat) : lookL (E37 (β := β) N).loops (lpM Tryd.f37 0).id = LS37_0 N := by kernel_rfl
theorem rk37_0 {β : Type} (N : Nat) : RoundsOK lay (E37 (β := β) N) (retMaskM Tryd.f37) (lpM Tryd.f37 0) := by
  intro s K r h
  rw [lk37_0] at h
  unfold LS37_0 VLS37_0 at h
  cases hb : shpSt (h37_0_0 0 0 []) s with
  | true =>
    rw [hb, cond_true] at h
    exact ⟨N, by rw [← shpSt_ref hb, fl37_0_0 s]; exact (ro37_0_0 N  K N (intS (oneA (vT (nx tund s.tmps 1)))) (intS (oneA (vT (nx tund s.tmps 5)))) (rInts (rowB_ (nx .dead s.blks 0)))).trans h⟩
  | false =>
  rw [hb, cond_false] at h
  clear hb
  cases h
def BV_laws_markIntS {β : Type} (N : Nat) (q_laws_markIntS_l0 : Nat → Int → Int → List Int → (Int → List Int → Option β) → Option β) (a0 : List Int) (a1 : Int) (k : Int → List Int → Option β) : Option β :=
q_laws_markIntS_l0  N a1 0 a0 (fun e3_0 e3_1 =>
k e3_0 e3_1)
theorem t_laws_markIntS {β : Type} (N : Nat) (a0 : List Int) (a1 : Int) (k : Int → List Int → Option β) : laws_markIntS N a0 a1 k = BV_laws_markIntS N (laws_markIntS_l0 N) a0 a1 k := by
  unfold laws_markIntS BV_laws_markIntS
  rfl
theorem ve37_0 {β : Type} (N : Nat) (q_laws_markIntS_l0 : Nat → Int → Int → List Int → (Int → List Int → Option β) → Option β)  (a0 : List Int) (a1 : Int) (K : TV → List Row → Option β) : evFnM lay (VE37 N q_laws_markIntS_l0) Tryd.f37 [.v (.one (.row 0)), .v (.one (.int .i64 a1))] [.prow 0 3 (.ints .i64 a0)] K = BV_laws_markIntS N q_laws_markIntS_l0 a0 a1 (fun z2 m0 => K (.v (.one (.int .i64 z2))) [(.ints .i64 m0)]) := by kernel_rfl
theorem e37_0 {β : Type} (N : Nat)  (a0 : List Int) (a1 : Int) (K : TV → List Row → Option β) : evFnM lay (E37 N) Tryd.f37 [.v (.one (.row 0)), .v (.one (.int .i64 a1))] [.prow 0 3 (.ints .i64 a0)] K = laws_markIntS N a0 a1 (fun z2 m0 => K (.v (.one (.int .i64 z2))) [(.ints .i64 m0)]) := (ve37_0 N (laws_markIntS_l0 N) a0 a1 K).trans (t_laws_markIntS N a0 a1 (fun z2 m0 => K (.v (.one (.int .i64 z2))) [(.ints .i64 m0)])).symm
theorem o37 {β : Type} (N : Nat) : MutOK (β := β) inv Tryd.prog 37 (S37 N) := by
  refine mut_of lay_ok mixed (E := E37 N) (specs_loops specs_nil) muts_nil gs_nil Tryd.func37 (by kernel_rfl) 1 (by kernel_rfl) ⟨trivial, rk37_0 N⟩ fun args bl K r h => ?_
  unfold S37 VS37 at h
  split at h
  · exact (e37_0 N _ _ _).trans h
  · cases h
def VS14 {β : Type} (N : Nat) (q_laws_markClaim : (a0 : Int) → (a1 : Int) → (a2 : Int) → (a3 : Int) → (a4 : Int) → (a5 : ByteArray) → (a6 : List Int) → (a7 : Int) → (k : Int → List Int → Option β) → Option β) : MSpec β := fun args bl K => match args, bl with
  | [.v (.agg [.int .i64 a0, .int .i64 a1, .int .i64 a2, .int .i64 a3, .int .i64 a4, .str a5, .row 0]), .v (.one (.int .i64 a7))], [.prow 0 3 (.ints .i64 a6)] => q_laws_markClaim a0 a1 a2 a3 a4 a5 a6 a7 (fun z8 m0 => K (.v (.one (.int .i64 z8))) [(.ints .i64 m0)])
  | _, _ => none
def S14 {β : Type} (N : Nat) : MSpec β := VS14 N (laws_markClaim N)
def VE14 {β : Type} (N : Nat) (q_laws_markIntS : (a0 : List Int) → (a1 : Int) → (k : Int → List Int → Option β) → Option β) : Env β := ⟨[], [(37, VS37 N q_laws_markIntS)], [], [], ⟨[], [], []⟩⟩
def E14 {β : Type} (N : Nat) : Env β := VE14 N (laws_markIntS N)
def BV_laws_markClaim {β : Type} (N : Nat) (q_laws_markIntS : (a0 : List Int) → (a1 : Int) → (k : Int → List Int → Option β) → Option β) (a0 : Int) (a1 : Int) (a2 : Int) (a3 : Int) (a4 : Int) (a5 : ByteArray) (a6 : List Int) (a7 : Int) (k : Int → List Int → Option β) : Option β :=
q_laws_markIntS a6 a7 fun r9 m10 =>
k r9 m10
theorem t_laws_markClaim {β : Type} (N : Nat) (a0 : Int) (a1 : Int) (a2 : Int) (a3 : Int) (a4 : Int) (a5 : ByteArray) (a6 : List Int) (a7 : Int) (k : Int → List Int → Option β) : laws_markClaim N a0 a1 a2 a3 a4 a5 a6 a7 k = BV_laws_markClaim N (laws_markIntS N) a0 a1 a2 a3 a4 a5 a6 a7 k := by
  unfold laws_markClaim BV_laws_markClaim
  rfl
theorem ve14_0 {β : Type} (N : Nat) (q_laws_markIntS : (a0 : List Int) → (a1 : Int) → (k : Int → List Int → Option β) → Option β)  (a0 : Int) (a1 : Int) (a2 : Int) (a3 : Int) (a4 : Int) (a5 : ByteArray) (a6 : List Int) (a7 : Int) (K : TV → List Row → Option β) : evFnM lay (VE14 N q_laws_markIntS) Tryd.f14 [.v (.agg [.int .i64 a0, .int .i64 a1, .int .i64 a2, .int .i64 a3, .int .i64 a4, .str a5, .row 0]), .v (.one (.int .i64 a7))] [.prow 0 3 (.ints .i64 a6)] K = BV_laws_markClaim N q_laws_markIntS a0 a1 a2 a3 a4 a5 a6 a7 (fun z8 m0 => K (.v (.one (.int .i64 z8))) [(.ints .i64 m0)]) := by kernel_rfl
theorem e14_0 {β : Type} (N : Nat)  (a0 : Int) (a1 : Int) (a2 : Int) (a3 : Int) (a4 : Int) (a5 : ByteArray) (a6 : List Int) (a7 : Int) (K : TV → List Row → Option β) : evFnM lay (E14 N) Tryd.f14 [.v (.agg [.int .i64 a0, .int .i64 a1, .int .i64 a2, .int .i64 a3, .int .i64 a4, .str a5, .row 0]), .v (.one (.int .i64 a7))] [.prow 0 3 (.ints .i64 a6)] K = laws_markClaim N a0 a1 a2 a3 a4 a5 a6 a7 (fun z8 m0 => K (.v (.one (.int .i64 z8))) [(.ints .i64 m0)]) := (ve14_0 N (laws_markIntS N) a0 a1 a2 a3 a4 a5 a6 a7 K).trans (t_laws_markClaim N a0 a1 a2 a3 a4 a5 a6 a7 (fun z8 m0 => K (.v (.one (.int .i64 z8))) [(.ints .i64 m0)])).symm
theorem o14 {β : Type} (N : Nat) : MutOK (β := β) inv Tryd.prog 14 (S14 N) := by
  refine mut_of lay_ok mixed (E := E14 N) (specs_loops specs_nil) (muts_cons (o37 N) muts_nil) gs_nil Tryd.func14 (by kernel_rfl) 0 (by kernel_rfl) trivial fun args bl K r h => ?_
  unfold S14 VS14 at h
  split at h
  · exact (e14_0 N _ _ _ _ _ _ _ _ _).trans h
  · cases h
def VS4 {β : Type} (N : Nat) (q_laws_FnExactClaimOfDepth : (a0 : Int) → (a1 : Int) → (k : Bool → Option β) → Option β) : Rv.Spec β := fun args K => match args with
  | [.v (.agg [.int .i64 a0, .int .i64 a1])] => q_laws_FnExactClaimOfDepth a0 a1 (fun z2 => K (.v (.one (.bool z2))))
  | _ => none
def S4 {β : Type} (N : Nat) : Rv.Spec β := VS4 N (laws_FnExactClaimOfDepth N)
def VE4 {β : Type} (N : Nat) (q_laws_toTable : (a0 : Int) → (a1 : Int) → (k : Int → Int → Option β) → Option β) (q_spec_ClaimOfDepth : (a0 : Int) → (a1 : Int) → (k : Int → Int → Int → Int → Int → ByteArray → List Int → Bool → Option β) → Option β) (q_impl_ClaimOfDepth : (a0 : Int) → (a1 : Int) → (k : Int → Int → Int → Int → Int → ByteArray → List Int → Bool → Option β) → Option β) (q_laws_eqClaim : (a0 : Int) → (a1 : Int) → (a2 : Int) → (a3 : Int) → (a4 : Int) → (a5 : ByteArray) → (a6 : List Int) → (a7 : Int) → (a8 : Int) → (a9 : Int) → (a10 : Int) → (a11 : Int) → (a12 : ByteArray) → (a13 : List Int) → (k : Bool → Option β) → Option β) (q_laws_heldClaim : (a0 : Int) → (a1 : Int) → (a2 : Int) → (a3 : Int) → (a4 : Int) → (a5 : ByteArray) → (a6 : List Int) → (a7 : Int) → (k : Int → Option β) → Option β) (q_laws_markClaim : (a0 : Int) → (a1 : Int) → (a2 : Int) → (a3 : Int) → (a4 : Int) → (a5 : ByteArray) → (a6 : List Int) → (a7 : Int) → (k : Int → List Int → Option β) → Option β) : Env β := ⟨[(11, VS11 N q_laws_toTable), (16, VS16 N q_spec_ClaimOfDepth), (17, VS17 N q_impl_ClaimOfDepth), (13, VS13 N q_laws_eqClaim), (15, VS15 N q_laws_heldClaim)], [(14, VS14 N q_laws_markClaim)], [], [], ⟨[], [], []⟩⟩
def E4 {β : Type} (N : Nat) : Env β := VE4 N (laws_toTable N) (spec_ClaimOfDepth N) (impl_ClaimOfDepth N) (laws_eqClaim N) (laws_heldClaim N) (laws_markClaim N)
def BV_laws_FnExactClaimOfDepth {β : Type} (N : Nat) (q_laws_toTable : (a0 : Int) → (a1 : Int) → (k : Int → Int → Option β) → Option β) (q_spec_ClaimOfDepth : (a0 : Int) → (a1 : Int) → (k : Int → Int → Int → Int → Int → ByteArray → List Int → Bool → Option β) → Option β) (q_impl_ClaimOfDepth : (a0 : Int) → (a1 : Int) → (k : Int → Int → Int → Int → Int → ByteArray → List Int → Bool → Option β) → Option β) (q_laws_eqClaim : (a0 : Int) → (a1 : Int) → (a2 : Int) → (a3 : Int) → (a4 : Int) → (a5 : ByteArray) → (a6 : List Int) → (a7 : Int) → (a8 : Int) → (a9 : Int) → (a10 : Int) → (a11 : Int) → (a12 : ByteArray) → (a13 : List Int) → (k : Bool → Option β) → Option β) (q_laws_markClaim : (a0 : Int) → (a1 : Int) → (a2 : Int) → (a3 : Int) → (a4 : Int) → (a5 : ByteArray) → (a6 : List Int) → (a7 : Int) → (k : Int → List Int → Option β) → Option β) (q_laws_heldClaim : (a0 : Int) → (a1 : Int) → (a2 : Int) → (a3 : Int) → (a4 : Int) → (a5 : ByteArray) → (a6 : List Int) → (a7 : Int) → (k : Int → Option β) → Option β) (a0 : Int) (a1 : Int) (k : Bool → Option β) : Option β :=
q_laws_toTable a0 a1 fun r3 r4 =>
q_spec_ClaimOfDepth r3 r4 fun r5 r6 r7 r8 r9 r10 r11 r12 =>
q_laws_toTable a0 a1 fun r13 r14 =>
q_impl_ClaimOfDepth r13 r14 fun r15 r16 r17 r18 r19 r20 r21 r22 =>
q_laws_eqClaim r15 r16 r17 r18 r19 r20 r21 r5 r6 r7 r8 r9 r10 r11 fun r23 =>
(cond (!r23)
(k false)
((cond ((!(r22 == r12)))
(k false)
(q_laws_markClaim r15 r16 r17 r18 r19 r20 r21 1 fun r24 m25 =>
q_laws_heldClaim r15 r16 r17 r18 r19 r20 m25 1 fun r26 =>
(cond ((decide (r26 < 0)))
(k false)
((cond ((r26 != r24))
(k false)
(q_laws_toTable a0 a1 fun r27 r28 =>
q_impl_ClaimOfDepth r27 r28 fun r29 r30 r31 r32 r33 r34 r35 r36 =>
q_laws_eqClaim r29 r30 r31 r32 r33 r34 r35 r5 r6 r7 r8 r9 r10 r11 fun r37 =>
(cond (!r37)
(k false)
((cond ((!(r36 == r12)))
(k false)
(q_laws_heldClaim r15 r16 r17 r18 r19 r20 m25 1 fun r38 =>
(cond ((decide (r38 < 0)))
(k false)
((cond ((r38 != r24))
(k false)
(k true))))))))))))))))
theorem t_laws_FnExactClaimOfDepth {β : Type} (N : Nat) (a0 : Int) (a1 : Int) (k : Bool → Option β) : laws_FnExactClaimOfDepth N a0 a1 k = BV_laws_FnExactClaimOfDepth N (laws_toTable N) (spec_ClaimOfDepth N) (impl_ClaimOfDepth N) (laws_eqClaim N) (laws_markClaim N) (laws_heldClaim N) a0 a1 k := by
  unfold laws_FnExactClaimOfDepth BV_laws_FnExactClaimOfDepth
  rfl
theorem ve4_0 {β : Type} (N : Nat) (q_laws_toTable : (a0 : Int) → (a1 : Int) → (k : Int → Int → Option β) → Option β) (q_spec_ClaimOfDepth : (a0 : Int) → (a1 : Int) → (k : Int → Int → Int → Int → Int → ByteArray → List Int → Bool → Option β) → Option β) (q_impl_ClaimOfDepth : (a0 : Int) → (a1 : Int) → (k : Int → Int → Int → Int → Int → ByteArray → List Int → Bool → Option β) → Option β) (q_laws_eqClaim : (a0 : Int) → (a1 : Int) → (a2 : Int) → (a3 : Int) → (a4 : Int) → (a5 : ByteArray) → (a6 : List Int) → (a7 : Int) → (a8 : Int) → (a9 : Int) → (a10 : Int) → (a11 : Int) → (a12 : ByteArray) → (a13 : List Int) → (k : Bool → Option β) → Option β) (q_laws_heldClaim : (a0 : Int) → (a1 : Int) → (a2 : Int) → (a3 : Int) → (a4 : Int) → (a5 : ByteArray) → (a6 : List Int) → (a7 : Int) → (k : Int → Option β) → Option β) (q_laws_markClaim : (a0 : Int) → (a1 : Int) → (a2 : Int) → (a3 : Int) → (a4 : Int) → (a5 : ByteArray) → (a6 : List Int) → (a7 : Int) → (k : Int → List Int → Option β) → Option β)  (a0 : Int) (a1 : Int) (K : TV → Option β) : evFn lay (VE4 N q_laws_toTable q_spec_ClaimOfDepth q_impl_ClaimOfDepth q_laws_eqClaim q_laws_heldClaim q_laws_markClaim) Tryd.f4 [.v (.agg [.int .i64 a0, .int .i64 a1])] K = BV_laws_FnExactClaimOfDepth N q_laws_toTable q_spec_ClaimOfDepth q_impl_ClaimOfDepth q_laws_eqClaim q_laws_markClaim q_laws_heldClaim a0 a1 (fun z2 => K (.v (.one (.bool z2)))) := by kernel_rfl
theorem e4_0 {β : Type} (N : Nat)  (a0 : Int) (a1 : Int) (K : TV → Option β) : evFn lay (E4 N) Tryd.f4 [.v (.agg [.int .i64 a0, .int .i64 a1])] K = laws_FnExactClaimOfDepth N a0 a1 (fun z2 => K (.v (.one (.bool z2)))) := (ve4_0 N (laws_toTable N) (spec_ClaimOfDepth N) (impl_ClaimOfDepth N) (laws_eqClaim N) (laws_heldClaim N) (laws_markClaim N) a0 a1 K).trans (t_laws_FnExactClaimOfDepth N a0 a1 (fun z2 => K (.v (.one (.bool z2))))).symm
theorem o4 {β : Type} (N : Nat) : SpecOK (β := β) inv Tryd.prog 4 (S4 N) := by
  refine spec_of lay_ok mixed (E := E4 N) (specs_loops (specs_cons (o11 N) (specs_cons (o16 N) (specs_cons (o17 N) (specs_cons (o13 N) (specs_cons (o15 N) specs_nil)))))) (muts_cons (o14 N) muts_nil) gs_nil Tryd.func4 (by kernel_rfl) 0 (by kernel_rfl) trivial fun args K r h => ?_
  unfold S4 VS4 at h
  split at h
  · exact (e4_0 N _ _ _).trans h
  · cases h
end Go.Proofs.YtfdggelojmofmaaDoor
