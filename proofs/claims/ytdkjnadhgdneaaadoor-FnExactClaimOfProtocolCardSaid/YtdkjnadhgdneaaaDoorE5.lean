/- The functions that the claims reach answer as their texts do. -/
import Derived.Test.YtdkjnadhgdneaaaDoorE4
namespace Go.Proofs.YtdkjnadhgdneaaaDoor
open Go.Rv
set_option maxRecDepth 100000
set_option maxHeartbeats 2000000
set_option linter.unusedVariables false
def VS11 {β : Type} (N : Nat) (q_laws_eqClaim : (a0 : Int) → (a1 : Int) → (a2 : Int) → (a3 : Int) → (a4 : Int) → (a5 : ByteArray) → (a6 : List Int) → (a7 : Int) → (a8 : Int) → (a9 : Int) → (a10 : Int) → (a11 : Int) → (a12 : ByteArray) → (a13 : List Int) → (k : Bool → Option β) → Option β) : Rv.Spec β := fun args K => match args with
  | [.v (.agg [.int .i64 a0, .int .i64 a1, .int .i64 a2, .int .i64 a3, .int .i64 a4, .str a5, .sl 3 (.ints .i64 a6)]), .v (.agg [.int .i64 a7, .int .i64 a8, .int .i64 a9, .int .i64 a10, .int .i64 a11, .str a12, .sl 3 (.ints .i64 a13)])] => q_laws_eqClaim a0 a1 a2 a3 a4 a5 a6 a7 a8 a9 a10 a11 a12 a13 (fun z14 => K (.v (.one (.bool z14))))
  | _ => none
def S11 {β : Type} (N : Nat) : Rv.Spec β := VS11 N (laws_eqClaim N)
def VE11 {β : Type} (N : Nat) (q_laws_eqTable : (a0 : Int) → (a1 : Int) → (a2 : Int) → (a3 : Int) → (k : Bool → Option β) → Option β) (q_laws_eqIntS : (a0 : List Int) → (a1 : List Int) → (k : Bool → Option β) → Option β) : Env β := ⟨[(23, VS23 N q_laws_eqTable), (24, VS24 N q_laws_eqIntS)], [], [], []⟩
def E11 {β : Type} (N : Nat) : Env β := VE11 N (laws_eqTable N) (laws_eqIntS N)
def BV_laws_eqClaim {β : Type} (N : Nat) (q_laws_eqTable : (a0 : Int) → (a1 : Int) → (a2 : Int) → (a3 : Int) → (k : Bool → Option β) → Option β) (q_laws_eqIntS : (a0 : List Int) → (a1 : List Int) → (k : Bool → Option β) → Option β) (a0 : Int) (a1 : Int) (a2 : Int) (a3 : Int) (a4 : Int) (a5 : ByteArray) (a6 : List Int) (a7 : Int) (a8 : Int) (a9 : Int) (a10 : Int) (a11 : Int) (a12 : ByteArray) (a13 : List Int) (k : Bool → Option β) : Option β :=
(cond ((a0 != a7))
(k false)
(q_laws_eqTable a1 a2 a8 a9 fun r15 =>
(cond (!r15)
(k false)
((cond ((a3 != a10))
(k false)
((cond ((a4 != a11))
(k false)
((cond ((!(a5.toList == a12.toList)))
(k false)
(q_laws_eqIntS a6 a13 fun r16 =>
(cond (!r16)
(k false)
(k true))))))))))))
theorem t_laws_eqClaim {β : Type} (N : Nat) (a0 : Int) (a1 : Int) (a2 : Int) (a3 : Int) (a4 : Int) (a5 : ByteArray) (a6 : List Int) (a7 : Int) (a8 : Int) (a9 : Int) (a10 : Int) (a11 : Int) (a12 : ByteArray) (a13 : List Int) (k : Bool → Option β) : laws_eqClaim N a0 a1 a2 a3 a4 a5 a6 a7 a8 a9 a10 a11 a12 a13 k = BV_laws_eqClaim N (laws_eqTable N) (laws_eqIntS N) a0 a1 a2 a3 a4 a5 a6 a7 a8 a9 a10 a11 a12 a13 k := by
  unfold laws_eqClaim BV_laws_eqClaim
  rfl
theorem ve11_0 {β : Type} (N : Nat) (q_laws_eqTable : (a0 : Int) → (a1 : Int) → (a2 : Int) → (a3 : Int) → (k : Bool → Option β) → Option β) (q_laws_eqIntS : (a0 : List Int) → (a1 : List Int) → (k : Bool → Option β) → Option β)  (a0 : Int) (a1 : Int) (a2 : Int) (a3 : Int) (a4 : Int) (a5 : ByteArray) (a6 : List Int) (a7 : Int) (a8 : Int) (a9 : Int) (a10 : Int) (a11 : Int) (a12 : ByteArray) (a13 : List Int) (K : TV → Option β) : evFn lay (VE11 N q_laws_eqTable q_laws_eqIntS) Tryd.f11 [.v (.agg [.int .i64 a0, .int .i64 a1, .int .i64 a2, .int .i64 a3, .int .i64 a4, .str a5, .sl 3 (.ints .i64 a6)]), .v (.agg [.int .i64 a7, .int .i64 a8, .int .i64 a9, .int .i64 a10, .int .i64 a11, .str a12, .sl 3 (.ints .i64 a13)])] K = BV_laws_eqClaim N q_laws_eqTable q_laws_eqIntS a0 a1 a2 a3 a4 a5 a6 a7 a8 a9 a10 a11 a12 a13 (fun z14 => K (.v (.one (.bool z14)))) := by kernel_rfl
theorem e11_0 {β : Type} (N : Nat)  (a0 : Int) (a1 : Int) (a2 : Int) (a3 : Int) (a4 : Int) (a5 : ByteArray) (a6 : List Int) (a7 : Int) (a8 : Int) (a9 : Int) (a10 : Int) (a11 : Int) (a12 : ByteArray) (a13 : List Int) (K : TV → Option β) : evFn lay (E11 N) Tryd.f11 [.v (.agg [.int .i64 a0, .int .i64 a1, .int .i64 a2, .int .i64 a3, .int .i64 a4, .str a5, .sl 3 (.ints .i64 a6)]), .v (.agg [.int .i64 a7, .int .i64 a8, .int .i64 a9, .int .i64 a10, .int .i64 a11, .str a12, .sl 3 (.ints .i64 a13)])] K = laws_eqClaim N a0 a1 a2 a3 a4 a5 a6 a7 a8 a9 a10 a11 a12 a13 (fun z14 => K (.v (.one (.bool z14)))) := (ve11_0 N (laws_eqTable N) (laws_eqIntS N) a0 a1 a2 a3 a4 a5 a6 a7 a8 a9 a10 a11 a12 a13 K).trans (t_laws_eqClaim N a0 a1 a2 a3 a4 a5 a6 a7 a8 a9 a10 a11 a12 a13 (fun z14 => K (.v (.one (.bool z14))))).symm
theorem o11 {β : Type} (N : Nat) : SpecOK (β := β) Tryd.prog 11 (S11 N) := by
  refine spec_of lay_ok mixed (E := E11 N) (specs_loops (specs_cons (o23 N) (specs_cons (o24 N) specs_nil))) muts_nil gs_nil Tryd.func11 (by kernel_rfl) 0 (by kernel_rfl) trivial fun args K r h => ?_
  unfold S11 VS11 at h
  split at h
  · exact (e11_0 N _ _ _ _ _ _ _ _ _ _ _ _ _ _ _).trans h
  · cases h
def VS26 {β : Type} (N : Nat) (q_laws_heldIntS : (a0 : List Int) → (a1 : Int) → (k : Int → Option β) → Option β) : Rv.Spec β := fun args K => match args with
  | [.v (.one (.sl 3 (.ints .i64 a0))), .v (.one (.int .i64 a1))] => q_laws_heldIntS a0 a1 (fun z2 => K (.v (.one (.int .i64 z2))))
  | _ => none
def S26 {β : Type} (N : Nat) : Rv.Spec β := VS26 N (laws_heldIntS N)
def h26_0_0  (v0 : List Int) (v1 : Int) (v2 : Int) : St := ⟨.v (.one (.sl 3 (.ints .i64 v0))) :: .v (.one (.int .i64 v1)) :: .v (.one .und) :: .v (.one .und) :: .v (.one .und) :: .v (.one (.int .i64 v2)) :: .v (.one .und) :: .v (.one .und) :: .v (.one .und) :: .v (.one .und) :: .v (.one .und) :: .v (.one .und) :: .v (.one .und) :: .v (.one .und) :: .v (.one .und) :: .v (.one .und) :: .v (.one .und) :: .v (.one .und) :: .v (.one .und) :: .v (.one .und) :: .v (.one .und) :: [], []⟩
def x26_0_0_k0  (y0 : Int) : St := ⟨.v (.one .und) :: .v (.one .und) :: .v (.one .und) :: .v (.one .und) :: .v (.one (.int .i64 y0)) :: .v (.one .und) :: .v (.one .und) :: .v (.one .und) :: .v (.one .und) :: .v (.one .und) :: .v (.one .und) :: .v (.one .und) :: .v (.one .und) :: .v (.one .und) :: .v (.one .und) :: .v (.one .und) :: .v (.one .und) :: .v (.one .und) :: .v (.one .und) :: .v (.one .und) :: .v (.one .und) :: [], []⟩
def x26_0_0_k1  (y0 : Int) : St := ⟨.v (.one .und) :: .v (.one (.int .i64 y0)) :: .v (.one .und) :: .v (.one .und) :: .v (.one .und) :: .v (.one .und) :: .v (.one .und) :: .v (.one .und) :: .v (.one .und) :: .v (.one .und) :: .v (.one .und) :: .v (.one .und) :: .v (.one .und) :: .v (.one .und) :: .v (.one .und) :: .v (.one .und) :: .v (.one .und) :: .v (.one .und) :: .v (.one .und) :: .v (.one .und) :: .v (.one .und) :: [], []⟩
theorem fl26_0_0 (s : St) : refSt (h26_0_0 [] 0 0) s = h26_0_0 (rInts (rowV (oneA (vT (nx tund s.tmps 0))))) (intS (oneA (vT (nx tund s.tmps 1)))) (intS (oneA (vT (nx tund s.tmps 5)))) := by kernel_rfl
def VLS26_0 {β : Type} (N : Nat) (q_laws_heldIntS_l0 : Nat → List Int → Int → Int → (Int → Option β) → (Int → Option β) → Option β) : LSpec β := fun s K => cond (shpSt (h26_0_0 [] 0 0) s) ((fun (v0 : List Int) (v1 : Int) (v2 : Int) => q_laws_heldIntS_l0  N v0 v1 v2 (fun y0 => K .ret (x26_0_0_k0  y0)) (fun y0 => K (.exit 0) (x26_0_0_k1  y0))) (rInts (rowV (oneA (vT (nx tund s.tmps 0))))) (intS (oneA (vT (nx tund s.tmps 1)))) (intS (oneA (vT (nx tund s.tmps 5))))) (none)
def LS26_0 {β : Type} (N : Nat) : LSpec β := VLS26_0 N (laws_heldIntS_l0 N)
def VE26 {β : Type} (N : Nat) (q_laws_heldIntS_l0 : Nat → List Int → Int → Int → (Int → Option β) → (Int → Option β) → Option β) : Env β := ⟨[], [], [(0, VLS26_0 N q_laws_heldIntS_l0)], []⟩
def E26 {β : Type} (N : Nat) : Env β := VE26 N (laws_heldIntS_l0 N)
def BV_laws_heldIntS_l0b {β : Type} (N : Nat)  (v0 : List Int) (v1 : Int) (v2 : Int) (rec_ : List Int → Int → Int → Option β) (k0 : Int → Option β) (k1 : Int → Option β) : Option β :=
(cond ((decide (v2 < (v0.length : Int))))
((gd ((decide (0 ≤ v2)))
((gd ((decide (v2 < (v0.length : Int))))
((cond (((rd 0 v0 v2) != v1))
(k0 (-1))
(rec_ v0 ((w64 (v1 + 1))) ((w64 (v2 + 1))))))))))
(k1 v1))
theorem t_laws_heldIntS_l0b {β : Type} (N : Nat)  (v0 : List Int) (v1 : Int) (v2 : Int) (rec_ : List Int → Int → Int → Option β) (k0 : Int → Option β) (k1 : Int → Option β) : laws_heldIntS_l0b N v0 v1 v2 rec_ k0 k1 = BV_laws_heldIntS_l0b N v0 v1 v2 rec_ k0 k1 := by
  unfold laws_heldIntS_l0b BV_laws_heldIntS_l0b
  rfl
theorem vst26_0_0 {β : Type} (N : Nat) (q_laws_heldIntS_l0 : Nat → List Int → Int → Int → (Int → Option β) → (Int → Option β) → Option β)  (v0 : List Int) (v1 : Int) (v2 : Int) (rec_ : St → Option β) (K : Exit → St → Option β) :
    ev lay (VE26 N q_laws_heldIntS_l0) (retMask Tryd.f26) (lp Tryd.f26 0).body (lp Tryd.f26 0).ex ((lp Tryd.f26 0).lv (retMask Tryd.f26)) (h26_0_0  v0 v1 v2) (nextR (fun s' => rec_ (s'.tidy ((lp Tryd.f26 0).lv (retMask Tryd.f26)))) K) = BV_laws_heldIntS_l0b N  v0 v1 v2 (fun v0 v1 v2 => rec_ (h26_0_0  v0 v1 v2)) (fun y0 => K .ret (x26_0_0_k0  y0)) (fun y0 => K (.exit 0) (x26_0_0_k1  y0)) := by kernel_rfl
theorem st26_0_0 {β : Type} (N : Nat)  (v0 : List Int) (v1 : Int) (v2 : Int) (rec_ : St → Option β) (K : Exit → St → Option β) :
    ev lay (E26 N) (retMask Tryd.f26) (lp Tryd.f26 0).body (lp Tryd.f26 0).ex ((lp Tryd.f26 0).lv (retMask Tryd.f26)) (h26_0_0  v0 v1 v2) (nextR (fun s' => rec_ (s'.tidy ((lp Tryd.f26 0).lv (retMask Tryd.f26)))) K) = laws_heldIntS_l0b N  v0 v1 v2 (fun v0 v1 v2 => rec_ (h26_0_0  v0 v1 v2)) (fun y0 => K .ret (x26_0_0_k0  y0)) (fun y0 => K (.exit 0) (x26_0_0_k1  y0)) := (vst26_0_0 N (laws_heldIntS_l0 N) v0 v1 v2 rec_ K).trans (t_laws_heldIntS_l0b N  v0 v1 v2 (fun v0 v1 v2 => rec_ (h26_0_0  v0 v1 v2)) (fun y0 => K .ret (x26_0_0_k0  y0)) (fun y0 => K (.exit 0) (x26_0_0_k1  y0))).symm
theorem ro26_0_0 {β : Type} (N : Nat)  (K : Exit → St → Option β) : ∀ (F : Nat) (v0 : List Int) (v1 : Int) (v2 : Int), (lp Tryd.f26 0).rounds lay (E26 N) (retMask Tryd.f26) F (h26_0_0  v0 v1 v2) K = laws_heldIntS_l0 N  F v0 v1 v2 (fun y0 => K .ret (x26_0_0_k0  y0)) (fun y0 => K (.exit 0) (x26_0_0_k1  y0)) := by
  intro F
  induction F with
  | zero => intros; rfl
  | succ F ih =>
    intros
    rw [rounds_next]
    refine (st26_0_0 N  _ _ _ (fun s => (lp Tryd.f26 0).rounds lay (E26 N) (retMask Tryd.f26) F s K) K).trans ?_
    simp only [ih]
    rfl
theorem lk26_0 {β : Type} (N : Nat) : lookL (E26 (β := β) N).loops (lp Tryd.f26 0).id = LS26_0 N := by kernel_rfl
theorem rk26_0 {β : Type} (N : Nat) : RoundsOK lay (E26 (β := β) N) (retMask Tryd.f26) (lp Tryd.f26 0) := by
  intro s K r h
  rw [lk26_0] at h
  unfold LS26_0 VLS26_0 at h
  cases hb : shpSt (h26_0_0 [] 0 0) s with
  | true =>
    rw [hb, cond_true] at h
    exact ⟨N, by rw [← shpSt_ref hb, fl26_0_0 s]; exact (ro26_0_0 N  K N (rInts (rowV (oneA (vT (nx tund s.tmps 0))))) (intS (oneA (vT (nx tund s.tmps 1)))) (intS (oneA (vT (nx tund s.tmps 5))))).trans h⟩
  | false =>
  rw [hb, cond_false] at h
  clear hb
  cases h
def BV_laws_heldIntS {β : Type} (N : Nat) (q_laws_heldIntS_l0 : Nat → List Int → Int → Int → (Int → Option β) → (Int → Option β) → Option β) (a0 : List Int) (a1 : Int) (k : Int → Option β) : Option β :=
q_laws_heldIntS_l0  N a0 a1 0 (fun e3_0 =>
k e3_0) (fun e4_0 =>
k e4_0)
theorem t_laws_heldIntS {β : Type} (N : Nat) (a0 : List Int) (a1 : Int) (k : Int → Option β) : laws_heldIntS N a0 a1 k = BV_laws_heldIntS N (laws_heldIntS_l0 N) a0 a1 k := by
  unfold laws_heldIntS BV_laws_heldIntS
  rfl
theorem ve26_0 {β : Type} (N : Nat) (q_laws_heldIntS_l0 : Nat → List Int → Int → Int → (Int → Option β) → (Int → Option β) → Option β)  (a0 : List Int) (a1 : Int) (K : TV → Option β) : evFn lay (VE26 N q_laws_heldIntS_l0) Tryd.f26 [.v (.one (.sl 3 (.ints .i64 a0))), .v (.one (.int .i64 a1))] K = BV_laws_heldIntS N q_laws_heldIntS_l0 a0 a1 (fun z2 => K (.v (.one (.int .i64 z2)))) := by kernel_rfl
theorem e26_0 {β : Type} (N : Nat)  (a0 : List Int) (a1 : Int) (K : TV → Option β) : evFn lay (E26 N) Tryd.f26 [.v (.one (.sl 3 (.ints .i64 a0))), .v (.one (.int .i64 a1))] K = laws_heldIntS N a0 a1 (fun z2 => K (.v (.one (.int .i64 z2)))) := (ve26_0 N (laws_heldIntS_l0 N) a0 a1 K).trans (t_laws_heldIntS N a0 a1 (fun z2 => K (.v (.one (.int .i64 z2))))).symm
theorem o26 {β : Type} (N : Nat) : SpecOK (β := β) Tryd.prog 26 (S26 N) := by
  refine spec_of lay_ok mixed (E := E26 N) (specs_loops specs_nil) muts_nil gs_nil Tryd.func26 (by kernel_rfl) 1 (by kernel_rfl) ⟨trivial, rk26_0 N⟩ fun args K r h => ?_
  unfold S26 VS26 at h
  split at h
  · exact (e26_0 N _ _ _).trans h
  · cases h
def VS13 {β : Type} (N : Nat) (q_laws_heldClaim : (a0 : Int) → (a1 : Int) → (a2 : Int) → (a3 : Int) → (a4 : Int) → (a5 : ByteArray) → (a6 : List Int) → (a7 : Int) → (k : Int → Option β) → Option β) : Rv.Spec β := fun args K => match args with
  | [.v (.agg [.int .i64 a0, .int .i64 a1, .int .i64 a2, .int .i64 a3, .int .i64 a4, .str a5, .sl 3 (.ints .i64 a6)]), .v (.one (.int .i64 a7))] => q_laws_heldClaim a0 a1 a2 a3 a4 a5 a6 a7 (fun z8 => K (.v (.one (.int .i64 z8))))
  | _ => none
def S13 {β : Type} (N : Nat) : Rv.Spec β := VS13 N (laws_heldClaim N)
def VE13 {β : Type} (N : Nat) (q_laws_heldIntS : (a0 : List Int) → (a1 : Int) → (k : Int → Option β) → Option β) : Env β := ⟨[(26, VS26 N q_laws_heldIntS)], [], [], []⟩
def E13 {β : Type} (N : Nat) : Env β := VE13 N (laws_heldIntS N)
def BV_laws_heldClaim {β : Type} (N : Nat) (q_laws_heldIntS : (a0 : List Int) → (a1 : Int) → (k : Int → Option β) → Option β) (a0 : Int) (a1 : Int) (a2 : Int) (a3 : Int) (a4 : Int) (a5 : ByteArray) (a6 : List Int) (a7 : Int) (k : Int → Option β) : Option β :=
q_laws_heldIntS a6 a7 fun r9 =>
(cond ((decide (r9 < 0)))
(k (-1))
(k r9))
theorem t_laws_heldClaim {β : Type} (N : Nat) (a0 : Int) (a1 : Int) (a2 : Int) (a3 : Int) (a4 : Int) (a5 : ByteArray) (a6 : List Int) (a7 : Int) (k : Int → Option β) : laws_heldClaim N a0 a1 a2 a3 a4 a5 a6 a7 k = BV_laws_heldClaim N (laws_heldIntS N) a0 a1 a2 a3 a4 a5 a6 a7 k := by
  unfold laws_heldClaim BV_laws_heldClaim
  rfl
theorem ve13_0 {β : Type} (N : Nat) (q_laws_heldIntS : (a0 : List Int) → (a1 : Int) → (k : Int → Option β) → Option β)  (a0 : Int) (a1 : Int) (a2 : Int) (a3 : Int) (a4 : Int) (a5 : ByteArray) (a6 : List Int) (a7 : Int) (K : TV → Option β) : evFn lay (VE13 N q_laws_heldIntS) Tryd.f13 [.v (.agg [.int .i64 a0, .int .i64 a1, .int .i64 a2, .int .i64 a3, .int .i64 a4, .str a5, .sl 3 (.ints .i64 a6)]), .v (.one (.int .i64 a7))] K = BV_laws_heldClaim N q_laws_heldIntS a0 a1 a2 a3 a4 a5 a6 a7 (fun z8 => K (.v (.one (.int .i64 z8)))) := by kernel_rfl
theorem e13_0 {β : Type} (N : Nat)  (a0 : Int) (a1 : Int) (a2 : Int) (a3 : Int) (a4 : Int) (a5 : ByteArray) (a6 : List Int) (a7 : Int) (K : TV → Option β) : evFn lay (E13 N) Tryd.f13 [.v (.agg [.int .i64 a0, .int .i64 a1, .int .i64 a2, .int .i64 a3, .int .i64 a4, .str a5, .sl 3 (.ints .i64 a6)]), .v (.one (.int .i64 a7))] K = laws_heldClaim N a0 a1 a2 a3 a4 a5 a6 a7 (fun z8 => K (.v (.one (.int .i64 z8)))) := (ve13_0 N (laws_heldIntS N) a0 a1 a2 a3 a4 a5 a6 a7 K).trans (t_laws_heldClaim N a0 a1 a2 a3 a4 a5 a6 a7 (fun z8 => K (.v (.one (.int .i64 z8))))).symm
theorem o13 {β : Type} (N : Nat) : SpecOK (β := β) Tryd.prog 13 (S13 N) := by
  refine spec_of lay_ok mixed (E := E13 N) (specs_loops (specs_cons (o26 N) specs_nil)) muts_nil gs_nil Tryd.func13 (by kernel_rfl) 0 (by kernel_rfl) trivial fun args K r h => ?_
  unfold S13 VS13 at h
  split at h
  · exact (e13_0 N _ _ _ _ _ _ _ _ _).trans h
  · cases h
def VS25 {β : Type} (N : Nat) (q_laws_markIntS : (a0 : List Int) → (a1 : Int) → (k : Int → List Int → Option β) → Option β) : MSpec β := fun args bl K => match args, bl with
  | [.v (.one (.row 0)), .v (.one (.int .i64 a1))], [.prow 0 3 (.ints .i64 a0)] => q_laws_markIntS a0 a1 (fun z2 m0 => K (.v (.one (.int .i64 z2))) [(.ints .i64 m0)])
  | _, _ => none
def S25 {β : Type} (N : Nat) : MSpec β := VS25 N (laws_markIntS N)
def h25_0_0  (v0 : Int) (v1 : Int) (v2 : List Int) : St := ⟨.v (.one (.row 0)) :: .v (.one (.int .i64 v0)) :: .v (.one .und) :: .v (.one .und) :: .v (.one .und) :: .v (.one (.int .i64 v1)) :: .v (.one .und) :: .v (.one .und) :: .v (.one .und) :: .v (.one .und) :: .v (.one .und) :: .v (.one .und) :: .v (.one .und) :: .v (.one .und) :: .v (.one .und) :: .v (.one .und) :: .v (.one .und) :: .v (.one .und) :: .v (.one .und) :: [], [.prow 0 3 (.ints .i64 v2)]⟩
def x25_0_0_k0  (y0 : Int) (y1 : List Int) : St := ⟨.v (.one (.row 0)) :: .v (.one (.int .i64 y0)) :: .v (.one .und) :: .v (.one .und) :: .v (.one .und) :: .v (.one .und) :: .v (.one .und) :: .v (.one .und) :: .v (.one .und) :: .v (.one .und) :: .v (.one .und) :: .v (.one .und) :: .v (.one .und) :: .v (.one .und) :: .v (.one .und) :: .v (.one .und) :: .v (.one .und) :: .v (.one .und) :: .v (.one .und) :: [], [.prow 0 3 (.ints .i64 y1)]⟩
theorem fl25_0_0 (s : St) : refSt (h25_0_0 0 0 []) s = h25_0_0 (intS (oneA (vT (nx tund s.tmps 1)))) (intS (oneA (vT (nx tund s.tmps 5)))) (rInts (rowB_ (nx .dead s.blks 0))) := by kernel_rfl
def VLS25_0 {β : Type} (N : Nat) (q_laws_markIntS_l0 : Nat → Int → Int → List Int → (Int → List Int → Option β) → Option β) : LSpec β := fun s K => cond (shpSt (h25_0_0 0 0 []) s) ((fun (v0 : Int) (v1 : Int) (v2 : List Int) => q_laws_markIntS_l0  N v0 v1 v2 (fun y0 y1 => K (.exit 0) (x25_0_0_k0  y0 y1))) (intS (oneA (vT (nx tund s.tmps 1)))) (intS (oneA (vT (nx tund s.tmps 5)))) (rInts (rowB_ (nx .dead s.blks 0)))) (none)
def LS25_0 {β : Type} (N : Nat) : LSpec β := VLS25_0 N (laws_markIntS_l0 N)
def VE25 {β : Type} (N : Nat) (q_laws_markIntS_l0 : Nat → Int → Int → List Int → (Int → List Int → Option β) → Option β) : Env β := ⟨[], [], [(0, VLS25_0 N q_laws_markIntS_l0)], []⟩
def E25 {β : Type} (N : Nat) : Env β := VE25 N (laws_markIntS_l0 N)
def BV_laws_markIntS_l0b {β : Type} (N : Nat)  (v0 : Int) (v1 : Int) (v2 : List Int) (rec_ : Int → Int → List Int → Option β) (k0 : Int → List Int → Option β) : Option β :=
(cond ((decide (v1 < (v2.length : Int))))
((gd ((decide (0 ≤ v1)))
((gd ((decide (v1 < (v2.length : Int))))
(rec_ ((w64 (v0 + 1))) ((w64 (v1 + 1))) ((wr v2 v1 v0)))))))
(k0 v0 v2))
theorem t_laws_markIntS_l0b {β : Type} (N : Nat)  (v0 : Int) (v1 : Int) (v2 : List Int) (rec_ : Int → Int → List Int → Option β) (k0 : Int → List Int → Option β) : laws_markIntS_l0b N v0 v1 v2 rec_ k0 = BV_laws_markIntS_l0b N v0 v1 v2 rec_ k0 := by
  unfold laws_markIntS_l0b BV_laws_markIntS_l0b
  rfl
theorem vst25_0_0 {β : Type} (N : Nat) (q_laws_markIntS_l0 : Nat → Int → Int → List Int → (Int → List Int → Option β) → Option β)  (v0 : Int) (v1 : Int) (v2 : List Int) (rec_ : St → Option β) (K : Exit → St → Option β) :
    ev lay (VE25 N q_laws_markIntS_l0) (retMaskM Tryd.f25) (lpM Tryd.f25 0).body (lpM Tryd.f25 0).ex ((lpM Tryd.f25 0).lv (retMaskM Tryd.f25)) (h25_0_0  v0 v1 v2) (nextR (fun s' => rec_ (s'.tidy ((lpM Tryd.f25 0).lv (retMaskM Tryd.f25)))) K) = BV_laws_markIntS_l0b N  v0 v1 v2 (fun v0 v1 v2 => rec_ (h25_0_0  v0 v1 v2)) (fun y0 y1 => K (.exit 0) (x25_0_0_k0  y0 y1)) := by kernel_rfl
theorem st25_0_0 {β : Type} (N : Nat)  (v0 : Int) (v1 : Int) (v2 : List Int) (rec_ : St → Option β) (K : Exit → St → Option β) :
    ev lay (E25 N) (retMaskM Tryd.f25) (lpM Tryd.f25 0).body (lpM Tryd.f25 0).ex ((lpM Tryd.f25 0).lv (retMaskM Tryd.f25)) (h25_0_0  v0 v1 v2) (nextR (fun s' => rec_ (s'.tidy ((lpM Tryd.f25 0).lv (retMaskM Tryd.f25)))) K) = laws_markIntS_l0b N  v0 v1 v2 (fun v0 v1 v2 => rec_ (h25_0_0  v0 v1 v2)) (fun y0 y1 => K (.exit 0) (x25_0_0_k0  y0 y1)) := (vst25_0_0 N (laws_markIntS_l0 N) v0 v1 v2 rec_ K).trans (t_laws_markIntS_l0b N  v0 v1 v2 (fun v0 v1 v2 => rec_ (h25_0_0  v0 v1 v2)) (fun y0 y1 => K (.exit 0) (x25_0_0_k0  y0 y1))).symm
theorem ro25_0_0 {β : Type} (N : Nat)  (K : Exit → St → Option β) : ∀ (F : Nat) (v0 : Int) (v1 : Int) (v2 : List Int), (lpM Tryd.f25 0).rounds lay (E25 N) (retMaskM Tryd.f25) F (h25_0_0  v0 v1 v2) K = laws_markIntS_l0 N  F v0 v1 v2 (fun y0 y1 => K (.exit 0) (x25_0_0_k0  y0 y1)) := by
  intro F
  induction F with
  | zero => intros; rfl
  | succ F ih =>
    intros
    rw [rounds_next]
    refine (st25_0_0 N  _ _ _ (fun s => (lpM Tryd.f25 0).rounds lay (E25 N) (retMaskM Tryd.f25) F s K) K).trans ?_
    simp only [ih]
    rfl
theorem lk25_0 {β : Type} (N : Nat) : lookL (E25 (β := β) N).loops (lpM Tryd.f25 0).id = LS25_0 N := by kernel_rfl
theorem rk25_0 {β : Type} (N : Nat) : RoundsOK lay (E25 (β := β) N) (retMaskM Tryd.f25) (lpM Tryd.f25 0) := by
  intro s K r h
  rw [lk25_0] at h
  unfold LS25_0 VLS25_0 at h
  cases hb : shpSt (h25_0_0 0 0 []) s with
  | true =>
    rw [hb, cond_true] at h
    exact ⟨N, by rw [← shpSt_ref hb, fl25_0_0 s]; exact (ro25_0_0 N  K N (intS (oneA (vT (nx tund s.tmps 1)))) (intS (oneA (vT (nx tund s.tmps 5)))) (rInts (rowB_ (nx .dead s.blks 0)))).trans h⟩
  | false =>
  rw [hb, cond_false] at h
  clear hb
  cases h
def BV_laws_markIntS {β : Type} (N : Nat) (q_laws_markIntS_l0 : Nat → Int → Int → List Int → (Int → List Int → Option β) → Option β) (a0 : List Int) (a1 : Int) (k : Int → List Int → Option β) : Option β :=
q_laws_markIntS_l0  N a1 0 a0 (fun e3_0 e3_1 =>
k e3_0 e3_1)
theorem t_laws_markIntS {β : Type} (N : Nat) (a0 : List Int) (a1 : Int) (k : Int → List Int → Option β) : laws_markIntS N a0 a1 k = BV_laws_markIntS N (laws_markIntS_l0 N) a0 a1 k := by
  unfold laws_markIntS BV_laws_markIntS
  rfl
theorem ve25_0 {β : Type} (N : Nat) (q_laws_markIntS_l0 : Nat → Int → Int → List Int → (Int → List Int → Option β) → Option β)  (a0 : List Int) (a1 : Int) (K : TV → List Row → Option β) : evFnM lay (VE25 N q_laws_markIntS_l0) Tryd.f25 [.v (.one (.row 0)), .v (.one (.int .i64 a1))] [.prow 0 3 (.ints .i64 a0)] K = BV_laws_markIntS N q_laws_markIntS_l0 a0 a1 (fun z2 m0 => K (.v (.one (.int .i64 z2))) [(.ints .i64 m0)]) := by kernel_rfl
theorem e25_0 {β : Type} (N : Nat)  (a0 : List Int) (a1 : Int) (K : TV → List Row → Option β) : evFnM lay (E25 N) Tryd.f25 [.v (.one (.row 0)), .v (.one (.int .i64 a1))] [.prow 0 3 (.ints .i64 a0)] K = laws_markIntS N a0 a1 (fun z2 m0 => K (.v (.one (.int .i64 z2))) [(.ints .i64 m0)]) := (ve25_0 N (laws_markIntS_l0 N) a0 a1 K).trans (t_laws_markIntS N a0 a1 (fun z2 m0 => K (.v (.one (.int .i64 z2))) [(.ints .i64 m0)])).symm
theorem o25 {β : Type} (N : Nat) : MutOK (β := β) Tryd.prog 25 (S25 N) := by
  refine mut_of lay_ok mixed (E := E25 N) (specs_loops specs_nil) muts_nil gs_nil Tryd.func25 (by kernel_rfl) 1 (by kernel_rfl) ⟨trivial, rk25_0 N⟩ fun args bl K r h => ?_
  unfold S25 VS25 at h
  split at h
  · exact (e25_0 N _ _ _).trans h
  · cases h
def VS12 {β : Type} (N : Nat) (q_laws_markClaim : (a0 : Int) → (a1 : Int) → (a2 : Int) → (a3 : Int) → (a4 : Int) → (a5 : ByteArray) → (a6 : List Int) → (a7 : Int) → (k : Int → List Int → Option β) → Option β) : MSpec β := fun args bl K => match args, bl with
  | [.v (.agg [.int .i64 a0, .int .i64 a1, .int .i64 a2, .int .i64 a3, .int .i64 a4, .str a5, .row 0]), .v (.one (.int .i64 a7))], [.prow 0 3 (.ints .i64 a6)] => q_laws_markClaim a0 a1 a2 a3 a4 a5 a6 a7 (fun z8 m0 => K (.v (.one (.int .i64 z8))) [(.ints .i64 m0)])
  | _, _ => none
def S12 {β : Type} (N : Nat) : MSpec β := VS12 N (laws_markClaim N)
def VE12 {β : Type} (N : Nat) (q_laws_markIntS : (a0 : List Int) → (a1 : Int) → (k : Int → List Int → Option β) → Option β) : Env β := ⟨[], [(25, VS25 N q_laws_markIntS)], [], []⟩
def E12 {β : Type} (N : Nat) : Env β := VE12 N (laws_markIntS N)
def BV_laws_markClaim {β : Type} (N : Nat) (q_laws_markIntS : (a0 : List Int) → (a1 : Int) → (k : Int → List Int → Option β) → Option β) (a0 : Int) (a1 : Int) (a2 : Int) (a3 : Int) (a4 : Int) (a5 : ByteArray) (a6 : List Int) (a7 : Int) (k : Int → List Int → Option β) : Option β :=
q_laws_markIntS a6 a7 fun r9 m10 =>
k r9 m10
theorem t_laws_markClaim {β : Type} (N : Nat) (a0 : Int) (a1 : Int) (a2 : Int) (a3 : Int) (a4 : Int) (a5 : ByteArray) (a6 : List Int) (a7 : Int) (k : Int → List Int → Option β) : laws_markClaim N a0 a1 a2 a3 a4 a5 a6 a7 k = BV_laws_markClaim N (laws_markIntS N) a0 a1 a2 a3 a4 a5 a6 a7 k := by
  unfold laws_markClaim BV_laws_markClaim
  rfl
theorem ve12_0 {β : Type} (N : Nat) (q_laws_markIntS : (a0 : List Int) → (a1 : Int) → (k : Int → List Int → Option β) → Option β)  (a0 : Int) (a1 : Int) (a2 : Int) (a3 : Int) (a4 : Int) (a5 : ByteArray) (a6 : List Int) (a7 : Int) (K : TV → List Row → Option β) : evFnM lay (VE12 N q_laws_markIntS) Tryd.f12 [.v (.agg [.int .i64 a0, .int .i64 a1, .int .i64 a2, .int .i64 a3, .int .i64 a4, .str a5, .row 0]), .v (.one (.int .i64 a7))] [.prow 0 3 (.ints .i64 a6)] K = BV_laws_markClaim N q_laws_markIntS a0 a1 a2 a3 a4 a5 a6 a7 (fun z8 m0 => K (.v (.one (.int .i64 z8))) [(.ints .i64 m0)]) := by kernel_rfl
theorem e12_0 {β : Type} (N : Nat)  (a0 : Int) (a1 : Int) (a2 : Int) (a3 : Int) (a4 : Int) (a5 : ByteArray) (a6 : List Int) (a7 : Int) (K : TV → List Row → Option β) : evFnM lay (E12 N) Tryd.f12 [.v (.agg [.int .i64 a0, .int .i64 a1, .int .i64 a2, .int .i64 a3, .int .i64 a4, .str a5, .row 0]), .v (.one (.int .i64 a7))] [.prow 0 3 (.ints .i64 a6)] K = laws_markClaim N a0 a1 a2 a3 a4 a5 a6 a7 (fun z8 m0 => K (.v (.one (.int .i64 z8))) [(.ints .i64 m0)]) := (ve12_0 N (laws_markIntS N) a0 a1 a2 a3 a4 a5 a6 a7 K).trans (t_laws_markClaim N a0 a1 a2 a3 a4 a5 a6 a7 (fun z8 m0 => K (.v (.one (.int .i64 z8))) [(.ints .i64 m0)])).symm
theorem o12 {β : Type} (N : Nat) : MutOK (β := β) Tryd.prog 12 (S12 N) := by
  refine mut_of lay_ok mixed (E := E12 N) (specs_loops specs_nil) (muts_cons (o25 N) muts_nil) gs_nil Tryd.func12 (by kernel_rfl) 0 (by kernel_rfl) trivial fun args bl K r h => ?_
  unfold S12 VS12 at h
  split at h
  · exact (e12_0 N _ _ _ _ _ _ _ _ _).trans h
  · cases h
def VS4 {β : Type} (N : Nat) (q_laws_FnExactClaimOfProtocol : (a0 : Int) → (a1 : Int) → (a2 : Int) → (k : Bool → Option β) → Option β) : Rv.Spec β := fun args K => match args with
  | [.v (.agg [.int .i64 a0, .int .i64 a1]), .v (.one (.int .i64 a2))] => q_laws_FnExactClaimOfProtocol a0 a1 a2 (fun z3 => K (.v (.one (.bool z3))))
  | _ => none
def S4 {β : Type} (N : Nat) : Rv.Spec β := VS4 N (laws_FnExactClaimOfProtocol N)
def VE4 {β : Type} (N : Nat) (q_laws_toTable : (a0 : Int) → (a1 : Int) → (k : Int → Int → Option β) → Option β) (q_spec_ClaimOfProtocol : (a0 : Int) → (a1 : Int) → (a2 : Int) → (k : Int → Int → Int → Int → Int → ByteArray → List Int → Bool → Option β) → Option β) (q_impl_ClaimOfProtocol : (a0 : Int) → (a1 : Int) → (a2 : Int) → (k : Int → Int → Int → Int → Int → ByteArray → List Int → Bool → Option β) → Option β) (q_laws_eqClaim : (a0 : Int) → (a1 : Int) → (a2 : Int) → (a3 : Int) → (a4 : Int) → (a5 : ByteArray) → (a6 : List Int) → (a7 : Int) → (a8 : Int) → (a9 : Int) → (a10 : Int) → (a11 : Int) → (a12 : ByteArray) → (a13 : List Int) → (k : Bool → Option β) → Option β) (q_laws_heldClaim : (a0 : Int) → (a1 : Int) → (a2 : Int) → (a3 : Int) → (a4 : Int) → (a5 : ByteArray) → (a6 : List Int) → (a7 : Int) → (k : Int → Option β) → Option β) (q_laws_markClaim : (a0 : Int) → (a1 : Int) → (a2 : Int) → (a3 : Int) → (a4 : Int) → (a5 : ByteArray) → (a6 : List Int) → (a7 : Int) → (k : Int → List Int → Option β) → Option β) : Env β := ⟨[(7, VS7 N q_laws_toTable), (9, VS9 N q_spec_ClaimOfProtocol), (10, VS10 N q_impl_ClaimOfProtocol), (11, VS11 N q_laws_eqClaim), (13, VS13 N q_laws_heldClaim)], [(12, VS12 N q_laws_markClaim)], [], []⟩
def E4 {β : Type} (N : Nat) : Env β := VE4 N (laws_toTable N) (spec_ClaimOfProtocol N) (impl_ClaimOfProtocol N) (laws_eqClaim N) (laws_heldClaim N) (laws_markClaim N)
def BV_laws_FnExactClaimOfProtocol {β : Type} (N : Nat) (q_laws_toTable : (a0 : Int) → (a1 : Int) → (k : Int → Int → Option β) → Option β) (q_spec_ClaimOfProtocol : (a0 : Int) → (a1 : Int) → (a2 : Int) → (k : Int → Int → Int → Int → Int → ByteArray → List Int → Bool → Option β) → Option β) (q_impl_ClaimOfProtocol : (a0 : Int) → (a1 : Int) → (a2 : Int) → (k : Int → Int → Int → Int → Int → ByteArray → List Int → Bool → Option β) → Option β) (q_laws_eqClaim : (a0 : Int) → (a1 : Int) → (a2 : Int) → (a3 : Int) → (a4 : Int) → (a5 : ByteArray) → (a6 : List Int) → (a7 : Int) → (a8 : Int) → (a9 : Int) → (a10 : Int) → (a11 : Int) → (a12 : ByteArray) → (a13 : List Int) → (k : Bool → Option β) → Option β) (q_laws_markClaim : (a0 : Int) → (a1 : Int) → (a2 : Int) → (a3 : Int) → (a4 : Int) → (a5 : ByteArray) → (a6 : List Int) → (a7 : Int) → (k : Int → List Int → Option β) → Option β) (q_laws_heldClaim : (a0 : Int) → (a1 : Int) → (a2 : Int) → (a3 : Int) → (a4 : Int) → (a5 : ByteArray) → (a6 : List Int) → (a7 : Int) → (k : Int → Option β) → Option β) (a0 : Int) (a1 : Int) (a2 : Int) (k : Bool → Option β) : Option β :=
q_laws_toTable a0 a1 fun r4 r5 =>
q_spec_ClaimOfProtocol r4 r5 a2 fun r6 r7 r8 r9 r10 r11 r12 r13 =>
q_laws_toTable a0 a1 fun r14 r15 =>
q_impl_ClaimOfProtocol r14 r15 a2 fun r16 r17 r18 r19 r20 r21 r22 r23 =>
q_laws_eqClaim r16 r17 r18 r19 r20 r21 r22 r6 r7 r8 r9 r10 r11 r12 fun r24 =>
(cond (!r24)
(k false)
((cond ((!(r23 == r13)))
(k false)
(q_laws_markClaim r16 r17 r18 r19 r20 r21 r22 1 fun r25 m26 =>
q_laws_heldClaim r16 r17 r18 r19 r20 r21 m26 1 fun r27 =>
(cond ((decide (r27 < 0)))
(k false)
((cond ((r27 != r25))
(k false)
(q_laws_toTable a0 a1 fun r28 r29 =>
q_impl_ClaimOfProtocol r28 r29 a2 fun r30 r31 r32 r33 r34 r35 r36 r37 =>
q_laws_eqClaim r30 r31 r32 r33 r34 r35 r36 r6 r7 r8 r9 r10 r11 r12 fun r38 =>
(cond (!r38)
(k false)
((cond ((!(r37 == r13)))
(k false)
(q_laws_heldClaim r16 r17 r18 r19 r20 r21 m26 1 fun r39 =>
(cond ((decide (r39 < 0)))
(k false)
((cond ((r39 != r25))
(k false)
(k true))))))))))))))))
theorem t_laws_FnExactClaimOfProtocol {β : Type} (N : Nat) (a0 : Int) (a1 : Int) (a2 : Int) (k : Bool → Option β) : laws_FnExactClaimOfProtocol N a0 a1 a2 k = BV_laws_FnExactClaimOfProtocol N (laws_toTable N) (spec_ClaimOfProtocol N) (impl_ClaimOfProtocol N) (laws_eqClaim N) (laws_markClaim N) (laws_heldClaim N) a0 a1 a2 k := by
  unfold laws_FnExactClaimOfProtocol BV_laws_FnExactClaimOfProtocol
  rfl
theorem ve4_0 {β : Type} (N : Nat) (q_laws_toTable : (a0 : Int) → (a1 : Int) → (k : Int → Int → Option β) → Option β) (q_spec_ClaimOfProtocol : (a0 : Int) → (a1 : Int) → (a2 : Int) → (k : Int → Int → Int → Int → Int → ByteArray → List Int → Bool → Option β) → Option β) (q_impl_ClaimOfProtocol : (a0 : Int) → (a1 : Int) → (a2 : Int) → (k : Int → Int → Int → Int → Int → ByteArray → List Int → Bool → Option β) → Option β) (q_laws_eqClaim : (a0 : Int) → (a1 : Int) → (a2 : Int) → (a3 : Int) → (a4 : Int) → (a5 : ByteArray) → (a6 : List Int) → (a7 : Int) → (a8 : Int) → (a9 : Int) → (a10 : Int) → (a11 : Int) → (a12 : ByteArray) → (a13 : List Int) → (k : Bool → Option β) → Option β) (q_laws_heldClaim : (a0 : Int) → (a1 : Int) → (a2 : Int) → (a3 : Int) → (a4 : Int) → (a5 : ByteArray) → (a6 : List Int) → (a7 : Int) → (k : Int → Option β) → Option β) (q_laws_markClaim : (a0 : Int) → (a1 : Int) → (a2 : Int) → (a3 : Int) → (a4 : Int) → (a5 : ByteArray) → (a6 : List Int) → (a7 : Int) → (k : Int → List Int → Option β) → Option β)  (a0 : Int) (a1 : Int) (a2 : Int) (K : TV → Option β) : evFn lay (VE4 N q_laws_toTable q_spec_ClaimOfProtocol q_impl_ClaimOfProtocol q_laws_eqClaim q_laws_heldClaim q_laws_markClaim) Tryd.f4 [.v (.agg [.int .i64 a0, .int .i64 a1]), .v (.one (.int .i64 a2))] K = BV_laws_FnExactClaimOfProtocol N q_laws_toTable q_spec_ClaimOfProtocol q_impl_ClaimOfProtocol q_laws_eqClaim q_laws_markClaim q_laws_heldClaim a0 a1 a2 (fun z3 => K (.v (.one (.bool z3)))) := by kernel_rfl
theorem e4_0 {β : Type} (N : Nat)  (a0 : Int) (a1 : Int) (a2 : Int) (K : TV → Option β) : evFn lay (E4 N) Tryd.f4 [.v (.agg [.int .i64 a0, .int .i64 a1]), .v (.one (.int .i64 a2))] K = laws_FnExactClaimOfProtocol N a0 a1 a2 (fun z3 => K (.v (.one (.bool z3)))) := (ve4_0 N (laws_toTable N) (spec_ClaimOfProtocol N) (impl_ClaimOfProtocol N) (laws_eqClaim N) (laws_heldClaim N) (laws_markClaim N) a0 a1 a2 K).trans (t_laws_FnExactClaimOfProtocol N a0 a1 a2 (fun z3 => K (.v (.one (.bool z3))))).symm
theorem o4 {β : Type} (N : Nat) : SpecOK (β := β) Tryd.prog 4 (S4 N) := by
  refine spec_of lay_ok mixed (E := E4 N) (specs_loops (specs_cons (o7 N) (specs_cons (o9 N) (specs_cons (o10 N) (specs_cons (o11 N) (specs_cons (o13 N) specs_nil)))))) (muts_cons (o12 N) muts_nil) gs_nil Tryd.func4 (by kernel_rfl) 0 (by kernel_rfl) trivial fun args K r h => ?_
  unfold S4 VS4 at h
  split at h
  · exact (e4_0 N _ _ _ _).trans h
  · cases h
end Go.Proofs.YtdkjnadhgdneaaaDoor
