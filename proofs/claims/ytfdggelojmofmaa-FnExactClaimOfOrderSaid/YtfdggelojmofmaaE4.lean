/- The functions that the claims reach answer as their texts do. -/
import Derived.Test.YtfdggelojmofmaaE3
namespace Go.Proofs.Ytfdggelojmofmaa
open Go.Rv
set_option maxRecDepth 100000
set_option maxHeartbeats 2000000
set_option linter.unusedVariables false
def VS56 {β : Type} (N : Nat) (q_laws_markIntS : (a0 : List Int) → (a1 : Int) → (k : Int → List Int → Option β) → Option β) : MSpec β := fun args bl K => match args, bl with
  | [.v (.one (.row 0)), .v (.one (.int .i64 a1))], [.prow 0 3 (.ints .i64 a0)] => q_laws_markIntS a0 a1 (fun z2 m0 => K (.v (.one (.int .i64 z2))) [(.ints .i64 m0)])
  | _, _ => none
def S56 {β : Type} (N : Nat) : MSpec β := VS56 N (laws_markIntS N)
def h56_0_0  (v0 : Int) (v1 : Int) (v2 : List Int) : St := ⟨.v (.one (.row 0)) :: .v (.one (.int .i64 v0)) :: .v (.one .und) :: .v (.one .und) :: .v (.one .und) :: .v (.one (.int .i64 v1)) :: .v (.one .und) :: .v (.one .und) :: .v (.one .und) :: .v (.one .und) :: .v (.one .und) :: .v (.one .und) :: .v (.one .und) :: .v (.one .und) :: .v (.one .und) :: .v (.one .und) :: .v (.one .und) :: .v (.one .und) :: .v (.one .und) :: [], [.prow 0 3 (.ints .i64 v2)]⟩
def x56_0_0_k0  (y0 : Int) (y1 : List Int) : St := ⟨.v (.one (.row 0)) :: .v (.one (.int .i64 y0)) :: .v (.one .und) :: .v (.one .und) :: .v (.one .und) :: .v (.one .und) :: .v (.one .und) :: .v (.one .und) :: .v (.one .und) :: .v (.one .und) :: .v (.one .und) :: .v (.one .und) :: .v (.one .und) :: .v (.one .und) :: .v (.one .und) :: .v (.one .und) :: .v (.one .und) :: .v (.one .und) :: .v (.one .und) :: [], [.prow 0 3 (.ints .i64 y1)]⟩
theorem fl56_0_0 (s : St) : refSt (h56_0_0 0 0 []) s = h56_0_0 (intS (oneA (vT (nx tund s.tmps 1)))) (intS (oneA (vT (nx tund s.tmps 5)))) (rInts (rowB_ (nx .dead s.blks 0))) := by kernel_rfl
def VLS56_0 {β : Type} (N : Nat) (q_laws_markIntS_l0 : Nat → Int → Int → List Int → (Int → List Int → Option β) → Option β) : LSpec β := fun s K => cond (shpSt (h56_0_0 0 0 []) s) ((fun (v0 : Int) (v1 : Int) (v2 : List Int) => q_laws_markIntS_l0  N v0 v1 v2 (fun y0 y1 => K (.exit 0) (x56_0_0_k0  y0 y1))) (intS (oneA (vT (nx tund s.tmps 1)))) (intS (oneA (vT (nx tund s.tmps 5)))) (rInts (rowB_ (nx .dead s.blks 0)))) (none)
def LS56_0 {β : Type} (N : Nat) : LSpec β := VLS56_0 N (laws_markIntS_l0 N)
def VE56 {β : Type} (N : Nat) (q_laws_markIntS_l0 : Nat → Int → Int → List Int → (Int → List Int → Option β) → Option β) : Env β := ⟨[], [], [(0, VLS56_0 N q_laws_markIntS_l0)], [], ⟨[], [], [106], [147, 148, 186]⟩⟩
def E56 {β : Type} (N : Nat) : Env β := VE56 N (laws_markIntS_l0 N)
def BV_laws_markIntS_l0b {β : Type} (N : Nat)  (v0 : Int) (v1 : Int) (v2 : List Int) (rec_ : Int → Int → List Int → Option β) (k0 : Int → List Int → Option β) : Option β :=
(cond ((decide (v1 < (v2.length : Int))))
((gd ((decide (0 ≤ v1)))
((gd ((decide (v1 < (v2.length : Int))))
(rec_ ((w64 (v0 + 1))) ((w64 (v1 + 1))) ((wr v2 v1 v0)))))))
(k0 v0 v2))
theorem t_laws_markIntS_l0b {β : Type} (N : Nat)  (v0 : Int) (v1 : Int) (v2 : List Int) (rec_ : Int → Int → List Int → Option β) (k0 : Int → List Int → Option β) : laws_markIntS_l0b N v0 v1 v2 rec_ k0 = BV_laws_markIntS_l0b N v0 v1 v2 rec_ k0 := by
  unfold laws_markIntS_l0b BV_laws_markIntS_l0b
  rfl
theorem vst56_0_0 {β : Type} (N : Nat) (q_laws_markIntS_l0 : Nat → Int → Int → List Int → (Int → List Int → Option β) → Option β)  (v0 : Int) (v1 : Int) (v2 : List Int) (rec_ : St → Option β) (K : Exit → St → Option β) :
    ev lay (VE56 N q_laws_markIntS_l0) (retMaskM Try.f56) (lpM Try.f56 0).body (lpM Try.f56 0).ex ((lpM Try.f56 0).lv (retMaskM Try.f56)) (h56_0_0  v0 v1 v2) (nextR (fun s' => rec_ (s'.tidy ((lpM Try.f56 0).lv (retMaskM Try.f56)))) K) = BV_laws_markIntS_l0b N  v0 v1 v2 (fun v0 v1 v2 => rec_ (h56_0_0  v0 v1 v2)) (fun y0 y1 => K (.exit 0) (x56_0_0_k0  y0 y1)) := by kernel_rfl
theorem st56_0_0 {β : Type} (N : Nat)  (v0 : Int) (v1 : Int) (v2 : List Int) (rec_ : St → Option β) (K : Exit → St → Option β) :
    ev lay (E56 N) (retMaskM Try.f56) (lpM Try.f56 0).body (lpM Try.f56 0).ex ((lpM Try.f56 0).lv (retMaskM Try.f56)) (h56_0_0  v0 v1 v2) (nextR (fun s' => rec_ (s'.tidy ((lpM Try.f56 0).lv (retMaskM Try.f56)))) K) = laws_markIntS_l0b N  v0 v1 v2 (fun v0 v1 v2 => rec_ (h56_0_0  v0 v1 v2)) (fun y0 y1 => K (.exit 0) (x56_0_0_k0  y0 y1)) := (vst56_0_0 N (laws_markIntS_l0 N) v0 v1 v2 rec_ K).trans (t_laws_markIntS_l0b N  v0 v1 v2 (fun v0 v1 v2 => rec_ (h56_0_0  v0 v1 v2)) (fun y0 y1 => K (.exit 0) (x56_0_0_k0  y0 y1))).symm
theorem ro56_0_0 {β : Type} (N : Nat)  (K : Exit → St → Option β) : ∀ (F : Nat) (v0 : Int) (v1 : Int) (v2 : List Int), (lpM Try.f56 0).rounds lay (E56 N) (retMaskM Try.f56) F (h56_0_0  v0 v1 v2) K = laws_markIntS_l0 N  F v0 v1 v2 (fun y0 y1 => K (.exit 0) (x56_0_0_k0  y0 y1)) := by
  intro F
  induction F with
  | zero => intros; rfl
  | succ F ih =>
    intros
    rw [rounds_next]
    refine (st56_0_0 N  _ _ _ (fun s => (lpM Try.f56 0).rounds lay (E56 N) (retMaskM Try.f56) F s K) K).trans ?_
    simp only [ih]
    rfl
theorem lk56_0 {β : Type} (N : Nat) : lookL (E56 (β := β) N).loops (lpM Try.f56 0).id = LS56_0 N := by kernel_rfl
theorem rk56_0 {β : Type} (N : Nat) : RoundsOK lay (E56 (β := β) N) (retMaskM Try.f56) (lpM Try.f56 0) := by
  intro s K r h
  rw [lk56_0] at h
  unfold LS56_0 VLS56_0 at h
  cases hb : shpSt (h56_0_0 0 0 []) s with
  | true =>
    rw [hb, cond_true] at h
    exact ⟨N, by rw [← shpSt_ref hb, fl56_0_0 s]; exact (ro56_0_0 N  K N (intS (oneA (vT (nx tund s.tmps 1)))) (intS (oneA (vT (nx tund s.tmps 5)))) (rInts (rowB_ (nx .dead s.blks 0)))).trans h⟩
  | false =>
  rw [hb, cond_false] at h
  clear hb
  cases h
def BV_laws_markIntS {β : Type} (N : Nat) (q_laws_markIntS_l0 : Nat → Int → Int → List Int → (Int → List Int → Option β) → Option β) (a0 : List Int) (a1 : Int) (k : Int → List Int → Option β) : Option β :=
q_laws_markIntS_l0  N a1 0 a0 (fun e3_0 e3_1 =>
k e3_0 e3_1)
theorem t_laws_markIntS {β : Type} (N : Nat) (a0 : List Int) (a1 : Int) (k : Int → List Int → Option β) : laws_markIntS N a0 a1 k = BV_laws_markIntS N (laws_markIntS_l0 N) a0 a1 k := by
  unfold laws_markIntS BV_laws_markIntS
  rfl
theorem ve56_0 {β : Type} (N : Nat) (q_laws_markIntS_l0 : Nat → Int → Int → List Int → (Int → List Int → Option β) → Option β)  (a0 : List Int) (a1 : Int) (K : TV → List Row → Option β) : evFnM lay (VE56 N q_laws_markIntS_l0) Try.f56 [.v (.one (.row 0)), .v (.one (.int .i64 a1))] [.prow 0 3 (.ints .i64 a0)] K = BV_laws_markIntS N q_laws_markIntS_l0 a0 a1 (fun z2 m0 => K (.v (.one (.int .i64 z2))) [(.ints .i64 m0)]) := by kernel_rfl
theorem e56_0 {β : Type} (N : Nat)  (a0 : List Int) (a1 : Int) (K : TV → List Row → Option β) : evFnM lay (E56 N) Try.f56 [.v (.one (.row 0)), .v (.one (.int .i64 a1))] [.prow 0 3 (.ints .i64 a0)] K = laws_markIntS N a0 a1 (fun z2 m0 => K (.v (.one (.int .i64 z2))) [(.ints .i64 m0)]) := (ve56_0 N (laws_markIntS_l0 N) a0 a1 K).trans (t_laws_markIntS N a0 a1 (fun z2 m0 => K (.v (.one (.int .i64 z2))) [(.ints .i64 m0)])).symm
theorem o56 {β : Type} (N : Nat) : MutOK (β := β) inv Try.prog 56 (S56 N) := by
  refine mut_of lay_ok mixed (E := E56 N) (specs_loops specs_nil) muts_nil gs_nil Try.func56 (by kernel_rfl) 1 (by kernel_rfl) ⟨trivial, rk56_0 N⟩ fun args bl K r h => ?_
  unfold S56 VS56 at h
  split at h
  · exact (e56_0 N _ _ _).trans h
  · cases h
def VS14 {β : Type} (N : Nat) (q_laws_markClaim : (a0 : Int) → (a1 : Int) → (a2 : Int) → (a3 : Int) → (a4 : Int) → (a5 : ByteArray) → (a6 : List Int) → (a7 : Int) → (k : Int → List Int → Option β) → Option β) : MSpec β := fun args bl K => match args, bl with
  | [.v (.agg [.int .i64 a0, .int .i64 a1, .int .i64 a2, .int .i64 a3, .int .i64 a4, .str a5, .row 0]), .v (.one (.int .i64 a7))], [.prow 0 3 (.ints .i64 a6)] => q_laws_markClaim a0 a1 a2 a3 a4 a5 a6 a7 (fun z8 m0 => K (.v (.one (.int .i64 z8))) [(.ints .i64 m0)])
  | _, _ => none
def S14 {β : Type} (N : Nat) : MSpec β := VS14 N (laws_markClaim N)
def VE14 {β : Type} (N : Nat) (q_laws_markIntS : (a0 : List Int) → (a1 : Int) → (k : Int → List Int → Option β) → Option β) : Env β := ⟨[], [(56, VS56 N q_laws_markIntS)], [], [], ⟨[], [], [106], [147, 148, 186]⟩⟩
def E14 {β : Type} (N : Nat) : Env β := VE14 N (laws_markIntS N)
def BV_laws_markClaim {β : Type} (N : Nat) (q_laws_markIntS : (a0 : List Int) → (a1 : Int) → (k : Int → List Int → Option β) → Option β) (a0 : Int) (a1 : Int) (a2 : Int) (a3 : Int) (a4 : Int) (a5 : ByteArray) (a6 : List Int) (a7 : Int) (k : Int → List Int → Option β) : Option β :=
q_laws_markIntS a6 a7 fun r9 m10 =>
k r9 m10
theorem t_laws_markClaim {β : Type} (N : Nat) (a0 : Int) (a1 : Int) (a2 : Int) (a3 : Int) (a4 : Int) (a5 : ByteArray) (a6 : List Int) (a7 : Int) (k : Int → List Int → Option β) : laws_markClaim N a0 a1 a2 a3 a4 a5 a6 a7 k = BV_laws_markClaim N (laws_markIntS N) a0 a1 a2 a3 a4 a5 a6 a7 k := by
  unfold laws_markClaim BV_laws_markClaim
  rfl
theorem ve14_0 {β : Type} (N : Nat) (q_laws_markIntS : (a0 : List Int) → (a1 : Int) → (k : Int → List Int → Option β) → Option β)  (a0 : Int) (a1 : Int) (a2 : Int) (a3 : Int) (a4 : Int) (a5 : ByteArray) (a6 : List Int) (a7 : Int) (K : TV → List Row → Option β) : evFnM lay (VE14 N q_laws_markIntS) Try.f14 [.v (.agg [.int .i64 a0, .int .i64 a1, .int .i64 a2, .int .i64 a3, .int .i64 a4, .str a5, .row 0]), .v (.one (.int .i64 a7))] [.prow 0 3 (.ints .i64 a6)] K = BV_laws_markClaim N q_laws_markIntS a0 a1 a2 a3 a4 a5 a6 a7 (fun z8 m0 => K (.v (.one (.int .i64 z8))) [(.ints .i64 m0)]) := by kernel_rfl
theorem e14_0 {β : Type} (N : Nat)  (a0 : Int) (a1 : Int) (a2 : Int) (a3 : Int) (a4 : Int) (a5 : ByteArray) (a6 : List Int) (a7 : Int) (K : TV → List Row → Option β) : evFnM lay (E14 N) Try.f14 [.v (.agg [.int .i64 a0, .int .i64 a1, .int .i64 a2, .int .i64 a3, .int .i64 a4, .str a5, .row 0]), .v (.one (.int .i64 a7))] [.prow 0 3 (.ints .i64 a6)] K = laws_markClaim N a0 a1 a2 a3 a4 a5 a6 a7 (fun z8 m0 => K (.v (.one (.int .i64 z8))) [(.ints .i64 m0)]) := (ve14_0 N (laws_markIntS N) a0 a1 a2 a3 a4 a5 a6 a7 K).trans (t_laws_markClaim N a0 a1 a2 a3 a4 a5 a6 a7 (fun z8 m0 => K (.v (.one (.int .i64 z8))) [(.ints .i64 m0)])).symm
theorem o14 {β : Type} (N : Nat) : MutOK (β := β) inv Try.prog 14 (S14 N) := by
  refine mut_of lay_ok mixed (E := E14 N) (specs_loops specs_nil) (muts_cons (o56 N) muts_nil) gs_nil Try.func14 (by kernel_rfl) 0 (by kernel_rfl) trivial fun args bl K r h => ?_
  unfold S14 VS14 at h
  split at h
  · exact (e14_0 N _ _ _ _ _ _ _ _ _).trans h
  · cases h
def VS6 {β : Type} (N : Nat) (q_laws_FnExactClaimOfOrder : (a0 : Int) → (a1 : Int) → (k : Bool → Option β) → Option β) : Rv.Spec β := fun args K => match args with
  | [.v (.agg [.int .i64 a0, .int .i64 a1])] => q_laws_FnExactClaimOfOrder a0 a1 (fun z2 => K (.v (.one (.bool z2))))
  | _ => none
def S6 {β : Type} (N : Nat) : Rv.Spec β := VS6 N (laws_FnExactClaimOfOrder N)
def VE6 {β : Type} (N : Nat) (q_laws_toTable : (a0 : Int) → (a1 : Int) → (k : Int → Int → Option β) → Option β) (q_spec_ClaimOfOrder : (a0 : Int) → (a1 : Int) → (k : Int → Int → Int → Int → Int → ByteArray → List Int → Bool → Option β) → Option β) (q_impl_ClaimOfOrder : (a0 : Int) → (a1 : Int) → (k : Int → Int → Int → Int → Int → ByteArray → List Int → Bool → Option β) → Option β) (q_laws_eqClaim : (a0 : Int) → (a1 : Int) → (a2 : Int) → (a3 : Int) → (a4 : Int) → (a5 : ByteArray) → (a6 : List Int) → (a7 : Int) → (a8 : Int) → (a9 : Int) → (a10 : Int) → (a11 : Int) → (a12 : ByteArray) → (a13 : List Int) → (k : Bool → Option β) → Option β) (q_laws_heldClaim : (a0 : Int) → (a1 : Int) → (a2 : Int) → (a3 : Int) → (a4 : Int) → (a5 : ByteArray) → (a6 : List Int) → (a7 : Int) → (k : Int → Option β) → Option β) (q_laws_markClaim : (a0 : Int) → (a1 : Int) → (a2 : Int) → (a3 : Int) → (a4 : Int) → (a5 : ByteArray) → (a6 : List Int) → (a7 : Int) → (k : Int → List Int → Option β) → Option β) : Env β := ⟨[(11, VS11 N q_laws_toTable), (21, VS21 N q_spec_ClaimOfOrder), (22, VS22 N q_impl_ClaimOfOrder), (13, VS13 N q_laws_eqClaim), (15, VS15 N q_laws_heldClaim)], [(14, VS14 N q_laws_markClaim)], [], [], ⟨[21], [], [106], [147, 148, 186]⟩⟩
def E6 {β : Type} (N : Nat) : Env β := VE6 N (laws_toTable N) (spec_ClaimOfOrder N) (impl_ClaimOfOrder N) (laws_eqClaim N) (laws_heldClaim N) (laws_markClaim N)
def BV_laws_FnExactClaimOfOrder {β : Type} (N : Nat) (q_laws_toTable : (a0 : Int) → (a1 : Int) → (k : Int → Int → Option β) → Option β) (q_spec_ClaimOfOrder : (a0 : Int) → (a1 : Int) → (k : Int → Int → Int → Int → Int → ByteArray → List Int → Bool → Option β) → Option β) (q_impl_ClaimOfOrder : (a0 : Int) → (a1 : Int) → (k : Int → Int → Int → Int → Int → ByteArray → List Int → Bool → Option β) → Option β) (q_laws_eqClaim : (a0 : Int) → (a1 : Int) → (a2 : Int) → (a3 : Int) → (a4 : Int) → (a5 : ByteArray) → (a6 : List Int) → (a7 : Int) → (a8 : Int) → (a9 : Int) → (a10 : Int) → (a11 : Int) → (a12 : ByteArray) → (a13 : List Int) → (k : Bool → Option β) → Option β) (q_laws_markClaim : (a0 : Int) → (a1 : Int) → (a2 : Int) → (a3 : Int) → (a4 : Int) → (a5 : ByteArray) → (a6 : List Int) → (a7 : Int) → (k : Int → List Int → Option β) → Option β) (q_laws_heldClaim : (a0 : Int) → (a1 : Int) → (a2 : Int) → (a3 : Int) → (a4 : Int) → (a5 : ByteArray) → (a6 : List Int) → (a7 : Int) → (k : Int → Option β) → Option β) (a0 : Int) (a1 : Int) (k : Bool → Option β) : Option β :=
q_laws_toTable a0 a1 fun r3 r4 =>
q_spec_ClaimOfOrder r3 r4 fun r5 r6 r7 r8 r9 r10 r11 r12 =>
q_laws_toTable a0 a1 fun r13 r14 =>
q_impl_ClaimOfOrder r13 r14 fun r15 r16 r17 r18 r19 r20 r21 r22 =>
q_laws_eqClaim r15 r16 r17 r18 r19 r20 r21 r5 r6 r7 r8 r9 r10 r11 fun r23 =>
(cond (!r23)
(k false)
((cond ((!(r22 == r12)))
(k false)
(q_laws_markClaim r15 r16 r17 r18 r19 r20 r21 1 fun r24 m25 =>
q_laws_heldClaim r15 r16 r17 r18 r19 r20 m25 1 fun r26 =>
(cond ((decide (r26 < 0)))
(k false)
((cond ((r26 != r24))
(k false)
(q_laws_toTable a0 a1 fun r27 r28 =>
q_impl_ClaimOfOrder r27 r28 fun r29 r30 r31 r32 r33 r34 r35 r36 =>
q_laws_eqClaim r29 r30 r31 r32 r33 r34 r35 r5 r6 r7 r8 r9 r10 r11 fun r37 =>
(cond (!r37)
(k false)
((cond ((!(r36 == r12)))
(k false)
(q_laws_heldClaim r15 r16 r17 r18 r19 r20 m25 1 fun r38 =>
(cond ((decide (r38 < 0)))
(k false)
((cond ((r38 != r24))
(k false)
(k true))))))))))))))))
theorem t_laws_FnExactClaimOfOrder {β : Type} (N : Nat) (a0 : Int) (a1 : Int) (k : Bool → Option β) : laws_FnExactClaimOfOrder N a0 a1 k = BV_laws_FnExactClaimOfOrder N (laws_toTable N) (spec_ClaimOfOrder N) (impl_ClaimOfOrder N) (laws_eqClaim N) (laws_markClaim N) (laws_heldClaim N) a0 a1 k := by
  unfold laws_FnExactClaimOfOrder BV_laws_FnExactClaimOfOrder
  rfl
theorem ve6_0 {β : Type} (N : Nat) (q_laws_toTable : (a0 : Int) → (a1 : Int) → (k : Int → Int → Option β) → Option β) (q_spec_ClaimOfOrder : (a0 : Int) → (a1 : Int) → (k : Int → Int → Int → Int → Int → ByteArray → List Int → Bool → Option β) → Option β) (q_impl_ClaimOfOrder : (a0 : Int) → (a1 : Int) → (k : Int → Int → Int → Int → Int → ByteArray → List Int → Bool → Option β) → Option β) (q_laws_eqClaim : (a0 : Int) → (a1 : Int) → (a2 : Int) → (a3 : Int) → (a4 : Int) → (a5 : ByteArray) → (a6 : List Int) → (a7 : Int) → (a8 : Int) → (a9 : Int) → (a10 : Int) → (a11 : Int) → (a12 : ByteArray) → (a13 : List Int) → (k : Bool → Option β) → Option β) (q_laws_heldClaim : (a0 : Int) → (a1 : Int) → (a2 : Int) → (a3 : Int) → (a4 : Int) → (a5 : ByteArray) → (a6 : List Int) → (a7 : Int) → (k : Int → Option β) → Option β) (q_laws_markClaim : (a0 : Int) → (a1 : Int) → (a2 : Int) → (a3 : Int) → (a4 : Int) → (a5 : ByteArray) → (a6 : List Int) → (a7 : Int) → (k : Int → List Int → Option β) → Option β)  (a0 : Int) (a1 : Int) (K : TV → Option β) : evFn lay (VE6 N q_laws_toTable q_spec_ClaimOfOrder q_impl_ClaimOfOrder q_laws_eqClaim q_laws_heldClaim q_laws_markClaim) Try.f6 [.v (.agg [.int .i64 a0, .int .i64 a1])] K = BV_laws_FnExactClaimOfOrder N q_laws_toTable q_spec_ClaimOfOrder q_impl_ClaimOfOrder q_laws_eqClaim q_laws_markClaim q_laws_heldClaim a0 a1 (fun z2 => K (.v (.one (.bool z2)))) := by kernel_rfl
theorem e6_0 {β : Type} (N : Nat)  (a0 : Int) (a1 : Int) (K : TV → Option β) : evFn lay (E6 N) Try.f6 [.v (.agg [.int .i64 a0, .int .i64 a1])] K = laws_FnExactClaimOfOrder N a0 a1 (fun z2 => K (.v (.one (.bool z2)))) := (ve6_0 N (laws_toTable N) (spec_ClaimOfOrder N) (impl_ClaimOfOrder N) (laws_eqClaim N) (laws_heldClaim N) (laws_markClaim N) a0 a1 K).trans (t_laws_FnExactClaimOfOrder N a0 a1 (fun z2 => K (.v (.one (.bool z2))))).symm
theorem o6 {β : Type} (N : Nat) : SpecOK (β := β) inv Try.prog 6 (S6 N) := by
  refine spec_of lay_ok mixed (E := E6 N) (specs_loops (specs_cons (o11 N) (specs_cons (o21 N) (specs_cons (o22 N) (specs_cons (o13 N) (specs_cons (o15 N) specs_nil)))))) (muts_cons (o14 N) muts_nil) gs_nil Try.func6 (by kernel_rfl) 0 (by kernel_rfl) trivial fun args K r h => ?_
  unfold S6 VS6 at h
  split at h
  · exact (e6_0 N _ _ _).trans h
  · cases h
end Go.Proofs.Ytfdggelojmofmaa
