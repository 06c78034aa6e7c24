/- The functions that the claims reach answer as their texts do. -/
import Derived.Test.YtddflpokemgnmaaE3
namespace Go.Proofs.Ytddflpokemgnmaa
open Go.Rv
set_option maxRecDepth 100000
set_option maxHeartbeats 2000000
set_option linter.unusedVariables false
def VS20 {β : Type} (N : Nat) (q_spec_DrawDualFormula : (a0 : List Int) → (k : ByteArray → Option β) → Option β) : Rv.Spec β := fun args K => match args with
  | [.v (.one (.sl 5 (.ints .u8 a0)))] => q_spec_DrawDualFormula a0 (fun z1 => K (.v (.one (.str z1))))
  | _ => none
def S20 {β : Type} (N : Nat) : Rv.Spec β := VS20 N (spec_DrawDualFormula N)
def VE20 {β : Type} (N : Nat) (q_spec_l1New_g0 : (a0 : List Int) → (k0 : List Int → Int → Int → Option β) → Option β) (q_spec_l5Any_g0 : (a0 : List Int) → (a1 : Int) → (a2 : Int) → (k0 : ByteArray → List Int → Int → Int → Option β) → Option β) : Env β := ⟨[], [], [], [(28, VS28 N q_spec_l1New_g0), (29, VS29 N q_spec_l5Any_g0)], ⟨[], [], [], []⟩⟩
def E20 {β : Type} (N : Nat) : Env β := VE20 N (spec_l1New_g0 N) (spec_l5Any_g0 N)
def BV_spec_DrawDualFormula {β : Type} (N : Nat) (q_spec_l1New_g0 : (a0 : List Int) → (k0 : List Int → Int → Int → Option β) → Option β) (q_spec_l5Any_g0 : (a0 : List Int) → (a1 : Int) → (a2 : Int) → (k0 : ByteArray → List Int → Int → Int → Option β) → Option β) (a0 : List Int) (k : ByteArray → Option β) : Option β :=
q_spec_l1New_g0 a0 (fun r2_0 r2_1 r2_2 =>
q_spec_l5Any_g0 r2_0 r2_1 r2_2 (fun r3_0 r3_1 r3_2 r3_3 =>
k r3_0))
theorem t_spec_DrawDualFormula {β : Type} (N : Nat) (a0 : List Int) (k : ByteArray → Option β) : spec_DrawDualFormula N a0 k = BV_spec_DrawDualFormula N (spec_l1New_g0 N) (spec_l5Any_g0 N) a0 k := by
  unfold spec_DrawDualFormula BV_spec_DrawDualFormula
  rfl
theorem ve20_0 {β : Type} (N : Nat) (q_spec_l1New_g0 : (a0 : List Int) → (k0 : List Int → Int → Int → Option β) → Option β) (q_spec_l5Any_g0 : (a0 : List Int) → (a1 : Int) → (a2 : Int) → (k0 : ByteArray → List Int → Int → Int → Option β) → Option β)  (a0 : List Int) (K : TV → Option β) : evFn lay (VE20 N q_spec_l1New_g0 q_spec_l5Any_g0) Try.f20 [.v (.one (.sl 5 (.ints .u8 a0)))] K = BV_spec_DrawDualFormula N q_spec_l1New_g0 q_spec_l5Any_g0 a0 (fun z1 => K (.v (.one (.str z1)))) := by kernel_rfl
theorem e20_0 {β : Type} (N : Nat)  (a0 : List Int) (K : TV → Option β) : evFn lay (E20 N) Try.f20 [.v (.one (.sl 5 (.ints .u8 a0)))] K = spec_DrawDualFormula N a0 (fun z1 => K (.v (.one (.str z1)))) := (ve20_0 N (spec_l1New_g0 N) (spec_l5Any_g0 N) a0 K).trans (t_spec_DrawDualFormula N a0 (fun z1 => K (.v (.one (.str z1))))).symm
theorem o20 {β : Type} (N : Nat) : SpecOK (β := β) inv Try.prog 20 (S20 N) := by
  refine spec_of lay_ok mixed (E := E20 N) (specs_loops specs_nil) muts_nil (gs_cons (o28 N) (gs_cons (o29 N) gs_nil)) Try.func20 (by kernel_rfl) 0 (by kernel_rfl) trivial fun args K r h => ?_
  unfold S20 VS20 at h
  split at h
  · exact (e20_0 N _ _).trans h
  · cases h
def VS21 {β : Type} (N : Nat) (q_spec_DualFormula : (a0 : ByteArray) → (k : ByteArray → Bool → Option β) → Option β) : Rv.Spec β := fun args K => match args with
  | [.v (.one (.str a0))] => q_spec_DualFormula a0 (fun z1 z2 => K (.tup [.one (.str z1), .one (.bool z2)]))
  | _ => none
def S21 {β : Type} (N : Nat) : Rv.Spec β := VS21 N (spec_DualFormula N)
def h21_0_0  (v0 : ByteArray) (v1 : ByteArray) (v2 : Int) : St := ⟨.v (.one (.str v0)) :: .v (.one .und) :: .v (.one .und) :: .v (.one .und) :: .v (.one (.str v1)) :: .v (.one (.int .i64 v2)) :: .v (.one .und) :: .v (.one .und) :: .v (.one .und) :: .v (.one .und) :: .v (.one .und) :: .v (.one .und) :: .v (.one .und) :: .v (.one .und) :: .v (.one .und) :: .v (.one .und) :: .v (.one .und) :: .v (.one .und) :: .v (.one .und) :: .v (.one .und) :: .v (.one .und) :: .v (.one .und) :: .v (.one .und) :: .v (.one .und) :: .v (.one .und) :: .v (.one .und) :: .v (.one .und) :: .v (.one .und) :: .v (.one .und) :: .v (.one .und) :: .v (.one .und) :: .v (.one .und) :: .v (.one .und) :: .v (.one .und) :: .v (.one .und) :: .v (.one .und) :: .v (.one .und) :: .v (.one .und) :: .v (.one .und) :: .v (.one .und) :: .v (.one .und) :: .v (.one .und) :: .v (.one .und) :: .v (.one .und) :: .v (.one .und) :: .v (.one .und) :: .v (.one .und) :: [], []⟩
def x21_0_0_k0  (y0 : ByteArray) (y1 : Bool) : St := ⟨.v (.one .und) :: .v (.one .und) :: .v (.one (.str y0)) :: .v (.one (.bool y1)) :: .v (.one .und) :: .v (.one .und) :: .v (.one .und) :: .v (.one .und) :: .v (.one .und) :: .v (.one .und) :: .v (.one .und) :: .v (.one .und) :: .v (.one .und) :: .v (.one .und) :: .v (.one .und) :: .v (.one .und) :: .v (.one .und) :: .v (.one .und) :: .v (.one .und) :: .v (.one .und) :: .v (.one .und) :: .v (.one .und) :: .v (.one .und) :: .v (.one .und) :: .v (.one .und) :: .v (.one .und) :: .v (.one .und) :: .v (.one .und) :: .v (.one .und) :: .v (.one .und) :: .v (.one .und) :: .v (.one .und) :: .v (.one .und) :: .v (.one .und) :: .v (.one .und) :: .v (.one .und) :: .v (.one .und) :: .v (.one .und) :: .v (.one .und) :: .v (.one .und) :: .v (.one .und) :: .v (.one .und) :: .v (.one .und) :: .v (.one .und) :: .v (.one .und) :: .v (.one .und) :: .v (.one .und) :: [], []⟩
def x21_0_0_k1  (y0 : ByteArray) (y1 : ByteArray) : St := ⟨.v (.one (.str y0)) :: .v (.one .und) :: .v (.one .und) :: .v (.one .und) :: .v (.one (.str y1)) :: .v (.one .und) :: .v (.one .und) :: .v (.one .und) :: .v (.one .und) :: .v (.one .und) :: .v (.one .und) :: .v (.one .und) :: .v (.one .und) :: .v (.one .und) :: .v (.one .und) :: .v (.one .und) :: .v (.one .und) :: .v (.one .und) :: .v (.one .und) :: .v (.one .und) :: .v (.one .und) :: .v (.one .und) :: .v (.one .und) :: .v (.one .und) :: .v (.one .und) :: .v (.one .und) :: .v (.one .und) :: .v (.one .und) :: .v (.one .und) :: .v (.one .und) :: .v (.one .und) :: .v (.one .und) :: .v (.one .und) :: .v (.one .und) :: .v (.one .und) :: .v (.one .und) :: .v (.one .und) :: .v (.one .und) :: .v (.one .und) :: .v (.one .und) :: .v (.one .und) :: .v (.one .und) :: .v (.one .und) :: .v (.one .und) :: .v (.one .und) :: .v (.one .und) :: .v (.one .und) :: [], []⟩
theorem fl21_0_0 (s : St) : refSt (h21_0_0 ByteArray.empty ByteArray.empty 0) s = h21_0_0 (strS (oneA (vT (nx tund s.tmps 0)))) (strS (oneA (vT (nx tund s.tmps 4)))) (intS (oneA (vT (nx tund s.tmps 5)))) := by kernel_rfl
def VLS21_0 {β : Type} (N : Nat) (q_spec_DualFormula_l0 : Nat → ByteArray → ByteArray → Int → (ByteArray → Bool → Option β) → (ByteArray → ByteArray → Option β) → Option β) : LSpec β := fun s K => cond (shpSt (h21_0_0 ByteArray.empty ByteArray.empty 0) s) ((fun (v0 : ByteArray) (v1 : ByteArray) (v2 : Int) => q_spec_DualFormula_l0  N v0 v1 v2 (fun y0 y1 => K .ret (x21_0_0_k0  y0 y1)) (fun y0 y1 => K (.exit 0) (x21_0_0_k1  y0 y1))) (strS (oneA (vT (nx tund s.tmps 0)))) (strS (oneA (vT (nx tund s.tmps 4)))) (intS (oneA (vT (nx tund s.tmps 5))))) (none)
def LS21_0 {β : Type} (N : Nat) : LSpec β := VLS21_0 N (spec_DualFormula_l0 N)
def VE21 {β : Type} (N : Nat) (q_spec_IsFormula : (a0 : ByteArray) → (k : Bool → Option β) → Option β) (q_spec_DualFormula_l0 : Nat → ByteArray → ByteArray → Int → (ByteArray → Bool → Option β) → (ByteArray → ByteArray → Option β) → Option β) : Env β := ⟨[(23, VS23 N q_spec_IsFormula)], [], [(0, VLS21_0 N q_spec_DualFormula_l0)], [], ⟨[], [], [], []⟩⟩
def E21 {β : Type} (N : Nat) : Env β := VE21 N (spec_IsFormula N) (spec_DualFormula_l0 N)
def BV_spec_DualFormula_l0b {β : Type} (N : Nat) (q_spec_IsFormula : (a0 : ByteArray) → (k : Bool → Option β) → Option β)  (v0 : ByteArray) (v1 : ByteArray) (v2 : Int) (rec_ : ByteArray → ByteArray → Int → Option β) (k0 : ByteArray → Bool → Option β) (k1 : ByteArray → ByteArray → Option β) : Option β :=
(cond ((decide (v2 < (v0.size : Int))))
(q_spec_IsFormula v0 fun r3 =>
(cond r3
((gd ((decide (0 ≤ v2)))
((gd ((decide (v2 < (v0.size : Int))))
((cond (((bt v0 v2) == 38))
((gd ((decide (v1.size + ((strOf [124])).size ≤ 9223372036854775807)))
(rec_ v0 ((v1 ++ (strOf [124]))) ((w64 (v2 + 1))))))
((cond (((bt v0 v2) == 124))
((gd ((decide (v1.size + ((strOf [38])).size ≤ 9223372036854775807)))
(rec_ v0 ((v1 ++ (strOf [38]))) ((w64 (v2 + 1))))))
((cond (((bt v0 v2) == 48))
((gd ((decide (v1.size + ((strOf [49])).size ≤ 9223372036854775807)))
(rec_ v0 ((v1 ++ (strOf [49]))) ((w64 (v2 + 1))))))
((cond (((bt v0 v2) == 49))
((gd ((decide (v1.size + ((strOf [48])).size ≤ 9223372036854775807)))
(rec_ v0 ((v1 ++ (strOf [48]))) ((w64 (v2 + 1))))))
((cond (((bt v0 v2) == 94))
(k0 ByteArray.empty false)
((gd ((decide (0 ≤ (w64 (v2 + 1)))))
((gd ((decide ((w64 (v2 + 1)) ≤ (v0.size : Int))))
((gd ((decide (0 ≤ v2)))
((gd ((decide (v2 ≤ (w64 (v2 + 1)))))
((gd ((decide (v1.size + ((v0.extract (Int.toNat v2) (Int.toNat (w64 (v2 + 1))))).size ≤ 9223372036854775807)))
(rec_ v0 ((v1 ++ (v0.extract (Int.toNat v2) (Int.toNat (w64 (v2 + 1)))))) ((w64 (v2 + 1))))))))))))))))))))))))))))
(k1 v0 v1)))
(k1 v0 v1))
theorem t_spec_DualFormula_l0b {β : Type} (N : Nat)  (v0 : ByteArray) (v1 : ByteArray) (v2 : Int) (rec_ : ByteArray → ByteArray → Int → Option β) (k0 : ByteArray → Bool → Option β) (k1 : ByteArray → ByteArray → Option β) : spec_DualFormula_l0b N v0 v1 v2 rec_ k0 k1 = BV_spec_DualFormula_l0b N (spec_IsFormula N) v0 v1 v2 rec_ k0 k1 := by
  unfold spec_DualFormula_l0b BV_spec_DualFormula_l0b
  rfl
theorem vst21_0_0 {β : Type} (N : Nat) (q_spec_IsFormula : (a0 : ByteArray) → (k : Bool → Option β) → Option β) (q_spec_DualFormula_l0 : Nat → ByteArray → ByteArray → Int → (ByteArray → Bool → Option β) → (ByteArray → ByteArray → Option β) → Option β)  (v0 : ByteArray) (v1 : ByteArray) (v2 : Int) (rec_ : St → Option β) (K : Exit → St → Option β) :
    ev lay (VE21 N q_spec_IsFormula q_spec_DualFormula_l0) (retMask Try.f21) (lp Try.f21 0).body (lp Try.f21 0).ex ((lp Try.f21 0).lv (retMask Try.f21)) (h21_0_0  v0 v1 v2) (nextR (fun s' => rec_ (s'.tidy ((lp Try.f21 0).lv (retMask Try.f21)))) K) = BV_spec_DualFormula_l0b N q_spec_IsFormula  v0 v1 v2 (fun v0 v1 v2 => rec_ (h21_0_0  v0 v1 v2)) (fun y0 y1 => K .ret (x21_0_0_k0  y0 y1)) (fun y0 y1 => K (.exit 0) (x21_0_0_k1  y0 y1)) := by kernel_rfl
theorem st21_0_0 {β : Type} (N : Nat)  (v0 : ByteArray) (v1 : ByteArray) (v2 : Int) (rec_ : St → Option β) (K : Exit → St → Option β) :
    ev lay (E21 N) (retMask Try.f21) (lp Try.f21 0).body (lp Try.f21 0).ex ((lp Try.f21 0).lv (retMask Try.f21)) (h21_0_0  v0 v1 v2) (nextR (fun s' => rec_ (s'.tidy ((lp Try.f21 0).lv (retMask Try.f21)))) K) = spec_DualFormula_l0b N  v0 v1 v2 (fun v0 v1 v2 => rec_ (h21_0_0  v0 v1 v2)) (fun y0 y1 => K .ret (x21_0_0_k0  y0 y1)) (fun y0 y1 => K (.exit 0) (x21_0_0_k1  y0 y1)) := (vst21_0_0 N (spec_IsFormula N) (spec_DualFormula_l0 N) v0 v1 v2 rec_ K).trans (t_spec_DualFormula_l0b N  v0 v1 v2 (fun v0 v1 v2 => rec_ (h21_0_0  v0 v1 v2)) (fun y0 y1 => K .ret (x21_0_0_k0  y0 y1)) (fun y0 y1 => K (.exit 0) (x21_0_0_k1  y0 y1))).symm
theorem ro21_0_0 {β : Type} (N : Nat)  (K : Exit → St → Option β) : ∀ (F : Nat) (v0 : ByteArray) (v1 : ByteArray) (v2 : Int), (lp Try.f21 0).rounds lay (E21 N) (retMask Try.f21) F (h21_0_0  v0 v1 v2) K = spec_DualFormula_l0 N  F v0 v1 v2 (fun y0 y1 => K .ret (x21_0_0_k0  y0 y1)) (fun y0 y1 => K (.exit 0) (x21_0_0_k1  y0 y1)) := by
  intro F
  induction F with
  | zero => intros; rfl
  | succ F ih =>
    intros
    rw [rounds_next]
    refine (st21_0_0 N  _ _ _ (fun s => (lp Try.f21 0).rounds lay (E21 N) (retMask Try.f21) F s K) K).trans ?_
    simp only [ih]
    rfl
theorem lk21_0 {β : Type} (N : Nat) : lookL (E21 (β := β) N).loops (lp Try.f21 0).id = LS21_0 N := by kernel_rfl
theorem rk21_0 {β : Type} (N : Nat) : RoundsOK lay (E21 (β := β) N) (retMask Try.f21) (lp Try.f21 0) := by
  intro s K r h
  rw [lk21_0] at h
  unfold LS21_0 VLS21_0 at h
  cases hb : shpSt (h21_0_0 ByteArray.empty ByteArray.empty 0) s with
  | true =>
    rw [hb, cond_true] at h
    exact ⟨N, by rw [← shpSt_ref hb, fl21_0_0 s]; exact (ro21_0_0 N  K N (strS (oneA (vT (nx tund s.tmps 0)))) (strS (oneA (vT (nx tund s.tmps 4)))) (intS (oneA (vT (nx tund s.tmps 5))))).trans h⟩
  | false =>
  rw [hb, cond_false] at h
  clear hb
  cases h
def BV_spec_DualFormula {β : Type} (N : Nat) (q_spec_DualFormula_l0 : Nat → ByteArray → ByteArray → Int → (ByteArray → Bool → Option β) → (ByteArray → ByteArray → Option β) → Option β) (q_spec_IsFormula : (a0 : ByteArray) → (k : Bool → Option β) → Option β) (a0 : ByteArray) (k : ByteArray → Bool → Option β) : Option β :=
q_spec_DualFormula_l0  N a0 ByteArray.empty 0 (fun e4_0 e4_1 =>
k e4_0 e4_1) (fun e5_0 e5_1 =>
q_spec_IsFormula e5_0 fun r6 =>
k e5_1 r6)
theorem t_spec_DualFormula {β : Type} (N : Nat) (a0 : ByteArray) (k : ByteArray → Bool → Option β) : spec_DualFormula N a0 k = BV_spec_DualFormula N (spec_DualFormula_l0 N) (spec_IsFormula N) a0 k := by
  unfold spec_DualFormula BV_spec_DualFormula
  rfl
theorem ve21_0 {β : Type} (N : Nat) (q_spec_IsFormula : (a0 : ByteArray) → (k : Bool → Option β) → Option β) (q_spec_DualFormula_l0 : Nat → ByteArray → ByteArray → Int → (ByteArray → Bool → Option β) → (ByteArray → ByteArray → Option β) → Option β)  (a0 : ByteArray) (K : TV → Option β) : evFn lay (VE21 N q_spec_IsFormula q_spec_DualFormula_l0) Try.f21 [.v (.one (.str a0))] K = BV_spec_DualFormula N q_spec_DualFormula_l0 q_spec_IsFormula a0 (fun z1 z2 => K (.tup [.one (.str z1), .one (.bool z2)])) := by kernel_rfl
theorem e21_0 {β : Type} (N : Nat)  (a0 : ByteArray) (K : TV → Option β) : evFn lay (E21 N) Try.f21 [.v (.one (.str a0))] K = spec_DualFormula N a0 (fun z1 z2 => K (.tup [.one (.str z1), .one (.bool z2)])) := (ve21_0 N (spec_IsFormula N) (spec_DualFormula_l0 N) a0 K).trans (t_spec_DualFormula N a0 (fun z1 z2 => K (.tup [.one (.str z1), .one (.bool z2)]))).symm
theorem o21 {β : Type} (N : Nat) : SpecOK (β := β) inv Try.prog 21 (S21 N) := by
  refine spec_of lay_ok mixed (E := E21 N) (specs_loops (specs_cons (o23 N) specs_nil)) muts_nil gs_nil Try.func21 (by kernel_rfl) 1 (by kernel_rfl) ⟨trivial, rk21_0 N⟩ fun args K r h => ?_
  unfold S21 VS21 at h
  split at h
  · exact (e21_0 N _ _).trans h
  · cases h
def VS22 {β : Type} (N : Nat) (q_spec_DrawIsReadOnce : (a0 : List Int) → (k : ByteArray → Option β) → Option β) : Rv.Spec β := fun args K => match args with
  | [.v (.one (.sl 5 (.ints .u8 a0)))] => q_spec_DrawIsReadOnce a0 (fun z1 => K (.v (.one (.str z1))))
  | _ => none
def S22 {β : Type} (N : Nat) : Rv.Spec β := VS22 N (spec_DrawIsReadOnce N)
def VE22 {β : Type} (N : Nat) (q_spec_l1New_g0 : (a0 : List Int) → (k0 : List Int → Int → Int → Option β) → Option β) (q_spec_l5Any_g0 : (a0 : List Int) → (a1 : Int) → (a2 : Int) → (k0 : ByteArray → List Int → Int → Int → Option β) → Option β) : Env β := ⟨[], [], [], [(28, VS28 N q_spec_l1New_g0), (29, VS29 N q_spec_l5Any_g0)], ⟨[], [], [], []⟩⟩
def E22 {β : Type} (N : Nat) : Env β := VE22 N (spec_l1New_g0 N) (spec_l5Any_g0 N)
def BV_spec_DrawIsReadOnce {β : Type} (N : Nat) (q_spec_l1New_g0 : (a0 : List Int) → (k0 : List Int → Int → Int → Option β) → Option β) (q_spec_l5Any_g0 : (a0 : List Int) → (a1 : Int) → (a2 : Int) → (k0 : ByteArray → List Int → Int → Int → Option β) → Option β) (a0 : List Int) (k : ByteArray → Option β) : Option β :=
q_spec_l1New_g0 a0 (fun r2_0 r2_1 r2_2 =>
q_spec_l5Any_g0 r2_0 r2_1 r2_2 (fun r3_0 r3_1 r3_2 r3_3 =>
k r3_0))
theorem t_spec_DrawIsReadOnce {β : Type} (N : Nat) (a0 : List Int) (k : ByteArray → Option β) : spec_DrawIsReadOnce N a0 k = BV_spec_DrawIsReadOnce N (spec_l1New_g0 N) (spec_l5Any_g0 N) a0 k := by
  unfold spec_DrawIsReadOnce BV_spec_DrawIsReadOnce
  rfl
theorem ve22_0 {β : Type} (N : Nat) (q_spec_l1New_g0 : (a0 : List Int) → (k0 : List Int → Int → Int → Option β) → Option β) (q_spec_l5Any_g0 : (a0 : List Int) → (a1 : Int) → (a2 : Int) → (k0 : ByteArray → List Int → Int → Int → Option β) → Option β)  (a0 : List Int) (K : TV → Option β) : evFn lay (VE22 N q_spec_l1New_g0 q_spec_l5Any_g0) Try.f22 [.v (.one (.sl 5 (.ints .u8 a0)))] K = BV_spec_DrawIsReadOnce N q_spec_l1New_g0 q_spec_l5Any_g0 a0 (fun z1 => K (.v (.one (.str z1)))) := by kernel_rfl
theorem e22_0 {β : Type} (N : Nat)  (a0 : List Int) (K : TV → Option β) : evFn lay (E22 N) Try.f22 [.v (.one (.sl 5 (.ints .u8 a0)))] K = spec_DrawIsReadOnce N a0 (fun z1 => K (.v (.one (.str z1)))) := (ve22_0 N (spec_l1New_g0 N) (spec_l5Any_g0 N) a0 K).trans (t_spec_DrawIsReadOnce N a0 (fun z1 => K (.v (.one (.str z1))))).symm
theorem o22 {β : Type} (N : Nat) : SpecOK (β := β) inv Try.prog 22 (S22 N) := by
  refine spec_of lay_ok mixed (E := E22 N) (specs_loops specs_nil) muts_nil (gs_cons (o28 N) (gs_cons (o29 N) gs_nil)) Try.func22 (by kernel_rfl) 0 (by kernel_rfl) trivial fun args K r h => ?_
  unfold S22 VS22 at h
  split at h
  · exact (e22_0 N _ _).trans h
  · cases h
def VS24 {β : Type} (N : Nat) (q_spec_LeavesOf : (a0 : ByteArray) → (k : Int → Option β) → Option β) : Rv.Spec β := fun args K => match args with
  | [.v (.one (.str a0))] => q_spec_LeavesOf a0 (fun z1 => K (.v (.one (.int .i64 z1))))
  | _ => none
def S24 {β : Type} (N : Nat) : Rv.Spec β := VS24 N (spec_LeavesOf N)
def h24_0_0  (v0 : ByteArray) (v1 : Int) (v2 : Int) : St := ⟨.v (.one (.str v0)) :: .v (.one .und) :: .v (.one .und) :: .v (.one (.int .i64 v1)) :: .v (.one (.int .i64 v2)) :: .v (.one .und) :: .v (.one .und) :: .v (.one .und) :: .v (.one .und) :: .v (.one .und) :: .v (.one .und) :: .v (.one .und) :: .v (.one .und) :: .v (.one .und) :: .v (.one .und) :: .v (.one .und) :: .v (.one .und) :: .v (.one .und) :: .v (.one .und) :: .v (.one .und) :: .v (.one .und) :: .v (.one .und) :: .v (.one .und) :: .v (.one .und) :: .v (.one .und) :: .v (.one .und) :: .v (.one .und) :: .v (.one .und) :: .v (.one .und) :: .v (.one .und) :: .v (.one .und) :: .v (.one .und) :: .v (.one .und) :: .v (.one .und) :: .v (.one .und) :: .v (.one .und) :: .v (.one .und) :: .v (.one .und) :: .v (.one .und) :: [], []⟩
def x24_0_0_k0  (y0 : Int) : St := ⟨.v (.one .und) :: .v (.one .und) :: .v (.one .und) :: .v (.one (.int .i64 y0)) :: .v (.one .und) :: .v (.one .und) :: .v (.one .und) :: .v (.one .und) :: .v (.one .und) :: .v (.one .und) :: .v (.one .und) :: .v (.one .und) :: .v (.one .und) :: .v (.one .und) :: .v (.one .und) :: .v (.one .und) :: .v (.one .und) :: .v (.one .und) :: .v (.one .und) :: .v (.one .und) :: .v (.one .und) :: .v (.one .und) :: .v (.one .und) :: .v (.one .und) :: .v (.one .und) :: .v (.one .und) :: .v (.one .und) :: .v (.one .und) :: .v (.one .und) :: .v (.one .und) :: .v (.one .und) :: .v (.one .und) :: .v (.one .und) :: .v (.one .und) :: .v (.one .und) :: .v (.one .und) :: .v (.one .und) :: .v (.one .und) :: .v (.one .und) :: [], []⟩
theorem fl24_0_0 (s : St) : refSt (h24_0_0 ByteArray.empty 0 0) s = h24_0_0 (strS (oneA (vT (nx tund s.tmps 0)))) (intS (oneA (vT (nx tund s.tmps 3)))) (intS (oneA (vT (nx tund s.tmps 4)))) := by kernel_rfl
def VLS24_0 {β : Type} (N : Nat) (q_spec_LeavesOf_l0 : Nat → ByteArray → Int → Int → (Int → Option β) → Option β) : LSpec β := fun s K => cond (shpSt (h24_0_0 ByteArray.empty 0 0) s) ((fun (v0 : ByteArray) (v1 : Int) (v2 : Int) => q_spec_LeavesOf_l0  N v0 v1 v2 (fun y0 => K (.exit 0) (x24_0_0_k0  y0))) (strS (oneA (vT (nx tund s.tmps 0)))) (intS (oneA (vT (nx tund s.tmps 3)))) (intS (oneA (vT (nx tund s.tmps 4))))) (none)
def LS24_0 {β : Type} (N : Nat) : LSpec β := VLS24_0 N (spec_LeavesOf_l0 N)
def VE24 {β : Type} (N : Nat) (q_spec_IsFormula : (a0 : ByteArray) → (k : Bool → Option β) → Option β) (q_spec_LeavesOf_l0 : Nat → ByteArray → Int → Int → (Int → Option β) → Option β) : Env β := ⟨[(23, VS23 N q_spec_IsFormula)], [], [(0, VLS24_0 N q_spec_LeavesOf_l0)], [], ⟨[], [], [], []⟩⟩
def E24 {β : Type} (N : Nat) : Env β := VE24 N (spec_IsFormula N) (spec_LeavesOf_l0 N)
def BV_spec_LeavesOf_l0b {β : Type} (N : Nat)  (v0 : ByteArray) (v1 : Int) (v2 : Int) (rec_ : ByteArray → Int → Int → Option β) (k0 : Int → Option β) : Option β :=
(cond ((decide (v2 < (v0.size : Int))))
((gd ((decide (0 ≤ v2)))
((gd ((decide (v2 < (v0.size : Int))))
((cond (((bt v0 v2) != 33))
((gd ((decide (0 ≤ v2)))
((gd ((decide (v2 < (v0.size : Int))))
((cond (((bt v0 v2) != 38))
((gd ((decide (0 ≤ v2)))
((gd ((decide (v2 < (v0.size : Int))))
((cond (((bt v0 v2) != 124))
((gd ((decide (0 ≤ v2)))
((gd ((decide (v2 < (v0.size : Int))))
((cond (((bt v0 v2) != 94))
(rec_ v0 ((w64 (v1 + 1))) ((w64 (v2 + 1))))
(rec_ v0 v1 ((w64 (v2 + 1))))))))))
(rec_ v0 v1 ((w64 (v2 + 1))))))))))
(rec_ v0 v1 ((w64 (v2 + 1))))))))))
(rec_ v0 v1 ((w64 (v2 + 1))))))))))
(k0 v1))
theorem t_spec_LeavesOf_l0b {β : Type} (N : Nat)  (v0 : ByteArray) (v1 : Int) (v2 : Int) (rec_ : ByteArray → Int → Int → Option β) (k0 : Int → Option β) : spec_LeavesOf_l0b N v0 v1 v2 rec_ k0 = BV_spec_LeavesOf_l0b N v0 v1 v2 rec_ k0 := by
  unfold spec_LeavesOf_l0b BV_spec_LeavesOf_l0b
  rfl
theorem vst24_0_0 {β : Type} (N : Nat) (q_spec_IsFormula : (a0 : ByteArray) → (k : Bool → Option β) → Option β) (q_spec_LeavesOf_l0 : Nat → ByteArray → Int → Int → (Int → Option β) → Option β)  (v0 : ByteArray) (v1 : Int) (v2 : Int) (rec_ : St → Option β) (K : Exit → St → Option β) :
    ev lay (VE24 N q_spec_IsFormula q_spec_LeavesOf_l0) (retMask Try.f24) (lp Try.f24 0).body (lp Try.f24 0).ex ((lp Try.f24 0).lv (retMask Try.f24)) (h24_0_0  v0 v1 v2) (nextR (fun s' => rec_ (s'.tidy ((lp Try.f24 0).lv (retMask Try.f24)))) K) = BV_spec_LeavesOf_l0b N  v0 v1 v2 (fun v0 v1 v2 => rec_ (h24_0_0  v0 v1 v2)) (fun y0 => K (.exit 0) (x24_0_0_k0  y0)) := by kernel_rfl
theorem st24_0_0 {β : Type} (N : Nat)  (v0 : ByteArray) (v1 : Int) (v2 : Int) (rec_ : St → Option β) (K : Exit → St → Option β) :
    ev lay (E24 N) (retMask Try.f24) (lp Try.f24 0).body (lp Try.f24 0).ex ((lp Try.f24 0).lv (retMask Try.f24)) (h24_0_0  v0 v1 v2) (nextR (fun s' => rec_ (s'.tidy ((lp Try.f24 0).lv (retMask Try.f24)))) K) = spec_LeavesOf_l0b N  v0 v1 v2 (fun v0 v1 v2 => rec_ (h24_0_0  v0 v1 v2)) (fun y0 => K (.exit 0) (x24_0_0_k0  y0)) := (vst24_0_0 N (spec_IsFormula N) (spec_LeavesOf_l0 N) v0 v1 v2 rec_ K).trans (t_spec_LeavesOf_l0b N  v0 v1 v2 (fun v0 v1 v2 => rec_ (h24_0_0  v0 v1 v2)) (fun y0 => K (.exit 0) (x24_0_0_k0  y0))).symm
theorem ro24_0_0 {β : Type} (N : Nat)  (K : Exit → St → Option β) : ∀ (F : Nat) (v0 : ByteArray) (v1 : Int) (v2 : Int), (lp Try.f24 0).rounds lay (E24 N) (retMask Try.f24) F (h24_0_0  v0 v1 v2) K = spec_LeavesOf_l0 N  F v0 v1 v2 (fun y0 => K (.exit 0) (x24_0_0_k0  y0)) := by
  intro F
  induction F with
  | zero => intros; rfl
  | succ F ih =>
    intros
    rw [rounds_next]
    refine (st24_0_0 N  _ _ _ (fun s => (lp Try.f24 0).rounds lay (E24 N) (retMask Try.f24) F s K) K).trans ?_
    simp only [ih]
    rfl
theorem lk24_0 {β : Type} (N : Nat) : lookL (E24 (β := β) N).loops (lp Try.f24 0).id = LS24_0 N := by kernel_rfl
theorem rk24_0 {β : Type} (N : Nat) : RoundsOK lay (E24 (β := β) N) (retMask Try.f24) (lp Try.f24 0) := by
  intro s K r h
  rw [lk24_0] at h
  unfold LS24_0 VLS24_0 at h
  cases hb : shpSt (h24_0_0 ByteArray.empty 0 0) s with
  | true =>
    rw [hb, cond_true] at h
    exact ⟨N, by rw [← shpSt_ref hb, fl24_0_0 s]; exact (ro24_0_0 N  K N (strS (oneA (vT (nx tund s.tmps 0)))) (intS (oneA (vT (nx tund s.tmps 3)))) (intS (oneA (vT (nx tund s.tmps 4))))).trans h⟩
  | false =>
  rw [hb, cond_false] at h
  clear hb
  cases h
def BV_spec_LeavesOf {β : Type} (N : Nat) (q_spec_IsFormula : (a0 : ByteArray) → (k : Bool → Option β) → Option β) (q_spec_LeavesOf_l0 : Nat → ByteArray → Int → Int → (Int → Option β) → Option β) (a0 : ByteArray) (k : Int → Option β) : Option β :=
q_spec_IsFormula a0 fun r2 =>
(cond (!r2)
(k (-1))
(q_spec_LeavesOf_l0  N a0 0 0 (fun e3_0 =>
k e3_0)))
theorem t_spec_LeavesOf {β : Type} (N : Nat) (a0 : ByteArray) (k : Int → Option β) : spec_LeavesOf N a0 k = BV_spec_LeavesOf N (spec_IsFormula N) (spec_LeavesOf_l0 N) a0 k := by
  unfold spec_LeavesOf BV_spec_LeavesOf
  rfl
theorem ve24_0 {β : Type} (N : Nat) (q_spec_IsFormula : (a0 : ByteArray) → (k : Bool → Option β) → Option β) (q_spec_LeavesOf_l0 : Nat → ByteArray → Int → Int → (Int → Option β) → Option β)  (a0 : ByteArray) (K : TV → Option β) : evFn lay (VE24 N q_spec_IsFormula q_spec_LeavesOf_l0) Try.f24 [.v (.one (.str a0))] K = BV_spec_LeavesOf N q_spec_IsFormula q_spec_LeavesOf_l0 a0 (fun z1 => K (.v (.one (.int .i64 z1)))) := by kernel_rfl
theorem e24_0 {β : Type} (N : Nat)  (a0 : ByteArray) (K : TV → Option β) : evFn lay (E24 N) Try.f24 [.v (.one (.str a0))] K = spec_LeavesOf N a0 (fun z1 => K (.v (.one (.int .i64 z1)))) := (ve24_0 N (spec_IsFormula N) (spec_LeavesOf_l0 N) a0 K).trans (t_spec_LeavesOf N a0 (fun z1 => K (.v (.one (.int .i64 z1))))).symm
theorem o24 {β : Type} (N : Nat) : SpecOK (β := β) inv Try.prog 24 (S24 N) := by
  refine spec_of lay_ok mixed (E := E24 N) (specs_loops (specs_cons (o23 N) specs_nil)) muts_nil gs_nil Try.func24 (by kernel_rfl) 1 (by kernel_rfl) ⟨trivial, rk24_0 N⟩ fun args K r h => ?_
  unfold S24 VS24 at h
  split at h
  · exact (e24_0 N _ _).trans h
  · cases h
def VSF52 {β : Type} (N : Nat) (q_spec_l5Depth_f : Nat → ByteArray → Int → (Int → Option β) → Option β) (G : Nat) : Rv.Spec β := fun args K => match args with
  | [.v (.one (.str a0)), .v (.one (.int .i64 a1))] => q_spec_l5Depth_f G a0 a1 (fun z2 => K (.v (.one (.int .i64 z2))))
  | _ => none
def SF52 {β : Type} (N : Nat) (G : Nat) : Rv.Spec β := VSF52 N (spec_l5Depth_f N) G
def VS52 {β : Type} (N : Nat) (q_spec_l5Depth_f : Nat → ByteArray → Int → (Int → Option β) → Option β) : Rv.Spec β := VSF52 N q_spec_l5Depth_f N
def S52 {β : Type} (N : Nat) : Rv.Spec β := SF52 N N
def VE52 {β : Type} (N : Nat) (q_spec_l5End_f : Nat → ByteArray → Int → (Int → Option β) → Option β) (q_spec_l5Depth_f : Nat → ByteArray → Int → (Int → Option β) → Option β) (G : Nat) : Env β := ⟨[(51, VS51 N q_spec_l5End_f), (52, VSF52 N q_spec_l5Depth_f G)], [], [], [], ⟨[], [], [], []⟩⟩
def E52 {β : Type} (N : Nat) (G : Nat) : Env β := VE52 N (spec_l5End_f N) (spec_l5Depth_f N) G
def BV_spec_l5Depth_b {β : Type} (N : Nat) (q_spec_l5End_f : Nat → ByteArray → Int → (Int → Option β) → Option β) (self : ByteArray → Int → (Int → Option β) → Option β) (a0 : ByteArray) (a1 : Int) (k : Int → Option β) : Option β :=
(gd ((decide (0 ≤ a1)))
((gd ((decide (a1 < (a0.size : Int))))
((cond (((bt a0 a1) == 33))
(self a0 ((w64 (a1 + 1))) fun r3 =>
k r3)
((cond (((bt a0 a1) == 38))
((cond (((bt a0 a1) == 38))
(self a0 ((w64 (a1 + 1))) fun r4 =>
q_spec_l5End_f N a0 ((w64 (a1 + 1))) fun r5 =>
self a0 r5 fun r6 =>
k ((w64 (1 + (mxI r4 r6)))))
(k 0)))
((cond (((bt a0 a1) == 124))
((cond (((bt a0 a1) == 124))
(self a0 ((w64 (a1 + 1))) fun r7 =>
q_spec_l5End_f N a0 ((w64 (a1 + 1))) fun r8 =>
self a0 r8 fun r9 =>
k ((w64 (1 + (mxI r7 r9)))))
(k 0)))
((cond (((bt a0 a1) == 94))
(self a0 ((w64 (a1 + 1))) fun r10 =>
q_spec_l5End_f N a0 ((w64 (a1 + 1))) fun r11 =>
self a0 r11 fun r12 =>
k ((w64 (1 + (mxI r10 r12)))))
(k 0))))))))))))
theorem t_spec_l5Depth_b {β : Type} (N : Nat) (self : ByteArray → Int → (Int → Option β) → Option β) (a0 : ByteArray) (a1 : Int) (k : Int → Option β) : spec_l5Depth_b N self a0 a1 k = BV_spec_l5Depth_b N (spec_l5End_f N) self a0 a1 k := by
  unfold spec_l5Depth_b BV_spec_l5Depth_b
  rfl
theorem ve52_0 {β : Type} (N : Nat) (q_spec_l5End_f : Nat → ByteArray → Int → (Int → Option β) → Option β) (q_spec_l5Depth_f : Nat → ByteArray → Int → (Int → Option β) → Option β) (G : Nat)  (a0 : ByteArray) (a1 : Int) (K : TV → Option β) : evFn lay (VE52 N q_spec_l5End_f q_spec_l5Depth_f G) Try.f52 [.v (.one (.str a0)), .v (.one (.int .i64 a1))] K = BV_spec_l5Depth_b N q_spec_l5End_f (q_spec_l5Depth_f G) a0 a1 (fun z2 => K (.v (.one (.int .i64 z2)))) := by kernel_rfl
theorem e52_0 {β : Type} (N : Nat) (G : Nat)  (a0 : ByteArray) (a1 : Int) (K : TV → Option β) : evFn lay (E52 N G) Try.f52 [.v (.one (.str a0)), .v (.one (.int .i64 a1))] K = spec_l5Depth_f N (G + 1) a0 a1 (fun z2 => K (.v (.one (.int .i64 z2)))) := (ve52_0 N (spec_l5End_f N) (spec_l5Depth_f N) G a0 a1 K).trans (t_spec_l5Depth_b N (spec_l5Depth_f N G) a0 a1 (fun z2 => K (.v (.one (.int .i64 z2))))).symm
theorem z52 {β : Type} (N : Nat) : ∀ args K r, SF52 (β := β) N 0 args K = some r → (none : Option β) = some r := by
  intro args K r h
  unfold SF52 VSF52 at h
  split at h <;> exact h
theorem of52 {β : Type} (N : Nat) : ∀ G, SpecOK (β := β) inv Try.prog 52 (SF52 N G) := by
  intro G
  induction G with
  | zero => exact s_zero Try.func52 (by kernel_rfl) (z52 N)
  | succ G ih =>
    refine spec_of lay_ok mixed (E := E52 N G) (specs_loops (specs_cons (o51 N) (specs_cons ih specs_nil))) muts_nil gs_nil Try.func52 (by kernel_rfl) 0 (by kernel_rfl) trivial fun args K r h => ?_
    unfold SF52 VSF52 at h
    split at h
    · exact (e52_0 N G _ _ _).trans h
    · cases h
theorem o52 {β : Type} (N : Nat) : SpecOK (β := β) inv Try.prog 52 (S52 N) := of52 N N
def VS25 {β : Type} (N : Nat) (q_spec_DepthOf : (a0 : ByteArray) → (k : Int → Option β) → Option β) : Rv.Spec β := fun args K => match args with
  | [.v (.one (.str a0))] => q_spec_DepthOf a0 (fun z1 => K (.v (.one (.int .i64 z1))))
  | _ => none
def S25 {β : Type} (N : Nat) : Rv.Spec β := VS25 N (spec_DepthOf N)
def VE25 {β : Type} (N : Nat) (q_spec_IsFormula : (a0 : ByteArray) → (k : Bool → Option β) → Option β) (q_spec_l5Depth_f : Nat → ByteArray → Int → (Int → Option β) → Option β) : Env β := ⟨[(23, VS23 N q_spec_IsFormula), (52, VS52 N q_spec_l5Depth_f)], [], [], [], ⟨[], [], [], []⟩⟩
def E25 {β : Type} (N : Nat) : Env β := VE25 N (spec_IsFormula N) (spec_l5Depth_f N)
def BV_spec_DepthOf {β : Type} (N : Nat) (q_spec_IsFormula : (a0 : ByteArray) → (k : Bool → Option β) → Option β) (q_spec_l5Depth_f : Nat → ByteArray → Int → (Int → Option β) → Option β) (a0 : ByteArray) (k : Int → Option β) : Option β :=
q_spec_IsFormula a0 fun r2 =>
(cond (!r2)
(k (-1))
(q_spec_l5Depth_f N a0 0 fun r3 =>
k r3))
theorem t_spec_DepthOf {β : Type} (N : Nat) (a0 : ByteArray) (k : Int → Option β) : spec_DepthOf N a0 k = BV_spec_DepthOf N (spec_IsFormula N) (spec_l5Depth_f N) a0 k := by
  unfold spec_DepthOf BV_spec_DepthOf
  rfl
theorem ve25_0 {β : Type} (N : Nat) (q_spec_IsFormula : (a0 : ByteArray) → (k : Bool → Option β) → Option β) (q_spec_l5Depth_f : Nat → ByteArray → Int → (Int → Option β) → Option β)  (a0 : ByteArray) (K : TV → Option β) : evFn lay (VE25 N q_spec_IsFormula q_spec_l5Depth_f) Try.f25 [.v (.one (.str a0))] K = BV_spec_DepthOf N q_spec_IsFormula q_spec_l5Depth_f a0 (fun z1 => K (.v (.one (.int .i64 z1)))) := by kernel_rfl
theorem e25_0 {β : Type} (N : Nat)  (a0 : ByteArray) (K : TV → Option β) : evFn lay (E25 N) Try.f25 [.v (.one (.str a0))] K = spec_DepthOf N a0 (fun z1 => K (.v (.one (.int .i64 z1)))) := (ve25_0 N (spec_IsFormula N) (spec_l5Depth_f N) a0 K).trans (t_spec_DepthOf N a0 (fun z1 => K (.v (.one (.int .i64 z1))))).symm
theorem o25 {β : Type} (N : Nat) : SpecOK (β := β) inv Try.prog 25 (S25 N) := by
  refine spec_of lay_ok mixed (E := E25 N) (specs_loops (specs_cons (o23 N) (specs_cons (o52 N) specs_nil))) muts_nil gs_nil Try.func25 (by kernel_rfl) 0 (by kernel_rfl) trivial fun args K r h => ?_
  unfold S25 VS25 at h
  split at h
  · exact (e25_0 N _ _).trans h
  · cases h
def VS26 {β : Type} (N : Nat) (q_spec_IsReadOnce : (a0 : ByteArray) → (k : Bool → Option β) → Option β) : Rv.Spec β := fun args K => match args with
  | [.v (.one (.str a0))] => q_spec_IsReadOnce a0 (fun z1 => K (.v (.one (.bool z1))))
  | _ => none
def S26 {β : Type} (N : Nat) : Rv.Spec β := VS26 N (spec_IsReadOnce N)
def h26_0_0  (v0 : ByteArray) (v1 : Int) : St := ⟨.v (.one (.str v0)) :: .v (.one .und) :: .v (.one .und) :: .v (.one (.int .i64 v1)) :: .v (.one .und) :: .v (.one .und) :: .v (.one .und) :: .v (.one .und) :: .v (.one .und) :: .v (.one .und) :: .v (.one .und) :: .v (.one .und) :: .v (.one .und) :: .v (.one .und) :: .v (.one .und) :: .v (.one .und) :: .v (.one .und) :: .v (.one .und) :: .v (.one .und) :: .v (.one .und) :: .v (.one .und) :: .v (.one .und) :: .v (.one .und) :: .v (.one .und) :: .v (.one .und) :: .v (.one .und) :: .v (.one .und) :: .v (.one .und) :: .v (.one .und) :: .v (.one .und) :: .v (.one .und) :: .v (.one .und) :: .v (.one .und) :: .v (.one .und) :: .v (.one .und) :: .v (.one .und) :: .v (.one .und) :: [], []⟩
def x26_0_0_k0  (y0 : Bool) : St := ⟨.v (.one .und) :: .v (.one .und) :: .v (.one (.bool y0)) :: .v (.one .und) :: .v (.one .und) :: .v (.one .und) :: .v (.one .und) :: .v (.one .und) :: .v (.one .und) :: .v (.one .und) :: .v (.one .und) :: .v (.one .und) :: .v (.one .und) :: .v (.one .und) :: .v (.one .und) :: .v (.one .und) :: .v (.one .und) :: .v (.one .und) :: .v (.one .und) :: .v (.one .und) :: .v (.one .und) :: .v (.one .und) :: .v (.one .und) :: .v (.one .und) :: .v (.one .und) :: .v (.one .und) :: .v (.one .und) :: .v (.one .und) :: .v (.one .und) :: .v (.one .und) :: .v (.one .und) :: .v (.one .und) :: .v (.one .und) :: .v (.one .und) :: .v (.one .und) :: .v (.one .und) :: .v (.one .und) :: [], []⟩
def x26_0_0_k1  (y0 : ByteArray) : St := ⟨.v (.one (.str y0)) :: .v (.one .und) :: .v (.one .und) :: .v (.one .und) :: .v (.one .und) :: .v (.one .und) :: .v (.one .und) :: .v (.one .und) :: .v (.one .und) :: .v (.one .und) :: .v (.one .und) :: .v (.one .und) :: .v (.one .und) :: .v (.one .und) :: .v (.one .und) :: .v (.one .und) :: .v (.one .und) :: .v (.one .und) :: .v (.one .und) :: .v (.one .und) :: .v (.one .und) :: .v (.one .und) :: .v (.one .und) :: .v (.one .und) :: .v (.one .und) :: .v (.one .und) :: .v (.one .und) :: .v (.one .und) :: .v (.one .und) :: .v (.one .und) :: .v (.one .und) :: .v (.one .und) :: .v (.one .und) :: .v (.one .und) :: .v (.one .und) :: .v (.one .und) :: .v (.one .und) :: [], []⟩
def h26_1_0  (v0 : ByteArray) (v1 : Int) (v2 : Int) : St := ⟨.v (.one (.str v0)) :: .v (.one .und) :: .v (.one .und) :: .v (.one (.int .i64 v1)) :: .v (.one (.int .i64 v2)) :: .v (.one .und) :: .v (.one .und) :: .v (.one .und) :: .v (.one .und) :: .v (.one .und) :: .v (.one .und) :: .v (.one .und) :: .v (.one .und) :: .v (.one .und) :: .v (.one .und) :: .v (.one .und) :: .v (.one .und) :: .v (.one .und) :: .v (.one .und) :: .v (.one .und) :: .v (.one .und) :: .v (.one .und) :: .v (.one .und) :: .v (.one .und) :: .v (.one .und) :: .v (.one .und) :: .v (.one .und) :: .v (.one .und) :: .v (.one .und) :: .v (.one .und) :: .v (.one .und) :: .v (.one .und) :: .v (.one .und) :: .v (.one .und) :: .v (.one .und) :: .v (.one .und) :: .v (.one .und) :: [], []⟩
def x26_1_0_k0  (y0 : Bool) : St := ⟨.v (.one .und) :: .v (.one .und) :: .v (.one (.bool y0)) :: .v (.one .und) :: .v (.one .und) :: .v (.one .und) :: .v (.one .und) :: .v (.one .und) :: .v (.one .und) :: .v (.one .und) :: .v (.one .und) :: .v (.one .und) :: .v (.one .und) :: .v (.one .und) :: .v (.one .und) :: .v (.one .und) :: .v (.one .und) :: .v (.one .und) :: .v (.one .und) :: .v (.one .und) :: .v (.one .und) :: .v (.one .und) :: .v (.one .und) :: .v (.one .und) :: .v (.one .und) :: .v (.one .und) :: .v (.one .und) :: .v (.one .und) :: .v (.one .und) :: .v (.one .und) :: .v (.one .und) :: .v (.one .und) :: .v (.one .und) :: .v (.one .und) :: .v (.one .und) :: .v (.one .und) :: .v (.one .und) :: [], []⟩
def x26_1_0_k1  (y0 : ByteArray) (y1 : Int) : St := ⟨.v (.one (.str y0)) :: .v (.one .und) :: .v (.one .und) :: .v (.one (.int .i64 y1)) :: .v (.one .und) :: .v (.one .und) :: .v (.one .und) :: .v (.one .und) :: .v (.one .und) :: .v (.one .und) :: .v (.one .und) :: .v (.one .und) :: .v (.one .und) :: .v (.one .und) :: .v (.one .und) :: .v (.one .und) :: .v (.one .und) :: .v (.one .und) :: .v (.one .und) :: .v (.one .und) :: .v (.one .und) :: .v (.one .und) :: .v (.one .und) :: .v (.one .und) :: .v (.one .und) :: .v (.one .und) :: .v (.one .und) :: .v (.one .und) :: .v (.one .und) :: .v (.one .und) :: .v (.one .und) :: .v (.one .und) :: .v (.one .und) :: .v (.one .und) :: .v (.one .und) :: .v (.one .und) :: .v (.one .und) :: [], []⟩
theorem fl26_0_0 (s : St) : refSt (h26_0_0 ByteArray.empty 0) s = h26_0_0 (strS (oneA (vT (nx tund s.tmps 0)))) (intS (oneA (vT (nx tund s.tmps 3)))) := by kernel_rfl
def VLS26_0 {β : Type} (N : Nat) (q_spec_IsReadOnce_l0 : Nat → ByteArray → Int → (Bool → Option β) → (ByteArray → Option β) → Option β) : LSpec β := fun s K => cond (shpSt (h26_0_0 ByteArray.empty 0) s) ((fun (v0 : ByteArray) (v1 : Int) => q_spec_IsReadOnce_l0  N v0 v1 (fun y0 => K .ret (x26_0_0_k0  y0)) (fun y0 => K (.exit 0) (x26_0_0_k1  y0))) (strS (oneA (vT (nx tund s.tmps 0)))) (intS (oneA (vT (nx tund s.tmps 3))))) (none)
def LS26_0 {β : Type} (N : Nat) : LSpec β := VLS26_0 N (spec_IsReadOnce_l0 N)
theorem fl26_1_0 (s : St) : refSt (h26_1_0 ByteArray.empty 0 0) s = h26_1_0 (strS (oneA (vT (nx tund s.tmps 0)))) (intS (oneA (vT (nx tund s.tmps 3)))) (intS (oneA (vT (nx tund s.tmps 4)))) := by kernel_rfl
def VLS26_2 {β : Type} (N : Nat) (q_spec_IsReadOnce_l2 : Nat → ByteArray → Int → Int → (Bool → Option β) → (ByteArray → Int → Option β) → Option β) : LSpec β := fun s K => cond (shpSt (h26_1_0 ByteArray.empty 0 0) s) ((fun (v0 : ByteArray) (v1 : Int) (v2 : Int) => q_spec_IsReadOnce_l2  N v0 v1 v2 (fun y0 => K .ret (x26_1_0_k0  y0)) (fun y0 y1 => K (.exit 2) (x26_1_0_k1  y0 y1))) (strS (oneA (vT (nx tund s.tmps 0)))) (intS (oneA (vT (nx tund s.tmps 3)))) (intS (oneA (vT (nx tund s.tmps 4))))) (none)
def LS26_2 {β : Type} (N : Nat) : LSpec β := VLS26_2 N (spec_IsReadOnce_l2 N)
def VE26 {β : Type} (N : Nat) (q_spec_IsFormula : (a0 : ByteArray) → (k : Bool → Option β) → Option β) (q_spec_IsReadOnce_l0 : Nat → ByteArray → Int → (Bool → Option β) → (ByteArray → Option β) → Option β) (q_spec_IsReadOnce_l2 : Nat → ByteArray → Int → Int → (Bool → Option β) → (ByteArray → Int → Option β) → Option β) : Env β := ⟨[(23, VS23 N q_spec_IsFormula)], [], [(0, VLS26_0 N q_spec_IsReadOnce_l0), (2, VLS26_2 N q_spec_IsReadOnce_l2)], [], ⟨[], [], [], []⟩⟩
def E26 {β : Type} (N : Nat) : Env β := VE26 N (spec_IsFormula N) (spec_IsReadOnce_l0 N) (spec_IsReadOnce_l2 N)
def BV_spec_IsReadOnce_l0b {β : Type} (N : Nat) (q_spec_IsReadOnce_l2 : Nat → ByteArray → Int → Int → (Bool → Option β) → (ByteArray → Int → Option β) → Option β)  (v0 : ByteArray) (v1 : Int) (rec_ : ByteArray → Int → Option β) (k0 : Bool → Option β) (k1 : ByteArray → Option β) : Option β :=
(cond ((decide (v1 < (v0.size : Int))))
(q_spec_IsReadOnce_l2  N v0 v1 0 (fun e2_0 =>
k0 e2_0) (fun e3_0 e3_1 =>
rec_ e3_0 ((w64 (e3_1 + 1)))))
(k1 v0))
theorem t_spec_IsReadOnce_l0b {β : Type} (N : Nat)  (v0 : ByteArray) (v1 : Int) (rec_ : ByteArray → Int → Option β) (k0 : Bool → Option β) (k1 : ByteArray → Option β) : spec_IsReadOnce_l0b N v0 v1 rec_ k0 k1 = BV_spec_IsReadOnce_l0b N (spec_IsReadOnce_l2 N) v0 v1 rec_ k0 k1 := by
  unfold spec_IsReadOnce_l0b BV_spec_IsReadOnce_l0b
  rfl
theorem vst26_0_0 {β : Type} (N : Nat) (q_spec_IsFormula : (a0 : ByteArray) → (k : Bool → Option β) → Option β) (q_spec_IsReadOnce_l0 : Nat → ByteArray → Int → (Bool → Option β) → (ByteArray → Option β) → Option β) (q_spec_IsReadOnce_l2 : Nat → ByteArray → Int → Int → (Bool → Option β) → (ByteArray → Int → Option β) → Option β)  (v0 : ByteArray) (v1 : Int) (rec_ : St → Option β) (K : Exit → St → Option β) :
    ev lay (VE26 N q_spec_IsFormula q_spec_IsReadOnce_l0 q_spec_IsReadOnce_l2) (retMask Try.f26) (lp Try.f26 0).body (lp Try.f26 0).ex ((lp Try.f26 0).lv (retMask Try.f26)) (h26_0_0  v0 v1) (nextR (fun s' => rec_ (s'.tidy ((lp Try.f26 0).lv (retMask Try.f26)))) K) = BV_spec_IsReadOnce_l0b N q_spec_IsReadOnce_l2  v0 v1 (fun v0 v1 => rec_ (h26_0_0  v0 v1)) (fun y0 => K .ret (x26_0_0_k0  y0)) (fun y0 => K (.exit 0) (x26_0_0_k1  y0)) := by kernel_rfl
theorem st26_0_0 {β : Type} (N : Nat)  (v0 : ByteArray) (v1 : Int) (rec_ : St → Option β) (K : Exit → St → Option β) :
    ev lay (E26 N) (retMask Try.f26) (lp Try.f26 0).body (lp Try.f26 0).ex ((lp Try.f26 0).lv (retMask Try.f26)) (h26_0_0  v0 v1) (nextR (fun s' => rec_ (s'.tidy ((lp Try.f26 0).lv (retMask Try.f26)))) K) = spec_IsReadOnce_l0b N  v0 v1 (fun v0 v1 => rec_ (h26_0_0  v0 v1)) (fun y0 => K .ret (x26_0_0_k0  y0)) (fun y0 => K (.exit 0) (x26_0_0_k1  y0)) := (vst26_0_0 N (spec_IsFormula N) (spec_IsReadOnce_l0 N) (spec_IsReadOnce_l2 N) v0 v1 rec_ K).trans (t_spec_IsReadOnce_l0b N  v0 v1 (fun v0 v1 => rec_ (h26_0_0  v0 v1)) (fun y0 => K .ret (x26_0_0_k0  y0)) (fun y0 => K (.exit 0) (x26_0_0_k1  y0))).symm
theorem ro26_0_0 {β : Type} (N : Nat)  (K : Exit → St → Option β) : ∀ (F : Nat) (v0 : ByteArray) (v1 : Int), (lp Try.f26 0).rounds lay (E26 N) (retMask Try.f26) F (h26_0_0  v0 v1) K = spec_IsReadOnce_l0 N  F v0 v1 (fun y0 => K .ret (x26_0_0_k0  y0)) (fun y0 => K (.exit 0) (x26_0_0_k1  y0)) := by
  intro F
  induction F with
  | zero => intros; rfl
  | succ F ih =>
    intros
    rw [rounds_next]
    refine (st26_0_0 N  _ _ (fun s => (lp Try.f26 0).rounds lay (E26 N) (retMask Try.f26) F s K) K).trans ?_
    simp only [ih]
    rfl
theorem lk26_0 {β : Type} (N : Nat) : lookL (E26 (β := β) N).loops (lp Try.f26 0).id = LS26_0 N := by kernel_rfl
theorem rk26_0 {β : Type} (N : Nat) : RoundsOK lay (E26 (β := β) N) (retMask Try.f26) (lp Try.f26 0) := by
  intro s K r h
  rw [lk26_0] at h
  unfold LS26_0 VLS26_0 at h
  cases hb : shpSt (h26_0_0 ByteArray.empty 0) s with
  | true =>
    rw [hb, cond_true] at h
    exact ⟨N, by rw [← shpSt_ref hb, fl26_0_0 s]; exact (ro26_0_0 N  K N (strS (oneA (vT (nx tund s.tmps 0)))) (intS (oneA (vT (nx tund s.tmps 3))))).trans h⟩
  | false =>
  rw [hb, cond_false] at h
  clear hb
  cases h
def BV_spec_IsReadOnce_l2b {β : Type} (N : Nat)  (v0 : ByteArray) (v1 : Int) (v2 : Int) (rec_ : ByteArray → Int → Int → Option β) (k0 : Bool → Option β) (k1 : ByteArray → Int → Option β) : Option β :=
(cond ((decide (v2 < v1)))
((gd ((decide (0 ≤ v1)))
((gd ((decide (v1 < (v0.size : Int))))
((gd ((decide (0 ≤ v2)))
((gd ((decide (v2 < (v0.size : Int))))
((cond (((bt v0 v1) == (bt v0 v2)))
((gd ((decide (0 ≤ v1)))
((gd ((decide (v1 < (v0.size : Int))))
((cond ((decide ((bt v0 v1) ≥ 97)))
((gd ((decide (0 ≤ v1)))
((gd ((decide (v1 < (v0.size : Int))))
((cond ((decide ((bt v0 v1) ≤ 101)))
(k0 false)
(rec_ v0 v1 ((w64 (v2 + 1))))))))))
(rec_ v0 v1 ((w64 (v2 + 1))))))))))
(rec_ v0 v1 ((w64 (v2 + 1))))))))))))))
(k1 v0 v1))
theorem t_spec_IsReadOnce_l2b {β : Type} (N : Nat)  (v0 : ByteArray) (v1 : Int) (v2 : Int) (rec_ : ByteArray → Int → Int → Option β) (k0 : Bool → Option β) (k1 : ByteArray → Int → Option β) : spec_IsReadOnce_l2b N v0 v1 v2 rec_ k0 k1 = BV_spec_IsReadOnce_l2b N v0 v1 v2 rec_ k0 k1 := by
  unfold spec_IsReadOnce_l2b BV_spec_IsReadOnce_l2b
  rfl
theorem vst26_1_0 {β : Type} (N : Nat) (q_spec_IsFormula : (a0 : ByteArray) → (k : Bool → Option β) → Option β) (q_spec_IsReadOnce_l0 : Nat → ByteArray → Int → (Bool → Option β) → (ByteArray → Option β) → Option β) (q_spec_IsReadOnce_l2 : Nat → ByteArray → Int → Int → (Bool → Option β) → (ByteArray → Int → Option β) → Option β)  (v0 : ByteArray) (v1 : Int) (v2 : Int) (rec_ : St → Option β) (K : Exit → St → Option β) :
    ev lay (VE26 N q_spec_IsFormula q_spec_IsReadOnce_l0 q_spec_IsReadOnce_l2) (retMask Try.f26) (lp Try.f26 1).body (lp Try.f26 1).ex ((lp Try.f26 1).lv (retMask Try.f26)) (h26_1_0  v0 v1 v2) (nextR (fun s' => rec_ (s'.tidy ((lp Try.f26 1).lv (retMask Try.f26)))) K) = BV_spec_IsReadOnce_l2b N  v0 v1 v2 (fun v0 v1 v2 => rec_ (h26_1_0  v0 v1 v2)) (fun y0 => K .ret (x26_1_0_k0  y0)) (fun y0 y1 => K (.exit 2) (x26_1_0_k1  y0 y1)) := by kernel_rfl
theorem st26_1_0 {β : Type} (N : Nat)  (v0 : ByteArray) (v1 : Int) (v2 : Int) (rec_ : St → Option β) (K : Exit → St → Option β) :
    ev lay (E26 N) (retMask Try.f26) (lp Try.f26 1).body (lp Try.f26 1).ex ((lp Try.f26 1).lv (retMask Try.f26)) (h26_1_0  v0 v1 v2) (nextR (fun s' => rec_ (s'.tidy ((lp Try.f26 1).lv (retMask Try.f26)))) K) = spec_IsReadOnce_l2b N  v0 v1 v2 (fun v0 v1 v2 => rec_ (h26_1_0  v0 v1 v2)) (fun y0 => K .ret (x26_1_0_k0  y0)) (fun y0 y1 => K (.exit 2) (x26_1_0_k1  y0 y1)) := (vst26_1_0 N (spec_IsFormula N) (spec_IsReadOnce_l0 N) (spec_IsReadOnce_l2 N) v0 v1 v2 rec_ K).trans (t_spec_IsReadOnce_l2b N  v0 v1 v2 (fun v0 v1 v2 => rec_ (h26_1_0  v0 v1 v2)) (fun y0 => K .ret (x26_1_0_k0  y0)) (fun y0 y1 => K (.exit 2) (x26_1_0_k1  y0 y1))).symm
theorem ro26_1_0 {β : Type} (N : Nat)  (K : Exit → St → Option β) : ∀ (F : Nat) (v0 : ByteArray) (v1 : Int) (v2 : Int), (lp Try.f26 1).rounds lay (E26 N) (retMask Try.f26) F (h26_1_0  v0 v1 v2) K = spec_IsReadOnce_l2 N  F v0 v1 v2 (fun y0 => K .ret (x26_1_0_k0  y0)) (fun y0 y1 => K (.exit 2) (x26_1_0_k1  y0 y1)) := by
  intro F
  induction F with
  | zero => intros; rfl
  | succ F ih =>
    intros
    rw [rounds_next]
    refine (st26_1_0 N  _ _ _ (fun s => (lp Try.f26 1).rounds lay (E26 N) (retMask Try.f26) F s K) K).trans ?_
    simp only [ih]
    rfl
theorem lk26_2 {β : Type} (N : Nat) : lookL (E26 (β := β) N).loops (lp Try.f26 1).id = LS26_2 N := by kernel_rfl
theorem rk26_2 {β : Type} (N : Nat) : RoundsOK lay (E26 (β := β) N) (retMask Try.f26) (lp Try.f26 1) := by
  intro s K r h
  rw [lk26_2] at h
  unfold LS26_2 VLS26_2 at h
  cases hb : shpSt (h26_1_0 ByteArray.empty 0 0) s with
  | true =>
    rw [hb, cond_true] at h
    exact ⟨N, by rw [← shpSt_ref hb, fl26_1_0 s]; exact (ro26_1_0 N  K N (strS (oneA (vT (nx tund s.tmps 0)))) (intS (oneA (vT (nx tund s.tmps 3)))) (intS (oneA (vT (nx tund s.tmps 4))))).trans h⟩
  | false =>
  rw [hb, cond_false] at h
  clear hb
  cases h
def BV_spec_IsReadOnce {β : Type} (N : Nat) (q_spec_IsReadOnce_l0 : Nat → ByteArray → Int → (Bool → Option β) → (ByteArray → Option β) → Option β) (q_spec_IsFormula : (a0 : ByteArray) → (k : Bool → Option β) → Option β) (a0 : ByteArray) (k : Bool → Option β) : Option β :=
q_spec_IsReadOnce_l0  N a0 0 (fun e4_0 =>
k e4_0) (fun e5_0 =>
q_spec_IsFormula e5_0 fun r6 =>
k r6)
theorem t_spec_IsReadOnce {β : Type} (N : Nat) (a0 : ByteArray) (k : Bool → Option β) : spec_IsReadOnce N a0 k = BV_spec_IsReadOnce N (spec_IsReadOnce_l0 N) (spec_IsFormula N) a0 k := by
  unfold spec_IsReadOnce BV_spec_IsReadOnce
  rfl
theorem ve26_0 {β : Type} (N : Nat) (q_spec_IsFormula : (a0 : ByteArray) → (k : Bool → Option β) → Option β) (q_spec_IsReadOnce_l0 : Nat → ByteArray → Int → (Bool → Option β) → (ByteArray → Option β) → Option β) (q_spec_IsReadOnce_l2 : Nat → ByteArray → Int → Int → (Bool → Option β) → (ByteArray → Int → Option β) → Option β)  (a0 : ByteArray) (K : TV → Option β) : evFn lay (VE26 N q_spec_IsFormula q_spec_IsReadOnce_l0 q_spec_IsReadOnce_l2) Try.f26 [.v (.one (.str a0))] K = BV_spec_IsReadOnce N q_spec_IsReadOnce_l0 q_spec_IsFormula a0 (fun z1 => K (.v (.one (.bool z1)))) := by kernel_rfl
theorem e26_0 {β : Type} (N : Nat)  (a0 : ByteArray) (K : TV → Option β) : evFn lay (E26 N) Try.f26 [.v (.one (.str a0))] K = spec_IsReadOnce N a0 (fun z1 => K (.v (.one (.bool z1)))) := (ve26_0 N (spec_IsFormula N) (spec_IsReadOnce_l0 N) (spec_IsReadOnce_l2 N) a0 K).trans (t_spec_IsReadOnce N a0 (fun z1 => K (.v (.one (.bool z1))))).symm
theorem o26 {β : Type} (N : Nat) : SpecOK (β := β) inv Try.prog 26 (S26 N) := by
  refine spec_of lay_ok mixed (E := E26 N) (specs_loops (specs_cons (o23 N) specs_nil)) muts_nil gs_nil Try.func26 (by kernel_rfl) 2 (by kernel_rfl) ⟨⟨trivial, rk26_0 N⟩, rk26_2 N⟩ fun args K r h => ?_
  unfold S26 VS26 at h
  split at h
  · exact (e26_0 N _ _).trans h
  · cases h
def VS27 {β : Type} (N : Nat) (q_spec_IsMonotoneFormula : (a0 : ByteArray) → (k : Bool → Option β) → Option β) : Rv.Spec β := fun args K => match args with
  | [.v (.one (.str a0))] => q_spec_IsMonotoneFormula a0 (fun z1 => K (.v (.one (.bool z1))))
  | _ => none
def S27 {β : Type} (N : Nat) : Rv.Spec β := VS27 N (spec_IsMonotoneFormula N)
def h27_0_0  (v0 : ByteArray) (v1 : Int) : St := ⟨.v (.one (.str v0)) :: .v (.one .und) :: .v (.one .und) :: .v (.one (.int .i64 v1)) :: .v (.one .und) :: .v (.one .und) :: .v (.one .und) :: .v (.one .und) :: .v (.one .und) :: .v (.one .und) :: .v (.one .und) :: .v (.one .und) :: .v (.one .und) :: .v (.one .und) :: .v (.one .und) :: .v (.one .und) :: .v (.one .und) :: .v (.one .und) :: .v (.one .und) :: .v (.one .und) :: .v (.one .und) :: .v (.one .und) :: [], []⟩
def x27_0_0_k0  (y0 : Bool) : St := ⟨.v (.one .und) :: .v (.one .und) :: .v (.one (.bool y0)) :: .v (.one .und) :: .v (.one .und) :: .v (.one .und) :: .v (.one .und) :: .v (.one .und) :: .v (.one .und) :: .v (.one .und) :: .v (.one .und) :: .v (.one .und) :: .v (.one .und) :: .v (.one .und) :: .v (.one .und) :: .v (.one .und) :: .v (.one .und) :: .v (.one .und) :: .v (.one .und) :: .v (.one .und) :: .v (.one .und) :: .v (.one .und) :: [], []⟩
def x27_0_0_k1  (y0 : ByteArray) : St := ⟨.v (.one (.str y0)) :: .v (.one .und) :: .v (.one .und) :: .v (.one .und) :: .v (.one .und) :: .v (.one .und) :: .v (.one .und) :: .v (.one .und) :: .v (.one .und) :: .v (.one .und) :: .v (.one .und) :: .v (.one .und) :: .v (.one .und) :: .v (.one .und) :: .v (.one .und) :: .v (.one .und) :: .v (.one .und) :: .v (.one .und) :: .v (.one .und) :: .v (.one .und) :: .v (.one .und) :: .v (.one .und) :: [], []⟩
theorem fl27_0_0 (s : St) : refSt (h27_0_0 ByteArray.empty 0) s = h27_0_0 (strS (oneA (vT (nx tund s.tmps 0)))) (intS (oneA (vT (nx tund s.tmps 3)))) := by kernel_rfl
def VLS27_0 {β : Type} (N : Nat) (q_spec_IsMonotoneFormula_l0 : Nat → ByteArray → Int → (Bool → Option β) → (ByteArray → Option β) → Option β) : LSpec β := fun s K => cond (shpSt (h27_0_0 ByteArray.empty 0) s) ((fun (v0 : ByteArray) (v1 : Int) => q_spec_IsMonotoneFormula_l0  N v0 v1 (fun y0 => K .ret (x27_0_0_k0  y0)) (fun y0 => K (.exit 0) (x27_0_0_k1  y0))) (strS (oneA (vT (nx tund s.tmps 0)))) (intS (oneA (vT (nx tund s.tmps 3))))) (none)
def LS27_0 {β : Type} (N : Nat) : LSpec β := VLS27_0 N (spec_IsMonotoneFormula_l0 N)
def VE27 {β : Type} (N : Nat) (q_spec_IsFormula : (a0 : ByteArray) → (k : Bool → Option β) → Option β) (q_spec_IsMonotoneFormula_l0 : Nat → ByteArray → Int → (Bool → Option β) → (ByteArray → Option β) → Option β) : Env β := ⟨[(23, VS23 N q_spec_IsFormula)], [], [(0, VLS27_0 N q_spec_IsMonotoneFormula_l0)], [], ⟨[], [], [], []⟩⟩
def E27 {β : Type} (N : Nat) : Env β := VE27 N (spec_IsFormula N) (spec_IsMonotoneFormula_l0 N)
def BV_spec_IsMonotoneFormula_l0b {β : Type} (N : Nat)  (v0 : ByteArray) (v1 : Int) (rec_ : ByteArray → Int → Option β) (k0 : Bool → Option β) (k1 : ByteArray → Option β) : Option β :=
(cond ((decide (v1 < (v0.size : Int))))
((gd ((decide (0 ≤ v1)))
((gd ((decide (v1 < (v0.size : Int))))
((cond (((bt v0 v1) == 33))
(k0 false)
((gd ((decide (0 ≤ v1)))
((gd ((decide (v1 < (v0.size : Int))))
((cond (((bt v0 v1) == 94))
(k0 false)
(rec_ v0 ((w64 (v1 + 1))))))))))))))))
(k1 v0))
theorem t_spec_IsMonotoneFormula_l0b {β : Type} (N : Nat)  (v0 : ByteArray) (v1 : Int) (rec_ : ByteArray → Int → Option β) (k0 : Bool → Option β) (k1 : ByteArray → Option β) : spec_IsMonotoneFormula_l0b N v0 v1 rec_ k0 k1 = BV_spec_IsMonotoneFormula_l0b N v0 v1 rec_ k0 k1 := by
  unfold spec_IsMonotoneFormula_l0b BV_spec_IsMonotoneFormula_l0b
  rfl
theorem vst27_0_0 {β : Type} (N : Nat) (q_spec_IsFormula : (a0 : ByteArray) → (k : Bool → Option β) → Option β) (q_spec_IsMonotoneFormula_l0 : Nat → ByteArray → Int → (Bool → Option β) → (ByteArray → Option β) → Option β)  (v0 : ByteArray) (v1 : Int) (rec_ : St → Option β) (K : Exit → St → Option β) :
    ev lay (VE27 N q_spec_IsFormula q_spec_IsMonotoneFormula_l0) (retMask Try.f27) (lp Try.f27 0).body (lp Try.f27 0).ex ((lp Try.f27 0).lv (retMask Try.f27)) (h27_0_0  v0 v1) (nextR (fun s' => rec_ (s'.tidy ((lp Try.f27 0).lv (retMask Try.f27)))) K) = BV_spec_IsMonotoneFormula_l0b N  v0 v1 (fun v0 v1 => rec_ (h27_0_0  v0 v1)) (fun y0 => K .ret (x27_0_0_k0  y0)) (fun y0 => K (.exit 0) (x27_0_0_k1  y0)) := by kernel_rfl
theorem st27_0_0 {β : Type} (N : Nat)  (v0 : ByteArray) (v1 : Int) (rec_ : St → Option β) (K : Exit → St → Option β) :
    ev lay (E27 N) (retMask Try.f27) (lp Try.f27 0).body (lp Try.f27 0).ex ((lp Try.f27 0).lv (retMask Try.f27)) (h27_0_0  v0 v1) (nextR (fun s' => rec_ (s'.tidy ((lp Try.f27 0).lv (retMask Try.f27)))) K) = spec_IsMonotoneFormula_l0b N  v0 v1 (fun v0 v1 => rec_ (h27_0_0  v0 v1)) (fun y0 => K .ret (x27_0_0_k0  y0)) (fun y0 => K (.exit 0) (x27_0_0_k1  y0)) := (vst27_0_0 N (spec_IsFormula N) (spec_IsMonotoneFormula_l0 N) v0 v1 rec_ K).trans (t_spec_IsMonotoneFormula_l0b N  v0 v1 (fun v0 v1 => rec_ (h27_0_0  v0 v1)) (fun y0 => K .ret (x27_0_0_k0  y0)) (fun y0 => K (.exit 0) (x27_0_0_k1  y0))).symm
theorem ro27_0_0 {β : Type} (N : Nat)  (K : Exit → St → Option β) : ∀ (F : Nat) (v0 : ByteArray) (v1 : Int), (lp Try.f27 0).rounds lay (E27 N) (retMask Try.f27) F (h27_0_0  v0 v1) K = spec_IsMonotoneFormula_l0 N  F v0 v1 (fun y0 => K .ret (x27_0_0_k0  y0)) (fun y0 => K (.exit 0) (x27_0_0_k1  y0)) := by
  intro F
  induction F with
  | zero => intros; rfl
  | succ F ih =>
    intros
    rw [rounds_next]
    refine (st27_0_0 N  _ _ (fun s => (lp Try.f27 0).rounds lay (E27 N) (retMask Try.f27) F s K) K).trans ?_
    simp only [ih]
    rfl
theorem lk27_0 {β : Type} (N : Nat) : lookL (E27 (β := β) N).loops (lp Try.f27 0).id = LS27_0 N := by kernel_rfl
theorem rk27_0 {β : Type} (N : Nat) : RoundsOK lay (E27 (β := β) N) (retMask Try.f27) (lp Try.f27 0) := by
  intro s K r h
  rw [lk27_0] at h
  unfold LS27_0 VLS27_0 at h
  cases hb : shpSt (h27_0_0 ByteArray.empty 0) s with
  | true =>
    rw [hb, cond_true] at h
    exact ⟨N, by rw [← shpSt_ref hb, fl27_0_0 s]; exact (ro27_0_0 N  K N (strS (oneA (vT (nx tund s.tmps 0)))) (intS (oneA (vT (nx tund s.tmps 3))))).trans h⟩
  | false =>
  rw [hb, cond_false] at h
  clear hb
  cases h
def BV_spec_IsMonotoneFormula {β : Type} (N : Nat) (q_spec_IsMonotoneFormula_l0 : Nat → ByteArray → Int → (Bool → Option β) → (ByteArray → Option β) → Option β) (q_spec_IsFormula : (a0 : ByteArray) → (k : Bool → Option β) → Option β) (a0 : ByteArray) (k : Bool → Option β) : Option β :=
q_spec_IsMonotoneFormula_l0  N a0 0 (fun e2_0 =>
k e2_0) (fun e3_0 =>
q_spec_IsFormula e3_0 fun r4 =>
k r4)
theorem t_spec_IsMonotoneFormula {β : Type} (N : Nat) (a0 : ByteArray) (k : Bool → Option β) : spec_IsMonotoneFormula N a0 k = BV_spec_IsMonotoneFormula N (spec_IsMonotoneFormula_l0 N) (spec_IsFormula N) a0 k := by
  unfold spec_IsMonotoneFormula BV_spec_IsMonotoneFormula
  rfl
theorem ve27_0 {β : Type} (N : Nat) (q_spec_IsFormula : (a0 : ByteArray) → (k : Bool → Option β) → Option β) (q_spec_IsMonotoneFormula_l0 : Nat → ByteArray → Int → (Bool → Option β) → (ByteArray → Option β) → Option β)  (a0 : ByteArray) (K : TV → Option β) : evFn lay (VE27 N q_spec_IsFormula q_spec_IsMonotoneFormula_l0) Try.f27 [.v (.one (.str a0))] K = BV_spec_IsMonotoneFormula N q_spec_IsMonotoneFormula_l0 q_spec_IsFormula a0 (fun z1 => K (.v (.one (.bool z1)))) := by kernel_rfl
theorem e27_0 {β : Type} (N : Nat)  (a0 : ByteArray) (K : TV → Option β) : evFn lay (E27 N) Try.f27 [.v (.one (.str a0))] K = spec_IsMonotoneFormula N a0 (fun z1 => K (.v (.one (.bool z1)))) := (ve27_0 N (spec_IsFormula N) (spec_IsMonotoneFormula_l0 N) a0 K).trans (t_spec_IsMonotoneFormula N a0 (fun z1 => K (.v (.one (.bool z1))))).symm
theorem o27 {β : Type} (N : Nat) : SpecOK (β := β) inv Try.prog 27 (S27 N) := by
  refine spec_of lay_ok mixed (E := E27 N) (specs_loops (specs_cons (o23 N) specs_nil)) muts_nil gs_nil Try.func27 (by kernel_rfl) 1 (by kernel_rfl) ⟨trivial, rk27_0 N⟩ fun args K r h => ?_
  unfold S27 VS27 at h
  split at h
  · exact (e27_0 N _ _).trans h
  · cases h
end Go.Proofs.Ytddflpokemgnmaa
