/- The functions that the claims reach answer as their texts do. -/
import Derived.Test.YtfdggelojmofmaaE8
namespace Go.Proofs.Ytfdggelojmofmaa
open Go.Rv
set_option maxRecDepth 100000
set_option maxHeartbeats 2000000
set_option linter.unusedVariables false
def VS18 {β : Type} (N : Nat) (zq174 : (a0 : List ByteArray) → (a1 : List ByteArray) → (k : Bool → Option β) → Option β) : Rv.Spec β := fun args K => match args with
  | [.v (.one (.sl 9 (.strs a0))), .v (.one (.sl 9 (.strs a1)))] => zq174 a0 a1 (fun z2 => K (.v (.one (.bool z2))))
  | _ => none
def S18 {β : Type} (N : Nat) : Rv.Spec β := VS18 N (zj174 N)
def h18_0_0  (v0 : List ByteArray) (v1 : List ByteArray) (v2 : Int) : St := ⟨.v (.one (.sl 9 (.strs v0))) :: .v (.one (.sl 9 (.strs v1))) :: tund :: tund :: tund :: .v (.one (.int .i64 v2)) :: tund :: tund :: tund :: tund :: tund :: tund :: tund :: tund :: tund :: tund :: tund :: tund :: tund :: tund :: tund :: tund :: tund :: tund :: tund :: tund :: [], []⟩
def x18_0_0_k0  (y0 : Bool) : St := ⟨tund :: tund :: tund :: tund :: .v (.one (.bool y0)) :: tund :: tund :: tund :: tund :: tund :: tund :: tund :: tund :: tund :: tund :: tund :: tund :: tund :: tund :: tund :: tund :: tund :: tund :: tund :: tund :: tund :: [], []⟩
def x18_0_0_k1   : St := ⟨tund :: tund :: tund :: tund :: tund :: tund :: tund :: tund :: tund :: tund :: tund :: tund :: tund :: tund :: tund :: tund :: tund :: tund :: tund :: tund :: tund :: tund :: tund :: tund :: tund :: tund :: [], []⟩
theorem fl18_0_0 (s : St) : refSt (h18_0_0 [] [] 0) s = h18_0_0 (rStrs (rowV (oneA (vT (nx tund s.tmps 0))))) (rStrs (rowV (oneA (vT (nx tund s.tmps 1))))) (intS (oneA (vT (nx tund s.tmps 5)))) := by kernel_rfl
def VLS18_0 {β : Type} (N : Nat) (zq173 : Nat → List ByteArray → List ByteArray → Int → (Bool → Option β) → (Option β) → Option β) : LSpec β := fun s K => cond (shpSt (h18_0_0 [] [] 0) s) ((fun (v0 : List ByteArray) (v1 : List ByteArray) (v2 : Int) => zq173  N v0 v1 v2 (fun y0 => K .ret (x18_0_0_k0  y0)) (K (.exit 0) (x18_0_0_k1  ))) (rStrs (rowV (oneA (vT (nx tund s.tmps 0))))) (rStrs (rowV (oneA (vT (nx tund s.tmps 1))))) (intS (oneA (vT (nx tund s.tmps 5))))) (none)
def LS18_0 {β : Type} (N : Nat) : LSpec β := VLS18_0 N (zj173 N)
def VE18 {β : Type} (N : Nat) (zq173 : Nat → List ByteArray → List ByteArray → Int → (Bool → Option β) → (Option β) → Option β) : Env β := ⟨[], [], [(0, VLS18_0 N zq173)], [], ⟨[], [], [], [61]⟩⟩
def E18 {β : Type} (N : Nat) : Env β := VE18 N (zj173 N)
def zb172 {β : Type} (N : Nat)  (v0 : List ByteArray) (v1 : List ByteArray) (v2 : Int) (rec_ : List ByteArray → List ByteArray → Int → Option β) (k0 : Bool → Option β) (k1 : Option β) : Option β :=
(cond ((decide (v2 < (v0.length : Int))))
((gd ((decide (0 ≤ v2)))
((gd ((decide (v2 < (v0.length : Int))))
((gd ((decide (0 ≤ v2)))
((gd ((decide (v2 < (v1.length : Int))))
((cond ((!(((rd ByteArray.empty v0 v2)).toList == ((rd ByteArray.empty v1 v2)).toList)))
(k0 false)
(rec_ v0 v1 ((w64 (v2 + 1))))))))))))))
(k1 ))
theorem zt172 {β : Type} (N : Nat)  (v0 : List ByteArray) (v1 : List ByteArray) (v2 : Int) (rec_ : List ByteArray → List ByteArray → Int → Option β) (k0 : Bool → Option β) (k1 : Option β) : zj172 N v0 v1 v2 rec_ k0 k1 = zb172 N v0 v1 v2 rec_ k0 k1 := by
  unfold zj172 zb172
  rfl
theorem vst18_0_0 {β : Type} (N : Nat) (zq173 : Nat → List ByteArray → List ByteArray → Int → (Bool → Option β) → (Option β) → Option β)  (v0 : List ByteArray) (v1 : List ByteArray) (v2 : Int) (rec_ : St → Option β) (K : Exit → St → Option β) :
    ev lay (VE18 N zq173) (retMask Try.f18) (lp Try.f18 0).body (lp Try.f18 0).ex ((lp Try.f18 0).lv (retMask Try.f18)) (h18_0_0  v0 v1 v2) (nextR (fun s' => rec_ (s'.tidy ((lp Try.f18 0).lv (retMask Try.f18)))) K) = zb172 N  v0 v1 v2 (fun v0 v1 v2 => rec_ (h18_0_0  v0 v1 v2)) (fun y0 => K .ret (x18_0_0_k0  y0)) (K (.exit 0) (x18_0_0_k1  )) := by kernel_rfl
theorem st18_0_0 {β : Type} (N : Nat)  (v0 : List ByteArray) (v1 : List ByteArray) (v2 : Int) (rec_ : St → Option β) (K : Exit → St → Option β) :
    ev lay (E18 N) (retMask Try.f18) (lp Try.f18 0).body (lp Try.f18 0).ex ((lp Try.f18 0).lv (retMask Try.f18)) (h18_0_0  v0 v1 v2) (nextR (fun s' => rec_ (s'.tidy ((lp Try.f18 0).lv (retMask Try.f18)))) K) = zj172 N  v0 v1 v2 (fun v0 v1 v2 => rec_ (h18_0_0  v0 v1 v2)) (fun y0 => K .ret (x18_0_0_k0  y0)) (K (.exit 0) (x18_0_0_k1  )) := (vst18_0_0 N (zj173 N) v0 v1 v2 rec_ K).trans (zt172 N  v0 v1 v2 (fun v0 v1 v2 => rec_ (h18_0_0  v0 v1 v2)) (fun y0 => K .ret (x18_0_0_k0  y0)) (K (.exit 0) (x18_0_0_k1  ))).symm
theorem ro18_0_0 {β : Type} (N : Nat)  (K : Exit → St → Option β) : ∀ (F : Nat) (v0 : List ByteArray) (v1 : List ByteArray) (v2 : Int), (lp Try.f18 0).rounds lay (E18 N) (retMask Try.f18) F (h18_0_0  v0 v1 v2) K = zj173 N  F v0 v1 v2 (fun y0 => K .ret (x18_0_0_k0  y0)) (K (.exit 0) (x18_0_0_k1  )) := by
  intro F
  induction F with
  | zero => intros; rfl
  | succ F ih =>
    intros
    rw [rounds_next]
    refine (st18_0_0 N  _ _ _ (fun s => (lp Try.f18 0).rounds lay (E18 N) (retMask Try.f18) F s K) K).trans ?_
    simp only [ih]
    rfl
theorem lk18_0 {β : Type} (N : Nat) : lookL (E18 (β := β) N).loops (lp Try.f18 0).id = LS18_0 N := by kernel_rfl
theorem rk18_0 {β : Type} (N : Nat) : RoundsOK lay (E18 (β := β) N) (retMask Try.f18) (lp Try.f18 0) := by
  intro s K r h
  rw [lk18_0] at h
  unfold LS18_0 VLS18_0 at h
  cases hb : shpSt (h18_0_0 [] [] 0) s with
  | true =>
    rw [hb, cond_true] at h
    exact ⟨N, by rw [← shpSt_ref hb, fl18_0_0 s]; exact (ro18_0_0 N  K N (rStrs (rowV (oneA (vT (nx tund s.tmps 0))))) (rStrs (rowV (oneA (vT (nx tund s.tmps 1))))) (intS (oneA (vT (nx tund s.tmps 5))))).trans h⟩
  | false =>
  rw [hb, cond_false] at h
  clear hb
  cases h
def zb174 {β : Type} (N : Nat) (zq173 : Nat → List ByteArray → List ByteArray → Int → (Bool → Option β) → (Option β) → Option β) (a0 : List ByteArray) (a1 : List ByteArray) (k : Bool → Option β) : Option β :=
(cond (((a0.length : Int) != (a1.length : Int)))
(k false)
(zq173  N a0 a1 0 (fun e3_0 =>
k e3_0) (k true)))
theorem zt174 {β : Type} (N : Nat) (a0 : List ByteArray) (a1 : List ByteArray) (k : Bool → Option β) : zj174 N a0 a1 k = zb174 N (zj173 N) a0 a1 k := by
  unfold zj174 zb174
  rfl
theorem ve18_0 {β : Type} (N : Nat) (zq173 : Nat → List ByteArray → List ByteArray → Int → (Bool → Option β) → (Option β) → Option β)  (a0 : List ByteArray) (a1 : List ByteArray) (K : TV → Option β) : evFn lay (VE18 N zq173) Try.f18 [.v (.one (.sl 9 (.strs a0))), .v (.one (.sl 9 (.strs a1)))] K = zb174 N zq173 a0 a1 (fun z2 => K (.v (.one (.bool z2)))) := by kernel_rfl
theorem e18_0 {β : Type} (N : Nat)  (a0 : List ByteArray) (a1 : List ByteArray) (K : TV → Option β) : evFn lay (E18 N) Try.f18 [.v (.one (.sl 9 (.strs a0))), .v (.one (.sl 9 (.strs a1)))] K = zj174 N a0 a1 (fun z2 => K (.v (.one (.bool z2)))) := (ve18_0 N (zj173 N) a0 a1 K).trans (zt174 N a0 a1 (fun z2 => K (.v (.one (.bool z2))))).symm
theorem o18 {β : Type} (N : Nat) : SpecOK (β := β) inv Try.prog 18 (S18 N) := by
  refine spec_of lay_ok mixed (E := E18 N) (specs_loops specs_nil) muts_nil gs_nil Try.func18 (by kernel_rfl) 1 (by kernel_rfl) ⟨trivial, rk18_0 N⟩ fun args K r h => ?_
  unfold S18 VS18 at h
  split at h
  · exact (e18_0 N _ _ _).trans h
  · cases h
def VS65 {β : Type} (N : Nat) (zq177 : (a0 : Int) → (k : ByteArray → Option β) → Option β) : Rv.Spec β := fun args K => match args with
  | [.v (.one (.int .i64 a0))] => zq177 a0 (fun z1 => K (.v (.one (.str z1))))
  | _ => none
def S65 {β : Type} (N : Nat) : Rv.Spec β := VS65 N (zj177 N)
def h65_0_0  (v0 : Int) (v1 : ByteArray) : St := ⟨.v (.one (.int .i64 v0)) :: tund :: tund :: .v (.one (.str v1)) :: tund :: tund :: tund :: tund :: tund :: tund :: tund :: tund :: tund :: tund :: tund :: tund :: tund :: tund :: tund :: tund :: [], []⟩
def x65_0_0_k0  (y0 : ByteArray) : St := ⟨tund :: tund :: tund :: .v (.one (.str y0)) :: tund :: tund :: tund :: tund :: tund :: tund :: tund :: tund :: tund :: tund :: tund :: tund :: tund :: tund :: tund :: tund :: [], []⟩
theorem fl65_0_0 (s : St) : refSt (h65_0_0 0 ByteArray.empty) s = h65_0_0 (intS (oneA (vT (nx tund s.tmps 0)))) (strS (oneA (vT (nx tund s.tmps 3)))) := by kernel_rfl
def VLS65_0 {β : Type} (N : Nat) (zq176 : Nat → Int → ByteArray → (ByteArray → Option β) → Option β) : LSpec β := fun s K => cond (shpSt (h65_0_0 0 ByteArray.empty) s) ((fun (v0 : Int) (v1 : ByteArray) => zq176  N v0 v1 (fun y0 => K (.exit 0) (x65_0_0_k0  y0))) (intS (oneA (vT (nx tund s.tmps 0)))) (strS (oneA (vT (nx tund s.tmps 3))))) (none)
def LS65_0 {β : Type} (N : Nat) : LSpec β := VLS65_0 N (zj176 N)
def VE65 {β : Type} (N : Nat) (zq176 : Nat → Int → ByteArray → (ByteArray → Option β) → Option β) : Env β := ⟨[], [], [(0, VLS65_0 N zq176)], [], ⟨[], [], [], [61]⟩⟩
def E65 {β : Type} (N : Nat) : Env β := VE65 N (zj176 N)
def zb175 {β : Type} (N : Nat)  (v0 : Int) (v1 : ByteArray) (rec_ : Int → ByteArray → Option β) (k0 : ByteArray → Option β) : Option β :=
(cond ((decide (v0 > 0)))
((gd ((decide (((strOf ((([] : List Int) ++ [(w8 ((w64 (48 + (remI v0 10)))))])))).size + v1.size ≤ 9223372036854775807)))
(rec_ ((quoI .i64 v0 10)) (((strOf ((([] : List Int) ++ [(w8 ((w64 (48 + (remI v0 10)))))]))) ++ v1)))))
(k0 v1))
theorem zt175 {β : Type} (N : Nat)  (v0 : Int) (v1 : ByteArray) (rec_ : Int → ByteArray → Option β) (k0 : ByteArray → Option β) : zj175 N v0 v1 rec_ k0 = zb175 N v0 v1 rec_ k0 := by
  unfold zj175 zb175
  rfl
theorem vst65_0_0 {β : Type} (N : Nat) (zq176 : Nat → Int → ByteArray → (ByteArray → Option β) → Option β)  (v0 : Int) (v1 : ByteArray) (rec_ : St → Option β) (K : Exit → St → Option β) :
    ev lay (VE65 N zq176) (retMask Try.f65) (lp Try.f65 0).body (lp Try.f65 0).ex ((lp Try.f65 0).lv (retMask Try.f65)) (h65_0_0  v0 v1) (nextR (fun s' => rec_ (s'.tidy ((lp Try.f65 0).lv (retMask Try.f65)))) K) = zb175 N  v0 v1 (fun v0 v1 => rec_ (h65_0_0  v0 v1)) (fun y0 => K (.exit 0) (x65_0_0_k0  y0)) := by kernel_rfl
theorem st65_0_0 {β : Type} (N : Nat)  (v0 : Int) (v1 : ByteArray) (rec_ : St → Option β) (K : Exit → St → Option β) :
    ev lay (E65 N) (retMask Try.f65) (lp Try.f65 0).body (lp Try.f65 0).ex ((lp Try.f65 0).lv (retMask Try.f65)) (h65_0_0  v0 v1) (nextR (fun s' => rec_ (s'.tidy ((lp Try.f65 0).lv (retMask Try.f65)))) K) = zj175 N  v0 v1 (fun v0 v1 => rec_ (h65_0_0  v0 v1)) (fun y0 => K (.exit 0) (x65_0_0_k0  y0)) := (vst65_0_0 N (zj176 N) v0 v1 rec_ K).trans (zt175 N  v0 v1 (fun v0 v1 => rec_ (h65_0_0  v0 v1)) (fun y0 => K (.exit 0) (x65_0_0_k0  y0))).symm
theorem ro65_0_0 {β : Type} (N : Nat)  (K : Exit → St → Option β) : ∀ (F : Nat) (v0 : Int) (v1 : ByteArray), (lp Try.f65 0).rounds lay (E65 N) (retMask Try.f65) F (h65_0_0  v0 v1) K = zj176 N  F v0 v1 (fun y0 => K (.exit 0) (x65_0_0_k0  y0)) := by
  intro F
  induction F with
  | zero => intros; rfl
  | succ F ih =>
    intros
    rw [rounds_next]
    refine (st65_0_0 N  _ _ (fun s => (lp Try.f65 0).rounds lay (E65 N) (retMask Try.f65) F s K) K).trans ?_
    simp only [ih]
    rfl
theorem lk65_0 {β : Type} (N : Nat) : lookL (E65 (β := β) N).loops (lp Try.f65 0).id = LS65_0 N := by kernel_rfl
theorem rk65_0 {β : Type} (N : Nat) : RoundsOK lay (E65 (β := β) N) (retMask Try.f65) (lp Try.f65 0) := by
  intro s K r h
  rw [lk65_0] at h
  unfold LS65_0 VLS65_0 at h
  cases hb : shpSt (h65_0_0 0 ByteArray.empty) s with
  | true =>
    rw [hb, cond_true] at h
    exact ⟨N, by rw [← shpSt_ref hb, fl65_0_0 s]; exact (ro65_0_0 N  K N (intS (oneA (vT (nx tund s.tmps 0)))) (strS (oneA (vT (nx tund s.tmps 3))))).trans h⟩
  | false =>
  rw [hb, cond_false] at h
  clear hb
  cases h
def zb177 {β : Type} (N : Nat) (zq176 : Nat → Int → ByteArray → (ByteArray → Option β) → Option β) (a0 : Int) (k : ByteArray → Option β) : Option β :=
(cond ((decide (a0 ≤ 0)))
(k ((strOf [109, 48])))
(zq176  N a0 ByteArray.empty (fun e2_0 =>
(gd ((decide (((strOf [109])).size + e2_0.size ≤ 9223372036854775807)))
(k (((strOf [109]) ++ e2_0)))))))
theorem zt177 {β : Type} (N : Nat) (a0 : Int) (k : ByteArray → Option β) : zj177 N a0 k = zb177 N (zj176 N) a0 k := by
  unfold zj177 zb177
  rfl
theorem ve65_0 {β : Type} (N : Nat) (zq176 : Nat → Int → ByteArray → (ByteArray → Option β) → Option β)  (a0 : Int) (K : TV → Option β) : evFn lay (VE65 N zq176) Try.f65 [.v (.one (.int .i64 a0))] K = zb177 N zq176 a0 (fun z1 => K (.v (.one (.str z1)))) := by kernel_rfl
theorem e65_0 {β : Type} (N : Nat)  (a0 : Int) (K : TV → Option β) : evFn lay (E65 N) Try.f65 [.v (.one (.int .i64 a0))] K = zj177 N a0 (fun z1 => K (.v (.one (.str z1)))) := (ve65_0 N (zj176 N) a0 K).trans (zt177 N a0 (fun z1 => K (.v (.one (.str z1))))).symm
theorem o65 {β : Type} (N : Nat) : SpecOK (β := β) inv Try.prog 65 (S65 N) := by
  refine spec_of lay_ok mixed (E := E65 N) (specs_loops specs_nil) muts_nil gs_nil Try.func65 (by kernel_rfl) 1 (by kernel_rfl) ⟨trivial, rk65_0 N⟩ fun args K r h => ?_
  unfold S65 VS65 at h
  split at h
  · exact (e65_0 N _ _).trans h
  · cases h
def VS20 {β : Type} (N : Nat) (zq180 : (a0 : List ByteArray) → (a1 : Int) → (k : Int → Option β) → Option β) : Rv.Spec β := fun args K => match args with
  | [.v (.one (.sl 9 (.strs a0))), .v (.one (.int .i64 a1))] => zq180 a0 a1 (fun z2 => K (.v (.one (.int .i64 z2))))
  | _ => none
def S20 {β : Type} (N : Nat) : Rv.Spec β := VS20 N (zj180 N)
def h20_0_0  (v0 : List ByteArray) (v1 : Int) (v2 : Int) : St := ⟨.v (.one (.sl 9 (.strs v0))) :: .v (.one (.int .i64 v1)) :: tund :: tund :: tund :: .v (.one (.int .i64 v2)) :: tund :: tund :: tund :: tund :: tund :: tund :: tund :: tund :: tund :: tund :: tund :: tund :: tund :: tund :: tund :: tund :: [], []⟩
def x20_0_0_k0  (y0 : Int) : St := ⟨tund :: tund :: tund :: tund :: .v (.one (.int .i64 y0)) :: tund :: tund :: tund :: tund :: tund :: tund :: tund :: tund :: tund :: tund :: tund :: tund :: tund :: tund :: tund :: tund :: tund :: [], []⟩
def x20_0_0_k1  (y0 : Int) : St := ⟨tund :: .v (.one (.int .i64 y0)) :: tund :: tund :: tund :: tund :: tund :: tund :: tund :: tund :: tund :: tund :: tund :: tund :: tund :: tund :: tund :: tund :: tund :: tund :: tund :: tund :: [], []⟩
theorem fl20_0_0 (s : St) : refSt (h20_0_0 [] 0 0) s = h20_0_0 (rStrs (rowV (oneA (vT (nx tund s.tmps 0))))) (intS (oneA (vT (nx tund s.tmps 1)))) (intS (oneA (vT (nx tund s.tmps 5)))) := by kernel_rfl
def VLS20_0 {β : Type} (N : Nat) (zq179 : Nat → List ByteArray → Int → Int → (Int → Option β) → (Int → Option β) → Option β) : LSpec β := fun s K => cond (shpSt (h20_0_0 [] 0 0) s) ((fun (v0 : List ByteArray) (v1 : Int) (v2 : Int) => zq179  N v0 v1 v2 (fun y0 => K .ret (x20_0_0_k0  y0)) (fun y0 => K (.exit 0) (x20_0_0_k1  y0))) (rStrs (rowV (oneA (vT (nx tund s.tmps 0))))) (intS (oneA (vT (nx tund s.tmps 1)))) (intS (oneA (vT (nx tund s.tmps 5))))) (none)
def LS20_0 {β : Type} (N : Nat) : LSpec β := VLS20_0 N (zj179 N)
def VE20 {β : Type} (N : Nat) (zq177 : (a0 : Int) → (k : ByteArray → Option β) → Option β) (zq179 : Nat → List ByteArray → Int → Int → (Int → Option β) → (Int → Option β) → Option β) : Env β := ⟨[(65, VS65 N zq177)], [], [(0, VLS20_0 N zq179)], [], ⟨[], [], [], [61]⟩⟩
def E20 {β : Type} (N : Nat) : Env β := VE20 N (zj177 N) (zj179 N)
def zb178 {β : Type} (N : Nat) (zq177 : (a0 : Int) → (k : ByteArray → Option β) → Option β)  (v0 : List ByteArray) (v1 : Int) (v2 : Int) (rec_ : List ByteArray → Int → Int → Option β) (k0 : Int → Option β) (k1 : Int → Option β) : Option β :=
(cond ((decide (v2 < (v0.length : Int))))
((gd ((decide (0 ≤ v2)))
((gd ((decide (v2 < (v0.length : Int))))
(zq177 v1 fun r3 =>
(cond ((!(((rd ByteArray.empty v0 v2)).toList == r3.toList)))
(k0 (-1))
(rec_ v0 ((w64 (v1 + 1))) ((w64 (v2 + 1))))))))))
(k1 v1))
theorem zt178 {β : Type} (N : Nat)  (v0 : List ByteArray) (v1 : Int) (v2 : Int) (rec_ : List ByteArray → Int → Int → Option β) (k0 : Int → Option β) (k1 : Int → Option β) : zj178 N v0 v1 v2 rec_ k0 k1 = zb178 N (zj177 N) v0 v1 v2 rec_ k0 k1 := by
  unfold zj178 zb178
  rfl
theorem vst20_0_0 {β : Type} (N : Nat) (zq177 : (a0 : Int) → (k : ByteArray → Option β) → Option β) (zq179 : Nat → List ByteArray → Int → Int → (Int → Option β) → (Int → Option β) → Option β)  (v0 : List ByteArray) (v1 : Int) (v2 : Int) (rec_ : St → Option β) (K : Exit → St → Option β) :
    ev lay (VE20 N zq177 zq179) (retMask Try.f20) (lp Try.f20 0).body (lp Try.f20 0).ex ((lp Try.f20 0).lv (retMask Try.f20)) (h20_0_0  v0 v1 v2) (nextR (fun s' => rec_ (s'.tidy ((lp Try.f20 0).lv (retMask Try.f20)))) K) = zb178 N zq177  v0 v1 v2 (fun v0 v1 v2 => rec_ (h20_0_0  v0 v1 v2)) (fun y0 => K .ret (x20_0_0_k0  y0)) (fun y0 => K (.exit 0) (x20_0_0_k1  y0)) := by kernel_rfl
theorem st20_0_0 {β : Type} (N : Nat)  (v0 : List ByteArray) (v1 : Int) (v2 : Int) (rec_ : St → Option β) (K : Exit → St → Option β) :
    ev lay (E20 N) (retMask Try.f20) (lp Try.f20 0).body (lp Try.f20 0).ex ((lp Try.f20 0).lv (retMask Try.f20)) (h20_0_0  v0 v1 v2) (nextR (fun s' => rec_ (s'.tidy ((lp Try.f20 0).lv (retMask Try.f20)))) K) = zj178 N  v0 v1 v2 (fun v0 v1 v2 => rec_ (h20_0_0  v0 v1 v2)) (fun y0 => K .ret (x20_0_0_k0  y0)) (fun y0 => K (.exit 0) (x20_0_0_k1  y0)) := (vst20_0_0 N (zj177 N) (zj179 N) v0 v1 v2 rec_ K).trans (zt178 N  v0 v1 v2 (fun v0 v1 v2 => rec_ (h20_0_0  v0 v1 v2)) (fun y0 => K .ret (x20_0_0_k0  y0)) (fun y0 => K (.exit 0) (x20_0_0_k1  y0))).symm
theorem ro20_0_0 {β : Type} (N : Nat)  (K : Exit → St → Option β) : ∀ (F : Nat) (v0 : List ByteArray) (v1 : Int) (v2 : Int), (lp Try.f20 0).rounds lay (E20 N) (retMask Try.f20) F (h20_0_0  v0 v1 v2) K = zj179 N  F v0 v1 v2 (fun y0 => K .ret (x20_0_0_k0  y0)) (fun y0 => K (.exit 0) (x20_0_0_k1  y0)) := by
  intro F
  induction F with
  | zero => intros; rfl
  | succ F ih =>
    intros
    rw [rounds_next]
    refine (st20_0_0 N  _ _ _ (fun s => (lp Try.f20 0).rounds lay (E20 N) (retMask Try.f20) F s K) K).trans ?_
    simp only [ih]
    rfl
theorem lk20_0 {β : Type} (N : Nat) : lookL (E20 (β := β) N).loops (lp Try.f20 0).id = LS20_0 N := by kernel_rfl
theorem rk20_0 {β : Type} (N : Nat) : RoundsOK lay (E20 (β := β) N) (retMask Try.f20) (lp Try.f20 0) := by
  intro s K r h
  rw [lk20_0] at h
  unfold LS20_0 VLS20_0 at h
  cases hb : shpSt (h20_0_0 [] 0 0) s with
  | true =>
    rw [hb, cond_true] at h
    exact ⟨N, by rw [← shpSt_ref hb, fl20_0_0 s]; exact (ro20_0_0 N  K N (rStrs (rowV (oneA (vT (nx tund s.tmps 0))))) (intS (oneA (vT (nx tund s.tmps 1)))) (intS (oneA (vT (nx tund s.tmps 5))))).trans h⟩
  | false =>
  rw [hb, cond_false] at h
  clear hb
  cases h
def zb180 {β : Type} (N : Nat) (zq179 : Nat → List ByteArray → Int → Int → (Int → Option β) → (Int → Option β) → Option β) (a0 : List ByteArray) (a1 : Int) (k : Int → Option β) : Option β :=
zq179  N a0 a1 0 (fun e4_0 =>
k e4_0) (fun e5_0 =>
k e5_0)
theorem zt180 {β : Type} (N : Nat) (a0 : List ByteArray) (a1 : Int) (k : Int → Option β) : zj180 N a0 a1 k = zb180 N (zj179 N) a0 a1 k := by
  unfold zj180 zb180
  rfl
theorem ve20_0 {β : Type} (N : Nat) (zq177 : (a0 : Int) → (k : ByteArray → Option β) → Option β) (zq179 : Nat → List ByteArray → Int → Int → (Int → Option β) → (Int → Option β) → Option β)  (a0 : List ByteArray) (a1 : Int) (K : TV → Option β) : evFn lay (VE20 N zq177 zq179) Try.f20 [.v (.one (.sl 9 (.strs a0))), .v (.one (.int .i64 a1))] K = zb180 N zq179 a0 a1 (fun z2 => K (.v (.one (.int .i64 z2)))) := by kernel_rfl
theorem e20_0 {β : Type} (N : Nat)  (a0 : List ByteArray) (a1 : Int) (K : TV → Option β) : evFn lay (E20 N) Try.f20 [.v (.one (.sl 9 (.strs a0))), .v (.one (.int .i64 a1))] K = zj180 N a0 a1 (fun z2 => K (.v (.one (.int .i64 z2)))) := (ve20_0 N (zj177 N) (zj179 N) a0 a1 K).trans (zt180 N a0 a1 (fun z2 => K (.v (.one (.int .i64 z2))))).symm
theorem o20 {β : Type} (N : Nat) : SpecOK (β := β) inv Try.prog 20 (S20 N) := by
  refine spec_of lay_ok mixed (E := E20 N) (specs_loops (specs_cons (o65 N) specs_nil)) muts_nil gs_nil Try.func20 (by kernel_rfl) 1 (by kernel_rfl) ⟨trivial, rk20_0 N⟩ fun args K r h => ?_
  unfold S20 VS20 at h
  split at h
  · exact (e20_0 N _ _ _).trans h
  · cases h
def VS19 {β : Type} (N : Nat) (zq183 : (a0 : List ByteArray) → (a1 : Int) → (k : Int → List ByteArray → Option β) → Option β) : MSpec β := fun args bl K => match args, bl with
  | [.v (.one (.row 0)), .v (.one (.int .i64 a1))], [.prow 0 9 (.strs a0)] => zq183 a0 a1 (fun z2 m0 => K (.v (.one (.int .i64 z2))) [(.strs m0)])
  | _, _ => none
def S19 {β : Type} (N : Nat) : MSpec β := VS19 N (zj183 N)
def h19_0_0  (v0 : Int) (v1 : Int) (v2 : List ByteArray) : St := ⟨.v (.one (.row 0)) :: .v (.one (.int .i64 v0)) :: tund :: tund :: tund :: .v (.one (.int .i64 v1)) :: tund :: tund :: tund :: tund :: tund :: tund :: tund :: tund :: tund :: tund :: tund :: tund :: tund :: tund :: [], [.prow 0 9 (.strs v2)]⟩
def x19_0_0_k0  (y0 : Int) (y1 : List ByteArray) : St := ⟨.v (.one (.row 0)) :: .v (.one (.int .i64 y0)) :: tund :: tund :: tund :: tund :: tund :: tund :: tund :: tund :: tund :: tund :: tund :: tund :: tund :: tund :: tund :: tund :: tund :: tund :: [], [.prow 0 9 (.strs y1)]⟩
theorem fl19_0_0 (s : St) : refSt (h19_0_0 0 0 []) s = h19_0_0 (intS (oneA (vT (nx tund s.tmps 1)))) (intS (oneA (vT (nx tund s.tmps 5)))) (rStrs (rowB_ (nx .dead s.blks 0))) := by kernel_rfl
def VLS19_0 {β : Type} (N : Nat) (zq182 : Nat → Int → Int → List ByteArray → (Int → List ByteArray → Option β) → Option β) : LSpec β := fun s K => cond (shpSt (h19_0_0 0 0 []) s) ((fun (v0 : Int) (v1 : Int) (v2 : List ByteArray) => zq182  N v0 v1 v2 (fun y0 y1 => K (.exit 0) (x19_0_0_k0  y0 y1))) (intS (oneA (vT (nx tund s.tmps 1)))) (intS (oneA (vT (nx tund s.tmps 5)))) (rStrs (rowB_ (nx .dead s.blks 0)))) (none)
def LS19_0 {β : Type} (N : Nat) : LSpec β := VLS19_0 N (zj182 N)
def VE19 {β : Type} (N : Nat) (zq177 : (a0 : Int) → (k : ByteArray → Option β) → Option β) (zq182 : Nat → Int → Int → List ByteArray → (Int → List ByteArray → Option β) → Option β) : Env β := ⟨[(65, VS65 N zq177)], [], [(0, VLS19_0 N zq182)], [], ⟨[], [], [], [61]⟩⟩
def E19 {β : Type} (N : Nat) : Env β := VE19 N (zj177 N) (zj182 N)
def zb181 {β : Type} (N : Nat) (zq177 : (a0 : Int) → (k : ByteArray → Option β) → Option β)  (v0 : Int) (v1 : Int) (v2 : List ByteArray) (rec_ : Int → Int → List ByteArray → Option β) (k0 : Int → List ByteArray → Option β) : Option β :=
(cond ((decide (v1 < (v2.length : Int))))
(zq177 v0 fun r3 =>
(gd ((decide (0 ≤ v1)))
((gd ((decide (v1 < (v2.length : Int))))
(rec_ ((w64 (v0 + 1))) ((w64 (v1 + 1))) ((wr v2 v1 r3)))))))
(k0 v0 v2))
theorem zt181 {β : Type} (N : Nat)  (v0 : Int) (v1 : Int) (v2 : List ByteArray) (rec_ : Int → Int → List ByteArray → Option β) (k0 : Int → List ByteArray → Option β) : zj181 N v0 v1 v2 rec_ k0 = zb181 N (zj177 N) v0 v1 v2 rec_ k0 := by
  unfold zj181 zb181
  rfl
theorem vst19_0_0 {β : Type} (N : Nat) (zq177 : (a0 : Int) → (k : ByteArray → Option β) → Option β) (zq182 : Nat → Int → Int → List ByteArray → (Int → List ByteArray → Option β) → Option β)  (v0 : Int) (v1 : Int) (v2 : List ByteArray) (rec_ : St → Option β) (K : Exit → St → Option β) :
    ev lay (VE19 N zq177 zq182) (retMaskM Try.f19) (lpM Try.f19 0).body (lpM Try.f19 0).ex ((lpM Try.f19 0).lv (retMaskM Try.f19)) (h19_0_0  v0 v1 v2) (nextR (fun s' => rec_ (s'.tidy ((lpM Try.f19 0).lv (retMaskM Try.f19)))) K) = zb181 N zq177  v0 v1 v2 (fun v0 v1 v2 => rec_ (h19_0_0  v0 v1 v2)) (fun y0 y1 => K (.exit 0) (x19_0_0_k0  y0 y1)) := by kernel_rfl
theorem st19_0_0 {β : Type} (N : Nat)  (v0 : Int) (v1 : Int) (v2 : List ByteArray) (rec_ : St → Option β) (K : Exit → St → Option β) :
    ev lay (E19 N) (retMaskM Try.f19) (lpM Try.f19 0).body (lpM Try.f19 0).ex ((lpM Try.f19 0).lv (retMaskM Try.f19)) (h19_0_0  v0 v1 v2) (nextR (fun s' => rec_ (s'.tidy ((lpM Try.f19 0).lv (retMaskM Try.f19)))) K) = zj181 N  v0 v1 v2 (fun v0 v1 v2 => rec_ (h19_0_0  v0 v1 v2)) (fun y0 y1 => K (.exit 0) (x19_0_0_k0  y0 y1)) := (vst19_0_0 N (zj177 N) (zj182 N) v0 v1 v2 rec_ K).trans (zt181 N  v0 v1 v2 (fun v0 v1 v2 => rec_ (h19_0_0  v0 v1 v2)) (fun y0 y1 => K (.exit 0) (x19_0_0_k0  y0 y1))).symm
theorem ro19_0_0 {β : Type} (N : Nat)  (K : Exit → St → Option β) : ∀ (F : Nat) (v0 : Int) (v1 : Int) (v2 : List ByteArray), (lpM Try.f19 0).rounds lay (E19 N) (retMaskM Try.f19) F (h19_0_0  v0 v1 v2) K = zj182 N  F v0 v1 v2 (fun y0 y1 => K (.exit 0) (x19_0_0_k0  y0 y1)) := by
  intro F
  induction F with
  | zero => intros; rfl
  | succ F ih =>
    intros
    rw [rounds_next]
    refine (st19_0_0 N  _ _ _ (fun s => (lpM Try.f19 0).rounds lay (E19 N) (retMaskM Try.f19) F s K) K).trans ?_
    simp only [ih]
    rfl
theorem lk19_0 {β : Type} (N : Nat) : lookL (E19 (β := β) N).loops (lpM Try.f19 0).id = LS19_0 N := by kernel_rfl
theorem rk19_0 {β : Type} (N : Nat) : RoundsOK lay (E19 (β := β) N) (retMaskM Try.f19) (lpM Try.f19 0) := by
  intro s K r h
  rw [lk19_0] at h
  unfold LS19_0 VLS19_0 at h
  cases hb : shpSt (h19_0_0 0 0 []) s with
  | true =>
    rw [hb, cond_true] at h
    exact ⟨N, by rw [← shpSt_ref hb, fl19_0_0 s]; exact (ro19_0_0 N  K N (intS (oneA (vT (nx tund s.tmps 1)))) (intS (oneA (vT (nx tund s.tmps 5)))) (rStrs (rowB_ (nx .dead s.blks 0)))).trans h⟩
  | false =>
  rw [hb, cond_false] at h
  clear hb
  cases h
def zb183 {β : Type} (N : Nat) (zq182 : Nat → Int → Int → List ByteArray → (Int → List ByteArray → Option β) → Option β) (a0 : List ByteArray) (a1 : Int) (k : Int → List ByteArray → Option β) : Option β :=
zq182  N a1 0 a0 (fun e4_0 e4_1 =>
k e4_0 e4_1)
theorem zt183 {β : Type} (N : Nat) (a0 : List ByteArray) (a1 : Int) (k : Int → List ByteArray → Option β) : zj183 N a0 a1 k = zb183 N (zj182 N) a0 a1 k := by
  unfold zj183 zb183
  rfl
theorem ve19_0 {β : Type} (N : Nat) (zq177 : (a0 : Int) → (k : ByteArray → Option β) → Option β) (zq182 : Nat → Int → Int → List ByteArray → (Int → List ByteArray → Option β) → Option β)  (a0 : List ByteArray) (a1 : Int) (K : TV → List Row → Option β) : evFnM lay (VE19 N zq177 zq182) Try.f19 [.v (.one (.row 0)), .v (.one (.int .i64 a1))] [.prow 0 9 (.strs a0)] K = zb183 N zq182 a0 a1 (fun z2 m0 => K (.v (.one (.int .i64 z2))) [(.strs m0)]) := by kernel_rfl
theorem e19_0 {β : Type} (N : Nat)  (a0 : List ByteArray) (a1 : Int) (K : TV → List Row → Option β) : evFnM lay (E19 N) Try.f19 [.v (.one (.row 0)), .v (.one (.int .i64 a1))] [.prow 0 9 (.strs a0)] K = zj183 N a0 a1 (fun z2 m0 => K (.v (.one (.int .i64 z2))) [(.strs m0)]) := (ve19_0 N (zj177 N) (zj182 N) a0 a1 K).trans (zt183 N a0 a1 (fun z2 m0 => K (.v (.one (.int .i64 z2))) [(.strs m0)])).symm
theorem o19 {β : Type} (N : Nat) : MutOK (β := β) inv Try.prog 19 (S19 N) := by
  refine mut_of lay_ok mixed (E := E19 N) (specs_loops (specs_cons (o65 N) specs_nil)) muts_nil gs_nil Try.func19 (by kernel_rfl) 1 (by kernel_rfl) ⟨trivial, rk19_0 N⟩ fun args bl K r h => ?_
  unfold S19 VS19 at h
  split at h
  · exact (e19_0 N _ _ _).trans h
  · cases h
def VS5 {β : Type} (N : Nat) (q_laws_FnExactBrokenRelations : (a0 : Int) → (a1 : Int) → (k : Bool → Option β) → Option β) : Rv.Spec β := fun args K => match args with
  | [.v (.agg [.int .i64 a0, .int .i64 a1])] => q_laws_FnExactBrokenRelations a0 a1 (fun z2 => K (.v (.one (.bool z2))))
  | _ => none
def S5 {β : Type} (N : Nat) : Rv.Spec β := VS5 N (laws_FnExactBrokenRelations N)
def VE5 {β : Type} (N : Nat) (zq0 : (a0 : Int) → (a1 : Int) → (k : Int → Int → Option β) → Option β) (zq77 : (a0 : Int) → (a1 : Int) → (k : List ByteArray → Bool → Option β) → Option β) (zq171 : (a0 : Int) → (a1 : Int) → (k : List ByteArray → Bool → Option β) → Option β) (zq174 : (a0 : List ByteArray) → (a1 : List ByteArray) → (k : Bool → Option β) → Option β) (zq180 : (a0 : List ByteArray) → (a1 : Int) → (k : Int → Option β) → Option β) (zq183 : (a0 : List ByteArray) → (a1 : Int) → (k : Int → List ByteArray → Option β) → Option β) : Env β := ⟨[(11, VS11 N zq0), (16, VS16 N zq77), (17, VS17 N zq171), (18, VS18 N zq174), (20, VS20 N zq180)], [(19, VS19 N zq183)], [], [], ⟨[], [], [], [61]⟩⟩
def E5 {β : Type} (N : Nat) : Env β := VE5 N (zj0 N) (zj77 N) (zj171 N) (zj174 N) (zj180 N) (zj183 N)
def BV_laws_FnExactBrokenRelations {β : Type} (N : Nat) (zq0 : (a0 : Int) → (a1 : Int) → (k : Int → Int → Option β) → Option β) (zq77 : (a0 : Int) → (a1 : Int) → (k : List ByteArray → Bool → Option β) → Option β) (zq171 : (a0 : Int) → (a1 : Int) → (k : List ByteArray → Bool → Option β) → Option β) (zq174 : (a0 : List ByteArray) → (a1 : List ByteArray) → (k : Bool → Option β) → Option β) (zq183 : (a0 : List ByteArray) → (a1 : Int) → (k : Int → List ByteArray → Option β) → Option β) (zq180 : (a0 : List ByteArray) → (a1 : Int) → (k : Int → Option β) → Option β) (a0 : Int) (a1 : Int) (k : Bool → Option β) : Option β :=
zq0 a0 a1 fun r3 r4 =>
zq77 r3 r4 fun r5 r6 =>
zq0 a0 a1 fun r7 r8 =>
zq171 r7 r8 fun r9 r10 =>
zq174 r9 r5 fun r11 =>
(cond (!r11)
(k false)
((cond ((!(r10 == r6)))
(k false)
(zq183 r9 1 fun r12 m13 =>
zq180 m13 1 fun r14 =>
(cond ((decide (r14 < 0)))
(k false)
((cond ((r14 != r12))
(k false)
(zq0 a0 a1 fun r15 r16 =>
zq171 r15 r16 fun r17 r18 =>
zq174 r17 r5 fun r19 =>
(cond (!r19)
(k false)
((cond ((!(r18 == r6)))
(k false)
(zq180 m13 1 fun r20 =>
(cond ((decide (r20 < 0)))
(k false)
((cond ((r20 != r12))
(k false)
(k true))))))))))))))))
theorem t_laws_FnExactBrokenRelations {β : Type} (N : Nat) (a0 : Int) (a1 : Int) (k : Bool → Option β) : laws_FnExactBrokenRelations N a0 a1 k = BV_laws_FnExactBrokenRelations N (zj0 N) (zj77 N) (zj171 N) (zj174 N) (zj183 N) (zj180 N) a0 a1 k := by
  unfold laws_FnExactBrokenRelations BV_laws_FnExactBrokenRelations
  rfl
theorem ve5_0 {β : Type} (N : Nat) (zq0 : (a0 : Int) → (a1 : Int) → (k : Int → Int → Option β) → Option β) (zq77 : (a0 : Int) → (a1 : Int) → (k : List ByteArray → Bool → Option β) → Option β) (zq171 : (a0 : Int) → (a1 : Int) → (k : List ByteArray → Bool → Option β) → Option β) (zq174 : (a0 : List ByteArray) → (a1 : List ByteArray) → (k : Bool → Option β) → Option β) (zq180 : (a0 : List ByteArray) → (a1 : Int) → (k : Int → Option β) → Option β) (zq183 : (a0 : List ByteArray) → (a1 : Int) → (k : Int → List ByteArray → Option β) → Option β)  (a0 : Int) (a1 : Int) (K : TV → Option β) : evFn lay (VE5 N zq0 zq77 zq171 zq174 zq180 zq183) Try.f5 [.v (.agg [.int .i64 a0, .int .i64 a1])] K = BV_laws_FnExactBrokenRelations N zq0 zq77 zq171 zq174 zq183 zq180 a0 a1 (fun z2 => K (.v (.one (.bool z2)))) := by kernel_rfl
theorem e5_0 {β : Type} (N : Nat)  (a0 : Int) (a1 : Int) (K : TV → Option β) : evFn lay (E5 N) Try.f5 [.v (.agg [.int .i64 a0, .int .i64 a1])] K = laws_FnExactBrokenRelations N a0 a1 (fun z2 => K (.v (.one (.bool z2)))) := (ve5_0 N (zj0 N) (zj77 N) (zj171 N) (zj174 N) (zj180 N) (zj183 N) a0 a1 K).trans (t_laws_FnExactBrokenRelations N a0 a1 (fun z2 => K (.v (.one (.bool z2))))).symm
theorem o5 {β : Type} (N : Nat) : SpecOK (β := β) inv Try.prog 5 (S5 N) := by
  refine spec_of lay_ok mixed (E := E5 N) (specs_loops (specs_cons (o11 N) (specs_cons (o16 N) (specs_cons (o17 N) (specs_cons (o18 N) (specs_cons (o20 N) specs_nil)))))) (muts_cons (o19 N) muts_nil) gs_nil Try.func5 (by kernel_rfl) 0 (by kernel_rfl) trivial fun args K r h => ?_
  unfold S5 VS5 at h
  split at h
  · exact (e5_0 N _ _ _).trans h
  · cases h
end Go.Proofs.Ytfdggelojmofmaa
