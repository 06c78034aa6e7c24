/- The functions that the claims reach answer as their texts do. -/
import Derived.Test.YtfdggelojmofmaaE4
namespace Go.Proofs.Ytfdggelojmofmaa
open Go.Rv
set_option maxRecDepth 100000
set_option maxHeartbeats 2000000
set_option linter.unusedVariables false
def VS137 {β : Type} (N : Nat) (zq103 : (a0 : Int) → (a1 : Int) → (k : Int → Option β) → Option β) : Rv.Spec β := fun args K => match args with
  | [.v (.agg [.int .i64 a0, .int .i64 a1])] => zq103 a0 a1 (fun z2 => K (.v (.one (.int .i64 z2))))
  | _ => none
def S137 {β : Type} (N : Nat) : Rv.Spec β := VS137 N (zj103 N)
def h137_0_0  (v0 : Int) (v1 : Int) (v2 : Int) (v3 : Int) (v4 : Int) : St := ⟨tund :: .v (.one (.ptr 0 0)) :: tund :: .v (.one (.int .i64 v0)) :: tund :: tund :: tund :: tund :: tund :: .v (.one (.int .i64 v1)) :: .v (.one (.int .i64 v2)) :: tund :: tund :: tund :: tund :: tund :: tund :: tund :: tund :: tund :: [], [.cells 27 [.int .i64 v3, .int .i64 v4]]⟩
def x137_0_0_k0  (y0 : Int) : St := ⟨tund :: tund :: tund :: .v (.one (.int .i64 y0)) :: tund :: tund :: tund :: tund :: tund :: tund :: tund :: tund :: tund :: tund :: tund :: tund :: tund :: tund :: tund :: tund :: [], []⟩
theorem fl137_0_0 (s : St) : refSt (h137_0_0 0 0 0 0 0) s = h137_0_0 (intS (oneA (vT (nx tund s.tmps 3)))) (intS (oneA (vT (nx tund s.tmps 9)))) (intS (oneA (vT (nx tund s.tmps 10)))) (intS (nx .und (cellsB (nx .dead s.blks 0)) 0)) (intS (nx .und (cellsB (nx .dead s.blks 0)) 1)) := by kernel_rfl
def VLS137_0 {β : Type} (N : Nat) (zq102 : Nat → Int → Int → Int → Int → Int → (Int → Option β) → Option β) : LSpec β := fun s K => cond (shpSt (h137_0_0 0 0 0 0 0) s) ((fun (v0 : Int) (v1 : Int) (v2 : Int) (v3 : Int) (v4 : Int) => zq102  N v0 v1 v2 v3 v4 (fun y0 => K (.exit 0) (x137_0_0_k0  y0))) (intS (oneA (vT (nx tund s.tmps 3)))) (intS (oneA (vT (nx tund s.tmps 9)))) (intS (oneA (vT (nx tund s.tmps 10)))) (intS (nx .und (cellsB (nx .dead s.blks 0)) 0)) (intS (nx .und (cellsB (nx .dead s.blks 0)) 1))) (none)
def LS137_0 {β : Type} (N : Nat) : LSpec β := VLS137_0 N (zj102 N)
def VE137 {β : Type} (N : Nat) (zq80 : (a0 : Int) → (a1 : Int) → (k : Bool → Option β) → Option β) (zq79 : (a0 : Int) → (a1 : Int) → (k : Int → Option β) → Option β) (zq100 : (a0 : Int) → (a1 : Int) → (a2 : Int) → (k : Int → Option β) → Option β) (zq102 : Nat → Int → Int → Int → Int → Int → (Int → Option β) → Option β) : Env β := ⟨[(82, VS82 N zq80), (96, VS96 N zq79), (173, VS173 N zq100)], [], [(0, VLS137_0 N zq102)], [], ⟨[], [], [], [61]⟩⟩
def E137 {β : Type} (N : Nat) : Env β := VE137 N (zj80 N) (zj79 N) (zj100 N) (zj102 N)
def zb101 {β : Type} (N : Nat) (zq100 : (a0 : Int) → (a1 : Int) → (a2 : Int) → (k : Int → Option β) → Option β)  (v0 : Int) (v1 : Int) (v2 : Int) (v3 : Int) (v4 : Int) (rec_ : Int → Int → Int → Int → Int → Option β) (k0 : Int → Option β) : Option β :=
(cond ((decide (v2 < v1)))
(zq100 v3 v4 v2 fun r5 =>
rec_ ((mxI v0 r5)) v1 ((w64 (v2 + 1))) v3 v4)
(k0 v0))
theorem zt101 {β : Type} (N : Nat)  (v0 : Int) (v1 : Int) (v2 : Int) (v3 : Int) (v4 : Int) (rec_ : Int → Int → Int → Int → Int → Option β) (k0 : Int → Option β) : zj101 N v0 v1 v2 v3 v4 rec_ k0 = zb101 N (zj100 N) v0 v1 v2 v3 v4 rec_ k0 := by
  unfold zj101 zb101
  rfl
theorem vst137_0_0 {β : Type} (N : Nat) (zq80 : (a0 : Int) → (a1 : Int) → (k : Bool → Option β) → Option β) (zq79 : (a0 : Int) → (a1 : Int) → (k : Int → Option β) → Option β) (zq100 : (a0 : Int) → (a1 : Int) → (a2 : Int) → (k : Int → Option β) → Option β) (zq102 : Nat → Int → Int → Int → Int → Int → (Int → Option β) → Option β)  (v0 : Int) (v1 : Int) (v2 : Int) (v3 : Int) (v4 : Int) (rec_ : St → Option β) (K : Exit → St → Option β) :
    ev lay (VE137 N zq80 zq79 zq100 zq102) (retMask Try.f137) (lp Try.f137 0).body (lp Try.f137 0).ex ((lp Try.f137 0).lv (retMask Try.f137)) (h137_0_0  v0 v1 v2 v3 v4) (nextR (fun s' => rec_ (s'.tidy ((lp Try.f137 0).lv (retMask Try.f137)))) K) = zb101 N zq100  v0 v1 v2 v3 v4 (fun v0 v1 v2 v3 v4 => rec_ (h137_0_0  v0 v1 v2 v3 v4)) (fun y0 => K (.exit 0) (x137_0_0_k0  y0)) := by kernel_rfl
theorem st137_0_0 {β : Type} (N : Nat)  (v0 : Int) (v1 : Int) (v2 : Int) (v3 : Int) (v4 : Int) (rec_ : St → Option β) (K : Exit → St → Option β) :
    ev lay (E137 N) (retMask Try.f137) (lp Try.f137 0).body (lp Try.f137 0).ex ((lp Try.f137 0).lv (retMask Try.f137)) (h137_0_0  v0 v1 v2 v3 v4) (nextR (fun s' => rec_ (s'.tidy ((lp Try.f137 0).lv (retMask Try.f137)))) K) = zj101 N  v0 v1 v2 v3 v4 (fun v0 v1 v2 v3 v4 => rec_ (h137_0_0  v0 v1 v2 v3 v4)) (fun y0 => K (.exit 0) (x137_0_0_k0  y0)) := (vst137_0_0 N (zj80 N) (zj79 N) (zj100 N) (zj102 N) v0 v1 v2 v3 v4 rec_ K).trans (zt101 N  v0 v1 v2 v3 v4 (fun v0 v1 v2 v3 v4 => rec_ (h137_0_0  v0 v1 v2 v3 v4)) (fun y0 => K (.exit 0) (x137_0_0_k0  y0))).symm
theorem ro137_0_0 {β : Type} (N : Nat)  (K : Exit → St → Option β) : ∀ (F : Nat) (v0 : Int) (v1 : Int) (v2 : Int) (v3 : Int) (v4 : Int), (lp Try.f137 0).rounds lay (E137 N) (retMask Try.f137) F (h137_0_0  v0 v1 v2 v3 v4) K = zj102 N  F v0 v1 v2 v3 v4 (fun y0 => K (.exit 0) (x137_0_0_k0  y0)) := by
  intro F
  induction F with
  | zero => intros; rfl
  | succ F ih =>
    intros
    rw [rounds_next]
    refine (st137_0_0 N  _ _ _ _ _ (fun s => (lp Try.f137 0).rounds lay (E137 N) (retMask Try.f137) F s K) K).trans ?_
    simp only [ih]
    rfl
theorem lk137_0 {β : Type} (N : Nat) : lookL (E137 (β := β) N).loops (lp Try.f137 0).id = LS137_0 N := by kernel_rfl
theorem rk137_0 {β : Type} (N : Nat) : RoundsOK lay (E137 (β := β) N) (retMask Try.f137) (lp Try.f137 0) := by
  intro s K r h
  rw [lk137_0] at h
  unfold LS137_0 VLS137_0 at h
  cases hb : shpSt (h137_0_0 0 0 0 0 0) s with
  | true =>
    rw [hb, cond_true] at h
    exact ⟨N, by rw [← shpSt_ref hb, fl137_0_0 s]; exact (ro137_0_0 N  K N (intS (oneA (vT (nx tund s.tmps 3)))) (intS (oneA (vT (nx tund s.tmps 9)))) (intS (oneA (vT (nx tund s.tmps 10)))) (intS (nx .und (cellsB (nx .dead s.blks 0)) 0)) (intS (nx .und (cellsB (nx .dead s.blks 0)) 1))).trans h⟩
  | false =>
  rw [hb, cond_false] at h
  clear hb
  cases h
def zb103 {β : Type} (N : Nat) (zq80 : (a0 : Int) → (a1 : Int) → (k : Bool → Option β) → Option β) (zq79 : (a0 : Int) → (a1 : Int) → (k : Int → Option β) → Option β) (zq102 : Nat → Int → Int → Int → Int → Int → (Int → Option β) → Option β) (a0 : Int) (a1 : Int) (k : Int → Option β) : Option β :=
zq80 a0 a1 fun r3 =>
(cond (!r3)
(k (-1))
(zq79 a0 a1 fun r4 =>
zq102  N 0 r4 0 a0 a1 (fun e6_0 =>
k e6_0)))
theorem zt103 {β : Type} (N : Nat) (a0 : Int) (a1 : Int) (k : Int → Option β) : zj103 N a0 a1 k = zb103 N (zj80 N) (zj79 N) (zj102 N) a0 a1 k := by
  unfold zj103 zb103
  rfl
theorem ve137_0 {β : Type} (N : Nat) (zq80 : (a0 : Int) → (a1 : Int) → (k : Bool → Option β) → Option β) (zq79 : (a0 : Int) → (a1 : Int) → (k : Int → Option β) → Option β) (zq100 : (a0 : Int) → (a1 : Int) → (a2 : Int) → (k : Int → Option β) → Option β) (zq102 : Nat → Int → Int → Int → Int → Int → (Int → Option β) → Option β)  (a0 : Int) (a1 : Int) (K : TV → Option β) : evFn lay (VE137 N zq80 zq79 zq100 zq102) Try.f137 [.v (.agg [.int .i64 a0, .int .i64 a1])] K = zb103 N zq80 zq79 zq102 a0 a1 (fun z2 => K (.v (.one (.int .i64 z2)))) := by kernel_rfl
theorem e137_0 {β : Type} (N : Nat)  (a0 : Int) (a1 : Int) (K : TV → Option β) : evFn lay (E137 N) Try.f137 [.v (.agg [.int .i64 a0, .int .i64 a1])] K = zj103 N a0 a1 (fun z2 => K (.v (.one (.int .i64 z2)))) := (ve137_0 N (zj80 N) (zj79 N) (zj100 N) (zj102 N) a0 a1 K).trans (zt103 N a0 a1 (fun z2 => K (.v (.one (.int .i64 z2))))).symm
theorem o137 {β : Type} (N : Nat) : SpecOK (β := β) inv Try.prog 137 (S137 N) := by
  refine spec_of lay_ok mixed (E := E137 N) (specs_loops (specs_cons (o82 N) (specs_cons (o96 N) (specs_cons (o173 N) specs_nil)))) muts_nil gs_nil Try.func137 (by kernel_rfl) 1 (by kernel_rfl) ⟨trivial, rk137_0 N⟩ fun args K r h => ?_
  unfold S137 VS137 at h
  split at h
  · exact (e137_0 N _ _ _).trans h
  · cases h
def VS143 {β : Type} (N : Nat) (zq104 : (a0 : Int) → (k : Bool → Option β) → Option β) : Rv.Spec β := fun args K => match args with
  | [.v (.one (.int .i64 a0))] => zq104 a0 (fun z1 => K (.v (.one (.bool z1))))
  | _ => none
def S143 {β : Type} (N : Nat) : Rv.Spec β := VS143 N (zj104 N)
def VE143 {β : Type} (N : Nat) : Env β := ⟨[], [], [], [], ⟨[], [], [], [61]⟩⟩
def E143 {β : Type} (N : Nat) : Env β := VE143 N
def zb104 {β : Type} (N : Nat) (a0 : Int) (k : Bool → Option β) : Option β :=
(cond ((a0 == 0))
(k true)
(k ((a0 == 1))))
theorem zt104 {β : Type} (N : Nat) (a0 : Int) (k : Bool → Option β) : zj104 N a0 k = zb104 N a0 k := by
  unfold zj104 zb104
  rfl
theorem ve143_0 {β : Type} (N : Nat)  (a0 : Int) (K : TV → Option β) : evFn lay (VE143 N) Try.f143 [.v (.one (.int .i64 a0))] K = zb104 N a0 (fun z1 => K (.v (.one (.bool z1)))) := by kernel_rfl
theorem e143_0 {β : Type} (N : Nat)  (a0 : Int) (K : TV → Option β) : evFn lay (E143 N) Try.f143 [.v (.one (.int .i64 a0))] K = zj104 N a0 (fun z1 => K (.v (.one (.bool z1)))) := (ve143_0 N a0 K).trans (zt104 N a0 (fun z1 => K (.v (.one (.bool z1))))).symm
theorem o143 {β : Type} (N : Nat) : SpecOK (β := β) inv Try.prog 143 (S143 N) := by
  refine spec_of lay_ok mixed (E := E143 N) (specs_loops specs_nil) muts_nil gs_nil Try.func143 (by kernel_rfl) 0 (by kernel_rfl) trivial fun args K r h => ?_
  unfold S143 VS143 at h
  split at h
  · exact (e143_0 N _ _).trans h
  · cases h
def VS182 {β : Type} (N : Nat) (zq105 : (a0 : Int) → (k : Int → Option β) → Option β) : Rv.Spec β := fun args K => match args with
  | [.v (.one (.int .u64 a0))] => zq105 a0 (fun z1 => K (.v (.one (.int .i64 z1))))
  | _ => none
def S182 {β : Type} (N : Nat) : Rv.Spec β := VS182 N (zj105 N)
def VE182 {β : Type} (N : Nat) : Env β := ⟨[], [], [], [], ⟨[], [], [], [61]⟩⟩
def E182 {β : Type} (N : Nat) : Env β := VE182 N
def zb105 {β : Type} (N : Nat) (a0 : Int) (k : Int → Option β) : Option β :=
k ((bits .and .i64 (w64 ((wu64 ((wu64 ((wu64 ((bits .and .u64 (wu64 ((shrI .u64 (wu64 ((bits .and .u64 (shrI .u64 (wu64 ((bits .and .u64 (shrI .u64 a0 1) 6148914691236517205) + (bits .and .u64 a0 6148914691236517205))) 2) 3689348814741910323) + (bits .and .u64 (wu64 ((bits .and .u64 (shrI .u64 a0 1) 6148914691236517205) + (bits .and .u64 a0 6148914691236517205))) 3689348814741910323))) 4) + (wu64 ((bits .and .u64 (shrI .u64 (wu64 ((bits .and .u64 (shrI .u64 a0 1) 6148914691236517205) + (bits .and .u64 a0 6148914691236517205))) 2) 3689348814741910323) + (bits .and .u64 (wu64 ((bits .and .u64 (shrI .u64 a0 1) 6148914691236517205) + (bits .and .u64 a0 6148914691236517205))) 3689348814741910323))))) 1085102592571150095) + (shrI .u64 (bits .and .u64 (wu64 ((shrI .u64 (wu64 ((bits .and .u64 (shrI .u64 (wu64 ((bits .and .u64 (shrI .u64 a0 1) 6148914691236517205) + (bits .and .u64 a0 6148914691236517205))) 2) 3689348814741910323) + (bits .and .u64 (wu64 ((bits .and .u64 (shrI .u64 a0 1) 6148914691236517205) + (bits .and .u64 a0 6148914691236517205))) 3689348814741910323))) 4) + (wu64 ((bits .and .u64 (shrI .u64 (wu64 ((bits .and .u64 (shrI .u64 a0 1) 6148914691236517205) + (bits .and .u64 a0 6148914691236517205))) 2) 3689348814741910323) + (bits .and .u64 (wu64 ((bits .and .u64 (shrI .u64 a0 1) 6148914691236517205) + (bits .and .u64 a0 6148914691236517205))) 3689348814741910323))))) 1085102592571150095) 8))) + (shrI .u64 (wu64 ((bits .and .u64 (wu64 ((shrI .u64 (wu64 ((bits .and .u64 (shrI .u64 (wu64 ((bits .and .u64 (shrI .u64 a0 1) 6148914691236517205) + (bits .and .u64 a0 6148914691236517205))) 2) 3689348814741910323) + (bits .and .u64 (wu64 ((bits .and .u64 (shrI .u64 a0 1) 6148914691236517205) + (bits .and .u64 a0 6148914691236517205))) 3689348814741910323))) 4) + (wu64 ((bits .and .u64 (shrI .u64 (wu64 ((bits .and .u64 (shrI .u64 a0 1) 6148914691236517205) + (bits .and .u64 a0 6148914691236517205))) 2) 3689348814741910323) + (bits .and .u64 (wu64 ((bits .and .u64 (shrI .u64 a0 1) 6148914691236517205) + (bits .and .u64 a0 6148914691236517205))) 3689348814741910323))))) 1085102592571150095) + (shrI .u64 (bits .and .u64 (wu64 ((shrI .u64 (wu64 ((bits .and .u64 (shrI .u64 (wu64 ((bits .and .u64 (shrI .u64 a0 1) 6148914691236517205) + (bits .and .u64 a0 6148914691236517205))) 2) 3689348814741910323) + (bits .and .u64 (wu64 ((bits .and .u64 (shrI .u64 a0 1) 6148914691236517205) + (bits .and .u64 a0 6148914691236517205))) 3689348814741910323))) 4) + (wu64 ((bits .and .u64 (shrI .u64 (wu64 ((bits .and .u64 (shrI .u64 a0 1) 6148914691236517205) + (bits .and .u64 a0 6148914691236517205))) 2) 3689348814741910323) + (bits .and .u64 (wu64 ((bits .and .u64 (shrI .u64 a0 1) 6148914691236517205) + (bits .and .u64 a0 6148914691236517205))) 3689348814741910323))))) 1085102592571150095) 8))) 16))) + (shrI .u64 (wu64 ((wu64 ((bits .and .u64 (wu64 ((shrI .u64 (wu64 ((bits .and .u64 (shrI .u64 (wu64 ((bits .and .u64 (shrI .u64 a0 1) 6148914691236517205) + (bits .and .u64 a0 6148914691236517205))) 2) 3689348814741910323) + (bits .and .u64 (wu64 ((bits .and .u64 (shrI .u64 a0 1) 6148914691236517205) + (bits .and .u64 a0 6148914691236517205))) 3689348814741910323))) 4) + (wu64 ((bits .and .u64 (shrI .u64 (wu64 ((bits .and .u64 (shrI .u64 a0 1) 6148914691236517205) + (bits .and .u64 a0 6148914691236517205))) 2) 3689348814741910323) + (bits .and .u64 (wu64 ((bits .and .u64 (shrI .u64 a0 1) 6148914691236517205) + (bits .and .u64 a0 6148914691236517205))) 3689348814741910323))))) 1085102592571150095) + (shrI .u64 (bits .and .u64 (wu64 ((shrI .u64 (wu64 ((bits .and .u64 (shrI .u64 (wu64 ((bits .and .u64 (shrI .u64 a0 1) 6148914691236517205) + (bits .and .u64 a0 6148914691236517205))) 2) 3689348814741910323) + (bits .and .u64 (wu64 ((bits .and .u64 (shrI .u64 a0 1) 6148914691236517205) + (bits .and .u64 a0 6148914691236517205))) 3689348814741910323))) 4) + (wu64 ((bits .and .u64 (shrI .u64 (wu64 ((bits .and .u64 (shrI .u64 a0 1) 6148914691236517205) + (bits .and .u64 a0 6148914691236517205))) 2) 3689348814741910323) + (bits .and .u64 (wu64 ((bits .and .u64 (shrI .u64 a0 1) 6148914691236517205) + (bits .and .u64 a0 6148914691236517205))) 3689348814741910323))))) 1085102592571150095) 8))) + (shrI .u64 (wu64 ((bits .and .u64 (wu64 ((shrI .u64 (wu64 ((bits .and .u64 (shrI .u64 (wu64 ((bits .and .u64 (shrI .u64 a0 1) 6148914691236517205) + (bits .and .u64 a0 6148914691236517205))) 2) 3689348814741910323) + (bits .and .u64 (wu64 ((bits .and .u64 (shrI .u64 a0 1) 6148914691236517205) + (bits .and .u64 a0 6148914691236517205))) 3689348814741910323))) 4) + (wu64 ((bits .and .u64 (shrI .u64 (wu64 ((bits .and .u64 (shrI .u64 a0 1) 6148914691236517205) + (bits .and .u64 a0 6148914691236517205))) 2) 3689348814741910323) + (bits .and .u64 (wu64 ((bits .and .u64 (shrI .u64 a0 1) 6148914691236517205) + (bits .and .u64 a0 6148914691236517205))) 3689348814741910323))))) 1085102592571150095) + (shrI .u64 (bits .and .u64 (wu64 ((shrI .u64 (wu64 ((bits .and .u64 (shrI .u64 (wu64 ((bits .and .u64 (shrI .u64 a0 1) 6148914691236517205) + (bits .and .u64 a0 6148914691236517205))) 2) 3689348814741910323) + (bits .and .u64 (wu64 ((bits .and .u64 (shrI .u64 a0 1) 6148914691236517205) + (bits .and .u64 a0 6148914691236517205))) 3689348814741910323))) 4) + (wu64 ((bits .and .u64 (shrI .u64 (wu64 ((bits .and .u64 (shrI .u64 a0 1) 6148914691236517205) + (bits .and .u64 a0 6148914691236517205))) 2) 3689348814741910323) + (bits .and .u64 (wu64 ((bits .and .u64 (shrI .u64 a0 1) 6148914691236517205) + (bits .and .u64 a0 6148914691236517205))) 3689348814741910323))))) 1085102592571150095) 8))) 16))) 32))))) 127))
theorem zt105 {β : Type} (N : Nat) (a0 : Int) (k : Int → Option β) : zj105 N a0 k = zb105 N a0 k := by
  unfold zj105 zb105
  rfl
theorem ve182_0 {β : Type} (N : Nat)  (a0 : Int) (K : TV → Option β) : evFn lay (VE182 N) Try.f182 [.v (.one (.int .u64 a0))] K = zb105 N a0 (fun z1 => K (.v (.one (.int .i64 z1)))) := by kernel_rfl
theorem e182_0 {β : Type} (N : Nat)  (a0 : Int) (K : TV → Option β) : evFn lay (E182 N) Try.f182 [.v (.one (.int .u64 a0))] K = zj105 N a0 (fun z1 => K (.v (.one (.int .i64 z1)))) := (ve182_0 N a0 K).trans (zt105 N a0 (fun z1 => K (.v (.one (.int .i64 z1))))).symm
theorem o182 {β : Type} (N : Nat) : SpecOK (β := β) inv Try.prog 182 (S182 N) := by
  refine spec_of lay_ok mixed (E := E182 N) (specs_loops specs_nil) muts_nil gs_nil Try.func182 (by kernel_rfl) 0 (by kernel_rfl) trivial fun args K r h => ?_
  unfold S182 VS182 at h
  split at h
  · exact (e182_0 N _ _).trans h
  · cases h
def VS144 {β : Type} (N : Nat) (zq106 : (a0 : Int) → (k : Int → Option β) → Option β) : Rv.Spec β := fun args K => match args with
  | [.v (.one (.int .i64 a0))] => zq106 a0 (fun z1 => K (.v (.one (.int .i64 z1))))
  | _ => none
def S144 {β : Type} (N : Nat) : Rv.Spec β := VS144 N (zj106 N)
def VE144 {β : Type} (N : Nat) (zq105 : (a0 : Int) → (k : Int → Option β) → Option β) : Env β := ⟨[(182, VS182 N zq105)], [], [], [], ⟨[], [], [], [61]⟩⟩
def E144 {β : Type} (N : Nat) : Env β := VE144 N (zj105 N)
def zb106 {β : Type} (N : Nat) (zq105 : (a0 : Int) → (k : Int → Option β) → Option β) (a0 : Int) (k : Int → Option β) : Option β :=
zq105 ((wu64 (a0))) fun r2 =>
k r2
theorem zt106 {β : Type} (N : Nat) (a0 : Int) (k : Int → Option β) : zj106 N a0 k = zb106 N (zj105 N) a0 k := by
  unfold zj106 zb106
  rfl
theorem ve144_0 {β : Type} (N : Nat) (zq105 : (a0 : Int) → (k : Int → Option β) → Option β)  (a0 : Int) (K : TV → Option β) : evFn lay (VE144 N zq105) Try.f144 [.v (.one (.int .i64 a0))] K = zb106 N zq105 a0 (fun z1 => K (.v (.one (.int .i64 z1)))) := by kernel_rfl
theorem e144_0 {β : Type} (N : Nat)  (a0 : Int) (K : TV → Option β) : evFn lay (E144 N) Try.f144 [.v (.one (.int .i64 a0))] K = zj106 N a0 (fun z1 => K (.v (.one (.int .i64 z1)))) := (ve144_0 N (zj105 N) a0 K).trans (zt106 N a0 (fun z1 => K (.v (.one (.int .i64 z1))))).symm
theorem o144 {β : Type} (N : Nat) : SpecOK (β := β) inv Try.prog 144 (S144 N) := by
  refine spec_of lay_ok mixed (E := E144 N) (specs_loops (specs_cons (o182 N) specs_nil)) muts_nil gs_nil Try.func144 (by kernel_rfl) 0 (by kernel_rfl) trivial fun args K r h => ?_
  unfold S144 VS144 at h
  split at h
  · exact (e144_0 N _ _).trans h
  · cases h
def VS203 {β : Type} (N : Nat) (zq109 : (a0 : Int) → (a1 : Int) → (a2 : Int) → (a3 : Int) → (k : Int → Option β) → Option β) : Rv.Spec β := fun args K => match args with
  | [.v (.agg [.int .i64 a0, .int .i64 a1]), .v (.one (.int .i64 a2)), .v (.one (.int .i64 a3))] => zq109 a0 a1 a2 a3 (fun z4 => K (.v (.one (.int .i64 z4))))
  | _ => none
def S203 {β : Type} (N : Nat) : Rv.Spec β := VS203 N (zj109 N)
def h203_0_0  (v0 : Int) (v1 : Int) (v2 : Int) (v3 : Int) (v4 : Int) (v5 : Int) (v6 : Bool) (v7 : Bool) : St := ⟨tund :: .v (.one (.int .i64 v0)) :: .v (.one (.int .i64 v1)) :: .v (.one (.ptr 0 0)) :: tund :: tund :: tund :: .v (.one (.ptr 1 0)) :: tund :: tund :: tund :: .v (.one (.int .i64 v2)) :: .v (.one (.int .i64 v3)) :: tund :: tund :: tund :: tund :: tund :: tund :: tund :: tund :: tund :: tund :: tund :: tund :: tund :: tund :: tund :: tund :: tund :: tund :: tund :: tund :: tund :: tund :: [], [.cells 27 [.int .i64 v4, .int .i64 v5], .cells 172 [.bool v6, .bool v7]]⟩
def x203_0_0_k0  (y0 : Bool) (y1 : Bool) : St := ⟨tund :: tund :: tund :: tund :: tund :: tund :: tund :: .v (.one (.ptr 0 0)) :: tund :: tund :: tund :: tund :: tund :: tund :: tund :: tund :: tund :: tund :: tund :: tund :: tund :: tund :: tund :: tund :: tund :: tund :: tund :: tund :: tund :: tund :: tund :: tund :: tund :: tund :: tund :: [], [.cells 172 [.bool y0, .bool y1]]⟩
theorem fl203_0_0 (s : St) : refSt (h203_0_0 0 0 0 0 0 0 false false) s = h203_0_0 (intS (oneA (vT (nx tund s.tmps 1)))) (intS (oneA (vT (nx tund s.tmps 2)))) (intS (oneA (vT (nx tund s.tmps 11)))) (intS (oneA (vT (nx tund s.tmps 12)))) (intS (nx .und (cellsB (nx .dead s.blks 0)) 0)) (intS (nx .und (cellsB (nx .dead s.blks 0)) 1)) (boolS (nx .und (cellsB (nx .dead s.blks 1)) 0)) (boolS (nx .und (cellsB (nx .dead s.blks 1)) 1)) := by kernel_rfl
def VLS203_0 {β : Type} (N : Nat) (zq108 : Nat → Int → Int → Int → Int → Int → Int → Bool → Bool → (Bool → Bool → Option β) → Option β) : LSpec β := fun s K => cond (shpSt (h203_0_0 0 0 0 0 0 0 false false) s) ((fun (v0 : Int) (v1 : Int) (v2 : Int) (v3 : Int) (v4 : Int) (v5 : Int) (v6 : Bool) (v7 : Bool) => zq108  N v0 v1 v2 v3 v4 v5 v6 v7 (fun y0 y1 => K (.exit 0) (x203_0_0_k0  y0 y1))) (intS (oneA (vT (nx tund s.tmps 1)))) (intS (oneA (vT (nx tund s.tmps 2)))) (intS (oneA (vT (nx tund s.tmps 11)))) (intS (oneA (vT (nx tund s.tmps 12)))) (intS (nx .und (cellsB (nx .dead s.blks 0)) 0)) (intS (nx .und (cellsB (nx .dead s.blks 0)) 1)) (boolS (nx .und (cellsB (nx .dead s.blks 1)) 0)) (boolS (nx .und (cellsB (nx .dead s.blks 1)) 1))) (none)
def LS203_0 {β : Type} (N : Nat) : LSpec β := VLS203_0 N (zj108 N)
def VE203 {β : Type} (N : Nat) (zq79 : (a0 : Int) → (a1 : Int) → (k : Int → Option β) → Option β) (zq83 : (a0 : Int) → (a1 : Int) → (a2 : Int) → (k : Int → Option β) → Option β) (zq108 : Nat → Int → Int → Int → Int → Int → Int → Bool → Bool → (Bool → Bool → Option β) → Option β) : Env β := ⟨[(96, VS96 N zq79), (97, VS97 N zq83)], [], [(0, VLS203_0 N zq108)], [], ⟨[], [], [], [61]⟩⟩
def E203 {β : Type} (N : Nat) : Env β := VE203 N (zj79 N) (zj83 N) (zj108 N)
def zb107 {β : Type} (N : Nat) (zq83 : (a0 : Int) → (a1 : Int) → (a2 : Int) → (k : Int → Option β) → Option β)  (v0 : Int) (v1 : Int) (v2 : Int) (v3 : Int) (v4 : Int) (v5 : Int) (v6 : Bool) (v7 : Bool) (rec_ : Int → Int → Int → Int → Int → Int → Bool → Bool → Option β) (k0 : Bool → Bool → Option β) : Option β :=
(cond ((decide (v3 < v2)))
((cond (((bits .and .i64 v3 v0) == v1))
(zq83 v4 v5 v3 fun r6 =>
(gd ((decide (0 ≤ r6)))
((gd ((decide (r6 < 2)))
((cond ((r6 == 0))
(rec_ v0 v1 v2 ((w64 (v3 + 1))) v4 v5 true v7)
(rec_ v0 v1 v2 ((w64 (v3 + 1))) v4 v5 v6 true)))))))
(rec_ v0 v1 v2 ((w64 (v3 + 1))) v4 v5 v6 v7)))
(k0 v6 v7))
theorem zt107 {β : Type} (N : Nat)  (v0 : Int) (v1 : Int) (v2 : Int) (v3 : Int) (v4 : Int) (v5 : Int) (v6 : Bool) (v7 : Bool) (rec_ : Int → Int → Int → Int → Int → Int → Bool → Bool → Option β) (k0 : Bool → Bool → Option β) : zj107 N v0 v1 v2 v3 v4 v5 v6 v7 rec_ k0 = zb107 N (zj83 N) v0 v1 v2 v3 v4 v5 v6 v7 rec_ k0 := by
  unfold zj107 zb107
  rfl
theorem vst203_0_0 {β : Type} (N : Nat) (zq79 : (a0 : Int) → (a1 : Int) → (k : Int → Option β) → Option β) (zq83 : (a0 : Int) → (a1 : Int) → (a2 : Int) → (k : Int → Option β) → Option β) (zq108 : Nat → Int → Int → Int → Int → Int → Int → Bool → Bool → (Bool → Bool → Option β) → Option β)  (v0 : Int) (v1 : Int) (v2 : Int) (v3 : Int) (v4 : Int) (v5 : Int) (v6 : Bool) (v7 : Bool) (rec_ : St → Option β) (K : Exit → St → Option β) :
    ev lay (VE203 N zq79 zq83 zq108) (retMask Try.f203) (lp Try.f203 0).body (lp Try.f203 0).ex ((lp Try.f203 0).lv (retMask Try.f203)) (h203_0_0  v0 v1 v2 v3 v4 v5 v6 v7) (nextR (fun s' => rec_ (s'.tidy ((lp Try.f203 0).lv (retMask Try.f203)))) K) = zb107 N zq83  v0 v1 v2 v3 v4 v5 v6 v7 (fun v0 v1 v2 v3 v4 v5 v6 v7 => rec_ (h203_0_0  v0 v1 v2 v3 v4 v5 v6 v7)) (fun y0 y1 => K (.exit 0) (x203_0_0_k0  y0 y1)) := by kernel_rfl
theorem st203_0_0 {β : Type} (N : Nat)  (v0 : Int) (v1 : Int) (v2 : Int) (v3 : Int) (v4 : Int) (v5 : Int) (v6 : Bool) (v7 : Bool) (rec_ : St → Option β) (K : Exit → St → Option β) :
    ev lay (E203 N) (retMask Try.f203) (lp Try.f203 0).body (lp Try.f203 0).ex ((lp Try.f203 0).lv (retMask Try.f203)) (h203_0_0  v0 v1 v2 v3 v4 v5 v6 v7) (nextR (fun s' => rec_ (s'.tidy ((lp Try.f203 0).lv (retMask Try.f203)))) K) = zj107 N  v0 v1 v2 v3 v4 v5 v6 v7 (fun v0 v1 v2 v3 v4 v5 v6 v7 => rec_ (h203_0_0  v0 v1 v2 v3 v4 v5 v6 v7)) (fun y0 y1 => K (.exit 0) (x203_0_0_k0  y0 y1)) := (vst203_0_0 N (zj79 N) (zj83 N) (zj108 N) v0 v1 v2 v3 v4 v5 v6 v7 rec_ K).trans (zt107 N  v0 v1 v2 v3 v4 v5 v6 v7 (fun v0 v1 v2 v3 v4 v5 v6 v7 => rec_ (h203_0_0  v0 v1 v2 v3 v4 v5 v6 v7)) (fun y0 y1 => K (.exit 0) (x203_0_0_k0  y0 y1))).symm
theorem ro203_0_0 {β : Type} (N : Nat)  (K : Exit → St → Option β) : ∀ (F : Nat) (v0 : Int) (v1 : Int) (v2 : Int) (v3 : Int) (v4 : Int) (v5 : Int) (v6 : Bool) (v7 : Bool), (lp Try.f203 0).rounds lay (E203 N) (retMask Try.f203) F (h203_0_0  v0 v1 v2 v3 v4 v5 v6 v7) K = zj108 N  F v0 v1 v2 v3 v4 v5 v6 v7 (fun y0 y1 => K (.exit 0) (x203_0_0_k0  y0 y1)) := by
  intro F
  induction F with
  | zero => intros; rfl
  | succ F ih =>
    intros
    rw [rounds_next]
    refine (st203_0_0 N  _ _ _ _ _ _ _ _ (fun s => (lp Try.f203 0).rounds lay (E203 N) (retMask Try.f203) F s K) K).trans ?_
    simp only [ih]
    rfl
theorem lk203_0 {β : Type} (N : Nat) : lookL (E203 (β := β) N).loops (lp Try.f203 0).id = LS203_0 N := by kernel_rfl
theorem rk203_0 {β : Type} (N : Nat) : RoundsOK lay (E203 (β := β) N) (retMask Try.f203) (lp Try.f203 0) := by
  intro s K r h
  rw [lk203_0] at h
  unfold LS203_0 VLS203_0 at h
  cases hb : shpSt (h203_0_0 0 0 0 0 0 0 false false) s with
  | true =>
    rw [hb, cond_true] at h
    exact ⟨N, by rw [← shpSt_ref hb, fl203_0_0 s]; exact (ro203_0_0 N  K N (intS (oneA (vT (nx tund s.tmps 1)))) (intS (oneA (vT (nx tund s.tmps 2)))) (intS (oneA (vT (nx tund s.tmps 11)))) (intS (oneA (vT (nx tund s.tmps 12)))) (intS (nx .und (cellsB (nx .dead s.blks 0)) 0)) (intS (nx .und (cellsB (nx .dead s.blks 0)) 1)) (boolS (nx .und (cellsB (nx .dead s.blks 1)) 0)) (boolS (nx .und (cellsB (nx .dead s.blks 1)) 1))).trans h⟩
  | false =>
  rw [hb, cond_false] at h
  clear hb
  cases h
def zb109 {β : Type} (N : Nat) (zq79 : (a0 : Int) → (a1 : Int) → (k : Int → Option β) → Option β) (zq108 : Nat → Int → Int → Int → Int → Int → Int → Bool → Bool → (Bool → Bool → Option β) → Option β) (a0 : Int) (a1 : Int) (a2 : Int) (a3 : Int) (k : Int → Option β) : Option β :=
zq79 a0 a1 fun r5 =>
zq108  N a2 a3 r5 0 a0 a1 false false (fun e7_0 e7_1 =>
(cond e7_0
((cond e7_1
(k 2)
((cond e7_1
(k 1)
(k 0)))))
((cond e7_1
(k 1)
(k 0)))))
theorem zt109 {β : Type} (N : Nat) (a0 : Int) (a1 : Int) (a2 : Int) (a3 : Int) (k : Int → Option β) : zj109 N a0 a1 a2 a3 k = zb109 N (zj79 N) (zj108 N) a0 a1 a2 a3 k := by
  unfold zj109 zb109
  rfl
theorem ve203_0 {β : Type} (N : Nat) (zq79 : (a0 : Int) → (a1 : Int) → (k : Int → Option β) → Option β) (zq83 : (a0 : Int) → (a1 : Int) → (a2 : Int) → (k : Int → Option β) → Option β) (zq108 : Nat → Int → Int → Int → Int → Int → Int → Bool → Bool → (Bool → Bool → Option β) → Option β)  (a0 : Int) (a1 : Int) (a2 : Int) (a3 : Int) (K : TV → Option β) : evFn lay (VE203 N zq79 zq83 zq108) Try.f203 [.v (.agg [.int .i64 a0, .int .i64 a1]), .v (.one (.int .i64 a2)), .v (.one (.int .i64 a3))] K = zb109 N zq79 zq108 a0 a1 a2 a3 (fun z4 => K (.v (.one (.int .i64 z4)))) := by kernel_rfl
theorem e203_0 {β : Type} (N : Nat)  (a0 : Int) (a1 : Int) (a2 : Int) (a3 : Int) (K : TV → Option β) : evFn lay (E203 N) Try.f203 [.v (.agg [.int .i64 a0, .int .i64 a1]), .v (.one (.int .i64 a2)), .v (.one (.int .i64 a3))] K = zj109 N a0 a1 a2 a3 (fun z4 => K (.v (.one (.int .i64 z4)))) := (ve203_0 N (zj79 N) (zj83 N) (zj108 N) a0 a1 a2 a3 K).trans (zt109 N a0 a1 a2 a3 (fun z4 => K (.v (.one (.int .i64 z4))))).symm
theorem o203 {β : Type} (N : Nat) : SpecOK (β := β) inv Try.prog 203 (S203 N) := by
  refine spec_of lay_ok mixed (E := E203 N) (specs_loops (specs_cons (o96 N) (specs_cons (o97 N) specs_nil))) muts_nil gs_nil Try.func203 (by kernel_rfl) 1 (by kernel_rfl) ⟨trivial, rk203_0 N⟩ fun args K r h => ?_
  unfold S203 VS203 at h
  split at h
  · exact (e203_0 N _ _ _ _ _).trans h
  · cases h
def VS183 {β : Type} (N : Nat) (zq110 : (a0 : Int) → (a1 : Int) → (a2 : Int) → (a3 : Int) → (k : Bool → Option β) → Option β) : Rv.Spec β := fun args K => match args with
  | [.v (.agg [.int .i64 a0, .int .i64 a1]), .v (.one (.int .i64 a2)), .v (.one (.int .i64 a3))] => zq110 a0 a1 a2 a3 (fun z4 => K (.v (.one (.bool z4))))
  | _ => none
def S183 {β : Type} (N : Nat) : Rv.Spec β := VS183 N (zj110 N)
def VE183 {β : Type} (N : Nat) (zq109 : (a0 : Int) → (a1 : Int) → (a2 : Int) → (a3 : Int) → (k : Int → Option β) → Option β) : Env β := ⟨[(203, VS203 N zq109)], [], [], [], ⟨[], [], [], [61]⟩⟩
def E183 {β : Type} (N : Nat) : Env β := VE183 N (zj109 N)
def zb110 {β : Type} (N : Nat) (zq109 : (a0 : Int) → (a1 : Int) → (a2 : Int) → (a3 : Int) → (k : Int → Option β) → Option β) (a0 : Int) (a1 : Int) (a2 : Int) (a3 : Int) (k : Bool → Option β) : Option β :=
zq109 a0 a1 a3 ((bits .and .i64 a2 a3)) fun r5 =>
k ((r5 != 2))
theorem zt110 {β : Type} (N : Nat) (a0 : Int) (a1 : Int) (a2 : Int) (a3 : Int) (k : Bool → Option β) : zj110 N a0 a1 a2 a3 k = zb110 N (zj109 N) a0 a1 a2 a3 k := by
  unfold zj110 zb110
  rfl
theorem ve183_0 {β : Type} (N : Nat) (zq109 : (a0 : Int) → (a1 : Int) → (a2 : Int) → (a3 : Int) → (k : Int → Option β) → Option β)  (a0 : Int) (a1 : Int) (a2 : Int) (a3 : Int) (K : TV → Option β) : evFn lay (VE183 N zq109) Try.f183 [.v (.agg [.int .i64 a0, .int .i64 a1]), .v (.one (.int .i64 a2)), .v (.one (.int .i64 a3))] K = zb110 N zq109 a0 a1 a2 a3 (fun z4 => K (.v (.one (.bool z4)))) := by kernel_rfl
theorem e183_0 {β : Type} (N : Nat)  (a0 : Int) (a1 : Int) (a2 : Int) (a3 : Int) (K : TV → Option β) : evFn lay (E183 N) Try.f183 [.v (.agg [.int .i64 a0, .int .i64 a1]), .v (.one (.int .i64 a2)), .v (.one (.int .i64 a3))] K = zj110 N a0 a1 a2 a3 (fun z4 => K (.v (.one (.bool z4)))) := (ve183_0 N (zj109 N) a0 a1 a2 a3 K).trans (zt110 N a0 a1 a2 a3 (fun z4 => K (.v (.one (.bool z4))))).symm
theorem o183 {β : Type} (N : Nat) : SpecOK (β := β) inv Try.prog 183 (S183 N) := by
  refine spec_of lay_ok mixed (E := E183 N) (specs_loops (specs_cons (o203 N) specs_nil)) muts_nil gs_nil Try.func183 (by kernel_rfl) 0 (by kernel_rfl) trivial fun args K r h => ?_
  unfold S183 VS183 at h
  split at h
  · exact (e183_0 N _ _ _ _ _).trans h
  · cases h
def VS145 {β : Type} (N : Nat) (zq113 : (a0 : Int) → (a1 : Int) → (a2 : Int) → (k : Int → Option β) → Option β) : Rv.Spec β := fun args K => match args with
  | [.v (.agg [.int .i64 a0, .int .i64 a1]), .v (.one (.int .i64 a2))] => zq113 a0 a1 a2 (fun z3 => K (.v (.one (.int .i64 z3))))
  | _ => none
def S145 {β : Type} (N : Nat) : Rv.Spec β := VS145 N (zj113 N)
def h145_0_0  (v0 : Int) (v1 : Int) (v2 : Int) (v3 : Int) (v4 : Int) (v5 : Int) : St := ⟨tund :: .v (.one (.int .i64 v0)) :: .v (.one (.ptr 0 0)) :: tund :: tund :: .v (.one (.int .i64 v1)) :: tund :: tund :: tund :: tund :: tund :: .v (.one (.int .i64 v2)) :: .v (.one (.int .i64 v3)) :: tund :: tund :: tund :: tund :: tund :: tund :: tund :: tund :: tund :: tund :: tund :: tund :: tund :: tund :: tund :: tund :: [], [.cells 27 [.int .i64 v4, .int .i64 v5]]⟩
def x145_0_0_k0  (y0 : Int) : St := ⟨tund :: tund :: tund :: tund :: tund :: .v (.one (.int .i64 y0)) :: tund :: tund :: tund :: tund :: tund :: tund :: tund :: tund :: tund :: tund :: tund :: tund :: tund :: tund :: tund :: tund :: tund :: tund :: tund :: tund :: tund :: tund :: tund :: [], []⟩
theorem fl145_0_0 (s : St) : refSt (h145_0_0 0 0 0 0 0 0) s = h145_0_0 (intS (oneA (vT (nx tund s.tmps 1)))) (intS (oneA (vT (nx tund s.tmps 5)))) (intS (oneA (vT (nx tund s.tmps 11)))) (intS (oneA (vT (nx tund s.tmps 12)))) (intS (nx .und (cellsB (nx .dead s.blks 0)) 0)) (intS (nx .und (cellsB (nx .dead s.blks 0)) 1)) := by kernel_rfl
def VLS145_0 {β : Type} (N : Nat) (zq112 : Nat → Int → Int → Int → Int → Int → Int → (Int → Option β) → Option β) : LSpec β := fun s K => cond (shpSt (h145_0_0 0 0 0 0 0 0) s) ((fun (v0 : Int) (v1 : Int) (v2 : Int) (v3 : Int) (v4 : Int) (v5 : Int) => zq112  N v0 v1 v2 v3 v4 v5 (fun y0 => K (.exit 0) (x145_0_0_k0  y0))) (intS (oneA (vT (nx tund s.tmps 1)))) (intS (oneA (vT (nx tund s.tmps 5)))) (intS (oneA (vT (nx tund s.tmps 11)))) (intS (oneA (vT (nx tund s.tmps 12)))) (intS (nx .und (cellsB (nx .dead s.blks 0)) 0)) (intS (nx .und (cellsB (nx .dead s.blks 0)) 1))) (none)
def LS145_0 {β : Type} (N : Nat) : LSpec β := VLS145_0 N (zj112 N)
def VE145 {β : Type} (N : Nat) (zq79 : (a0 : Int) → (a1 : Int) → (k : Int → Option β) → Option β) (zq106 : (a0 : Int) → (k : Int → Option β) → Option β) (zq110 : (a0 : Int) → (a1 : Int) → (a2 : Int) → (a3 : Int) → (k : Bool → Option β) → Option β) (zq112 : Nat → Int → Int → Int → Int → Int → Int → (Int → Option β) → Option β) : Env β := ⟨[(96, VS96 N zq79), (144, VS144 N zq106), (183, VS183 N zq110)], [], [(0, VLS145_0 N zq112)], [], ⟨[], [], [], [61]⟩⟩
def E145 {β : Type} (N : Nat) : Env β := VE145 N (zj79 N) (zj106 N) (zj110 N) (zj112 N)
def zb111 {β : Type} (N : Nat) (zq106 : (a0 : Int) → (k : Int → Option β) → Option β) (zq110 : (a0 : Int) → (a1 : Int) → (a2 : Int) → (a3 : Int) → (k : Bool → Option β) → Option β)  (v0 : Int) (v1 : Int) (v2 : Int) (v3 : Int) (v4 : Int) (v5 : Int) (rec_ : Int → Int → Int → Int → Int → Int → Option β) (k0 : Int → Option β) : Option β :=
(cond ((decide (v3 < v2)))
(zq106 v3 fun r6 =>
zq106 v1 fun r7 =>
(cond ((decide (r6 < r7)))
(zq110 v4 v5 v0 v3 fun r8 =>
(cond r8
(rec_ v0 v3 v2 ((w64 (v3 + 1))) v4 v5)
(rec_ v0 v1 v2 ((w64 (v3 + 1))) v4 v5)))
(rec_ v0 v1 v2 ((w64 (v3 + 1))) v4 v5)))
(k0 v1))
theorem zt111 {β : Type} (N : Nat)  (v0 : Int) (v1 : Int) (v2 : Int) (v3 : Int) (v4 : Int) (v5 : Int) (rec_ : Int → Int → Int → Int → Int → Int → Option β) (k0 : Int → Option β) : zj111 N v0 v1 v2 v3 v4 v5 rec_ k0 = zb111 N (zj106 N) (zj110 N) v0 v1 v2 v3 v4 v5 rec_ k0 := by
  unfold zj111 zb111
  rfl
theorem vst145_0_0 {β : Type} (N : Nat) (zq79 : (a0 : Int) → (a1 : Int) → (k : Int → Option β) → Option β) (zq106 : (a0 : Int) → (k : Int → Option β) → Option β) (zq110 : (a0 : Int) → (a1 : Int) → (a2 : Int) → (a3 : Int) → (k : Bool → Option β) → Option β) (zq112 : Nat → Int → Int → Int → Int → Int → Int → (Int → Option β) → Option β)  (v0 : Int) (v1 : Int) (v2 : Int) (v3 : Int) (v4 : Int) (v5 : Int) (rec_ : St → Option β) (K : Exit → St → Option β) :
    ev lay (VE145 N zq79 zq106 zq110 zq112) (retMask Try.f145) (lp Try.f145 0).body (lp Try.f145 0).ex ((lp Try.f145 0).lv (retMask Try.f145)) (h145_0_0  v0 v1 v2 v3 v4 v5) (nextR (fun s' => rec_ (s'.tidy ((lp Try.f145 0).lv (retMask Try.f145)))) K) = zb111 N zq106 zq110  v0 v1 v2 v3 v4 v5 (fun v0 v1 v2 v3 v4 v5 => rec_ (h145_0_0  v0 v1 v2 v3 v4 v5)) (fun y0 => K (.exit 0) (x145_0_0_k0  y0)) := by kernel_rfl
theorem st145_0_0 {β : Type} (N : Nat)  (v0 : Int) (v1 : Int) (v2 : Int) (v3 : Int) (v4 : Int) (v5 : Int) (rec_ : St → Option β) (K : Exit → St → Option β) :
    ev lay (E145 N) (retMask Try.f145) (lp Try.f145 0).body (lp Try.f145 0).ex ((lp Try.f145 0).lv (retMask Try.f145)) (h145_0_0  v0 v1 v2 v3 v4 v5) (nextR (fun s' => rec_ (s'.tidy ((lp Try.f145 0).lv (retMask Try.f145)))) K) = zj111 N  v0 v1 v2 v3 v4 v5 (fun v0 v1 v2 v3 v4 v5 => rec_ (h145_0_0  v0 v1 v2 v3 v4 v5)) (fun y0 => K (.exit 0) (x145_0_0_k0  y0)) := (vst145_0_0 N (zj79 N) (zj106 N) (zj110 N) (zj112 N) v0 v1 v2 v3 v4 v5 rec_ K).trans (zt111 N  v0 v1 v2 v3 v4 v5 (fun v0 v1 v2 v3 v4 v5 => rec_ (h145_0_0  v0 v1 v2 v3 v4 v5)) (fun y0 => K (.exit 0) (x145_0_0_k0  y0))).symm
theorem ro145_0_0 {β : Type} (N : Nat)  (K : Exit → St → Option β) : ∀ (F : Nat) (v0 : Int) (v1 : Int) (v2 : Int) (v3 : Int) (v4 : Int) (v5 : Int), (lp Try.f145 0).rounds lay (E145 N) (retMask Try.f145) F (h145_0_0  v0 v1 v2 v3 v4 v5) K = zj112 N  F v0 v1 v2 v3 v4 v5 (fun y0 => K (.exit 0) (x145_0_0_k0  y0)) := by
  intro F
  induction F with
  | zero => intros; rfl
  | succ F ih =>
    intros
    rw [rounds_next]
    refine (st145_0_0 N  _ _ _ _ _ _ (fun s => (lp Try.f145 0).rounds lay (E145 N) (retMask Try.f145) F s K) K).trans ?_
    simp only [ih]
    rfl
theorem lk145_0 {β : Type} (N : Nat) : lookL (E145 (β := β) N).loops (lp Try.f145 0).id = LS145_0 N := by kernel_rfl
theorem rk145_0 {β : Type} (N : Nat) : RoundsOK lay (E145 (β := β) N) (retMask Try.f145) (lp Try.f145 0) := by
  intro s K r h
  rw [lk145_0] at h
  unfold LS145_0 VLS145_0 at h
  cases hb : shpSt (h145_0_0 0 0 0 0 0 0) s with
  | true =>
    rw [hb, cond_true] at h
    exact ⟨N, by rw [← shpSt_ref hb, fl145_0_0 s]; exact (ro145_0_0 N  K N (intS (oneA (vT (nx tund s.tmps 1)))) (intS (oneA (vT (nx tund s.tmps 5)))) (intS (oneA (vT (nx tund s.tmps 11)))) (intS (oneA (vT (nx tund s.tmps 12)))) (intS (nx .und (cellsB (nx .dead s.blks 0)) 0)) (intS (nx .und (cellsB (nx .dead s.blks 0)) 1))).trans h⟩
  | false =>
  rw [hb, cond_false] at h
  clear hb
  cases h
def zb113 {β : Type} (N : Nat) (zq79 : (a0 : Int) → (a1 : Int) → (k : Int → Option β) → Option β) (zq112 : Nat → Int → Int → Int → Int → Int → Int → (Int → Option β) → Option β) (a0 : Int) (a1 : Int) (a2 : Int) (k : Int → Option β) : Option β :=
zq79 a0 a1 fun r4 =>
zq79 a0 a1 fun r5 =>
zq112  N a2 ((w64 (r4 - 1))) r5 0 a0 a1 (fun e9_0 =>
k e9_0)
theorem zt113 {β : Type} (N : Nat) (a0 : Int) (a1 : Int) (a2 : Int) (k : Int → Option β) : zj113 N a0 a1 a2 k = zb113 N (zj79 N) (zj112 N) a0 a1 a2 k := by
  unfold zj113 zb113
  rfl
theorem ve145_0 {β : Type} (N : Nat) (zq79 : (a0 : Int) → (a1 : Int) → (k : Int → Option β) → Option β) (zq106 : (a0 : Int) → (k : Int → Option β) → Option β) (zq110 : (a0 : Int) → (a1 : Int) → (a2 : Int) → (a3 : Int) → (k : Bool → Option β) → Option β) (zq112 : Nat → Int → Int → Int → Int → Int → Int → (Int → Option β) → Option β)  (a0 : Int) (a1 : Int) (a2 : Int) (K : TV → Option β) : evFn lay (VE145 N zq79 zq106 zq110 zq112) Try.f145 [.v (.agg [.int .i64 a0, .int .i64 a1]), .v (.one (.int .i64 a2))] K = zb113 N zq79 zq112 a0 a1 a2 (fun z3 => K (.v (.one (.int .i64 z3)))) := by kernel_rfl
theorem e145_0 {β : Type} (N : Nat)  (a0 : Int) (a1 : Int) (a2 : Int) (K : TV → Option β) : evFn lay (E145 N) Try.f145 [.v (.agg [.int .i64 a0, .int .i64 a1]), .v (.one (.int .i64 a2))] K = zj113 N a0 a1 a2 (fun z3 => K (.v (.one (.int .i64 z3)))) := (ve145_0 N (zj79 N) (zj106 N) (zj110 N) (zj112 N) a0 a1 a2 K).trans (zt113 N a0 a1 a2 (fun z3 => K (.v (.one (.int .i64 z3))))).symm
theorem o145 {β : Type} (N : Nat) : SpecOK (β := β) inv Try.prog 145 (S145 N) := by
  refine spec_of lay_ok mixed (E := E145 N) (specs_loops (specs_cons (o96 N) (specs_cons (o144 N) (specs_cons (o183 N) specs_nil)))) muts_nil gs_nil Try.func145 (by kernel_rfl) 1 (by kernel_rfl) ⟨trivial, rk145_0 N⟩ fun args K r h => ?_
  unfold S145 VS145 at h
  split at h
  · exact (e145_0 N _ _ _ _).trans h
  · cases h
def VS105 {β : Type} (N : Nat) (zq116 : (a0 : Int) → (a1 : Int) → (a2 : Int) → (k : Int → Option β) → Option β) : Rv.Spec β := fun args K => match args with
  | [.v (.agg [.int .i64 a0, .int .i64 a1]), .v (.one (.int .i64 a2))] => zq116 a0 a1 a2 (fun z3 => K (.v (.one (.int .i64 z3))))
  | _ => none
def S105 {β : Type} (N : Nat) : Rv.Spec β := VS105 N (zj116 N)
def h105_0_0  (v0 : Int) (v1 : Int) (v2 : Int) (v3 : Int) (v4 : Int) (v5 : Int) : St := ⟨tund :: .v (.one (.int .i64 v0)) :: .v (.one (.ptr 0 0)) :: tund :: tund :: .v (.one (.int .i64 v1)) :: tund :: tund :: tund :: tund :: tund :: tund :: tund :: tund :: tund :: tund :: .v (.one (.int .i64 v2)) :: .v (.one (.int .i64 v3)) :: tund :: tund :: tund :: tund :: tund :: tund :: tund :: tund :: tund :: tund :: tund :: tund :: tund :: tund :: tund :: [], [.cells 27 [.int .i64 v4, .int .i64 v5]]⟩
def x105_0_0_k0  (y0 : Int) : St := ⟨tund :: tund :: tund :: tund :: tund :: .v (.one (.int .i64 y0)) :: tund :: tund :: tund :: tund :: tund :: tund :: tund :: tund :: tund :: tund :: tund :: tund :: tund :: tund :: tund :: tund :: tund :: tund :: tund :: tund :: tund :: tund :: tund :: tund :: tund :: tund :: tund :: [], []⟩
theorem fl105_0_0 (s : St) : refSt (h105_0_0 0 0 0 0 0 0) s = h105_0_0 (intS (oneA (vT (nx tund s.tmps 1)))) (intS (oneA (vT (nx tund s.tmps 5)))) (intS (oneA (vT (nx tund s.tmps 16)))) (intS (oneA (vT (nx tund s.tmps 17)))) (intS (nx .und (cellsB (nx .dead s.blks 0)) 0)) (intS (nx .und (cellsB (nx .dead s.blks 0)) 1)) := by kernel_rfl
def VLS105_0 {β : Type} (N : Nat) (zq115 : Nat → Int → Int → Int → Int → Int → Int → (Int → Option β) → Option β) : LSpec β := fun s K => cond (shpSt (h105_0_0 0 0 0 0 0 0) s) ((fun (v0 : Int) (v1 : Int) (v2 : Int) (v3 : Int) (v4 : Int) (v5 : Int) => zq115  N v0 v1 v2 v3 v4 v5 (fun y0 => K (.exit 0) (x105_0_0_k0  y0))) (intS (oneA (vT (nx tund s.tmps 1)))) (intS (oneA (vT (nx tund s.tmps 5)))) (intS (oneA (vT (nx tund s.tmps 16)))) (intS (oneA (vT (nx tund s.tmps 17)))) (intS (nx .und (cellsB (nx .dead s.blks 0)) 0)) (intS (nx .und (cellsB (nx .dead s.blks 0)) 1))) (none)
def LS105_0 {β : Type} (N : Nat) : LSpec β := VLS105_0 N (zj115 N)
def VE105 {β : Type} (N : Nat) (zq80 : (a0 : Int) → (a1 : Int) → (k : Bool → Option β) → Option β) (zq104 : (a0 : Int) → (k : Bool → Option β) → Option β) (zq79 : (a0 : Int) → (a1 : Int) → (k : Int → Option β) → Option β) (zq83 : (a0 : Int) → (a1 : Int) → (a2 : Int) → (k : Int → Option β) → Option β) (zq113 : (a0 : Int) → (a1 : Int) → (a2 : Int) → (k : Int → Option β) → Option β) (zq106 : (a0 : Int) → (k : Int → Option β) → Option β) (zq115 : Nat → Int → Int → Int → Int → Int → Int → (Int → Option β) → Option β) : Env β := ⟨[(82, VS82 N zq80), (143, VS143 N zq104), (96, VS96 N zq79), (97, VS97 N zq83), (145, VS145 N zq113), (144, VS144 N zq106)], [], [(0, VLS105_0 N zq115)], [], ⟨[], [], [], [61]⟩⟩
def E105 {β : Type} (N : Nat) : Env β := VE105 N (zj80 N) (zj104 N) (zj79 N) (zj83 N) (zj113 N) (zj106 N) (zj115 N)
def zb114 {β : Type} (N : Nat) (zq83 : (a0 : Int) → (a1 : Int) → (a2 : Int) → (k : Int → Option β) → Option β) (zq113 : (a0 : Int) → (a1 : Int) → (a2 : Int) → (k : Int → Option β) → Option β) (zq106 : (a0 : Int) → (k : Int → Option β) → Option β)  (v0 : Int) (v1 : Int) (v2 : Int) (v3 : Int) (v4 : Int) (v5 : Int) (rec_ : Int → Int → Int → Int → Int → Int → Option β) (k0 : Int → Option β) : Option β :=
(cond ((decide (v3 < v2)))
(zq83 v4 v5 v3 fun r7 =>
(cond ((r7 == v0))
(zq113 v4 v5 v3 fun r8 =>
zq106 r8 fun r9 =>
rec_ v0 ((mxI v1 r9)) v2 ((w64 (v3 + 1))) v4 v5)
(rec_ v0 v1 v2 ((w64 (v3 + 1))) v4 v5)))
(k0 v1))
theorem zt114 {β : Type} (N : Nat)  (v0 : Int) (v1 : Int) (v2 : Int) (v3 : Int) (v4 : Int) (v5 : Int) (rec_ : Int → Int → Int → Int → Int → Int → Option β) (k0 : Int → Option β) : zj114 N v0 v1 v2 v3 v4 v5 rec_ k0 = zb114 N (zj83 N) (zj113 N) (zj106 N) v0 v1 v2 v3 v4 v5 rec_ k0 := by
  unfold zj114 zb114
  rfl
theorem vst105_0_0 {β : Type} (N : Nat) (zq80 : (a0 : Int) → (a1 : Int) → (k : Bool → Option β) → Option β) (zq104 : (a0 : Int) → (k : Bool → Option β) → Option β) (zq79 : (a0 : Int) → (a1 : Int) → (k : Int → Option β) → Option β) (zq83 : (a0 : Int) → (a1 : Int) → (a2 : Int) → (k : Int → Option β) → Option β) (zq113 : (a0 : Int) → (a1 : Int) → (a2 : Int) → (k : Int → Option β) → Option β) (zq106 : (a0 : Int) → (k : Int → Option β) → Option β) (zq115 : Nat → Int → Int → Int → Int → Int → Int → (Int → Option β) → Option β)  (v0 : Int) (v1 : Int) (v2 : Int) (v3 : Int) (v4 : Int) (v5 : Int) (rec_ : St → Option β) (K : Exit → St → Option β) :
    ev lay (VE105 N zq80 zq104 zq79 zq83 zq113 zq106 zq115) (retMask Try.f105) (lp Try.f105 0).body (lp Try.f105 0).ex ((lp Try.f105 0).lv (retMask Try.f105)) (h105_0_0  v0 v1 v2 v3 v4 v5) (nextR (fun s' => rec_ (s'.tidy ((lp Try.f105 0).lv (retMask Try.f105)))) K) = zb114 N zq83 zq113 zq106  v0 v1 v2 v3 v4 v5 (fun v0 v1 v2 v3 v4 v5 => rec_ (h105_0_0  v0 v1 v2 v3 v4 v5)) (fun y0 => K (.exit 0) (x105_0_0_k0  y0)) := by kernel_rfl
theorem st105_0_0 {β : Type} (N : Nat)  (v0 : Int) (v1 : Int) (v2 : Int) (v3 : Int) (v4 : Int) (v5 : Int) (rec_ : St → Option β) (K : Exit → St → Option β) :
    ev lay (E105 N) (retMask Try.f105) (lp Try.f105 0).body (lp Try.f105 0).ex ((lp Try.f105 0).lv (retMask Try.f105)) (h105_0_0  v0 v1 v2 v3 v4 v5) (nextR (fun s' => rec_ (s'.tidy ((lp Try.f105 0).lv (retMask Try.f105)))) K) = zj114 N  v0 v1 v2 v3 v4 v5 (fun v0 v1 v2 v3 v4 v5 => rec_ (h105_0_0  v0 v1 v2 v3 v4 v5)) (fun y0 => K (.exit 0) (x105_0_0_k0  y0)) := (vst105_0_0 N (zj80 N) (zj104 N) (zj79 N) (zj83 N) (zj113 N) (zj106 N) (zj115 N) v0 v1 v2 v3 v4 v5 rec_ K).trans (zt114 N  v0 v1 v2 v3 v4 v5 (fun v0 v1 v2 v3 v4 v5 => rec_ (h105_0_0  v0 v1 v2 v3 v4 v5)) (fun y0 => K (.exit 0) (x105_0_0_k0  y0))).symm
theorem ro105_0_0 {β : Type} (N : Nat)  (K : Exit → St → Option β) : ∀ (F : Nat) (v0 : Int) (v1 : Int) (v2 : Int) (v3 : Int) (v4 : Int) (v5 : Int), (lp Try.f105 0).rounds lay (E105 N) (retMask Try.f105) F (h105_0_0  v0 v1 v2 v3 v4 v5) K = zj115 N  F v0 v1 v2 v3 v4 v5 (fun y0 => K (.exit 0) (x105_0_0_k0  y0)) := by
  intro F
  induction F with
  | zero => intros; rfl
  | succ F ih =>
    intros
    rw [rounds_next]
    refine (st105_0_0 N  _ _ _ _ _ _ (fun s => (lp Try.f105 0).rounds lay (E105 N) (retMask Try.f105) F s K) K).trans ?_
    simp only [ih]
    rfl
theorem lk105_0 {β : Type} (N : Nat) : lookL (E105 (β := β) N).loops (lp Try.f105 0).id = LS105_0 N := by kernel_rfl
theorem rk105_0 {β : Type} (N : Nat) : RoundsOK lay (E105 (β := β) N) (retMask Try.f105) (lp Try.f105 0) := by
  intro s K r h
  rw [lk105_0] at h
  unfold LS105_0 VLS105_0 at h
  cases hb : shpSt (h105_0_0 0 0 0 0 0 0) s with
  | true =>
    rw [hb, cond_true] at h
    exact ⟨N, by rw [← shpSt_ref hb, fl105_0_0 s]; exact (ro105_0_0 N  K N (intS (oneA (vT (nx tund s.tmps 1)))) (intS (oneA (vT (nx tund s.tmps 5)))) (intS (oneA (vT (nx tund s.tmps 16)))) (intS (oneA (vT (nx tund s.tmps 17)))) (intS (nx .und (cellsB (nx .dead s.blks 0)) 0)) (intS (nx .und (cellsB (nx .dead s.blks 0)) 1))).trans h⟩
  | false =>
  rw [hb, cond_false] at h
  clear hb
  cases h
def zb116 {β : Type} (N : Nat) (zq80 : (a0 : Int) → (a1 : Int) → (k : Bool → Option β) → Option β) (zq104 : (a0 : Int) → (k : Bool → Option β) → Option β) (zq79 : (a0 : Int) → (a1 : Int) → (k : Int → Option β) → Option β) (zq115 : Nat → Int → Int → Int → Int → Int → Int → (Int → Option β) → Option β) (a0 : Int) (a1 : Int) (a2 : Int) (k : Int → Option β) : Option β :=
zq80 a0 a1 fun r4 =>
(cond (!r4)
(k (-1))
(zq104 a2 fun r5 =>
(cond (!r5)
(k (-1))
(zq79 a0 a1 fun r6 =>
zq115  N a2 0 r6 0 a0 a1 (fun e10_0 =>
k e10_0)))))
theorem zt116 {β : Type} (N : Nat) (a0 : Int) (a1 : Int) (a2 : Int) (k : Int → Option β) : zj116 N a0 a1 a2 k = zb116 N (zj80 N) (zj104 N) (zj79 N) (zj115 N) a0 a1 a2 k := by
  unfold zj116 zb116
  rfl
theorem ve105_0 {β : Type} (N : Nat) (zq80 : (a0 : Int) → (a1 : Int) → (k : Bool → Option β) → Option β) (zq104 : (a0 : Int) → (k : Bool → Option β) → Option β) (zq79 : (a0 : Int) → (a1 : Int) → (k : Int → Option β) → Option β) (zq83 : (a0 : Int) → (a1 : Int) → (a2 : Int) → (k : Int → Option β) → Option β) (zq113 : (a0 : Int) → (a1 : Int) → (a2 : Int) → (k : Int → Option β) → Option β) (zq106 : (a0 : Int) → (k : Int → Option β) → Option β) (zq115 : Nat → Int → Int → Int → Int → Int → Int → (Int → Option β) → Option β)  (a0 : Int) (a1 : Int) (a2 : Int) (K : TV → Option β) : evFn lay (VE105 N zq80 zq104 zq79 zq83 zq113 zq106 zq115) Try.f105 [.v (.agg [.int .i64 a0, .int .i64 a1]), .v (.one (.int .i64 a2))] K = zb116 N zq80 zq104 zq79 zq115 a0 a1 a2 (fun z3 => K (.v (.one (.int .i64 z3)))) := by kernel_rfl
theorem e105_0 {β : Type} (N : Nat)  (a0 : Int) (a1 : Int) (a2 : Int) (K : TV → Option β) : evFn lay (E105 N) Try.f105 [.v (.agg [.int .i64 a0, .int .i64 a1]), .v (.one (.int .i64 a2))] K = zj116 N a0 a1 a2 (fun z3 => K (.v (.one (.int .i64 z3)))) := (ve105_0 N (zj80 N) (zj104 N) (zj79 N) (zj83 N) (zj113 N) (zj106 N) (zj115 N) a0 a1 a2 K).trans (zt116 N a0 a1 a2 (fun z3 => K (.v (.one (.int .i64 z3))))).symm
theorem o105 {β : Type} (N : Nat) : SpecOK (β := β) inv Try.prog 105 (S105 N) := by
  refine spec_of lay_ok mixed (E := E105 N) (specs_loops (specs_cons (o82 N) (specs_cons (o143 N) (specs_cons (o96 N) (specs_cons (o97 N) (specs_cons (o145 N) (specs_cons (o144 N) specs_nil))))))) muts_nil gs_nil Try.func105 (by kernel_rfl) 1 (by kernel_rfl) ⟨trivial, rk105_0 N⟩ fun args K r h => ?_
  unfold S105 VS105 at h
  split at h
  · exact (e105_0 N _ _ _ _).trans h
  · cases h
def VS174 {β : Type} (N : Nat) (zq117 : (a0 : Int) → (a1 : Int) → (k0 : Int → Int → Mp → Mp → Option β) → Option β) : GSpec β := fun args bl K => match args, bl with
  | [.v (.agg [.int .i64 a0, .int .i64 a1])], [] => zq117 a0 a1 (fun y0 y1 y2 y3 => K (.v (.one (.ptr 0 0))) [.cells 168 [.int .i64 y0, .int .i64 y1, .mp 1, .mp 2], .mp ⟨true, false⟩ y2, .mp ⟨true, false⟩ y3])
  | _, _ => none
def S174 {β : Type} (N : Nat) : GSpec β := VS174 N (zj117 N)
def VE174 {β : Type} (N : Nat) : Env β := ⟨[], [], [], [], ⟨[], [], [], [61]⟩⟩
def E174 {β : Type} (N : Nat) : Env β := VE174 N
def zb117 {β : Type} (N : Nat) (a0 : Int) (a1 : Int) (k0 : Int → Int → Mp → Mp → Option β) : Option β :=
k0 a0 a1 (([] : Mp)) (([] : Mp))
theorem zt117 {β : Type} (N : Nat) (a0 : Int) (a1 : Int) (k0 : Int → Int → Mp → Mp → Option β) : zj117 N a0 a1 k0 = zb117 N a0 a1 k0 := by
  unfold zj117 zb117
  rfl
theorem ve174_0 {β : Type} (N : Nat) (a0 : Int) (a1 : Int) (K : TV → List Blk → Option β) : evFnG lay (VE174 N) Try.f174 [.v (.agg [.int .i64 a0, .int .i64 a1])] [] K = zb117 N a0 a1 (fun y0 y1 y2 y3 => K (.v (.one (.ptr 0 0))) [.cells 168 [.int .i64 y0, .int .i64 y1, .mp 1, .mp 2], .mp ⟨true, false⟩ y2, .mp ⟨true, false⟩ y3]) := by kernel_rfl
theorem e174_0 {β : Type} (N : Nat) (a0 : Int) (a1 : Int) (K : TV → List Blk → Option β) : evFnG lay (E174 N) Try.f174 [.v (.agg [.int .i64 a0, .int .i64 a1])] [] K = zj117 N a0 a1 (fun y0 y1 y2 y3 => K (.v (.one (.ptr 0 0))) [.cells 168 [.int .i64 y0, .int .i64 y1, .mp 1, .mp 2], .mp ⟨true, false⟩ y2, .mp ⟨true, false⟩ y3]) := (ve174_0 N a0 a1 K).trans (zt117 N a0 a1 (fun y0 y1 y2 y3 => K (.v (.one (.ptr 0 0))) [.cells 168 [.int .i64 y0, .int .i64 y1, .mp 1, .mp 2], .mp ⟨true, false⟩ y2, .mp ⟨true, false⟩ y3])).symm
theorem o174 {β : Type} (N : Nat) : GOK (β := β) inv Try.prog 174 (S174 N) := by
  refine g_of lay_ok mixed (E := E174 N) (specs_loops specs_nil) muts_nil gs_nil Try.func174 (by kernel_rfl) 0 (by kernel_rfl) trivial fun args bl K r h => ?_
  unfold S174 VS174 at h
  split at h
  · exact (e174_0 N _ _ _).trans h
  · cases h
def VS204 {β : Type} (N : Nat) (zq118 : (a0 : Int) → (a1 : Int) → (a2 : Int) → (a3 : Int) → (k : Int → Int → Option β) → Option β) : Rv.Spec β := fun args K => match args with
  | [.v (.agg [.int .i64 a0, .int .i64 a1]), .v (.one (.int .i64 a2)), .v (.one (.int .i64 a3))] => zq118 a0 a1 a2 a3 (fun z4 z5 => K (.v (.agg [.int .i64 z4, .int .i64 z5])))
  | _ => none
def S204 {β : Type} (N : Nat) : Rv.Spec β := VS204 N (zj118 N)
def VE204 {β : Type} (N : Nat) : Env β := ⟨[], [], [], [], ⟨[], [], [], [61]⟩⟩
def E204 {β : Type} (N : Nat) : Env β := VE204 N
def zb118 {β : Type} (N : Nat) (a0 : Int) (a1 : Int) (a2 : Int) (a3 : Int) (k : Int → Int → Option β) : Option β :=
(gd ((decide (0 ≤ a2)))
((gd ((decide (0 ≤ a2)))
(k ((bits .or .i64 a0 (shlI .i64 1 a2))) ((bits .or .i64 a1 (shlI .i64 a3 a2)))))))
theorem zt118 {β : Type} (N : Nat) (a0 : Int) (a1 : Int) (a2 : Int) (a3 : Int) (k : Int → Int → Option β) : zj118 N a0 a1 a2 a3 k = zb118 N a0 a1 a2 a3 k := by
  unfold zj118 zb118
  rfl
theorem ve204_0 {β : Type} (N : Nat)  (a0 : Int) (a1 : Int) (a2 : Int) (a3 : Int) (K : TV → Option β) : evFn lay (VE204 N) Try.f204 [.v (.agg [.int .i64 a0, .int .i64 a1]), .v (.one (.int .i64 a2)), .v (.one (.int .i64 a3))] K = zb118 N a0 a1 a2 a3 (fun z4 z5 => K (.v (.agg [.int .i64 z4, .int .i64 z5]))) := by kernel_rfl
theorem e204_0 {β : Type} (N : Nat)  (a0 : Int) (a1 : Int) (a2 : Int) (a3 : Int) (K : TV → Option β) : evFn lay (E204 N) Try.f204 [.v (.agg [.int .i64 a0, .int .i64 a1]), .v (.one (.int .i64 a2)), .v (.one (.int .i64 a3))] K = zj118 N a0 a1 a2 a3 (fun z4 z5 => K (.v (.agg [.int .i64 z4, .int .i64 z5]))) := (ve204_0 N a0 a1 a2 a3 K).trans (zt118 N a0 a1 a2 a3 (fun z4 z5 => K (.v (.agg [.int .i64 z4, .int .i64 z5])))).symm
theorem o204 {β : Type} (N : Nat) : SpecOK (β := β) inv Try.prog 204 (S204 N) := by
  refine spec_of lay_ok mixed (E := E204 N) (specs_loops specs_nil) muts_nil gs_nil Try.func204 (by kernel_rfl) 0 (by kernel_rfl) trivial fun args K r h => ?_
  unfold S204 VS204 at h
  split at h
  · exact (e204_0 N _ _ _ _ _).trans h
  · cases h
end Go.Proofs.Ytfdggelojmofmaa
