/- The functions that the claims dl bK as their texts do. -/
import Derived.Test.YtemihnclhcobnaaGreatDoorE3
namespace Go.Proofs.YtemihnclhcobnaaGreatDoor
set_option linter.unusedSimpArgs false
open Go.Rv
set_option maxRecDepth 100000
set_option maxHeartbeats 2000000
set_option linter.unusedVariables false
variable {β : Type}
variable (zq79 : Y38 β) (zq85 : Y6 β) (zq87 : Y44 β) (zq88 : Y43 β) (zq90 : Y46 β) (zq91 : Y45 β) (zq92 : Y47 β)
def RU (N : Nat) : Rv.Spec β := fun args K => match args with
 | [.v (.one (.int .i64 a0)), .v (.one (.sl 93 (.pairs a1)))] => zq88 a0 a1 (fun z2 => K (.v (.one (.str z2))))
 | _ => none
def S72 (N : Nat) : Rv.Spec β := RU (Hu N) N
def lr (v0 : Int) (v1 : List (Int × Int)) (v2 : ByteArray) (v3 : Int) : St := ⟨(Z' v0) :: .v (.one (.sl 93 (.pairs v1))) :: tn 3 (.v (.one (.str v2)) :: (Z' v3) :: tn 31 []), []⟩
def mK (y0 : Int) (y1 : List (Int × Int)) (y2 : ByteArray) : St := ⟨(Z' y0) :: .v (.one (.sl 93 (.pairs y1))) :: tn 3 (.v (.one (.str y2)) :: tn 32 []), []⟩
def wO {γ : Type} (f : Int → (List (Int × Int)) → ByteArray → Int → γ) (s : St) : γ := f (ae (ag (vT (nx ac s.tmps 0)))) (aL (bg (ag (vT (nx ac s.tmps 1))))) (G4 (ag (vT (nx ac s.tmps 5)))) (ae (ag (vT (nx ac s.tmps 6))))
theorem IU (s : St) : aT (lr 0 [] ByteArray.empty 0) s = wO lr s := by kernel_rfl
def C5 (N : Nat) : ay β := fun s K => cond (aK (lr 0 [] ByteArray.empty 0) s) (wO (fun v0 v1 v2 v3 => zq87 N v0 v1 v2 v3 (fun y0 y1 y2 => K (.exit 0) (mK y0 y1 y2))) s) (none)
def Ru (N : Nat) : ay β := C5 (tO N) N
def RJ (N : Nat) : Env β := ⟨[(122, Db zq85 N), (140, De zq79 N)], [], [(0, C5 zq87 N)], [], ⟨[], [], [], []⟩⟩
def E72 (N : Nat) : Env β := RJ (te N) (nX N) (tO N) N
theorem Hf (N : Nat) (v0 : Int) (v1 : List (Int × Int)) (v2 : ByteArray) (v3 : Int) (rec_ : St → O β) (K : Exit → St → O β) :
  stB lay (RJ zq79 zq85 zq87 N) Tryz.f72 0 (lr v0 v1 v2 v3) rec_ K = Qo zq79 zq85 N v0 v1 v2 v3 (fun v0 v1 v2 v3 => rec_ (lr v0 v1 v2 v3)) (fun y0 y1 y2 => K (.exit 0) (mK y0 y1 y2)) := by kernel_rfl
theorem J6 (N : Nat) (K : Exit → St → O β) : ∀ (F : Nat) (v0 : Int) (v1 : List (Int × Int)) (v2 : ByteArray) (v3 : Int), (lp Tryz.f72 0).rounds lay (E72 N) (ah Tryz.f72) F (lr v0 v1 v2 v3) K = tO N F v0 v1 v2 v3 (fun y0 y1 y2 => K (.exit 0) (mK y0 y1 y2)) := by
 intro F; induction F with
 | zero => intros; rfl
 | succ F ih => intros; rw [am]; refine (Hf (te N) (nX N) (tO N) N _ _ _ _ (fun s => (lp Tryz.f72 0).rounds lay (E72 N) (ah Tryz.f72) F s K) K).trans ?_; simp only [ih]; rfl
theorem Sr (N : Nat) : aS (E72 (β := β) N).loops (lp Tryz.f72 0).id = Ru N := by kernel_rfl
theorem S8 (N : Nat) : az lay (E72 (β := β) N) (ah Tryz.f72) (lp Tryz.f72 0) := rks (Sr ..) (rc1 (fun s K hb => ⟨N, by rw [← ar hb, IU s]; unfold wO; exact J6 N K N _ _ _ _⟩) rc0)
theorem TK (N : Nat) (a0 : Int) (a1 : List (Int × Int)) (K : TV → O β) : aQ lay (RJ zq79 zq85 zq87 N) Tryz.f72 [(Z' a0), .v (.one (.sl 93 (.pairs a1)))] K = Uq zq85 zq87 N a0 a1 (fun z2 => K (.v (.one (.str z2)))) := by kernel_rfl
theorem o72 (N : Nat) : ap (β := β) inv Tryz.prog 72 (S72 N) := by
 refine aq ax mixed (E := E72 N) (af (aa (Wc N) (aa (Wf N) ai))) ak aA Tryz.func72 (by kernel_rfl) 1 (by kernel_rfl) ⟨trivial, S8 N⟩ fun args K r h => ?_
 unfold S72 RU at h
 split at h
 ·exact (TK (te N) (nX N) (tO N) N _ _ _).trans h
 ·cases h
def RO (N : Nat) : Rv.Spec β := fun args K => match args with
 | [.v (.one (.int .i64 a0))] => zq91 a0 (fun z1 => K (.v (.one (.str z1))))
 | _ => none
def S23 (N : Nat) : Rv.Spec β := RO (Hv N) N
def lm (v0 : Int) (v1 : ByteArray) (v2 : Bool) : St := ⟨(Z' v0) :: ac :: ac :: .v (.one (.str v1)) :: .v (.one (.bool v2)) :: tn 26 [], []⟩
def mG (y0 : ByteArray) (y1 : Bool) : St := ⟨tn 3 (.v (.one (.str y0)) :: .v (.one (.bool y1)) :: tn 26 []), []⟩
def wL {γ : Type} (f : Int → ByteArray → Bool → γ) (s : St) : γ := f (ae (ag (vT (nx ac s.tmps 0)))) (G4 (ag (vT (nx ac s.tmps 3)))) (o0 (ag (vT (nx ac s.tmps 4))))
theorem IP (s : St) : aT (lm 0 ByteArray.empty false) s = wL lm s := by kernel_rfl
def C2 (N : Nat) : ay β := fun s K => cond (aK (lm 0 ByteArray.empty false) s) (wL (fun v0 v1 v2 => zq90 N v0 v1 v2 (fun y0 y1 => K (.exit 0) (mG y0 y1))) s) (none)
def Rr (N : Nat) : ay β := C2 (tP N) N
def RG (N : Nat) : Env β := ⟨[], [], [(0, C2 zq90 N)], [], ⟨[], [], [], []⟩⟩
def E23 (N : Nat) : Env β := RG (tP N) N
theorem Hc (N : Nat) (v0 : Int) (v1 : ByteArray) (v2 : Bool) (rec_ : St → O β) (K : Exit → St → O β) :
  stB lay (RG zq90 N) Tryz.f23 0 (lm v0 v1 v2) rec_ K = Ur N v0 v1 v2 (fun v0 v1 v2 => rec_ (lm v0 v1 v2)) (fun y0 y1 => K (.exit 0) (mG y0 y1)) := by kernel_rfl
theorem J3 (N : Nat) (K : Exit → St → O β) : ∀ (F : Nat) (v0 : Int) (v1 : ByteArray) (v2 : Bool), (lp Tryz.f23 0).rounds lay (E23 N) (ah Tryz.f23) F (lm v0 v1 v2) K = tP N F v0 v1 v2 (fun y0 y1 => K (.exit 0) (mG y0 y1)) := by
 intro F; induction F with
 | zero => intros; rfl
 | succ F ih => intros; rw [am]; refine (Hc (tP N) N _ _ _ (fun s => (lp Tryz.f23 0).rounds lay (E23 N) (ah Tryz.f23) F s K) K).trans ?_; simp only [ih]; rfl
theorem So (N : Nat) : aS (E23 (β := β) N).loops (lp Tryz.f23 0).id = Rr N := by kernel_rfl
theorem S4 (N : Nat) : az lay (E23 (β := β) N) (ah Tryz.f23) (lp Tryz.f23 0) := rks (So ..) (rc1 (fun s K hb => ⟨N, by rw [← ar hb, IP s]; unfold wL; exact J3 N K N _ _ _⟩) rc0)
theorem Ty (N : Nat) (a0 : Int) (K : TV → O β) : aQ lay (RG zq90 N) Tryz.f23 [(Z' a0)] K = Us zq90 N a0 (fun z1 => K (.v (.one (.str z1)))) := by kernel_rfl
theorem o23 (N : Nat) : ap (β := β) inv Tryz.prog 23 (S23 N) := by
 refine aq ax mixed (E := E23 N) (af ai) ak aA Tryz.func23 (by kernel_rfl) 1 (by kernel_rfl) ⟨trivial, S4 N⟩ fun args K r h => ?_
 unfold S23 RO at h
 split at h
 ·exact (Ty (tP N) N _ _).trans h
 ·cases h
def H8 (N : Nat) : Rv.Spec β := fun args K => match args with
 | [.v (.one (.int .i64 a0))] => zq92 a0 (fun z1 => K (.v (.one (.int .i64 z1))))
 | _ => none
def U8 (N : Nat) : Rv.Spec β := H8 (oW N) N
def QJ (N : Nat) : Env β := ⟨[], [], [], [], ⟨[], [], [], []⟩⟩
def W9 (N : Nat) : Env β := QJ N
theorem Py (N : Nat) (a0 : Int) (K : TV → O β) : aQ lay (QJ N) Tryz.f160 [(Z' a0)] K = Ut N a0 (fun z1 => K ((Z' z1))) := by kernel_rfl
theorem XU (N : Nat) : ap (β := β) inv Tryz.prog 160 (U8 N) := by
 refine aq ax mixed (E := W9 N) (af ai) ak aA Tryz.func160 (by kernel_rfl) 0 (by kernel_rfl) trivial fun args K r h => ?_
 unfold U8 H8 at h
 split at h
 ·exact (Py N _ _).trans h
 ·cases h
end Go.Proofs.YtemihnclhcobnaaGreatDoor
