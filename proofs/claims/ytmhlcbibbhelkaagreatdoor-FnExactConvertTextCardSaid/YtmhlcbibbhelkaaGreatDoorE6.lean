/- The functions that the claims cZ bz as their texts do. -/
import Derived.Test.YtmhlcbibbhelkaaGreatDoorE5
namespace Go.Proofs.YtmhlcbibbhelkaaGreatDoor
set_option linter.unusedSimpArgs false
open Go.Rv
set_option maxRecDepth 100000
set_option maxHeartbeats 2000000
set_option linter.unusedVariables false
variable {β : Type}
variable (ad5 : Y0 β) (aey : Y66 β) (aep : Y19 β) (afE : Y70 β) (aeD : Y69 β) (afF : Y71 β) (aej : Y73 β)
def AI (N G : Nat) : Rv.Spec β := fun args K => match args with
 | [.v (.agg [.int .i64 a0, .int .i64 a1]), .v (.one (.int .i64 a2)), .v (.one (.int .i64 a3))] => aeD G a0 a1 a2 a3 (fun z4 => K (.v (.one (.str z4))))
 | _ => none
def JV (N G : Nat) : Rv.Spec β := AI (fZ N) N G
def acU (N : Nat) : Rv.Spec β := AI aeD N N
def S49 (N : Nat) : Rv.Spec β := JV N N
def la (v0 v1 v2 v3 v4 v5 : Int) : St := ⟨ac :: (Z' v0) :: (Z' v1) :: .v (.one (.ptr 0 0)) :: tn 4 ((Z' v2) :: (Z' v3) :: tn 67 []), [.cells 26 [.int .i64 v4, .int .i64 v5]]⟩
def nU (y0 : ByteArray) : St := ⟨tn 6 (.v (.one (.str y0)) :: tn 70 []), []⟩
def nV : St := ⟨tn 77 [], []⟩
def zp {γ : Type} (f : Int → Int → Int → Int → Int → Int → γ) (s : St) : γ := f (af (ah (vT (nx ac s.tmps 1)))) (af (ah (vT (nx ac s.tmps 2)))) (af (ah (vT (nx ac s.tmps 8)))) (af (ah (vT (nx ac s.tmps 9)))) (af (nx .und (aj (nx .dead s.blks 0)) 0)) (af (nx .und (aj (nx .dead s.blks 0)) 1))
theorem Lp (s : St) : aP (la 0 0 0 0 0 0) s = zp la s := by kernel_rfl
def ES (N G : Nat) : ax β := fun s K => cond (aJ (la 0 0 0 0 0 0) s) (zp (fun v0 v1 v2 v3 v4 v5 => afE (aeD G) N v0 v1 v2 v3 v4 v5 (fun y0 => K .ret (nU y0)) (K (.exit 0) (nV ))) s) (none)
def Ub (N G : Nat) : ax β := ES (mh N) (fZ N) N G
def UK (N G : Nat) : Env β := ⟨[(78, Qi aey N), (79, ac2 aep N), (49, AI aeD N G)], [], [(0, ES afE aeD N G)], [], ⟨[], [], [], []⟩⟩
def E49 (N G : Nat) : Env β := UK (km N) (fY N) (mh N) (fZ N) N G
theorem IZ (N G : Nat) (v0 v1 v2 v3 v4 v5 : Int) (rec_ : St → O β) (K : Exit → St → O β) :
  stB lay (UK aey aep afE aeD N G) Tryz.f49 0 (la v0 v1 v2 v3 v4 v5) rec_ K = Ov (aep N) N (aeD G) v0 v1 v2 v3 v4 v5 (fun v0 v1 v2 v3 v4 v5 => rec_ (la v0 v1 v2 v3 v4 v5)) (fun y0 => K .ret (nU y0)) (K (.exit 0) (nV )) := by kernel_rfl
theorem Nl (N G : Nat) (K : Exit → St → O β) : ∀ (F : Nat) (v0 v1 v2 v3 v4 v5 : Int), (lp Tryz.f49 0).rounds lay (E49 N G) (ai Tryz.f49) F (la v0 v1 v2 v3 v4 v5) K = mh N (fZ N G) F v0 v1 v2 v3 v4 v5 (fun y0 => K .ret (nU y0)) (K (.exit 0) (nV )) := by
 intro F; induction F with
 | zero => intros; rfl
 | succ F ih => intros; rw [am]; refine (IZ (km N) (fY N) (mh N) (fZ N) N G _ _ _ _ _ _ (fun s => (lp Tryz.f49 0).rounds lay (E49 N G) (ai Tryz.f49) F s K) K).trans ?_; simp only [ih]; rfl
theorem Wo (N G : Nat) : aS (E49 (β := β) N G).loops (lp Tryz.f49 0).id = Ub N G := by kernel_rfl
theorem Xw (N G : Nat) : ay lay (E49 (β := β) N G) (ai Tryz.f49) (lp Tryz.f49 0) := rks (Wo ..) (rc1 (fun s K hb => ⟨N, by rw [← ar hb, Lp s]; unfold zp; exact Nl N _ K N _ _ _ _ _ _⟩) rc0)
theorem YJ (N G : Nat) (a0 a1 a2 a3 : Int) (K : TV → O β) : aL lay (UK aey aep afE aeD N G) Tryz.f49 [.v (.agg [.int .i64 a0, .int .i64 a1]), (Z' a2), (Z' a3)] K = Ow aey (aep N) afE N (aeD G) a0 a1 a2 a3 (fun z4 => K (.v (.one (.str z4)))) := by kernel_rfl
theorem z49 (N : Nat) : ∀ args K r, JV (β := β) N 0 args K = some r → (none : O β) = some r := by
 intro args K r h
 unfold JV AI at h
 split at h <;> exact h
theorem adx (N : Nat) : ∀ G, ao (β := β) inv Tryz.prog 49 (JV N G) := by
 intro G
 induction G with
 | zero => exact dG Tryz.func49 (by kernel_rfl) (z49 N)
 | succ G ih =>
  refine ap au mixed (E := E49 N G) (ae (aa (o78 N) (aa (o79 N) (aa ih ag)))) ak av Tryz.func49 (by kernel_rfl) 1 (by kernel_rfl) ⟨trivial, Xw N G⟩ fun args K r h => ?_
  unfold JV AI at h
  split at h
  ·exact (YJ (km N) (fY N) (mh N) (fZ N) N G _ _ _ _ _).trans h
  ·cases h
theorem o49 (N : Nat) : ao (β := β) inv Tryz.prog 49 (S49 N) := adx N N
def U5 (N : Nat) : Rv.Spec β := fun args K => match args with
 | [.v (.agg [.int .i64 a0, .int .i64 a1])] => afF a0 a1 (fun z2 z3 => K (.tup [.one (.str z2), .one (.bool z3)]))
 | _ => none
def S22 (N : Nat) : Rv.Spec β := U5 (xp N) N
def aaE (N : Nat) : Env β := ⟨[(17, AE ad5 N), (49, acU aeD N)], [], [], [], ⟨[], [], [], []⟩⟩
def E22 (N : Nat) : Env β := aaE (eU N) (fZ N) N
theorem Yi (N : Nat) (a0 a1 : Int) (K : TV → O β) : aL lay (aaE ad5 aeD N) Tryz.f22 [.v (.agg [.int .i64 a0, .int .i64 a1])] K = Ox ad5 (aeD N) N a0 a1 (fun z2 z3 => K (.tup [.one (.str z2), .one (.bool z3)])) := by kernel_rfl
theorem o22 (N : Nat) : ao (β := β) inv Tryz.prog 22 (S22 N) := by
 refine ap au mixed (E := E22 N) (ae (aa (o17 N) (aa (o49 N) ag))) ak av Tryz.func22 (by kernel_rfl) 0 (by kernel_rfl) trivial fun args K r h => ?_
 unfold S22 U5 at h
 split at h
 ·exact (Yi (eU N) (fZ N) N _ _ _).trans h
 ·cases h
def Vr (N : Nat) : Rv.Spec β := fun args K => match args with
 | [.v (.one (.int .i64 a0))] => aej a0 (fun z1 => K (.v (.one (.int .i64 z1))))
 | _ => none
def S80 (N : Nat) : Rv.Spec β := Vr (ik N) N
def aa8 (N : Nat) : Env β := ⟨[], [], [], [], ⟨[], [], [], []⟩⟩
def E80 (N : Nat) : Env β := aa8 N
theorem Zq (N : Nat) (a0 : Int) (K : TV → O β) : aL lay (aa8 N) Tryz.f80 [(Z' a0)] K = Oy N a0 (fun z1 => K ((Z' z1))) := by kernel_rfl
theorem o80 (N : Nat) : ao (β := β) inv Tryz.prog 80 (S80 N) := by
 refine ap au mixed (E := E80 N) (ae ag) ak av Tryz.func80 (by kernel_rfl) 0 (by kernel_rfl) trivial fun args K r h => ?_
 unfold S80 Vr at h
 split at h
 ·exact (Zq N _ _).trans h
 ·cases h
end Go.Proofs.YtmhlcbibbhelkaaGreatDoor
