/- The functions that the claims cY bz as their texts do. -/
import Derived.Test.YtemihnclhcobnaaGreatDoorE5
namespace Go.Proofs.YtemihnclhcobnaaGreatDoor
set_option linter.unusedSimpArgs false
open Go.Rv
set_option maxRecDepth 100000
set_option maxHeartbeats 2000000
set_option linter.unusedVariables false
variable {β : Type}
variable (ag5 : Y0 β) (ahy : Y66 β) (ahp : Y19 β) (aiE : Y70 β) (ahD : Y69 β) (aiF : Y71 β) (ahj : Y73 β)
variable (N : Nat)
def su (N G : Nat) : Rv.Spec β := fun args K => match args with
 | [.v (.agg [.int .i64 a0, .int .i64 a1]), .v (.one (.int .i64 a2)), .v (.one (.int .i64 a3))] => ahD G a0 a1 a2 a3 (fun z4 => K (.v (.one (.str z4))))
 | _ => none
def AG (G : Nat) : Rv.Spec β := su (gj N) N G
def acM : Rv.Spec β := su ahD N N
def afq : Rv.Spec β := AG N N
def ib (v0 v1 v2 v3 v4 v5 : Int) : St := ⟨ac :: (Z' v0) :: (Z' v1) :: .v (.one (.ptr 0 0)) :: tn 4 ((Z' v2) :: (Z' v3) :: tn 67 []), [.cells 25 [.int .i64 v4, .int .i64 v5]]⟩
def kQ (y0 : ByteArray) : St := ⟨tn 6 (.v (.one (.str y0)) :: tn 70 []), []⟩
def kR : St := ⟨tn 77 [], []⟩
def us {γ : Type} (f : Int -> Int -> Int -> Int -> Int -> Int -> γ) (s : St) : γ := f (af (ah (vT (nx ac s.tmps 1)))) (af (ah (vT (nx ac s.tmps 2)))) (af (ah (vT (nx ac s.tmps 8)))) (af (ah (vT (nx ac s.tmps 9)))) (af (nx .und (ak (nx .dead s.blks 0)) 0)) (af (nx .und (ak (nx .dead s.blks 0)) 1))
theorem I2 (s : St) : aP (ib 0 0 0 0 0 0) s = us ib s := by kernel_rfl
def A9 (G : Nat) : ax β := fun s K => cond (aJ (ib 0 0 0 0 0 0) s) (us (fun v0 v1 v2 v3 v4 v5 => aiE (ahD G) N v0 v1 v2 v3 v4 v5 (fun y0 => K .ret (kQ y0)) (K (.exit 0) (kR ))) s) (none)
def Rf (G : Nat) : ax β := A9 (m8 N) (gj N) N G
def LI (G : Nat) : Env β := ⟨[(205, Gv ahy N), (206, acV ahp N), (143, su ahD N G)], [], [(0, A9 aiE ahD N G)], [], ⟨[], [], [], []⟩⟩
def QP (G : Nat) : Env β := LI (lU N) (gh N) (m8 N) (gj N) N G
theorem Fe (G : Nat) (v0 v1 v2 v3 v4 v5 : Int) (rec_ : St -> O β) (K : Exit -> St -> O β) :
  stB lay (LI ahy ahp aiE ahD N G) Tryz.f143 0 (ib v0 v1 v2 v3 v4 v5) rec_ K = Po (ahp N) N (ahD G) v0 v1 v2 v3 v4 v5 (fun v0 v1 v2 v3 v4 v5 => rec_ (ib v0 v1 v2 v3 v4 v5)) (fun y0 => K .ret (kQ y0)) (K (.exit 0) (kR )) := by kernel_rfl
theorem J8 (G : Nat) (K : Exit -> St -> O β) : ∀ (F : Nat) (v0 v1 v2 v3 v4 v5 : Int), (lp Tryz.f143 0).rounds lay (QP N G) (ai Tryz.f143) F (ib v0 v1 v2 v3 v4 v5) K = m8 N (gj N G) F v0 v1 v2 v3 v4 v5 (fun y0 => K .ret (kQ y0)) (K (.exit 0) (kR )) := by
 intro F; induction F with
 | zero => intros; rfl
 | succ F ih => intros; rw [am]; refine (Fe (lU N) (gh N) (m8 N) (gj N) N G _ _ _ _ _ _ (fun s => (lp Tryz.f143 0).rounds lay (QP N G) (ai Tryz.f143) F s K) K).trans ?_; simp only [ih]; rfl
theorem Sn (G : Nat) : aS (QP (β := β) N G).loops (lp Tryz.f143 0).id = Rf N G := by kernel_rfl
theorem Tv (G : Nat) : ay lay (QP (β := β) N G) (ai Tryz.f143) (lp Tryz.f143 0) := rks (Sn ..) (rc1 (fun s K hb => ⟨N, by rw [<- ar hb, I2 s]; unfold us; exact J8 N _ K N _ _ _ _ _ _⟩) rc0)
theorem UC (G : Nat) (a0 a1 a2 a3 : Int) (K : TV -> O β) : aL lay (LI ahy ahp aiE ahD N G) Tryz.f143 [.v (.agg [.int .i64 a0, .int .i64 a1]), (Z' a2), (Z' a3)] K = Pp ahy (ahp N) aiE N (ahD G) a0 a1 a2 a3 (fun z4 => K (.v (.one (.str z4)))) := by kernel_rfl
theorem agF : ∀ args K r, AG (β := β) N 0 args K = some r -> (none : O β) = some r := by
 intro args K r h
 unfold AG su at h
 split at h <;> exact h
theorem adS : ∀ G, ao (β := β) inv Tryz.prog 143 (AG N G) := by
 intro G
 induction G with
 | zero => exact dG Tryz.func143 (by kernel_rfl) (agF N)
 | succ G ih =>
  refine ap au mixed (E := QP N G) (ae (aa (adM N) (aa (agl N) (aa ih ag)))) aj av Tryz.func143 (by kernel_rfl) 1 (by kernel_rfl) ⟨trivial, Tv N G⟩ fun args K r h => ?_
  unfold AG su at h
  split at h
  ·exact (UC (lU N) (gh N) (m8 N) (gj N) N G _ _ _ _ _).trans h
  ·cases h
theorem af0 : ao (β := β) inv Tryz.prog 143 (afq N) := adS N N
def Yh (N : Nat) : Rv.Spec β := fun args K => match args with
 | [.v (.agg [.int .i64 a0, .int .i64 a1])] => aiF a0 a1 (fun z2 z3 => K (.tup [.one (.str z2), .one (.bool z3)]))
 | _ => none
def S73 : Rv.Spec β := Yh (yn N) N
def acB : Env β := ⟨[(20, Bx ag5 N), (143, acM ahD N)], [], [], [], ⟨[], [], [], []⟩⟩
def E73 : Env β := acB (eT N) (gj N) N
theorem aaC (a0 a1 : Int) (K : TV -> O β) : aL lay (acB ag5 ahD N) Tryz.f73 [.v (.agg [.int .i64 a0, .int .i64 a1])] K = Pq ag5 (ahD N) N a0 a1 (fun z2 z3 => K (.tup [.one (.str z2), .one (.bool z3)])) := by kernel_rfl
theorem o73 : ao (β := β) inv Tryz.prog 73 (S73 N) := by
 refine ap au mixed (E := E73 N) (ae (aa (o20 N) (aa (af0 N) ag))) aj av Tryz.func73 (by kernel_rfl) 0 (by kernel_rfl) trivial fun args K r h => ?_
 unfold S73 Yh at h
 split at h
 ·exact (aaC (eT N) (gj N) N _ _ _).trans h
 ·cases h
def L9 (N : Nat) : Rv.Spec β := fun args K => match args with
 | [.v (.one (.int .i64 a0))] => ahj a0 (fun z1 => K (.v (.one (.int .i64 z1))))
 | _ => none
def abS : Rv.Spec β := L9 (iT N) N
def Wi (N : Nat) : Env β := ⟨[], [], [], [], ⟨[], [], [], []⟩⟩
def aeU : Env β := Wi N
theorem UK (a0 : Int) (K : TV -> O β) : aL lay (Wi N) Tryz.f160 [(Z' a0)] K = Pr N a0 (fun z1 => K ((Z' z1))) := by kernel_rfl
theorem af9 : ao (β := β) inv Tryz.prog 160 (abS N) := by
 refine ap au mixed (E := aeU N) (ae ag) aj av Tryz.func160 (by kernel_rfl) 0 (by kernel_rfl) trivial fun args K r h => ?_
 unfold abS L9 at h
 split at h
 ·exact (UK N _ _).trans h
 ·cases h
end Go.Proofs.YtemihnclhcobnaaGreatDoor
