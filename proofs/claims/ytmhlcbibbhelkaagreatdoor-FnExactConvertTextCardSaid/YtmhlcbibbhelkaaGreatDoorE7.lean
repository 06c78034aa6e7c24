/- The functions that the claims cZ bz as their texts do. -/
import Derived.Test.YtmhlcbibbhelkaaGreatDoorE6
namespace Go.Proofs.YtmhlcbibbhelkaaGreatDoor
set_option linter.unusedSimpArgs false
open Go.Rv
set_option maxRecDepth 100000
set_option maxHeartbeats 2000000
set_option linter.unusedVariables false
variable {β : Type}
variable (aeH : Y2 β) (ad5 : Y0 β) (aej : Y73 β) (aeP : Y75 β) (aeQ : Y78 β) (aeR : Y77 β) (aeS : Y76 β) (aec : Y74 β) (afG : Y71 β)
def AJ (N G : Nat) : Rv.Spec β := fun args K => match args with
 | [.v (.one (.sl 3 (.ints .i64 a0))), .v (.one (.int .i64 a1)), .v (.one (.int .i64 a2))] => aec G a0 a1 a2 (fun z3 => K (.v (.one (.str z3))))
 | _ => none
def JW (N G : Nat) : Rv.Spec β := AJ (dr N) N G
def acV (N : Nat) : Rv.Spec β := AJ aec N N
def S50 (N : Nat) : Rv.Spec β := JW N N
def lb (v0 : List Int) (v1 v2 v3 : Int) : St := ⟨.v (.one (.sl 3 (.ints .i64 v0))) :: (Z' v1) :: (Z' v2) :: tn 4 ((Z' v3) :: tn 120 []), []⟩
def nW (y0 : ByteArray) : St := ⟨tn 6 (.v (.one (.str y0)) :: tn 121 []), []⟩
def nX (y0 : List Int) (y1 y2 : Int) : St := ⟨.v (.one (.sl 3 (.ints .i64 y0))) :: (Z' y1) :: (Z' y2) :: tn 125 [], []⟩
def iN (v0 : List Int) (v1 v2 v3 : Int) : St := ⟨.v (.one (.sl 3 (.ints .i64 v0))) :: (Z' v1) :: (Z' v2) :: tn 5 ((Z' v3) :: tn 119 []), []⟩
def nY (y0 : ByteArray) : St := ⟨tn 6 (.v (.one (.str y0)) :: tn 121 []), []⟩
def nZ : St := ⟨tn 128 [], []⟩
def iO (v0 : List Int) (v1 v2 v3 v4 : Int) : St := ⟨.v (.one (.sl 3 (.ints .i64 v0))) :: (Z' v1) :: (Z' v2) :: tn 5 ((Z' v3) :: (Z' v4) :: tn 118 []), []⟩
def n0 (y0 : ByteArray) : St := ⟨tn 6 (.v (.one (.str y0)) :: tn 121 []), []⟩
def n3 (y0 : List Int) (y1 y2 y3 : Int) : St := ⟨.v (.one (.sl 3 (.ints .i64 y0))) :: (Z' y1) :: (Z' y2) :: tn 5 ((Z' y3) :: tn 119 []), []⟩
def iP (v0 : List Int) (v1 v2 v3 v4 v5 : Int) : St := ⟨.v (.one (.sl 3 (.ints .i64 v0))) :: (Z' v1) :: (Z' v2) :: tn 5 ((Z' v3) :: (Z' v4) :: (Z' v5) :: tn 117 []), []⟩
def n4 (y0 : ByteArray) : St := ⟨tn 6 (.v (.one (.str y0)) :: tn 121 []), []⟩
def n5 (y0 : List Int) (y1 y2 y3 y4 : Int) : St := ⟨.v (.one (.sl 3 (.ints .i64 y0))) :: (Z' y1) :: (Z' y2) :: tn 5 ((Z' y3) :: (Z' y4) :: tn 118 []), []⟩
def zq {γ : Type} (f : List Int → Int → Int → Int → γ) (s : St) : γ := f (aY (bF (ah (vT (nx ac s.tmps 0))))) (af (ah (vT (nx ac s.tmps 1)))) (af (ah (vT (nx ac s.tmps 2)))) (af (ah (vT (nx ac s.tmps 7))))
theorem Lq (s : St) : aP (lb [] 0 0 0) s = zq lb s := by kernel_rfl
def ET (N G : Nat) : ax β := fun s K => cond (aJ (lb [] 0 0 0) s) (zq (fun v0 v1 v2 v3 => aeP N v0 v1 v2 v3 (fun y0 => K .ret (nW y0)) (fun y0 y1 y2 => K (.exit 0) (nX y0 y1 y2))) s) (none)
def Uc (N G : Nat) : ax β := ET (ko N) N G
def Rc {γ : Type} (f : List Int → Int → Int → Int → γ) (s : St) : γ := f (aY (bF (ah (vT (nx ac s.tmps 0))))) (af (ah (vT (nx ac s.tmps 1)))) (af (ah (vT (nx ac s.tmps 2)))) (af (ah (vT (nx ac s.tmps 8))))
theorem Lr (s : St) : aP (iN [] 0 0 0) s = Rc iN s := by kernel_rfl
def xL (N G : Nat) : ax β := fun s K => cond (aJ (iN [] 0 0 0) s) ((fun (v0 : List Int) (v1 v2 v3 : Int) => aeS (aec G) N v0 v1 v2 v3 (fun y0 => K .ret (nY y0)) (K (.exit 2) (nZ ))) (aY (bF (ah (vT (nx ac s.tmps 0))))) (af (ah (vT (nx ac s.tmps 1)))) (af (ah (vT (nx ac s.tmps 2)))) (af (ah (vT (nx ac s.tmps 8))))) (none)
def JL (N G : Nat) : ax β := xL (im N) (dr N) N G
def Rd {γ : Type} (f : List Int → Int → Int → Int → Int → γ) (s : St) : γ := f (aY (bF (ah (vT (nx ac s.tmps 0))))) (af (ah (vT (nx ac s.tmps 1)))) (af (ah (vT (nx ac s.tmps 2)))) (af (ah (vT (nx ac s.tmps 8)))) (af (ah (vT (nx ac s.tmps 9))))
theorem Ls (s : St) : aP (iO [] 0 0 0 0) s = Rd iO s := by kernel_rfl
def xM (N G : Nat) : ax β := fun s K => cond (aJ (iO [] 0 0 0 0) s) ((fun (v0 : List Int) (v1 v2 v3 v4 : Int) => aeR (aec G) N v0 v1 v2 v3 v4 (fun y0 => K .ret (n0 y0)) (fun y0 y1 y2 y3 => K (.exit 4) (n3 y0 y1 y2 y3))) (aY (bF (ah (vT (nx ac s.tmps 0))))) (af (ah (vT (nx ac s.tmps 1)))) (af (ah (vT (nx ac s.tmps 2)))) (af (ah (vT (nx ac s.tmps 8)))) (af (ah (vT (nx ac s.tmps 9))))) (none)
def JM (N G : Nat) : ax β := xM (il N) (dr N) N G
def Re {γ : Type} (f : List Int → Int → Int → Int → Int → Int → γ) (s : St) : γ := f (aY (bF (ah (vT (nx ac s.tmps 0))))) (af (ah (vT (nx ac s.tmps 1)))) (af (ah (vT (nx ac s.tmps 2)))) (af (ah (vT (nx ac s.tmps 8)))) (af (ah (vT (nx ac s.tmps 9)))) (af (ah (vT (nx ac s.tmps 10))))
theorem Lt (s : St) : aP (iP [] 0 0 0 0 0) s = Re iP s := by kernel_rfl
def xN (N G : Nat) : ax β := fun s K => cond (aJ (iP [] 0 0 0 0 0) s) ((fun (v0 : List Int) (v1 v2 v3 v4 v5 : Int) => aeQ (aec G) N v0 v1 v2 v3 v4 v5 (fun y0 => K .ret (n4 y0)) (fun y0 y1 y2 y3 y4 => K (.exit 6) (n5 y0 y1 y2 y3 y4))) (aY (bF (ah (vT (nx ac s.tmps 0))))) (af (ah (vT (nx ac s.tmps 1)))) (af (ah (vT (nx ac s.tmps 2)))) (af (ah (vT (nx ac s.tmps 8)))) (af (ah (vT (nx ac s.tmps 9)))) (af (ah (vT (nx ac s.tmps 10))))) (none)
def JN (N G : Nat) : ax β := xN (kp N) (dr N) N G
def Hk (N G : Nat) : Env β := ⟨[(80, Vr aej N), (81, Vs aeH N), (50, AJ aec N G)], [], [(0, ET aeP N G), (2, xL aeS aec N G), (4, xM aeR aec N G), (6, xN aeQ aec N G)], [], ⟨[], [], [], []⟩⟩
def E50 (N G : Nat) : Env β := Hk (Al N) (ik N) (ko N) (kp N) (il N) (im N) (dr N) N G
theorem I0 (N G : Nat) (v0 : List Int) (v1 v2 v3 : Int) (rec_ : St → O β) (K : Exit → St → O β) :
  stB lay (Hk aeH aej aeP aeQ aeR aeS aec N G) Tryz.f50 0 (lb v0 v1 v2 v3) rec_ K = Gx aeH aej N v0 v1 v2 v3 (fun v0 v1 v2 v3 => rec_ (lb v0 v1 v2 v3)) (fun y0 => K .ret (nW y0)) (fun y0 y1 y2 => K (.exit 0) (nX y0 y1 y2)) := by kernel_rfl
theorem Nm (N G : Nat) (K : Exit → St → O β) : ∀ (F : Nat) (v0 : List Int) (v1 v2 v3 : Int), (lp Tryz.f50 0).rounds lay (E50 N G) (ai Tryz.f50) F (lb v0 v1 v2 v3) K = ko N F v0 v1 v2 v3 (fun y0 => K .ret (nW y0)) (fun y0 y1 y2 => K (.exit 0) (nX y0 y1 y2)) := by
 intro F; induction F with
 | zero => intros; rfl
 | succ F ih => intros; rw [am]; refine (I0 (Al N) (ik N) (ko N) (kp N) (il N) (im N) (dr N) N G _ _ _ _ (fun s => (lp Tryz.f50 0).rounds lay (E50 N G) (ai Tryz.f50) F s K) K).trans ?_; simp only [ih]; rfl
theorem Wp (N G : Nat) : aS (E50 (β := β) N G).loops (lp Tryz.f50 0).id = Uc N G := by kernel_rfl
theorem Xx (N G : Nat) : ay lay (E50 (β := β) N G) (ai Tryz.f50) (lp Tryz.f50 0) := rks (Wp ..) (rc1 (fun s K hb => ⟨N, by rw [← ar hb, Lq s]; unfold zq; exact Nm N _ K N _ _ _ _⟩) rc0)
theorem I1 (N G : Nat) (v0 : List Int) (v1 v2 v3 : Int) (rec_ : St → O β) (K : Exit → St → O β) :
  stB lay (Hk aeH aej aeP aeQ aeR aeS aec N G) Tryz.f50 1 (iN v0 v1 v2 v3) rec_ K = GA aeR N (aec G) v0 v1 v2 v3 (fun v0 v1 v2 v3 => rec_ (iN v0 v1 v2 v3)) (fun y0 => K .ret (nY y0)) (K (.exit 2) (nZ )) := by kernel_rfl
theorem Nn (N G : Nat) (K : Exit → St → O β) : ∀ (F : Nat) (v0 : List Int) (v1 v2 v3 : Int), (lp Tryz.f50 1).rounds lay (E50 N G) (ai Tryz.f50) F (iN v0 v1 v2 v3) K = im N (dr N G) F v0 v1 v2 v3 (fun y0 => K .ret (nY y0)) (K (.exit 2) (nZ )) := by
 intro F; induction F with
 | zero => intros; rfl
 | succ F ih => intros; rw [am]; refine (I1 (Al N) (ik N) (ko N) (kp N) (il N) (im N) (dr N) N G _ _ _ _ (fun s => (lp Tryz.f50 1).rounds lay (E50 N G) (ai Tryz.f50) F s K) K).trans ?_; simp only [ih]; rfl
theorem Wq (N G : Nat) : aS (E50 (β := β) N G).loops (lp Tryz.f50 1).id = JL N G := by kernel_rfl
theorem Xy (N G : Nat) : ay lay (E50 (β := β) N G) (ai Tryz.f50) (lp Tryz.f50 1) := by
 intro s K r h
 rw [Wq] at h
 unfold JL xL at h
 cases hb : aJ (iN [] 0 0 0) s with
 | true =>
  rw [hb, agY] at h
  exact ⟨N, by rw [← ar hb, Lr s]; exact (Nn N G K N (aY (bF (ah (vT (nx ac s.tmps 0))))) (af (ah (vT (nx ac s.tmps 1)))) (af (ah (vT (nx ac s.tmps 2)))) (af (ah (vT (nx ac s.tmps 8))))).trans h⟩
 | false =>
 rw [hb, agX] at h
 clear hb
 cases h
theorem I2 (N G : Nat) (v0 : List Int) (v1 v2 v3 v4 : Int) (rec_ : St → O β) (K : Exit → St → O β) :
  stB lay (Hk aeH aej aeP aeQ aeR aeS aec N G) Tryz.f50 2 (iO v0 v1 v2 v3 v4) rec_ K = Gz aej aeQ N (aec G) v0 v1 v2 v3 v4 (fun v0 v1 v2 v3 v4 => rec_ (iO v0 v1 v2 v3 v4)) (fun y0 => K .ret (n0 y0)) (fun y0 y1 y2 y3 => K (.exit 4) (n3 y0 y1 y2 y3)) := by kernel_rfl
theorem Np (N G : Nat) (K : Exit → St → O β) : ∀ (F : Nat) (v0 : List Int) (v1 v2 v3 v4 : Int), (lp Tryz.f50 2).rounds lay (E50 N G) (ai Tryz.f50) F (iO v0 v1 v2 v3 v4) K = il N (dr N G) F v0 v1 v2 v3 v4 (fun y0 => K .ret (n0 y0)) (fun y0 y1 y2 y3 => K (.exit 4) (n3 y0 y1 y2 y3)) := by
 intro F; induction F with
 | zero => intros; rfl
 | succ F ih => intros; rw [am]; refine (I2 (Al N) (ik N) (ko N) (kp N) (il N) (im N) (dr N) N G _ _ _ _ _ (fun s => (lp Tryz.f50 2).rounds lay (E50 N G) (ai Tryz.f50) F s K) K).trans ?_; simp only [ih]; rfl
theorem Wr (N G : Nat) : aS (E50 (β := β) N G).loops (lp Tryz.f50 2).id = JM N G := by kernel_rfl
theorem Xz (N G : Nat) : ay lay (E50 (β := β) N G) (ai Tryz.f50) (lp Tryz.f50 2) := by
 intro s K r h
 rw [Wr] at h
 unfold JM xM at h
 cases hb : aJ (iO [] 0 0 0 0) s with
 | true =>
  rw [hb, agY] at h
  exact ⟨N, by rw [← ar hb, Ls s]; exact (Np N G K N (aY (bF (ah (vT (nx ac s.tmps 0))))) (af (ah (vT (nx ac s.tmps 1)))) (af (ah (vT (nx ac s.tmps 2)))) (af (ah (vT (nx ac s.tmps 8)))) (af (ah (vT (nx ac s.tmps 9))))).trans h⟩
 | false =>
 rw [hb, agX] at h
 clear hb
 cases h
theorem I3 (N G : Nat) (v0 : List Int) (v1 v2 v3 v4 v5 : Int) (rec_ : St → O β) (K : Exit → St → O β) :
  stB lay (Hk aeH aej aeP aeQ aeR aeS aec N G) Tryz.f50 3 (iP v0 v1 v2 v3 v4 v5) rec_ K = Gy aej N (aec G) v0 v1 v2 v3 v4 v5 (fun v0 v1 v2 v3 v4 v5 => rec_ (iP v0 v1 v2 v3 v4 v5)) (fun y0 => K .ret (n4 y0)) (fun y0 y1 y2 y3 y4 => K (.exit 6) (n5 y0 y1 y2 y3 y4)) := by kernel_rfl
theorem Nq (N G : Nat) (K : Exit → St → O β) : ∀ (F : Nat) (v0 : List Int) (v1 v2 v3 v4 v5 : Int), (lp Tryz.f50 3).rounds lay (E50 N G) (ai Tryz.f50) F (iP v0 v1 v2 v3 v4 v5) K = kp N (dr N G) F v0 v1 v2 v3 v4 v5 (fun y0 => K .ret (n4 y0)) (fun y0 y1 y2 y3 y4 => K (.exit 6) (n5 y0 y1 y2 y3 y4)) := by
 intro F; induction F with
 | zero => intros; rfl
 | succ F ih => intros; rw [am]; refine (I3 (Al N) (ik N) (ko N) (kp N) (il N) (im N) (dr N) N G _ _ _ _ _ _ (fun s => (lp Tryz.f50 3).rounds lay (E50 N G) (ai Tryz.f50) F s K) K).trans ?_; simp only [ih]; rfl
theorem Ws (N G : Nat) : aS (E50 (β := β) N G).loops (lp Tryz.f50 3).id = JN N G := by kernel_rfl
theorem XA (N G : Nat) : ay lay (E50 (β := β) N G) (ai Tryz.f50) (lp Tryz.f50 3) := by
 intro s K r h
 rw [Ws] at h
 unfold JN xN at h
 cases hb : aJ (iP [] 0 0 0 0 0) s with
 | true =>
  rw [hb, agY] at h
  exact ⟨N, by rw [← ar hb, Lt s]; exact (Nq N G K N (aY (bF (ah (vT (nx ac s.tmps 0))))) (af (ah (vT (nx ac s.tmps 1)))) (af (ah (vT (nx ac s.tmps 2)))) (af (ah (vT (nx ac s.tmps 8)))) (af (ah (vT (nx ac s.tmps 9)))) (af (ah (vT (nx ac s.tmps 10))))).trans h⟩
 | false =>
 rw [hb, agX] at h
 clear hb
 cases h
theorem YK (N G : Nat) (a0 : List Int) (a1 a2 : Int) (K : TV → O β) : aL lay (Hk aeH aej aeP aeQ aeR aeS aec N G) Tryz.f50 [.v (.one (.sl 3 (.ints .i64 a0))), (Z' a1), (Z' a2)] K = Oz aej aeP aeS N (aec G) a0 a1 a2 (fun z3 => K (.v (.one (.str z3)))) := by kernel_rfl
theorem z50 (N : Nat) : ∀ args K r, JW (β := β) N 0 args K = some r → (none : O β) = some r := by
 intro args K r h
 unfold JW AJ at h
 split at h <;> exact h
theorem ady (N : Nat) : ∀ G, ao (β := β) inv Tryz.prog 50 (JW N G) := by
 intro G
 induction G with
 | zero => exact dG Tryz.func50 (by kernel_rfl) (z50 N)
 | succ G ih =>
  refine ap au mixed (E := E50 N G) (ae (aa (o80 N) (aa (o81 N) (aa ih ag)))) ak av Tryz.func50 (by kernel_rfl) 4 (by kernel_rfl) ⟨⟨⟨⟨trivial, Xx N G⟩, Xy N G⟩, Xz N G⟩, XA N G⟩ fun args K r h => ?_
  unfold JW AJ at h
  split at h
  ·exact (YK (Al N) (ik N) (ko N) (kp N) (il N) (im N) (dr N) N G _ _ _ _).trans h
  ·cases h
theorem o50 (N : Nat) : ao (β := β) inv Tryz.prog 50 (S50 N) := ady N N
def U6 (N : Nat) : Rv.Spec β := fun args K => match args with
 | [.v (.agg [.int .i64 a0, .int .i64 a1])] => afG a0 a1 (fun z2 z3 => K (.tup [.one (.str z2), .one (.bool z3)]))
 | _ => none
def S23 (N : Nat) : Rv.Spec β := U6 (xq N) N
def aaF (N : Nat) : Env β := ⟨[(17, AE ad5 N), (51, S51 N), (50, acV aec N)], [], [], [], ⟨[], [], [], []⟩⟩
def E23 (N : Nat) : Env β := aaF (eU N) (dr N) N
theorem Yj (N : Nat) (a0 a1 : Int) (K : TV → O β) : aL lay (aaF ad5 aec N) Tryz.f23 [.v (.agg [.int .i64 a0, .int .i64 a1])] K = OB ad5 (aec N) N a0 a1 (fun z2 z3 => K (.tup [.one (.str z2), .one (.bool z3)])) := by kernel_rfl
theorem o23 (N : Nat) : ao (β := β) inv Tryz.prog 23 (S23 N) := by
 refine ap au mixed (E := E23 N) (ae (aa (o17 N) (aa (o51 N) (aa (o50 N) ag)))) ak av Tryz.func23 (by kernel_rfl) 0 (by kernel_rfl) trivial fun args K r h => ?_
 unfold S23 U6 at h
 split at h
 ·exact (Yj (eU N) (dr N) N _ _ _).trans h
 ·cases h
end Go.Proofs.YtmhlcbibbhelkaaGreatDoor
