/- The functions that the claims dl bK as their texts do. -/
import Derived.Test.YtemihnclhcobnaaGreatDoorE2
namespace Go.Proofs.YtemihnclhcobnaaGreatDoor
set_option linter.unusedSimpArgs false
open Go.Rv
set_option maxRecDepth 100000
set_option maxHeartbeats 2000000
set_option linter.unusedVariables false
variable {β : Type}
variable (zq29 : Y1 β) (zq30 : Y0 β) (zq59 : Y30 β) (zq63 : Y13 β) (zq66 : Y34 β) (zq68 : Y33 β) (zq70 : Y35 β) (zq72 : Y37 β) (zq74 : Y13 β) (zq75 : Y7 β) (zq76 : Y1 β) (zq78 : Y39 β) (zq79 : Y38 β) (zq81 : Y41 β) (zq82 : Y40 β) (zq84 : Y42 β) (zq85 : Y6 β)
def qh (N G : Nat) : Rv.Spec β := fun args K => match args with
 | [.v (.agg [.int .i64 a0, .int .i64 a1]), .v (.one (.int .i64 a2)), .v (.one (.int .i64 a3))] => zq68 G a0 a1 a2 a3 (fun z4 => K (.v (.one (.str z4))))
 | _ => none
def xA (N G : Nat) : Rv.Spec β := qh (nW N) N G
def VR (N : Nat) : Rv.Spec β := qh zq68 N N
def Xq (N : Nat) : Rv.Spec β := xA N N
def gG (v0 v1 v2 v3 v4 v5 : Int) : St := ⟨ac :: (Z' v0) :: (Z' v1) :: .v (.one (.ptr 0 0)) :: tn 4 ((Z' v2) :: (Z' v3) :: tn 67 []), [.cells 25 [.int .i64 v4, .int .i64 v5]]⟩
def j4 (y0 : ByteArray) : St := ⟨tn 6 (.v (.one (.str y0)) :: tn 70 []), []⟩
def j5 : St := ⟨tn 77 [], []⟩
def rD {γ : Type} (f : Int → Int → Int → Int → Int → Int → γ) (s : St) : γ := f (ae (ag (vT (nx ac s.tmps 1)))) (ae (ag (vT (nx ac s.tmps 2)))) (ae (ag (vT (nx ac s.tmps 8)))) (ae (ag (vT (nx ac s.tmps 9)))) (ae (nx .und (ao (nx .dead s.blks 0)) 0)) (ae (nx .und (ao (nx .dead s.blks 0)) 1))
theorem Fo (s : St) : aT (gG 0 0 0 0 0 0) s = rD gG s := by kernel_rfl
def xP (N G : Nat) : ay β := fun s K => cond (aK (gG 0 0 0 0 0 0) s) (rD (fun v0 v1 v2 v3 v4 v5 => zq66 (zq68 G) N v0 v1 v2 v3 v4 v5 (fun y0 => K .ret (j4 y0)) (K (.exit 0) (j5 ))) s) (none)
def Mo (N G : Nat) : ay β := xP (tL N) (nW N) N G
def HI (N G : Nat) : Env β := ⟨[(205, Dm zq59 N), (206, VW zq63 N), (143, qh zq68 N G)], [], [(0, xP zq66 zq68 N G)], [], ⟨[], [], [], []⟩⟩
def L0 (N G : Nat) : Env β := HI (sZ N) (nV N) (tL N) (nW N) N G
theorem Ca (N G : Nat) (v0 v1 v2 v3 v4 v5 : Int) (rec_ : St → O β) (K : Exit → St → O β) :
  stB lay (HI zq59 zq63 zq66 zq68 N G) Tryz.f143 0 (gG v0 v1 v2 v3 v4 v5) rec_ K = Ui (zq63 N) N (zq68 G) v0 v1 v2 v3 v4 v5 (fun v0 v1 v2 v3 v4 v5 => rec_ (gG v0 v1 v2 v3 v4 v5)) (fun y0 => K .ret (j4 y0)) (K (.exit 0) (j5 )) := by kernel_rfl
theorem Gq (N G : Nat) (K : Exit → St → O β) : ∀ (F : Nat) (v0 v1 v2 v3 v4 v5 : Int), (lp Tryz.f143 0).rounds lay (L0 N G) (ah Tryz.f143) F (gG v0 v1 v2 v3 v4 v5) K = tL N (nW N G) F v0 v1 v2 v3 v4 v5 (fun y0 => K .ret (j4 y0)) (K (.exit 0) (j5 )) := by
 intro F; induction F with
 | zero => intros; rfl
 | succ F ih => intros; rw [am]; refine (Ca (sZ N) (nV N) (tL N) (nW N) N G _ _ _ _ _ _ (fun s => (lp Tryz.f143 0).rounds lay (L0 N G) (ah Tryz.f143) F s K) K).trans ?_; simp only [ih]; rfl
theorem Ns (N G : Nat) : aS (L0 (β := β) N G).loops (lp Tryz.f143 0).id = Mo N G := by kernel_rfl
theorem Ol (N G : Nat) : az lay (L0 (β := β) N G) (ah Tryz.f143) (lp Tryz.f143 0) := rks (Ns ..) (rc1 (fun s K hb => ⟨N, by rw [← ar hb, Fo s]; unfold rD; exact Gq N _ K N _ _ _ _ _ _⟩) rc0)
theorem Po (N G : Nat) (a0 a1 a2 a3 : Int) (K : TV → O β) : aQ lay (HI zq59 zq63 zq66 zq68 N G) Tryz.f143 [.v (.agg [.int .i64 a0, .int .i64 a1]), (Z' a2), (Z' a3)] K = Uj zq59 (zq63 N) zq66 N (zq68 G) a0 a1 a2 a3 (fun z4 => K (.v (.one (.str z4)))) := by kernel_rfl
theorem Yl (N : Nat) : ∀ args K r, xA (β := β) N 0 args K = some r → (none : O β) = some r := by
 intro args K r h
 unfold xA qh at h
 split at h <;> exact h
theorem Ws (N : Nat) : ∀ G, ap (β := β) inv Tryz.prog 143 (xA N G) := by
 intro G
 induction G with
 | zero => exact oK Tryz.func143 (by kernel_rfl) (Yl N)
 | succ G ih =>
  refine aq ax mixed (E := L0 N G) (af (aa (Wn N) (aa (XX N) (aa ih ai)))) ak aA Tryz.func143 (by kernel_rfl) 1 (by kernel_rfl) ⟨trivial, Ol N G⟩ fun args K r h => ?_
  unfold xA qh at h
  split at h
  ·exact (Po (sZ N) (nV N) (tL N) (nW N) N G _ _ _ _ _).trans h
  ·cases h
theorem XI (N : Nat) : ap (β := β) inv Tryz.prog 143 (Xq N) := Ws N N
def RV (N : Nat) : Rv.Spec β := fun args K => match args with
 | [.v (.agg [.int .i64 a0, .int .i64 a1])] => zq70 a0 a1 (fun z2 z3 => K (.tup [.one (.str z2), .one (.bool z3)]))
 | _ => none
def S73 (N : Nat) : Rv.Spec β := RV (Hs N) N
def VH (N : Nat) : Env β := ⟨[(20, vP zq30 N), (143, VR zq68 N)], [], [], [], ⟨[], [], [], []⟩⟩
def E73 (N : Nat) : Env β := VH (du N) (nW N) N
theorem TL (N : Nat) (a0 a1 : Int) (K : TV → O β) : aQ lay (VH zq30 zq68 N) Tryz.f73 [.v (.agg [.int .i64 a0, .int .i64 a1])] K = Uk zq30 (zq68 N) N a0 a1 (fun z2 z3 => K (.tup [.one (.str z2), .one (.bool z3)])) := by kernel_rfl
theorem o73 (N : Nat) : ap (β := β) inv Tryz.prog 73 (S73 N) := by
 refine aq ax mixed (E := E73 N) (af (aa (o20 N) (aa (XI N) ai))) ak aA Tryz.func73 (by kernel_rfl) 0 (by kernel_rfl) trivial fun args K r h => ?_
 unfold S73 RV at h
 split at h
 ·exact (TL (du N) (nW N) N _ _ _).trans h
 ·cases h
def H0 (N : Nat) : Rv.Spec β := fun args K => match args with
 | [.v (.agg [.int .i64 a0, .int .i64 a1])] => zq75 a0 a1 (fun z2 => K (.v (.one (.int .i64 z2))))
 | _ => none
def UP (N : Nat) : Rv.Spec β := H0 (CK N) N
def gu (v0 v1 v2 v3 : Int) : St := ⟨ac :: .v (.one (.ptr 0 0)) :: ac :: (Z' v0) :: (Z' v1) :: tn 33 [], [.cells 25 [.int .i64 v2, .int .i64 v3]]⟩
def jP (y0 : Int) : St := ⟨tn 3 ((Z' y0) :: tn 34 []), []⟩
def eV (v0 v1 v2 v3 v4 v5 : Int) : St := ⟨ac :: .v (.one (.ptr 0 0)) :: ac :: (Z' v0) :: (Z' v1) :: (Z' v2) :: (Z' v3) :: tn 31 [], [.cells 25 [.int .i64 v4, .int .i64 v5]]⟩
def jQ (y0 y1 y2 y3 y4 : Int) : St := ⟨ac :: .v (.one (.ptr 0 0)) :: ac :: (Z' y0) :: (Z' y1) :: (Z' y2) :: tn 32 [], [.cells 25 [.int .i64 y3, .int .i64 y4]]⟩
def rq {γ : Type} (f : Int → Int → Int → Int → γ) (s : St) : γ := f (ae (ag (vT (nx ac s.tmps 3)))) (ae (ag (vT (nx ac s.tmps 4)))) (ae (nx .und (ao (nx .dead s.blks 0)) 0)) (ae (nx .und (ao (nx .dead s.blks 0)) 1))
theorem Fc (s : St) : aT (gu 0 0 0 0) s = rq gu s := by kernel_rfl
def xI (N : Nat) : ay β := fun s K => cond (aK (gu 0 0 0 0) s) (rq (fun v0 v1 v2 v3 => zq74 N v0 v1 v2 v3 (fun y0 => K (.exit 0) (jP y0))) s) (none)
def Mh (N : Nat) : ay β := xI (tc N) N
def JG {γ : Type} (f : Int → Int → Int → Int → Int → Int → γ) (s : St) : γ := f (ae (ag (vT (nx ac s.tmps 3)))) (ae (ag (vT (nx ac s.tmps 4)))) (ae (ag (vT (nx ac s.tmps 5)))) (ae (ag (vT (nx ac s.tmps 6)))) (ae (nx .und (ao (nx .dead s.blks 0)) 0)) (ae (nx .und (ao (nx .dead s.blks 0)) 1))
theorem Fe (s : St) : aT (eV 0 0 0 0 0 0) s = JG eV s := by kernel_rfl
def p6 (N : Nat) : ay β := fun s K => cond (aK (eV 0 0 0 0 0 0) s) ((fun (v0 v1 v2 v3 v4 v5 : Int) => zq72 N v0 v1 v2 v3 v4 v5 (fun y0 y1 y2 y3 y4 => K (.exit 2) (jQ y0 y1 y2 y3 y4))) (ae (ag (vT (nx ac s.tmps 3)))) (ae (ag (vT (nx ac s.tmps 4)))) (ae (ag (vT (nx ac s.tmps 5)))) (ae (ag (vT (nx ac s.tmps 6)))) (ae (nx .und (ao (nx .dead s.blks 0)) 0)) (ae (nx .und (ao (nx .dead s.blks 0)) 1))) (none)
def CO (N : Nat) : ay β := p6 (s6 N) N
def CY (N : Nat) : Env β := ⟨[], [], [(0, xI zq74 N), (2, p6 zq72 N)], [], ⟨[], [], [], []⟩⟩
def AM (N : Nat) : Env β := CY (s6 N) (tc N) N
theorem BY (N : Nat) (v0 v1 v2 v3 : Int) (rec_ : St → O β) (K : Exit → St → O β) :
  stB lay (CY zq72 zq74 N) Tryz.f121 0 (gu v0 v1 v2 v3) rec_ K = Ql zq72 N v0 v1 v2 v3 (fun v0 v1 v2 v3 => rec_ (gu v0 v1 v2 v3)) (fun y0 => K (.exit 0) (jP y0)) := by kernel_rfl
theorem Ge (N : Nat) (K : Exit → St → O β) : ∀ (F : Nat) (v0 v1 v2 v3 : Int), (lp Tryz.f121 0).rounds lay (AM N) (ah Tryz.f121) F (gu v0 v1 v2 v3) K = tc N F v0 v1 v2 v3 (fun y0 => K (.exit 0) (jP y0)) := by
 intro F; induction F with
 | zero => intros; rfl
 | succ F ih => intros; rw [am]; refine (BY (s6 N) (tc N) N _ _ _ _ (fun s => (lp Tryz.f121 0).rounds lay (AM N) (ah Tryz.f121) F s K) K).trans ?_; simp only [ih]; rfl
theorem Ni (N : Nat) : aS (AM (β := β) N).loops (lp Tryz.f121 0).id = Mh N := by kernel_rfl
theorem Oc (N : Nat) : az lay (AM (β := β) N) (ah Tryz.f121) (lp Tryz.f121 0) := rks (Ni ..) (rc1 (fun s K hb => ⟨N, by rw [← ar hb, Fc s]; unfold rq; exact Ge N K N _ _ _ _⟩) rc0)
theorem BZ (N : Nat) (v0 v1 v2 v3 v4 v5 : Int) (rec_ : St → O β) (K : Exit → St → O β) :
  stB lay (CY zq72 zq74 N) Tryz.f121 1 (eV v0 v1 v2 v3 v4 v5) rec_ K = Qk N v0 v1 v2 v3 v4 v5 (fun v0 v1 v2 v3 v4 v5 => rec_ (eV v0 v1 v2 v3 v4 v5)) (fun y0 y1 y2 y3 y4 => K (.exit 2) (jQ y0 y1 y2 y3 y4)) := by kernel_rfl
theorem Gf (N : Nat) (K : Exit → St → O β) : ∀ (F : Nat) (v0 v1 v2 v3 v4 v5 : Int), (lp Tryz.f121 1).rounds lay (AM N) (ah Tryz.f121) F (eV v0 v1 v2 v3 v4 v5) K = s6 N F v0 v1 v2 v3 v4 v5 (fun y0 y1 y2 y3 y4 => K (.exit 2) (jQ y0 y1 y2 y3 y4)) := by
 intro F; induction F with
 | zero => intros; rfl
 | succ F ih => intros; rw [am]; refine (BZ (s6 N) (tc N) N _ _ _ _ _ _ (fun s => (lp Tryz.f121 1).rounds lay (AM N) (ah Tryz.f121) F s K) K).trans ?_; simp only [ih]; rfl
theorem Nj (N : Nat) : aS (AM (β := β) N).loops (lp Tryz.f121 1).id = CO N := by kernel_rfl
theorem Od (N : Nat) : az lay (AM (β := β) N) (ah Tryz.f121) (lp Tryz.f121 1) := by
 intro s K r h
 rw [Nj] at h
 unfold CO p6 at h
 cases hb : aK (eV 0 0 0 0 0 0) s with
 | true =>
  rw [hb, YC] at h
  exact ⟨N, by rw [← ar hb, Fe s]; exact (Gf N K N (ae (ag (vT (nx ac s.tmps 3)))) (ae (ag (vT (nx ac s.tmps 4)))) (ae (ag (vT (nx ac s.tmps 5)))) (ae (ag (vT (nx ac s.tmps 6)))) (ae (nx .und (ao (nx .dead s.blks 0)) 0)) (ae (nx .und (ao (nx .dead s.blks 0)) 1))).trans h⟩
 | false =>
 rw [hb, YB] at h
 clear hb
 cases h
theorem Pa (N : Nat) (a0 a1 : Int) (K : TV → O β) : aQ lay (CY zq72 zq74 N) Tryz.f121 [.v (.agg [.int .i64 a0, .int .i64 a1])] K = Ul zq74 N a0 a1 (fun z2 => K ((Z' z2))) := by kernel_rfl
theorem XD (N : Nat) : ap (β := β) inv Tryz.prog 121 (UP N) := by
 refine aq ax mixed (E := AM N) (af ai) ak aA Tryz.func121 (by kernel_rfl) 2 (by kernel_rfl) ⟨⟨trivial, Oc N⟩, Od N⟩ fun args K r h => ?_
 unfold UP H0 at h
 split at h
 ·exact (Pa (s6 N) (tc N) N _ _ _).trans h
 ·cases h
def Dc (N : Nat) : Rv.Spec β := fun args K => match args with
 | [.v (.one (.int .i64 a0)), .v (.agg [.int .i64 a1, .int .i64 a2])] => zq76 a0 a1 a2 (fun z3 => K (.v (.one (.bool z3))))
 | _ => none
def UR (N : Nat) : Rv.Spec β := Dc (oV N) N
def QC (N : Nat) : Env β := ⟨[(57, Ip zq29 N)], [], [], [], ⟨[], [], [], []⟩⟩
def W2 (N : Nat) : Env β := QC (mW N) N
theorem Pc (N : Nat) (a0 a1 a2 : Int) (K : TV → O β) : aQ lay (QC zq29 N) Tryz.f123 [(Z' a0), .v (.agg [.int .i64 a1, .int .i64 a2])] K = Um zq29 N a0 a1 a2 (fun z3 => K (.v (.one (.bool z3)))) := by kernel_rfl
theorem Wd (N : Nat) : ap (β := β) inv Tryz.prog 123 (UR N) := by
 refine aq ax mixed (E := W2 N) (af (aa (o57 N) ai)) ak aA Tryz.func123 (by kernel_rfl) 0 (by kernel_rfl) trivial fun args K r h => ?_
 unfold UR Dc at h
 split at h
 ·exact (Pc (mW N) N _ _ _ _).trans h
 ·cases h
def De (N : Nat) : Rv.Spec β := fun args K => match args with
 | [.v (.one (.int .i64 a0)), .v (.agg [.int .i64 a1, .int .i64 a2])] => zq79 a0 a1 a2 (fun z3 => K (.v (.one (.str z3))))
 | _ => none
def UY (N : Nat) : Rv.Spec β := De (te N) N
def gC (v0 : Int) (v1 : ByteArray) (v2 v3 v4 : Int) : St := ⟨(Z' v0) :: ac :: ac :: .v (.one (.ptr 0 0)) :: ac :: .v (.one (.str v1)) :: (Z' v2) :: tn 38 [], [.cells 93 [.int .i64 v3, .int .i64 v4]]⟩
def jX (y0 : Int) (y1 : ByteArray) (y2 y3 : Int) : St := ⟨(Z' y0) :: ac :: ac :: .v (.one (.ptr 0 0)) :: ac :: .v (.one (.str y1)) :: tn 39 [], [.cells 93 [.int .i64 y2, .int .i64 y3]]⟩
def rA {γ : Type} (f : Int → ByteArray → Int → Int → Int → γ) (s : St) : γ := f (ae (ag (vT (nx ac s.tmps 0)))) (G4 (ag (vT (nx ac s.tmps 5)))) (ae (ag (vT (nx ac s.tmps 6)))) (ae (nx .und (ao (nx .dead s.blks 0)) 0)) (ae (nx .und (ao (nx .dead s.blks 0)) 1))
theorem Fk (s : St) : aT (gC 0 ByteArray.empty 0 0 0) s = rA gC s := by kernel_rfl
def xM (N : Nat) : ay β := fun s K => cond (aK (gC 0 ByteArray.empty 0 0 0) s) (rA (fun v0 v1 v2 v3 v4 => zq78 N v0 v1 v2 v3 v4 (fun y0 y1 y2 y3 => K (.exit 0) (jX y0 y1 y2 y3))) s) (none)
def Ml (N : Nat) : ay β := xM (td N) N
def HG (N : Nat) : Env β := ⟨[(123, Dc zq76 N)], [], [(0, xM zq78 N)], [], ⟨[], [], [], []⟩⟩
def LY (N : Nat) : Env β := HG (oV N) (td N) N
theorem B6 (N : Nat) (v0 : Int) (v1 : ByteArray) (v2 v3 v4 : Int) (rec_ : St → O β) (K : Exit → St → O β) :
  stB lay (HG zq76 zq78 N) Tryz.f140 0 (gC v0 v1 v2 v3 v4) rec_ K = Lp zq76 N v0 v1 v2 v3 v4 (fun v0 v1 v2 v3 v4 => rec_ (gC v0 v1 v2 v3 v4)) (fun y0 y1 y2 y3 => K (.exit 0) (jX y0 y1 y2 y3)) := by kernel_rfl
theorem Gl (N : Nat) (K : Exit → St → O β) : ∀ (F : Nat) (v0 : Int) (v1 : ByteArray) (v2 v3 v4 : Int), (lp Tryz.f140 0).rounds lay (LY N) (ah Tryz.f140) F (gC v0 v1 v2 v3 v4) K = td N F v0 v1 v2 v3 v4 (fun y0 y1 y2 y3 => K (.exit 0) (jX y0 y1 y2 y3)) := by
 intro F; induction F with
 | zero => intros; rfl
 | succ F ih => intros; rw [am]; refine (B6 (oV N) (td N) N _ _ _ _ _ (fun s => (lp Tryz.f140 0).rounds lay (LY N) (ah Tryz.f140) F s K) K).trans ?_; simp only [ih]; rfl
theorem Nn (N : Nat) : aS (LY (β := β) N).loops (lp Tryz.f140 0).id = Ml N := by kernel_rfl
theorem Oh (N : Nat) : az lay (LY (β := β) N) (ah Tryz.f140) (lp Tryz.f140 0) := rks (Nn ..) (rc1 (fun s K hb => ⟨N, by rw [← ar hb, Fk s]; unfold rA; exact Gl N K N _ _ _ _ _⟩) rc0)
theorem Pl (N : Nat) (a0 a1 a2 : Int) (K : TV → O β) : aQ lay (HG zq76 zq78 N) Tryz.f140 [(Z' a0), .v (.agg [.int .i64 a1, .int .i64 a2])] K = Un zq76 zq78 N a0 a1 a2 (fun z3 => K (.v (.one (.str z3)))) := by kernel_rfl
theorem Wf (N : Nat) : ap (β := β) inv Tryz.prog 140 (UY N) := by
 refine aq ax mixed (E := LY N) (af (aa (Wd N) ai)) ak aA Tryz.func140 (by kernel_rfl) 1 (by kernel_rfl) ⟨trivial, Oh N⟩ fun args K r h => ?_
 unfold UY De at h
 split at h
 ·exact (Pl (oV N) (td N) N _ _ _ _).trans h
 ·cases h
def RS (N : Nat) : Rv.Spec β := fun args K => match args with
 | [.v (.agg [.int .i64 a0, .int .i64 a1])] => zq82 a0 a1 (fun z2 => K (.v (.one (.str z2))))
 | _ => none
def S70 (N : Nat) : Rv.Spec β := RS (Ht N) N
def ln (v0 : ByteArray) (v1 v2 v3 v4 : Int) : St := ⟨ac :: .v (.one (.ptr 0 0)) :: ac :: .v (.one (.str v0)) :: (Z' v1) :: (Z' v2) :: tn 32 [], [.cells 25 [.int .i64 v3, .int .i64 v4]]⟩
def mH (y0 : ByteArray) : St := ⟨tn 3 (.v (.one (.str y0)) :: tn 34 []), []⟩
def wM {γ : Type} (f : ByteArray → Int → Int → Int → Int → γ) (s : St) : γ := f (G4 (ag (vT (nx ac s.tmps 3)))) (ae (ag (vT (nx ac s.tmps 4)))) (ae (ag (vT (nx ac s.tmps 5)))) (ae (nx .und (ao (nx .dead s.blks 0)) 0)) (ae (nx .und (ao (nx .dead s.blks 0)) 1))
theorem IQ (s : St) : aT (ln ByteArray.empty 0 0 0 0) s = wM ln s := by kernel_rfl
def C3 (N : Nat) : ay β := fun s K => cond (aK (ln ByteArray.empty 0 0 0 0) s) (wM (fun v0 v1 v2 v3 v4 => zq81 N v0 v1 v2 v3 v4 (fun y0 => K (.exit 0) (mH y0))) s) (none)
def Rs (N : Nat) : ay β := C3 (tM N) N
def RH (N : Nat) : Env β := ⟨[(20, vP zq30 N), (121, H0 zq75 N), (140, De zq79 N)], [], [(0, C3 zq81 N)], [], ⟨[], [], [], []⟩⟩
def E70 (N : Nat) : Env β := RH (du N) (CK N) (te N) (tM N) N
theorem Hd (N : Nat) (v0 : ByteArray) (v1 v2 v3 v4 : Int) (rec_ : St → O β) (K : Exit → St → O β) :
  stB lay (RH zq30 zq75 zq79 zq81 N) Tryz.f70 0 (ln v0 v1 v2 v3 v4) rec_ K = Qm zq79 N v0 v1 v2 v3 v4 (fun v0 v1 v2 v3 v4 => rec_ (ln v0 v1 v2 v3 v4)) (fun y0 => K (.exit 0) (mH y0)) := by kernel_rfl
theorem J4 (N : Nat) (K : Exit → St → O β) : ∀ (F : Nat) (v0 : ByteArray) (v1 v2 v3 v4 : Int), (lp Tryz.f70 0).rounds lay (E70 N) (ah Tryz.f70) F (ln v0 v1 v2 v3 v4) K = tM N F v0 v1 v2 v3 v4 (fun y0 => K (.exit 0) (mH y0)) := by
 intro F; induction F with
 | zero => intros; rfl
 | succ F ih => intros; rw [am]; refine (Hd (du N) (CK N) (te N) (tM N) N _ _ _ _ _ (fun s => (lp Tryz.f70 0).rounds lay (E70 N) (ah Tryz.f70) F s K) K).trans ?_; simp only [ih]; rfl
theorem Sp (N : Nat) : aS (E70 (β := β) N).loops (lp Tryz.f70 0).id = Rs N := by kernel_rfl
theorem S5 (N : Nat) : az lay (E70 (β := β) N) (ah Tryz.f70) (lp Tryz.f70 0) := rks (Sp ..) (rc1 (fun s K hb => ⟨N, by rw [← ar hb, IQ s]; unfold wM; exact J4 N K N _ _ _ _ _⟩) rc0)
theorem TH (N : Nat) (a0 a1 : Int) (K : TV → O β) : aQ lay (RH zq30 zq75 zq79 zq81 N) Tryz.f70 [.v (.agg [.int .i64 a0, .int .i64 a1])] K = Uo zq30 zq75 zq81 N a0 a1 (fun z2 => K (.v (.one (.str z2)))) := by kernel_rfl
theorem o70 (N : Nat) : ap (β := β) inv Tryz.prog 70 (S70 N) := by
 refine aq ax mixed (E := E70 N) (af (aa (o20 N) (aa (XD N) (aa (Wf N) ai)))) ak aA Tryz.func70 (by kernel_rfl) 1 (by kernel_rfl) ⟨trivial, S5 N⟩ fun args K r h => ?_
 unfold S70 RS at h
 split at h
 ·exact (TH (du N) (CK N) (te N) (tM N) N _ _ _).trans h
 ·cases h
def Db (N : Nat) : Rv.Spec β := fun args K => match args with
 | [.v (.one (.int .i64 a0)), .v (.one (.sl 93 (.pairs a1)))] => zq85 a0 a1 (fun z2 => K (.v (.one (.bool z2))))
 | _ => none
def UQ (N : Nat) : Rv.Spec β := Db (nX N) N
def gv (v0 : Int) (v1 : List (Int × Int)) (v2 : Int) : St := ⟨(Z' v0) :: .v (.one (.sl 93 (.pairs v1))) :: tn 3 ((Z' v2) :: tn 20 []), []⟩
def jR (y0 : Bool) : St := ⟨tn 4 (.v (.one (.bool y0)) :: tn 21 []), []⟩
def jS (y0 : Int) (y1 : List (Int × Int)) : St := ⟨(Z' y0) :: .v (.one (.sl 93 (.pairs y1))) :: tn 24 [], []⟩
def rr {γ : Type} (f : Int → (List (Int × Int)) → Int → γ) (s : St) : γ := f (ae (ag (vT (nx ac s.tmps 0)))) (aL (bg (ag (vT (nx ac s.tmps 1))))) (ae (ag (vT (nx ac s.tmps 5))))
theorem Ff (s : St) : aT (gv 0 [] 0) s = rr gv s := by kernel_rfl
def xJ (N : Nat) : ay β := fun s K => cond (aK (gv 0 [] 0) s) (rr (fun v0 v1 v2 => zq84 N v0 v1 v2 (fun y0 => K .ret (jR y0)) (fun y0 y1 => K (.exit 0) (jS y0 y1))) s) (none)
def Mi (N : Nat) : ay β := xJ (tN N) N
def HE (N : Nat) : Env β := ⟨[(123, Dc zq76 N), (57, Ip zq29 N)], [], [(0, xJ zq84 N)], [], ⟨[], [], [], []⟩⟩
def LW (N : Nat) : Env β := HE (mW N) (oV N) (tN N) N
theorem B1 (N : Nat) (v0 : Int) (v1 : List (Int × Int)) (v2 : Int) (rec_ : St → O β) (K : Exit → St → O β) :
  stB lay (HE zq29 zq76 zq84 N) Tryz.f122 0 (gv v0 v1 v2) rec_ K = Qn zq76 N v0 v1 v2 (fun v0 v1 v2 => rec_ (gv v0 v1 v2)) (fun y0 => K .ret (jR y0)) (fun y0 y1 => K (.exit 0) (jS y0 y1)) := by kernel_rfl
theorem Gg (N : Nat) (K : Exit → St → O β) : ∀ (F : Nat) (v0 : Int) (v1 : List (Int × Int)) (v2 : Int), (lp Tryz.f122 0).rounds lay (LW N) (ah Tryz.f122) F (gv v0 v1 v2) K = tN N F v0 v1 v2 (fun y0 => K .ret (jR y0)) (fun y0 y1 => K (.exit 0) (jS y0 y1)) := by
 intro F; induction F with
 | zero => intros; rfl
 | succ F ih => intros; rw [am]; refine (B1 (mW N) (oV N) (tN N) N _ _ _ (fun s => (lp Tryz.f122 0).rounds lay (LW N) (ah Tryz.f122) F s K) K).trans ?_; simp only [ih]; rfl
theorem Nk (N : Nat) : aS (LW (β := β) N).loops (lp Tryz.f122 0).id = Mi N := by kernel_rfl
theorem Oe (N : Nat) : az lay (LW (β := β) N) (ah Tryz.f122) (lp Tryz.f122 0) := rks (Nk ..) (rc1 (fun s K hb => ⟨N, by rw [← ar hb, Ff s]; unfold rr; exact Gg N K N _ _ _⟩) rc0)
theorem Pb (N : Nat) (a0 : Int) (a1 : List (Int × Int)) (K : TV → O β) : aQ lay (HE zq29 zq76 zq84 N) Tryz.f122 [(Z' a0), .v (.one (.sl 93 (.pairs a1)))] K = Up zq29 zq84 N a0 a1 (fun z2 => K (.v (.one (.bool z2)))) := by kernel_rfl
theorem Wc (N : Nat) : ap (β := β) inv Tryz.prog 122 (UQ N) := by
 refine aq ax mixed (E := LW N) (af (aa (Wd N) (aa (o57 N) ai))) ak aA Tryz.func122 (by kernel_rfl) 1 (by kernel_rfl) ⟨trivial, Oe N⟩ fun args K r h => ?_
 unfold UQ Db at h
 split at h
 ·exact (Pb (mW N) (oV N) (tN N) N _ _ _).trans h
 ·cases h
end Go.Proofs.YtemihnclhcobnaaGreatDoor
