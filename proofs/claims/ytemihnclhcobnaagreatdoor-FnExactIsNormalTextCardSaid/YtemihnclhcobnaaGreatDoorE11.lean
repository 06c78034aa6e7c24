/- The functions that the claims cY bz as their texts do. -/
import Derived.Test.YtemihnclhcobnaaGreatDoorE10
namespace Go.Proofs.YtemihnclhcobnaaGreatDoor
set_option linter.unusedSimpArgs false
open Go.Rv
set_option maxRecDepth 100000
set_option maxHeartbeats 2000000
set_option linter.unusedVariables false
variable {β : Type}
variable (zq2 : Y2 β) (ahU : Y54 β) (aiY : ac1 β) (aie : Y54 β) (aif : ac3 β) (aig : ac2 β) (ahV : Y56 β) (aiZ : ac5 β) (ahm : ac4 β)
variable (N : Nat)
def L8 (N : Nat) : Rv.Spec β := fun args K => match args with
 | [.v (.agg [.int .i64 a0, .int .i64 a1]), .v (.agg [.int .i64 a2, .int .i64 a3])] => aie a0 a1 a2 a3 (fun z4 => K (.v (.one (.bool z4))))
 | _ => none
def abR : Rv.Spec β := L8 (rB N) N
def ik (v0 v1 v2 v3 v4 v5 : Int) : St := ⟨ac :: ac :: .v (.one (.ptr 0 0)) :: .v (.one (.ptr 1 0)) :: tn 8 ((Z' v0) :: (Z' v1) :: tn 23 []), [.cells 25 [.int .i64 v2, .int .i64 v3], .cells 93 [.int .i64 v4, .int .i64 v5]]⟩
def lu (y0 : Bool) : St := ⟨tn 4 (.v (.one (.bool y0)) :: tn 32 []), []⟩
def lw : St := ⟨tn 37 [], []⟩
def ux {γ : Type} (f : Int -> Int -> Int -> Int -> Int -> Int -> γ) (s : St) : γ := f (af (ah (vT (nx ac s.tmps 12)))) (af (ah (vT (nx ac s.tmps 13)))) (af (nx .und (ak (nx .dead s.blks 0)) 0)) (af (nx .und (ak (nx .dead s.blks 0)) 1)) (af (nx .und (ak (nx .dead s.blks 1)) 0)) (af (nx .und (ak (nx .dead s.blks 1)) 1))
theorem Jd (s : St) : aP (ik 0 0 0 0 0 0) s = ux ik s := by kernel_rfl
def Be : ax β := fun s K => cond (aJ (ik 0 0 0 0 0 0) s) (ux (fun v0 v1 v2 v3 v4 v5 => aiY N v0 v1 v2 v3 v4 v5 (fun y0 => K .ret (lu y0)) (K (.exit 0) (lw ))) s) (none)
def Rk : ax β := Be (nk N) N
def LL : Env β := ⟨[(216, Mj ahU N)], [], [(0, Be aiY N)], [], ⟨[], [], [], []⟩⟩
def QS : Env β := LL (rA N) (nk N) N
theorem Fp (v0 v1 v2 v3 v4 v5 : Int) (rec_ : St -> O β) (K : Exit -> St -> O β) :
  stB lay (LL ahU aiY N) Tryz.f154 0 (ik v0 v1 v2 v3 v4 v5) rec_ K = H9 ahU N v0 v1 v2 v3 v4 v5 (fun v0 v1 v2 v3 v4 v5 => rec_ (ik v0 v1 v2 v3 v4 v5)) (fun y0 => K .ret (lu y0)) (K (.exit 0) (lw )) := by kernel_rfl
theorem Kj (K : Exit -> St -> O β) : ∀ (F : Nat) (v0 v1 v2 v3 v4 v5 : Int), (lp Tryz.f154 0).rounds lay (QS N) (ai Tryz.f154) F (ik v0 v1 v2 v3 v4 v5) K = nk N F v0 v1 v2 v3 v4 v5 (fun y0 => K .ret (lu y0)) (K (.exit 0) (lw )) := by
 intro F; induction F with
 | zero => intros; rfl
 | succ F ih => intros; rw [am]; refine (Fp (rA N) (nk N) N _ _ _ _ _ _ (fun s => (lp Tryz.f154 0).rounds lay (QS N) (ai Tryz.f154) F s K) K).trans ?_; simp only [ih]; rfl
theorem Sz : aS (QS (β := β) N).loops (lp Tryz.f154 0).id = Rk N := by kernel_rfl
theorem TG : ay lay (QS (β := β) N) (ai Tryz.f154) (lp Tryz.f154 0) := rks (Sz ..) (rc1 (fun s K hb => ⟨N, by rw [<- ar hb, Jd s]; unfold ux; exact Kj N K N _ _ _ _ _ _⟩) rc0)
theorem UJ (a0 a1 a2 a3 : Int) (K : TV -> O β) : aL lay (LL ahU aiY N) Tryz.f154 [.v (.agg [.int .i64 a0, .int .i64 a1]), .v (.agg [.int .i64 a2, .int .i64 a3])] K = PM ahU aiY N a0 a1 a2 a3 (fun z4 => K (.v (.one (.bool z4)))) := by kernel_rfl
theorem af8 : ao (β := β) inv Tryz.prog 154 (abR N) := by
 refine ap au mixed (E := QS N) (ae (aa (agp N) ag)) aj av Tryz.func154 (by kernel_rfl) 1 (by kernel_rfl) ⟨trivial, TG N⟩ fun args K r h => ?_
 unfold abR L8 at h
 split at h
 ·exact (UJ (rA N) (nk N) N _ _ _ _ _).trans h
 ·cases h
def Yp (N : Nat) : Rv.Spec β := fun args K => match args with
 | [.v (.agg [.int .i64 a0, .int .i64 a1])] => ahV a0 a1 (fun z2 => K (.v (.one (.fsl 93 (.pairs z2)))))
 | _ => none
def S86 : Rv.Spec β := Yp (pR N) N
def my (v0 v1 v2 v3 : Int) (v4 : List (Int × Int)) : St := ⟨ac :: .v (.one (.ptr 0 0)) :: ac :: .v (.one (.row 1)) :: tn 4 ((Z' v0) :: (Z' v1) :: tn 26 []), [.cells 25 [.int .i64 v2, .int .i64 v3], .row 93 (.pairs v4)]⟩
def oE (y0 : List (Int × Int)) : St := ⟨tn 3 (.v (.one (.row 0)) :: tn 32 []), [.row 93 (.pairs y0)]⟩
def jp (v0 v1 v2 v3 v4 v5 v6 : Int) (v7 : List (Int × Int)) : St := ⟨ac :: .v (.one (.ptr 0 0)) :: ac :: .v (.one (.row 1)) :: (Z' v0) :: tn 3 ((Z' v1) :: (Z' v2) :: tn 3 ((Z' v3) :: (Z' v4) :: tn 21 [])), [.cells 25 [.int .i64 v5, .int .i64 v6], .row 93 (.pairs v7)]⟩
def oF (y0 y1 y2 y3 : Int) (y4 : List (Int × Int)) : St := ⟨ac :: .v (.one (.ptr 0 0)) :: ac :: .v (.one (.row 1)) :: tn 4 ((Z' y0) :: (Z' y1) :: tn 26 []), [.cells 25 [.int .i64 y2, .int .i64 y3], .row 93 (.pairs y4)]⟩
def zX {γ : Type} (f : Int -> Int -> Int -> Int -> (List (Int × Int)) -> γ) (s : St) : γ := f (af (ah (vT (nx ac s.tmps 8)))) (af (ah (vT (nx ac s.tmps 9)))) (af (nx .und (ak (nx .dead s.blks 0)) 0)) (af (nx .und (ak (nx .dead s.blks 0)) 1)) (bc (bh (nx .dead s.blks 1)))
theorem Na (s : St) : aP (my 0 0 0 0 []) s = zX my s := by kernel_rfl
def Gd : ax β := fun s K => cond (aJ (my 0 0 0 0 []) s) (zX (fun v0 v1 v2 v3 v4 => aig N v0 v1 v2 v3 v4 (fun y0 => K (.exit 0) (oE y0))) s) (none)
def XB : ax β := Gd (iY N) N
def Ta {γ : Type} (f : Int -> Int -> Int -> Int -> Int -> Int -> Int -> (List (Int × Int)) -> γ) (s : St) : γ := f (af (ah (vT (nx ac s.tmps 4)))) (af (ah (vT (nx ac s.tmps 8)))) (af (ah (vT (nx ac s.tmps 9)))) (af (ah (vT (nx ac s.tmps 13)))) (af (ah (vT (nx ac s.tmps 14)))) (af (nx .und (ak (nx .dead s.blks 0)) 0)) (af (nx .und (ak (nx .dead s.blks 0)) 1)) (bc (bh (nx .dead s.blks 1)))
theorem Nb (s : St) : aP (jp 0 0 0 0 0 0 0 []) s = Ta jp s := by kernel_rfl
def yI : ax β := fun s K => cond (aJ (jp 0 0 0 0 0 0 0 []) s) ((fun (v0 v1 v2 v3 v4 v5 v6 : Int) (v7 : List (Int × Int)) => aif N v0 v1 v2 v3 v4 v5 v6 v7 (fun y0 y1 y2 y3 y4 => K (.exit 2) (oF y0 y1 y2 y3 y4))) (af (ah (vT (nx ac s.tmps 4)))) (af (ah (vT (nx ac s.tmps 8)))) (af (ah (vT (nx ac s.tmps 9)))) (af (ah (vT (nx ac s.tmps 13)))) (af (ah (vT (nx ac s.tmps 14)))) (af (nx .und (ak (nx .dead s.blks 0)) 0)) (af (nx .und (ak (nx .dead s.blks 0)) 1)) (bc (bh (nx .dead s.blks 1)))) (none)
def Lx : ax β := yI (l0 N) N
def RD : Env β := ⟨[(100, oM zq2 N), (154, L8 aie N)], [], [(0, Gd aig N), (2, yI aif N)], [], ⟨[], [], [], []⟩⟩
def E86 : Env β := RD (zj2 N) (rB N) (l0 N) (iY N) N
theorem Lb (v0 v1 v2 v3 : Int) (v4 : List (Int × Int)) (rec_ : St -> O β) (K : Exit -> St -> O β) :
  stB lay (RD zq2 aie aif aig N) Tryz.f86 0 (my v0 v1 v2 v3 v4) rec_ K = Ib aif N v0 v1 v2 v3 v4 (fun v0 v1 v2 v3 v4 => rec_ (my v0 v1 v2 v3 v4)) (fun y0 => K (.exit 0) (oE y0)) := by kernel_rfl
theorem OH (K : Exit -> St -> O β) : ∀ (F : Nat) (v0 v1 v2 v3 : Int) (v4 : List (Int × Int)), (lp Tryz.f86 0).rounds lay (E86 N) (ai Tryz.f86) F (my v0 v1 v2 v3 v4) K = iY N F v0 v1 v2 v3 v4 (fun y0 => K (.exit 0) (oE y0)) := by
 intro F; induction F with
 | zero => intros; rfl
 | succ F ih => intros; rw [am]; refine (Lb (zj2 N) (rB N) (l0 N) (iY N) N _ _ _ _ _ (fun s => (lp Tryz.f86 0).rounds lay (E86 N) (ai Tryz.f86) F s K) K).trans ?_; simp only [ih]; rfl
theorem Zf : aS (E86 (β := β) N).loops (lp Tryz.f86 0).id = XB N := by kernel_rfl
theorem ZY : ay lay (E86 (β := β) N) (ai Tryz.f86) (lp Tryz.f86 0) := rks (Zf ..) (rc1 (fun s K hb => ⟨N, by rw [<- ar hb, Na s]; unfold zX; exact OH N K N _ _ _ _ _⟩) rc0)
theorem Lc (v0 v1 v2 v3 v4 v5 v6 : Int) (v7 : List (Int × Int)) (rec_ : St -> O β) (K : Exit -> St -> O β) :
  stB lay (RD zq2 aie aif aig N) Tryz.f86 1 (jp v0 v1 v2 v3 v4 v5 v6 v7) rec_ K = Ia aie N v0 v1 v2 v3 v4 v5 v6 v7 (fun v0 v1 v2 v3 v4 v5 v6 v7 => rec_ (jp v0 v1 v2 v3 v4 v5 v6 v7)) (fun y0 y1 y2 y3 y4 => K (.exit 2) (oF y0 y1 y2 y3 y4)) := by kernel_rfl
theorem OI (K : Exit -> St -> O β) : ∀ (F : Nat) (v0 v1 v2 v3 v4 v5 v6 : Int) (v7 : List (Int × Int)), (lp Tryz.f86 1).rounds lay (E86 N) (ai Tryz.f86) F (jp v0 v1 v2 v3 v4 v5 v6 v7) K = l0 N F v0 v1 v2 v3 v4 v5 v6 v7 (fun y0 y1 y2 y3 y4 => K (.exit 2) (oF y0 y1 y2 y3 y4)) := by
 intro F; induction F with
 | zero => intros; rfl
 | succ F ih => intros; rw [am]; refine (Lc (zj2 N) (rB N) (l0 N) (iY N) N _ _ _ _ _ _ _ _ (fun s => (lp Tryz.f86 1).rounds lay (E86 N) (ai Tryz.f86) F s K) K).trans ?_; simp only [ih]; rfl
theorem Zg : aS (E86 (β := β) N).loops (lp Tryz.f86 1).id = Lx N := by kernel_rfl
theorem ZZ : ay lay (E86 (β := β) N) (ai Tryz.f86) (lp Tryz.f86 1) := by
 intro s K r h
 rw [Zg] at h
 unfold Lx yI at h
 cases hb : aJ (jp 0 0 0 0 0 0 0 []) s with
 | true =>
  rw [hb, ajZ] at h
  exact ⟨N, by rw [<- ar hb, Nb s]; exact (OI N K N (af (ah (vT (nx ac s.tmps 4)))) (af (ah (vT (nx ac s.tmps 8)))) (af (ah (vT (nx ac s.tmps 9)))) (af (ah (vT (nx ac s.tmps 13)))) (af (ah (vT (nx ac s.tmps 14)))) (af (nx .und (ak (nx .dead s.blks 0)) 0)) (af (nx .und (ak (nx .dead s.blks 0)) 1)) (bc (bh (nx .dead s.blks 1)))).trans h⟩
 | false =>
 rw [hb, ajY] at h
 clear hb
 cases h
theorem aaL (a0 a1 : Int) (K : TV -> O β) : aL lay (RD zq2 aie aif aig N) Tryz.f86 [.v (.agg [.int .i64 a0, .int .i64 a1])] (Nd K) = PN zq2 aig N a0 a1 (fun z2 => K (.v (.one (.fsl 93 (.pairs z2))))) := by kernel_rfl
theorem o86 : ao (β := β) inv Tryz.prog 86 (S86 N) := by
 refine CY au mixed (E := E86 N) (ae (aa (Er N) (aa (af8 N) ag))) aj av Tryz.func86 (by kernel_rfl) 2 (by kernel_rfl) ⟨⟨trivial, ZY N⟩, ZZ N⟩ fun args K r h => ?_
 unfold S86 Yp at h
 split at h
 ·exact (aaL (zj2 N) (rB N) (l0 N) (iY N) N _ _ _).trans h
 ·cases h
def sx (N G : Nat) : Rv.Spec β := fun args K => match args with
 | [.v (.one (.sl 3 (.ints .i64 a0))), .v (.one (.int .i64 a1)), .v (.one (.int .i64 a2)), .v (.one (.int .i64 a3)), .v (.one (.int .i64 a4))] => ahm G a0 a1 a2 a3 a4 (fun z5 z6 => K (.tup [.one (.sl 3 (.ints .i64 z5)), .one (.bool z6)]))
 | _ => none
def AI (G : Nat) : Rv.Spec β := sx (eG N) N G
def acO : Rv.Spec β := sx ahm N N
def afs : Rv.Spec β := AI N N
def ii (v0 : List Int) (v1 v2 v3 v4 : Int) : St := ⟨.v (.one (.sl 3 (.ints .i64 v0))) :: (Z' v1) :: (Z' v2) :: ac :: (Z' v3) :: tn 7 ((Z' v4) :: tn 44 []), []⟩
def k9 (y0 : Bool) (y1 : List Int) : St := ⟨tn 10 (.v (.one (.row 0)) :: .v (.one (.bool y0)) :: tn 45 []), [.row 3 (.ints .i64 y1)]⟩
def la : St := ⟨tn 57 [], []⟩
def uv {γ : Type} (f : List Int -> Int -> Int -> Int -> Int -> γ) (s : St) : γ := f (aY (bF (ah (vT (nx ac s.tmps 0))))) (af (ah (vT (nx ac s.tmps 1)))) (af (ah (vT (nx ac s.tmps 2)))) (af (ah (vT (nx ac s.tmps 4)))) (af (ah (vT (nx ac s.tmps 12))))
theorem I8 (s : St) : aP (ii [] 0 0 0 0) s = uv ii s := by kernel_rfl
def Bc (G : Nat) : ax β := fun s K => cond (aJ (ii [] 0 0 0 0) s) (uv (fun v0 v1 v2 v3 v4 => aiZ (ahm G) N v0 v1 v2 v3 v4 (fun y0 y1 => K .ret (k9 y0 y1)) (K (.exit 0) (la ))) s) (none)
def Ri (G : Nat) : ax β := Bc (nl N) (eG N) N G
def LK (G : Nat) : Env β := ⟨[(147, sx ahm N G)], [], [(0, Bc aiZ ahm N G)], [], ⟨[], [], [], []⟩⟩
def QR (G : Nat) : Env β := LK (nl N) (eG N) N G
theorem Fk (G : Nat) (v0 : List Int) (v1 v2 v3 v4 : Int) (rec_ : St -> O β) (K : Exit -> St -> O β) :
  stB lay (LK aiZ ahm N G) Tryz.f147 0 (ii v0 v1 v2 v3 v4) rec_ K = Ic N (ahm G) v0 v1 v2 v3 v4 (fun v0 v1 v2 v3 v4 => rec_ (ii v0 v1 v2 v3 v4)) (fun y0 y1 => K .ret (k9 y0 y1)) (K (.exit 0) (la )) := by kernel_rfl
theorem Ke (G : Nat) (K : Exit -> St -> O β) : ∀ (F : Nat) (v0 : List Int) (v1 v2 v3 v4 : Int), (lp Tryz.f147 0).rounds lay (QR N G) (ai Tryz.f147) F (ii v0 v1 v2 v3 v4) K = nl N (eG N G) F v0 v1 v2 v3 v4 (fun y0 y1 => K .ret (k9 y0 y1)) (K (.exit 0) (la )) := by
 intro F; induction F with
 | zero => intros; rfl
 | succ F ih => intros; rw [am]; refine (Fk (nl N) (eG N) N G _ _ _ _ _ (fun s => (lp Tryz.f147 0).rounds lay (QR N G) (ai Tryz.f147) F s K) K).trans ?_; simp only [ih]; rfl
theorem Su (G : Nat) : aS (QR (β := β) N G).loops (lp Tryz.f147 0).id = Ri N G := by kernel_rfl
theorem TB (G : Nat) : ay lay (QR (β := β) N G) (ai Tryz.f147) (lp Tryz.f147 0) := rks (Su ..) (rc1 (fun s K hb => ⟨N, by rw [<- ar hb, I8 s]; unfold uv; exact Ke N _ K N _ _ _ _ _⟩) rc0)
theorem UF (G : Nat) (a0 : List Int) (a1 a2 a3 a4 : Int) (K : TV -> O β) : aL lay (LK aiZ ahm N G) Tryz.f147 [.v (.one (.sl 3 (.ints .i64 a0))), (Z' a1), (Z' a2), (Z' a3), (Z' a4)] K = Id aiZ N (ahm G) a0 a1 a2 a3 a4 (fun z5 z6 => K (.tup [.one (.sl 3 (.ints .i64 z5)), .one (.bool z6)])) := by kernel_rfl
theorem agH : ∀ args K r, AI (β := β) N 0 args K = some r -> (none : O β) = some r := by
 intro args K r h
 unfold AI sx at h
 split at h <;> exact h
theorem adU : ∀ G, ao (β := β) inv Tryz.prog 147 (AI N G) := by
 intro G
 induction G with
 | zero => exact dG Tryz.func147 (by kernel_rfl) (agH N)
 | succ G ih =>
  refine ap au mixed (E := QR N G) (ae (aa ih ag)) aj av Tryz.func147 (by kernel_rfl) 1 (by kernel_rfl) ⟨trivial, TB N G⟩ fun args K r h => ?_
  unfold AI sx at h
  split at h
  ·exact (UF (nl N) (eG N) N G _ _ _ _ _ _).trans h
  ·cases h
theorem af3 : ao (β := β) inv Tryz.prog 147 (afs N) := adU N N
end Go.Proofs.YtemihnclhcobnaaGreatDoor
