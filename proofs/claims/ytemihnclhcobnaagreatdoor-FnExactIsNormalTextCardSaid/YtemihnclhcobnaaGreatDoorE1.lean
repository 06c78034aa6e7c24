/- The functions that the claims cY bz as their texts do. -/
import Derived.Test.YtemihnclhcobnaaGreatDoorSizU
namespace Go.Proofs.YtemihnclhcobnaaGreatDoor
set_option linter.unusedSimpArgs false
open Go.Rv
set_option maxRecDepth 100000
set_option maxHeartbeats 2000000
set_option linter.unusedVariables false
variable {β : Type}
variable (agV : Y4 β) (aii : Y25 β) (aij : Y24 β) (ai8 : Y23 β) (ahd : Y4 β) (ai9 : Y27 β) (ahe : Y26 β) (aja : Y29 β) (ahr : Y28 β) (aik : Y30 β) (ail : Y19 β) (ahC : Y2 β) (ag5 : Y0 β)
variable (N : Nat)
def pZ (N : Nat) : Rv.Spec β := fun args K => match args with
 | [.v (.one (.int .i64 a0)), .v (.one (.int .i64 a1)), .v (.one (.int .i64 a2))] => agV a0 a1 a2 (fun z3 => K (.v (.one (.bool z3))))
 | _ => none
def S57 : Rv.Spec β := pZ (bK N) N
def acx (N : Nat) : Env β := ⟨[], [], [], [], ⟨[], [], [], []⟩⟩
def E57 : Env β := acx N
theorem aam (a0 a1 a2 : Int) (K : TV -> O β) : aL lay (acx N) Tryz.f57 [(Z' a0), (Z' a1), (Z' a2)] K = VD N a0 a1 a2 (fun z3 => K (.v (.one (.bool z3)))) := by kernel_rfl
theorem o57 : ao (β := β) inv Tryz.prog 57 (S57 N) := by
 refine ap au mixed (E := E57 N) (ae ag) aj av Tryz.func57 (by kernel_rfl) 0 (by kernel_rfl) trivial fun args K r h => ?_
 unfold S57 pZ at h
 split at h
 ·exact (aam N _ _ _ _).trans h
 ·cases h
def XZ (N : Nat) : Rv.Spec β := fun args K => match args with
 | [.v (.one (.str a0))] => ai8 a0 (fun z1 z2 z3 => K (.tup [.agg [.int .i64 z1, .int .i64 z2], .one (.bool z3)]))
 | _ => none
def S58 : Rv.Spec β := XZ (DK N) N
def mg (v0 : ByteArray) (v1 v2 v3 : Int) : St := ⟨.v (.one (.str v0)) :: ac :: .v (.one (.ptr 0 0)) :: ac :: (Z' v1) :: tn 33 [], [.cells 25 [.int .i64 v2, .int .i64 v3]]⟩
def nW (y0 : Bool) (y1 y2 : Int) : St := ⟨ac :: ac :: .v (.one (.ptr 0 0)) :: .v (.one (.bool y0)) :: tn 34 [], [.cells 25 [.int .i64 y1, .int .i64 y2]]⟩
def nX (y0 y1 : Int) : St := ⟨ac :: ac :: .v (.one (.ptr 0 0)) :: tn 35 [], [.cells 25 [.int .i64 y0, .int .i64 y1]]⟩
def jk (v0 : ByteArray) (v1 v2 v3 v4 v5 : Int) : St := ⟨.v (.one (.str v0)) :: ac :: .v (.one (.ptr 0 0)) :: ac :: (Z' v1) :: (Z' v2) :: (Z' v3) :: tn 31 [], [.cells 25 [.int .i64 v4, .int .i64 v5]]⟩
def nY (y0 : Bool) (y1 y2 : Int) : St := ⟨ac :: ac :: .v (.one (.ptr 0 0)) :: .v (.one (.bool y0)) :: tn 34 [], [.cells 25 [.int .i64 y1, .int .i64 y2]]⟩
def nZ (y0 y1 y2 y3 : Int) : St := ⟨ac :: ac :: .v (.one (.ptr 0 0)) :: ac :: (Z' y0) :: (Z' y1) :: tn 32 [], [.cells 25 [.int .i64 y2, .int .i64 y3]]⟩
def zJ {γ : Type} (f : ByteArray -> Int -> Int -> Int -> γ) (s : St) : γ := f (dV (ah (vT (nx ac s.tmps 0)))) (af (ah (vT (nx ac s.tmps 4)))) (af (nx .und (ak (nx .dead s.blks 0)) 0)) (af (nx .und (ak (nx .dead s.blks 0)) 1))
theorem MQ (s : St) : aP (mg ByteArray.empty 0 0 0) s = zJ mg s := by kernel_rfl
def FZ : ax β := fun s K => cond (aJ (mg ByteArray.empty 0 0 0) s) (zJ (fun v0 v1 v2 v3 => aij N v0 v1 v2 v3 (fun y0 y1 y2 => K .ret (nW y0 y1 y2)) (fun y0 y1 => K (.exit 0) (nX y0 y1))) s) (none)
def Xn : ax β := FZ (oG N) N
def S4 {γ : Type} (f : ByteArray -> Int -> Int -> Int -> Int -> Int -> γ) (s : St) : γ := f (dV (ah (vT (nx ac s.tmps 0)))) (af (ah (vT (nx ac s.tmps 4)))) (af (ah (vT (nx ac s.tmps 5)))) (af (ah (vT (nx ac s.tmps 6)))) (af (nx .und (ak (nx .dead s.blks 0)) 0)) (af (nx .und (ak (nx .dead s.blks 0)) 1))
theorem MR (s : St) : aP (jk ByteArray.empty 0 0 0 0 0) s = S4 jk s := by kernel_rfl
def yD : ax β := fun s K => cond (aJ (jk ByteArray.empty 0 0 0 0 0) s) ((fun (v0 : ByteArray) (v1 v2 v3 v4 v5 : Int) => aii N v0 v1 v2 v3 v4 v5 (fun y0 y1 y2 => K .ret (nY y0 y1 y2)) (fun y0 y1 y2 y3 => K (.exit 2) (nZ y0 y1 y2 y3))) (dV (ah (vT (nx ac s.tmps 0)))) (af (ah (vT (nx ac s.tmps 4)))) (af (ah (vT (nx ac s.tmps 5)))) (af (ah (vT (nx ac s.tmps 6)))) (af (nx .und (ak (nx .dead s.blks 0)) 0)) (af (nx .und (ak (nx .dead s.blks 0)) 1))) (none)
def Ls : ax β := yD (rG N) N
def Rz : Env β := ⟨[], [], [(0, FZ aij N), (2, yD aii N)], [], ⟨[], [], [], []⟩⟩
def E58 : Env β := Rz (rG N) (oG N) N
theorem KR (v0 : ByteArray) (v1 v2 v3 : Int) (rec_ : St -> O β) (K : Exit -> St -> O β) :
  stB lay (Rz aii aij N) Tryz.f58 0 (mg v0 v1 v2 v3) rec_ K = P4 aii N v0 v1 v2 v3 (fun v0 v1 v2 v3 => rec_ (mg v0 v1 v2 v3)) (fun y0 y1 y2 => K .ret (nW y0 y1 y2)) (fun y0 y1 => K (.exit 0) (nX y0 y1)) := by kernel_rfl
theorem Ol (K : Exit -> St -> O β) : ∀ (F : Nat) (v0 : ByteArray) (v1 v2 v3 : Int), (lp Tryz.f58 0).rounds lay (E58 N) (ai Tryz.f58) F (mg v0 v1 v2 v3) K = oG N F v0 v1 v2 v3 (fun y0 y1 y2 => K .ret (nW y0 y1 y2)) (fun y0 y1 => K (.exit 0) (nX y0 y1)) := by
 intro F; induction F with
 | zero => intros; rfl
 | succ F ih => intros; rw [am]; refine (KR (rG N) (oG N) N _ _ _ _ (fun s => (lp Tryz.f58 0).rounds lay (E58 N) (ai Tryz.f58) F s K) K).trans ?_; simp only [ih]; rfl
theorem YM : aS (E58 (β := β) N).loops (lp Tryz.f58 0).id = Xn N := by kernel_rfl
theorem ZF : ay lay (E58 (β := β) N) (ai Tryz.f58) (lp Tryz.f58 0) := rks (YM ..) (rc1 (fun s K hb => ⟨N, by rw [<- ar hb, MQ s]; unfold zJ; exact Ol N K N _ _ _ _⟩) rc0)
theorem KS (v0 : ByteArray) (v1 v2 v3 v4 v5 : Int) (rec_ : St -> O β) (K : Exit -> St -> O β) :
  stB lay (Rz aii aij N) Tryz.f58 1 (jk v0 v1 v2 v3 v4 v5) rec_ K = VE N v0 v1 v2 v3 v4 v5 (fun v0 v1 v2 v3 v4 v5 => rec_ (jk v0 v1 v2 v3 v4 v5)) (fun y0 y1 y2 => K .ret (nY y0 y1 y2)) (fun y0 y1 y2 y3 => K (.exit 2) (nZ y0 y1 y2 y3)) := by kernel_rfl
theorem Om (K : Exit -> St -> O β) : ∀ (F : Nat) (v0 : ByteArray) (v1 v2 v3 v4 v5 : Int), (lp Tryz.f58 1).rounds lay (E58 N) (ai Tryz.f58) F (jk v0 v1 v2 v3 v4 v5) K = rG N F v0 v1 v2 v3 v4 v5 (fun y0 y1 y2 => K .ret (nY y0 y1 y2)) (fun y0 y1 y2 y3 => K (.exit 2) (nZ y0 y1 y2 y3)) := by
 intro F; induction F with
 | zero => intros; rfl
 | succ F ih => intros; rw [am]; refine (KS (rG N) (oG N) N _ _ _ _ _ _ (fun s => (lp Tryz.f58 1).rounds lay (E58 N) (ai Tryz.f58) F s K) K).trans ?_; simp only [ih]; rfl
theorem YN : aS (E58 (β := β) N).loops (lp Tryz.f58 1).id = Ls N := by kernel_rfl
theorem ZG : ay lay (E58 (β := β) N) (ai Tryz.f58) (lp Tryz.f58 1) := by
 intro s K r h
 rw [YN] at h
 unfold Ls yD at h
 cases hb : aJ (jk ByteArray.empty 0 0 0 0 0) s with
 | true =>
  rw [hb, ajZ] at h
  exact ⟨N, by rw [<- ar hb, MR s]; exact (Om N K N (dV (ah (vT (nx ac s.tmps 0)))) (af (ah (vT (nx ac s.tmps 4)))) (af (ah (vT (nx ac s.tmps 5)))) (af (ah (vT (nx ac s.tmps 6)))) (af (nx .und (ak (nx .dead s.blks 0)) 0)) (af (nx .und (ak (nx .dead s.blks 0)) 1))).trans h⟩
 | false =>
 rw [hb, ajY] at h
 clear hb
 cases h
theorem aan (a0 : ByteArray) (K : TV -> O β) : aL lay (Rz aii aij N) Tryz.f58 [.v (.one (.str a0))] K = VF aij N a0 (fun z1 z2 z3 => K (.tup [.agg [.int .i64 z1, .int .i64 z2], .one (.bool z3)])) := by kernel_rfl
theorem o58 : ao (β := β) inv Tryz.prog 58 (S58 N) := by
 refine ap au mixed (E := E58 N) (ae ag) aj av Tryz.func58 (by kernel_rfl) 2 (by kernel_rfl) ⟨⟨trivial, ZF N⟩, ZG N⟩ fun args K r h => ?_
 unfold S58 XZ at h
 split at h
 ·exact (aan (rG N) (oG N) N _ _).trans h
 ·cases h
def Br (N : Nat) : Rv.Spec β := fun args K => match args with
 | [.v (.one (.int .i64 a0)), .v (.agg [.int .i64 a1, .int .i64 a2])] => ahd a0 a1 a2 (fun z3 => K (.v (.one (.bool z3))))
 | _ => none
def abx : Rv.Spec β := Br (jK N) N
def V3 : Env β := ⟨[(57, pZ agV N)], [], [], [], ⟨[], [], [], []⟩⟩
def aeG : Env β := V3 (bK N) N
theorem Ue (a0 a1 a2 : Int) (K : TV -> O β) : aL lay (V3 agV N) Tryz.f123 [(Z' a0), .v (.agg [.int .i64 a1, .int .i64 a2])] K = VG agV N a0 a1 a2 (fun z3 => K (.v (.one (.bool z3)))) := by kernel_rfl
theorem Zl : ao (β := β) inv Tryz.prog 123 (abx N) := by
 refine ap au mixed (E := aeG N) (ae (aa (o57 N) ag)) aj av Tryz.func123 (by kernel_rfl) 0 (by kernel_rfl) trivial fun args K r h => ?_
 unfold abx Br at h
 split at h
 ·exact (Ue (bK N) N _ _ _ _).trans h
 ·cases h
def Bt (N : Nat) : Rv.Spec β := fun args K => match args with
 | [.v (.one (.int .i64 a0)), .v (.agg [.int .i64 a1, .int .i64 a2])] => ahe a0 a1 a2 (fun z3 => K (.v (.one (.str z3))))
 | _ => none
def abL : Rv.Spec β := Bt (ja N) N
def hY (v0 : Int) (v1 : ByteArray) (v2 v3 v4 : Int) : St := ⟨(Z' v0) :: ac :: ac :: .v (.one (.ptr 0 0)) :: ac :: .v (.one (.str v1)) :: (Z' v2) :: tn 38 [], [.cells 93 [.int .i64 v3, .int .i64 v4]]⟩
def kL (y0 : Int) (y1 : ByteArray) (y2 y3 : Int) : St := ⟨(Z' y0) :: ac :: ac :: .v (.one (.ptr 0 0)) :: ac :: .v (.one (.str y1)) :: tn 39 [], [.cells 93 [.int .i64 y2, .int .i64 y3]]⟩
def uo {γ : Type} (f : Int -> ByteArray -> Int -> Int -> Int -> γ) (s : St) : γ := f (af (ah (vT (nx ac s.tmps 0)))) (dV (ah (vT (nx ac s.tmps 5)))) (af (ah (vT (nx ac s.tmps 6)))) (af (nx .und (ak (nx .dead s.blks 0)) 0)) (af (nx .und (ak (nx .dead s.blks 0)) 1))
theorem IY (s : St) : aP (hY 0 ByteArray.empty 0 0 0) s = uo hY s := by kernel_rfl
def A6 : ax β := fun s K => cond (aJ (hY 0 ByteArray.empty 0 0 0) s) (uo (fun v0 v1 v2 v3 v4 => ai9 N v0 v1 v2 v3 v4 (fun y0 y1 y2 y3 => K (.exit 0) (kL y0 y1 y2 y3))) s) (none)
def Rc : ax β := A6 (rH N) N
def LG : Env β := ⟨[(123, Br ahd N)], [], [(0, A6 ai9 N)], [], ⟨[], [], [], []⟩⟩
def QN : Env β := LG (jK N) (rH N) N
theorem E9 (v0 : Int) (v1 : ByteArray) (v2 v3 v4 : Int) (rec_ : St -> O β) (K : Exit -> St -> O β) :
  stB lay (LG ahd ai9 N) Tryz.f140 0 (hY v0 v1 v2 v3 v4) rec_ K = Lf ahd N v0 v1 v2 v3 v4 (fun v0 v1 v2 v3 v4 => rec_ (hY v0 v1 v2 v3 v4)) (fun y0 y1 y2 y3 => K (.exit 0) (kL y0 y1 y2 y3)) := by kernel_rfl
theorem J4 (K : Exit -> St -> O β) : ∀ (F : Nat) (v0 : Int) (v1 : ByteArray) (v2 v3 v4 : Int), (lp Tryz.f140 0).rounds lay (QN N) (ai Tryz.f140) F (hY v0 v1 v2 v3 v4) K = rH N F v0 v1 v2 v3 v4 (fun y0 y1 y2 y3 => K (.exit 0) (kL y0 y1 y2 y3)) := by
 intro F; induction F with
 | zero => intros; rfl
 | succ F ih => intros; rw [am]; refine (E9 (jK N) (rH N) N _ _ _ _ _ (fun s => (lp Tryz.f140 0).rounds lay (QN N) (ai Tryz.f140) F s K) K).trans ?_; simp only [ih]; rfl
theorem Sj : aS (QN (β := β) N).loops (lp Tryz.f140 0).id = Rc N := by kernel_rfl
theorem Tp : ay lay (QN (β := β) N) (ai Tryz.f140) (lp Tryz.f140 0) := rks (Sj ..) (rc1 (fun s K hb => ⟨N, by rw [<- ar hb, IY s]; unfold uo; exact J4 N K N _ _ _ _ _⟩) rc0)
theorem Uz (a0 a1 a2 : Int) (K : TV -> O β) : aL lay (LG ahd ai9 N) Tryz.f140 [(Z' a0), .v (.agg [.int .i64 a1, .int .i64 a2])] K = VH ahd ai9 N a0 a1 a2 (fun z3 => K (.v (.one (.str z3)))) := by kernel_rfl
theorem Zn : ao (β := β) inv Tryz.prog 140 (abL N) := by
 refine ap au mixed (E := QN N) (ae (aa (Zl N) ag)) aj av Tryz.func140 (by kernel_rfl) 1 (by kernel_rfl) ⟨trivial, Tp N⟩ fun args K r h => ?_
 unfold abL Bt at h
 split at h
 ·exact (Uz (jK N) (rH N) N _ _ _ _).trans h
 ·cases h
def Ge (N : Nat) : Rv.Spec β := fun args K => match args with
 | [.v (.one (.int .i64 a0)), .v (.one (.str a1))] => ahr a0 a1 (fun z2 z3 z4 => K (.tup [.agg [.int .i64 z2, .int .i64 z3], .one (.bool z4)]))
 | _ => none
def abu : Rv.Spec β := Ge (oH N) N
def gV (v0 : Int) (v1 : ByteArray) (v2 : Bool) (v3 v4 v5 v6 v7 : Int) : St := ⟨(Z' v0) :: .v (.one (.str v1)) :: ac :: ac :: .v (.one (.ptr 0 0)) :: ac :: .v (.one (.ptr 1 0)) :: .v (.one (.bool v2)) :: (Z' v3) :: tn 57 [], [.cells 93 [.int .i64 v4, .int .i64 v5], .cells 93 [.int .i64 v6, .int .i64 v7]]⟩
def kw (y0 : Bool) (y1 y2 : Int) : St := ⟨tn 4 (.v (.one (.ptr 0 0)) :: .v (.one (.bool y0)) :: tn 60 []), [.cells 93 [.int .i64 y1, .int .i64 y2]]⟩
def kx (y0 : Int) (y1 : ByteArray) (y2 y3 y4 y5 : Int) : St := ⟨(Z' y0) :: .v (.one (.str y1)) :: ac :: ac :: .v (.one (.ptr 0 0)) :: ac :: .v (.one (.ptr 1 0)) :: tn 59 [], [.cells 93 [.int .i64 y2, .int .i64 y3], .cells 93 [.int .i64 y4, .int .i64 y5]]⟩
def uc {γ : Type} (f : Int -> ByteArray -> Bool -> Int -> Int -> Int -> Int -> Int -> γ) (s : St) : γ := f (af (ah (vT (nx ac s.tmps 0)))) (dV (ah (vT (nx ac s.tmps 1)))) (GE (ah (vT (nx ac s.tmps 7)))) (af (ah (vT (nx ac s.tmps 8)))) (af (nx .und (ak (nx .dead s.blks 0)) 0)) (af (nx .und (ak (nx .dead s.blks 0)) 1)) (af (nx .und (ak (nx .dead s.blks 1)) 0)) (af (nx .und (ak (nx .dead s.blks 1)) 1))
theorem IK (s : St) : aP (gV 0 ByteArray.empty false 0 0 0 0 0) s = uc gV s := by kernel_rfl
def AX : ax β := fun s K => cond (aJ (gV 0 ByteArray.empty false 0 0 0 0 0) s) (uc (fun v0 v1 v2 v3 v4 v5 v6 v7 => aja N v0 v1 v2 v3 v4 v5 v6 v7 (fun y0 y1 y2 => K .ret (kw y0 y1 y2)) (fun y0 y1 y2 y3 y4 y5 => K (.exit 0) (kx y0 y1 y2 y3 y4 y5))) s) (none)
def Q5 : ax β := AX (l7 N) N
def LB : Env β := ⟨[(57, pZ agV N), (140, Bt ahe N)], [], [(0, AX aja N)], [], ⟨[], [], [], []⟩⟩
def QI : Env β := LB (bK N) (ja N) (l7 N) N
theorem EV (v0 : Int) (v1 : ByteArray) (v2 : Bool) (v3 v4 v5 v6 v7 : Int) (rec_ : St -> O β) (K : Exit -> St -> O β) :
  stB lay (LB agV ahe aja N) Tryz.f120 0 (gV v0 v1 v2 v3 v4 v5 v6 v7) rec_ K = Dq agV N v0 v1 v2 v3 v4 v5 v6 v7 (fun v0 v1 v2 v3 v4 v5 v6 v7 => rec_ (gV v0 v1 v2 v3 v4 v5 v6 v7)) (fun y0 y1 y2 => K .ret (kw y0 y1 y2)) (fun y0 y1 y2 y3 y4 y5 => K (.exit 0) (kx y0 y1 y2 y3 y4 y5)) := by kernel_rfl
theorem JR (K : Exit -> St -> O β) : ∀ (F : Nat) (v0 : Int) (v1 : ByteArray) (v2 : Bool) (v3 v4 v5 v6 v7 : Int), (lp Tryz.f120 0).rounds lay (QI N) (ai Tryz.f120) F (gV v0 v1 v2 v3 v4 v5 v6 v7) K = l7 N F v0 v1 v2 v3 v4 v5 v6 v7 (fun y0 y1 y2 => K .ret (kw y0 y1 y2)) (fun y0 y1 y2 y3 y4 y5 => K (.exit 0) (kx y0 y1 y2 y3 y4 y5)) := by
 intro F; induction F with
 | zero => intros; rfl
 | succ F ih => intros; rw [am]; refine (EV (bK N) (ja N) (l7 N) N _ _ _ _ _ _ _ _ (fun s => (lp Tryz.f120 0).rounds lay (QI N) (ai Tryz.f120) F s K) K).trans ?_; simp only [ih]; rfl
theorem Sb : aS (QI (β := β) N).loops (lp Tryz.f120 0).id = Q5 N := by kernel_rfl
theorem Th : ay lay (QI (β := β) N) (ai Tryz.f120) (lp Tryz.f120 0) := rks (Sb ..) (rc1 (fun s K hb => ⟨N, by rw [<- ar hb, IK s]; unfold uc; exact JR N K N _ _ _ _ _ _ _ _⟩) rc0)
theorem Ub (a0 : Int) (a1 : ByteArray) (K : TV -> O β) : aL lay (LB agV ahe aja N) Tryz.f120 [(Z' a0), .v (.one (.str a1))] K = VI ahe aja N a0 a1 (fun z2 z3 z4 => K (.tup [.agg [.int .i64 z2, .int .i64 z3], .one (.bool z4)])) := by kernel_rfl
theorem adu : ao (β := β) inv Tryz.prog 120 (abu N) := by
 refine ap au mixed (E := QI N) (ae (aa (o57 N) (aa (Zn N) ag))) aj av Tryz.func120 (by kernel_rfl) 1 (by kernel_rfl) ⟨trivial, Th N⟩ fun args K r h => ?_
 unfold abu Ge at h
 split at h
 ·exact (Ub (bK N) (ja N) (l7 N) N _ _ _).trans h
 ·cases h
def Gf (N : Nat) : Rv.Spec β := fun args K => match args with
 | [.v (.agg [.int .i64 a0, .int .i64 a1])] => ahC a0 a1 (fun z2 => K (.v (.one (.int .i64 z2))))
 | _ => none
def abv : Rv.Spec β := Gf (pU N) N
def gW (v0 v1 v2 v3 : Int) : St := ⟨ac :: .v (.one (.ptr 0 0)) :: ac :: (Z' v0) :: (Z' v1) :: tn 33 [], [.cells 25 [.int .i64 v2, .int .i64 v3]]⟩
def ky (y0 : Int) : St := ⟨tn 3 ((Z' y0) :: tn 34 []), []⟩
def fq (v0 v1 v2 v3 v4 v5 : Int) : St := ⟨ac :: .v (.one (.ptr 0 0)) :: ac :: (Z' v0) :: (Z' v1) :: (Z' v2) :: (Z' v3) :: tn 31 [], [.cells 25 [.int .i64 v4, .int .i64 v5]]⟩
def kz (y0 y1 y2 y3 y4 : Int) : St := ⟨ac :: .v (.one (.ptr 0 0)) :: ac :: (Z' y0) :: (Z' y1) :: (Z' y2) :: tn 32 [], [.cells 25 [.int .i64 y3, .int .i64 y4]]⟩
def ud {γ : Type} (f : Int -> Int -> Int -> Int -> γ) (s : St) : γ := f (af (ah (vT (nx ac s.tmps 3)))) (af (ah (vT (nx ac s.tmps 4)))) (af (nx .und (ak (nx .dead s.blks 0)) 0)) (af (nx .und (ak (nx .dead s.blks 0)) 1))
theorem IL (s : St) : aP (gW 0 0 0 0) s = ud gW s := by kernel_rfl
def AY : ax β := fun s K => cond (aJ (gW 0 0 0 0) s) (ud (fun v0 v1 v2 v3 => ail N v0 v1 v2 v3 (fun y0 => K (.exit 0) (ky y0))) s) (none)
def Q6 : ax β := AY (vP N) N
def NZ {γ : Type} (f : Int -> Int -> Int -> Int -> Int -> Int -> γ) (s : St) : γ := f (af (ah (vT (nx ac s.tmps 3)))) (af (ah (vT (nx ac s.tmps 4)))) (af (ah (vT (nx ac s.tmps 5)))) (af (ah (vT (nx ac s.tmps 6)))) (af (nx .und (ak (nx .dead s.blks 0)) 0)) (af (nx .und (ak (nx .dead s.blks 0)) 1))
theorem IM (s : St) : aP (fq 0 0 0 0 0 0) s = NZ fq s := by kernel_rfl
def se : ax β := fun s K => cond (aJ (fq 0 0 0 0 0 0) s) ((fun (v0 v1 v2 v3 v4 v5 : Int) => aik N v0 v1 v2 v3 v4 v5 (fun y0 y1 y2 y3 y4 => K (.exit 2) (kz y0 y1 y2 y3 y4))) (af (ah (vT (nx ac s.tmps 3)))) (af (ah (vT (nx ac s.tmps 4)))) (af (ah (vT (nx ac s.tmps 5)))) (af (ah (vT (nx ac s.tmps 6)))) (af (nx .und (ak (nx .dead s.blks 0)) 0)) (af (nx .und (ak (nx .dead s.blks 0)) 1))) (none)
def FM : ax β := se (vO N) N
def FV : Env β := ⟨[], [], [(0, AY ail N), (2, se aik N)], [], ⟨[], [], [], []⟩⟩
def DM : Env β := FV (vO N) (vP N) N
theorem EW (v0 v1 v2 v3 : Int) (rec_ : St -> O β) (K : Exit -> St -> O β) :
  stB lay (FV aik ail N) Tryz.f121 0 (gW v0 v1 v2 v3) rec_ K = VK aik N v0 v1 v2 v3 (fun v0 v1 v2 v3 => rec_ (gW v0 v1 v2 v3)) (fun y0 => K (.exit 0) (ky y0)) := by kernel_rfl
theorem JS (K : Exit -> St -> O β) : ∀ (F : Nat) (v0 v1 v2 v3 : Int), (lp Tryz.f121 0).rounds lay (DM N) (ai Tryz.f121) F (gW v0 v1 v2 v3) K = vP N F v0 v1 v2 v3 (fun y0 => K (.exit 0) (ky y0)) := by
 intro F; induction F with
 | zero => intros; rfl
 | succ F ih => intros; rw [am]; refine (EW (vO N) (vP N) N _ _ _ _ (fun s => (lp Tryz.f121 0).rounds lay (DM N) (ai Tryz.f121) F s K) K).trans ?_; simp only [ih]; rfl
theorem Sc : aS (DM (β := β) N).loops (lp Tryz.f121 0).id = Q6 N := by kernel_rfl
theorem Ti : ay lay (DM (β := β) N) (ai Tryz.f121) (lp Tryz.f121 0) := rks (Sc ..) (rc1 (fun s K hb => ⟨N, by rw [<- ar hb, IL s]; unfold ud; exact JS N K N _ _ _ _⟩) rc0)
theorem EX (v0 v1 v2 v3 v4 v5 : Int) (rec_ : St -> O β) (K : Exit -> St -> O β) :
  stB lay (FV aik ail N) Tryz.f121 1 (fq v0 v1 v2 v3 v4 v5) rec_ K = VJ N v0 v1 v2 v3 v4 v5 (fun v0 v1 v2 v3 v4 v5 => rec_ (fq v0 v1 v2 v3 v4 v5)) (fun y0 y1 y2 y3 y4 => K (.exit 2) (kz y0 y1 y2 y3 y4)) := by kernel_rfl
theorem JT (K : Exit -> St -> O β) : ∀ (F : Nat) (v0 v1 v2 v3 v4 v5 : Int), (lp Tryz.f121 1).rounds lay (DM N) (ai Tryz.f121) F (fq v0 v1 v2 v3 v4 v5) K = vO N F v0 v1 v2 v3 v4 v5 (fun y0 y1 y2 y3 y4 => K (.exit 2) (kz y0 y1 y2 y3 y4)) := by
 intro F; induction F with
 | zero => intros; rfl
 | succ F ih => intros; rw [am]; refine (EX (vO N) (vP N) N _ _ _ _ _ _ (fun s => (lp Tryz.f121 1).rounds lay (DM N) (ai Tryz.f121) F s K) K).trans ?_; simp only [ih]; rfl
theorem Sd : aS (DM (β := β) N).loops (lp Tryz.f121 1).id = FM N := by kernel_rfl
theorem Tj : ay lay (DM (β := β) N) (ai Tryz.f121) (lp Tryz.f121 1) := by
 intro s K r h
 rw [Sd] at h
 unfold FM se at h
 cases hb : aJ (fq 0 0 0 0 0 0) s with
 | true =>
  rw [hb, ajZ] at h
  exact ⟨N, by rw [<- ar hb, IM s]; exact (JT N K N (af (ah (vT (nx ac s.tmps 3)))) (af (ah (vT (nx ac s.tmps 4)))) (af (ah (vT (nx ac s.tmps 5)))) (af (ah (vT (nx ac s.tmps 6)))) (af (nx .und (ak (nx .dead s.blks 0)) 0)) (af (nx .und (ak (nx .dead s.blks 0)) 1))).trans h⟩
 | false =>
 rw [hb, ajY] at h
 clear hb
 cases h
theorem Uc (a0 a1 : Int) (K : TV -> O β) : aL lay (FV aik ail N) Tryz.f121 [.v (.agg [.int .i64 a0, .int .i64 a1])] K = aaX ail N a0 a1 (fun z2 => K ((Z' z2))) := by kernel_rfl
theorem adv : ao (β := β) inv Tryz.prog 121 (abv N) := by
 refine ap au mixed (E := DM N) (ae ag) aj av Tryz.func121 (by kernel_rfl) 2 (by kernel_rfl) ⟨⟨trivial, Ti N⟩, Tj N⟩ fun args K r h => ?_
 unfold abv Gf at h
 split at h
 ·exact (Uc (vO N) (vP N) N _ _ _).trans h
 ·cases h
def Bx (N : Nat) : Rv.Spec β := fun args K => match args with
 | [.v (.agg [.int .i64 a0, .int .i64 a1])] => ag5 a0 a1 (fun z2 => K (.v (.one (.bool z2))))
 | _ => none
def S20 : Rv.Spec β := Bx (eT N) N
def act : Env β := ⟨[(57, pZ agV N)], [], [], [], ⟨[], [], [], []⟩⟩
def E20 : Env β := act (bK N) N
theorem aag (a0 a1 : Int) (K : TV -> O β) : aL lay (act agV N) Tryz.f20 [.v (.agg [.int .i64 a0, .int .i64 a1])] K = aaY agV N a0 a1 (fun z2 => K (.v (.one (.bool z2)))) := by kernel_rfl
theorem o20 : ao (β := β) inv Tryz.prog 20 (S20 N) := by
 refine ap au mixed (E := E20 N) (ae (aa (o57 N) ag)) aj av Tryz.func20 (by kernel_rfl) 0 (by kernel_rfl) trivial fun args K r h => ?_
 unfold S20 Bx at h
 split at h
 ·exact (aag (bK N) N _ _ _).trans h
 ·cases h
end Go.Proofs.YtemihnclhcobnaaGreatDoor
