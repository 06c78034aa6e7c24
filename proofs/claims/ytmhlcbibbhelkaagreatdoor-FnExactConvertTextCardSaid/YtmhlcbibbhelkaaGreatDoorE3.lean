/- The functions that the claims cZ bz as their texts do. -/
import Derived.Test.YtmhlcbibbhelkaaGreatDoorE2
namespace Go.Proofs.YtmhlcbibbhelkaaGreatDoor
set_option linter.unusedSimpArgs false
open Go.Rv
set_option maxRecDepth 100000
set_option maxHeartbeats 2000000
set_option linter.unusedVariables false
variable {β : Type}
variable (adV aed : Y4 β) (aeh : Y3 β) (agk : Y39 β) (agl : Y38 β) (afm : Y40 β) (afn : Y41 β) (ae4 : Y43 β) (agm : Y45 β) (afo : Y44 β) (afp : Y48 β) (afq : Y49 β) (agn : Y47 β) (aeN : Y43 β) (ae5 : Y41 β) (aeO : Y50 β)
def UZ (N : Nat) : Rv.Spec β := fun args K => match args with
 | [.v (.one (.int .i64 a0)), .v (.one (.sl 46 (.pairs a1)))] => agl a0 a1 (fun z2 z3 z4 => K (.tup [.agg [.int .i64 z2, .int .i64 z3], .one (.bool z4)]))
 | _ => none
def S14 (N : Nat) : Rv.Spec β := UZ (Ep N) N
def kH (v0 : Int) (v1 : List (Int × Int)) (v2 v3 v4 v5 : Int) : St := ⟨(Z' v0) :: .v (.one (.sl 46 (.pairs v1))) :: ac :: ac :: .v (.one (.ptr 0 0)) :: ac :: (Z' v2) :: (Z' v3) :: tn 29 [], [.cells 26 [.int .i64 v4, .int .i64 v5]]⟩
def nf (y0 : Bool) (y1 y2 : Int) : St := ⟨tn 4 (.v (.one (.ptr 0 0)) :: .v (.one (.bool y0)) :: tn 31 []), [.cells 26 [.int .i64 y1, .int .i64 y2]]⟩
def ng (y0 y1 y2 y3 : Int) : St := ⟨(Z' y0) :: tn 3 (.v (.one (.ptr 0 0)) :: ac :: (Z' y1) :: tn 30 []), [.cells 26 [.int .i64 y2, .int .i64 y3]]⟩
def yP {γ : Type} (f : Int → (List (Int × Int)) → Int → Int → Int → Int → γ) (s : St) : γ := f (af (ah (vT (nx ac s.tmps 0)))) (bc (bF (ah (vT (nx ac s.tmps 1))))) (af (ah (vT (nx ac s.tmps 6)))) (af (ah (vT (nx ac s.tmps 7)))) (af (nx .und (aj (nx .dead s.blks 0)) 0)) (af (nx .und (aj (nx .dead s.blks 0)) 1))
theorem KW (s : St) : aP (kH 0 [] 0 0 0 0) s = yP kH s := by kernel_rfl
def Ex (N : Nat) : ax β := fun s K => cond (aJ (kH 0 [] 0 0 0 0) s) (yP (fun v0 v1 v2 v3 v4 v5 => agk N v0 v1 v2 v3 v4 v5 (fun y0 y1 y2 => K .ret (nf y0 y1 y2)) (fun y0 y1 y2 y3 => K (.exit 0) (ng y0 y1 y2 y3))) s) (none)
def TP (N : Nat) : ax β := Ex (uS N) N
def Uu (N : Nat) : Env β := ⟨[(40, Kp aed N), (41, Kq aeh N), (10, qb adV N)], [], [(0, Ex agk N)], [], ⟨[], [], [], []⟩⟩
def E14 (N : Nat) : Env β := Uu (bK N) (jl N) (oN N) (uS N) N
theorem Ix (N : Nat) (v0 : Int) (v1 : List (Int × Int)) (v2 v3 v4 v5 : Int) (rec_ : St → O β) (K : Exit → St → O β) :
  stB lay (Uu adV aed aeh agk N) Tryz.f14 0 (kH v0 v1 v2 v3 v4 v5) rec_ K = Sq aed aeh N v0 v1 v2 v3 v4 v5 (fun v0 v1 v2 v3 v4 v5 => rec_ (kH v0 v1 v2 v3 v4 v5)) (fun y0 y1 y2 => K .ret (nf y0 y1 y2)) (fun y0 y1 y2 y3 => K (.exit 0) (ng y0 y1 y2 y3)) := by kernel_rfl
theorem MT (N : Nat) (K : Exit → St → O β) : ∀ (F : Nat) (v0 : Int) (v1 : List (Int × Int)) (v2 v3 v4 v5 : Int), (lp Tryz.f14 0).rounds lay (E14 N) (ai Tryz.f14) F (kH v0 v1 v2 v3 v4 v5) K = uS N F v0 v1 v2 v3 v4 v5 (fun y0 y1 y2 => K .ret (nf y0 y1 y2)) (fun y0 y1 y2 y3 => K (.exit 0) (ng y0 y1 y2 y3)) := by
 intro F; induction F with
 | zero => intros; rfl
 | succ F ih => intros; rw [am]; refine (Ix (bK N) (jl N) (oN N) (uS N) N _ _ _ _ _ _ (fun s => (lp Tryz.f14 0).rounds lay (E14 N) (ai Tryz.f14) F s K) K).trans ?_; simp only [ih]; rfl
theorem VW (N : Nat) : aS (E14 (β := β) N).loops (lp Tryz.f14 0).id = TP N := by kernel_rfl
theorem W5 (N : Nat) : ay lay (E14 (β := β) N) (ai Tryz.f14) (lp Tryz.f14 0) := rks (VW ..) (rc1 (fun s K hb => ⟨N, by rw [← ar hb, KW s]; unfold yP; exact MT N K N _ _ _ _ _ _⟩) rc0)
theorem X9 (N : Nat) (a0 : Int) (a1 : List (Int × Int)) (K : TV → O β) : aL lay (Uu adV aed aeh agk N) Tryz.f14 [(Z' a0), .v (.one (.sl 46 (.pairs a1)))] K = ZZ adV agk N a0 a1 (fun z2 z3 z4 => K (.tup [.agg [.int .i64 z2, .int .i64 z3], .one (.bool z4)])) := by kernel_rfl
theorem o14 (N : Nat) : ao (β := β) inv Tryz.prog 14 (S14 N) := by
 refine ap au mixed (E := E14 N) (ae (aa (o40 N) (aa (o41 N) (aa (o10 N) ag)))) ak av Tryz.func14 (by kernel_rfl) 1 (by kernel_rfl) ⟨trivial, W5 N⟩ fun args K r h => ?_
 unfold S14 UZ at h
 split at h
 ·exact (X9 (bK N) (jl N) (oN N) (uS N) N _ _ _).trans h
 ·cases h
def AO (N G : Nat) : Rv.Spec β := fun args K => match args with
 | [.v (.one (.str a0)), .v (.one (.int .i64 a1)), .v (.one (.int .i64 a2))] => afm G a0 a1 a2 (fun z3 => K (.v (.one (.int .i64 z3))))
 | _ => none
def J1 (N G : Nat) : Rv.Spec β := AO (Am N) N G
def ac0 (N : Nat) : Rv.Spec β := AO afm N N
def S74 (N : Nat) : Rv.Spec β := J1 N N
def aa5 (N G : Nat) : Env β := ⟨[(10, qb adV N), (74, AO afm N G)], [], [], [], ⟨[], [], [], []⟩⟩
def E74 (N G : Nat) : Env β := aa5 (bK N) (Am N) N G
theorem Zk (N G : Nat) (a0 : ByteArray) (a1 a2 : Int) (K : TV → O β) : aL lay (aa5 adV afm N G) Tryz.f74 [.v (.one (.str a0)), (Z' a1), (Z' a2)] K = Z0 adV N (afm G) a0 a1 a2 (fun z3 => K ((Z' z3))) := by kernel_rfl
theorem z74 (N : Nat) : ∀ args K r, J1 (β := β) N 0 args K = some r → (none : O β) = some r := by
 intro args K r h
 unfold J1 AO at h
 split at h <;> exact h
theorem adD (N : Nat) : ∀ G, ao (β := β) inv Tryz.prog 74 (J1 N G) := by
 intro G
 induction G with
 | zero => exact dG Tryz.func74 (by kernel_rfl) (z74 N)
 | succ G ih =>
  refine ap au mixed (E := E74 N G) (ae (aa (o10 N) (aa ih ag))) ak av Tryz.func74 (by kernel_rfl) 0 (by kernel_rfl) trivial fun args K r h => ?_
  unfold J1 AO at h
  split at h
  ·exact (Zk (bK N) (Am N) N G _ _ _ _).trans h
  ·cases h
theorem o74 (N : Nat) : ao (β := β) inv Tryz.prog 74 (S74 N) := adD N N
def Vh (N : Nat) : Rv.Spec β := fun args K => match args with
 | [.v (.one (.str a0))] => afn a0 (fun z1 => K (.v (.one (.bool z1))))
 | _ => none
def S42 (N : Nat) : Rv.Spec β := Vh (C6 N) N
def aaO (N : Nat) : Env β := ⟨[(74, ac0 afm N)], [], [], [], ⟨[], [], [], []⟩⟩
def E42 (N : Nat) : Env β := aaO (Am N) N
theorem YC (N : Nat) (a0 : ByteArray) (K : TV → O β) : aL lay (aaO afm N) Tryz.f42 [.v (.one (.str a0))] K = Z1 (afm N) N a0 (fun z1 => K (.v (.one (.bool z1)))) := by kernel_rfl
theorem o42 (N : Nat) : ao (β := β) inv Tryz.prog 42 (S42 N) := by
 refine ap au mixed (E := E42 N) (ae (aa (o74 N) ag)) ak av Tryz.func42 (by kernel_rfl) 0 (by kernel_rfl) trivial fun args K r h => ?_
 unfold S42 Vh at h
 split at h
 ·exact (YC (Am N) N _ _).trans h
 ·cases h
def AP (N G : Nat) : Rv.Spec β := fun args K => match args with
 | [.v (.one (.str a0)), .v (.one (.int .i64 a1))] => ae4 G a0 a1 (fun z2 => K (.v (.one (.int .i64 z2))))
 | _ => none
def J2 (N G : Nat) : Rv.Spec β := AP (vC N) N G
def ac1 (N : Nat) : Rv.Spec β := AP ae4 N N
def S75 (N : Nat) : Rv.Spec β := J2 N N
def aa6 (N G : Nat) : Env β := ⟨[(75, AP ae4 N G)], [], [], [], ⟨[], [], [], []⟩⟩
def E75 (N G : Nat) : Env β := aa6 (vC N) N G
theorem Zl (N G : Nat) (a0 : ByteArray) (a1 : Int) (K : TV → O β) : aL lay (aa6 ae4 N G) Tryz.f75 [.v (.one (.str a0)), (Z' a1)] K = Z2 N (ae4 G) a0 a1 (fun z2 => K ((Z' z2))) := by kernel_rfl
theorem z75 (N : Nat) : ∀ args K r, J2 (β := β) N 0 args K = some r → (none : O β) = some r := by
 intro args K r h
 unfold J2 AP at h
 split at h <;> exact h
theorem adE (N : Nat) : ∀ G, ao (β := β) inv Tryz.prog 75 (J2 N G) := by
 intro G
 induction G with
 | zero => exact dG Tryz.func75 (by kernel_rfl) (z75 N)
 | succ G ih =>
  refine ap au mixed (E := E75 N G) (ae (aa ih ag)) ak av Tryz.func75 (by kernel_rfl) 0 (by kernel_rfl) trivial fun args K r h => ?_
  unfold J2 AP at h
  split at h
  ·exact (Zl (vC N) N G _ _ _).trans h
  ·cases h
theorem o75 (N : Nat) : ao (β := β) inv Tryz.prog 75 (S75 N) := adE N N
def Vi (N : Nat) : Rv.Spec β := fun args K => match args with
 | [.v (.one (.str a0)), .v (.one (.int .i64 a1))] => afo a0 a1 (fun z2 z3 => K (.tup [.one (.int .i64 z2), .one (.int .i64 z3)]))
 | _ => none
def S43 (N : Nat) : Rv.Spec β := Vi (Er N) N
def kY (v0 : ByteArray) (v1 v2 v3 : Int) : St := ⟨.v (.one (.str v0)) :: (Z' v1) :: tn 4 ((Z' v2) :: (Z' v3) :: tn 33 []), []⟩
def nO (y0 : ByteArray) (y1 y2 : Int) : St := ⟨.v (.one (.str y0)) :: tn 5 ((Z' y1) :: (Z' y2) :: tn 33 []), []⟩
def zk {γ : Type} (f : ByteArray → Int → Int → Int → γ) (s : St) : γ := f (dV (ah (vT (nx ac s.tmps 0)))) (af (ah (vT (nx ac s.tmps 1)))) (af (ah (vT (nx ac s.tmps 6)))) (af (ah (vT (nx ac s.tmps 7))))
theorem Lk (s : St) : aP (kY ByteArray.empty 0 0 0) s = zk kY s := by kernel_rfl
def EO (N : Nat) : ax β := fun s K => cond (aJ (kY ByteArray.empty 0 0 0) s) (zk (fun v0 v1 v2 v3 => agm N v0 v1 v2 v3 (fun y0 y1 y2 => K (.exit 0) (nO y0 y1 y2))) s) (none)
def T7 (N : Nat) : ax β := EO (An N) N
def UH (N : Nat) : Env β := ⟨[(75, ac1 ae4 N)], [], [(0, EO agm N)], [], ⟨[], [], [], []⟩⟩
def E43 (N : Nat) : Env β := UH (vC N) (An N) N
theorem IU (N : Nat) (v0 : ByteArray) (v1 v2 v3 : Int) (rec_ : St → O β) (K : Exit → St → O β) :
  stB lay (UH ae4 agm N) Tryz.f43 0 (kY v0 v1 v2 v3) rec_ K = Z3 (ae4 N) N v0 v1 v2 v3 (fun v0 v1 v2 v3 => rec_ (kY v0 v1 v2 v3)) (fun y0 y1 y2 => K (.exit 0) (nO y0 y1 y2)) := by kernel_rfl
theorem Ng (N : Nat) (K : Exit → St → O β) : ∀ (F : Nat) (v0 : ByteArray) (v1 v2 v3 : Int), (lp Tryz.f43 0).rounds lay (E43 N) (ai Tryz.f43) F (kY v0 v1 v2 v3) K = An N F v0 v1 v2 v3 (fun y0 y1 y2 => K (.exit 0) (nO y0 y1 y2)) := by
 intro F; induction F with
 | zero => intros; rfl
 | succ F ih => intros; rw [am]; refine (IU (vC N) (An N) N _ _ _ _ (fun s => (lp Tryz.f43 0).rounds lay (E43 N) (ai Tryz.f43) F s K) K).trans ?_; simp only [ih]; rfl
theorem Wj (N : Nat) : aS (E43 (β := β) N).loops (lp Tryz.f43 0).id = T7 N := by kernel_rfl
theorem Xr (N : Nat) : ay lay (E43 (β := β) N) (ai Tryz.f43) (lp Tryz.f43 0) := rks (Wj ..) (rc1 (fun s K hb => ⟨N, by rw [← ar hb, Lk s]; unfold zk; exact Ng N K N _ _ _ _⟩) rc0)
theorem YD (N : Nat) (a0 : ByteArray) (a1 : Int) (K : TV → O β) : aL lay (UH ae4 agm N) Tryz.f43 [.v (.one (.str a0)), (Z' a1)] K = Z4 agm N a0 a1 (fun z2 z3 => K (.tup [.one (.int .i64 z2), .one (.int .i64 z3)])) := by kernel_rfl
theorem o43 (N : Nat) : ao (β := β) inv Tryz.prog 43 (S43 N) := by
 refine ap au mixed (E := E43 N) (ae (aa (o75 N) ag)) ak av Tryz.func43 (by kernel_rfl) 1 (by kernel_rfl) ⟨trivial, Xr N⟩ fun args K r h => ?_
 unfold S43 Vi at h
 split at h
 ·exact (YD (vC N) (An N) N _ _ _).trans h
 ·cases h
def U0 (N : Nat) : Rv.Spec β := fun args K => match args with
 | [.v (.one (.str a0)), .v (.one (.int .i64 a1))] => agn a0 a1 (fun z2 z3 z4 => K (.tup [.agg [.int .i64 z2, .int .i64 z3], .one (.bool z4)]))
 | _ => none
def S15 (N : Nat) : Rv.Spec β := U0 (Ao N) N
def kI (v0 : ByteArray) (v1 v2 v3 v4 : Int) : St := ⟨.v (.one (.str v0)) :: (Z' v1) :: ac :: ac :: .v (.one (.ptr 0 0)) :: ac :: (Z' v2) :: tn 53 [], [.cells 26 [.int .i64 v3, .int .i64 v4]]⟩
def nh (y0 : Bool) (y1 y2 : Int) : St := ⟨tn 4 (.v (.one (.ptr 0 0)) :: .v (.one (.bool y0)) :: tn 54 []), [.cells 26 [.int .i64 y1, .int .i64 y2]]⟩
def ni (y0 : ByteArray) (y1 y2 y3 : Int) : St := ⟨.v (.one (.str y0)) :: (Z' y1) :: ac :: ac :: .v (.one (.ptr 0 0)) :: tn 55 [], [.cells 26 [.int .i64 y2, .int .i64 y3]]⟩
def iH (v0 : ByteArray) (v1 v2 v3 v4 v5 : Int) : St := ⟨.v (.one (.str v0)) :: (Z' v1) :: ac :: ac :: .v (.one (.ptr 0 0)) :: ac :: ac :: (Z' v2) :: (Z' v3) :: tn 51 [], [.cells 26 [.int .i64 v4, .int .i64 v5]]⟩
def nj (y0 y1 y2 y3 : Int) : St := ⟨ac :: (Z' y0) :: ac :: ac :: .v (.one (.ptr 0 0)) :: ac :: ac :: (Z' y1) :: tn 52 [], [.cells 26 [.int .i64 y2, .int .i64 y3]]⟩
def yQ {γ : Type} (f : ByteArray → Int → Int → Int → Int → γ) (s : St) : γ := f (dV (ah (vT (nx ac s.tmps 0)))) (af (ah (vT (nx ac s.tmps 1)))) (af (ah (vT (nx ac s.tmps 6)))) (af (nx .und (aj (nx .dead s.blks 0)) 0)) (af (nx .und (aj (nx .dead s.blks 0)) 1))
theorem KX (s : St) : aP (kI ByteArray.empty 0 0 0 0) s = yQ kI s := by kernel_rfl
def Ey (N : Nat) : ax β := fun s K => cond (aJ (kI ByteArray.empty 0 0 0 0) s) (yQ (fun v0 v1 v2 v3 v4 => afp N v0 v1 v2 v3 v4 (fun y0 y1 y2 => K .ret (nh y0 y1 y2)) (fun y0 y1 y2 y3 => K (.exit 0) (ni y0 y1 y2 y3))) s) (none)
def TQ (N : Nat) : ax β := Ey (uT N) N
def Q6 {γ : Type} (f : ByteArray → Int → Int → Int → Int → Int → γ) (s : St) : γ := f (dV (ah (vT (nx ac s.tmps 0)))) (af (ah (vT (nx ac s.tmps 1)))) (af (ah (vT (nx ac s.tmps 7)))) (af (ah (vT (nx ac s.tmps 8)))) (af (nx .und (aj (nx .dead s.blks 0)) 0)) (af (nx .und (aj (nx .dead s.blks 0)) 1))
theorem KY (s : St) : aP (iH ByteArray.empty 0 0 0 0 0) s = Q6 iH s := by kernel_rfl
def xF (N : Nat) : ax β := fun s K => cond (aJ (iH ByteArray.empty 0 0 0 0 0) s) ((fun (v0 : ByteArray) (v1 v2 v3 v4 v5 : Int) => afq N v0 v1 v2 v3 v4 v5 (fun y0 y1 y2 y3 => K (.exit 2) (nj y0 y1 y2 y3))) (dV (ah (vT (nx ac s.tmps 0)))) (af (ah (vT (nx ac s.tmps 1)))) (af (ah (vT (nx ac s.tmps 7)))) (af (ah (vT (nx ac s.tmps 8)))) (af (nx .und (aj (nx .dead s.blks 0)) 0)) (af (nx .und (aj (nx .dead s.blks 0)) 1))) (none)
def JF (N : Nat) : ax β := xF (uU N) N
def P1 (N : Nat) : Env β := ⟨[(42, Vh afn N), (10, qb adV N), (43, Vi afo N)], [], [(0, Ey afp N), (2, xF afq N)], [], ⟨[], [], [], []⟩⟩
def E15 (N : Nat) : Env β := P1 (bK N) (C6 N) (Er N) (uT N) (uU N) N
theorem Iy (N : Nat) (v0 : ByteArray) (v1 v2 v3 v4 : Int) (rec_ : St → O β) (K : Exit → St → O β) :
  stB lay (P1 adV afn afo afp afq N) Tryz.f15 0 (kI v0 v1 v2 v3 v4) rec_ K = Sr N v0 v1 v2 v3 v4 (fun v0 v1 v2 v3 v4 => rec_ (kI v0 v1 v2 v3 v4)) (fun y0 y1 y2 => K .ret (nh y0 y1 y2)) (fun y0 y1 y2 y3 => K (.exit 0) (ni y0 y1 y2 y3)) := by kernel_rfl
theorem MU (N : Nat) (K : Exit → St → O β) : ∀ (F : Nat) (v0 : ByteArray) (v1 v2 v3 v4 : Int), (lp Tryz.f15 0).rounds lay (E15 N) (ai Tryz.f15) F (kI v0 v1 v2 v3 v4) K = uT N F v0 v1 v2 v3 v4 (fun y0 y1 y2 => K .ret (nh y0 y1 y2)) (fun y0 y1 y2 y3 => K (.exit 0) (ni y0 y1 y2 y3)) := by
 intro F; induction F with
 | zero => intros; rfl
 | succ F ih => intros; rw [am]; refine (Iy (bK N) (C6 N) (Er N) (uT N) (uU N) N _ _ _ _ _ (fun s => (lp Tryz.f15 0).rounds lay (E15 N) (ai Tryz.f15) F s K) K).trans ?_; simp only [ih]; rfl
theorem VX (N : Nat) : aS (E15 (β := β) N).loops (lp Tryz.f15 0).id = TQ N := by kernel_rfl
theorem W6 (N : Nat) : ay lay (E15 (β := β) N) (ai Tryz.f15) (lp Tryz.f15 0) := rks (VX ..) (rc1 (fun s K hb => ⟨N, by rw [← ar hb, KX s]; unfold yQ; exact MU N K N _ _ _ _ _⟩) rc0)
theorem Iz (N : Nat) (v0 : ByteArray) (v1 v2 v3 v4 v5 : Int) (rec_ : St → O β) (K : Exit → St → O β) :
  stB lay (P1 adV afn afo afp afq N) Tryz.f15 1 (iH v0 v1 v2 v3 v4 v5) rec_ K = Ss afo N v0 v1 v2 v3 v4 v5 (fun v0 v1 v2 v3 v4 v5 => rec_ (iH v0 v1 v2 v3 v4 v5)) (fun y0 y1 y2 y3 => K (.exit 2) (nj y0 y1 y2 y3)) := by kernel_rfl
theorem MV (N : Nat) (K : Exit → St → O β) : ∀ (F : Nat) (v0 : ByteArray) (v1 v2 v3 v4 v5 : Int), (lp Tryz.f15 1).rounds lay (E15 N) (ai Tryz.f15) F (iH v0 v1 v2 v3 v4 v5) K = uU N F v0 v1 v2 v3 v4 v5 (fun y0 y1 y2 y3 => K (.exit 2) (nj y0 y1 y2 y3)) := by
 intro F; induction F with
 | zero => intros; rfl
 | succ F ih => intros; rw [am]; refine (Iz (bK N) (C6 N) (Er N) (uT N) (uU N) N _ _ _ _ _ _ (fun s => (lp Tryz.f15 1).rounds lay (E15 N) (ai Tryz.f15) F s K) K).trans ?_; simp only [ih]; rfl
theorem VY (N : Nat) : aS (E15 (β := β) N).loops (lp Tryz.f15 1).id = JF N := by kernel_rfl
theorem W7 (N : Nat) : ay lay (E15 (β := β) N) (ai Tryz.f15) (lp Tryz.f15 1) := by
 intro s K r h
 rw [VY] at h
 unfold JF xF at h
 cases hb : aJ (iH ByteArray.empty 0 0 0 0 0) s with
 | true =>
  rw [hb, agY] at h
  exact ⟨N, by rw [← ar hb, KY s]; exact (MV N K N (dV (ah (vT (nx ac s.tmps 0)))) (af (ah (vT (nx ac s.tmps 1)))) (af (ah (vT (nx ac s.tmps 7)))) (af (ah (vT (nx ac s.tmps 8)))) (af (nx .und (aj (nx .dead s.blks 0)) 0)) (af (nx .und (aj (nx .dead s.blks 0)) 1))).trans h⟩
 | false =>
 rw [hb, agX] at h
 clear hb
 cases h
theorem Ya (N : Nat) (a0 : ByteArray) (a1 : Int) (K : TV → O β) : aL lay (P1 adV afn afo afp afq N) Tryz.f15 [.v (.one (.str a0)), (Z' a1)] K = Pb adV afn afp afq N a0 a1 (fun z2 z3 z4 => K (.tup [.agg [.int .i64 z2, .int .i64 z3], .one (.bool z4)])) := by kernel_rfl
theorem o15 (N : Nat) : ao (β := β) inv Tryz.prog 15 (S15 N) := by
 refine ap au mixed (E := E15 N) (ae (aa (o42 N) (aa (o10 N) (aa (o43 N) ag)))) ak av Tryz.func15 (by kernel_rfl) 2 (by kernel_rfl) ⟨⟨trivial, W6 N⟩, W7 N⟩ fun args K r h => ?_
 unfold S15 U0 at h
 split at h
 ·exact (Ya (bK N) (C6 N) (Er N) (uT N) (uU N) N _ _ _).trans h
 ·cases h
def AQ (N G : Nat) : Rv.Spec β := fun args K => match args with
 | [.v (.one (.str a0)), .v (.one (.int .i64 a1))] => aeN G a0 a1 (fun z2 => K (.v (.one (.int .i64 z2))))
 | _ => none
def J3 (N G : Nat) : Rv.Spec β := AQ (oO N) N G
def abo (N : Nat) : Rv.Spec β := AQ aeN N N
def S76 (N : Nat) : Rv.Spec β := J3 N N
def aa7 (N G : Nat) : Env β := ⟨[(76, AQ aeN N G)], [], [], [], ⟨[], [], [], []⟩⟩
def E76 (N G : Nat) : Env β := aa7 (oO N) N G
theorem Zm (N G : Nat) (a0 : ByteArray) (a1 : Int) (K : TV → O β) : aL lay (aa7 aeN N G) Tryz.f76 [.v (.one (.str a0)), (Z' a1)] K = Z5 N (aeN G) a0 a1 (fun z2 => K ((Z' z2))) := by kernel_rfl
theorem z76 (N : Nat) : ∀ args K r, J3 (β := β) N 0 args K = some r → (none : O β) = some r := by
 intro args K r h
 unfold J3 AQ at h
 split at h <;> exact h
theorem adF (N : Nat) : ∀ G, ao (β := β) inv Tryz.prog 76 (J3 N G) := by
 intro G
 induction G with
 | zero => exact dG Tryz.func76 (by kernel_rfl) (z76 N)
 | succ G ih =>
  refine ap au mixed (E := E76 N G) (ae (aa ih ag)) ak av Tryz.func76 (by kernel_rfl) 0 (by kernel_rfl) trivial fun args K r h => ?_
  unfold J3 AQ at h
  split at h
  ·exact (Zm (oO N) N G _ _ _).trans h
  ·cases h
theorem o76 (N : Nat) : ao (β := β) inv Tryz.prog 76 (S76 N) := adF N N
def Vj (N : Nat) : Rv.Spec β := fun args K => match args with
 | [.v (.one (.str a0))] => ae5 a0 (fun z1 => K (.v (.one (.bool z1))))
 | _ => none
def S44 (N : Nat) : Rv.Spec β := Vj (vD N) N
def aaP (N : Nat) : Env β := ⟨[(76, abo aeN N)], [], [], [], ⟨[], [], [], []⟩⟩
def E44 (N : Nat) : Env β := aaP (oO N) N
theorem YE (N : Nat) (a0 : ByteArray) (K : TV → O β) : aL lay (aaP aeN N) Tryz.f44 [.v (.one (.str a0))] K = Z6 (aeN N) N a0 (fun z1 => K (.v (.one (.bool z1)))) := by kernel_rfl
theorem o44 (N : Nat) : ao (β := β) inv Tryz.prog 44 (S44 N) := by
 refine ap au mixed (E := E44 N) (ae (aa (o76 N) ag)) ak av Tryz.func44 (by kernel_rfl) 0 (by kernel_rfl) trivial fun args K r h => ?_
 unfold S44 Vj at h
 split at h
 ·exact (YE (oO N) N _ _).trans h
 ·cases h
def AG (N G : Nat) : Rv.Spec β := fun args K => match args with
 | [.v (.one (.str a0)), .v (.one (.int .i64 a1)), .v (.one (.int .i64 a2))] => aeO G a0 a1 a2 (fun z3 => K (.v (.one (.bool z3))))
 | _ => none
def JT (N G : Nat) : Rv.Spec β := AG (uV N) N G
def acS (N : Nat) : Rv.Spec β := AG aeO N N
def S45 (N : Nat) : Rv.Spec β := JT N N
def aaQ (N G : Nat) : Env β := ⟨[(76, abo aeN N), (45, AG aeO N G)], [], [], [], ⟨[], [], [], []⟩⟩
def E45 (N G : Nat) : Env β := aaQ (oO N) (uV N) N G
theorem YF (N G : Nat) (a0 : ByteArray) (a1 a2 : Int) (K : TV → O β) : aL lay (aaQ aeN aeO N G) Tryz.f45 [.v (.one (.str a0)), (Z' a1), (Z' a2)] K = Z7 (aeN N) N (aeO G) a0 a1 a2 (fun z3 => K (.v (.one (.bool z3)))) := by kernel_rfl
theorem z45 (N : Nat) : ∀ args K r, JT (β := β) N 0 args K = some r → (none : O β) = some r := by
 intro args K r h
 unfold JT AG at h
 split at h <;> exact h
theorem adv (N : Nat) : ∀ G, ao (β := β) inv Tryz.prog 45 (JT N G) := by
 intro G
 induction G with
 | zero => exact dG Tryz.func45 (by kernel_rfl) (z45 N)
 | succ G ih =>
  refine ap au mixed (E := E45 N G) (ae (aa (o76 N) (aa ih ag))) ak av Tryz.func45 (by kernel_rfl) 0 (by kernel_rfl) trivial fun args K r h => ?_
  unfold JT AG at h
  split at h
  ·exact (YF (oO N) (uV N) N G _ _ _ _).trans h
  ·cases h
theorem o45 (N : Nat) : ao (β := β) inv Tryz.prog 45 (S45 N) := adv N N
end Go.Proofs.YtmhlcbibbhelkaaGreatDoor
