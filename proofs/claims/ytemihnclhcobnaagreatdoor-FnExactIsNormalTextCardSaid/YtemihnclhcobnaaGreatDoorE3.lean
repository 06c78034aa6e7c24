/- The functions that the claims cY bz as their texts do. -/
import Derived.Test.YtemihnclhcobnaaGreatDoorE2
namespace Go.Proofs.YtemihnclhcobnaaGreatDoor
set_option linter.unusedSimpArgs false
open Go.Rv
set_option maxRecDepth 100000
set_option maxHeartbeats 2000000
set_option linter.unusedVariables false
variable {β : Type}
variable (agV ahd : Y4 β) (ahh : Y3 β) (ajj : Y39 β) (ajk : Y38 β) (aim : Y40 β) (ain : Y41 β) (ah4 : Y43 β) (ajl : Y45 β) (aio : Y44 β) (aip : Y48 β) (aiq : Y49 β) (ajm : Y47 β) (ahN : Y43 β) (ah5 : Y41 β) (ahO : Y50 β)
variable (N : Nat)
def X5 (N : Nat) : Rv.Spec β := fun args K => match args with
 | [.v (.one (.int .i64 a0)), .v (.one (.sl 93 (.pairs a1)))] => ajk a0 a1 (fun z2 z3 z4 => K (.tup [.agg [.int .i64 z2, .int .i64 z3], .one (.bool z4)]))
 | _ => none
def S61 : Rv.Spec β := X5 (FI N) N
def mj (v0 : Int) (v1 : List (Int × Int)) (v2 v3 v4 v5 : Int) : St := ⟨(Z' v0) :: .v (.one (.sl 93 (.pairs v1))) :: ac :: ac :: .v (.one (.ptr 0 0)) :: ac :: (Z' v2) :: (Z' v3) :: tn 29 [], [.cells 25 [.int .i64 v4, .int .i64 v5]]⟩
def n6 (y0 : Bool) (y1 y2 : Int) : St := ⟨tn 4 (.v (.one (.ptr 0 0)) :: .v (.one (.bool y0)) :: tn 31 []), [.cells 25 [.int .i64 y1, .int .i64 y2]]⟩
def n7 (y0 y1 y2 y3 : Int) : St := ⟨(Z' y0) :: tn 3 (.v (.one (.ptr 0 0)) :: ac :: (Z' y1) :: tn 30 []), [.cells 25 [.int .i64 y2, .int .i64 y3]]⟩
def zM {γ : Type} (f : Int -> (List (Int × Int)) -> Int -> Int -> Int -> Int -> γ) (s : St) : γ := f (af (ah (vT (nx ac s.tmps 0)))) (bc (bF (ah (vT (nx ac s.tmps 1))))) (af (ah (vT (nx ac s.tmps 6)))) (af (ah (vT (nx ac s.tmps 7)))) (af (nx .und (ak (nx .dead s.blks 0)) 0)) (af (nx .und (ak (nx .dead s.blks 0)) 1))
theorem MV (s : St) : aP (mj 0 [] 0 0 0 0) s = zM mj s := by kernel_rfl
def F2 : ax β := fun s K => cond (aJ (mj 0 [] 0 0 0 0) s) (zM (fun v0 v1 v2 v3 v4 v5 => ajj N v0 v1 v2 v3 v4 v5 (fun y0 y1 y2 => K .ret (n6 y0 y1 y2)) (fun y0 y1 y2 y3 => K (.exit 0) (n7 y0 y1 y2 y3))) s) (none)
def Xq : ax β := F2 (vR N) N
def XK : Env β := ⟨[(123, Br ahd N), (124, Bs ahh N), (57, pZ agV N)], [], [(0, F2 ajj N)], [], ⟨[], [], [], []⟩⟩
def E61 : Env β := XK (bK N) (jK N) (oJ N) (vR N) N
theorem KV (v0 : Int) (v1 : List (Int × Int)) (v2 v3 v4 v5 : Int) (rec_ : St -> O β) (K : Exit -> St -> O β) :
  stB lay (XK agV ahd ahh ajj N) Tryz.f61 0 (mj v0 v1 v2 v3 v4 v5) rec_ K = VO ahd ahh N v0 v1 v2 v3 v4 v5 (fun v0 v1 v2 v3 v4 v5 => rec_ (mj v0 v1 v2 v3 v4 v5)) (fun y0 y1 y2 => K .ret (n6 y0 y1 y2)) (fun y0 y1 y2 y3 => K (.exit 0) (n7 y0 y1 y2 y3)) := by kernel_rfl
theorem Oq (K : Exit -> St -> O β) : ∀ (F : Nat) (v0 : Int) (v1 : List (Int × Int)) (v2 v3 v4 v5 : Int), (lp Tryz.f61 0).rounds lay (E61 N) (ai Tryz.f61) F (mj v0 v1 v2 v3 v4 v5) K = vR N F v0 v1 v2 v3 v4 v5 (fun y0 y1 y2 => K .ret (n6 y0 y1 y2)) (fun y0 y1 y2 y3 => K (.exit 0) (n7 y0 y1 y2 y3)) := by
 intro F; induction F with
 | zero => intros; rfl
 | succ F ih => intros; rw [am]; refine (KV (bK N) (jK N) (oJ N) (vR N) N _ _ _ _ _ _ (fun s => (lp Tryz.f61 0).rounds lay (E61 N) (ai Tryz.f61) F s K) K).trans ?_; simp only [ih]; rfl
theorem YQ : aS (E61 (β := β) N).loops (lp Tryz.f61 0).id = Xq N := by kernel_rfl
theorem ZJ : ay lay (E61 (β := β) N) (ai Tryz.f61) (lp Tryz.f61 0) := rks (YQ ..) (rc1 (fun s K hb => ⟨N, by rw [<- ar hb, MV s]; unfold zM; exact Oq N K N _ _ _ _ _ _⟩) rc0)
theorem aaq (a0 : Int) (a1 : List (Int × Int)) (K : TV -> O β) : aL lay (XK agV ahd ahh ajj N) Tryz.f61 [(Z' a0), .v (.one (.sl 93 (.pairs a1)))] K = aa2 agV ajj N a0 a1 (fun z2 z3 z4 => K (.tup [.agg [.int .i64 z2, .int .i64 z3], .one (.bool z4)])) := by kernel_rfl
theorem o61 : ao (β := β) inv Tryz.prog 61 (S61 N) := by
 refine ap au mixed (E := E61 N) (ae (aa (Zl N) (aa (Zm N) (aa (o57 N) ag)))) aj av Tryz.func61 (by kernel_rfl) 1 (by kernel_rfl) ⟨trivial, ZJ N⟩ fun args K r h => ?_
 unfold S61 X5 at h
 split at h
 ·exact (aaq (bK N) (jK N) (oJ N) (vR N) N _ _ _).trans h
 ·cases h
def sB (N G : Nat) : Rv.Spec β := fun args K => match args with
 | [.v (.one (.str a0)), .v (.one (.int .i64 a1)), .v (.one (.int .i64 a2))] => aim G a0 a1 a2 (fun z3 => K (.v (.one (.int .i64 z3))))
 | _ => none
def AL (G : Nat) : Rv.Spec β := sB (Az N) N G
def acR : Rv.Spec β := sB aim N N
def afv : Rv.Spec β := AL N N
def Wk (G : Nat) : Env β := ⟨[(57, pZ agV N), (183, sB aim N G)], [], [], [], ⟨[], [], [], []⟩⟩
def aeW (G : Nat) : Env β := Wk (bK N) (Az N) N G
theorem UM (G : Nat) (a0 : ByteArray) (a1 a2 : Int) (K : TV -> O β) : aL lay (Wk agV aim N G) Tryz.f183 [.v (.one (.str a0)), (Z' a1), (Z' a2)] K = aa3 agV N (aim G) a0 a1 a2 (fun z3 => K ((Z' z3))) := by kernel_rfl
theorem agK : ∀ args K r, AL (β := β) N 0 args K = some r -> (none : O β) = some r := by
 intro args K r h
 unfold AL sB at h
 split at h <;> exact h
theorem adX : ∀ G, ao (β := β) inv Tryz.prog 183 (AL N G) := by
 intro G
 induction G with
 | zero => exact dG Tryz.func183 (by kernel_rfl) (agK N)
 | succ G ih =>
  refine ap au mixed (E := aeW N G) (ae (aa (o57 N) (aa ih ag))) aj av Tryz.func183 (by kernel_rfl) 0 (by kernel_rfl) trivial fun args K r h => ?_
  unfold AL sB at h
  split at h
  ·exact (UM (bK N) (Az N) N G _ _ _ _).trans h
  ·cases h
theorem aga : ao (β := β) inv Tryz.prog 183 (afv N) := adX N N
def L0 (N : Nat) : Rv.Spec β := fun args K => match args with
 | [.v (.one (.str a0))] => ain a0 (fun z1 => K (.v (.one (.bool z1))))
 | _ => none
def abz : Rv.Spec β := L0 (DL N) N
def V4 : Env β := ⟨[(183, acR aim N)], [], [], [], ⟨[], [], [], []⟩⟩
def aeH : Env β := V4 (Az N) N
theorem Ug (a0 : ByteArray) (K : TV -> O β) : aL lay (V4 aim N) Tryz.f125 [.v (.one (.str a0))] K = aa4 (aim N) N a0 (fun z1 => K (.v (.one (.bool z1)))) := by kernel_rfl
theorem afQ : ao (β := β) inv Tryz.prog 125 (abz N) := by
 refine ap au mixed (E := aeH N) (ae (aa (aga N) ag)) aj av Tryz.func125 (by kernel_rfl) 0 (by kernel_rfl) trivial fun args K r h => ?_
 unfold abz L0 at h
 split at h
 ·exact (Ug (Az N) N _ _).trans h
 ·cases h
def sC (N G : Nat) : Rv.Spec β := fun args K => match args with
 | [.v (.one (.str a0)), .v (.one (.int .i64 a1))] => ah4 G a0 a1 (fun z2 => K (.v (.one (.int .i64 z2))))
 | _ => none
def AM (G : Nat) : Rv.Spec β := sC (wC N) N G
def acS : Rv.Spec β := sC ah4 N N
def afw : Rv.Spec β := AM N N
def Wl (G : Nat) : Env β := ⟨[(184, sC ah4 N G)], [], [], [], ⟨[], [], [], []⟩⟩
def aeX (G : Nat) : Env β := Wl (wC N) N G
theorem UN (G : Nat) (a0 : ByteArray) (a1 : Int) (K : TV -> O β) : aL lay (Wl ah4 N G) Tryz.f184 [.v (.one (.str a0)), (Z' a1)] K = aa5 N (ah4 G) a0 a1 (fun z2 => K ((Z' z2))) := by kernel_rfl
theorem agL : ∀ args K r, AM (β := β) N 0 args K = some r -> (none : O β) = some r := by
 intro args K r h
 unfold AM sC at h
 split at h <;> exact h
theorem adY : ∀ G, ao (β := β) inv Tryz.prog 184 (AM N G) := by
 intro G
 induction G with
 | zero => exact dG Tryz.func184 (by kernel_rfl) (agL N)
 | succ G ih =>
  refine ap au mixed (E := aeX N G) (ae (aa ih ag)) aj av Tryz.func184 (by kernel_rfl) 0 (by kernel_rfl) trivial fun args K r h => ?_
  unfold AM sC at h
  split at h
  ·exact (UN (wC N) N G _ _ _).trans h
  ·cases h
theorem agb : ao (β := β) inv Tryz.prog 184 (afw N) := adY N N
def L1 (N : Nat) : Rv.Spec β := fun args K => match args with
 | [.v (.one (.str a0)), .v (.one (.int .i64 a1))] => aio a0 a1 (fun z2 z3 => K (.tup [.one (.int .i64 z2), .one (.int .i64 z3)]))
 | _ => none
def abA : Rv.Spec β := L1 (FJ N) N
def gZ (v0 : ByteArray) (v1 v2 v3 : Int) : St := ⟨.v (.one (.str v0)) :: (Z' v1) :: tn 4 ((Z' v2) :: (Z' v3) :: tn 33 []), []⟩
def kD (y0 : ByteArray) (y1 y2 : Int) : St := ⟨.v (.one (.str y0)) :: tn 5 ((Z' y1) :: (Z' y2) :: tn 33 []), []⟩
def ug {γ : Type} (f : ByteArray -> Int -> Int -> Int -> γ) (s : St) : γ := f (dV (ah (vT (nx ac s.tmps 0)))) (af (ah (vT (nx ac s.tmps 1)))) (af (ah (vT (nx ac s.tmps 6)))) (af (ah (vT (nx ac s.tmps 7))))
theorem IQ (s : St) : aP (gZ ByteArray.empty 0 0 0) s = ug gZ s := by kernel_rfl
def A3 : ax β := fun s K => cond (aJ (gZ ByteArray.empty 0 0 0) s) (ug (fun v0 v1 v2 v3 => ajl N v0 v1 v2 v3 (fun y0 y1 y2 => K (.exit 0) (kD y0 y1 y2))) s) (none)
def Q9 : ax β := A3 (AA N) N
def LE : Env β := ⟨[(184, acS ah4 N)], [], [(0, A3 ajl N)], [], ⟨[], [], [], []⟩⟩
def QL : Env β := LE (wC N) (AA N) N
theorem E0 (v0 : ByteArray) (v1 v2 v3 : Int) (rec_ : St -> O β) (K : Exit -> St -> O β) :
  stB lay (LE ah4 ajl N) Tryz.f126 0 (gZ v0 v1 v2 v3) rec_ K = aa6 (ah4 N) N v0 v1 v2 v3 (fun v0 v1 v2 v3 => rec_ (gZ v0 v1 v2 v3)) (fun y0 y1 y2 => K (.exit 0) (kD y0 y1 y2)) := by kernel_rfl
theorem JW (K : Exit -> St -> O β) : ∀ (F : Nat) (v0 : ByteArray) (v1 v2 v3 : Int), (lp Tryz.f126 0).rounds lay (QL N) (ai Tryz.f126) F (gZ v0 v1 v2 v3) K = AA N F v0 v1 v2 v3 (fun y0 y1 y2 => K (.exit 0) (kD y0 y1 y2)) := by
 intro F; induction F with
 | zero => intros; rfl
 | succ F ih => intros; rw [am]; refine (E0 (wC N) (AA N) N _ _ _ _ (fun s => (lp Tryz.f126 0).rounds lay (QL N) (ai Tryz.f126) F s K) K).trans ?_; simp only [ih]; rfl
theorem Sg : aS (QL (β := β) N).loops (lp Tryz.f126 0).id = Q9 N := by kernel_rfl
theorem Tm : ay lay (QL (β := β) N) (ai Tryz.f126) (lp Tryz.f126 0) := rks (Sg ..) (rc1 (fun s K hb => ⟨N, by rw [<- ar hb, IQ s]; unfold ug; exact JW N K N _ _ _ _⟩) rc0)
theorem Uh (a0 : ByteArray) (a1 : Int) (K : TV -> O β) : aL lay (LE ah4 ajl N) Tryz.f126 [.v (.one (.str a0)), (Z' a1)] K = aa7 ajl N a0 a1 (fun z2 z3 => K (.tup [.one (.int .i64 z2), .one (.int .i64 z3)])) := by kernel_rfl
theorem afR : ao (β := β) inv Tryz.prog 126 (abA N) := by
 refine ap au mixed (E := QL N) (ae (aa (agb N) ag)) aj av Tryz.func126 (by kernel_rfl) 1 (by kernel_rfl) ⟨trivial, Tm N⟩ fun args K r h => ?_
 unfold abA L1 at h
 split at h
 ·exact (Uh (wC N) (AA N) N _ _ _).trans h
 ·cases h
def X6 (N : Nat) : Rv.Spec β := fun args K => match args with
 | [.v (.one (.str a0)), .v (.one (.int .i64 a1))] => ajm a0 a1 (fun z2 z3 z4 => K (.tup [.agg [.int .i64 z2, .int .i64 z3], .one (.bool z4)]))
 | _ => none
def S62 : Rv.Spec β := X6 (AB N) N
def ml (v0 : ByteArray) (v1 v2 v3 v4 : Int) : St := ⟨.v (.one (.str v0)) :: (Z' v1) :: ac :: ac :: .v (.one (.ptr 0 0)) :: ac :: (Z' v2) :: tn 53 [], [.cells 25 [.int .i64 v3, .int .i64 v4]]⟩
def n8 (y0 : Bool) (y1 y2 : Int) : St := ⟨tn 4 (.v (.one (.ptr 0 0)) :: .v (.one (.bool y0)) :: tn 54 []), [.cells 25 [.int .i64 y1, .int .i64 y2]]⟩
def n9 (y0 : ByteArray) (y1 y2 y3 : Int) : St := ⟨.v (.one (.str y0)) :: (Z' y1) :: ac :: ac :: .v (.one (.ptr 0 0)) :: tn 55 [], [.cells 25 [.int .i64 y2, .int .i64 y3]]⟩
def jl (v0 : ByteArray) (v1 v2 v3 v4 v5 : Int) : St := ⟨.v (.one (.str v0)) :: (Z' v1) :: ac :: ac :: .v (.one (.ptr 0 0)) :: ac :: ac :: (Z' v2) :: (Z' v3) :: tn 51 [], [.cells 25 [.int .i64 v4, .int .i64 v5]]⟩
def oa (y0 y1 y2 y3 : Int) : St := ⟨ac :: (Z' y0) :: ac :: ac :: .v (.one (.ptr 0 0)) :: ac :: ac :: (Z' y1) :: tn 52 [], [.cells 25 [.int .i64 y2, .int .i64 y3]]⟩
def zN {γ : Type} (f : ByteArray -> Int -> Int -> Int -> Int -> γ) (s : St) : γ := f (dV (ah (vT (nx ac s.tmps 0)))) (af (ah (vT (nx ac s.tmps 1)))) (af (ah (vT (nx ac s.tmps 6)))) (af (nx .und (ak (nx .dead s.blks 0)) 0)) (af (nx .und (ak (nx .dead s.blks 0)) 1))
theorem MW (s : St) : aP (ml ByteArray.empty 0 0 0 0) s = zN ml s := by kernel_rfl
def F3 : ax β := fun s K => cond (aJ (ml ByteArray.empty 0 0 0 0) s) (zN (fun v0 v1 v2 v3 v4 => aip N v0 v1 v2 v3 v4 (fun y0 y1 y2 => K .ret (n8 y0 y1 y2)) (fun y0 y1 y2 y3 => K (.exit 0) (n9 y0 y1 y2 y3))) s) (none)
def Xr : ax β := F3 (vS N) N
def S5 {γ : Type} (f : ByteArray -> Int -> Int -> Int -> Int -> Int -> γ) (s : St) : γ := f (dV (ah (vT (nx ac s.tmps 0)))) (af (ah (vT (nx ac s.tmps 1)))) (af (ah (vT (nx ac s.tmps 7)))) (af (ah (vT (nx ac s.tmps 8)))) (af (nx .und (ak (nx .dead s.blks 0)) 0)) (af (nx .und (ak (nx .dead s.blks 0)) 1))
theorem MX (s : St) : aP (jl ByteArray.empty 0 0 0 0 0) s = S5 jl s := by kernel_rfl
def yE : ax β := fun s K => cond (aJ (jl ByteArray.empty 0 0 0 0 0) s) ((fun (v0 : ByteArray) (v1 v2 v3 v4 v5 : Int) => aiq N v0 v1 v2 v3 v4 v5 (fun y0 y1 y2 y3 => K (.exit 2) (oa y0 y1 y2 y3))) (dV (ah (vT (nx ac s.tmps 0)))) (af (ah (vT (nx ac s.tmps 1)))) (af (ah (vT (nx ac s.tmps 7)))) (af (ah (vT (nx ac s.tmps 8)))) (af (nx .und (ak (nx .dead s.blks 0)) 0)) (af (nx .und (ak (nx .dead s.blks 0)) 1))) (none)
def Lt : ax β := yE (vU N) N
def RA : Env β := ⟨[(125, L0 ain N), (57, pZ agV N), (126, L1 aio N)], [], [(0, F3 aip N), (2, yE aiq N)], [], ⟨[], [], [], []⟩⟩
def E62 : Env β := RA (bK N) (DL N) (FJ N) (vS N) (vU N) N
theorem KW (v0 : ByteArray) (v1 v2 v3 v4 : Int) (rec_ : St -> O β) (K : Exit -> St -> O β) :
  stB lay (RA agV ain aio aip aiq N) Tryz.f62 0 (ml v0 v1 v2 v3 v4) rec_ K = VP N v0 v1 v2 v3 v4 (fun v0 v1 v2 v3 v4 => rec_ (ml v0 v1 v2 v3 v4)) (fun y0 y1 y2 => K .ret (n8 y0 y1 y2)) (fun y0 y1 y2 y3 => K (.exit 0) (n9 y0 y1 y2 y3)) := by kernel_rfl
theorem Ot (K : Exit -> St -> O β) : ∀ (F : Nat) (v0 : ByteArray) (v1 v2 v3 v4 : Int), (lp Tryz.f62 0).rounds lay (E62 N) (ai Tryz.f62) F (ml v0 v1 v2 v3 v4) K = vS N F v0 v1 v2 v3 v4 (fun y0 y1 y2 => K .ret (n8 y0 y1 y2)) (fun y0 y1 y2 y3 => K (.exit 0) (n9 y0 y1 y2 y3)) := by
 intro F; induction F with
 | zero => intros; rfl
 | succ F ih => intros; rw [am]; refine (KW (bK N) (DL N) (FJ N) (vS N) (vU N) N _ _ _ _ _ (fun s => (lp Tryz.f62 0).rounds lay (E62 N) (ai Tryz.f62) F s K) K).trans ?_; simp only [ih]; rfl
theorem YR : aS (E62 (β := β) N).loops (lp Tryz.f62 0).id = Xr N := by kernel_rfl
theorem ZK : ay lay (E62 (β := β) N) (ai Tryz.f62) (lp Tryz.f62 0) := rks (YR ..) (rc1 (fun s K hb => ⟨N, by rw [<- ar hb, MW s]; unfold zN; exact Ot N K N _ _ _ _ _⟩) rc0)
theorem KX (v0 : ByteArray) (v1 v2 v3 v4 v5 : Int) (rec_ : St -> O β) (K : Exit -> St -> O β) :
  stB lay (RA agV ain aio aip aiq N) Tryz.f62 1 (jl v0 v1 v2 v3 v4 v5) rec_ K = VQ aio N v0 v1 v2 v3 v4 v5 (fun v0 v1 v2 v3 v4 v5 => rec_ (jl v0 v1 v2 v3 v4 v5)) (fun y0 y1 y2 y3 => K (.exit 2) (oa y0 y1 y2 y3)) := by kernel_rfl
theorem Ou (K : Exit -> St -> O β) : ∀ (F : Nat) (v0 : ByteArray) (v1 v2 v3 v4 v5 : Int), (lp Tryz.f62 1).rounds lay (E62 N) (ai Tryz.f62) F (jl v0 v1 v2 v3 v4 v5) K = vU N F v0 v1 v2 v3 v4 v5 (fun y0 y1 y2 y3 => K (.exit 2) (oa y0 y1 y2 y3)) := by
 intro F; induction F with
 | zero => intros; rfl
 | succ F ih => intros; rw [am]; refine (KX (bK N) (DL N) (FJ N) (vS N) (vU N) N _ _ _ _ _ _ (fun s => (lp Tryz.f62 1).rounds lay (E62 N) (ai Tryz.f62) F s K) K).trans ?_; simp only [ih]; rfl
theorem YS : aS (E62 (β := β) N).loops (lp Tryz.f62 1).id = Lt N := by kernel_rfl
theorem ZL : ay lay (E62 (β := β) N) (ai Tryz.f62) (lp Tryz.f62 1) := by
 intro s K r h
 rw [YS] at h
 unfold Lt yE at h
 cases hb : aJ (jl ByteArray.empty 0 0 0 0 0) s with
 | true =>
  rw [hb, ajZ] at h
  exact ⟨N, by rw [<- ar hb, MX s]; exact (Ou N K N (dV (ah (vT (nx ac s.tmps 0)))) (af (ah (vT (nx ac s.tmps 1)))) (af (ah (vT (nx ac s.tmps 7)))) (af (ah (vT (nx ac s.tmps 8)))) (af (nx .und (ak (nx .dead s.blks 0)) 0)) (af (nx .und (ak (nx .dead s.blks 0)) 1))).trans h⟩
 | false =>
 rw [hb, ajY] at h
 clear hb
 cases h
theorem aar (a0 : ByteArray) (a1 : Int) (K : TV -> O β) : aL lay (RA agV ain aio aip aiq N) Tryz.f62 [.v (.one (.str a0)), (Z' a1)] K = P7 agV ain aip aiq N a0 a1 (fun z2 z3 z4 => K (.tup [.agg [.int .i64 z2, .int .i64 z3], .one (.bool z4)])) := by kernel_rfl
theorem o62 : ao (β := β) inv Tryz.prog 62 (S62 N) := by
 refine ap au mixed (E := E62 N) (ae (aa (afQ N) (aa (o57 N) (aa (afR N) ag)))) aj av Tryz.func62 (by kernel_rfl) 2 (by kernel_rfl) ⟨⟨trivial, ZK N⟩, ZL N⟩ fun args K r h => ?_
 unfold S62 X6 at h
 split at h
 ·exact (aar (bK N) (DL N) (FJ N) (vS N) (vU N) N _ _ _).trans h
 ·cases h
def sD (N G : Nat) : Rv.Spec β := fun args K => match args with
 | [.v (.one (.str a0)), .v (.one (.int .i64 a1))] => ahN G a0 a1 (fun z2 => K (.v (.one (.int .i64 z2))))
 | _ => none
def AN (G : Nat) : Rv.Spec β := sD (oK N) N G
def WJ : Rv.Spec β := sD ahN N N
def afx : Rv.Spec β := AN N N
def Wm (G : Nat) : Env β := ⟨[(185, sD ahN N G)], [], [], [], ⟨[], [], [], []⟩⟩
def aeY (G : Nat) : Env β := Wm (oK N) N G
theorem UO (G : Nat) (a0 : ByteArray) (a1 : Int) (K : TV -> O β) : aL lay (Wm ahN N G) Tryz.f185 [.v (.one (.str a0)), (Z' a1)] K = aa8 N (ahN G) a0 a1 (fun z2 => K ((Z' z2))) := by kernel_rfl
theorem agM : ∀ args K r, AN (β := β) N 0 args K = some r -> (none : O β) = some r := by
 intro args K r h
 unfold AN sD at h
 split at h <;> exact h
theorem adZ : ∀ G, ao (β := β) inv Tryz.prog 185 (AN N G) := by
 intro G
 induction G with
 | zero => exact dG Tryz.func185 (by kernel_rfl) (agM N)
 | succ G ih =>
  refine ap au mixed (E := aeY N G) (ae (aa ih ag)) aj av Tryz.func185 (by kernel_rfl) 0 (by kernel_rfl) trivial fun args K r h => ?_
  unfold AN sD at h
  split at h
  ·exact (UO (oK N) N G _ _ _).trans h
  ·cases h
theorem adE : ao (β := β) inv Tryz.prog 185 (afx N) := adZ N N
def L2 (N : Nat) : Rv.Spec β := fun args K => match args with
 | [.v (.one (.str a0))] => ah5 a0 (fun z1 => K (.v (.one (.bool z1))))
 | _ => none
def abB : Rv.Spec β := L2 (wD N) N
def V5 : Env β := ⟨[(185, WJ ahN N)], [], [], [], ⟨[], [], [], []⟩⟩
def aeI : Env β := V5 (oK N) N
theorem Ui (a0 : ByteArray) (K : TV -> O β) : aL lay (V5 ahN N) Tryz.f127 [.v (.one (.str a0))] K = aa9 (ahN N) N a0 (fun z1 => K (.v (.one (.bool z1)))) := by kernel_rfl
theorem afS : ao (β := β) inv Tryz.prog 127 (abB N) := by
 refine ap au mixed (E := aeI N) (ae (aa (adE N) ag)) aj av Tryz.func127 (by kernel_rfl) 0 (by kernel_rfl) trivial fun args K r h => ?_
 unfold abB L2 at h
 split at h
 ·exact (Ui (oK N) N _ _).trans h
 ·cases h
def sq (N G : Nat) : Rv.Spec β := fun args K => match args with
 | [.v (.one (.str a0)), .v (.one (.int .i64 a1)), .v (.one (.int .i64 a2))] => ahO G a0 a1 a2 (fun z3 => K (.v (.one (.bool z3))))
 | _ => none
def AD (G : Nat) : Rv.Spec β := sq (vV N) N G
def acJ : Rv.Spec β := sq ahO N N
def afn : Rv.Spec β := AD N N
def V6 (G : Nat) : Env β := ⟨[(185, WJ ahN N), (128, sq ahO N G)], [], [], [], ⟨[], [], [], []⟩⟩
def aeJ (G : Nat) : Env β := V6 (oK N) (vV N) N G
theorem Uj (G : Nat) (a0 : ByteArray) (a1 a2 : Int) (K : TV -> O β) : aL lay (V6 ahN ahO N G) Tryz.f128 [.v (.one (.str a0)), (Z' a1), (Z' a2)] K = aba (ahN N) N (ahO G) a0 a1 a2 (fun z3 => K (.v (.one (.bool z3)))) := by kernel_rfl
theorem agD : ∀ args K r, AD (β := β) N 0 args K = some r -> (none : O β) = some r := by
 intro args K r h
 unfold AD sq at h
 split at h <;> exact h
theorem adP : ∀ G, ao (β := β) inv Tryz.prog 128 (AD N G) := by
 intro G
 induction G with
 | zero => exact dG Tryz.func128 (by kernel_rfl) (agD N)
 | succ G ih =>
  refine ap au mixed (E := aeJ N G) (ae (aa (adE N) (aa ih ag))) aj av Tryz.func128 (by kernel_rfl) 0 (by kernel_rfl) trivial fun args K r h => ?_
  unfold AD sq at h
  split at h
  ·exact (Uj (oK N) (vV N) N G _ _ _ _).trans h
  ·cases h
theorem afT : ao (β := β) inv Tryz.prog 128 (afn N) := adP N N
end Go.Proofs.YtemihnclhcobnaaGreatDoor
