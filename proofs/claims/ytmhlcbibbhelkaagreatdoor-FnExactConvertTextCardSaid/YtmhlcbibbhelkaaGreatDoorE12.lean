/- The functions that the claims cZ bz as their texts do. -/
import Derived.Test.YtmhlcbibbhelkaaGreatDoorE11
namespace Go.Proofs.YtmhlcbibbhelkaaGreatDoor
set_option linter.unusedSimpArgs false
open Go.Rv
set_option maxRecDepth 100000
set_option maxHeartbeats 2000000
set_option linter.unusedVariables false
variable {β : Type}
variable (aeG : Y85 β) (aev : Y90 β) (aek : Y66 β) (aeV : Y56 β) (aem : abv β) (ae1 : abx β) (ae2 : abz β) (ae3 : aby β) (af0 : Y56 β) (af1 : Y64 β) (af2 : Vy β) (aen : Qq β) (aea : Vz β) (af3 : abB β) (aeq : abA β)
def Ve (N : Nat) : Rv.Spec β := fun args K => match args with
 | [.v (.agg [.int .i64 a0, .int .i64 a1])] => af0 a0 a1 (fun z2 => K (.v (.one (.sl 46 (.pairs z2)))))
 | _ => none
def S34 (N : Nat) : Rv.Spec β := Ve (xu N) N
def kT (v0 : List (Int × Int)) (v1 : List (Int × Int)) (v2 v3 v4 v5 : Int) (v6 : List Int) : St := ⟨ac :: .v (.one (.ptr 0 0)) :: ac :: .v (.one (.fsl 46 (.pairs v0))) :: .v (.one (.row 1)) :: tn 13 (.v (.one (.fsl 46 (.pairs v1))) :: (Z' v2) :: (Z' v3) :: tn 45 []), [.cells 26 [.int .i64 v4, .int .i64 v5], .row 3 (.ints .i64 v6)]⟩
def nD (y0 : List (Int × Int)) (y1 y2 : Int) (y3 : List Int) : St := ⟨ac :: .v (.one (.ptr 0 0)) :: ac :: .v (.one (.fsl 46 (.pairs y0))) :: .v (.one (.row 1)) :: tn 61 [], [.cells 26 [.int .i64 y1, .int .i64 y2], .row 3 (.ints .i64 y3)]⟩
def iJ (v0 : List (Int × Int)) (v1 v2 v3 v4 : Int) (v5 : List Int) : St := ⟨ac :: .v (.one (.ptr 0 0)) :: ac :: .v (.one (.fsl 46 (.pairs v0))) :: .v (.one (.row 1)) :: tn 32 ((Z' v1) :: (Z' v2) :: tn 27 []), [.cells 26 [.int .i64 v3, .int .i64 v4], .row 3 (.ints .i64 v5)]⟩
def nE (y0 : List (Int × Int)) : St := ⟨ac :: ac :: .v (.one (.row 0)) :: tn 63 [], [.row 46 (.pairs y0)]⟩
def nF : St := ⟨tn 66 [], []⟩
def iK (v0 : List (Int × Int)) (v1 v2 : Int) (v3 : List (Int × Int)) (v4 : List Int) : St := ⟨tn 3 (.v (.one (.fsl 46 (.pairs v0))) :: tn 6 (.v (.one (.row 0)) :: tn 39 (.v (.one (.row 1)) :: (Z' v1) :: (Z' v2) :: tn 13 []))), [.row 46 (.pairs v3), .row 3 (.ints .i64 v4)]⟩
def nG (y0 : List (Int × Int)) : St := ⟨tn 10 (.v (.one (.row 0)) :: tn 55 []), [.row 46 (.pairs y0)]⟩
def zd {γ : Type} (f : (List (Int × Int)) → (List (Int × Int)) → Int → Int → Int → Int → List Int → γ) (s : St) : γ := f (bc (bF (ah (vT (nx ac s.tmps 3))))) (bc (bF (ah (vT (nx ac s.tmps 18))))) (af (ah (vT (nx ac s.tmps 19)))) (af (ah (vT (nx ac s.tmps 20)))) (af (nx .und (aj (nx .dead s.blks 0)) 0)) (af (nx .und (aj (nx .dead s.blks 0)) 1)) (aY (bh (nx .dead s.blks 1)))
theorem Lb (s : St) : aP (kT [] [] 0 0 0 0 []) s = zd kT s := by kernel_rfl
def EJ (N : Nat) : ax β := fun s K => cond (aJ (kT [] [] 0 0 0 0 []) s) (zd (fun v0 v1 v2 v3 v4 v5 v6 => ae1 N v0 v1 v2 v3 v4 v5 v6 (fun y0 y1 y2 y3 => K (.exit 0) (nD y0 y1 y2 y3))) s) (none)
def T2 (N : Nat) : ax β := EJ (ju N) N
def Q8 {γ : Type} (f : (List (Int × Int)) → Int → Int → Int → Int → List Int → γ) (s : St) : γ := f (bc (bF (ah (vT (nx ac s.tmps 3))))) (af (ah (vT (nx ac s.tmps 37)))) (af (ah (vT (nx ac s.tmps 38)))) (af (nx .und (aj (nx .dead s.blks 0)) 0)) (af (nx .und (aj (nx .dead s.blks 0)) 1)) (aY (bh (nx .dead s.blks 1)))
theorem Lc (s : St) : aP (iJ [] 0 0 0 0 []) s = Q8 iJ s := by kernel_rfl
def xH (N : Nat) : ax β := fun s K => cond (aJ (iJ [] 0 0 0 0 []) s) ((fun (v0 : List (Int × Int)) (v1 v2 v3 v4 : Int) (v5 : List Int) => ae3 N v0 v1 v2 v3 v4 v5 (fun y0 => K .ret (nE y0)) (K (.exit 2) (nF ))) (bc (bF (ah (vT (nx ac s.tmps 3))))) (af (ah (vT (nx ac s.tmps 37)))) (af (ah (vT (nx ac s.tmps 38)))) (af (nx .und (aj (nx .dead s.blks 0)) 0)) (af (nx .und (aj (nx .dead s.blks 0)) 1)) (aY (bh (nx .dead s.blks 1)))) (none)
def JH (N : Nat) : ax β := xH (ku N) N
def Q9 {γ : Type} (f : (List (Int × Int)) → Int → Int → (List (Int × Int)) → List Int → γ) (s : St) : γ := f (bc (bF (ah (vT (nx ac s.tmps 3))))) (af (ah (vT (nx ac s.tmps 51)))) (af (ah (vT (nx ac s.tmps 52)))) (bc (bh (nx .dead s.blks 0))) (aY (bh (nx .dead s.blks 1)))
theorem Ld (s : St) : aP (iK [] 0 0 [] []) s = Q9 iK s := by kernel_rfl
def xI (N : Nat) : ax β := fun s K => cond (aJ (iK [] 0 0 [] []) s) ((fun (v0 : List (Int × Int)) (v1 v2 : Int) (v3 : List (Int × Int)) (v4 : List Int) => ae2 N v0 v1 v2 v3 v4 (fun y0 => K (.exit 4) (nG y0))) (bc (bF (ah (vT (nx ac s.tmps 3))))) (af (ah (vT (nx ac s.tmps 51)))) (af (ah (vT (nx ac s.tmps 52)))) (bc (bh (nx .dead s.blks 0))) (aY (bh (nx .dead s.blks 1)))) (none)
def JI (N : Nat) : ax β := xI (ir N) N
def Kf (N : Nat) : Env β := ⟨[(68, Vo aeV N), (60, Qg aev N), (69, acX aem N)], [], [(0, EJ ae1 N), (2, xH ae3 N), (4, xI ae2 N)], [], ⟨[], [], [], []⟩⟩
def E34 (N : Nat) : Env β := Kf (ip N) (pZ N) (eG N) (ju N) (ir N) (ku N) N
theorem IL (N : Nat) (v0 : List (Int × Int)) (v1 : List (Int × Int)) (v2 v3 v4 v5 : Int) (v6 : List Int) (rec_ : St → O β) (K : Exit → St → O β) :
  stB lay (Kf aev aeV aem ae1 ae2 ae3 N) Tryz.f34 0 (kT v0 v1 v2 v3 v4 v5 v6) rec_ K = GZ aev N v0 v1 v2 v3 v4 v5 v6 (fun v0 v1 v2 v3 v4 v5 v6 => rec_ (kT v0 v1 v2 v3 v4 v5 v6)) (fun y0 y1 y2 y3 => K (.exit 0) (nD y0 y1 y2 y3)) := by kernel_rfl
theorem M7 (N : Nat) (K : Exit → St → O β) : ∀ (F : Nat) (v0 : List (Int × Int)) (v1 : List (Int × Int)) (v2 v3 v4 v5 : Int) (v6 : List Int), (lp Tryz.f34 0).rounds lay (E34 N) (ai Tryz.f34) F (kT v0 v1 v2 v3 v4 v5 v6) K = ju N F v0 v1 v2 v3 v4 v5 v6 (fun y0 y1 y2 y3 => K (.exit 0) (nD y0 y1 y2 y3)) := by
 intro F; induction F with
 | zero => intros; rfl
 | succ F ih => intros; rw [am]; refine (IL (ip N) (pZ N) (eG N) (ju N) (ir N) (ku N) N _ _ _ _ _ _ _ (fun s => (lp Tryz.f34 0).rounds lay (E34 N) (ai Tryz.f34) F s K) K).trans ?_; simp only [ih]; rfl
theorem Wb (N : Nat) : aS (E34 (β := β) N).loops (lp Tryz.f34 0).id = T2 N := by kernel_rfl
theorem Xj (N : Nat) : ay lay (E34 (β := β) N) (ai Tryz.f34) (lp Tryz.f34 0) := rks (Wb ..) (rc1 (fun s K hb => ⟨N, by rw [← ar hb, Lb s]; unfold zd; exact M7 N K N _ _ _ _ _ _ _⟩) rc0)
theorem IM (N : Nat) (v0 : List (Int × Int)) (v1 v2 v3 v4 : Int) (v5 : List Int) (rec_ : St → O β) (K : Exit → St → O β) :
  stB lay (Kf aev aeV aem ae1 ae2 ae3 N) Tryz.f34 1 (iJ v0 v1 v2 v3 v4 v5) rec_ K = OU (aem N) ae2 N v0 v1 v2 v3 v4 v5 (fun v0 v1 v2 v3 v4 v5 => rec_ (iJ v0 v1 v2 v3 v4 v5)) (fun y0 => K .ret (nE y0)) (K (.exit 2) (nF )) := by kernel_rfl
theorem M8 (N : Nat) (K : Exit → St → O β) : ∀ (F : Nat) (v0 : List (Int × Int)) (v1 v2 v3 v4 : Int) (v5 : List Int), (lp Tryz.f34 1).rounds lay (E34 N) (ai Tryz.f34) F (iJ v0 v1 v2 v3 v4 v5) K = ku N F v0 v1 v2 v3 v4 v5 (fun y0 => K .ret (nE y0)) (K (.exit 2) (nF )) := by
 intro F; induction F with
 | zero => intros; rfl
 | succ F ih => intros; rw [am]; refine (IM (ip N) (pZ N) (eG N) (ju N) (ir N) (ku N) N _ _ _ _ _ _ (fun s => (lp Tryz.f34 1).rounds lay (E34 N) (ai Tryz.f34) F s K) K).trans ?_; simp only [ih]; rfl
theorem Wc (N : Nat) : aS (E34 (β := β) N).loops (lp Tryz.f34 1).id = JH N := by kernel_rfl
theorem Xk (N : Nat) : ay lay (E34 (β := β) N) (ai Tryz.f34) (lp Tryz.f34 1) := by
 intro s K r h
 rw [Wc] at h
 unfold JH xH at h
 cases hb : aJ (iJ [] 0 0 0 0 []) s with
 | true =>
  rw [hb, agY] at h
  exact ⟨N, by rw [← ar hb, Lc s]; exact (M8 N K N (bc (bF (ah (vT (nx ac s.tmps 3))))) (af (ah (vT (nx ac s.tmps 37)))) (af (ah (vT (nx ac s.tmps 38)))) (af (nx .und (aj (nx .dead s.blks 0)) 0)) (af (nx .und (aj (nx .dead s.blks 0)) 1)) (aY (bh (nx .dead s.blks 1)))).trans h⟩
 | false =>
 rw [hb, agX] at h
 clear hb
 cases h
theorem IO (N : Nat) (v0 : List (Int × Int)) (v1 v2 : Int) (v3 : List (Int × Int)) (v4 : List Int) (rec_ : St → O β) (K : Exit → St → O β) :
  stB lay (Kf aev aeV aem ae1 ae2 ae3 N) Tryz.f34 2 (iK v0 v1 v2 v3 v4) rec_ K = G0 N v0 v1 v2 v3 v4 (fun v0 v1 v2 v3 v4 => rec_ (iK v0 v1 v2 v3 v4)) (fun y0 => K (.exit 4) (nG y0)) := by kernel_rfl
theorem M9 (N : Nat) (K : Exit → St → O β) : ∀ (F : Nat) (v0 : List (Int × Int)) (v1 v2 : Int) (v3 : List (Int × Int)) (v4 : List Int), (lp Tryz.f34 2).rounds lay (E34 N) (ai Tryz.f34) F (iK v0 v1 v2 v3 v4) K = ir N F v0 v1 v2 v3 v4 (fun y0 => K (.exit 4) (nG y0)) := by
 intro F; induction F with
 | zero => intros; rfl
 | succ F ih => intros; rw [am]; refine (IO (ip N) (pZ N) (eG N) (ju N) (ir N) (ku N) N _ _ _ _ _ (fun s => (lp Tryz.f34 2).rounds lay (E34 N) (ai Tryz.f34) F s K) K).trans ?_; simp only [ih]; rfl
theorem Wd (N : Nat) : aS (E34 (β := β) N).loops (lp Tryz.f34 2).id = JI N := by kernel_rfl
theorem Xl (N : Nat) : ay lay (E34 (β := β) N) (ai Tryz.f34) (lp Tryz.f34 2) := by
 intro s K r h
 rw [Wd] at h
 unfold JI xI at h
 cases hb : aJ (iK [] 0 0 [] []) s with
 | true =>
  rw [hb, agY] at h
  exact ⟨N, by rw [← ar hb, Ld s]; exact (M9 N K N (bc (bF (ah (vT (nx ac s.tmps 3))))) (af (ah (vT (nx ac s.tmps 51)))) (af (ah (vT (nx ac s.tmps 52)))) (bc (bh (nx .dead s.blks 0))) (aY (bh (nx .dead s.blks 1)))).trans h⟩
 | false =>
 rw [hb, agX] at h
 clear hb
 cases h
theorem Yu (N : Nat) (a0 a1 : Int) (K : TV → O β) : aL lay (Kf aev aeV aem ae1 ae2 ae3 N) Tryz.f34 [.v (.agg [.int .i64 a0, .int .i64 a1])] K = OV aeV ae1 ae3 N a0 a1 (fun z2 => K (.v (.one (.sl 46 (.pairs z2))))) := by kernel_rfl
theorem o34 (N : Nat) : ao (β := β) inv Tryz.prog 34 (S34 N) := by
 refine ap au mixed (E := E34 N) (ae (aa (o68 N) (aa (o60 N) (aa (o69 N) ag)))) ak av Tryz.func34 (by kernel_rfl) 3 (by kernel_rfl) ⟨⟨⟨trivial, Xj N⟩, Xk N⟩, Xl N⟩ fun args K r h => ?_
 unfold S34 Ve at h
 split at h
 ·exact (Yu (ip N) (pZ N) (eG N) (ju N) (ir N) (ku N) N _ _ _).trans h
 ·cases h
def Vd (N : Nat) : Rv.Spec β := fun args K => match args with
 | [.v (.one (.int .i64 a0)), .v (.one (.sl 46 (.pairs a1)))] => af1 a0 a1 (fun z2 => K (.v (.one (.str z2))))
 | _ => none
def S33 (N : Nat) : Rv.Spec β := Vd (xv N) N
def aaK (N : Nat) : Env β := ⟨[(67, Qh aeG N)], [], [], [], ⟨[], [], [], []⟩⟩
def E33 (N : Nat) : Env β := aaK (kq N) N
theorem Yt (N : Nat) (a0 : Int) (a1 : List (Int × Int)) (K : TV → O β) : aL lay (aaK aeG N) Tryz.f33 [(Z' a0), .v (.one (.sl 46 (.pairs a1)))] K = OW aeG N a0 a1 (fun z2 => K (.v (.one (.str z2)))) := by kernel_rfl
theorem o33 (N : Nat) : ao (β := β) inv Tryz.prog 33 (S33 N) := by
 refine ap au mixed (E := E33 N) (ae (aa (o67 N) ag)) ak av Tryz.func33 (by kernel_rfl) 0 (by kernel_rfl) trivial fun args K r h => ?_
 unfold S33 Vd at h
 split at h
 ·exact (Yt (kq N) N _ _ _).trans h
 ·cases h
def Vp (N : Nat) : cc β := fun args bl K => match args, bl with
 | [.v (.agg [.int .i64 a0, .int .i64 a1])], [] => af2 a0 a1 (fun y0 y1 y2 y3 => K (.v (.one (.ptr 0 0))) [.cells 112 [.int .i64 y0, .int .i64 y1, .mp 1, .mp 2], .mp ⟨true, false⟩ y2, .mp ⟨true, false⟩ y3])
 | _, _ => none
def S70 (N : Nat) : cc β := Vp (CZ N) N
def aa3 (N : Nat) : Env β := ⟨[], [], [], [], ⟨[], [], [], []⟩⟩
def E70 (N : Nat) : Env β := aa3 N
theorem Zh (N : Nat) (a0 a1 : Int) (K : TV → List Blk → O β) : pb lay (aa3 N) Tryz.f70 [.v (.agg [.int .i64 a0, .int .i64 a1])] [] K = OX N a0 a1 (fun y0 y1 y2 y3 => K (.v (.one (.ptr 0 0))) [.cells 112 [.int .i64 y0, .int .i64 y1, .mp 1, .mp 2], .mp ⟨true, false⟩ y2, .mp ⟨true, false⟩ y3]) := by kernel_rfl
theorem o70 (N : Nat) : GOK (β := β) inv Tryz.prog 70 (S70 N) := by
 refine LW au mixed (E := E70 N) (ae ag) ak av Tryz.func70 (by kernel_rfl) 0 (by kernel_rfl) trivial fun args bl K r h => ?_
 unfold S70 Vp at h
 split at h
 ·exact (Zh N _ _ _).trans h
 ·cases h
def Ff (N : Nat) : Rv.Spec β := fun args K => match args with
 | [.v (.one (.int .i64 a0))] => aen a0 (fun z1 => K (.v (.one (.str z1))))
 | _ => none
def aaq (N : Nat) : Rv.Spec β := Ff (fI N) N
def SI (N : Nat) : Env β := ⟨[(125, aaz N)], [], [], [], ⟨[], [], [], []⟩⟩
def acF (N : Nat) : Env β := SI N
theorem RN (N : Nat) (a0 : Int) (K : TV → O β) : aL lay (SI N) Tryz.f104 [(Z' a0)] K = OY N a0 (fun z1 => K (.v (.one (.str z1)))) := by kernel_rfl
theorem abU (N : Nat) : ao (β := β) inv Tryz.prog 104 (aaq N) := by
 refine ap au mixed (E := acF N) (ae (aa (adt N) ag)) ak av Tryz.func104 (by kernel_rfl) 0 (by kernel_rfl) trivial fun args K r h => ?_
 unfold aaq Ff at h
 split at h
 ·exact (RN N _ _).trans h
 ·cases h
def AC (N : Nat) : Rv.Spec β := fun args K => match args with
 | [.v (.agg [.int .i64 a0, .int .i64 a1]), .v (.one (.int .i64 a2)), .v (.one (.int .i64 a3))] => aea a0 a1 a2 a3 (fun z4 z5 => K (.v (.agg [.int .i64 z4, .int .i64 z5])))
 | _ => none
def aas (N : Nat) : Rv.Spec β := AC (eP N) N
def SJ (N : Nat) : Env β := ⟨[], [], [], [], ⟨[], [], [], []⟩⟩
def acG (N : Nat) : Env β := SJ N
theorem RP (N : Nat) (a0 a1 a2 a3 : Int) (K : TV → O β) : aL lay (SJ N) Tryz.f106 [.v (.agg [.int .i64 a0, .int .i64 a1]), (Z' a2), (Z' a3)] K = G1 N a0 a1 a2 a3 (fun z4 z5 => K (.v (.agg [.int .i64 z4, .int .i64 z5]))) := by kernel_rfl
theorem WQ (N : Nat) : ao (β := β) inv Tryz.prog 106 (aas N) := by
 refine ap au mixed (E := acG N) (ae ag) ak av Tryz.func106 (by kernel_rfl) 0 (by kernel_rfl) trivial fun args K r h => ?_
 unfold aas AC at h
 split at h
 ·exact (RP N _ _ _ _ _).trans h
 ·cases h
def sm (N G : Nat) : cc β := fun args bl K => match args, bl with
 | [.v (.one (.ptr 0 0)), .v (.agg [.int .i64 a0, .int .i64 a1])], [.pcells 0 112 [.int .i64 a2, .int .i64 a3, .mp 1, .mp 2], .pmp 1 ⟨true, false⟩ a4, .pmp 2 ⟨true, false⟩ a5] => aeq G a0 a1 a2 a3 a4 a5 (fun y0 y1 y2 y3 y4 => K (.v (.one (.int .i64 y0))) [.pcells 0 112 [.int .i64 y1, .int .i64 y2, .mp 1, .mp 2], .pmp 1 ⟨true, false⟩ y3, .pmp 2 ⟨true, false⟩ y4])
 | _, _ => none
def Ar (N G : Nat) : cc β := sm (gq N) N G
def abn (N : Nat) : cc β := sm aeq N N
def acR (N : Nat) : cc β := Ar N N
def gV (v0 v1 v2 v3 v4 : Int) (v5 v6 : Mp) (v7 v8 : Int) : St := ⟨.v (.one (.ptr 0 0)) :: ac :: ac :: .v (.one (.ptr 3 0)) :: tn 3 ((Z' v0) :: tn 31 ((Z' v1) :: (Z' v2) :: tn 30 [])), [.pcells 0 112 [.int .i64 v3, .int .i64 v4, .mp 1, .mp 2], .pmp 1 ⟨true, false⟩ v5, .pmp 2 ⟨true, false⟩ v6, .cells 88 [.int .i64 v7, .int .i64 v8]]⟩
def kg (y0 y1 y2 : Int) (y3 y4 : Mp) (y5 y6 : Int) : St := ⟨.v (.one (.ptr 0 0)) :: ac :: ac :: .v (.one (.ptr 3 0)) :: tn 3 ((Z' y0) :: tn 63 []), [.pcells 0 112 [.int .i64 y1, .int .i64 y2, .mp 1, .mp 2], .pmp 1 ⟨true, false⟩ y3, .pmp 2 ⟨true, false⟩ y4, .cells 88 [.int .i64 y5, .int .i64 y6]]⟩
def tT {γ : Type} (f : Int → Int → Int → Int → Int → Mp → Mp → Int → Int → γ) (s : St) : γ := f (af (ah (vT (nx ac s.tmps 7)))) (af (ah (vT (nx ac s.tmps 39)))) (af (ah (vT (nx ac s.tmps 40)))) (af (nx .und (aj (nx .dead s.blks 0)) 0)) (af (nx .und (aj (nx .dead s.blks 0)) 1)) (mpB (nx .dead s.blks 1)) (mpB (nx .dead s.blks 2)) (af (nx .und (aj (nx .dead s.blks 3)) 0)) (af (nx .und (aj (nx .dead s.blks 3)) 1))
theorem HE (s : St) : aP (gV 0 0 0 0 0 [] [] 0 0) s = tT gV s := by kernel_rfl
def Ay (N G : Nat) : ax β := fun s K => cond (aJ (gV 0 0 0 0 0 [] [] 0 0) s) (tT (fun v0 v1 v2 v3 v4 v5 v6 v7 v8 => af3 (aeq G) N v0 v1 v2 v3 v4 v5 v6 v7 v8 (fun y0 y1 y2 y3 y4 y5 y6 => K (.exit 0) (kg y0 y1 y2 y3 y4 y5 y6))) s) (none)
def PX (N G : Nat) : ax β := Ay (kv N) (gq N) N G
def Kd (N G : Nat) : Env β := ⟨[(105, AB aek N), (106, AC aea N)], [], [(0, Ay af3 aeq N G)], [(124, sm aeq N G)], ⟨[], [], [], []⟩⟩
def PP (N G : Nat) : Env β := Kd (gm N) (eP N) (kv N) (gq N) N G
theorem Ei (N G : Nat) (v0 v1 v2 v3 v4 : Int) (v5 v6 : Mp) (v7 v8 : Int) (rec_ : St → O β) (K : Exit → St → O β) :
  stB lay (Kd aek aea af3 aeq N G) Tryz.f124 0 (gV v0 v1 v2 v3 v4 v5 v6 v7 v8) rec_ K = CJ aea N (aeq G) v0 v1 v2 v3 v4 v5 v6 v7 v8 (fun v0 v1 v2 v3 v4 v5 v6 v7 v8 => rec_ (gV v0 v1 v2 v3 v4 v5 v6 v7 v8)) (fun y0 y1 y2 y3 y4 y5 y6 => K (.exit 0) (kg y0 y1 y2 y3 y4 y5 y6)) := by kernel_rfl
theorem Ia (N G : Nat) (K : Exit → St → O β) : ∀ (F : Nat) (v0 v1 v2 v3 v4 : Int) (v5 v6 : Mp) (v7 v8 : Int), (lp Tryz.f124 0).rounds lay (PP N G) (ai Tryz.f124) F (gV v0 v1 v2 v3 v4 v5 v6 v7 v8) K = kv N (gq N G) F v0 v1 v2 v3 v4 v5 v6 v7 v8 (fun y0 y1 y2 y3 y4 y5 y6 => K (.exit 0) (kg y0 y1 y2 y3 y4 y5 y6)) := by
 intro F; induction F with
 | zero => intros; rfl
 | succ F ih => intros; rw [am]; refine (Ei (gm N) (eP N) (kv N) (gq N) N G _ _ _ _ _ _ _ _ _ (fun s => (lp Tryz.f124 0).rounds lay (PP N G) (ai Tryz.f124) F s K) K).trans ?_; simp only [ih]; rfl
theorem QX (N G : Nat) : aS (PP (β := β) N G).loops (lp Tryz.f124 0).id = PX N G := by kernel_rfl
theorem Rs (N G : Nat) : ay lay (PP (β := β) N G) (ai Tryz.f124) (lp Tryz.f124 0) := rks (QX ..) (rc1 (fun s K hb => ⟨N, by rw [← ar hb, HE s]; unfold tT; exact Ia N _ K N _ _ _ _ _ _ _ _ _⟩) rc0)
theorem R1 (N G : Nat) (a0 a1 a2 a3 : Int) (a4 a5 : Mp) (K : TV → List Blk → O β) : pb lay (Kd aek aea af3 aeq N G) Tryz.f124 [.v (.one (.ptr 0 0)), .v (.agg [.int .i64 a0, .int .i64 a1])] [.pcells 0 112 [.int .i64 a2, .int .i64 a3, .mp 1, .mp 2], .pmp 1 ⟨true, false⟩ a4, .pmp 2 ⟨true, false⟩ a5] K = OZ aek af3 N (aeq G) a0 a1 a2 a3 a4 a5 (fun y0 y1 y2 y3 y4 => K ((Z' y0)) [.pcells 0 112 [.int .i64 y1, .int .i64 y2, .mp 1, .mp 2], .pmp 1 ⟨true, false⟩ y3, .pmp 2 ⟨true, false⟩ y4]) := by kernel_rfl
theorem adR (N : Nat) : ∀ args bl K r, Ar (β := β) N 0 args bl K = some r → (none : O β) = some r := by
 intro args bl K r h
 unfold Ar sm at h
 split at h <;> exact h
theorem abX (N : Nat) : ∀ G, GOK (β := β) inv Tryz.prog 124 (Ar N G) := by
 intro G
 induction G with
 | zero => exact LX Tryz.func124 (by kernel_rfl) (adR N)
 | succ G ih =>
  refine LW au mixed (E := PP N G) (ae (aa (WP N) (aa (WQ N) ag))) ak (eR ih av) Tryz.func124 (by kernel_rfl) 1 (by kernel_rfl) ⟨trivial, Rs N G⟩ fun args bl K r h => ?_
  unfold Ar sm at h
  split at h
  ·exact (R1 (gm N) (eP N) (kv N) (gq N) N G _ _ _ _ _ _ _).trans h
  ·cases h
theorem ads (N : Nat) : GOK (β := β) inv Tryz.prog 124 (acR N) := abX N N
end Go.Proofs.YtmhlcbibbhelkaaGreatDoor
