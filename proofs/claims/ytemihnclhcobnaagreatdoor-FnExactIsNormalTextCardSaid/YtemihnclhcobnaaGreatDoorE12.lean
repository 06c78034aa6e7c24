/- The functions that the claims cY bz as their texts do. -/
import Derived.Test.YtemihnclhcobnaaGreatDoorE11
namespace Go.Proofs.YtemihnclhcobnaaGreatDoor
set_option linter.unusedSimpArgs false
open Go.Rv
set_option maxRecDepth 100000
set_option maxHeartbeats 2000000
set_option linter.unusedVariables false
variable {β : Type}
variable (ahG : Y86 β) (ahv : Y91 β) (ahk : Y66 β) (ahV : Y56 β) (ahm : ac4 β) (ah1 : ac6 β) (ah2 : ac8 β) (ah3 : ac7 β) (ai0 : Y56 β) (ai1 : Y64 β) (ai2 : Yq β) (ahn : RI β) (aha : Yr β) (ai3 : ada β) (ahq : ac9 β)
variable (N : Nat)
def Yk (N : Nat) : Rv.Spec β := fun args K => match args with
 | [.v (.agg [.int .i64 a0, .int .i64 a1])] => ai0 a0 a1 (fun z2 => K (.v (.one (.sl 93 (.pairs z2)))))
 | _ => none
def S77 : Rv.Spec β := Yk (yr N) N
def mw (v0 : List (Int × Int)) (v1 : List (Int × Int)) (v2 v3 v4 v5 : Int) (v6 : List Int) : St := ⟨ac :: .v (.one (.ptr 0 0)) :: ac :: .v (.one (.fsl 93 (.pairs v0))) :: .v (.one (.row 1)) :: tn 13 (.v (.one (.fsl 93 (.pairs v1))) :: (Z' v2) :: (Z' v3) :: tn 45 []), [.cells 25 [.int .i64 v4, .int .i64 v5], .row 3 (.ints .i64 v6)]⟩
def oA (y0 : List (Int × Int)) (y1 y2 : Int) (y3 : List Int) : St := ⟨ac :: .v (.one (.ptr 0 0)) :: ac :: .v (.one (.fsl 93 (.pairs y0))) :: .v (.one (.row 1)) :: tn 61 [], [.cells 25 [.int .i64 y1, .int .i64 y2], .row 3 (.ints .i64 y3)]⟩
def jn (v0 : List (Int × Int)) (v1 v2 v3 v4 : Int) (v5 : List Int) : St := ⟨ac :: .v (.one (.ptr 0 0)) :: ac :: .v (.one (.fsl 93 (.pairs v0))) :: .v (.one (.row 1)) :: tn 32 ((Z' v1) :: (Z' v2) :: tn 27 []), [.cells 25 [.int .i64 v3, .int .i64 v4], .row 3 (.ints .i64 v5)]⟩
def oB (y0 : List (Int × Int)) : St := ⟨ac :: ac :: .v (.one (.row 0)) :: tn 63 [], [.row 93 (.pairs y0)]⟩
def oC : St := ⟨tn 66 [], []⟩
def jo (v0 : List (Int × Int)) (v1 v2 : Int) (v3 : List (Int × Int)) (v4 : List Int) : St := ⟨tn 3 (.v (.one (.fsl 93 (.pairs v0))) :: tn 6 (.v (.one (.row 0)) :: tn 39 (.v (.one (.row 1)) :: (Z' v1) :: (Z' v2) :: tn 13 []))), [.row 93 (.pairs v3), .row 3 (.ints .i64 v4)]⟩
def oD (y0 : List (Int × Int)) : St := ⟨tn 10 (.v (.one (.row 0)) :: tn 55 []), [.row 93 (.pairs y0)]⟩
def zW {γ : Type} (f : (List (Int × Int)) -> (List (Int × Int)) -> Int -> Int -> Int -> Int -> List Int -> γ) (s : St) : γ := f (bc (bF (ah (vT (nx ac s.tmps 3))))) (bc (bF (ah (vT (nx ac s.tmps 18))))) (af (ah (vT (nx ac s.tmps 19)))) (af (ah (vT (nx ac s.tmps 20)))) (af (nx .und (ak (nx .dead s.blks 0)) 0)) (af (nx .und (ak (nx .dead s.blks 0)) 1)) (aY (bh (nx .dead s.blks 1)))
theorem M7 (s : St) : aP (mw [] [] 0 0 0 0 []) s = zW mw s := by kernel_rfl
def Gc : ax β := fun s K => cond (aJ (mw [] [] 0 0 0 0 []) s) (zW (fun v0 v1 v2 v3 v4 v5 v6 => ah1 N v0 v1 v2 v3 v4 v5 v6 (fun y0 y1 y2 y3 => K (.exit 0) (oA y0 y1 y2 y3))) s) (none)
def XA : ax β := Gc (jS N) N
def S8 {γ : Type} (f : (List (Int × Int)) -> Int -> Int -> Int -> Int -> List Int -> γ) (s : St) : γ := f (bc (bF (ah (vT (nx ac s.tmps 3))))) (af (ah (vT (nx ac s.tmps 37)))) (af (ah (vT (nx ac s.tmps 38)))) (af (nx .und (ak (nx .dead s.blks 0)) 0)) (af (nx .und (ak (nx .dead s.blks 0)) 1)) (aY (bh (nx .dead s.blks 1)))
theorem M8 (s : St) : aP (jn [] 0 0 0 0 []) s = S8 jn s := by kernel_rfl
def yG : ax β := fun s K => cond (aJ (jn [] 0 0 0 0 []) s) ((fun (v0 : List (Int × Int)) (v1 v2 v3 v4 : Int) (v5 : List Int) => ah3 N v0 v1 v2 v3 v4 v5 (fun y0 => K .ret (oB y0)) (K (.exit 2) (oC ))) (bc (bF (ah (vT (nx ac s.tmps 3))))) (af (ah (vT (nx ac s.tmps 37)))) (af (ah (vT (nx ac s.tmps 38)))) (af (nx .und (ak (nx .dead s.blks 0)) 0)) (af (nx .und (ak (nx .dead s.blks 0)) 1)) (aY (bh (nx .dead s.blks 1)))) (none)
def Lv : ax β := yG (l3 N) N
def S9 {γ : Type} (f : (List (Int × Int)) -> Int -> Int -> (List (Int × Int)) -> List Int -> γ) (s : St) : γ := f (bc (bF (ah (vT (nx ac s.tmps 3))))) (af (ah (vT (nx ac s.tmps 51)))) (af (ah (vT (nx ac s.tmps 52)))) (bc (bh (nx .dead s.blks 0))) (aY (bh (nx .dead s.blks 1)))
theorem M9 (s : St) : aP (jo [] 0 0 [] []) s = S9 jo s := by kernel_rfl
def yH : ax β := fun s K => cond (aJ (jo [] 0 0 [] []) s) ((fun (v0 : List (Int × Int)) (v1 v2 : Int) (v3 : List (Int × Int)) (v4 : List Int) => ah2 N v0 v1 v2 v3 v4 (fun y0 => K (.exit 4) (oD y0))) (bc (bF (ah (vT (nx ac s.tmps 3))))) (af (ah (vT (nx ac s.tmps 51)))) (af (ah (vT (nx ac s.tmps 52)))) (bc (bh (nx .dead s.blks 0))) (aY (bh (nx .dead s.blks 1)))) (none)
def Lw : ax β := yH (iZ N) N
def LZ : Env β := ⟨[(86, Yp ahV N), (136, Gl ahv N), (147, acO ahm N)], [], [(0, Gc ah1 N), (2, yG ah3 N), (4, yH ah2 N)], [], ⟨[], [], [], []⟩⟩
def E77 : Env β := LZ (iX N) (pR N) (eG N) (jS N) (iZ N) (l3 N) N
theorem K8 (v0 : List (Int × Int)) (v1 : List (Int × Int)) (v2 v3 v4 v5 : Int) (v6 : List Int) (rec_ : St -> O β) (K : Exit -> St -> O β) :
  stB lay (LZ ahv ahV ahm ah1 ah2 ah3 N) Tryz.f77 0 (mw v0 v1 v2 v3 v4 v5 v6) rec_ K = Ie ahv N v0 v1 v2 v3 v4 v5 v6 (fun v0 v1 v2 v3 v4 v5 v6 => rec_ (mw v0 v1 v2 v3 v4 v5 v6)) (fun y0 y1 y2 y3 => K (.exit 0) (oA y0 y1 y2 y3)) := by kernel_rfl
theorem OE (K : Exit -> St -> O β) : ∀ (F : Nat) (v0 : List (Int × Int)) (v1 : List (Int × Int)) (v2 v3 v4 v5 : Int) (v6 : List Int), (lp Tryz.f77 0).rounds lay (E77 N) (ai Tryz.f77) F (mw v0 v1 v2 v3 v4 v5 v6) K = jS N F v0 v1 v2 v3 v4 v5 v6 (fun y0 y1 y2 y3 => K (.exit 0) (oA y0 y1 y2 y3)) := by
 intro F; induction F with
 | zero => intros; rfl
 | succ F ih => intros; rw [am]; refine (K8 (iX N) (pR N) (eG N) (jS N) (iZ N) (l3 N) N _ _ _ _ _ _ _ (fun s => (lp Tryz.f77 0).rounds lay (E77 N) (ai Tryz.f77) F s K) K).trans ?_; simp only [ih]; rfl
theorem Zc : aS (E77 (β := β) N).loops (lp Tryz.f77 0).id = XA N := by kernel_rfl
theorem ZV : ay lay (E77 (β := β) N) (ai Tryz.f77) (lp Tryz.f77 0) := rks (Zc ..) (rc1 (fun s K hb => ⟨N, by rw [<- ar hb, M7 s]; unfold zW; exact OE N K N _ _ _ _ _ _ _⟩) rc0)
theorem K9 (v0 : List (Int × Int)) (v1 v2 v3 v4 : Int) (v5 : List Int) (rec_ : St -> O β) (K : Exit -> St -> O β) :
  stB lay (LZ ahv ahV ahm ah1 ah2 ah3 N) Tryz.f77 1 (jn v0 v1 v2 v3 v4 v5) rec_ K = PO (ahm N) ah2 N v0 v1 v2 v3 v4 v5 (fun v0 v1 v2 v3 v4 v5 => rec_ (jn v0 v1 v2 v3 v4 v5)) (fun y0 => K .ret (oB y0)) (K (.exit 2) (oC )) := by kernel_rfl
theorem OF (K : Exit -> St -> O β) : ∀ (F : Nat) (v0 : List (Int × Int)) (v1 v2 v3 v4 : Int) (v5 : List Int), (lp Tryz.f77 1).rounds lay (E77 N) (ai Tryz.f77) F (jn v0 v1 v2 v3 v4 v5) K = l3 N F v0 v1 v2 v3 v4 v5 (fun y0 => K .ret (oB y0)) (K (.exit 2) (oC )) := by
 intro F; induction F with
 | zero => intros; rfl
 | succ F ih => intros; rw [am]; refine (K9 (iX N) (pR N) (eG N) (jS N) (iZ N) (l3 N) N _ _ _ _ _ _ (fun s => (lp Tryz.f77 1).rounds lay (E77 N) (ai Tryz.f77) F s K) K).trans ?_; simp only [ih]; rfl
theorem Zd : aS (E77 (β := β) N).loops (lp Tryz.f77 1).id = Lv N := by kernel_rfl
theorem ZW : ay lay (E77 (β := β) N) (ai Tryz.f77) (lp Tryz.f77 1) := by
 intro s K r h
 rw [Zd] at h
 unfold Lv yG at h
 cases hb : aJ (jn [] 0 0 0 0 []) s with
 | true =>
  rw [hb, ajZ] at h
  exact ⟨N, by rw [<- ar hb, M8 s]; exact (OF N K N (bc (bF (ah (vT (nx ac s.tmps 3))))) (af (ah (vT (nx ac s.tmps 37)))) (af (ah (vT (nx ac s.tmps 38)))) (af (nx .und (ak (nx .dead s.blks 0)) 0)) (af (nx .und (ak (nx .dead s.blks 0)) 1)) (aY (bh (nx .dead s.blks 1)))).trans h⟩
 | false =>
 rw [hb, ajY] at h
 clear hb
 cases h
theorem La (v0 : List (Int × Int)) (v1 v2 : Int) (v3 : List (Int × Int)) (v4 : List Int) (rec_ : St -> O β) (K : Exit -> St -> O β) :
  stB lay (LZ ahv ahV ahm ah1 ah2 ah3 N) Tryz.f77 2 (jo v0 v1 v2 v3 v4) rec_ K = If N v0 v1 v2 v3 v4 (fun v0 v1 v2 v3 v4 => rec_ (jo v0 v1 v2 v3 v4)) (fun y0 => K (.exit 4) (oD y0)) := by kernel_rfl
theorem OG (K : Exit -> St -> O β) : ∀ (F : Nat) (v0 : List (Int × Int)) (v1 v2 : Int) (v3 : List (Int × Int)) (v4 : List Int), (lp Tryz.f77 2).rounds lay (E77 N) (ai Tryz.f77) F (jo v0 v1 v2 v3 v4) K = iZ N F v0 v1 v2 v3 v4 (fun y0 => K (.exit 4) (oD y0)) := by
 intro F; induction F with
 | zero => intros; rfl
 | succ F ih => intros; rw [am]; refine (La (iX N) (pR N) (eG N) (jS N) (iZ N) (l3 N) N _ _ _ _ _ (fun s => (lp Tryz.f77 2).rounds lay (E77 N) (ai Tryz.f77) F s K) K).trans ?_; simp only [ih]; rfl
theorem Ze : aS (E77 (β := β) N).loops (lp Tryz.f77 2).id = Lw N := by kernel_rfl
theorem ZX : ay lay (E77 (β := β) N) (ai Tryz.f77) (lp Tryz.f77 2) := by
 intro s K r h
 rw [Ze] at h
 unfold Lw yH at h
 cases hb : aJ (jo [] 0 0 [] []) s with
 | true =>
  rw [hb, ajZ] at h
  exact ⟨N, by rw [<- ar hb, M9 s]; exact (OG N K N (bc (bF (ah (vT (nx ac s.tmps 3))))) (af (ah (vT (nx ac s.tmps 51)))) (af (ah (vT (nx ac s.tmps 52)))) (bc (bh (nx .dead s.blks 0))) (aY (bh (nx .dead s.blks 1)))).trans h⟩
 | false =>
 rw [hb, ajY] at h
 clear hb
 cases h
theorem aaG (a0 a1 : Int) (K : TV -> O β) : aL lay (LZ ahv ahV ahm ah1 ah2 ah3 N) Tryz.f77 [.v (.agg [.int .i64 a0, .int .i64 a1])] K = PP ahV ah1 ah3 N a0 a1 (fun z2 => K (.v (.one (.sl 93 (.pairs z2))))) := by kernel_rfl
theorem o77 : ao (β := β) inv Tryz.prog 77 (S77 N) := by
 refine ap au mixed (E := E77 N) (ae (aa (o86 N) (aa (adC N) (aa (af3 N) ag)))) aj av Tryz.func77 (by kernel_rfl) 3 (by kernel_rfl) ⟨⟨⟨trivial, ZV N⟩, ZW N⟩, ZX N⟩ fun args K r h => ?_
 unfold S77 Yk at h
 split at h
 ·exact (aaG (iX N) (pR N) (eG N) (jS N) (iZ N) (l3 N) N _ _ _).trans h
 ·cases h
def Yj (N : Nat) : Rv.Spec β := fun args K => match args with
 | [.v (.one (.int .i64 a0)), .v (.one (.sl 93 (.pairs a1)))] => ai1 a0 a1 (fun z2 => K (.v (.one (.str z2))))
 | _ => none
def S76 : Rv.Spec β := Yj (yt N) N
def acD : Env β := ⟨[(146, Gm ahG N)], [], [], [], ⟨[], [], [], []⟩⟩
def E76 : Env β := acD (lX N) N
theorem aaF (a0 : Int) (a1 : List (Int × Int)) (K : TV -> O β) : aL lay (acD ahG N) Tryz.f76 [(Z' a0), .v (.one (.sl 93 (.pairs a1)))] K = PQ ahG N a0 a1 (fun z2 => K (.v (.one (.str z2)))) := by kernel_rfl
theorem o76 : ao (β := β) inv Tryz.prog 76 (S76 N) := by
 refine ap au mixed (E := E76 N) (ae (aa (adD N) ag)) aj av Tryz.func76 (by kernel_rfl) 0 (by kernel_rfl) trivial fun args K r h => ?_
 unfold S76 Yj at h
 split at h
 ·exact (aaF (lX N) N _ _ _).trans h
 ·cases h
def L7 (N : Nat) : ce β := fun args bl K => match args, bl with
 | [.v (.agg [.int .i64 a0, .int .i64 a1])], [] => ai2 a0 a1 (fun y0 y1 y2 y3 => K (.v (.one (.ptr 0 0))) [.cells 173 [.int .i64 y0, .int .i64 y1, .mp 1, .mp 2], .mp ⟨true, false⟩ y2, .mp ⟨true, false⟩ y3])
 | _, _ => none
def abP : ce β := L7 (DD N) N
def Wg (N : Nat) : Env β := ⟨[], [], [], [], ⟨[], [], [], []⟩⟩
def aeS : Env β := Wg N
theorem UG (a0 a1 : Int) (K : TV -> List Blk -> O β) : oZ lay (Wg N) Tryz.f148 [.v (.agg [.int .i64 a0, .int .i64 a1])] [] K = PR N a0 a1 (fun y0 y1 y2 y3 => K (.v (.one (.ptr 0 0))) [.cells 173 [.int .i64 y0, .int .i64 y1, .mp 1, .mp 2], .mp ⟨true, false⟩ y2, .mp ⟨true, false⟩ y3]) := by kernel_rfl
theorem af4 : GOK (β := β) inv Tryz.prog 148 (abP N) := by
 refine Nj au mixed (E := aeS N) (ae ag) aj av Tryz.func148 (by kernel_rfl) 0 (by kernel_rfl) trivial fun args bl K r h => ?_
 unfold abP L7 at h
 split at h
 ·exact (UG N _ _ _).trans h
 ·cases h
def RF (N : Nat) : Rv.Spec β := fun args K => match args with
 | [.v (.one (.int .i64 a0))] => ahn a0 (fun z1 => K (.v (.one (.str z1))))
 | _ => none
def S41 : Rv.Spec β := RF (fQ N) N
def acv : Env β := ⟨[(104, abr N)], [], [], [], ⟨[], [], [], []⟩⟩
def E41 : Env β := acv N
theorem aak (a0 : Int) (K : TV -> O β) : aL lay (acv N) Tryz.f41 [(Z' a0)] K = PS N a0 (fun z1 => K (.v (.one (.str z1)))) := by kernel_rfl
theorem o41 : ao (β := β) inv Tryz.prog 41 (S41 N) := by
 refine ap au mixed (E := E41 N) (ae (aa (afO N) ag)) aj av Tryz.func41 (by kernel_rfl) 0 (by kernel_rfl) trivial fun args K r h => ?_
 unfold S41 RF at h
 split at h
 ·exact (aak N _ _).trans h
 ·cases h
def Bz (N : Nat) : Rv.Spec β := fun args K => match args with
 | [.v (.agg [.int .i64 a0, .int .i64 a1]), .v (.one (.int .i64 a2)), .v (.one (.int .i64 a3))] => aha a0 a1 a2 a3 (fun z4 z5 => K (.v (.agg [.int .i64 z4, .int .i64 z5])))
 | _ => none
def ace : Rv.Spec β := Bz (eO N) N
def WA (N : Nat) : Env β := ⟨[], [], [], [], ⟨[], [], [], []⟩⟩
def afd : Env β := WA N
theorem Vd (a0 a1 a2 a3 : Int) (K : TV -> O β) : aL lay (WA N) Tryz.f210 [.v (.agg [.int .i64 a0, .int .i64 a1]), (Z' a2), (Z' a3)] K = Ig N a0 a1 a2 a3 (fun z4 z5 => K (.v (.agg [.int .i64 z4, .int .i64 z5]))) := by kernel_rfl
theorem Zs : ao (β := β) inv Tryz.prog 210 (ace N) := by
 refine ap au mixed (E := afd N) (ae ag) aj av Tryz.func210 (by kernel_rfl) 0 (by kernel_rfl) trivial fun args K r h => ?_
 unfold ace Bz at h
 split at h
 ·exact (Vd N _ _ _ _ _).trans h
 ·cases h
def sI (N G : Nat) : ce β := fun args bl K => match args, bl with
 | [.v (.one (.ptr 0 0)), .v (.agg [.int .i64 a0, .int .i64 a1])], [.pcells 0 173 [.int .i64 a2, .int .i64 a3, .mp 1, .mp 2], .pmp 1 ⟨true, false⟩ a4, .pmp 2 ⟨true, false⟩ a5] => ahq G a0 a1 a2 a3 a4 a5 (fun y0 y1 y2 y3 y4 => K (.v (.one (.int .i64 y0))) [.pcells 0 173 [.int .i64 y1, .int .i64 y2, .mp 1, .mp 2], .pmp 1 ⟨true, false⟩ y3, .pmp 2 ⟨true, false⟩ y4])
 | _, _ => none
def AS (G : Nat) : ce β := sI (gw N) N G
def acX : ce β := sI ahq N N
def afC : ce β := AS N N
def iz (v0 v1 v2 v3 v4 : Int) (v5 v6 : Mp) (v7 v8 : Int) : St := ⟨.v (.one (.ptr 0 0)) :: ac :: ac :: .v (.one (.ptr 3 0)) :: tn 3 ((Z' v0) :: tn 31 ((Z' v1) :: (Z' v2) :: tn 30 [])), [.pcells 0 173 [.int .i64 v3, .int .i64 v4, .mp 1, .mp 2], .pmp 1 ⟨true, false⟩ v5, .pmp 2 ⟨true, false⟩ v6, .cells 123 [.int .i64 v7, .int .i64 v8]]⟩
def lO (y0 y1 y2 : Int) (y3 y4 : Mp) (y5 y6 : Int) : St := ⟨.v (.one (.ptr 0 0)) :: ac :: ac :: .v (.one (.ptr 3 0)) :: tn 3 ((Z' y0) :: tn 63 []), [.pcells 0 173 [.int .i64 y1, .int .i64 y2, .mp 1, .mp 2], .pmp 1 ⟨true, false⟩ y3, .pmp 2 ⟨true, false⟩ y4, .cells 123 [.int .i64 y5, .int .i64 y6]]⟩
def uJ {γ : Type} (f : Int -> Int -> Int -> Int -> Int -> Mp -> Mp -> Int -> Int -> γ) (s : St) : γ := f (af (ah (vT (nx ac s.tmps 7)))) (af (ah (vT (nx ac s.tmps 39)))) (af (ah (vT (nx ac s.tmps 40)))) (af (nx .und (ak (nx .dead s.blks 0)) 0)) (af (nx .und (ak (nx .dead s.blks 0)) 1)) (mpB (nx .dead s.blks 1)) (mpB (nx .dead s.blks 2)) (af (nx .und (ak (nx .dead s.blks 3)) 0)) (af (nx .und (ak (nx .dead s.blks 3)) 1))
theorem Jp (s : St) : aP (iz 0 0 0 0 0 [] [] 0 0) s = uJ iz s := by kernel_rfl
def Bp (G : Nat) : ax β := fun s K => cond (aJ (iz 0 0 0 0 0 [] [] 0 0) s) (uJ (fun v0 v1 v2 v3 v4 v5 v6 v7 v8 => ai3 (ahq G) N v0 v1 v2 v3 v4 v5 v6 v7 v8 (fun y0 y1 y2 y3 y4 y5 y6 => K (.exit 0) (lO y0 y1 y2 y3 y4 y5 y6))) s) (none)
def Rw (G : Nat) : ax β := Bp (l4 N) (gw N) N G
def LX (G : Nat) : Env β := ⟨[(209, By ahk N), (210, Bz aha N)], [], [(0, Bp ai3 ahq N G)], [(237, sI ahq N G)], ⟨[], [], [], []⟩⟩
def Q2 (G : Nat) : Env β := LX (gv N) (eO N) (l4 N) (gw N) N G
theorem FB (G : Nat) (v0 v1 v2 v3 v4 : Int) (v5 v6 : Mp) (v7 v8 : Int) (rec_ : St -> O β) (K : Exit -> St -> O β) :
  stB lay (LX ahk aha ai3 ahq N G) Tryz.f237 0 (iz v0 v1 v2 v3 v4 v5 v6 v7 v8) rec_ K = Dm aha N (ahq G) v0 v1 v2 v3 v4 v5 v6 v7 v8 (fun v0 v1 v2 v3 v4 v5 v6 v7 v8 => rec_ (iz v0 v1 v2 v3 v4 v5 v6 v7 v8)) (fun y0 y1 y2 y3 y4 y5 y6 => K (.exit 0) (lO y0 y1 y2 y3 y4 y5 y6)) := by kernel_rfl
theorem Kv (G : Nat) (K : Exit -> St -> O β) : ∀ (F : Nat) (v0 v1 v2 v3 v4 : Int) (v5 v6 : Mp) (v7 v8 : Int), (lp Tryz.f237 0).rounds lay (Q2 N G) (ai Tryz.f237) F (iz v0 v1 v2 v3 v4 v5 v6 v7 v8) K = l4 N (gw N G) F v0 v1 v2 v3 v4 v5 v6 v7 v8 (fun y0 y1 y2 y3 y4 y5 y6 => K (.exit 0) (lO y0 y1 y2 y3 y4 y5 y6)) := by
 intro F; induction F with
 | zero => intros; rfl
 | succ F ih => intros; rw [am]; refine (FB (gv N) (eO N) (l4 N) (gw N) N G _ _ _ _ _ _ _ _ _ (fun s => (lp Tryz.f237 0).rounds lay (Q2 N G) (ai Tryz.f237) F s K) K).trans ?_; simp only [ih]; rfl
theorem ST (G : Nat) : aS (Q2 (β := β) N G).loops (lp Tryz.f237 0).id = Rw N G := by kernel_rfl
theorem TS (G : Nat) : ay lay (Q2 (β := β) N G) (ai Tryz.f237) (lp Tryz.f237 0) := rks (ST ..) (rc1 (fun s K hb => ⟨N, by rw [<- ar hb, Jp s]; unfold uJ; exact Kv N _ K N _ _ _ _ _ _ _ _ _⟩) rc0)
theorem Vp (G : Nat) (a0 a1 a2 a3 : Int) (a4 a5 : Mp) (K : TV -> List Blk -> O β) : oZ lay (LX ahk aha ai3 ahq N G) Tryz.f237 [.v (.one (.ptr 0 0)), .v (.agg [.int .i64 a0, .int .i64 a1])] [.pcells 0 173 [.int .i64 a2, .int .i64 a3, .mp 1, .mp 2], .pmp 1 ⟨true, false⟩ a4, .pmp 2 ⟨true, false⟩ a5] K = PU ahk ai3 N (ahq G) a0 a1 a2 a3 a4 a5 (fun y0 y1 y2 y3 y4 => K ((Z' y0)) [.pcells 0 173 [.int .i64 y1, .int .i64 y2, .mp 1, .mp 2], .pmp 1 ⟨true, false⟩ y3, .pmp 2 ⟨true, false⟩ y4]) := by kernel_rfl
theorem agR : ∀ args bl K r, AS (β := β) N 0 args bl K = some r -> (none : O β) = some r := by
 intro args bl K r h
 unfold AS sI at h
 split at h <;> exact h
theorem ad4 : ∀ G, GOK (β := β) inv Tryz.prog 237 (AS N G) := by
 intro G
 induction G with
 | zero => exact Nk Tryz.func237 (by kernel_rfl) (agR N)
 | succ G ih =>
  refine Nj au mixed (E := Q2 N G) (ae (aa (Zr N) (aa (Zs N) ag))) aj (eQ ih av) Tryz.func237 (by kernel_rfl) 1 (by kernel_rfl) ⟨trivial, TS N G⟩ fun args bl K r h => ?_
  unfold AS sI at h
  split at h
  ·exact (Vp (gv N) (eO N) (l4 N) (gw N) N G _ _ _ _ _ _ _).trans h
  ·cases h
theorem agu : GOK (β := β) inv Tryz.prog 237 (afC N) := ad4 N N
end Go.Proofs.YtemihnclhcobnaaGreatDoor
