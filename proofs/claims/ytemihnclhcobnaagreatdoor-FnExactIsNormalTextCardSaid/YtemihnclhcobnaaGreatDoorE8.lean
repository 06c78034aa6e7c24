/- The functions that the claims cY bz as their texts do. -/
import Derived.Test.YtemihnclhcobnaaGreatDoorE7
namespace Go.Proofs.YtemihnclhcobnaaGreatDoor
set_option linter.unusedSimpArgs false
open Go.Rv
set_option maxRecDepth 100000
set_option maxHeartbeats 2000000
set_option linter.unusedVariables false
variable {β : Type}
variable (zq0 : Y0 β) (zq1 : Y1 β) (zq2 : Y2 β) (zq3 : Y3 β) (zq6 : Y4 β) (zq7 : Y6 β) (zq9 : Y4 β) (agZ : Y10 β) (ag0 ag1 : Y15 β) (ag4 : Y16 β) (ag5 : Y0 β) (ahI : Y31 β) (ait : Y52 β) (aiv : Y31 β) (aiz : Y61 β) (aiB : Y64 β) (aiF aiG : Y71 β) (ajo : Y80 β) (ajp : Y81 β) (aiH : Y82 β) (ahi : Y0 β) (aiI : Y83 β) (ahE : Y31 β) (aiJ : Y84 β) (aiK : Y23 β) (ahf : Y6 β) (aiL : Y83 β) (aht : Y26 β) (aiM : Y85 β) (ahz : Y28 β) (ahu : Y18 β)
variable (N : Nat)
def XU (N : Nat) : Rv.Spec β := fun args K => match args with
 | [.v (.one (.str a0)), .v (.agg [.int .i64 a1, .int .i64 a2])] => ajo a0 a1 a2 (fun z3 z4 => K (.tup [.one (.str z3), .one (.bool z4)]))
 | _ => none
def S14 : Rv.Spec β := XU (yp N) N
def acp : Env β := ⟨[(20, Bx ag5 N), (22, XY aiv N), (70, RG ahI N), (71, Yf aiz N), (72, Yg aiB N), (73, Yh aiF N), (74, Yi aiG N)], [], [], [], ⟨[], [], [], []⟩⟩
def E14 : Env β := acp (eT N) (qQ N) (Du N) (yl N) (ym N) (yn N) (yo N) N
theorem aac (a0 : ByteArray) (a1 a2 : Int) (K : TV -> O β) : aL lay (acp ag5 ahI aiv aiz aiB aiF aiG N) Tryz.f14 [.v (.one (.str a0)), .v (.agg [.int .i64 a1, .int .i64 a2])] K = Pv ag5 ahI aiv aiz aiB aiF aiG N a0 a1 a2 (fun z3 z4 => K (.tup [.one (.str z3), .one (.bool z4)])) := by kernel_rfl
theorem o14 : ao (β := β) inv Tryz.prog 14 (S14 N) := by
 refine ap au mixed (E := E14 N) (ae (aa (o20 N) (aa (o22 N) (aa (o70 N) (aa (o71 N) (aa (o72 N) (aa (o73 N) (aa (o74 N) ag)))))))) aj av Tryz.func14 (by kernel_rfl) 0 (by kernel_rfl) trivial fun args K r h => ?_
 unfold S14 XU at h
 split at h
 ·exact (aac (eT N) (qQ N) (Du N) (yl N) (ym N) (yn N) (yo N) N _ _ _ _).trans h
 ·cases h
def Yn (N : Nat) : Rv.Spec β := fun args K => match args with
 | [.v (.one (.str a0)), .v (.one (.str a1)), .v (.one (.int .i64 a2)), .v (.one (.str a3))] => ajp a0 a1 a2 a3 (fun z4 z5 => K (.tup [.one (.str z4), .one (.bool z5)]))
 | _ => none
def S80 : Rv.Spec β := Yn (yq N) N
def acG : Env β := ⟨[(11, XS ait N), (14, XU ajo N)], [], [], [], ⟨[], [], [], []⟩⟩
def E80 : Env β := acG (vF N) (yp N) N
theorem aaJ (a0 a1 : ByteArray) (a2 : Int) (a3 : ByteArray) (K : TV -> O β) : aL lay (acG ait ajo N) Tryz.f80 [.v (.one (.str a0)), .v (.one (.str a1)), (Z' a2), .v (.one (.str a3))] K = Pw ait ajo N a0 a1 a2 a3 (fun z4 z5 => K (.tup [.one (.str z4), .one (.bool z5)])) := by kernel_rfl
theorem o80 : ao (β := β) inv Tryz.prog 80 (S80 N) := by
 refine ap au mixed (E := E80 N) (ae (aa (o11 N) (aa (o14 N) ag))) aj av Tryz.func80 (by kernel_rfl) 0 (by kernel_rfl) trivial fun args K r h => ?_
 unfold S80 Yn at h
 split at h
 ·exact (aaJ (vF N) (yp N) N _ _ _ _ _).trans h
 ·cases h
def XW (N : Nat) : Rv.Spec β := fun args K => match args with
 | [.v (.one (.str a0)), .v (.one (.int .i64 a1)), .v (.one (.str a2))] => aiH a0 a1 a2 (fun z3 => K (.v (.one (.bool z3))))
 | _ => none
def S16 : Rv.Spec β := XW (DA N) N
def acr : Env β := ⟨[(80, Yn ajp N)], [], [], [], ⟨[], [], [], []⟩⟩
def E16 : Env β := acr (yq N) N
theorem aae (a0 : ByteArray) (a1 : Int) (a2 : ByteArray) (K : TV -> O β) : aL lay (acr ajp N) Tryz.f16 [.v (.one (.str a0)), (Z' a1), .v (.one (.str a2))] K = Px ajp N a0 a1 a2 (fun z3 => K (.v (.one (.bool z3)))) := by kernel_rfl
theorem o16 : ao (β := β) inv Tryz.prog 16 (S16 N) := by
 refine ap au mixed (E := E16 N) (ae (aa (o80 N) ag)) aj av Tryz.func16 (by kernel_rfl) 0 (by kernel_rfl) trivial fun args K r h => ?_
 unfold S16 XW at h
 split at h
 ·exact (aae (yq N) N _ _ _ _).trans h
 ·cases h
def Mo (N : Nat) : Rv.Spec β := fun args K => match args with
 | [.v (.agg [.int .i64 a0, .int .i64 a1])] => ahi a0 a1 (fun z2 => K (.v (.one (.bool z2))))
 | _ => none
def S37 : Rv.Spec β := Mo (gm N) N
def acu : Env β := ⟨[(99, wc zq7 N), (100, oM zq2 N)], [], [], [], ⟨[], [], [], []⟩⟩
def E37 : Env β := acu (zj2 N) (zj7 N) N
theorem aai (a0 a1 : Int) (K : TV -> O β) : aL lay (acu zq2 zq7 N) Tryz.f37 [.v (.agg [.int .i64 a0, .int .i64 a1])] K = Py zq2 zq7 N a0 a1 (fun z2 => K (.v (.one (.bool z2)))) := by kernel_rfl
theorem o37 : ao (β := β) inv Tryz.prog 37 (S37 N) := by
 refine ap au mixed (E := E37 N) (ae (aa (o99 N) (aa (Er N) ag))) aj av Tryz.func37 (by kernel_rfl) 0 (by kernel_rfl) trivial fun args K r h => ?_
 unfold S37 Mo at h
 split at h
 ·exact (aai (zj2 N) (zj7 N) N _ _ _).trans h
 ·cases h
def RE (N : Nat) : Rv.Spec β := fun args K => match args with
 | [.v (.agg [.int .i64 a0, .int .i64 a1])] => ahE a0 a1 (fun z2 => K (.v (.one (.str z2))))
 | _ => none
def S40 : Rv.Spec β := RE (na N) N
def mf (v0 v1 v2 v3 : Int) (v4 : List Int) : St := ⟨ac :: .v (.one (.ptr 0 0)) :: ac :: .v (.one (.row 1)) :: tn 8 ((Z' v0) :: (Z' v1) :: tn 13 []), [.cells 25 [.int .i64 v2, .int .i64 v3], .row 5 (.ints .u8 v4)]⟩
def nV (y0 : List Int) : St := ⟨tn 3 (.v (.one (.row 0)) :: tn 23 []), [.row 5 (.ints .u8 y0)]⟩
def zI {γ : Type} (f : Int -> Int -> Int -> Int -> List Int -> γ) (s : St) : γ := f (af (ah (vT (nx ac s.tmps 12)))) (af (ah (vT (nx ac s.tmps 13)))) (af (nx .und (ak (nx .dead s.blks 0)) 0)) (af (nx .und (ak (nx .dead s.blks 0)) 1)) (aY (bh (nx .dead s.blks 1)))
theorem MP (s : St) : aP (mf 0 0 0 0 []) s = zI mf s := by kernel_rfl
def FY : ax β := fun s K => cond (aJ (mf 0 0 0 0 []) s) (zI (fun v0 v1 v2 v3 v4 => aiI N v0 v1 v2 v3 v4 (fun y0 => K (.exit 0) (nV y0))) s) (none)
def Xm : ax β := FY (m9 N) N
def XH : Env β := ⟨[(37, Mo ahi N), (100, oM zq2 N), (103, so zq3 N)], [], [(0, FY aiI N)], [], ⟨[], [], [], []⟩⟩
def E40 : Env β := XH (zj2 N) (zj3 N) (gm N) (m9 N) N
theorem KQ (v0 v1 v2 v3 : Int) (v4 : List Int) (rec_ : St -> O β) (K : Exit -> St -> O β) :
  stB lay (XH zq2 zq3 ahi aiI N) Tryz.f40 0 (mf v0 v1 v2 v3 v4) rec_ K = HR zq3 N v0 v1 v2 v3 v4 (fun v0 v1 v2 v3 v4 => rec_ (mf v0 v1 v2 v3 v4)) (fun y0 => K (.exit 0) (nV y0)) := by kernel_rfl
theorem Ok (K : Exit -> St -> O β) : ∀ (F : Nat) (v0 v1 v2 v3 : Int) (v4 : List Int), (lp Tryz.f40 0).rounds lay (E40 N) (ai Tryz.f40) F (mf v0 v1 v2 v3 v4) K = m9 N F v0 v1 v2 v3 v4 (fun y0 => K (.exit 0) (nV y0)) := by
 intro F; induction F with
 | zero => intros; rfl
 | succ F ih => intros; rw [am]; refine (KQ (zj2 N) (zj3 N) (gm N) (m9 N) N _ _ _ _ _ (fun s => (lp Tryz.f40 0).rounds lay (E40 N) (ai Tryz.f40) F s K) K).trans ?_; simp only [ih]; rfl
theorem YL : aS (E40 (β := β) N).loops (lp Tryz.f40 0).id = Xm N := by kernel_rfl
theorem ZE : ay lay (E40 (β := β) N) (ai Tryz.f40) (lp Tryz.f40 0) := rks (YL ..) (rc1 (fun s K hb => ⟨N, by rw [<- ar hb, MP s]; unfold zI; exact Ok N K N _ _ _ _ _⟩) rc0)
theorem aaj (a0 a1 : Int) (K : TV -> O β) : aL lay (XH zq2 zq3 ahi aiI N) Tryz.f40 [.v (.agg [.int .i64 a0, .int .i64 a1])] K = Pz zq2 ahi aiI N a0 a1 (fun z2 => K (.v (.one (.str z2)))) := by kernel_rfl
theorem o40 : ao (β := β) inv Tryz.prog 40 (S40 N) := by
 refine ap au mixed (E := E40 N) (ae (aa (o37 N) (aa (Er N) (aa (NT N) ag)))) aj av Tryz.func40 (by kernel_rfl) 1 (by kernel_rfl) ⟨trivial, ZE N⟩ fun args K r h => ?_
 unfold S40 RE at h
 split at h
 ·exact (aaj (zj2 N) (zj3 N) (gm N) (m9 N) N _ _ _).trans h
 ·cases h
def X8 (N : Nat) : Rv.Spec β := fun args K => match args with
 | [.v (.one (.str a0))] => aiK a0 (fun z1 z2 z3 => K (.tup [.agg [.int .i64 z1, .int .i64 z2], .one (.bool z3)]))
 | _ => none
def S64 : Rv.Spec β := X8 (rz N) N
def mn (v0 : Int) (v1 : ByteArray) (v2 v3 : Int) : St := ⟨ac :: .v (.one (.ptr 0 0)) :: .v (.one (.ptr 1 0)) :: tn 3 ((Z' v0) :: tn 18 []), [.cells 9 [.str v1], .cells 25 [.int .i64 v2, .int .i64 v3]]⟩
def oe (y0 : Bool) (y1 y2 : Int) : St := ⟨ac :: ac :: .v (.one (.ptr 0 0)) :: .v (.one (.bool y0)) :: tn 21 [], [.cells 25 [.int .i64 y1, .int .i64 y2]]⟩
def og (y0 y1 : Int) : St := ⟨ac :: ac :: .v (.one (.ptr 0 0)) :: tn 22 [], [.cells 25 [.int .i64 y0, .int .i64 y1]]⟩
def zP {γ : Type} (f : Int -> ByteArray -> Int -> Int -> γ) (s : St) : γ := f (af (ah (vT (nx ac s.tmps 6)))) (dV (nx .und (ak (nx .dead s.blks 0)) 0)) (af (nx .und (ak (nx .dead s.blks 1)) 0)) (af (nx .und (ak (nx .dead s.blks 1)) 1))
theorem M0 (s : St) : aP (mn 0 ByteArray.empty 0 0) s = zP mn s := by kernel_rfl
def F5 : ax β := fun s K => cond (aJ (mn 0 ByteArray.empty 0 0) s) (zP (fun v0 v1 v2 v3 => aiJ N v0 v1 v2 v3 (fun y0 y1 y2 => K .ret (oe y0 y1 y2)) (fun y0 y1 => K (.exit 0) (og y0 y1))) s) (none)
def Xt : ax β := F5 (gq N) N
def XL : Env β := ⟨[(129, qT zq0 zq1 zq6 agZ ag0 ag1 ag4 N), (130, Gh zq1 N), (40, RE ahE N)], [], [(0, F5 aiJ N)], [], ⟨[], [], [], []⟩⟩
def E64 : Env β := XL (zj0 N) (zj1 N) (zj6 N) (c8 N) (dc N) (de N) (fS N) (na N) (gq N) N
theorem K1 (v0 : Int) (v1 : ByteArray) (v2 v3 : Int) (rec_ : St -> O β) (K : Exit -> St -> O β) :
  stB lay (XL zq0 zq1 zq6 agZ ag0 ag1 ag4 ahE aiJ N) Tryz.f64 0 (mn v0 v1 v2 v3) rec_ K = Dg zq1 ag4 ahE N v0 v1 v2 v3 (fun v0 v1 v2 v3 => rec_ (mn v0 v1 v2 v3)) (fun y0 y1 y2 => K .ret (oe y0 y1 y2)) (fun y0 y1 => K (.exit 0) (og y0 y1)) := by kernel_rfl
theorem Ox (K : Exit -> St -> O β) : ∀ (F : Nat) (v0 : Int) (v1 : ByteArray) (v2 v3 : Int), (lp Tryz.f64 0).rounds lay (E64 N) (ai Tryz.f64) F (mn v0 v1 v2 v3) K = gq N F v0 v1 v2 v3 (fun y0 y1 y2 => K .ret (oe y0 y1 y2)) (fun y0 y1 => K (.exit 0) (og y0 y1)) := by
 intro F; induction F with
 | zero => intros; rfl
 | succ F ih => intros; rw [am]; refine (K1 (zj0 N) (zj1 N) (zj6 N) (c8 N) (dc N) (de N) (fS N) (na N) (gq N) N _ _ _ _ (fun s => (lp Tryz.f64 0).rounds lay (E64 N) (ai Tryz.f64) F s K) K).trans ?_; simp only [ih]; rfl
theorem YV : aS (E64 (β := β) N).loops (lp Tryz.f64 0).id = Xt N := by kernel_rfl
theorem ZO : ay lay (E64 (β := β) N) (ai Tryz.f64) (lp Tryz.f64 0) := rks (YV ..) (rc1 (fun s K hb => ⟨N, by rw [<- ar hb, M0 s]; unfold zP; exact Ox N K N _ _ _ _⟩) rc0)
theorem aat (a0 : ByteArray) (K : TV -> O β) : aL lay (XL zq0 zq1 zq6 agZ ag0 ag1 ag4 ahE aiJ N) Tryz.f64 [.v (.one (.str a0))] K = HS aiJ N a0 (fun z1 z2 z3 => K (.tup [.agg [.int .i64 z1, .int .i64 z2], .one (.bool z3)])) := by kernel_rfl
theorem o64 : ao (β := β) inv Tryz.prog 64 (S64 N) := by
 refine ap au mixed (E := E64 N) (ae (aa (JL N) (aa (adx N) (aa (o40 N) ag)))) aj av Tryz.func64 (by kernel_rfl) 1 (by kernel_rfl) ⟨trivial, ZO N⟩ fun args K r h => ?_
 unfold S64 X8 at h
 split at h
 ·exact (aat (zj0 N) (zj1 N) (zj6 N) (c8 N) (dc N) (de N) (fS N) (na N) (gq N) N _ _).trans h
 ·cases h
def wI (N : Nat) : Rv.Spec β := fun args K => match args with
 | [.v (.one (.int .u8 a0))] => ahf a0 (fun z1 => K (.v (.one (.bool z1))))
 | _ => none
def abU : Rv.Spec β := wI (eE N) N
def Wn (N : Nat) : Env β := ⟨[], [], [], [], ⟨[], [], [], []⟩⟩
def aeZ : Env β := Wn N
theorem UP (a0 : Int) (K : TV -> O β) : aL lay (Wn N) Tryz.f187 [.v (.one (.int .u8 a0))] K = HT N a0 (fun z1 => K (.v (.one (.bool z1)))) := by kernel_rfl
theorem S0 : ao (β := β) inv Tryz.prog 187 (abU N) := by
 refine ap au mixed (E := aeZ N) (ae ag) aj av Tryz.func187 (by kernel_rfl) 0 (by kernel_rfl) trivial fun args K r h => ?_
 unfold abU wI at h
 split at h
 ·exact (UP N _ _).trans h
 ·cases h
def Gn (N : Nat) : Rv.Spec β := fun args K => match args with
 | [.v (.one (.int .i64 a0)), .v (.agg [.int .i64 a1, .int .i64 a2])] => aht a0 a1 a2 (fun z3 => K (.v (.one (.str z3))))
 | _ => none
def abV : Rv.Spec β := Gn (jO N) N
def il (v0 v1 v2 v3 : Int) (v4 : List Int) : St := ⟨tn 3 (.v (.one (.ptr 0 0)) :: ac :: .v (.one (.row 1)) :: tn 5 ((Z' v0) :: (Z' v1) :: tn 29 [])), [.cells 93 [.int .i64 v2, .int .i64 v3], .row 5 (.ints .u8 v4)]⟩
def lx (y0 : List Int) : St := ⟨tn 5 (.v (.one (.row 0)) :: tn 36 []), [.row 5 (.ints .u8 y0)]⟩
def uy {γ : Type} (f : Int -> Int -> Int -> Int -> List Int -> γ) (s : St) : γ := f (af (ah (vT (nx ac s.tmps 11)))) (af (ah (vT (nx ac s.tmps 12)))) (af (nx .und (ak (nx .dead s.blks 0)) 0)) (af (nx .und (ak (nx .dead s.blks 0)) 1)) (aY (bh (nx .dead s.blks 1)))
theorem Je (s : St) : aP (il 0 0 0 0 []) s = uy il s := by kernel_rfl
def Bf : ax β := fun s K => cond (aJ (il 0 0 0 0 []) s) (uy (fun v0 v1 v2 v3 v4 => aiL N v0 v1 v2 v3 v4 (fun y0 => K (.exit 0) (lx y0))) s) (none)
def Rl : ax β := Bf (nb N) N
def LM : Env β := ⟨[(192, Gr zq9 N)], [], [(0, Bf aiL N)], [], ⟨[], [], [], []⟩⟩
def QT : Env β := LM (zj9 N) (nb N) N
theorem Fq (v0 v1 v2 v3 : Int) (v4 : List Int) (rec_ : St -> O β) (K : Exit -> St -> O β) :
  stB lay (LM zq9 aiL N) Tryz.f188 0 (il v0 v1 v2 v3 v4) rec_ K = HU N v0 v1 v2 v3 v4 (fun v0 v1 v2 v3 v4 => rec_ (il v0 v1 v2 v3 v4)) (fun y0 => K (.exit 0) (lx y0)) := by kernel_rfl
theorem Kk (K : Exit -> St -> O β) : ∀ (F : Nat) (v0 v1 v2 v3 : Int) (v4 : List Int), (lp Tryz.f188 0).rounds lay (QT N) (ai Tryz.f188) F (il v0 v1 v2 v3 v4) K = nb N F v0 v1 v2 v3 v4 (fun y0 => K (.exit 0) (lx y0)) := by
 intro F; induction F with
 | zero => intros; rfl
 | succ F ih => intros; rw [am]; refine (Fq (zj9 N) (nb N) N _ _ _ _ _ (fun s => (lp Tryz.f188 0).rounds lay (QT N) (ai Tryz.f188) F s K) K).trans ?_; simp only [ih]; rfl
theorem SA : aS (QT (β := β) N).loops (lp Tryz.f188 0).id = Rl N := by kernel_rfl
theorem TH : ay lay (QT (β := β) N) (ai Tryz.f188) (lp Tryz.f188 0) := rks (SA ..) (rc1 (fun s K hb => ⟨N, by rw [<- ar hb, Je s]; unfold uy; exact Kk N K N _ _ _ _ _⟩) rc0)
theorem UQ (a0 a1 a2 : Int) (K : TV -> O β) : aL lay (LM zq9 aiL N) Tryz.f188 [(Z' a0), .v (.agg [.int .i64 a1, .int .i64 a2])] K = PB zq9 aiL N a0 a1 a2 (fun z3 => K (.v (.one (.str z3)))) := by kernel_rfl
theorem adF : ao (β := β) inv Tryz.prog 188 (abV N) := by
 refine ap au mixed (E := QT N) (ae (aa (adI N) ag)) aj av Tryz.func188 (by kernel_rfl) 1 (by kernel_rfl) ⟨trivial, TH N⟩ fun args K r h => ?_
 unfold abV Gn at h
 split at h
 ·exact (UQ (zj9 N) (nb N) N _ _ _ _).trans h
 ·cases h
def Gi (N : Nat) : Rv.Spec β := fun args K => match args with
 | [.v (.one (.int .i64 a0)), .v (.one (.str a1))] => ahz a0 a1 (fun z2 z3 z4 => K (.tup [.agg [.int .i64 z2, .int .i64 z3], .one (.bool z4)]))
 | _ => none
def abE : Rv.Spec β := Gi (jP N) N
def hP (v0 : Int) (v1 : ByteArray) (v2 v3 v4 v5 v6 v7 v8 : Int) : St := ⟨(Z' v0) :: .v (.one (.str v1)) :: ac :: ac :: .v (.one (.ptr 0 0)) :: ac :: .v (.one (.ptr 1 0)) :: (Z' v2) :: tn 4 ((Z' v3) :: (Z' v4) :: tn 43 []), [.cells 93 [.int .i64 v5, .int .i64 v6], .cells 93 [.int .i64 v7, .int .i64 v8]]⟩
def kK (y0 : Int) (y1 : ByteArray) (y2 y3 y4 y5 : Int) : St := ⟨(Z' y0) :: .v (.one (.str y1)) :: ac :: ac :: .v (.one (.ptr 0 0)) :: ac :: .v (.one (.ptr 1 0)) :: tn 50 [], [.cells 93 [.int .i64 y2, .int .i64 y3], .cells 93 [.int .i64 y4, .int .i64 y5]]⟩
def un {γ : Type} (f : Int -> ByteArray -> Int -> Int -> Int -> Int -> Int -> Int -> Int -> γ) (s : St) : γ := f (af (ah (vT (nx ac s.tmps 0)))) (dV (ah (vT (nx ac s.tmps 1)))) (af (ah (vT (nx ac s.tmps 7)))) (af (ah (vT (nx ac s.tmps 12)))) (af (ah (vT (nx ac s.tmps 13)))) (af (nx .und (ak (nx .dead s.blks 0)) 0)) (af (nx .und (ak (nx .dead s.blks 0)) 1)) (af (nx .und (ak (nx .dead s.blks 1)) 0)) (af (nx .und (ak (nx .dead s.blks 1)) 1))
theorem IX (s : St) : aP (hP 0 ByteArray.empty 0 0 0 0 0 0 0) s = un hP s := by kernel_rfl
def A5 : ax β := fun s K => cond (aJ (hP 0 ByteArray.empty 0 0 0 0 0 0 0) s) (un (fun v0 v1 v2 v3 v4 v5 v6 v7 v8 => aiM N v0 v1 v2 v3 v4 v5 v6 v7 v8 (fun y0 y1 y2 y3 y4 y5 => K (.exit 0) (kK y0 y1 y2 y3 y4 y5))) s) (none)
def Rb : ax β := A5 (nc N) N
def LF : Env β := ⟨[(187, wI ahf N), (188, Gn aht N)], [], [(0, A5 aiM N)], [], ⟨[], [], [], []⟩⟩
def QM : Env β := LF (eE N) (jO N) (nc N) N
theorem E8 (v0 : Int) (v1 : ByteArray) (v2 v3 v4 v5 v6 v7 v8 : Int) (rec_ : St -> O β) (K : Exit -> St -> O β) :
  stB lay (LF ahf aht aiM N) Tryz.f132 0 (hP v0 v1 v2 v3 v4 v5 v6 v7 v8) rec_ K = HV ahf N v0 v1 v2 v3 v4 v5 v6 v7 v8 (fun v0 v1 v2 v3 v4 v5 v6 v7 v8 => rec_ (hP v0 v1 v2 v3 v4 v5 v6 v7 v8)) (fun y0 y1 y2 y3 y4 y5 => K (.exit 0) (kK y0 y1 y2 y3 y4 y5)) := by kernel_rfl
theorem J3 (K : Exit -> St -> O β) : ∀ (F : Nat) (v0 : Int) (v1 : ByteArray) (v2 v3 v4 v5 v6 v7 v8 : Int), (lp Tryz.f132 0).rounds lay (QM N) (ai Tryz.f132) F (hP v0 v1 v2 v3 v4 v5 v6 v7 v8) K = nc N F v0 v1 v2 v3 v4 v5 v6 v7 v8 (fun y0 y1 y2 y3 y4 y5 => K (.exit 0) (kK y0 y1 y2 y3 y4 y5)) := by
 intro F; induction F with
 | zero => intros; rfl
 | succ F ih => intros; rw [am]; refine (E8 (eE N) (jO N) (nc N) N _ _ _ _ _ _ _ _ _ (fun s => (lp Tryz.f132 0).rounds lay (QM N) (ai Tryz.f132) F s K) K).trans ?_; simp only [ih]; rfl
theorem Si : aS (QM (β := β) N).loops (lp Tryz.f132 0).id = Rb N := by kernel_rfl
theorem To : ay lay (QM (β := β) N) (ai Tryz.f132) (lp Tryz.f132 0) := rks (Si ..) (rc1 (fun s K hb => ⟨N, by rw [<- ar hb, IX s]; unfold un; exact J3 N K N _ _ _ _ _ _ _ _ _⟩) rc0)
theorem Ur (a0 : Int) (a1 : ByteArray) (K : TV -> O β) : aL lay (LF ahf aht aiM N) Tryz.f132 [(Z' a0), .v (.one (.str a1))] K = PC aht aiM N a0 a1 (fun z2 z3 z4 => K (.tup [.agg [.int .i64 z2, .int .i64 z3], .one (.bool z4)])) := by kernel_rfl
theorem adz : ao (β := β) inv Tryz.prog 132 (abE N) := by
 refine ap au mixed (E := QM N) (ae (aa (S0 N) (aa (adF N) ag))) aj av Tryz.func132 (by kernel_rfl) 1 (by kernel_rfl) ⟨trivial, To N⟩ fun args K r h => ?_
 unfold abE Gi at h
 split at h
 ·exact (Ur (eE N) (jO N) (nc N) N _ _ _).trans h
 ·cases h
def Gj (N : Nat) : Rv.Spec β := fun args K => match args with
 | [.v (.agg [.int .i64 a0, .int .i64 a1])] => ahu a0 a1 (fun z2 z3 => K (.v (.agg [.int .i64 z2, .int .i64 z3])))
 | _ => none
def abF : Rv.Spec β := Gj (gr N) N
def V8 : Env β := ⟨[(129, qT zq0 zq1 zq6 agZ ag0 ag1 ag4 N), (189, Gp zq6 N)], [], [], [], ⟨[], [], [], []⟩⟩
def aeL : Env β := V8 (zj0 N) (zj1 N) (zj6 N) (c8 N) (dc N) (de N) (fS N) N
theorem Us (a0 a1 : Int) (K : TV -> O β) : aL lay (V8 zq0 zq1 zq6 agZ ag0 ag1 ag4 N) Tryz.f133 [.v (.agg [.int .i64 a0, .int .i64 a1])] K = PD zq6 ag4 N a0 a1 (fun z2 z3 => K (.v (.agg [.int .i64 z2, .int .i64 z3]))) := by kernel_rfl
theorem adA : ao (β := β) inv Tryz.prog 133 (abF N) := by
 refine ap au mixed (E := aeL N) (ae (aa (JL N) (aa (adG N) ag))) aj av Tryz.func133 (by kernel_rfl) 0 (by kernel_rfl) trivial fun args K r h => ?_
 unfold abF Gj at h
 split at h
 ·exact (Us (zj0 N) (zj1 N) (zj6 N) (c8 N) (dc N) (de N) (fS N) N _ _ _).trans h
 ·cases h
end Go.Proofs.YtemihnclhcobnaaGreatDoor
