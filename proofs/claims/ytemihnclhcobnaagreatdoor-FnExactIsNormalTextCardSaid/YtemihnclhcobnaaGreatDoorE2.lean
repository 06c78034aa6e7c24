/- The functions that the claims cY bz as their texts do. -/
import Derived.Test.YtemihnclhcobnaaGreatDoorE1
namespace Go.Proofs.YtemihnclhcobnaaGreatDoor
set_option linter.unusedSimpArgs false
open Go.Rv
set_option maxRecDepth 100000
set_option maxHeartbeats 2000000
set_option linter.unusedVariables false
variable {β : Type}
variable (agV ahd : Y4 β) (ahe : Y26 β) (ahr : Y28 β) (ahC : Y2 β) (ag5 : Y0 β) (ajc : Y32 β) (ahI : Y31 β) (ajd : Y33 β) (aje : Y28 β) (ajf : Y34 β) (ahs : Y10 β) (ajg : Y36 β) (ajh : Y35 β) (aji : Y37 β) (ahh : Y3 β)
variable (N : Nat)
def RG (N : Nat) : Rv.Spec β := fun args K => match args with
 | [.v (.agg [.int .i64 a0, .int .i64 a1])] => ahI a0 a1 (fun z2 => K (.v (.one (.str z2))))
 | _ => none
def S70 : Rv.Spec β := RG (qQ N) N
def mr (v0 : ByteArray) (v1 v2 v3 v4 : Int) : St := ⟨ac :: .v (.one (.ptr 0 0)) :: ac :: .v (.one (.str v0)) :: (Z' v1) :: (Z' v2) :: tn 32 [], [.cells 25 [.int .i64 v3, .int .i64 v4]]⟩
def oq (y0 : ByteArray) : St := ⟨tn 3 (.v (.one (.str y0)) :: tn 34 []), []⟩
def zS {γ : Type} (f : ByteArray -> Int -> Int -> Int -> Int -> γ) (s : St) : γ := f (dV (ah (vT (nx ac s.tmps 3)))) (af (ah (vT (nx ac s.tmps 4)))) (af (ah (vT (nx ac s.tmps 5)))) (af (nx .und (ak (nx .dead s.blks 0)) 0)) (af (nx .und (ak (nx .dead s.blks 0)) 1))
theorem M3 (s : St) : aP (mr ByteArray.empty 0 0 0 0) s = zS mr s := by kernel_rfl
def F8 : ax β := fun s K => cond (aJ (mr ByteArray.empty 0 0 0 0) s) (zS (fun v0 v1 v2 v3 v4 => ajc N v0 v1 v2 v3 v4 (fun y0 => K (.exit 0) (oq y0))) s) (none)
def Xw : ax β := F8 (wy N) N
def XO : Env β := ⟨[(20, Bx ag5 N), (121, Gf ahC N), (140, Bt ahe N)], [], [(0, F8 ajc N)], [], ⟨[], [], [], []⟩⟩
def E70 : Env β := XO (ja N) (pU N) (eT N) (wy N) N
theorem K4 (v0 : ByteArray) (v1 v2 v3 v4 : Int) (rec_ : St -> O β) (K : Exit -> St -> O β) :
  stB lay (XO ahe ahC ag5 ajc N) Tryz.f70 0 (mr v0 v1 v2 v3 v4) rec_ K = VL ahe N v0 v1 v2 v3 v4 (fun v0 v1 v2 v3 v4 => rec_ (mr v0 v1 v2 v3 v4)) (fun y0 => K (.exit 0) (oq y0)) := by kernel_rfl
theorem OA (K : Exit -> St -> O β) : ∀ (F : Nat) (v0 : ByteArray) (v1 v2 v3 v4 : Int), (lp Tryz.f70 0).rounds lay (E70 N) (ai Tryz.f70) F (mr v0 v1 v2 v3 v4) K = wy N F v0 v1 v2 v3 v4 (fun y0 => K (.exit 0) (oq y0)) := by
 intro F; induction F with
 | zero => intros; rfl
 | succ F ih => intros; rw [am]; refine (K4 (ja N) (pU N) (eT N) (wy N) N _ _ _ _ _ (fun s => (lp Tryz.f70 0).rounds lay (E70 N) (ai Tryz.f70) F s K) K).trans ?_; simp only [ih]; rfl
theorem YY : aS (E70 (β := β) N).loops (lp Tryz.f70 0).id = Xw N := by kernel_rfl
theorem ZR : ay lay (E70 (β := β) N) (ai Tryz.f70) (lp Tryz.f70 0) := rks (YY ..) (rc1 (fun s K hb => ⟨N, by rw [<- ar hb, M3 s]; unfold zS; exact OA N K N _ _ _ _ _⟩) rc0)
theorem aaz (a0 a1 : Int) (K : TV -> O β) : aL lay (XO ahe ahC ag5 ajc N) Tryz.f70 [.v (.agg [.int .i64 a0, .int .i64 a1])] K = aaZ ahC ag5 ajc N a0 a1 (fun z2 => K (.v (.one (.str z2)))) := by kernel_rfl
theorem o70 : ao (β := β) inv Tryz.prog 70 (S70 N) := by
 refine ap au mixed (E := E70 N) (ae (aa (o20 N) (aa (adv N) (aa (Zn N) ag)))) aj av Tryz.func70 (by kernel_rfl) 1 (by kernel_rfl) ⟨trivial, ZR N⟩ fun args K r h => ?_
 unfold S70 RG at h
 split at h
 ·exact (aaz (ja N) (pU N) (eT N) (wy N) N _ _ _).trans h
 ·cases h
def X3 (N : Nat) : Rv.Spec β := fun args K => match args with
 | [.v (.one (.int .i64 a0)), .v (.one (.str a1))] => aje a0 a1 (fun z2 z3 z4 => K (.tup [.agg [.int .i64 z2, .int .i64 z3], .one (.bool z4)]))
 | _ => none
def S59 : Rv.Spec β := X3 (wz N) N
def mh (v0 : Int) (v1 : ByteArray) (v2 : Int) (v3 : ByteArray) (v4 v5 v6 : Int) : St := ⟨(Z' v0) :: .v (.one (.str v1)) :: ac :: ac :: .v (.one (.ptr 0 0)) :: ac :: (Z' v2) :: .v (.one (.str v3)) :: (Z' v4) :: tn 72 [], [.cells 25 [.int .i64 v5, .int .i64 v6]]⟩
def n0 (y0 : Bool) (y1 y2 : Int) : St := ⟨tn 4 (.v (.one (.ptr 0 0)) :: .v (.one (.bool y0)) :: tn 75 []), [.cells 25 [.int .i64 y1, .int .i64 y2]]⟩
def n3 (y0 : Int) (y1 : ByteArray) (y2 y3 y4 : Int) : St := ⟨(Z' y0) :: .v (.one (.str y1)) :: ac :: ac :: .v (.one (.ptr 0 0)) :: ac :: (Z' y2) :: tn 74 [], [.cells 25 [.int .i64 y3, .int .i64 y4]]⟩
def zK {γ : Type} (f : Int -> ByteArray -> Int -> ByteArray -> Int -> Int -> Int -> γ) (s : St) : γ := f (af (ah (vT (nx ac s.tmps 0)))) (dV (ah (vT (nx ac s.tmps 1)))) (af (ah (vT (nx ac s.tmps 6)))) (dV (ah (vT (nx ac s.tmps 7)))) (af (ah (vT (nx ac s.tmps 8)))) (af (nx .und (ak (nx .dead s.blks 0)) 0)) (af (nx .und (ak (nx .dead s.blks 0)) 1))
theorem MT (s : St) : aP (mh 0 ByteArray.empty 0 ByteArray.empty 0 0 0) s = zK mh s := by kernel_rfl
def F0 : ax β := fun s K => cond (aJ (mh 0 ByteArray.empty 0 ByteArray.empty 0 0 0) s) (zK (fun v0 v1 v2 v3 v4 v5 v6 => ajd N v0 v1 v2 v3 v4 v5 v6 (fun y0 y1 y2 => K .ret (n0 y0 y1 y2)) (fun y0 y1 y2 y3 y4 => K (.exit 0) (n3 y0 y1 y2 y3 y4))) s) (none)
def Xo : ax β := F0 (jV N) N
def XI : Env β := ⟨[(57, pZ agV N), (120, Ge ahr N), (121, Gf ahC N), (70, RG ahI N)], [], [(0, F0 ajd N)], [], ⟨[], [], [], []⟩⟩
def E59 : Env β := XI (bK N) (oH N) (pU N) (qQ N) (jV N) N
theorem KT (v0 : Int) (v1 : ByteArray) (v2 : Int) (v3 : ByteArray) (v4 v5 v6 : Int) (rec_ : St -> O β) (K : Exit -> St -> O β) :
  stB lay (XI agV ahr ahC ahI ajd N) Tryz.f59 0 (mh v0 v1 v2 v3 v4 v5 v6) rec_ K = Lg ahr N v0 v1 v2 v3 v4 v5 v6 (fun v0 v1 v2 v3 v4 v5 v6 => rec_ (mh v0 v1 v2 v3 v4 v5 v6)) (fun y0 y1 y2 => K .ret (n0 y0 y1 y2)) (fun y0 y1 y2 y3 y4 => K (.exit 0) (n3 y0 y1 y2 y3 y4)) := by kernel_rfl
theorem On (K : Exit -> St -> O β) : ∀ (F : Nat) (v0 : Int) (v1 : ByteArray) (v2 : Int) (v3 : ByteArray) (v4 v5 v6 : Int), (lp Tryz.f59 0).rounds lay (E59 N) (ai Tryz.f59) F (mh v0 v1 v2 v3 v4 v5 v6) K = jV N F v0 v1 v2 v3 v4 v5 v6 (fun y0 y1 y2 => K .ret (n0 y0 y1 y2)) (fun y0 y1 y2 y3 y4 => K (.exit 0) (n3 y0 y1 y2 y3 y4)) := by
 intro F; induction F with
 | zero => intros; rfl
 | succ F ih => intros; rw [am]; refine (KT (bK N) (oH N) (pU N) (qQ N) (jV N) N _ _ _ _ _ _ _ (fun s => (lp Tryz.f59 0).rounds lay (E59 N) (ai Tryz.f59) F s K) K).trans ?_; simp only [ih]; rfl
theorem YO : aS (E59 (β := β) N).loops (lp Tryz.f59 0).id = Xo N := by kernel_rfl
theorem ZH : ay lay (E59 (β := β) N) (ai Tryz.f59) (lp Tryz.f59 0) := rks (YO ..) (rc1 (fun s K hb => ⟨N, by rw [<- ar hb, MT s]; unfold zK; exact On N K N _ _ _ _ _ _ _⟩) rc0)
theorem aao (a0 : Int) (a1 : ByteArray) (K : TV -> O β) : aL lay (XI agV ahr ahC ahI ajd N) Tryz.f59 [(Z' a0), .v (.one (.str a1))] K = P5 agV ahC ahI ajd N a0 a1 (fun z2 z3 z4 => K (.tup [.agg [.int .i64 z2, .int .i64 z3], .one (.bool z4)])) := by kernel_rfl
theorem o59 : ao (β := β) inv Tryz.prog 59 (S59 N) := by
 refine ap au mixed (E := E59 N) (ae (aa (o57 N) (aa (adu N) (aa (adv N) (aa (o70 N) ag))))) aj av Tryz.func59 (by kernel_rfl) 1 (by kernel_rfl) ⟨trivial, ZH N⟩ fun args K r h => ?_
 unfold S59 X3 at h
 split at h
 ·exact (aao (bK N) (oH N) (pU N) (qQ N) (jV N) N _ _ _).trans h
 ·cases h
def Gg (N : Nat) : Rv.Spec β := fun args K => match args with
 | [.v (.one (.int .i64 a0)), .v (.one (.sl 93 (.pairs a1)))] => ahs a0 a1 (fun z2 => K (.v (.one (.bool z2))))
 | _ => none
def abw : Rv.Spec β := Gg (oI N) N
def gX (v0 : Int) (v1 : List (Int × Int)) (v2 : Int) : St := ⟨(Z' v0) :: .v (.one (.sl 93 (.pairs v1))) :: tn 3 ((Z' v2) :: tn 20 []), []⟩
def kA (y0 : Bool) : St := ⟨tn 4 (.v (.one (.bool y0)) :: tn 21 []), []⟩
def kB (y0 : Int) (y1 : List (Int × Int)) : St := ⟨(Z' y0) :: .v (.one (.sl 93 (.pairs y1))) :: tn 24 [], []⟩
def ue {γ : Type} (f : Int -> (List (Int × Int)) -> Int -> γ) (s : St) : γ := f (af (ah (vT (nx ac s.tmps 0)))) (bc (bF (ah (vT (nx ac s.tmps 1))))) (af (ah (vT (nx ac s.tmps 5))))
theorem IO (s : St) : aP (gX 0 [] 0) s = ue gX s := by kernel_rfl
def AZ : ax β := fun s K => cond (aJ (gX 0 [] 0) s) (ue (fun v0 v1 v2 => ajf N v0 v1 v2 (fun y0 => K .ret (kA y0)) (fun y0 y1 => K (.exit 0) (kB y0 y1))) s) (none)
def Q7 : ax β := AZ (wA N) N
def LC : Env β := ⟨[(123, Br ahd N), (57, pZ agV N)], [], [(0, AZ ajf N)], [], ⟨[], [], [], []⟩⟩
def QJ : Env β := LC (bK N) (jK N) (wA N) N
theorem EY (v0 : Int) (v1 : List (Int × Int)) (v2 : Int) (rec_ : St -> O β) (K : Exit -> St -> O β) :
  stB lay (LC agV ahd ajf N) Tryz.f122 0 (gX v0 v1 v2) rec_ K = VM ahd N v0 v1 v2 (fun v0 v1 v2 => rec_ (gX v0 v1 v2)) (fun y0 => K .ret (kA y0)) (fun y0 y1 => K (.exit 0) (kB y0 y1)) := by kernel_rfl
theorem JU (K : Exit -> St -> O β) : ∀ (F : Nat) (v0 : Int) (v1 : List (Int × Int)) (v2 : Int), (lp Tryz.f122 0).rounds lay (QJ N) (ai Tryz.f122) F (gX v0 v1 v2) K = wA N F v0 v1 v2 (fun y0 => K .ret (kA y0)) (fun y0 y1 => K (.exit 0) (kB y0 y1)) := by
 intro F; induction F with
 | zero => intros; rfl
 | succ F ih => intros; rw [am]; refine (EY (bK N) (jK N) (wA N) N _ _ _ (fun s => (lp Tryz.f122 0).rounds lay (QJ N) (ai Tryz.f122) F s K) K).trans ?_; simp only [ih]; rfl
theorem Se : aS (QJ (β := β) N).loops (lp Tryz.f122 0).id = Q7 N := by kernel_rfl
theorem Tk : ay lay (QJ (β := β) N) (ai Tryz.f122) (lp Tryz.f122 0) := rks (Se ..) (rc1 (fun s K hb => ⟨N, by rw [<- ar hb, IO s]; unfold ue; exact JU N K N _ _ _⟩) rc0)
theorem Ud (a0 : Int) (a1 : List (Int × Int)) (K : TV -> O β) : aL lay (LC agV ahd ajf N) Tryz.f122 [(Z' a0), .v (.one (.sl 93 (.pairs a1)))] K = aa0 agV ajf N a0 a1 (fun z2 => K (.v (.one (.bool z2)))) := by kernel_rfl
theorem adw : ao (β := β) inv Tryz.prog 122 (abw N) := by
 refine ap au mixed (E := QJ N) (ae (aa (Zl N) (aa (o57 N) ag))) aj av Tryz.func122 (by kernel_rfl) 1 (by kernel_rfl) ⟨trivial, Tk N⟩ fun args K r h => ?_
 unfold abw Gg at h
 split at h
 ·exact (Ud (bK N) (jK N) (wA N) N _ _ _).trans h
 ·cases h
def X4 (N : Nat) : Rv.Spec β := fun args K => match args with
 | [.v (.one (.int .i64 a0)), .v (.one (.str a1))] => ajh a0 a1 (fun z2 z3 => K (.tup [.one (.sl 93 (.pairs z2)), .one (.bool z3)]))
 | _ => none
def S60 : Rv.Spec β := X4 (vQ N) N
def mi (v0 : Int) (v1 v2 : ByteArray) (v3 : Int) (v4 : List (Int × Int)) : St := ⟨(Z' v0) :: .v (.one (.str v1)) :: tn 4 (.v (.one (.row 0)) :: .v (.one (.str v2)) :: (Z' v3) :: tn 60 []), [.row 93 (.pairs v4)]⟩
def n4 (y0 : Bool) (y1 : List (Int × Int)) : St := ⟨tn 4 (.v (.one (.row 0)) :: .v (.one (.bool y0)) :: tn 63 []), [.row 93 (.pairs y1)]⟩
def n5 (y0 : Int) (y1 : ByteArray) (y2 : List (Int × Int)) : St := ⟨(Z' y0) :: .v (.one (.str y1)) :: tn 4 (.v (.one (.row 0)) :: tn 62 []), [.row 93 (.pairs y2)]⟩
def zL {γ : Type} (f : Int -> ByteArray -> ByteArray -> Int -> (List (Int × Int)) -> γ) (s : St) : γ := f (af (ah (vT (nx ac s.tmps 0)))) (dV (ah (vT (nx ac s.tmps 1)))) (dV (ah (vT (nx ac s.tmps 7)))) (af (ah (vT (nx ac s.tmps 8)))) (bc (bh (nx .dead s.blks 0)))
theorem MU (s : St) : aP (mi 0 ByteArray.empty ByteArray.empty 0 []) s = zL mi s := by kernel_rfl
def F1 : ax β := fun s K => cond (aJ (mi 0 ByteArray.empty ByteArray.empty 0 []) s) (zL (fun v0 v1 v2 v3 v4 => ajg N v0 v1 v2 v3 v4 (fun y0 y1 => K .ret (n4 y0 y1)) (fun y0 y1 y2 => K (.exit 0) (n5 y0 y1 y2))) s) (none)
def Xp : ax β := F1 (pV N) N
def XJ : Env β := ⟨[(57, pZ agV N), (120, Ge ahr N), (122, Gg ahs N)], [], [(0, F1 ajg N)], [], ⟨[], [], [], []⟩⟩
def E60 : Env β := XJ (bK N) (oH N) (oI N) (pV N) N
theorem KU (v0 : Int) (v1 v2 : ByteArray) (v3 : Int) (v4 : List (Int × Int)) (rec_ : St -> O β) (K : Exit -> St -> O β) :
  stB lay (XJ agV ahr ahs ajg N) Tryz.f60 0 (mi v0 v1 v2 v3 v4) rec_ K = Lh ahr N v0 v1 v2 v3 v4 (fun v0 v1 v2 v3 v4 => rec_ (mi v0 v1 v2 v3 v4)) (fun y0 y1 => K .ret (n4 y0 y1)) (fun y0 y1 y2 => K (.exit 0) (n5 y0 y1 y2)) := by kernel_rfl
theorem Oo (K : Exit -> St -> O β) : ∀ (F : Nat) (v0 : Int) (v1 v2 : ByteArray) (v3 : Int) (v4 : List (Int × Int)), (lp Tryz.f60 0).rounds lay (E60 N) (ai Tryz.f60) F (mi v0 v1 v2 v3 v4) K = pV N F v0 v1 v2 v3 v4 (fun y0 y1 => K .ret (n4 y0 y1)) (fun y0 y1 y2 => K (.exit 0) (n5 y0 y1 y2)) := by
 intro F; induction F with
 | zero => intros; rfl
 | succ F ih => intros; rw [am]; refine (KU (bK N) (oH N) (oI N) (pV N) N _ _ _ _ _ (fun s => (lp Tryz.f60 0).rounds lay (E60 N) (ai Tryz.f60) F s K) K).trans ?_; simp only [ih]; rfl
theorem YP : aS (E60 (β := β) N).loops (lp Tryz.f60 0).id = Xp N := by kernel_rfl
theorem ZI : ay lay (E60 (β := β) N) (ai Tryz.f60) (lp Tryz.f60 0) := rks (YP ..) (rc1 (fun s K hb => ⟨N, by rw [<- ar hb, MU s]; unfold zL; exact Oo N K N _ _ _ _ _⟩) rc0)
theorem aap (a0 : Int) (a1 : ByteArray) (K : TV -> O β) : aL lay (XJ agV ahr ahs ajg N) Tryz.f60 [(Z' a0), .v (.one (.str a1))] K = P6 agV ahs ajg N a0 a1 (fun z2 z3 => K (.tup [.one (.sl 93 (.pairs z2)), .one (.bool z3)])) := by kernel_rfl
theorem o60 : ao (β := β) inv Tryz.prog 60 (S60 N) := by
 refine ap au mixed (E := E60 N) (ae (aa (o57 N) (aa (adu N) (aa (adw N) ag)))) aj av Tryz.func60 (by kernel_rfl) 1 (by kernel_rfl) ⟨trivial, ZI N⟩ fun args K r h => ?_
 unfold S60 X4 at h
 split at h
 ·exact (aap (bK N) (oH N) (oI N) (pV N) N _ _ _).trans h
 ·cases h
def Bs (N : Nat) : Rv.Spec β := fun args K => match args with
 | [.v (.one (.int .i64 a0)), .v (.agg [.int .i64 a1, .int .i64 a2])] => ahh a0 a1 a2 (fun z3 => K (.v (.one (.int .i64 z3))))
 | _ => none
def aby : Rv.Spec β := Bs (oJ N) N
def gY (v0 v1 v2 v3 v4 : Int) : St := ⟨(Z' v0) :: ac :: ac :: .v (.one (.ptr 0 0)) :: ac :: (Z' v1) :: (Z' v2) :: tn 18 [], [.cells 93 [.int .i64 v3, .int .i64 v4]]⟩
def kC (y0 : Int) : St := ⟨tn 5 ((Z' y0) :: tn 19 []), []⟩
def uf {γ : Type} (f : Int -> Int -> Int -> Int -> Int -> γ) (s : St) : γ := f (af (ah (vT (nx ac s.tmps 0)))) (af (ah (vT (nx ac s.tmps 5)))) (af (ah (vT (nx ac s.tmps 6)))) (af (nx .und (ak (nx .dead s.blks 0)) 0)) (af (nx .und (ak (nx .dead s.blks 0)) 1))
theorem IP (s : St) : aP (gY 0 0 0 0 0) s = uf gY s := by kernel_rfl
def A0 : ax β := fun s K => cond (aJ (gY 0 0 0 0 0) s) (uf (fun v0 v1 v2 v3 v4 => aji N v0 v1 v2 v3 v4 (fun y0 => K (.exit 0) (kC y0))) s) (none)
def Q8 : ax β := A0 (wB N) N
def LD : Env β := ⟨[], [], [(0, A0 aji N)], [], ⟨[], [], [], []⟩⟩
def QK : Env β := LD (wB N) N
theorem EZ (v0 v1 v2 v3 v4 : Int) (rec_ : St -> O β) (K : Exit -> St -> O β) :
  stB lay (LD aji N) Tryz.f124 0 (gY v0 v1 v2 v3 v4) rec_ K = VN N v0 v1 v2 v3 v4 (fun v0 v1 v2 v3 v4 => rec_ (gY v0 v1 v2 v3 v4)) (fun y0 => K (.exit 0) (kC y0)) := by kernel_rfl
theorem JV (K : Exit -> St -> O β) : ∀ (F : Nat) (v0 v1 v2 v3 v4 : Int), (lp Tryz.f124 0).rounds lay (QK N) (ai Tryz.f124) F (gY v0 v1 v2 v3 v4) K = wB N F v0 v1 v2 v3 v4 (fun y0 => K (.exit 0) (kC y0)) := by
 intro F; induction F with
 | zero => intros; rfl
 | succ F ih => intros; rw [am]; refine (EZ (wB N) N _ _ _ _ _ (fun s => (lp Tryz.f124 0).rounds lay (QK N) (ai Tryz.f124) F s K) K).trans ?_; simp only [ih]; rfl
theorem Sf : aS (QK (β := β) N).loops (lp Tryz.f124 0).id = Q8 N := by kernel_rfl
theorem Tl : ay lay (QK (β := β) N) (ai Tryz.f124) (lp Tryz.f124 0) := rks (Sf ..) (rc1 (fun s K hb => ⟨N, by rw [<- ar hb, IP s]; unfold uf; exact JV N K N _ _ _ _ _⟩) rc0)
theorem Uf (a0 a1 a2 : Int) (K : TV -> O β) : aL lay (LD aji N) Tryz.f124 [(Z' a0), .v (.agg [.int .i64 a1, .int .i64 a2])] K = aa1 aji N a0 a1 a2 (fun z3 => K ((Z' z3))) := by kernel_rfl
theorem Zm : ao (β := β) inv Tryz.prog 124 (aby N) := by
 refine ap au mixed (E := QK N) (ae ag) aj av Tryz.func124 (by kernel_rfl) 1 (by kernel_rfl) ⟨trivial, Tl N⟩ fun args K r h => ?_
 unfold aby Bs at h
 split at h
 ·exact (Uf (wB N) N _ _ _ _).trans h
 ·cases h
end Go.Proofs.YtemihnclhcobnaaGreatDoor
