/- The functions that the claims cY bz as their texts do. -/
import Derived.Test.YtemihnclhcobnaaGreatDoorE3
namespace Go.Proofs.YtemihnclhcobnaaGreatDoor
set_option linter.unusedSimpArgs false
open Go.Rv
set_option maxRecDepth 100000
set_option maxHeartbeats 2000000
set_option linter.unusedVariables false
variable {β : Type}
variable (agV : Y4 β) (ai8 : Y23 β) (ag5 : Y0 β) (aje : Y28 β) (ajh : Y35 β) (ahh : Y3 β) (ajk : Y38 β) (ajm : Y47 β) (ah5 : Y41 β) (ahO : Y50 β) (air : Y48 β) (ais : Y49 β) (ajF : Y47 β) (ait : Y52 β) (aiu : Y53 β) (aiv : Y31 β) (ahZ : Y54 β) (aiw : Y55 β) (ah6 : Y54 β) (ah7 : Y58 β) (ah8 : Y57 β) (ah9 : Y56 β)
variable (N : Nat)
def X7 (N : Nat) : Rv.Spec β := fun args K => match args with
 | [.v (.one (.str a0)), .v (.one (.int .i64 a1))] => ajF a0 a1 (fun z2 z3 z4 => K (.tup [.agg [.int .i64 z2, .int .i64 z3], .one (.bool z4)]))
 | _ => none
def S63 : Rv.Spec β := X7 (vY N) N
def mm (v0 : ByteArray) (v1 v2 v3 v4 : Int) : St := ⟨.v (.one (.str v0)) :: (Z' v1) :: ac :: ac :: .v (.one (.ptr 0 0)) :: ac :: (Z' v2) :: tn 53 [], [.cells 25 [.int .i64 v3, .int .i64 v4]]⟩
def ob (y0 : Bool) (y1 y2 : Int) : St := ⟨tn 4 (.v (.one (.ptr 0 0)) :: .v (.one (.bool y0)) :: tn 54 []), [.cells 25 [.int .i64 y1, .int .i64 y2]]⟩
def oc (y0 : ByteArray) (y1 y2 y3 : Int) : St := ⟨.v (.one (.str y0)) :: (Z' y1) :: ac :: ac :: .v (.one (.ptr 0 0)) :: tn 55 [], [.cells 25 [.int .i64 y2, .int .i64 y3]]⟩
def jm (v0 : ByteArray) (v1 v2 v3 v4 v5 : Int) : St := ⟨.v (.one (.str v0)) :: (Z' v1) :: ac :: ac :: .v (.one (.ptr 0 0)) :: ac :: ac :: (Z' v2) :: (Z' v3) :: tn 51 [], [.cells 25 [.int .i64 v4, .int .i64 v5]]⟩
def od (y0 y1 y2 y3 : Int) : St := ⟨ac :: (Z' y0) :: ac :: ac :: .v (.one (.ptr 0 0)) :: ac :: ac :: (Z' y1) :: tn 52 [], [.cells 25 [.int .i64 y2, .int .i64 y3]]⟩
def zO {γ : Type} (f : ByteArray -> Int -> Int -> Int -> Int -> γ) (s : St) : γ := f (dV (ah (vT (nx ac s.tmps 0)))) (af (ah (vT (nx ac s.tmps 1)))) (af (ah (vT (nx ac s.tmps 6)))) (af (nx .und (ak (nx .dead s.blks 0)) 0)) (af (nx .und (ak (nx .dead s.blks 0)) 1))
theorem MY (s : St) : aP (mm ByteArray.empty 0 0 0 0) s = zO mm s := by kernel_rfl
def F4 : ax β := fun s K => cond (aJ (mm ByteArray.empty 0 0 0 0) s) (zO (fun v0 v1 v2 v3 v4 => air N v0 v1 v2 v3 v4 (fun y0 y1 y2 => K .ret (ob y0 y1 y2)) (fun y0 y1 y2 y3 => K (.exit 0) (oc y0 y1 y2 y3))) s) (none)
def Xs : ax β := F4 (vW N) N
def S7 {γ : Type} (f : ByteArray -> Int -> Int -> Int -> Int -> Int -> γ) (s : St) : γ := f (dV (ah (vT (nx ac s.tmps 0)))) (af (ah (vT (nx ac s.tmps 1)))) (af (ah (vT (nx ac s.tmps 7)))) (af (ah (vT (nx ac s.tmps 8)))) (af (nx .und (ak (nx .dead s.blks 0)) 0)) (af (nx .und (ak (nx .dead s.blks 0)) 1))
theorem MZ (s : St) : aP (jm ByteArray.empty 0 0 0 0 0) s = S7 jm s := by kernel_rfl
def yF : ax β := fun s K => cond (aJ (jm ByteArray.empty 0 0 0 0 0) s) ((fun (v0 : ByteArray) (v1 v2 v3 v4 v5 : Int) => ais N v0 v1 v2 v3 v4 v5 (fun y0 y1 y2 y3 => K (.exit 2) (od y0 y1 y2 y3))) (dV (ah (vT (nx ac s.tmps 0)))) (af (ah (vT (nx ac s.tmps 1)))) (af (ah (vT (nx ac s.tmps 7)))) (af (ah (vT (nx ac s.tmps 8)))) (af (nx .und (ak (nx .dead s.blks 0)) 0)) (af (nx .und (ak (nx .dead s.blks 0)) 1))) (none)
def Lu : ax β := yF (vX N) N
def RB : Env β := ⟨[(127, L2 ah5 N), (57, pZ agV N), (128, acJ ahO N)], [], [(0, F4 air N), (2, yF ais N)], [], ⟨[], [], [], []⟩⟩
def E63 : Env β := RB (bK N) (wD N) (vV N) (vW N) (vX N) N
theorem KY (v0 : ByteArray) (v1 v2 v3 v4 : Int) (rec_ : St -> O β) (K : Exit -> St -> O β) :
  stB lay (RB agV ah5 ahO air ais N) Tryz.f63 0 (mm v0 v1 v2 v3 v4) rec_ K = VR N v0 v1 v2 v3 v4 (fun v0 v1 v2 v3 v4 => rec_ (mm v0 v1 v2 v3 v4)) (fun y0 y1 y2 => K .ret (ob y0 y1 y2)) (fun y0 y1 y2 y3 => K (.exit 0) (oc y0 y1 y2 y3)) := by kernel_rfl
theorem Ov (K : Exit -> St -> O β) : ∀ (F : Nat) (v0 : ByteArray) (v1 v2 v3 v4 : Int), (lp Tryz.f63 0).rounds lay (E63 N) (ai Tryz.f63) F (mm v0 v1 v2 v3 v4) K = vW N F v0 v1 v2 v3 v4 (fun y0 y1 y2 => K .ret (ob y0 y1 y2)) (fun y0 y1 y2 y3 => K (.exit 0) (oc y0 y1 y2 y3)) := by
 intro F; induction F with
 | zero => intros; rfl
 | succ F ih => intros; rw [am]; refine (KY (bK N) (wD N) (vV N) (vW N) (vX N) N _ _ _ _ _ (fun s => (lp Tryz.f63 0).rounds lay (E63 N) (ai Tryz.f63) F s K) K).trans ?_; simp only [ih]; rfl
theorem YT : aS (E63 (β := β) N).loops (lp Tryz.f63 0).id = Xs N := by kernel_rfl
theorem ZM : ay lay (E63 (β := β) N) (ai Tryz.f63) (lp Tryz.f63 0) := rks (YT ..) (rc1 (fun s K hb => ⟨N, by rw [<- ar hb, MY s]; unfold zO; exact Ov N K N _ _ _ _ _⟩) rc0)
theorem KZ (v0 : ByteArray) (v1 v2 v3 v4 v5 : Int) (rec_ : St -> O β) (K : Exit -> St -> O β) :
  stB lay (RB agV ah5 ahO air ais N) Tryz.f63 1 (jm v0 v1 v2 v3 v4 v5) rec_ K = VS (ahO N) N v0 v1 v2 v3 v4 v5 (fun v0 v1 v2 v3 v4 v5 => rec_ (jm v0 v1 v2 v3 v4 v5)) (fun y0 y1 y2 y3 => K (.exit 2) (od y0 y1 y2 y3)) := by kernel_rfl
theorem Ow (K : Exit -> St -> O β) : ∀ (F : Nat) (v0 : ByteArray) (v1 v2 v3 v4 v5 : Int), (lp Tryz.f63 1).rounds lay (E63 N) (ai Tryz.f63) F (jm v0 v1 v2 v3 v4 v5) K = vX N F v0 v1 v2 v3 v4 v5 (fun y0 y1 y2 y3 => K (.exit 2) (od y0 y1 y2 y3)) := by
 intro F; induction F with
 | zero => intros; rfl
 | succ F ih => intros; rw [am]; refine (KZ (bK N) (wD N) (vV N) (vW N) (vX N) N _ _ _ _ _ _ (fun s => (lp Tryz.f63 1).rounds lay (E63 N) (ai Tryz.f63) F s K) K).trans ?_; simp only [ih]; rfl
theorem YU : aS (E63 (β := β) N).loops (lp Tryz.f63 1).id = Lu N := by kernel_rfl
theorem ZN : ay lay (E63 (β := β) N) (ai Tryz.f63) (lp Tryz.f63 1) := by
 intro s K r h
 rw [YU] at h
 unfold Lu yF at h
 cases hb : aJ (jm ByteArray.empty 0 0 0 0 0) s with
 | true =>
  rw [hb, ajZ] at h
  exact ⟨N, by rw [<- ar hb, MZ s]; exact (Ow N K N (dV (ah (vT (nx ac s.tmps 0)))) (af (ah (vT (nx ac s.tmps 1)))) (af (ah (vT (nx ac s.tmps 7)))) (af (ah (vT (nx ac s.tmps 8)))) (af (nx .und (ak (nx .dead s.blks 0)) 0)) (af (nx .und (ak (nx .dead s.blks 0)) 1))).trans h⟩
 | false =>
 rw [hb, ajY] at h
 clear hb
 cases h
theorem aas (a0 : ByteArray) (a1 : Int) (K : TV -> O β) : aL lay (RB agV ah5 ahO air ais N) Tryz.f63 [.v (.one (.str a0)), (Z' a1)] K = Li agV ah5 air ais N a0 a1 (fun z2 z3 z4 => K (.tup [.agg [.int .i64 z2, .int .i64 z3], .one (.bool z4)])) := by kernel_rfl
theorem o63 : ao (β := β) inv Tryz.prog 63 (S63 N) := by
 refine ap au mixed (E := E63 N) (ae (aa (afS N) (aa (o57 N) (aa (afT N) ag)))) aj av Tryz.func63 (by kernel_rfl) 2 (by kernel_rfl) ⟨⟨trivial, ZM N⟩, ZN N⟩ fun args K r h => ?_
 unfold S63 X7 at h
 split at h
 ·exact (aas (bK N) (wD N) (vV N) (vW N) (vX N) N _ _ _).trans h
 ·cases h
def XS (N : Nat) : Rv.Spec β := fun args K => match args with
 | [.v (.one (.str a0)), .v (.one (.int .i64 a1)), .v (.one (.str a2))] => ait a0 a1 a2 (fun z3 z4 z5 => K (.tup [.agg [.int .i64 z3, .int .i64 z4], .one (.bool z5)]))
 | _ => none
def S11 : Rv.Spec β := XS (vF N) N
def acn : Env β := ⟨[(57, pZ agV N), (58, XZ ai8 N), (59, X3 aje N), (60, X4 ajh N), (61, X5 ajk N), (62, X6 ajm N), (63, X7 ajF N)], [], [], [], ⟨[], [], [], []⟩⟩
def E11 : Env β := acn (bK N) (DK N) (wz N) (vQ N) (FI N) (AB N) (vY N) N
theorem aaa (a0 : ByteArray) (a1 : Int) (a2 : ByteArray) (K : TV -> O β) : aL lay (acn agV ai8 aje ajh ajk ajm ajF N) Tryz.f11 [.v (.one (.str a0)), (Z' a1), .v (.one (.str a2))] K = HF agV ai8 aje ajh ajk ajm ajF N a0 a1 a2 (fun z3 z4 z5 => K (.tup [.agg [.int .i64 z3, .int .i64 z4], .one (.bool z5)])) := by kernel_rfl
theorem o11 : ao (β := β) inv Tryz.prog 11 (S11 N) := by
 refine ap au mixed (E := E11 N) (ae (aa (o57 N) (aa (o58 N) (aa (o59 N) (aa (o60 N) (aa (o61 N) (aa (o62 N) (aa (o63 N) ag)))))))) aj av Tryz.func11 (by kernel_rfl) 0 (by kernel_rfl) trivial fun args K r h => ?_
 unfold S11 XS at h
 split at h
 ·exact (aaa (bK N) (DK N) (wz N) (vQ N) (FI N) (AB N) (vY N) N _ _ _ _).trans h
 ·cases h
def XY (N : Nat) : Rv.Spec β := fun args K => match args with
 | [.v (.agg [.int .i64 a0, .int .i64 a1])] => aiv a0 a1 (fun z2 => K (.v (.one (.str z2))))
 | _ => none
def S22 : Rv.Spec β := XY (Du N) N
def me (v0 : ByteArray) (v1 v2 v3 : Int) : St := ⟨ac :: .v (.one (.ptr 0 0)) :: ac :: .v (.one (.str v0)) :: (Z' v1) :: tn 22 [], [.cells 25 [.int .i64 v2, .int .i64 v3]]⟩
def nU (y0 : ByteArray) : St := ⟨tn 3 (.v (.one (.str y0)) :: tn 23 []), []⟩
def zH {γ : Type} (f : ByteArray -> Int -> Int -> Int -> γ) (s : St) : γ := f (dV (ah (vT (nx ac s.tmps 3)))) (af (ah (vT (nx ac s.tmps 4)))) (af (nx .und (ak (nx .dead s.blks 0)) 0)) (af (nx .und (ak (nx .dead s.blks 0)) 1))
theorem MO (s : St) : aP (me ByteArray.empty 0 0 0) s = zH me s := by kernel_rfl
def FX : ax β := fun s K => cond (aJ (me ByteArray.empty 0 0 0) s) (zH (fun v0 v1 v2 v3 => aiu N v0 v1 v2 v3 (fun y0 => K (.exit 0) (nU y0))) s) (none)
def Xl : ax β := FX (m3 N) N
def XG : Env β := ⟨[(20, Bx ag5 N)], [], [(0, FX aiu N)], [], ⟨[], [], [], []⟩⟩
def E22 : Env β := XG (eT N) (m3 N) N
theorem KP (v0 : ByteArray) (v1 v2 v3 : Int) (rec_ : St -> O β) (K : Exit -> St -> O β) :
  stB lay (XG ag5 aiu N) Tryz.f22 0 (me v0 v1 v2 v3) rec_ K = HG ag5 N v0 v1 v2 v3 (fun v0 v1 v2 v3 => rec_ (me v0 v1 v2 v3)) (fun y0 => K (.exit 0) (nU y0)) := by kernel_rfl
theorem Oj (K : Exit -> St -> O β) : ∀ (F : Nat) (v0 : ByteArray) (v1 v2 v3 : Int), (lp Tryz.f22 0).rounds lay (E22 N) (ai Tryz.f22) F (me v0 v1 v2 v3) K = m3 N F v0 v1 v2 v3 (fun y0 => K (.exit 0) (nU y0)) := by
 intro F; induction F with
 | zero => intros; rfl
 | succ F ih => intros; rw [am]; refine (KP (eT N) (m3 N) N _ _ _ _ (fun s => (lp Tryz.f22 0).rounds lay (E22 N) (ai Tryz.f22) F s K) K).trans ?_; simp only [ih]; rfl
theorem YK : aS (E22 (β := β) N).loops (lp Tryz.f22 0).id = Xl N := by kernel_rfl
theorem ZD : ay lay (E22 (β := β) N) (ai Tryz.f22) (lp Tryz.f22 0) := rks (YK ..) (rc1 (fun s K hb => ⟨N, by rw [<- ar hb, MO s]; unfold zH; exact Oj N K N _ _ _ _⟩) rc0)
theorem aah (a0 a1 : Int) (K : TV -> O β) : aL lay (XG ag5 aiu N) Tryz.f22 [.v (.agg [.int .i64 a0, .int .i64 a1])] K = W1 aiu N a0 a1 (fun z2 => K (.v (.one (.str z2)))) := by kernel_rfl
theorem o22 : ao (β := β) inv Tryz.prog 22 (S22 N) := by
 refine ap au mixed (E := E22 N) (ae (aa (o20 N) ag)) aj av Tryz.func22 (by kernel_rfl) 1 (by kernel_rfl) ⟨trivial, ZD N⟩ fun args K r h => ?_
 unfold S22 XY at h
 split at h
 ·exact (aah (eT N) (m3 N) N _ _ _).trans h
 ·cases h
def Mm (N : Nat) : Rv.Spec β := fun args K => match args with
 | [.v (.agg [.int .i64 a0, .int .i64 a1]), .v (.agg [.int .i64 a2, .int .i64 a3])] => ahZ a0 a1 a2 a3 (fun z4 => K (.v (.one (.bool z4))))
 | _ => none
def ack : Rv.Spec β := Mm (rx N) N
def WH : Env β := ⟨[(124, Bs ahh N)], [], [], [], ⟨[], [], [], []⟩⟩
def afl : Env β := WH (oJ N) N
theorem Vo (a0 a1 a2 a3 : Int) (K : TV -> O β) : aL lay (WH ahh N) Tryz.f236 [.v (.agg [.int .i64 a0, .int .i64 a1]), .v (.agg [.int .i64 a2, .int .i64 a3])] K = Pg ahh N a0 a1 a2 a3 (fun z4 => K (.v (.one (.bool z4)))) := by kernel_rfl
theorem agt : ao (β := β) inv Tryz.prog 236 (ack N) := by
 refine ap au mixed (E := afl N) (ae (aa (Zm N) ag)) aj av Tryz.func236 (by kernel_rfl) 0 (by kernel_rfl) trivial fun args K r h => ?_
 unfold ack Mm at h
 split at h
 ·exact (Vo (oJ N) N _ _ _ _ _).trans h
 ·cases h
def Mf (N : Nat) : Rv.Spec β := fun args K => match args with
 | [.v (.agg [.int .i64 a0, .int .i64 a1]), .v (.agg [.int .i64 a2, .int .i64 a3])] => ah6 a0 a1 a2 a3 (fun z4 => K (.v (.one (.bool z4))))
 | _ => none
def ab9 : Rv.Spec β := Mf (ry N) N
def ip (v0 v1 v2 v3 v4 : Int) : St := ⟨ac :: ac :: .v (.one (.ptr 0 0)) :: .v (.one (.ptr 1 0)) :: ac :: (Z' v0) :: tn 34 [], [.cells 25 [.int .i64 v1, .int .i64 v2], .cells 93 [.int .i64 v3, .int .i64 v4]]⟩
def lA (y0 : Bool) : St := ⟨tn 4 (.v (.one (.bool y0)) :: tn 35 []), []⟩
def lC : St := ⟨tn 40 [], []⟩
def uB {γ : Type} (f : Int -> Int -> Int -> Int -> Int -> γ) (s : St) : γ := f (af (ah (vT (nx ac s.tmps 5)))) (af (nx .und (ak (nx .dead s.blks 0)) 0)) (af (nx .und (ak (nx .dead s.blks 0)) 1)) (af (nx .und (ak (nx .dead s.blks 1)) 0)) (af (nx .und (ak (nx .dead s.blks 1)) 1))
theorem Jh (s : St) : aP (ip 0 0 0 0 0) s = uB ip s := by kernel_rfl
def Bi : ax β := fun s K => cond (aJ (ip 0 0 0 0 0) s) (uB (fun v0 v1 v2 v3 v4 => aiw N v0 v1 v2 v3 v4 (fun y0 => K .ret (lA y0)) (K (.exit 0) (lC ))) s) (none)
def Ro : ax β := Bi (m4 N) N
def LQ : Env β := ⟨[(236, Mm ahZ N)], [], [(0, Bi aiw N)], [], ⟨[], [], [], []⟩⟩
def QW : Env β := LQ (rx N) (m4 N) N
theorem Ft (v0 v1 v2 v3 v4 : Int) (rec_ : St -> O β) (K : Exit -> St -> O β) :
  stB lay (LQ ahZ aiw N) Tryz.f204 0 (ip v0 v1 v2 v3 v4) rec_ K = HH ahZ N v0 v1 v2 v3 v4 (fun v0 v1 v2 v3 v4 => rec_ (ip v0 v1 v2 v3 v4)) (fun y0 => K .ret (lA y0)) (K (.exit 0) (lC )) := by kernel_rfl
theorem Kn (K : Exit -> St -> O β) : ∀ (F : Nat) (v0 v1 v2 v3 v4 : Int), (lp Tryz.f204 0).rounds lay (QW N) (ai Tryz.f204) F (ip v0 v1 v2 v3 v4) K = m4 N F v0 v1 v2 v3 v4 (fun y0 => K .ret (lA y0)) (K (.exit 0) (lC )) := by
 intro F; induction F with
 | zero => intros; rfl
 | succ F ih => intros; rw [am]; refine (Ft (rx N) (m4 N) N _ _ _ _ _ (fun s => (lp Tryz.f204 0).rounds lay (QW N) (ai Tryz.f204) F s K) K).trans ?_; simp only [ih]; rfl
theorem SF : aS (QW (β := β) N).loops (lp Tryz.f204 0).id = Ro N := by kernel_rfl
theorem TL : ay lay (QW (β := β) N) (ai Tryz.f204) (lp Tryz.f204 0) := rks (SF ..) (rc1 (fun s K hb => ⟨N, by rw [<- ar hb, Jh s]; unfold uB; exact Kn N K N _ _ _ _ _⟩) rc0)
theorem U7 (a0 a1 a2 a3 : Int) (K : TV -> O β) : aL lay (LQ ahZ aiw N) Tryz.f204 [.v (.agg [.int .i64 a0, .int .i64 a1]), .v (.agg [.int .i64 a2, .int .i64 a3])] K = Ph ahZ aiw N a0 a1 a2 a3 (fun z4 => K (.v (.one (.bool z4)))) := by kernel_rfl
theorem agk : ao (β := β) inv Tryz.prog 204 (ab9 N) := by
 refine ap au mixed (E := QW N) (ae (aa (agt N) ag)) aj av Tryz.func204 (by kernel_rfl) 1 (by kernel_rfl) ⟨trivial, TL N⟩ fun args K r h => ?_
 unfold ab9 Mf at h
 split at h
 ·exact (U7 (rx N) (m4 N) N _ _ _ _ _).trans h
 ·cases h
def L6 (N : Nat) : Rv.Spec β := fun args K => match args with
 | [.v (.agg [.int .i64 a0, .int .i64 a1])] => ah9 a0 a1 (fun z2 => K (.v (.one (.sl 93 (.pairs z2)))))
 | _ => none
def abM : Rv.Spec β := L6 (vG N) N
def hZ (v0 v1 v2 : Int) (v3 : List (Int × Int)) : St := ⟨ac :: .v (.one (.ptr 0 0)) :: ac :: .v (.one (.row 1)) :: (Z' v0) :: tn 33 [], [.cells 25 [.int .i64 v1, .int .i64 v2], .row 93 (.pairs v3)]⟩
def kM (y0 : List (Int × Int)) : St := ⟨tn 3 (.v (.one (.row 0)) :: tn 34 []), [.row 93 (.pairs y0)]⟩
def fv (v0 v1 v2 v3 : Int) (v4 : List (Int × Int)) : St := ⟨ac :: .v (.one (.ptr 0 0)) :: ac :: .v (.one (.row 1)) :: (Z' v0) :: (Z' v1) :: tn 32 [], [.cells 25 [.int .i64 v2, .int .i64 v3], .row 93 (.pairs v4)]⟩
def kN (y0 y1 y2 : Int) (y3 : List (Int × Int)) : St := ⟨ac :: .v (.one (.ptr 0 0)) :: ac :: .v (.one (.row 1)) :: (Z' y0) :: tn 33 [], [.cells 25 [.int .i64 y1, .int .i64 y2], .row 93 (.pairs y3)]⟩
def uq {γ : Type} (f : Int -> Int -> Int -> (List (Int × Int)) -> γ) (s : St) : γ := f (af (ah (vT (nx ac s.tmps 4)))) (af (nx .und (ak (nx .dead s.blks 0)) 0)) (af (nx .und (ak (nx .dead s.blks 0)) 1)) (bc (bh (nx .dead s.blks 1)))
theorem IZ (s : St) : aP (hZ 0 0 0 []) s = uq hZ s := by kernel_rfl
def A7 : ax β := fun s K => cond (aJ (hZ 0 0 0 []) s) (uq (fun v0 v1 v2 v3 => ah8 N v0 v1 v2 v3 (fun y0 => K (.exit 0) (kM y0))) s) (none)
def Rd : ax β := A7 (iR N) N
def N0 {γ : Type} (f : Int -> Int -> Int -> Int -> (List (Int × Int)) -> γ) (s : St) : γ := f (af (ah (vT (nx ac s.tmps 4)))) (af (ah (vT (nx ac s.tmps 5)))) (af (nx .und (ak (nx .dead s.blks 0)) 0)) (af (nx .und (ak (nx .dead s.blks 0)) 1)) (bc (bh (nx .dead s.blks 1)))
theorem I0 (s : St) : aP (fv 0 0 0 0 []) s = N0 fv s := by kernel_rfl
def sf : ax β := fun s K => cond (aJ (fv 0 0 0 0 []) s) ((fun (v0 v1 v2 v3 : Int) (v4 : List (Int × Int)) => ah7 N v0 v1 v2 v3 v4 (fun y0 y1 y2 y3 => K (.exit 2) (kN y0 y1 y2 y3))) (af (ah (vT (nx ac s.tmps 4)))) (af (ah (vT (nx ac s.tmps 5)))) (af (nx .und (ak (nx .dead s.blks 0)) 0)) (af (nx .und (ak (nx .dead s.blks 0)) 1)) (bc (bh (nx .dead s.blks 1)))) (none)
def FN : ax β := sf (lS N) N
def FW : Env β := ⟨[(204, Mf ah6 N)], [], [(0, A7 ah8 N), (2, sf ah7 N)], [], ⟨[], [], [], []⟩⟩
def DN : Env β := FW (ry N) (lS N) (iR N) N
theorem Fa (v0 v1 v2 : Int) (v3 : List (Int × Int)) (rec_ : St -> O β) (K : Exit -> St -> O β) :
  stB lay (FW ah6 ah7 ah8 N) Tryz.f141 0 (hZ v0 v1 v2 v3) rec_ K = HJ ah7 N v0 v1 v2 v3 (fun v0 v1 v2 v3 => rec_ (hZ v0 v1 v2 v3)) (fun y0 => K (.exit 0) (kM y0)) := by kernel_rfl
theorem J5 (K : Exit -> St -> O β) : ∀ (F : Nat) (v0 v1 v2 : Int) (v3 : List (Int × Int)), (lp Tryz.f141 0).rounds lay (DN N) (ai Tryz.f141) F (hZ v0 v1 v2 v3) K = iR N F v0 v1 v2 v3 (fun y0 => K (.exit 0) (kM y0)) := by
 intro F; induction F with
 | zero => intros; rfl
 | succ F ih => intros; rw [am]; refine (Fa (ry N) (lS N) (iR N) N _ _ _ _ (fun s => (lp Tryz.f141 0).rounds lay (DN N) (ai Tryz.f141) F s K) K).trans ?_; simp only [ih]; rfl
theorem Sk : aS (DN (β := β) N).loops (lp Tryz.f141 0).id = Rd N := by kernel_rfl
theorem Tq : ay lay (DN (β := β) N) (ai Tryz.f141) (lp Tryz.f141 0) := rks (Sk ..) (rc1 (fun s K hb => ⟨N, by rw [<- ar hb, IZ s]; unfold uq; exact J5 N K N _ _ _ _⟩) rc0)
theorem Fb (v0 v1 v2 v3 : Int) (v4 : List (Int × Int)) (rec_ : St -> O β) (K : Exit -> St -> O β) :
  stB lay (FW ah6 ah7 ah8 N) Tryz.f141 1 (fv v0 v1 v2 v3 v4) rec_ K = HI ah6 N v0 v1 v2 v3 v4 (fun v0 v1 v2 v3 v4 => rec_ (fv v0 v1 v2 v3 v4)) (fun y0 y1 y2 y3 => K (.exit 2) (kN y0 y1 y2 y3)) := by kernel_rfl
theorem J6 (K : Exit -> St -> O β) : ∀ (F : Nat) (v0 v1 v2 v3 : Int) (v4 : List (Int × Int)), (lp Tryz.f141 1).rounds lay (DN N) (ai Tryz.f141) F (fv v0 v1 v2 v3 v4) K = lS N F v0 v1 v2 v3 v4 (fun y0 y1 y2 y3 => K (.exit 2) (kN y0 y1 y2 y3)) := by
 intro F; induction F with
 | zero => intros; rfl
 | succ F ih => intros; rw [am]; refine (Fb (ry N) (lS N) (iR N) N _ _ _ _ _ (fun s => (lp Tryz.f141 1).rounds lay (DN N) (ai Tryz.f141) F s K) K).trans ?_; simp only [ih]; rfl
theorem Sl : aS (DN (β := β) N).loops (lp Tryz.f141 1).id = FN N := by kernel_rfl
theorem Tt : ay lay (DN (β := β) N) (ai Tryz.f141) (lp Tryz.f141 1) := by
 intro s K r h
 rw [Sl] at h
 unfold FN sf at h
 cases hb : aJ (fv 0 0 0 0 []) s with
 | true =>
  rw [hb, ajZ] at h
  exact ⟨N, by rw [<- ar hb, I0 s]; exact (J6 N K N (af (ah (vT (nx ac s.tmps 4)))) (af (ah (vT (nx ac s.tmps 5)))) (af (nx .und (ak (nx .dead s.blks 0)) 0)) (af (nx .und (ak (nx .dead s.blks 0)) 1)) (bc (bh (nx .dead s.blks 1)))).trans h⟩
 | false =>
 rw [hb, ajY] at h
 clear hb
 cases h
theorem UA (a0 a1 : Int) (K : TV -> O β) : aL lay (FW ah6 ah7 ah8 N) Tryz.f141 [.v (.agg [.int .i64 a0, .int .i64 a1])] K = Pi ah8 N a0 a1 (fun z2 => K (.v (.one (.sl 93 (.pairs z2))))) := by kernel_rfl
theorem afY : ao (β := β) inv Tryz.prog 141 (abM N) := by
 refine ap au mixed (E := DN N) (ae (aa (agk N) ag)) aj av Tryz.func141 (by kernel_rfl) 2 (by kernel_rfl) ⟨⟨trivial, Tq N⟩, Tt N⟩ fun args K r h => ?_
 unfold abM L6 at h
 split at h
 ·exact (UA (ry N) (lS N) (iR N) N _ _ _).trans h
 ·cases h
end Go.Proofs.YtemihnclhcobnaaGreatDoor
