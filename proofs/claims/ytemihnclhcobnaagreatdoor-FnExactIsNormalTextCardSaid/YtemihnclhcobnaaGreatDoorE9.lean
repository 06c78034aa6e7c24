/- The functions that the claims cY bz as their texts do. -/
import Derived.Test.YtemihnclhcobnaaGreatDoorE8
namespace Go.Proofs.YtemihnclhcobnaaGreatDoor
set_option linter.unusedSimpArgs false
open Go.Rv
set_option maxRecDepth 100000
set_option maxHeartbeats 2000000
set_option linter.unusedVariables false
variable {β : Type}
variable (zq0 : Y0 β) (zq1 : Y1 β) (zq2 : Y2 β) (zq3 : Y3 β) (zq6 : Y4 β) (zq7 : Y6 β) (ag8 ag9 : Y4 β) (ahF : Y9 β) (agZ : Y10 β) (ag0 ag1 : Y15 β) (ag4 : Y16 β) (ahi : Y0 β) (aht : Y26 β) (ahz : Y28 β) (ahu : Y18 β) (aiN : Y87 β) (ahG : Y86 β) (aiO : Y88 β) (ahA : Y31 β) (aiP : Y89 β) (aiQ : Y28 β) (ahT aiR : Y10 β) (aiS : Y90 β) (aiT : Y35 β) (ahv : Y91 β) (aiU : Y38 β)
variable (N : Nat)
def Gm (N : Nat) : Rv.Spec β := fun args K => match args with
 | [.v (.one (.int .i64 a0)), .v (.one (.sl 93 (.pairs a1))), .v (.one (.str a2))] => ahG a0 a1 a2 (fun z3 => K (.v (.one (.str z3))))
 | _ => none
def abO : Rv.Spec β := Gm (lX N) N
def ig (v0 : Int) (v1 : ByteArray) (v2 : List (Int × Int)) (v3 v4 : Int) (v5 : List ByteArray) : St := ⟨(Z' v0) :: ac :: .v (.one (.str v1)) :: tn 4 (.v (.one (.row 0)) :: tn 5 (.v (.one (.sl 93 (.pairs v2))) :: (Z' v3) :: (Z' v4) :: tn 14 [])), [.row 9 (.strs v5)]⟩
def k8 (y0 : ByteArray) (y1 : List ByteArray) : St := ⟨ac :: ac :: .v (.one (.str y0)) :: tn 4 (.v (.one (.row 0)) :: tn 22 []), [.row 9 (.strs y1)]⟩
def uu {γ : Type} (f : Int -> ByteArray -> (List (Int × Int)) -> Int -> Int -> List ByteArray -> γ) (s : St) : γ := f (af (ah (vT (nx ac s.tmps 0)))) (dV (ah (vT (nx ac s.tmps 2)))) (bc (bF (ah (vT (nx ac s.tmps 13))))) (af (ah (vT (nx ac s.tmps 14)))) (af (ah (vT (nx ac s.tmps 15)))) (Ct (bh (nx .dead s.blks 0)))
theorem I7 (s : St) : aP (ig 0 ByteArray.empty [] 0 0 []) s = uu ig s := by kernel_rfl
def Bb : ax β := fun s K => cond (aJ (ig 0 ByteArray.empty [] 0 0 []) s) (uu (fun v0 v1 v2 v3 v4 v5 => aiN N v0 v1 v2 v3 v4 v5 (fun y0 y1 => K (.exit 0) (k8 y0 y1))) s) (none)
def Rh : ax β := Bb (nd N) N
def LJ : Env β := ⟨[(188, Gn aht N), (106, abt N)], [], [(0, Bb aiN N)], [], ⟨[], [], [], []⟩⟩
def QQ : Env β := LJ (jO N) (nd N) N
theorem Fj (v0 : Int) (v1 : ByteArray) (v2 : List (Int × Int)) (v3 v4 : Int) (v5 : List ByteArray) (rec_ : St -> O β) (K : Exit -> St -> O β) :
  stB lay (LJ aht aiN N) Tryz.f146 0 (ig v0 v1 v2 v3 v4 v5) rec_ K = HW aht N v0 v1 v2 v3 v4 v5 (fun v0 v1 v2 v3 v4 v5 => rec_ (ig v0 v1 v2 v3 v4 v5)) (fun y0 y1 => K (.exit 0) (k8 y0 y1)) := by kernel_rfl
theorem Kd (K : Exit -> St -> O β) : ∀ (F : Nat) (v0 : Int) (v1 : ByteArray) (v2 : List (Int × Int)) (v3 v4 : Int) (v5 : List ByteArray), (lp Tryz.f146 0).rounds lay (QQ N) (ai Tryz.f146) F (ig v0 v1 v2 v3 v4 v5) K = nd N F v0 v1 v2 v3 v4 v5 (fun y0 y1 => K (.exit 0) (k8 y0 y1)) := by
 intro F; induction F with
 | zero => intros; rfl
 | succ F ih => intros; rw [am]; refine (Fj (jO N) (nd N) N _ _ _ _ _ _ (fun s => (lp Tryz.f146 0).rounds lay (QQ N) (ai Tryz.f146) F s K) K).trans ?_; simp only [ih]; rfl
theorem Ss : aS (QQ (β := β) N).loops (lp Tryz.f146 0).id = Rh N := by kernel_rfl
theorem TA : ay lay (QQ (β := β) N) (ai Tryz.f146) (lp Tryz.f146 0) := rks (Ss ..) (rc1 (fun s K hb => ⟨N, by rw [<- ar hb, I7 s]; unfold uu; exact Kd N K N _ _ _ _ _ _⟩) rc0)
theorem UE (a0 : Int) (a1 : List (Int × Int)) (a2 : ByteArray) (K : TV -> O β) : aL lay (LJ aht aiN N) Tryz.f146 [(Z' a0), .v (.one (.sl 93 (.pairs a1))), .v (.one (.str a2))] K = PE aiN N a0 a1 a2 (fun z3 => K (.v (.one (.str z3)))) := by kernel_rfl
theorem adD : ao (β := β) inv Tryz.prog 146 (abO N) := by
 refine ap au mixed (E := QQ N) (ae (aa (adF N) (aa (afP N) ag))) aj av Tryz.func146 (by kernel_rfl) 1 (by kernel_rfl) ⟨trivial, TA N⟩ fun args K r h => ?_
 unfold abO Gm at h
 split at h
 ·exact (UE (jO N) (nd N) N _ _ _ _).trans h
 ·cases h
def RH (N : Nat) : Rv.Spec β := fun args K => match args with
 | [.v (.agg [.int .i64 a0, .int .i64 a1])] => ahA a0 a1 (fun z2 => K (.v (.one (.str z2))))
 | _ => none
def S75 : Rv.Spec β := RH (iW N) N
def mv (v0 v1 v2 v3 v4 v5 : Int) (v6 : List (Int × Int)) : St := ⟨ac :: .v (.one (.ptr 0 0)) :: ac :: .v (.one (.ptr 1 0)) :: .v (.one (.row 2)) :: tn 7 ((Z' v0) :: (Z' v1) :: tn 20 []), [.cells 25 [.int .i64 v2, .int .i64 v3], .cells 25 [.int .i64 v4, .int .i64 v5], .row 93 (.pairs v6)]⟩
def ow (y0 y1 : Int) (y2 : List (Int × Int)) : St := ⟨ac :: .v (.one (.ptr 0 0)) :: ac :: ac :: .v (.one (.row 1)) :: tn 29 [], [.cells 25 [.int .i64 y0, .int .i64 y1], .row 93 (.pairs y2)]⟩
def zV {γ : Type} (f : Int -> Int -> Int -> Int -> Int -> Int -> (List (Int × Int)) -> γ) (s : St) : γ := f (af (ah (vT (nx ac s.tmps 12)))) (af (ah (vT (nx ac s.tmps 13)))) (af (nx .und (ak (nx .dead s.blks 0)) 0)) (af (nx .und (ak (nx .dead s.blks 0)) 1)) (af (nx .und (ak (nx .dead s.blks 1)) 0)) (af (nx .und (ak (nx .dead s.blks 1)) 1)) (bc (bh (nx .dead s.blks 2)))
theorem M6 (s : St) : aP (mv 0 0 0 0 0 0 []) s = zV mv s := by kernel_rfl
def Gb : ax β := fun s K => cond (aJ (mv 0 0 0 0 0 0 []) s) (zV (fun v0 v1 v2 v3 v4 v5 v6 => aiO N v0 v1 v2 v3 v4 v5 v6 (fun y0 y1 y2 => K (.exit 0) (ow y0 y1 y2))) s) (none)
def Xz : ax β := Gb (nf N) N
def XR : Env β := ⟨[(37, Mo ahi N), (133, Gj ahu N), (100, oM zq2 N), (103, so zq3 N), (146, Gm ahG N)], [], [(0, Gb aiO N)], [], ⟨[], [], [], []⟩⟩
def E75 : Env β := XR (zj2 N) (zj3 N) (gm N) (gr N) (lX N) (nf N) N
theorem K7 (v0 v1 v2 v3 v4 v5 : Int) (v6 : List (Int × Int)) (rec_ : St -> O β) (K : Exit -> St -> O β) :
  stB lay (XR zq2 zq3 ahi ahu ahG aiO N) Tryz.f75 0 (mv v0 v1 v2 v3 v4 v5 v6) rec_ K = HX zq3 N v0 v1 v2 v3 v4 v5 v6 (fun v0 v1 v2 v3 v4 v5 v6 => rec_ (mv v0 v1 v2 v3 v4 v5 v6)) (fun y0 y1 y2 => K (.exit 0) (ow y0 y1 y2)) := by kernel_rfl
theorem OD (K : Exit -> St -> O β) : ∀ (F : Nat) (v0 v1 v2 v3 v4 v5 : Int) (v6 : List (Int × Int)), (lp Tryz.f75 0).rounds lay (E75 N) (ai Tryz.f75) F (mv v0 v1 v2 v3 v4 v5 v6) K = nf N F v0 v1 v2 v3 v4 v5 v6 (fun y0 y1 y2 => K (.exit 0) (ow y0 y1 y2)) := by
 intro F; induction F with
 | zero => intros; rfl
 | succ F ih => intros; rw [am]; refine (K7 (zj2 N) (zj3 N) (gm N) (gr N) (lX N) (nf N) N _ _ _ _ _ _ _ (fun s => (lp Tryz.f75 0).rounds lay (E75 N) (ai Tryz.f75) F s K) K).trans ?_; simp only [ih]; rfl
theorem Zb : aS (E75 (β := β) N).loops (lp Tryz.f75 0).id = Xz N := by kernel_rfl
theorem ZU : ay lay (E75 (β := β) N) (ai Tryz.f75) (lp Tryz.f75 0) := rks (Zb ..) (rc1 (fun s K hb => ⟨N, by rw [<- ar hb, M6 s]; unfold zV; exact OD N K N _ _ _ _ _ _ _⟩) rc0)
theorem aaE (a0 a1 : Int) (K : TV -> O β) : aL lay (XR zq2 zq3 ahi ahu ahG aiO N) Tryz.f75 [.v (.agg [.int .i64 a0, .int .i64 a1])] K = PF zq2 ahi ahu ahG aiO N a0 a1 (fun z2 => K (.v (.one (.str z2)))) := by kernel_rfl
theorem o75 : ao (β := β) inv Tryz.prog 75 (S75 N) := by
 refine ap au mixed (E := E75 N) (ae (aa (o37 N) (aa (adA N) (aa (Er N) (aa (NT N) (aa (adD N) ag)))))) aj av Tryz.func75 (by kernel_rfl) 1 (by kernel_rfl) ⟨trivial, ZU N⟩ fun args K r h => ?_
 unfold S75 RH at h
 split at h
 ·exact (aaE (zj2 N) (zj3 N) (gm N) (gr N) (lX N) (nf N) N _ _ _).trans h
 ·cases h
def X9 (N : Nat) : Rv.Spec β := fun args K => match args with
 | [.v (.one (.int .i64 a0)), .v (.one (.str a1))] => aiQ a0 a1 (fun z2 z3 z4 => K (.tup [.agg [.int .i64 z2, .int .i64 z3], .one (.bool z4)]))
 | _ => none
def S65 : Rv.Spec β := X9 (nh N) N
def mo (v0 : Int) (v1 : ByteArray) (v2 v3 v4 v5 v6 v7 : Int) (v8 : List ByteArray) : St := ⟨(Z' v0) :: .v (.one (.str v1)) :: ac :: ac :: .v (.one (.ptr 0 0)) :: ac :: .v (.one (.ptr 1 0)) :: tn 19 (.v (.one (.row 2)) :: (Z' v2) :: (Z' v3) :: tn 28 []), [.cells 25 [.int .i64 v4, .int .i64 v5], .cells 25 [.int .i64 v6, .int .i64 v7], .row 9 (.strs v8)]⟩
def oh (y0 : Bool) (y1 y2 : Int) : St := ⟨tn 4 (.v (.one (.ptr 0 0)) :: .v (.one (.bool y0)) :: tn 51 []), [.cells 25 [.int .i64 y1, .int .i64 y2]]⟩
def ol (y0 : ByteArray) (y1 y2 y3 y4 : Int) : St := ⟨ac :: .v (.one (.str y0)) :: ac :: ac :: .v (.one (.ptr 0 0)) :: ac :: .v (.one (.ptr 1 0)) :: tn 50 [], [.cells 25 [.int .i64 y1, .int .i64 y2], .cells 25 [.int .i64 y3, .int .i64 y4]]⟩
def zQ {γ : Type} (f : Int -> ByteArray -> Int -> Int -> Int -> Int -> Int -> Int -> List ByteArray -> γ) (s : St) : γ := f (af (ah (vT (nx ac s.tmps 0)))) (dV (ah (vT (nx ac s.tmps 1)))) (af (ah (vT (nx ac s.tmps 27)))) (af (ah (vT (nx ac s.tmps 28)))) (af (nx .und (ak (nx .dead s.blks 0)) 0)) (af (nx .und (ak (nx .dead s.blks 0)) 1)) (af (nx .und (ak (nx .dead s.blks 1)) 0)) (af (nx .und (ak (nx .dead s.blks 1)) 1)) (Ct (bh (nx .dead s.blks 2)))
theorem M1 (s : St) : aP (mo 0 ByteArray.empty 0 0 0 0 0 0 []) s = zQ mo s := by kernel_rfl
def F6 : ax β := fun s K => cond (aJ (mo 0 ByteArray.empty 0 0 0 0 0 0 []) s) (zQ (fun v0 v1 v2 v3 v4 v5 v6 v7 v8 => aiP N v0 v1 v2 v3 v4 v5 v6 v7 v8 (fun y0 y1 y2 => K .ret (oh y0 y1 y2)) (fun y0 y1 y2 y3 y4 => K (.exit 0) (ol y0 y1 y2 y3 y4))) s) (none)
def Xu : ax β := F6 (ng N) N
def XM : Env β := ⟨[(99, wc zq7 N), (131, XC N), (132, Gi ahz N), (133, Gj ahu N), (75, RH ahA N)], [], [(0, F6 aiP N)], [], ⟨[], [], [], []⟩⟩
def E65 : Env β := XM (zj7 N) (jP N) (gr N) (iW N) (ng N) N
theorem K2 (v0 : Int) (v1 : ByteArray) (v2 v3 v4 v5 v6 v7 : Int) (v8 : List ByteArray) (rec_ : St -> O β) (K : Exit -> St -> O β) :
  stB lay (XM zq7 ahz ahu ahA aiP N) Tryz.f65 0 (mo v0 v1 v2 v3 v4 v5 v6 v7 v8) rec_ K = HY ahz N v0 v1 v2 v3 v4 v5 v6 v7 v8 (fun v0 v1 v2 v3 v4 v5 v6 v7 v8 => rec_ (mo v0 v1 v2 v3 v4 v5 v6 v7 v8)) (fun y0 y1 y2 => K .ret (oh y0 y1 y2)) (fun y0 y1 y2 y3 y4 => K (.exit 0) (ol y0 y1 y2 y3 y4)) := by kernel_rfl
theorem Oy (K : Exit -> St -> O β) : ∀ (F : Nat) (v0 : Int) (v1 : ByteArray) (v2 v3 v4 v5 v6 v7 : Int) (v8 : List ByteArray), (lp Tryz.f65 0).rounds lay (E65 N) (ai Tryz.f65) F (mo v0 v1 v2 v3 v4 v5 v6 v7 v8) K = ng N F v0 v1 v2 v3 v4 v5 v6 v7 v8 (fun y0 y1 y2 => K .ret (oh y0 y1 y2)) (fun y0 y1 y2 y3 y4 => K (.exit 0) (ol y0 y1 y2 y3 y4)) := by
 intro F; induction F with
 | zero => intros; rfl
 | succ F ih => intros; rw [am]; refine (K2 (zj7 N) (jP N) (gr N) (iW N) (ng N) N _ _ _ _ _ _ _ _ _ (fun s => (lp Tryz.f65 0).rounds lay (E65 N) (ai Tryz.f65) F s K) K).trans ?_; simp only [ih]; rfl
theorem YW : aS (E65 (β := β) N).loops (lp Tryz.f65 0).id = Xu N := by kernel_rfl
theorem ZP : ay lay (E65 (β := β) N) (ai Tryz.f65) (lp Tryz.f65 0) := rks (YW ..) (rc1 (fun s K hb => ⟨N, by rw [<- ar hb, M1 s]; unfold zQ; exact Oy N K N _ _ _ _ _ _ _ _ _⟩) rc0)
theorem aau (a0 : Int) (a1 : ByteArray) (K : TV -> O β) : aL lay (XM zq7 ahz ahu ahA aiP N) Tryz.f65 [(Z' a0), .v (.one (.str a1))] K = Dh zq7 ahu ahA aiP N a0 a1 (fun z2 z3 z4 => K (.tup [.agg [.int .i64 z2, .int .i64 z3], .one (.bool z4)])) := by kernel_rfl
theorem o65 : ao (β := β) inv Tryz.prog 65 (S65 N) := by
 refine ap au mixed (E := E65 N) (ae (aa (o99 N) (aa (ady N) (aa (adz N) (aa (adA N) (aa (o75 N) ag)))))) aj av Tryz.func65 (by kernel_rfl) 1 (by kernel_rfl) ⟨trivial, ZP N⟩ fun args K r h => ?_
 unfold S65 X9 at h
 split at h
 ·exact (aau (zj7 N) (jP N) (gr N) (iW N) (ng N) N _ _ _).trans h
 ·cases h
def Gk (N : Nat) : Rv.Spec β := fun args K => match args with
 | [.v (.one (.int .i64 a0)), .v (.one (.sl 93 (.pairs a1)))] => ahT a0 a1 (fun z2 => K (.v (.one (.bool z2))))
 | _ => none
def abH : Rv.Spec β := Gk (pM N) N
def Wb : Env β := ⟨[(99, wc zq7 N), (190, Gq ag8 ag9 ahF N), (191, Bv ag8 N)], [], [], [], ⟨[], [], [], []⟩⟩
def aeN : Env β := Wb (zj7 N) (gP N) (iS N) (wv N) N
theorem Uu (a0 : Int) (a1 : List (Int × Int)) (K : TV -> O β) : aL lay (Wb zq7 ag8 ag9 ahF N) Tryz.f135 [(Z' a0), .v (.one (.sl 93 (.pairs a1)))] K = HZ zq7 ag8 ahF N a0 a1 (fun z2 => K (.v (.one (.bool z2)))) := by kernel_rfl
theorem adB : ao (β := β) inv Tryz.prog 135 (abH N) := by
 refine ap au mixed (E := aeN N) (ae (aa (o99 N) (aa (adH N) (aa (Zp N) ag)))) aj av Tryz.func135 (by kernel_rfl) 0 (by kernel_rfl) trivial fun args K r h => ?_
 unfold abH Gk at h
 split at h
 ·exact (Uu (zj7 N) (gP N) (iS N) (wv N) N _ _ _).trans h
 ·cases h
def L3 (N : Nat) : Rv.Spec β := fun args K => match args with
 | [.v (.one (.int .i64 a0)), .v (.one (.sl 93 (.pairs a1)))] => aiR a0 a1 (fun z2 => K (.v (.one (.bool z2))))
 | _ => none
def abG : Rv.Spec β := L3 (pN N) N
def V9 : Env β := ⟨[(135, Gk ahT N)], [], [], [], ⟨[], [], [], []⟩⟩
def aeM : Env β := V9 (pM N) N
theorem Ut (a0 : Int) (a1 : List (Int × Int)) (K : TV -> O β) : aL lay (V9 ahT N) Tryz.f134 [(Z' a0), .v (.one (.sl 93 (.pairs a1)))] K = PG ahT N a0 a1 (fun z2 => K (.v (.one (.bool z2)))) := by kernel_rfl
theorem afU : ao (β := β) inv Tryz.prog 134 (abG N) := by
 refine ap au mixed (E := aeM N) (ae (aa (adB N) ag)) aj av Tryz.func134 (by kernel_rfl) 0 (by kernel_rfl) trivial fun args K r h => ?_
 unfold abG L3 at h
 split at h
 ·exact (Ut (pM N) N _ _ _).trans h
 ·cases h
def Ya (N : Nat) : Rv.Spec β := fun args K => match args with
 | [.v (.one (.int .i64 a0)), .v (.one (.str a1))] => aiT a0 a1 (fun z2 z3 => K (.tup [.one (.sl 93 (.pairs z2)), .one (.bool z3)]))
 | _ => none
def S66 : Rv.Spec β := Ya (lY N) N
def mq (v0 v1 v2 : Int) (v3 : List (Int × Int)) (v4 : List ByteArray) : St := ⟨(Z' v0) :: tn 5 (.v (.one (.row 0)) :: tn 15 (.v (.one (.row 1)) :: (Z' v1) :: (Z' v2) :: tn 21 [])), [.row 93 (.pairs v3), .row 9 (.strs v4)]⟩
def om (y0 : Bool) (y1 : List (Int × Int)) : St := ⟨tn 4 (.v (.one (.row 0)) :: .v (.one (.bool y0)) :: tn 40 []), [.row 93 (.pairs y1)]⟩
def oo (y0 : Int) (y1 : List (Int × Int)) : St := ⟨(Z' y0) :: tn 5 (.v (.one (.row 0)) :: tn 39 []), [.row 93 (.pairs y1)]⟩
def zR {γ : Type} (f : Int -> Int -> Int -> (List (Int × Int)) -> List ByteArray -> γ) (s : St) : γ := f (af (ah (vT (nx ac s.tmps 0)))) (af (ah (vT (nx ac s.tmps 23)))) (af (ah (vT (nx ac s.tmps 24)))) (bc (bh (nx .dead s.blks 0))) (Ct (bh (nx .dead s.blks 1)))
theorem M2 (s : St) : aP (mq 0 0 0 [] []) s = zR mq s := by kernel_rfl
def F7 : ax β := fun s K => cond (aJ (mq 0 0 0 [] []) s) (zR (fun v0 v1 v2 v3 v4 => aiS N v0 v1 v2 v3 v4 (fun y0 y1 => K .ret (om y0 y1)) (fun y0 y1 => K (.exit 0) (oo y0 y1))) s) (none)
def Xv : ax β := F7 (ni N) N
def XN : Env β := ⟨[(99, wc zq7 N), (131, XC N), (132, Gi ahz N), (134, L3 aiR N)], [], [(0, F7 aiS N)], [], ⟨[], [], [], []⟩⟩
def E66 : Env β := XN (zj7 N) (jP N) (pN N) (ni N) N
theorem K3 (v0 v1 v2 : Int) (v3 : List (Int × Int)) (v4 : List ByteArray) (rec_ : St -> O β) (K : Exit -> St -> O β) :
  stB lay (XN zq7 ahz aiR aiS N) Tryz.f66 0 (mq v0 v1 v2 v3 v4) rec_ K = H0 ahz N v0 v1 v2 v3 v4 (fun v0 v1 v2 v3 v4 => rec_ (mq v0 v1 v2 v3 v4)) (fun y0 y1 => K .ret (om y0 y1)) (fun y0 y1 => K (.exit 0) (oo y0 y1)) := by kernel_rfl
theorem Oz (K : Exit -> St -> O β) : ∀ (F : Nat) (v0 v1 v2 : Int) (v3 : List (Int × Int)) (v4 : List ByteArray), (lp Tryz.f66 0).rounds lay (E66 N) (ai Tryz.f66) F (mq v0 v1 v2 v3 v4) K = ni N F v0 v1 v2 v3 v4 (fun y0 y1 => K .ret (om y0 y1)) (fun y0 y1 => K (.exit 0) (oo y0 y1)) := by
 intro F; induction F with
 | zero => intros; rfl
 | succ F ih => intros; rw [am]; refine (K3 (zj7 N) (jP N) (pN N) (ni N) N _ _ _ _ _ (fun s => (lp Tryz.f66 0).rounds lay (E66 N) (ai Tryz.f66) F s K) K).trans ?_; simp only [ih]; rfl
theorem YX : aS (E66 (β := β) N).loops (lp Tryz.f66 0).id = Xv N := by kernel_rfl
theorem ZQ : ay lay (E66 (β := β) N) (ai Tryz.f66) (lp Tryz.f66 0) := rks (YX ..) (rc1 (fun s K hb => ⟨N, by rw [<- ar hb, M2 s]; unfold zR; exact Oz N K N _ _ _ _ _⟩) rc0)
theorem aav (a0 : Int) (a1 : ByteArray) (K : TV -> O β) : aL lay (XN zq7 ahz aiR aiS N) Tryz.f66 [(Z' a0), .v (.one (.str a1))] K = yj zq7 aiR aiS N a0 a1 (fun z2 z3 => K (.tup [.one (.sl 93 (.pairs z2)), .one (.bool z3)])) := by kernel_rfl
theorem o66 : ao (β := β) inv Tryz.prog 66 (S66 N) := by
 refine ap au mixed (E := E66 N) (ae (aa (o99 N) (aa (ady N) (aa (adz N) (aa (afU N) ag))))) aj av Tryz.func66 (by kernel_rfl) 1 (by kernel_rfl) ⟨trivial, ZQ N⟩ fun args K r h => ?_
 unfold S66 Ya at h
 split at h
 ·exact (aav (zj7 N) (jP N) (pN N) (ni N) N _ _ _).trans h
 ·cases h
def Gl (N : Nat) : Rv.Spec β := fun args K => match args with
 | [.v (.one (.int .i64 a0)), .v (.one (.sl 93 (.pairs a1)))] => ahv a0 a1 (fun z2 z3 => K (.v (.agg [.int .i64 z2, .int .i64 z3])))
 | _ => none
def abI : Rv.Spec β := Gl (iX N) N
def Wc : Env β := ⟨[(129, qT zq0 zq1 zq6 agZ ag0 ag1 ag4 N), (193, Gs agZ N)], [], [], [], ⟨[], [], [], []⟩⟩
def aeO : Env β := Wc (zj0 N) (zj1 N) (zj6 N) (c8 N) (dc N) (de N) (fS N) N
theorem Uv (a0 : Int) (a1 : List (Int × Int)) (K : TV -> O β) : aL lay (Wc zq0 zq1 zq6 agZ ag0 ag1 ag4 N) Tryz.f136 [(Z' a0), .v (.one (.sl 93 (.pairs a1)))] K = H1 agZ ag4 N a0 a1 (fun z2 z3 => K (.v (.agg [.int .i64 z2, .int .i64 z3]))) := by kernel_rfl
theorem adC : ao (β := β) inv Tryz.prog 136 (abI N) := by
 refine ap au mixed (E := aeO N) (ae (aa (JL N) (aa (adJ N) ag))) aj av Tryz.func136 (by kernel_rfl) 0 (by kernel_rfl) trivial fun args K r h => ?_
 unfold abI Gl at h
 split at h
 ·exact (Uv (zj0 N) (zj1 N) (zj6 N) (c8 N) (dc N) (de N) (fS N) N _ _ _).trans h
 ·cases h
def Yc (N : Nat) : Rv.Spec β := fun args K => match args with
 | [.v (.one (.int .i64 a0)), .v (.one (.sl 93 (.pairs a1)))] => aiU a0 a1 (fun z2 z3 z4 => K (.tup [.agg [.int .i64 z2, .int .i64 z3], .one (.bool z4)]))
 | _ => none
def S67 : Rv.Spec β := Yc (vI N) N
def acy : Env β := ⟨[(135, Gk ahT N), (136, Gl ahv N)], [], [], [], ⟨[], [], [], []⟩⟩
def E67 : Env β := acy (pM N) (iX N) N
theorem aaw (a0 : Int) (a1 : List (Int × Int)) (K : TV -> O β) : aL lay (acy ahT ahv N) Tryz.f67 [(Z' a0), .v (.one (.sl 93 (.pairs a1)))] K = PH ahT ahv N a0 a1 (fun z2 z3 z4 => K (.tup [.agg [.int .i64 z2, .int .i64 z3], .one (.bool z4)])) := by kernel_rfl
theorem o67 : ao (β := β) inv Tryz.prog 67 (S67 N) := by
 refine ap au mixed (E := E67 N) (ae (aa (adB N) (aa (adC N) ag))) aj av Tryz.func67 (by kernel_rfl) 0 (by kernel_rfl) trivial fun args K r h => ?_
 unfold S67 Yc at h
 split at h
 ·exact (aaw (pM N) (iX N) N _ _ _).trans h
 ·cases h
end Go.Proofs.YtemihnclhcobnaaGreatDoor
