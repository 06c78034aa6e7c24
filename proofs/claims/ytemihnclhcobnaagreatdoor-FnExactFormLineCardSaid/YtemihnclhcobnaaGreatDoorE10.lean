/- The functions that the claims dl bK as their texts do. -/
import Derived.Test.YtemihnclhcobnaaGreatDoorE9
namespace Go.Proofs.YtemihnclhcobnaaGreatDoor
set_option linter.unusedSimpArgs false
open Go.Rv
set_option maxRecDepth 100000
set_option maxHeartbeats 2000000
set_option linter.unusedVariables false
variable {β : Type}
variable (zq12 : Y7 β) (zq13 : Y8 β) (zq116 : Y0 β) (zq162 : Y12 β) (zq165 : Y38 β) (zq167 : Y82 β) (zq168 : Y81 β) (zq170 : Y83 β) (zq171 : Y40 β) (zq172 : Y43 β) (zq173 : Y12 β) (zq174 : Y0 β)
def Df (N : Nat) : Rv.Spec β := fun args K => match args with
 | [.v (.one (.int .i64 a0)), .v (.one (.sl 93 (.pairs a1))), .v (.one (.str a2))] => zq168 a0 a1 a2 (fun z3 => K (.v (.one (.str z3))))
 | _ => none
def U1 (N : Nat) : Rv.Spec β := Df (kY N) N
def gI (v0 : Int) (v1 : ByteArray) (v2 : List (Int × Int)) (v3 v4 : Int) (v5 : List ByteArray) : St := ⟨(Z' v0) :: ac :: .v (.one (.str v1)) :: tn 4 (.v (.one (.row 0)) :: tn 5 (.v (.one (.sl 93 (.pairs v2))) :: (Z' v3) :: (Z' v4) :: tn 14 [])), [.row 9 (.strs v5)]⟩
def kf (y0 : ByteArray) (y1 : List ByteArray) : St := ⟨ac :: ac :: .v (.one (.str y0)) :: tn 4 (.v (.one (.row 0)) :: tn 22 []), [.row 9 (.strs y1)]⟩
def rF {γ : Type} (f : Int → ByteArray → (List (Int × Int)) → Int → Int → List ByteArray → γ) (s : St) : γ := f (ae (ag (vT (nx ac s.tmps 0)))) (G4 (ag (vT (nx ac s.tmps 2)))) (aL (bg (ag (vT (nx ac s.tmps 13))))) (ae (ag (vT (nx ac s.tmps 14)))) (ae (ag (vT (nx ac s.tmps 15)))) (JX (aV (nx .dead s.blks 0)))
theorem Ft (s : St) : aT (gI 0 ByteArray.empty [] 0 0 []) s = rF gI s := by kernel_rfl
def xR (N : Nat) : ay β := fun s K => cond (aK (gI 0 ByteArray.empty [] 0 0 []) s) (rF (fun v0 v1 v2 v3 v4 v5 => zq167 N v0 v1 v2 v3 v4 v5 (fun y0 y1 => K (.exit 0) (kf y0 y1))) s) (none)
def Mr (N : Nat) : ay β := xR (l7 N) N
def HJ (N : Nat) : Env β := ⟨[(188, H9 zq165 N), (106, RB N)], [], [(0, xR zq167 N)], [], ⟨[], [], [], []⟩⟩
def L1 (N : Nat) : Env β := HJ (sT N) (l7 N) N
theorem Cg (N : Nat) (v0 : Int) (v1 : ByteArray) (v2 : List (Int × Int)) (v3 v4 : Int) (v5 : List ByteArray) (rec_ : St → O β) (K : Exit → St → O β) :
  stB lay (HJ zq165 zq167 N) Tryz.f146 0 (gI v0 v1 v2 v3 v4 v5) rec_ K = EH zq165 N v0 v1 v2 v3 v4 v5 (fun v0 v1 v2 v3 v4 v5 => rec_ (gI v0 v1 v2 v3 v4 v5)) (fun y0 y1 => K (.exit 0) (kf y0 y1)) := by kernel_rfl
theorem Gv (N : Nat) (K : Exit → St → O β) : ∀ (F : Nat) (v0 : Int) (v1 : ByteArray) (v2 : List (Int × Int)) (v3 v4 : Int) (v5 : List ByteArray), (lp Tryz.f146 0).rounds lay (L1 N) (ah Tryz.f146) F (gI v0 v1 v2 v3 v4 v5) K = l7 N F v0 v1 v2 v3 v4 v5 (fun y0 y1 => K (.exit 0) (kf y0 y1)) := by
 intro F; induction F with
 | zero => intros; rfl
 | succ F ih => intros; rw [am]; refine (Cg (sT N) (l7 N) N _ _ _ _ _ _ (fun s => (lp Tryz.f146 0).rounds lay (L1 N) (ah Tryz.f146) F s K) K).trans ?_; simp only [ih]; rfl
theorem Nx (N : Nat) : aS (L1 (β := β) N).loops (lp Tryz.f146 0).id = Mr N := by kernel_rfl
theorem Ot (N : Nat) : az lay (L1 (β := β) N) (ah Tryz.f146) (lp Tryz.f146 0) := rks (Nx ..) (rc1 (fun s K hb => ⟨N, by rw [← ar hb, Ft s]; unfold rF; exact Gv N K N _ _ _ _ _ _⟩) rc0)
theorem Pq (N : Nat) (a0 : Int) (a1 : List (Int × Int)) (a2 : ByteArray) (K : TV → O β) : aQ lay (HJ zq165 zq167 N) Tryz.f146 [(Z' a0), .v (.one (.sl 93 (.pairs a1))), .v (.one (.str a2))] K = K8 zq167 N a0 a1 a2 (fun z3 => K (.v (.one (.str z3)))) := by kernel_rfl
theorem Wg (N : Nat) : ap (β := β) inv Tryz.prog 146 (U1 N) := by
 refine aq ax mixed (E := L1 N) (af (aa (XV N) (aa (Wb N) ai))) ak aA Tryz.func146 (by kernel_rfl) 1 (by kernel_rfl) ⟨trivial, Ot N⟩ fun args K r h => ?_
 unfold U1 Df at h
 split at h
 ·exact (Pq (sT N) (l7 N) N _ _ _ _).trans h
 ·cases h
def RX (N : Nat) : Rv.Spec β := fun args K => match args with
 | [.v (.agg [.int .i64 a0, .int .i64 a1])] => zq171 a0 a1 (fun z2 => K (.v (.one (.str z2))))
 | _ => none
def S75 (N : Nat) : Rv.Spec β := RX (vD N) N
def lu (v0 v1 v2 v3 v4 v5 : Int) (v6 : List (Int × Int)) : St := ⟨ac :: .v (.one (.ptr 0 0)) :: ac :: .v (.one (.ptr 1 0)) :: .v (.one (.row 2)) :: tn 7 ((Z' v0) :: (Z' v1) :: tn 20 []), [.cells 25 [.int .i64 v2, .int .i64 v3], .cells 25 [.int .i64 v4, .int .i64 v5], .row 93 (.pairs v6)]⟩
def mL (y0 y1 : Int) (y2 : List (Int × Int)) : St := ⟨ac :: .v (.one (.ptr 0 0)) :: ac :: ac :: .v (.one (.row 1)) :: tn 29 [], [.cells 25 [.int .i64 y0, .int .i64 y1], .row 93 (.pairs y2)]⟩
def wP {γ : Type} (f : Int → Int → Int → Int → Int → Int → (List (Int × Int)) → γ) (s : St) : γ := f (ae (ag (vT (nx ac s.tmps 12)))) (ae (ag (vT (nx ac s.tmps 13)))) (ae (nx .und (ao (nx .dead s.blks 0)) 0)) (ae (nx .und (ao (nx .dead s.blks 0)) 1)) (ae (nx .und (ao (nx .dead s.blks 1)) 0)) (ae (nx .und (ao (nx .dead s.blks 1)) 1)) (aL (aV (nx .dead s.blks 2)))
theorem IV (s : St) : aT (lu 0 0 0 0 0 0 []) s = wP lu s := by kernel_rfl
def C6 (N : Nat) : ay β := fun s K => cond (aK (lu 0 0 0 0 0 0 []) s) (wP (fun v0 v1 v2 v3 v4 v5 v6 => zq170 N v0 v1 v2 v3 v4 v5 v6 (fun y0 y1 y2 => K (.exit 0) (mL y0 y1 y2))) s) (none)
def Rw (N : Nat) : ay β := C6 (l8 N) N
def RK (N : Nat) : Env β := ⟨[(37, Im zq116 N), (133, H1 zq162 N), (100, oZ zq12 N), (103, tV zq13 N), (146, Df zq168 N)], [], [(0, C6 zq170 N)], [], ⟨[], [], [], []⟩⟩
def E75 (N : Nat) : Env β := RK (db N) (eD N) (fO N) (sS N) (kY N) (l8 N) N
theorem Hg (N : Nat) (v0 v1 v2 v3 v4 v5 : Int) (v6 : List (Int × Int)) (rec_ : St → O β) (K : Exit → St → O β) :
  stB lay (RK zq12 zq13 zq116 zq162 zq168 zq170 N) Tryz.f75 0 (lu v0 v1 v2 v3 v4 v5 v6) rec_ K = EI zq13 N v0 v1 v2 v3 v4 v5 v6 (fun v0 v1 v2 v3 v4 v5 v6 => rec_ (lu v0 v1 v2 v3 v4 v5 v6)) (fun y0 y1 y2 => K (.exit 0) (mL y0 y1 y2)) := by kernel_rfl
theorem J7 (N : Nat) (K : Exit → St → O β) : ∀ (F : Nat) (v0 v1 v2 v3 v4 v5 : Int) (v6 : List (Int × Int)), (lp Tryz.f75 0).rounds lay (E75 N) (ah Tryz.f75) F (lu v0 v1 v2 v3 v4 v5 v6) K = l8 N F v0 v1 v2 v3 v4 v5 v6 (fun y0 y1 y2 => K (.exit 0) (mL y0 y1 y2)) := by
 intro F; induction F with
 | zero => intros; rfl
 | succ F ih => intros; rw [am]; refine (Hg (db N) (eD N) (fO N) (sS N) (kY N) (l8 N) N _ _ _ _ _ _ _ (fun s => (lp Tryz.f75 0).rounds lay (E75 N) (ah Tryz.f75) F s K) K).trans ?_; simp only [ih]; rfl
theorem Ss (N : Nat) : aS (E75 (β := β) N).loops (lp Tryz.f75 0).id = Rw N := by kernel_rfl
theorem Ta (N : Nat) : az lay (E75 (β := β) N) (ah Tryz.f75) (lp Tryz.f75 0) := rks (Ss ..) (rc1 (fun s K hb => ⟨N, by rw [← ar hb, IV s]; unfold wP; exact J7 N K N _ _ _ _ _ _ _⟩) rc0)
theorem TN (N : Nat) (a0 a1 : Int) (K : TV → O β) : aQ lay (RK zq12 zq13 zq116 zq162 zq168 zq170 N) Tryz.f75 [.v (.agg [.int .i64 a0, .int .i64 a1])] K = La zq12 zq116 zq162 zq168 zq170 N a0 a1 (fun z2 => K (.v (.one (.str z2)))) := by kernel_rfl
theorem o75 (N : Nat) : ap (β := β) inv Tryz.prog 75 (S75 N) := by
 refine aq ax mixed (E := E75 N) (af (aa (o37 N) (aa (XE N) (aa (F9 N) (aa (NY N) (aa (Wg N) ai)))))) ak aA Tryz.func75 (by kernel_rfl) 1 (by kernel_rfl) ⟨trivial, Ta N⟩ fun args K r h => ?_
 unfold S75 RX at h
 split at h
 ·exact (TN (db N) (eD N) (fO N) (sS N) (kY N) (l8 N) N _ _ _).trans h
 ·cases h
def RY (N : Nat) : Rv.Spec β := fun args K => match args with
 | [.v (.one (.int .i64 a0)), .v (.one (.sl 93 (.pairs a1)))] => zq172 a0 a1 (fun z2 => K (.v (.one (.str z2))))
 | _ => none
def S76 (N : Nat) : Rv.Spec β := RY (vE N) N
def VJ (N : Nat) : Env β := ⟨[(146, Df zq168 N)], [], [], [], ⟨[], [], [], []⟩⟩
def E76 (N : Nat) : Env β := VJ (kY N) N
theorem TO (N : Nat) (a0 : Int) (a1 : List (Int × Int)) (K : TV → O β) : aQ lay (VJ zq168 N) Tryz.f76 [(Z' a0), .v (.one (.sl 93 (.pairs a1)))] K = Lb zq168 N a0 a1 (fun z2 => K (.v (.one (.str z2)))) := by kernel_rfl
theorem o76 (N : Nat) : ap (β := β) inv Tryz.prog 76 (S76 N) := by
 refine aq ax mixed (E := E76 N) (af (aa (Wg N) ai)) ak aA Tryz.func76 (by kernel_rfl) 0 (by kernel_rfl) trivial fun args K r h => ?_
 unfold S76 RY at h
 split at h
 ·exact (TO (kY N) N _ _ _).trans h
 ·cases h
def Dg (N : Nat) : Rv.Spec β := fun args K => match args with
 | [.v (.agg [.int .i64 a0, .int .i64 a1])] => zq173 a0 a1 (fun z2 z3 => K (.v (.agg [.int .i64 z2, .int .i64 z3])))
 | _ => none
def U9 (N : Nat) : Rv.Spec β := Dg (ir N) N
def QK (N : Nat) : Env β := ⟨[(100, oZ zq12 N)], [], [], [], ⟨[], [], [], []⟩⟩
def Xa (N : Nat) : Env β := QK (db N) N
theorem Pz (N : Nat) (a0 a1 : Int) (K : TV → O β) : aQ lay (QK zq12 N) Tryz.f174 [.v (.agg [.int .i64 a0, .int .i64 a1])] K = Lc zq12 N a0 a1 (fun z2 z3 => K (.v (.agg [.int .i64 z2, .int .i64 z3]))) := by kernel_rfl
theorem Wh (N : Nat) : ap (β := β) inv Tryz.prog 174 (U9 N) := by
 refine aq ax mixed (E := Xa N) (af (aa (F9 N) ai)) ak aA Tryz.func174 (by kernel_rfl) 0 (by kernel_rfl) trivial fun args K r h => ?_
 unfold U9 Dg at h
 split at h
 ·exact (Pz (db N) N _ _ _).trans h
 ·cases h
def Id (N : Nat) : Rv.Spec β := fun args K => match args with
 | [.v (.agg [.int .i64 a0, .int .i64 a1])] => zq174 a0 a1 (fun z2 => K (.v (.one (.bool z2))))
 | _ => none
def Vn (N : Nat) : Rv.Spec β := Id (l9 N) N
def QR (N : Nat) : Env β := ⟨[(174, Dg zq173 N)], [], [], [], ⟨[], [], [], []⟩⟩
def Xi (N : Nat) : Env β := QR (ir N) N
theorem PQ (N : Nat) (a0 a1 : Int) (K : TV → O β) : aQ lay (QR zq173 N) Tryz.f211 [.v (.agg [.int .i64 a0, .int .i64 a1])] K = Ld zq173 N a0 a1 (fun z2 => K (.v (.one (.bool z2)))) := by kernel_rfl
theorem XZ (N : Nat) : ap (β := β) inv Tryz.prog 211 (Vn N) := by
 refine aq ax mixed (E := Xi N) (af (aa (Wh N) ai)) ak aA Tryz.func211 (by kernel_rfl) 0 (by kernel_rfl) trivial fun args K r h => ?_
 unfold Vn Id at h
 split at h
 ·exact (PQ (ir N) N _ _ _).trans h
 ·cases h
end Go.Proofs.YtemihnclhcobnaaGreatDoor
