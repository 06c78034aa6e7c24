/- The functions that the claims dl bK as their texts do. -/
import Derived.Test.YtemihnclhcobnaaGreatDoorSizU
namespace Go.Proofs.YtemihnclhcobnaaGreatDoor
set_option linter.unusedSimpArgs false
open Go.Rv
set_option maxRecDepth 100000
set_option maxHeartbeats 2000000
set_option linter.unusedVariables false
variable {β : Type}
variable (zq28 : Y12 β) (zq29 : Y1 β) (zq30 : Y0 β) (zq32 : Y17 β) (zq33 : Y8 β) (zq34 : Y18 β) (zq36 : Y19 β) (zq37 : Y18 β) (zq39 : Y22 β) (zq41 : Y21 β) (zq42 : Y20 β) (zq44 : Y24 β) (zq46 : Y23 β)
def VS9 (N : Nat) : Rv.Spec β := fun args K => match args with
 | [.v (.agg [.int .i64 a0, .int .i64 a1])] => zq28 a0 a1 (fun z2 z3 => K (.v (.agg [.int .i64 z2, .int .i64 z3])))
 | _ => none
def S9 (N : Nat) : Rv.Spec β := VS9 (LP N) N
def VE9 (N : Nat) : Env β := ⟨[], [], [], [], ⟨[], [], [], []⟩⟩
def E9 (N : Nat) : Env β := VE9 N
theorem WQ (N : Nat) (a0 a1 : Int) (K : TV → O β) : aQ lay (VE9 N) Tryz.f9 [.v (.agg [.int .i64 a0, .int .i64 a1])] K = T6 N a0 a1 (fun z2 z3 => K (.v (.agg [.int .i64 z2, .int .i64 z3]))) := by kernel_rfl
theorem o9 (N : Nat) : ap (β := β) inv Tryz.prog 9 (S9 N) := by
 refine aq ax mixed (E := E9 N) (af ai) ak aA Tryz.func9 (by kernel_rfl) 0 (by kernel_rfl) trivial fun args K r h => ?_
 unfold S9 VS9 at h
 split at h
 ·exact (WQ N _ _ _).trans h
 ·cases h
def Ip (N : Nat) : Rv.Spec β := fun args K => match args with
 | [.v (.one (.int .i64 a0)), .v (.one (.int .i64 a1)), .v (.one (.int .i64 a2))] => zq29 a0 a1 a2 (fun z3 => K (.v (.one (.bool z3))))
 | _ => none
def S57 (N : Nat) : Rv.Spec β := Ip (mW N) N
def VG (N : Nat) : Env β := ⟨[], [], [], [], ⟨[], [], [], []⟩⟩
def E57 (N : Nat) : Env β := VG N
theorem TG (N : Nat) (a0 a1 a2 : Int) (K : TV → O β) : aQ lay (VG N) Tryz.f57 [(Z' a0), (Z' a1), (Z' a2)] K = Qb N a0 a1 a2 (fun z3 => K (.v (.one (.bool z3)))) := by kernel_rfl
theorem o57 (N : Nat) : ap (β := β) inv Tryz.prog 57 (S57 N) := by
 refine aq ax mixed (E := E57 N) (af ai) ak aA Tryz.func57 (by kernel_rfl) 0 (by kernel_rfl) trivial fun args K r h => ?_
 unfold S57 Ip at h
 split at h
 ·exact (TG N _ _ _ _).trans h
 ·cases h
def vP (N : Nat) : Rv.Spec β := fun args K => match args with
 | [.v (.agg [.int .i64 a0, .int .i64 a1])] => zq30 a0 a1 (fun z2 => K (.v (.one (.bool z2))))
 | _ => none
def S20 (N : Nat) : Rv.Spec β := vP (du N) N
def Vy (N : Nat) : Env β := ⟨[(57, Ip zq29 N)], [], [], [], ⟨[], [], [], []⟩⟩
def E20 (N : Nat) : Env β := Vy (mW N) N
theorem Tx (N : Nat) (a0 a1 : Int) (K : TV → O β) : aQ lay (Vy zq29 N) Tryz.f20 [.v (.agg [.int .i64 a0, .int .i64 a1])] K = T7 zq29 N a0 a1 (fun z2 => K (.v (.one (.bool z2)))) := by kernel_rfl
theorem o20 (N : Nat) : ap (β := β) inv Tryz.prog 20 (S20 N) := by
 refine aq ax mixed (E := E20 N) (af (aa (o57 N) ai)) ak aA Tryz.func20 (by kernel_rfl) 0 (by kernel_rfl) trivial fun args K r h => ?_
 unfold S20 vP at h
 split at h
 ·exact (Tx (mW N) N _ _ _).trans h
 ·cases h
def yl (N : Nat) : Rv.Spec β := fun args K => match args with
 | [.v (.one (.int .i64 a0)), .v (.agg [.int .i64 a1, .int .i64 a2])] => zq33 a0 a1 a2 (fun z3 => K (.v (.one (.int .i64 z3))))
 | _ => none
def US (N : Nat) : Rv.Spec β := yl (jg N) N
def gw (v0 v1 v2 v3 v4 : Int) : St := ⟨(Z' v0) :: ac :: ac :: .v (.one (.ptr 0 0)) :: ac :: (Z' v1) :: (Z' v2) :: tn 18 [], [.cells 93 [.int .i64 v3, .int .i64 v4]]⟩
def jT (y0 : Int) : St := ⟨tn 5 ((Z' y0) :: tn 19 []), []⟩
def ru {γ : Type} (f : Int → Int → Int → Int → Int → γ) (s : St) : γ := f (ae (ag (vT (nx ac s.tmps 0)))) (ae (ag (vT (nx ac s.tmps 5)))) (ae (ag (vT (nx ac s.tmps 6)))) (ae (nx .und (ao (nx .dead s.blks 0)) 0)) (ae (nx .und (ao (nx .dead s.blks 0)) 1))
theorem Fg (s : St) : aT (gw 0 0 0 0 0) s = ru gw s := by kernel_rfl
def xK (N : Nat) : ay β := fun s K => cond (aK (gw 0 0 0 0 0) s) (ru (fun v0 v1 v2 v3 v4 => zq32 N v0 v1 v2 v3 v4 (fun y0 => K (.exit 0) (jT y0))) s) (none)
def Mj (N : Nat) : ay β := xK (tH N) N
def HF (N : Nat) : Env β := ⟨[], [], [(0, xK zq32 N)], [], ⟨[], [], [], []⟩⟩
def LX (N : Nat) : Env β := HF (tH N) N
theorem B2 (N : Nat) (v0 v1 v2 v3 v4 : Int) (rec_ : St → O β) (K : Exit → St → O β) :
  stB lay (HF zq32 N) Tryz.f124 0 (gw v0 v1 v2 v3 v4) rec_ K = Qc N v0 v1 v2 v3 v4 (fun v0 v1 v2 v3 v4 => rec_ (gw v0 v1 v2 v3 v4)) (fun y0 => K (.exit 0) (jT y0)) := by kernel_rfl
theorem Gh (N : Nat) (K : Exit → St → O β) : ∀ (F : Nat) (v0 v1 v2 v3 v4 : Int), (lp Tryz.f124 0).rounds lay (LX N) (ah Tryz.f124) F (gw v0 v1 v2 v3 v4) K = tH N F v0 v1 v2 v3 v4 (fun y0 => K (.exit 0) (jT y0)) := by
 intro F; induction F with
 | zero => intros; rfl
 | succ F ih => intros; rw [am]; refine (B2 (tH N) N _ _ _ _ _ (fun s => (lp Tryz.f124 0).rounds lay (LX N) (ah Tryz.f124) F s K) K).trans ?_; simp only [ih]; rfl
theorem Nl (N : Nat) : aS (LX (β := β) N).loops (lp Tryz.f124 0).id = Mj N := by kernel_rfl
theorem Of (N : Nat) : az lay (LX (β := β) N) (ah Tryz.f124) (lp Tryz.f124 0) := rks (Nl ..) (rc1 (fun s K hb => ⟨N, by rw [← ar hb, Fg s]; unfold ru; exact Gh N K N _ _ _ _ _⟩) rc0)
theorem Pd (N : Nat) (a0 a1 a2 : Int) (K : TV → O β) : aQ lay (HF zq32 N) Tryz.f124 [(Z' a0), .v (.agg [.int .i64 a1, .int .i64 a2])] K = T8 zq32 N a0 a1 a2 (fun z3 => K ((Z' z3))) := by kernel_rfl
theorem SJ (N : Nat) : ap (β := β) inv Tryz.prog 124 (US N) := by
 refine aq ax mixed (E := LX N) (af ai) ak aA Tryz.func124 (by kernel_rfl) 1 (by kernel_rfl) ⟨trivial, Of N⟩ fun args K r h => ?_
 unfold US yl at h
 split at h
 ·exact (Pd (tH N) N _ _ _ _).trans h
 ·cases h
def Ik (N : Nat) : Rv.Spec β := fun args K => match args with
 | [.v (.agg [.int .i64 a0, .int .i64 a1]), .v (.agg [.int .i64 a2, .int .i64 a3])] => zq34 a0 a1 a2 a3 (fun z4 => K (.v (.one (.bool z4))))
 | _ => none
def Vt (N : Nat) : Rv.Spec β := Ik (AK N) N
def QW (N : Nat) : Env β := ⟨[(124, yl zq33 N)], [], [], [], ⟨[], [], [], []⟩⟩
def Xn (N : Nat) : Env β := QW (jg N) N
theorem P0 (N : Nat) (a0 a1 a2 a3 : Int) (K : TV → O β) : aQ lay (QW zq33 N) Tryz.f236 [.v (.agg [.int .i64 a0, .int .i64 a1]), .v (.agg [.int .i64 a2, .int .i64 a3])] K = T9 zq33 N a0 a1 a2 a3 (fun z4 => K (.v (.one (.bool z4)))) := by kernel_rfl
theorem X9 (N : Nat) : ap (β := β) inv Tryz.prog 236 (Vt N) := by
 refine aq ax mixed (E := Xn N) (af (aa (SJ N) ai)) ak aA Tryz.func236 (by kernel_rfl) 0 (by kernel_rfl) trivial fun args K r h => ?_
 unfold Vt Ik at h
 split at h
 ·exact (P0 (jg N) N _ _ _ _ _).trans h
 ·cases h
def Ia (N : Nat) : Rv.Spec β := fun args K => match args with
 | [.v (.agg [.int .i64 a0, .int .i64 a1]), .v (.agg [.int .i64 a2, .int .i64 a3])] => zq37 a0 a1 a2 a3 (fun z4 => K (.v (.one (.bool z4))))
 | _ => none
def Vi (N : Nat) : Rv.Spec β := Ia (AL N) N
def gR (v0 v1 v2 v3 v4 : Int) : St := ⟨ac :: ac :: .v (.one (.ptr 0 0)) :: .v (.one (.ptr 1 0)) :: ac :: (Z' v0) :: tn 34 [], [.cells 25 [.int .i64 v1, .int .i64 v2], .cells 93 [.int .i64 v3, .int .i64 v4]]⟩
def kz (y0 : Bool) : St := ⟨tn 4 (.v (.one (.bool y0)) :: tn 35 []), []⟩
def kA : St := ⟨tn 40 [], []⟩
def rN {γ : Type} (f : Int → Int → Int → Int → Int → γ) (s : St) : γ := f (ae (ag (vT (nx ac s.tmps 5)))) (ae (nx .und (ao (nx .dead s.blks 0)) 0)) (ae (nx .und (ao (nx .dead s.blks 0)) 1)) (ae (nx .und (ao (nx .dead s.blks 1)) 0)) (ae (nx .und (ao (nx .dead s.blks 1)) 1))
theorem FG (s : St) : aT (gR 0 0 0 0 0) s = rN gR s := by kernel_rfl
def xZ (N : Nat) : ay β := fun s K => cond (aK (gR 0 0 0 0 0) s) (rN (fun v0 v1 v2 v3 v4 => zq36 N v0 v1 v2 v3 v4 (fun y0 => K .ret (kz y0)) (K (.exit 0) (kA ))) s) (none)
def Mz (N : Nat) : ay β := xZ (tI N) N
def HP (N : Nat) : Env β := ⟨[(236, Ik zq34 N)], [], [(0, xZ zq36 N)], [], ⟨[], [], [], []⟩⟩
def L6 (N : Nat) : Env β := HP (AK N) (tI N) N
theorem Cu (N : Nat) (v0 v1 v2 v3 v4 : Int) (rec_ : St → O β) (K : Exit → St → O β) :
  stB lay (HP zq34 zq36 N) Tryz.f204 0 (gR v0 v1 v2 v3 v4) rec_ K = Qd zq34 N v0 v1 v2 v3 v4 (fun v0 v1 v2 v3 v4 => rec_ (gR v0 v1 v2 v3 v4)) (fun y0 => K .ret (kz y0)) (K (.exit 0) (kA )) := by kernel_rfl
theorem GI (N : Nat) (K : Exit → St → O β) : ∀ (F : Nat) (v0 v1 v2 v3 v4 : Int), (lp Tryz.f204 0).rounds lay (L6 N) (ah Tryz.f204) F (gR v0 v1 v2 v3 v4) K = tI N F v0 v1 v2 v3 v4 (fun y0 => K .ret (kz y0)) (K (.exit 0) (kA )) := by
 intro F; induction F with
 | zero => intros; rfl
 | succ F ih => intros; rw [am]; refine (Cu (AK N) (tI N) N _ _ _ _ _ (fun s => (lp Tryz.f204 0).rounds lay (L6 N) (ah Tryz.f204) F s K) K).trans ?_; simp only [ih]; rfl
theorem NK (N : Nat) : aS (L6 (β := β) N).loops (lp Tryz.f204 0).id = Mz N := by kernel_rfl
theorem OH (N : Nat) : az lay (L6 (β := β) N) (ah Tryz.f204) (lp Tryz.f204 0) := rks (NK ..) (rc1 (fun s K hb => ⟨N, by rw [← ar hb, FG s]; unfold rN; exact GI N K N _ _ _ _ _⟩) rc0)
theorem PJ (N : Nat) (a0 a1 a2 a3 : Int) (K : TV → O β) : aQ lay (HP zq34 zq36 N) Tryz.f204 [.v (.agg [.int .i64 a0, .int .i64 a1]), .v (.agg [.int .i64 a2, .int .i64 a3])] K = Ua zq34 zq36 N a0 a1 a2 a3 (fun z4 => K (.v (.one (.bool z4)))) := by kernel_rfl
theorem XW (N : Nat) : ap (β := β) inv Tryz.prog 204 (Vi N) := by
 refine aq ax mixed (E := L6 N) (af (aa (X9 N) ai)) ak aA Tryz.func204 (by kernel_rfl) 1 (by kernel_rfl) ⟨trivial, OH N⟩ fun args K r h => ?_
 unfold Vi Ia at h
 split at h
 ·exact (PJ (AK N) (tI N) N _ _ _ _ _).trans h
 ·cases h
def yn (N : Nat) : Rv.Spec β := fun args K => match args with
 | [.v (.agg [.int .i64 a0, .int .i64 a1])] => zq42 a0 a1 (fun z2 => K (.v (.one (.sl 93 (.pairs z2)))))
 | _ => none
def UZ (N : Nat) : Rv.Spec β := yn (mX N) N
def gD (v0 v1 v2 : Int) (v3 : List (Int × Int)) : St := ⟨ac :: .v (.one (.ptr 0 0)) :: ac :: .v (.one (.row 1)) :: (Z' v0) :: tn 33 [], [.cells 25 [.int .i64 v1, .int .i64 v2], .row 93 (.pairs v3)]⟩
def jY (y0 : List (Int × Int)) : St := ⟨tn 3 (.v (.one (.row 0)) :: tn 34 []), [.row 93 (.pairs y0)]⟩
def eW (v0 v1 v2 v3 : Int) (v4 : List (Int × Int)) : St := ⟨ac :: .v (.one (.ptr 0 0)) :: ac :: .v (.one (.row 1)) :: (Z' v0) :: (Z' v1) :: tn 32 [], [.cells 25 [.int .i64 v2, .int .i64 v3], .row 93 (.pairs v4)]⟩
def jZ (y0 y1 y2 : Int) (y3 : List (Int × Int)) : St := ⟨ac :: .v (.one (.ptr 0 0)) :: ac :: .v (.one (.row 1)) :: (Z' y0) :: tn 33 [], [.cells 25 [.int .i64 y1, .int .i64 y2], .row 93 (.pairs y3)]⟩
def rB {γ : Type} (f : Int → Int → Int → (List (Int × Int)) → γ) (s : St) : γ := f (ae (ag (vT (nx ac s.tmps 4)))) (ae (nx .und (ao (nx .dead s.blks 0)) 0)) (ae (nx .und (ao (nx .dead s.blks 0)) 1)) (aL (aV (nx .dead s.blks 1)))
theorem Fl (s : St) : aT (gD 0 0 0 []) s = rB gD s := by kernel_rfl
def xN (N : Nat) : ay β := fun s K => cond (aK (gD 0 0 0 []) s) (rB (fun v0 v1 v2 v3 => zq41 N v0 v1 v2 v3 (fun y0 => K (.exit 0) (jY y0))) s) (none)
def Mm (N : Nat) : ay β := xN (oU N) N
def JH {γ : Type} (f : Int → Int → Int → Int → (List (Int × Int)) → γ) (s : St) : γ := f (ae (ag (vT (nx ac s.tmps 4)))) (ae (ag (vT (nx ac s.tmps 5)))) (ae (nx .und (ao (nx .dead s.blks 0)) 0)) (ae (nx .und (ao (nx .dead s.blks 0)) 1)) (aL (aV (nx .dead s.blks 1)))
theorem Fm (s : St) : aT (eW 0 0 0 0 []) s = JH eW s := by kernel_rfl
def p7 (N : Nat) : ay β := fun s K => cond (aK (eW 0 0 0 0 []) s) ((fun (v0 v1 v2 v3 : Int) (v4 : List (Int × Int)) => zq39 N v0 v1 v2 v3 v4 (fun y0 y1 y2 y3 => K (.exit 2) (jZ y0 y1 y2 y3))) (ae (ag (vT (nx ac s.tmps 4)))) (ae (ag (vT (nx ac s.tmps 5)))) (ae (nx .und (ao (nx .dead s.blks 0)) 0)) (ae (nx .und (ao (nx .dead s.blks 0)) 1)) (aL (aV (nx .dead s.blks 1)))) (none)
def CP (N : Nat) : ay β := p7 (sV N) N
def CZ (N : Nat) : Env β := ⟨[(204, Ia zq37 N)], [], [(0, xN zq41 N), (2, p7 zq39 N)], [], ⟨[], [], [], []⟩⟩
def AN (N : Nat) : Env β := CZ (AL N) (sV N) (oU N) N
theorem B7 (N : Nat) (v0 v1 v2 : Int) (v3 : List (Int × Int)) (rec_ : St → O β) (K : Exit → St → O β) :
  stB lay (CZ zq37 zq39 zq41 N) Tryz.f141 0 (gD v0 v1 v2 v3) rec_ K = Qf zq39 N v0 v1 v2 v3 (fun v0 v1 v2 v3 => rec_ (gD v0 v1 v2 v3)) (fun y0 => K (.exit 0) (jY y0)) := by kernel_rfl
theorem Gm (N : Nat) (K : Exit → St → O β) : ∀ (F : Nat) (v0 v1 v2 : Int) (v3 : List (Int × Int)), (lp Tryz.f141 0).rounds lay (AN N) (ah Tryz.f141) F (gD v0 v1 v2 v3) K = oU N F v0 v1 v2 v3 (fun y0 => K (.exit 0) (jY y0)) := by
 intro F; induction F with
 | zero => intros; rfl
 | succ F ih => intros; rw [am]; refine (B7 (AL N) (sV N) (oU N) N _ _ _ _ (fun s => (lp Tryz.f141 0).rounds lay (AN N) (ah Tryz.f141) F s K) K).trans ?_; simp only [ih]; rfl
theorem Np (N : Nat) : aS (AN (β := β) N).loops (lp Tryz.f141 0).id = Mm N := by kernel_rfl
theorem Oi (N : Nat) : az lay (AN (β := β) N) (ah Tryz.f141) (lp Tryz.f141 0) := rks (Np ..) (rc1 (fun s K hb => ⟨N, by rw [← ar hb, Fl s]; unfold rB; exact Gm N K N _ _ _ _⟩) rc0)
theorem B8 (N : Nat) (v0 v1 v2 v3 : Int) (v4 : List (Int × Int)) (rec_ : St → O β) (K : Exit → St → O β) :
  stB lay (CZ zq37 zq39 zq41 N) Tryz.f141 1 (eW v0 v1 v2 v3 v4) rec_ K = Qe zq37 N v0 v1 v2 v3 v4 (fun v0 v1 v2 v3 v4 => rec_ (eW v0 v1 v2 v3 v4)) (fun y0 y1 y2 y3 => K (.exit 2) (jZ y0 y1 y2 y3)) := by kernel_rfl
theorem Gn (N : Nat) (K : Exit → St → O β) : ∀ (F : Nat) (v0 v1 v2 v3 : Int) (v4 : List (Int × Int)), (lp Tryz.f141 1).rounds lay (AN N) (ah Tryz.f141) F (eW v0 v1 v2 v3 v4) K = sV N F v0 v1 v2 v3 v4 (fun y0 y1 y2 y3 => K (.exit 2) (jZ y0 y1 y2 y3)) := by
 intro F; induction F with
 | zero => intros; rfl
 | succ F ih => intros; rw [am]; refine (B8 (AL N) (sV N) (oU N) N _ _ _ _ _ (fun s => (lp Tryz.f141 1).rounds lay (AN N) (ah Tryz.f141) F s K) K).trans ?_; simp only [ih]; rfl
theorem Nq (N : Nat) : aS (AN (β := β) N).loops (lp Tryz.f141 1).id = CP N := by kernel_rfl
theorem Oj (N : Nat) : az lay (AN (β := β) N) (ah Tryz.f141) (lp Tryz.f141 1) := by
 intro s K r h
 rw [Nq] at h
 unfold CP p7 at h
 cases hb : aK (eW 0 0 0 0 []) s with
 | true =>
  rw [hb, YC] at h
  exact ⟨N, by rw [← ar hb, Fm s]; exact (Gn N K N (ae (ag (vT (nx ac s.tmps 4)))) (ae (ag (vT (nx ac s.tmps 5)))) (ae (nx .und (ao (nx .dead s.blks 0)) 0)) (ae (nx .und (ao (nx .dead s.blks 0)) 1)) (aL (aV (nx .dead s.blks 1)))).trans h⟩
 | false =>
 rw [hb, YB] at h
 clear hb
 cases h
theorem Pm (N : Nat) (a0 a1 : Int) (K : TV → O β) : aQ lay (CZ zq37 zq39 zq41 N) Tryz.f141 [.v (.agg [.int .i64 a0, .int .i64 a1])] K = Ub zq41 N a0 a1 (fun z2 => K (.v (.one (.sl 93 (.pairs z2))))) := by kernel_rfl
theorem SL (N : Nat) : ap (β := β) inv Tryz.prog 141 (UZ N) := by
 refine aq ax mixed (E := AN N) (af (aa (XW N) ai)) ak aA Tryz.func141 (by kernel_rfl) 2 (by kernel_rfl) ⟨⟨trivial, Oi N⟩, Oj N⟩ fun args K r h => ?_
 unfold UZ yn at h
 split at h
 ·exact (Pm (AL N) (sV N) (oU N) N _ _ _).trans h
 ·cases h
def qg (N G : Nat) : Rv.Spec β := fun args K => match args with
 | [.v (.agg [.int .i64 a0, .int .i64 a1]), .v (.one (.sl 93 (.pairs a2))), .v (.one (.int .i64 a3)), .v (.one (.int .i64 a4)), .v (.one (.int .i64 a5))] => zq46 G a0 a1 a2 a3 a4 a5 (fun z6 z7 => K (.tup [.one (.sl 93 (.pairs z6)), .one (.bool z7)]))
 | _ => none
def xz (N G : Nat) : Rv.Spec β := qg (la N) N G
def VQ (N : Nat) : Rv.Spec β := qg zq46 N N
def Xp (N : Nat) : Rv.Spec β := xz N N
def gF (v0 : List (Int × Int)) (v1 v2 v3 v4 v5 : Int) : St := ⟨ac :: .v (.one (.sl 93 (.pairs v0))) :: ac :: (Z' v1) :: (Z' v2) :: .v (.one (.ptr 0 0)) :: tn 6 ((Z' v3) :: tn 51 []), [.cells 25 [.int .i64 v4, .int .i64 v5]]⟩
def j0 (y0 : Bool) (y1 : List (Int × Int)) : St := ⟨tn 10 (.v (.one (.row 0)) :: .v (.one (.bool y0)) :: tn 52 []), [.row 93 (.pairs y1)]⟩
def j3 : St := ⟨tn 64 [], []⟩
def rC {γ : Type} (f : (List (Int × Int)) → Int → Int → Int → Int → Int → γ) (s : St) : γ := f (aL (bg (ag (vT (nx ac s.tmps 1))))) (ae (ag (vT (nx ac s.tmps 3)))) (ae (ag (vT (nx ac s.tmps 4)))) (ae (ag (vT (nx ac s.tmps 12)))) (ae (nx .und (ao (nx .dead s.blks 0)) 0)) (ae (nx .und (ao (nx .dead s.blks 0)) 1))
theorem Fn (s : St) : aT (gF [] 0 0 0 0 0) s = rC gF s := by kernel_rfl
def xO (N G : Nat) : ay β := fun s K => cond (aK (gF [] 0 0 0 0 0) s) (rC (fun v0 v1 v2 v3 v4 v5 => zq44 (zq46 G) N v0 v1 v2 v3 v4 v5 (fun y0 y1 => K .ret (j0 y0 y1)) (K (.exit 0) (j3 ))) s) (none)
def Mn (N G : Nat) : ay β := xO (tJ N) (la N) N G
def HH (N G : Nat) : Env β := ⟨[(124, yl zq33 N), (142, qg zq46 N G)], [], [(0, xO zq44 zq46 N G)], [], ⟨[], [], [], []⟩⟩
def LZ (N G : Nat) : Env β := HH (jg N) (tJ N) (la N) N G
theorem B9 (N G : Nat) (v0 : List (Int × Int)) (v1 v2 v3 v4 v5 : Int) (rec_ : St → O β) (K : Exit → St → O β) :
  stB lay (HH zq33 zq44 zq46 N G) Tryz.f142 0 (gF v0 v1 v2 v3 v4 v5) rec_ K = Qg zq33 N (zq46 G) v0 v1 v2 v3 v4 v5 (fun v0 v1 v2 v3 v4 v5 => rec_ (gF v0 v1 v2 v3 v4 v5)) (fun y0 y1 => K .ret (j0 y0 y1)) (K (.exit 0) (j3 )) := by kernel_rfl
theorem Gp (N G : Nat) (K : Exit → St → O β) : ∀ (F : Nat) (v0 : List (Int × Int)) (v1 v2 v3 v4 v5 : Int), (lp Tryz.f142 0).rounds lay (LZ N G) (ah Tryz.f142) F (gF v0 v1 v2 v3 v4 v5) K = tJ N (la N G) F v0 v1 v2 v3 v4 v5 (fun y0 y1 => K .ret (j0 y0 y1)) (K (.exit 0) (j3 )) := by
 intro F; induction F with
 | zero => intros; rfl
 | succ F ih => intros; rw [am]; refine (B9 (jg N) (tJ N) (la N) N G _ _ _ _ _ _ (fun s => (lp Tryz.f142 0).rounds lay (LZ N G) (ah Tryz.f142) F s K) K).trans ?_; simp only [ih]; rfl
theorem Nr (N G : Nat) : aS (LZ (β := β) N G).loops (lp Tryz.f142 0).id = Mn N G := by kernel_rfl
theorem Ok (N G : Nat) : az lay (LZ (β := β) N G) (ah Tryz.f142) (lp Tryz.f142 0) := rks (Nr ..) (rc1 (fun s K hb => ⟨N, by rw [← ar hb, Fn s]; unfold rC; exact Gp N _ K N _ _ _ _ _ _⟩) rc0)
theorem Pn (N G : Nat) (a0 a1 : Int) (a2 : List (Int × Int)) (a3 a4 a5 : Int) (K : TV → O β) : aQ lay (HH zq33 zq44 zq46 N G) Tryz.f142 [.v (.agg [.int .i64 a0, .int .i64 a1]), .v (.one (.sl 93 (.pairs a2))), (Z' a3), (Z' a4), (Z' a5)] K = Hp zq44 N (zq46 G) a0 a1 a2 a3 a4 a5 (fun z6 z7 => K (.tup [.one (.sl 93 (.pairs z6)), .one (.bool z7)])) := by kernel_rfl
theorem Yk (N : Nat) : ∀ args K r, xz (β := β) N 0 args K = some r → (none : O β) = some r := by
 intro args K r h
 unfold xz qg at h
 split at h <;> exact h
theorem Wr (N : Nat) : ∀ G, ap (β := β) inv Tryz.prog 142 (xz N G) := by
 intro G
 induction G with
 | zero => exact oK Tryz.func142 (by kernel_rfl) (Yk N)
 | succ G ih =>
  refine aq ax mixed (E := LZ N G) (af (aa (SJ N) (aa ih ai))) ak aA Tryz.func142 (by kernel_rfl) 1 (by kernel_rfl) ⟨trivial, Ok N G⟩ fun args K r h => ?_
  unfold xz qg at h
  split at h
  ·exact (Pn (jg N) (tJ N) (la N) N G _ _ _ _ _ _ _).trans h
  ·cases h
theorem XH (N : Nat) : ap (β := β) inv Tryz.prog 142 (Xp N) := Wr N N
end Go.Proofs.YtemihnclhcobnaaGreatDoor
