/- The functions that the claims dl bK as their texts do. -/
import Derived.Test.YtemihnclhcobnaaGreatDoorE1
namespace Go.Proofs.YtemihnclhcobnaaGreatDoor
set_option linter.unusedSimpArgs false
open Go.Rv
set_option maxRecDepth 100000
set_option maxHeartbeats 2000000
set_option linter.unusedVariables false
variable {β : Type}
variable (zq30 : Y0 β) (zq33 : Y8 β) (zq42 : Y20 β) (zq46 : Y23 β) (zq49 : Y26 β) (zq50 zq51 : Y25 β) (zq53 : Y29 β) (zq55 : Y28 β) (zq56 : Y25 β) (zq58 : Y31 β) (zq59 : Y30 β) (zq61 : Y32 β) (zq63 : Y13 β)
def RT (N : Nat) : Rv.Spec β := fun args K => match args with
 | [.v (.agg [.int .i64 a0, .int .i64 a1])] => zq50 a0 a1 (fun z2 z3 => K (.tup [.one (.sl 93 (.pairs z2)), .one (.bool z3)]))
 | _ => none
def S71 (N : Nat) : Rv.Spec β := RT (Hq N) N
def lq (v0 v1 v2 : Int) (v3 : List (Int × Int)) : St := ⟨ac :: .v (.one (.ptr 0 0)) :: ac :: ac :: .v (.one (.row 1)) :: (Z' v0) :: tn 29 [], [.cells 25 [.int .i64 v1, .int .i64 v2], .row 93 (.pairs v3)]⟩
def mI (y0 : Bool) (y1 : List (Int × Int)) : St := ⟨ac :: ac :: .v (.one (.row 0)) :: .v (.one (.bool y0)) :: tn 31 [], [.row 93 (.pairs y1)]⟩
def mJ : St := ⟨tn 35 [], []⟩
def wN {γ : Type} (f : Int → Int → Int → (List (Int × Int)) → γ) (s : St) : γ := f (ae (ag (vT (nx ac s.tmps 5)))) (ae (nx .und (ao (nx .dead s.blks 0)) 0)) (ae (nx .und (ao (nx .dead s.blks 0)) 1)) (aL (aV (nx .dead s.blks 1)))
theorem IR (s : St) : aT (lq 0 0 0 []) s = wN lq s := by kernel_rfl
def C4 (N : Nat) : ay β := fun s K => cond (aK (lq 0 0 0 []) s) (wN (fun v0 v1 v2 v3 => zq49 N v0 v1 v2 v3 (fun y0 y1 => K .ret (mI y0 y1)) (K (.exit 0) (mJ ))) s) (none)
def Rt (N : Nat) : ay β := C4 (sW N) N
def RI (N : Nat) : Env β := ⟨[(20, vP zq30 N), (141, yn zq42 N), (142, VQ zq46 N)], [], [(0, C4 zq49 N)], [], ⟨[], [], [], []⟩⟩
def E71 (N : Nat) : Env β := RI (du N) (mX N) (la N) (sW N) N
theorem He (N : Nat) (v0 v1 v2 : Int) (v3 : List (Int × Int)) (rec_ : St → O β) (K : Exit → St → O β) :
  stB lay (RI zq30 zq42 zq46 zq49 N) Tryz.f71 0 (lq v0 v1 v2 v3) rec_ K = Lo (zq46 N) N v0 v1 v2 v3 (fun v0 v1 v2 v3 => rec_ (lq v0 v1 v2 v3)) (fun y0 y1 => K .ret (mI y0 y1)) (K (.exit 0) (mJ )) := by kernel_rfl
theorem J5 (N : Nat) (K : Exit → St → O β) : ∀ (F : Nat) (v0 v1 v2 : Int) (v3 : List (Int × Int)), (lp Tryz.f71 0).rounds lay (E71 N) (ah Tryz.f71) F (lq v0 v1 v2 v3) K = sW N F v0 v1 v2 v3 (fun y0 y1 => K .ret (mI y0 y1)) (K (.exit 0) (mJ )) := by
 intro F; induction F with
 | zero => intros; rfl
 | succ F ih => intros; rw [am]; refine (He (du N) (mX N) (la N) (sW N) N _ _ _ _ (fun s => (lp Tryz.f71 0).rounds lay (E71 N) (ah Tryz.f71) F s K) K).trans ?_; simp only [ih]; rfl
theorem Sq (N : Nat) : aS (E71 (β := β) N).loops (lp Tryz.f71 0).id = Rt N := by kernel_rfl
theorem S6 (N : Nat) : az lay (E71 (β := β) N) (ah Tryz.f71) (lp Tryz.f71 0) := rks (Sq ..) (rc1 (fun s K hb => ⟨N, by rw [← ar hb, IR s]; unfold wN; exact J5 N K N _ _ _ _⟩) rc0)
theorem TJ (N : Nat) (a0 a1 : Int) (K : TV → O β) : aQ lay (RI zq30 zq42 zq46 zq49 N) Tryz.f71 [.v (.agg [.int .i64 a0, .int .i64 a1])] K = Uc zq30 zq42 zq49 N a0 a1 (fun z2 z3 => K (.tup [.one (.sl 93 (.pairs z2)), .one (.bool z3)])) := by kernel_rfl
theorem o71 (N : Nat) : ap (β := β) inv Tryz.prog 71 (S71 N) := by
 refine aq ax mixed (E := E71 N) (af (aa (o20 N) (aa (SL N) (aa (XH N) ai)))) ak aA Tryz.func71 (by kernel_rfl) 1 (by kernel_rfl) ⟨trivial, S6 N⟩ fun args K r h => ?_
 unfold S71 RT at h
 split at h
 ·exact (TJ (du N) (mX N) (la N) (sW N) N _ _ _).trans h
 ·cases h
def R2 (N : Nat) : Rv.Spec β := fun args K => match args with
 | [.v (.agg [.int .i64 a0, .int .i64 a1])] => zq51 a0 a1 (fun z2 z3 => K (.tup [.one (.sl 93 (.pairs z2)), .one (.bool z3)]))
 | _ => none
def S82 (N : Nat) : Rv.Spec β := R2 (LR N) N
def VM (N : Nat) : Env β := ⟨[(20, vP zq30 N), (141, yn zq42 N)], [], [], [], ⟨[], [], [], []⟩⟩
def E82 (N : Nat) : Env β := VM (du N) (mX N) N
theorem TS (N : Nat) (a0 a1 : Int) (K : TV → O β) : aQ lay (VM zq30 zq42 N) Tryz.f82 [.v (.agg [.int .i64 a0, .int .i64 a1])] K = Ud zq30 zq42 N a0 a1 (fun z2 z3 => K (.tup [.one (.sl 93 (.pairs z2)), .one (.bool z3)])) := by kernel_rfl
theorem o82 (N : Nat) : ap (β := β) inv Tryz.prog 82 (S82 N) := by
 refine aq ax mixed (E := E82 N) (af (aa (o20 N) (aa (SL N) ai))) ak aA Tryz.func82 (by kernel_rfl) 0 (by kernel_rfl) trivial fun args K r h => ?_
 unfold S82 R2 at h
 split at h
 ·exact (TS (du N) (mX N) N _ _ _).trans h
 ·cases h
def R3 (N : Nat) : Rv.Spec β := fun args K => match args with
 | [.v (.agg [.int .i64 a0, .int .i64 a1])] => zq56 a0 a1 (fun z2 z3 => K (.tup [.one (.sl 93 (.pairs z2)), .one (.bool z3)]))
 | _ => none
def S83 (N : Nat) : Rv.Spec β := R3 (Hr N) N
def lx (v0 v1 v2 : Int) (v3 : List (Int × Int)) (v4 : List (Int × Int)) : St := ⟨ac :: .v (.one (.ptr 0 0)) :: ac :: ac :: .v (.one (.row 1)) :: .v (.one (.row 2)) :: (Z' v0) :: tn 52 [], [.cells 25 [.int .i64 v1, .int .i64 v2], .row 93 (.pairs v3), .row 93 (.pairs v4)]⟩
def mQ (y0 : List (Int × Int)) : St := ⟨tn 4 (.v (.one (.row 0)) :: tn 54 []), [.row 93 (.pairs y0)]⟩
def iH (v0 v1 v2 v3 v4 : Int) (v5 : List (Int × Int)) (v6 : List (Int × Int)) : St := ⟨ac :: .v (.one (.ptr 0 0)) :: ac :: ac :: .v (.one (.row 1)) :: .v (.one (.row 2)) :: (Z' v0) :: (Z' v1) :: (Z' v2) :: tn 50 [], [.cells 25 [.int .i64 v3, .int .i64 v4], .row 93 (.pairs v5), .row 93 (.pairs v6)]⟩
def mR (y0 y1 y2 y3 : Int) (y4 : List (Int × Int)) (y5 : List (Int × Int)) : St := ⟨ac :: .v (.one (.ptr 0 0)) :: ac :: ac :: .v (.one (.row 1)) :: .v (.one (.row 2)) :: (Z' y0) :: (Z' y1) :: tn 51 [], [.cells 25 [.int .i64 y2, .int .i64 y3], .row 93 (.pairs y4), .row 93 (.pairs y5)]⟩
def wR {γ : Type} (f : Int → Int → Int → (List (Int × Int)) → (List (Int × Int)) → γ) (s : St) : γ := f (ae (ag (vT (nx ac s.tmps 6)))) (ae (nx .und (ao (nx .dead s.blks 0)) 0)) (ae (nx .und (ao (nx .dead s.blks 0)) 1)) (aL (aV (nx .dead s.blks 1))) (aL (aV (nx .dead s.blks 2)))
theorem IZ (s : St) : aT (lx 0 0 0 [] []) s = wR lx s := by kernel_rfl
def C8 (N : Nat) : ay β := fun s K => cond (aK (lx 0 0 0 [] []) s) (wR (fun v0 v1 v2 v3 v4 => zq55 N v0 v1 v2 v3 v4 (fun y0 => K (.exit 0) (mQ y0))) s) (none)
def Ry (N : Nat) : ay β := C8 (sY N) N
def N4 {γ : Type} (f : Int → Int → Int → Int → Int → (List (Int × Int)) → (List (Int × Int)) → γ) (s : St) : γ := f (ae (ag (vT (nx ac s.tmps 6)))) (ae (ag (vT (nx ac s.tmps 7)))) (ae (ag (vT (nx ac s.tmps 8)))) (ae (nx .und (ao (nx .dead s.blks 0)) 0)) (ae (nx .und (ao (nx .dead s.blks 0)) 1)) (aL (aV (nx .dead s.blks 1))) (aL (aV (nx .dead s.blks 2)))
theorem I0 (s : St) : aT (iH 0 0 0 0 0 [] []) s = N4 iH s := by kernel_rfl
def vN (N : Nat) : ay β := fun s K => cond (aK (iH 0 0 0 0 0 [] []) s) ((fun (v0 v1 v2 v3 v4 : Int) (v5 : List (Int × Int)) (v6 : List (Int × Int)) => zq53 N v0 v1 v2 v3 v4 v5 v6 (fun y0 y1 y2 y3 y4 y5 => K (.exit 2) (mR y0 y1 y2 y3 y4 y5))) (ae (ag (vT (nx ac s.tmps 6)))) (ae (ag (vT (nx ac s.tmps 7)))) (ae (ag (vT (nx ac s.tmps 8)))) (ae (nx .und (ao (nx .dead s.blks 0)) 0)) (ae (nx .und (ao (nx .dead s.blks 0)) 1)) (aL (aV (nx .dead s.blks 1))) (aL (aV (nx .dead s.blks 2)))) (none)
def HA (N : Nat) : ay β := vN (sX N) N
def MM (N : Nat) : Env β := ⟨[(20, vP zq30 N), (141, yn zq42 N), (124, yl zq33 N)], [], [(0, C8 zq55 N), (2, vN zq53 N)], [], ⟨[], [], [], []⟩⟩
def E83 (N : Nat) : Env β := MM (du N) (jg N) (mX N) (sX N) (sY N) N
theorem Hk (N : Nat) (v0 v1 v2 : Int) (v3 : List (Int × Int)) (v4 : List (Int × Int)) (rec_ : St → O β) (K : Exit → St → O β) :
  stB lay (MM zq30 zq33 zq42 zq53 zq55 N) Tryz.f83 0 (lx v0 v1 v2 v3 v4) rec_ K = Qi zq33 zq53 N v0 v1 v2 v3 v4 (fun v0 v1 v2 v3 v4 => rec_ (lx v0 v1 v2 v3 v4)) (fun y0 => K (.exit 0) (mQ y0)) := by kernel_rfl
theorem Kb (N : Nat) (K : Exit → St → O β) : ∀ (F : Nat) (v0 v1 v2 : Int) (v3 : List (Int × Int)) (v4 : List (Int × Int)), (lp Tryz.f83 0).rounds lay (E83 N) (ah Tryz.f83) F (lx v0 v1 v2 v3 v4) K = sY N F v0 v1 v2 v3 v4 (fun y0 => K (.exit 0) (mQ y0)) := by
 intro F; induction F with
 | zero => intros; rfl
 | succ F ih => intros; rw [am]; refine (Hk (du N) (jg N) (mX N) (sX N) (sY N) N _ _ _ _ _ (fun s => (lp Tryz.f83 0).rounds lay (E83 N) (ah Tryz.f83) F s K) K).trans ?_; simp only [ih]; rfl
theorem Sx (N : Nat) : aS (E83 (β := β) N).loops (lp Tryz.f83 0).id = Ry N := by kernel_rfl
theorem Te (N : Nat) : az lay (E83 (β := β) N) (ah Tryz.f83) (lp Tryz.f83 0) := rks (Sx ..) (rc1 (fun s K hb => ⟨N, by rw [← ar hb, IZ s]; unfold wR; exact Kb N K N _ _ _ _ _⟩) rc0)
theorem Hl (N : Nat) (v0 v1 v2 v3 v4 : Int) (v5 : List (Int × Int)) (v6 : List (Int × Int)) (rec_ : St → O β) (K : Exit → St → O β) :
  stB lay (MM zq30 zq33 zq42 zq53 zq55 N) Tryz.f83 1 (iH v0 v1 v2 v3 v4 v5 v6) rec_ K = Qh zq33 N v0 v1 v2 v3 v4 v5 v6 (fun v0 v1 v2 v3 v4 v5 v6 => rec_ (iH v0 v1 v2 v3 v4 v5 v6)) (fun y0 y1 y2 y3 y4 y5 => K (.exit 2) (mR y0 y1 y2 y3 y4 y5)) := by kernel_rfl
theorem Kc (N : Nat) (K : Exit → St → O β) : ∀ (F : Nat) (v0 v1 v2 v3 v4 : Int) (v5 : List (Int × Int)) (v6 : List (Int × Int)), (lp Tryz.f83 1).rounds lay (E83 N) (ah Tryz.f83) F (iH v0 v1 v2 v3 v4 v5 v6) K = sX N F v0 v1 v2 v3 v4 v5 v6 (fun y0 y1 y2 y3 y4 y5 => K (.exit 2) (mR y0 y1 y2 y3 y4 y5)) := by
 intro F; induction F with
 | zero => intros; rfl
 | succ F ih => intros; rw [am]; refine (Hl (du N) (jg N) (mX N) (sX N) (sY N) N _ _ _ _ _ _ _ (fun s => (lp Tryz.f83 1).rounds lay (E83 N) (ah Tryz.f83) F s K) K).trans ?_; simp only [ih]; rfl
theorem Sy (N : Nat) : aS (E83 (β := β) N).loops (lp Tryz.f83 1).id = HA N := by kernel_rfl
theorem Tf (N : Nat) : az lay (E83 (β := β) N) (ah Tryz.f83) (lp Tryz.f83 1) := by
 intro s K r h
 rw [Sy] at h
 unfold HA vN at h
 cases hb : aK (iH 0 0 0 0 0 [] []) s with
 | true =>
  rw [hb, YC] at h
  exact ⟨N, by rw [← ar hb, I0 s]; exact (Kc N K N (ae (ag (vT (nx ac s.tmps 6)))) (ae (ag (vT (nx ac s.tmps 7)))) (ae (ag (vT (nx ac s.tmps 8)))) (ae (nx .und (ao (nx .dead s.blks 0)) 0)) (ae (nx .und (ao (nx .dead s.blks 0)) 1)) (aL (aV (nx .dead s.blks 1))) (aL (aV (nx .dead s.blks 2)))).trans h⟩
 | false =>
 rw [hb, YB] at h
 clear hb
 cases h
theorem TT (N : Nat) (a0 a1 : Int) (K : TV → O β) : aQ lay (MM zq30 zq33 zq42 zq53 zq55 N) Tryz.f83 [.v (.agg [.int .i64 a0, .int .i64 a1])] K = Ue zq30 zq42 zq55 N a0 a1 (fun z2 z3 => K (.tup [.one (.sl 93 (.pairs z2)), .one (.bool z3)])) := by kernel_rfl
theorem o83 (N : Nat) : ap (β := β) inv Tryz.prog 83 (S83 N) := by
 refine aq ax mixed (E := E83 N) (af (aa (o20 N) (aa (SL N) (aa (SJ N) ai)))) ak aA Tryz.func83 (by kernel_rfl) 2 (by kernel_rfl) ⟨⟨trivial, Te N⟩, Tf N⟩ fun args K r h => ?_
 unfold S83 R3 at h
 split at h
 ·exact (TT (du N) (jg N) (mX N) (sX N) (sY N) N _ _ _).trans h
 ·cases h
def Dm (N : Nat) : Rv.Spec β := fun args K => match args with
 | [.v (.agg [.int .i64 a0, .int .i64 a1]), .v (.one (.int .i64 a2)), .v (.one (.int .i64 a3))] => zq59 a0 a1 a2 a3 (fun z4 => K (.v (.one (.int .i64 z4))))
 | _ => none
def Vj (N : Nat) : Rv.Spec β := Dm (sZ N) N
def gS (v0 v1 v2 v3 v4 v5 : Int) : St := ⟨ac :: (Z' v0) :: (Z' v1) :: .v (.one (.ptr 0 0)) :: tn 3 ((Z' v2) :: (Z' v3) :: tn 27 []), [.cells 25 [.int .i64 v4, .int .i64 v5]]⟩
def kB (y0 : Int) : St := ⟨tn 6 ((Z' y0) :: tn 29 []), []⟩
def kC (y0 : Int) : St := ⟨tn 7 ((Z' y0) :: tn 28 []), []⟩
def rO {γ : Type} (f : Int → Int → Int → Int → Int → Int → γ) (s : St) : γ := f (ae (ag (vT (nx ac s.tmps 1)))) (ae (ag (vT (nx ac s.tmps 2)))) (ae (ag (vT (nx ac s.tmps 7)))) (ae (ag (vT (nx ac s.tmps 8)))) (ae (nx .und (ao (nx .dead s.blks 0)) 0)) (ae (nx .und (ao (nx .dead s.blks 0)) 1))
theorem FH (s : St) : aT (gS 0 0 0 0 0 0) s = rO gS s := by kernel_rfl
def ya (N : Nat) : ay β := fun s K => cond (aK (gS 0 0 0 0 0 0) s) (rO (fun v0 v1 v2 v3 v4 v5 => zq58 N v0 v1 v2 v3 v4 v5 (fun y0 => K .ret (kB y0)) (fun y0 => K (.exit 0) (kC y0))) s) (none)
def MA (N : Nat) : ay β := ya (xx N) N
def HQ (N : Nat) : Env β := ⟨[], [], [(0, ya zq58 N)], [], ⟨[], [], [], []⟩⟩
def L7 (N : Nat) : Env β := HQ (xx N) N
theorem Cv (N : Nat) (v0 v1 v2 v3 v4 v5 : Int) (rec_ : St → O β) (K : Exit → St → O β) :
  stB lay (HQ zq58 N) Tryz.f205 0 (gS v0 v1 v2 v3 v4 v5) rec_ K = Uf N v0 v1 v2 v3 v4 v5 (fun v0 v1 v2 v3 v4 v5 => rec_ (gS v0 v1 v2 v3 v4 v5)) (fun y0 => K .ret (kB y0)) (fun y0 => K (.exit 0) (kC y0)) := by kernel_rfl
theorem GJ (N : Nat) (K : Exit → St → O β) : ∀ (F : Nat) (v0 v1 v2 v3 v4 v5 : Int), (lp Tryz.f205 0).rounds lay (L7 N) (ah Tryz.f205) F (gS v0 v1 v2 v3 v4 v5) K = xx N F v0 v1 v2 v3 v4 v5 (fun y0 => K .ret (kB y0)) (fun y0 => K (.exit 0) (kC y0)) := by
 intro F; induction F with
 | zero => intros; rfl
 | succ F ih => intros; rw [am]; refine (Cv (xx N) N _ _ _ _ _ _ (fun s => (lp Tryz.f205 0).rounds lay (L7 N) (ah Tryz.f205) F s K) K).trans ?_; simp only [ih]; rfl
theorem NL (N : Nat) : aS (L7 (β := β) N).loops (lp Tryz.f205 0).id = MA N := by kernel_rfl
theorem OI (N : Nat) : az lay (L7 (β := β) N) (ah Tryz.f205) (lp Tryz.f205 0) := rks (NL ..) (rc1 (fun s K hb => ⟨N, by rw [← ar hb, FH s]; unfold rO; exact GJ N K N _ _ _ _ _ _⟩) rc0)
theorem PK (N : Nat) (a0 a1 a2 a3 : Int) (K : TV → O β) : aQ lay (HQ zq58 N) Tryz.f205 [.v (.agg [.int .i64 a0, .int .i64 a1]), (Z' a2), (Z' a3)] K = Ug zq58 N a0 a1 a2 a3 (fun z4 => K ((Z' z4))) := by kernel_rfl
theorem Wn (N : Nat) : ap (β := β) inv Tryz.prog 205 (Vj N) := by
 refine aq ax mixed (E := L7 N) (af ai) ak aA Tryz.func205 (by kernel_rfl) 1 (by kernel_rfl) ⟨trivial, OI N⟩ fun args K r h => ?_
 unfold Vj Dm at h
 split at h
 ·exact (PK (xx N) N _ _ _ _ _).trans h
 ·cases h
def qm (N G : Nat) : Rv.Spec β := fun args K => match args with
 | [.v (.agg [.int .i64 a0, .int .i64 a1]), .v (.one (.int .i64 a2)), .v (.one (.int .i64 a3))] => zq63 G a0 a1 a2 a3 (fun z4 => K (.v (.one (.int .i64 z4))))
 | _ => none
def xF (N G : Nat) : Rv.Spec β := qm (nV N) N G
def VW (N : Nat) : Rv.Spec β := qm zq63 N N
def Xv (N : Nat) : Rv.Spec β := xF N N
def gT (v0 v1 v2 v3 v4 v5 : Int) : St := ⟨ac :: (Z' v0) :: (Z' v1) :: .v (.one (.ptr 0 0)) :: tn 3 ((Z' v2) :: (Z' v3) :: tn 37 []), [.cells 25 [.int .i64 v4, .int .i64 v5]]⟩
def kD (y0 : Int) : St := ⟨tn 7 ((Z' y0) :: tn 38 []), []⟩
def rP {γ : Type} (f : Int → Int → Int → Int → Int → Int → γ) (s : St) : γ := f (ae (ag (vT (nx ac s.tmps 1)))) (ae (ag (vT (nx ac s.tmps 2)))) (ae (ag (vT (nx ac s.tmps 7)))) (ae (ag (vT (nx ac s.tmps 8)))) (ae (nx .und (ao (nx .dead s.blks 0)) 0)) (ae (nx .und (ao (nx .dead s.blks 0)) 1))
theorem FI (s : St) : aT (gT 0 0 0 0 0 0) s = rP gT s := by kernel_rfl
def yc (N G : Nat) : ay β := fun s K => cond (aK (gT 0 0 0 0 0 0) s) (rP (fun v0 v1 v2 v3 v4 v5 => zq61 (zq63 G) N v0 v1 v2 v3 v4 v5 (fun y0 => K (.exit 0) (kD y0))) s) (none)
def MB (N G : Nat) : ay β := yc (tK N) (nV N) N G
def HR (N G : Nat) : Env β := ⟨[(205, Dm zq59 N), (206, qm zq63 N G)], [], [(0, yc zq61 zq63 N G)], [], ⟨[], [], [], []⟩⟩
def L8 (N G : Nat) : Env β := HR (sZ N) (tK N) (nV N) N G
theorem Cw (N G : Nat) (v0 v1 v2 v3 v4 v5 : Int) (rec_ : St → O β) (K : Exit → St → O β) :
  stB lay (HR zq59 zq61 zq63 N G) Tryz.f206 0 (gT v0 v1 v2 v3 v4 v5) rec_ K = Qj N (zq63 G) v0 v1 v2 v3 v4 v5 (fun v0 v1 v2 v3 v4 v5 => rec_ (gT v0 v1 v2 v3 v4 v5)) (fun y0 => K (.exit 0) (kD y0)) := by kernel_rfl
theorem GK (N G : Nat) (K : Exit → St → O β) : ∀ (F : Nat) (v0 v1 v2 v3 v4 v5 : Int), (lp Tryz.f206 0).rounds lay (L8 N G) (ah Tryz.f206) F (gT v0 v1 v2 v3 v4 v5) K = tK N (nV N G) F v0 v1 v2 v3 v4 v5 (fun y0 => K (.exit 0) (kD y0)) := by
 intro F; induction F with
 | zero => intros; rfl
 | succ F ih => intros; rw [am]; refine (Cw (sZ N) (tK N) (nV N) N G _ _ _ _ _ _ (fun s => (lp Tryz.f206 0).rounds lay (L8 N G) (ah Tryz.f206) F s K) K).trans ?_; simp only [ih]; rfl
theorem NM (N G : Nat) : aS (L8 (β := β) N G).loops (lp Tryz.f206 0).id = MB N G := by kernel_rfl
theorem OJ (N G : Nat) : az lay (L8 (β := β) N G) (ah Tryz.f206) (lp Tryz.f206 0) := rks (NM ..) (rc1 (fun s K hb => ⟨N, by rw [← ar hb, FI s]; unfold rP; exact GK N _ K N _ _ _ _ _ _⟩) rc0)
theorem PL (N G : Nat) (a0 a1 a2 a3 : Int) (K : TV → O β) : aQ lay (HR zq59 zq61 zq63 N G) Tryz.f206 [.v (.agg [.int .i64 a0, .int .i64 a1]), (Z' a2), (Z' a3)] K = Uh zq59 zq61 N (zq63 G) a0 a1 a2 a3 (fun z4 => K ((Z' z4))) := by kernel_rfl
theorem Yq (N : Nat) : ∀ args K r, xF (β := β) N 0 args K = some r → (none : O β) = some r := by
 intro args K r h
 unfold xF qm at h
 split at h <;> exact h
theorem Wx (N : Nat) : ∀ G, ap (β := β) inv Tryz.prog 206 (xF N G) := by
 intro G
 induction G with
 | zero => exact oK Tryz.func206 (by kernel_rfl) (Yq N)
 | succ G ih =>
  refine aq ax mixed (E := L8 N G) (af (aa (Wn N) (aa ih ai))) ak aA Tryz.func206 (by kernel_rfl) 1 (by kernel_rfl) ⟨trivial, OJ N G⟩ fun args K r h => ?_
  unfold xF qm at h
  split at h
  ·exact (PL (sZ N) (tK N) (nV N) N G _ _ _ _ _).trans h
  ·cases h
theorem XX (N : Nat) : ap (β := β) inv Tryz.prog 206 (Xv N) := Wx N N
end Go.Proofs.YtemihnclhcobnaaGreatDoor
