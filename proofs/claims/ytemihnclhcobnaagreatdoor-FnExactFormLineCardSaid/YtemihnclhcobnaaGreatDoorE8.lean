/- The functions that the claims dl bK as their texts do. -/
import Derived.Test.YtemihnclhcobnaaGreatDoorE7
namespace Go.Proofs.YtemihnclhcobnaaGreatDoor
set_option linter.unusedSimpArgs false
open Go.Rv
set_option maxRecDepth 100000
set_option maxHeartbeats 2000000
set_option linter.unusedVariables false
variable {β : Type}
variable (zq116 : Y0 β) (zq129 : Y20 β) (zq130 : Y64 β) (zq134 : Y65 β) (zq137 : Y67 β) (zq139 : Y69 β) (zq141 : Y68 β) (zq142 : Y20 β) (zq144 : Y71 β) (zq145 : Y25 β) (zq146 : Y72 β) (zq147 : Y45 β) (zq148 : Y73 β)
def RZ (N : Nat) : Rv.Spec β := fun args K => match args with
 | [.v (.agg [.int .i64 a0, .int .i64 a1])] => zq142 a0 a1 (fun z2 => K (.v (.one (.sl 93 (.pairs z2)))))
 | _ => none
def S77 (N : Nat) : Rv.Spec β := RZ (vv N) N
def lw (v0 : List (Int × Int)) (v1 : List (Int × Int)) (v2 v3 v4 v5 : Int) (v6 : List Int) : St := ⟨ac :: .v (.one (.ptr 0 0)) :: ac :: .v (.one (.fsl 93 (.pairs v0))) :: .v (.one (.row 1)) :: tn 13 (.v (.one (.fsl 93 (.pairs v1))) :: (Z' v2) :: (Z' v3) :: tn 45 []), [.cells 25 [.int .i64 v4, .int .i64 v5], .row 3 (.ints .i64 v6)]⟩
def mM (y0 : List (Int × Int)) (y1 y2 : Int) (y3 : List Int) : St := ⟨ac :: .v (.one (.ptr 0 0)) :: ac :: .v (.one (.fsl 93 (.pairs y0))) :: .v (.one (.row 1)) :: tn 61 [], [.cells 25 [.int .i64 y1, .int .i64 y2], .row 3 (.ints .i64 y3)]⟩
def iF (v0 : List (Int × Int)) (v1 v2 v3 v4 : Int) (v5 : List Int) : St := ⟨ac :: .v (.one (.ptr 0 0)) :: ac :: .v (.one (.fsl 93 (.pairs v0))) :: .v (.one (.row 1)) :: tn 32 ((Z' v1) :: (Z' v2) :: tn 27 []), [.cells 25 [.int .i64 v3, .int .i64 v4], .row 3 (.ints .i64 v5)]⟩
def mN (y0 : List (Int × Int)) : St := ⟨ac :: ac :: .v (.one (.row 0)) :: tn 63 [], [.row 93 (.pairs y0)]⟩
def mO : St := ⟨tn 66 [], []⟩
def iG (v0 : List (Int × Int)) (v1 v2 : Int) (v3 : List (Int × Int)) (v4 : List Int) : St := ⟨tn 3 (.v (.one (.fsl 93 (.pairs v0))) :: tn 6 (.v (.one (.row 0)) :: tn 39 (.v (.one (.row 1)) :: (Z' v1) :: (Z' v2) :: tn 13 []))), [.row 93 (.pairs v3), .row 3 (.ints .i64 v4)]⟩
def mP (y0 : List (Int × Int)) : St := ⟨tn 10 (.v (.one (.row 0)) :: tn 55 []), [.row 93 (.pairs y0)]⟩
def wQ {γ : Type} (f : (List (Int × Int)) → (List (Int × Int)) → Int → Int → Int → Int → List Int → γ) (s : St) : γ := f (aL (bg (ag (vT (nx ac s.tmps 3))))) (aL (bg (ag (vT (nx ac s.tmps 18))))) (ae (ag (vT (nx ac s.tmps 19)))) (ae (ag (vT (nx ac s.tmps 20)))) (ae (nx .und (ao (nx .dead s.blks 0)) 0)) (ae (nx .und (ao (nx .dead s.blks 0)) 1)) (aY (aV (nx .dead s.blks 1)))
theorem IW (s : St) : aT (lw [] [] 0 0 0 0 []) s = wQ lw s := by kernel_rfl
def C7 (N : Nat) : ay β := fun s K => cond (aK (lw [] [] 0 0 0 0 []) s) (wQ (fun v0 v1 v2 v3 v4 v5 v6 => zq137 N v0 v1 v2 v3 v4 v5 v6 (fun y0 y1 y2 y3 => K (.exit 0) (mM y0 y1 y2 y3))) s) (none)
def Rx (N : Nat) : ay β := C7 (jc N) N
def N2 {γ : Type} (f : (List (Int × Int)) → Int → Int → Int → Int → List Int → γ) (s : St) : γ := f (aL (bg (ag (vT (nx ac s.tmps 3))))) (ae (ag (vT (nx ac s.tmps 37)))) (ae (ag (vT (nx ac s.tmps 38)))) (ae (nx .und (ao (nx .dead s.blks 0)) 0)) (ae (nx .und (ao (nx .dead s.blks 0)) 1)) (aY (aV (nx .dead s.blks 1)))
theorem IX (s : St) : aT (iF [] 0 0 0 0 []) s = N2 iF s := by kernel_rfl
def vL (N : Nat) : ay β := fun s K => cond (aK (iF [] 0 0 0 0 []) s) ((fun (v0 : List (Int × Int)) (v1 v2 v3 v4 : Int) (v5 : List Int) => zq141 N v0 v1 v2 v3 v4 v5 (fun y0 => K .ret (mN y0)) (K (.exit 2) (mO ))) (aL (bg (ag (vT (nx ac s.tmps 3))))) (ae (ag (vT (nx ac s.tmps 37)))) (ae (ag (vT (nx ac s.tmps 38)))) (ae (nx .und (ao (nx .dead s.blks 0)) 0)) (ae (nx .und (ao (nx .dead s.blks 0)) 1)) (aY (aV (nx .dead s.blks 1)))) (none)
def Hy (N : Nat) : ay β := vL (kW N) N
def N3 {γ : Type} (f : (List (Int × Int)) → Int → Int → (List (Int × Int)) → List Int → γ) (s : St) : γ := f (aL (bg (ag (vT (nx ac s.tmps 3))))) (ae (ag (vT (nx ac s.tmps 51)))) (ae (ag (vT (nx ac s.tmps 52)))) (aL (aV (nx .dead s.blks 0))) (aY (aV (nx .dead s.blks 1)))
theorem IY (s : St) : aT (iG [] 0 0 [] []) s = N3 iG s := by kernel_rfl
def vM (N : Nat) : ay β := fun s K => cond (aK (iG [] 0 0 [] []) s) ((fun (v0 : List (Int × Int)) (v1 v2 : Int) (v3 : List (Int × Int)) (v4 : List Int) => zq139 N v0 v1 v2 v3 v4 (fun y0 => K (.exit 4) (mP y0))) (aL (bg (ag (vT (nx ac s.tmps 3))))) (ae (ag (vT (nx ac s.tmps 51)))) (ae (ag (vT (nx ac s.tmps 52)))) (aL (aV (nx .dead s.blks 0))) (aY (aV (nx .dead s.blks 1)))) (none)
def Hz (N : Nat) : ay β := vM (ip N) N
def HZ (N : Nat) : Env β := ⟨[(86, Iq zq129 N), (136, Dd zq130 N), (147, VT zq134 N)], [], [(0, C7 zq137 N), (2, vL zq141 N), (4, vM zq139 N)], [], ⟨[], [], [], []⟩⟩
def E77 (N : Nat) : Env β := HZ (ep N) (fy N) (ec N) (jc N) (ip N) (kW N) N
theorem Hh (N : Nat) (v0 : List (Int × Int)) (v1 : List (Int × Int)) (v2 v3 v4 v5 : Int) (v6 : List Int) (rec_ : St → O β) (K : Exit → St → O β) :
  stB lay (HZ zq129 zq130 zq134 zq137 zq139 zq141 N) Tryz.f77 0 (lw v0 v1 v2 v3 v4 v5 v6) rec_ K = EC zq130 N v0 v1 v2 v3 v4 v5 v6 (fun v0 v1 v2 v3 v4 v5 v6 => rec_ (lw v0 v1 v2 v3 v4 v5 v6)) (fun y0 y1 y2 y3 => K (.exit 0) (mM y0 y1 y2 y3)) := by kernel_rfl
theorem J8 (N : Nat) (K : Exit → St → O β) : ∀ (F : Nat) (v0 : List (Int × Int)) (v1 : List (Int × Int)) (v2 v3 v4 v5 : Int) (v6 : List Int), (lp Tryz.f77 0).rounds lay (E77 N) (ah Tryz.f77) F (lw v0 v1 v2 v3 v4 v5 v6) K = jc N F v0 v1 v2 v3 v4 v5 v6 (fun y0 y1 y2 y3 => K (.exit 0) (mM y0 y1 y2 y3)) := by
 intro F; induction F with
 | zero => intros; rfl
 | succ F ih => intros; rw [am]; refine (Hh (ep N) (fy N) (ec N) (jc N) (ip N) (kW N) N _ _ _ _ _ _ _ (fun s => (lp Tryz.f77 0).rounds lay (E77 N) (ah Tryz.f77) F s K) K).trans ?_; simp only [ih]; rfl
theorem Su (N : Nat) : aS (E77 (β := β) N).loops (lp Tryz.f77 0).id = Rx N := by kernel_rfl
theorem Tb (N : Nat) : az lay (E77 (β := β) N) (ah Tryz.f77) (lp Tryz.f77 0) := rks (Su ..) (rc1 (fun s K hb => ⟨N, by rw [← ar hb, IW s]; unfold wQ; exact J8 N K N _ _ _ _ _ _ _⟩) rc0)
theorem Hi (N : Nat) (v0 : List (Int × Int)) (v1 v2 v3 v4 : Int) (v5 : List Int) (rec_ : St → O β) (K : Exit → St → O β) :
  stB lay (HZ zq129 zq130 zq134 zq137 zq139 zq141 N) Tryz.f77 1 (iF v0 v1 v2 v3 v4 v5) rec_ K = KX (zq134 N) zq139 N v0 v1 v2 v3 v4 v5 (fun v0 v1 v2 v3 v4 v5 => rec_ (iF v0 v1 v2 v3 v4 v5)) (fun y0 => K .ret (mN y0)) (K (.exit 2) (mO )) := by kernel_rfl
theorem J9 (N : Nat) (K : Exit → St → O β) : ∀ (F : Nat) (v0 : List (Int × Int)) (v1 v2 v3 v4 : Int) (v5 : List Int), (lp Tryz.f77 1).rounds lay (E77 N) (ah Tryz.f77) F (iF v0 v1 v2 v3 v4 v5) K = kW N F v0 v1 v2 v3 v4 v5 (fun y0 => K .ret (mN y0)) (K (.exit 2) (mO )) := by
 intro F; induction F with
 | zero => intros; rfl
 | succ F ih => intros; rw [am]; refine (Hi (ep N) (fy N) (ec N) (jc N) (ip N) (kW N) N _ _ _ _ _ _ (fun s => (lp Tryz.f77 1).rounds lay (E77 N) (ah Tryz.f77) F s K) K).trans ?_; simp only [ih]; rfl
theorem Sv (N : Nat) : aS (E77 (β := β) N).loops (lp Tryz.f77 1).id = Hy N := by kernel_rfl
theorem Tc (N : Nat) : az lay (E77 (β := β) N) (ah Tryz.f77) (lp Tryz.f77 1) := by
 intro s K r h
 rw [Sv] at h
 unfold Hy vL at h
 cases hb : aK (iF [] 0 0 0 0 []) s with
 | true =>
  rw [hb, YC] at h
  exact ⟨N, by rw [← ar hb, IX s]; exact (J9 N K N (aL (bg (ag (vT (nx ac s.tmps 3))))) (ae (ag (vT (nx ac s.tmps 37)))) (ae (ag (vT (nx ac s.tmps 38)))) (ae (nx .und (ao (nx .dead s.blks 0)) 0)) (ae (nx .und (ao (nx .dead s.blks 0)) 1)) (aY (aV (nx .dead s.blks 1)))).trans h⟩
 | false =>
 rw [hb, YB] at h
 clear hb
 cases h
theorem Hj (N : Nat) (v0 : List (Int × Int)) (v1 v2 : Int) (v3 : List (Int × Int)) (v4 : List Int) (rec_ : St → O β) (K : Exit → St → O β) :
  stB lay (HZ zq129 zq130 zq134 zq137 zq139 zq141 N) Tryz.f77 2 (iG v0 v1 v2 v3 v4) rec_ K = ED N v0 v1 v2 v3 v4 (fun v0 v1 v2 v3 v4 => rec_ (iG v0 v1 v2 v3 v4)) (fun y0 => K (.exit 4) (mP y0)) := by kernel_rfl
theorem Ka (N : Nat) (K : Exit → St → O β) : ∀ (F : Nat) (v0 : List (Int × Int)) (v1 v2 : Int) (v3 : List (Int × Int)) (v4 : List Int), (lp Tryz.f77 2).rounds lay (E77 N) (ah Tryz.f77) F (iG v0 v1 v2 v3 v4) K = ip N F v0 v1 v2 v3 v4 (fun y0 => K (.exit 4) (mP y0)) := by
 intro F; induction F with
 | zero => intros; rfl
 | succ F ih => intros; rw [am]; refine (Hj (ep N) (fy N) (ec N) (jc N) (ip N) (kW N) N _ _ _ _ _ (fun s => (lp Tryz.f77 2).rounds lay (E77 N) (ah Tryz.f77) F s K) K).trans ?_; simp only [ih]; rfl
theorem Sw (N : Nat) : aS (E77 (β := β) N).loops (lp Tryz.f77 2).id = Hz N := by kernel_rfl
theorem Td (N : Nat) : az lay (E77 (β := β) N) (ah Tryz.f77) (lp Tryz.f77 2) := by
 intro s K r h
 rw [Sw] at h
 unfold Hz vM at h
 cases hb : aK (iG [] 0 0 [] []) s with
 | true =>
  rw [hb, YC] at h
  exact ⟨N, by rw [← ar hb, IY s]; exact (Ka N K N (aL (bg (ag (vT (nx ac s.tmps 3))))) (ae (ag (vT (nx ac s.tmps 51)))) (ae (ag (vT (nx ac s.tmps 52)))) (aL (aV (nx .dead s.blks 0))) (aY (aV (nx .dead s.blks 1)))).trans h⟩
 | false =>
 rw [hb, YB] at h
 clear hb
 cases h
theorem TP (N : Nat) (a0 a1 : Int) (K : TV → O β) : aQ lay (HZ zq129 zq130 zq134 zq137 zq139 zq141 N) Tryz.f77 [.v (.agg [.int .i64 a0, .int .i64 a1])] K = KY zq129 zq137 zq141 N a0 a1 (fun z2 => K (.v (.one (.sl 93 (.pairs z2))))) := by kernel_rfl
theorem o77 (N : Nat) : ap (β := β) inv Tryz.prog 77 (S77 N) := by
 refine aq ax mixed (E := E77 N) (af (aa (o86 N) (aa (We N) (aa (XL N) ai)))) ak aA Tryz.func77 (by kernel_rfl) 3 (by kernel_rfl) ⟨⟨⟨trivial, Tb N⟩, Tc N⟩, Td N⟩ fun args K r h => ?_
 unfold S77 RZ at h
 split at h
 ·exact (TP (ep N) (fy N) (ec N) (jc N) (ip N) (kW N) N _ _ _).trans h
 ·cases h
def R5 (N : Nat) : Rv.Spec β := fun args K => match args with
 | [.v (.agg [.int .i64 a0, .int .i64 a1])] => zq145 a0 a1 (fun z2 z3 => K (.tup [.one (.sl 93 (.pairs z2)), .one (.bool z3)]))
 | _ => none
def S85 (N : Nat) : Rv.Spec β := R5 (vA N) N
def ly (v0 : List (Int × Int)) (v1 : List (Int × Int)) (v2 v3 v4 v5 : Int) (v6 : List (Int × Int)) : St := ⟨ac :: .v (.one (.ptr 0 0)) :: ac :: ac :: .v (.one (.fsl 93 (.pairs v0))) :: .v (.one (.row 1)) :: tn 8 (.v (.one (.fsl 93 (.pairs v1))) :: (Z' v2) :: (Z' v3) :: tn 25 []), [.cells 25 [.int .i64 v4, .int .i64 v5], .row 93 (.pairs v6)]⟩
def mS (y0 : List (Int × Int)) : St := ⟨tn 5 (.v (.one (.row 0)) :: tn 36 []), [.row 93 (.pairs y0)]⟩
def wS {γ : Type} (f : (List (Int × Int)) → (List (Int × Int)) → Int → Int → Int → Int → (List (Int × Int)) → γ) (s : St) : γ := f (aL (bg (ag (vT (nx ac s.tmps 4))))) (aL (bg (ag (vT (nx ac s.tmps 14))))) (ae (ag (vT (nx ac s.tmps 15)))) (ae (ag (vT (nx ac s.tmps 16)))) (ae (nx .und (ao (nx .dead s.blks 0)) 0)) (ae (nx .und (ao (nx .dead s.blks 0)) 1)) (aL (aV (nx .dead s.blks 1)))
theorem I1 (s : St) : aT (ly [] [] 0 0 0 0 []) s = wS ly s := by kernel_rfl
def C9 (N : Nat) : ay β := fun s K => cond (aK (ly [] [] 0 0 0 0 []) s) (wS (fun v0 v1 v2 v3 v4 v5 v6 => zq144 N v0 v1 v2 v3 v4 v5 v6 (fun y0 => K (.exit 0) (mS y0))) s) (none)
def Rz (N : Nat) : ay β := C9 (l5 N) N
def RL (N : Nat) : Env β := ⟨[(37, Im zq116 N), (86, Iq zq129 N), (153, U5 N), (136, Dd zq130 N)], [], [(0, C9 zq144 N)], [], ⟨[], [], [], []⟩⟩
def E85 (N : Nat) : Env β := RL (fO N) (ep N) (fy N) (l5 N) N
theorem Hm (N : Nat) (v0 : List (Int × Int)) (v1 : List (Int × Int)) (v2 v3 v4 v5 : Int) (v6 : List (Int × Int)) (rec_ : St → O β) (K : Exit → St → O β) :
  stB lay (RL zq116 zq129 zq130 zq144 N) Tryz.f85 0 (ly v0 v1 v2 v3 v4 v5 v6) rec_ K = EE zq130 N v0 v1 v2 v3 v4 v5 v6 (fun v0 v1 v2 v3 v4 v5 v6 => rec_ (ly v0 v1 v2 v3 v4 v5 v6)) (fun y0 => K (.exit 0) (mS y0)) := by kernel_rfl
theorem Kd (N : Nat) (K : Exit → St → O β) : ∀ (F : Nat) (v0 : List (Int × Int)) (v1 : List (Int × Int)) (v2 v3 v4 v5 : Int) (v6 : List (Int × Int)), (lp Tryz.f85 0).rounds lay (E85 N) (ah Tryz.f85) F (ly v0 v1 v2 v3 v4 v5 v6) K = l5 N F v0 v1 v2 v3 v4 v5 v6 (fun y0 => K (.exit 0) (mS y0)) := by
 intro F; induction F with
 | zero => intros; rfl
 | succ F ih => intros; rw [am]; refine (Hm (fO N) (ep N) (fy N) (l5 N) N _ _ _ _ _ _ _ (fun s => (lp Tryz.f85 0).rounds lay (E85 N) (ah Tryz.f85) F s K) K).trans ?_; simp only [ih]; rfl
theorem Sz (N : Nat) : aS (E85 (β := β) N).loops (lp Tryz.f85 0).id = Rz N := by kernel_rfl
theorem Tg (N : Nat) : az lay (E85 (β := β) N) (ah Tryz.f85) (lp Tryz.f85 0) := rks (Sz ..) (rc1 (fun s K hb => ⟨N, by rw [← ar hb, I1 s]; unfold wS; exact Kd N K N _ _ _ _ _ _ _⟩) rc0)
theorem TW (N : Nat) (a0 a1 : Int) (K : TV → O β) : aQ lay (RL zq116 zq129 zq130 zq144 N) Tryz.f85 [.v (.agg [.int .i64 a0, .int .i64 a1])] K = KZ zq116 zq129 zq144 N a0 a1 (fun z2 z3 => K (.tup [.one (.sl 93 (.pairs z2)), .one (.bool z3)])) := by kernel_rfl
theorem o85 (N : Nat) : ap (β := β) inv Tryz.prog 85 (S85 N) := by
 refine aq ax mixed (E := E85 N) (af (aa (o37 N) (aa (o86 N) (aa (XR N) (aa (We N) ai))))) ak aA Tryz.func85 (by kernel_rfl) 1 (by kernel_rfl) ⟨trivial, Tg N⟩ fun args K r h => ?_
 unfold S85 R5 at h
 split at h
 ·exact (TW (fO N) (ep N) (fy N) (l5 N) N _ _ _).trans h
 ·cases h
def H4 (N : Nat) : bO β := fun args bl K => match args, bl with
 | [.v (.agg [.int .i64 a0, .int .i64 a1])], [] => zq146 a0 a1 (fun y0 y1 y2 y3 => K (.v (.one (.ptr 0 0))) [.cells 173 [.int .i64 y0, .int .i64 y1, .mp 1, .mp 2], .mp ⟨true, false⟩ y2, .mp ⟨true, false⟩ y3])
 | _, _ => none
def U2 (N : Nat) : bO β := H4 (AD N) N
def QH (N : Nat) : Env β := ⟨[], [], [], [], ⟨[], [], [], []⟩⟩
def W7 (N : Nat) : Env β := QH N
theorem Ps (N : Nat) (a0 a1 : Int) (K : TV → List Blk → O β) : lQ lay (QH N) Tryz.f148 [.v (.agg [.int .i64 a0, .int .i64 a1])] [] K = K0 N a0 a1 (fun y0 y1 y2 y3 => K (.v (.one (.ptr 0 0))) [.cells 173 [.int .i64 y0, .int .i64 y1, .mp 1, .mp 2], .mp ⟨true, false⟩ y2, .mp ⟨true, false⟩ y3]) := by kernel_rfl
theorem XM (N : Nat) : GOK (β := β) inv Tryz.prog 148 (U2 N) := by
 refine Be ax mixed (E := W7 N) (af ai) ak aA Tryz.func148 (by kernel_rfl) 0 (by kernel_rfl) trivial fun args bl K r h => ?_
 unfold U2 H4 at h
 split at h
 ·exact (Ps N _ _ _).trans h
 ·cases h
def In (N : Nat) : Rv.Spec β := fun args K => match args with
 | [.v (.one (.int .i64 a0))] => zq147 a0 (fun z1 => K (.v (.one (.str z1))))
 | _ => none
def S41 (N : Nat) : Rv.Spec β := In (dx N) N
def VC (N : Nat) : Env β := ⟨[(104, UO N)], [], [], [], ⟨[], [], [], []⟩⟩
def E41 (N : Nat) : Env β := VC N
theorem TC (N : Nat) (a0 : Int) (K : TV → O β) : aQ lay (VC N) Tryz.f41 [(Z' a0)] K = K1 N a0 (fun z1 => K (.v (.one (.str z1)))) := by kernel_rfl
theorem o41 (N : Nat) : ap (β := β) inv Tryz.prog 41 (S41 N) := by
 refine aq ax mixed (E := E41 N) (af (aa (XC N) ai)) ak aA Tryz.func41 (by kernel_rfl) 0 (by kernel_rfl) trivial fun args K r h => ?_
 unfold S41 In at h
 split at h
 ·exact (TC N _ _).trans h
 ·cases h
def yr (N : Nat) : Rv.Spec β := fun args K => match args with
 | [.v (.agg [.int .i64 a0, .int .i64 a1]), .v (.one (.int .i64 a2)), .v (.one (.int .i64 a3))] => zq148 a0 a1 a2 a3 (fun z4 z5 => K (.v (.agg [.int .i64 z4, .int .i64 z5])))
 | _ => none
def Vm (N : Nat) : Rv.Spec β := yr (er N) N
def QQ (N : Nat) : Env β := ⟨[], [], [], [], ⟨[], [], [], []⟩⟩
def Xh (N : Nat) : Env β := QQ N
theorem PP (N : Nat) (a0 a1 a2 a3 : Int) (K : TV → O β) : aQ lay (QQ N) Tryz.f210 [.v (.agg [.int .i64 a0, .int .i64 a1]), (Z' a2), (Z' a3)] K = EF N a0 a1 a2 a3 (fun z4 z5 => K (.v (.agg [.int .i64 z4, .int .i64 z5]))) := by kernel_rfl
theorem SW (N : Nat) : ap (β := β) inv Tryz.prog 210 (Vm N) := by
 refine aq ax mixed (E := Xh N) (af ai) ak aA Tryz.func210 (by kernel_rfl) 0 (by kernel_rfl) trivial fun args K r h => ?_
 unfold Vm yr at h
 split at h
 ·exact (PP N _ _ _ _ _).trans h
 ·cases h
end Go.Proofs.YtemihnclhcobnaaGreatDoor
