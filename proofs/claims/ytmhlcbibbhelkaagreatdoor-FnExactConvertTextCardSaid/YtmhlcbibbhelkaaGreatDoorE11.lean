/- The functions that the claims cZ bz as their texts do. -/
import Derived.Test.YtmhlcbibbhelkaaGreatDoorE10
namespace Go.Proofs.YtmhlcbibbhelkaaGreatDoor
set_option linter.unusedSimpArgs false
open Go.Rv
set_option maxRecDepth 100000
set_option maxHeartbeats 2000000
set_option linter.unusedVariables false
variable {β : Type}
variable (zq2 : Y2 β) (aeU : Y54 β) (afY : abr β) (afe : Y54 β) (aff : abu β) (afg : abt β) (aeV : Y56 β) (afZ : abw β) (aem : abv β)
def Kg (N : Nat) : Rv.Spec β := fun args K => match args with
 | [.v (.agg [.int .i64 a0, .int .i64 a1]), .v (.agg [.int .i64 a2, .int .i64 a3])] => afe a0 a1 a2 a3 (fun z4 => K (.v (.one (.bool z4))))
 | _ => none
def aao (N : Nat) : Rv.Spec β := Kg (rF N) N
def gP (v0 v1 v2 v3 v4 v5 : Int) : St := ⟨ac :: ac :: .v (.one (.ptr 0 0)) :: .v (.one (.ptr 1 0)) :: tn 8 ((Z' v0) :: (Z' v1) :: tn 23 []), [.cells 26 [.int .i64 v2, .int .i64 v3], .cells 46 [.int .i64 v4, .int .i64 v5]]⟩
def j6 (y0 : Bool) : St := ⟨tn 4 (.v (.one (.bool y0)) :: tn 32 []), []⟩
def j7 : St := ⟨tn 37 [], []⟩
def tO {γ : Type} (f : Int → Int → Int → Int → Int → Int → γ) (s : St) : γ := f (af (ah (vT (nx ac s.tmps 12)))) (af (ah (vT (nx ac s.tmps 13)))) (af (nx .und (aj (nx .dead s.blks 0)) 0)) (af (nx .und (aj (nx .dead s.blks 0)) 1)) (af (nx .und (aj (nx .dead s.blks 1)) 0)) (af (nx .und (aj (nx .dead s.blks 1)) 1))
theorem Hz (s : St) : aP (gP 0 0 0 0 0 0) s = tO gP s := by kernel_rfl
def Au (N : Nat) : ax β := fun s K => cond (aJ (gP 0 0 0 0 0 0) s) (tO (fun v0 v1 v2 v3 v4 v5 => afY N v0 v1 v2 v3 v4 v5 (fun y0 => K .ret (j6 y0)) (K (.exit 0) (j7 ))) s) (none)
def PS (N : Nat) : ax β := Au (mv N) N
def J9 (N : Nat) : Env β := ⟨[(123, Km aeU N)], [], [(0, Au afY N)], [], ⟨[], [], [], []⟩⟩
def PM (N : Nat) : Env β := J9 (rE N) (mv N) N
theorem Ed (N : Nat) (v0 v1 v2 v3 v4 v5 : Int) (rec_ : St → O β) (K : Exit → St → O β) :
  stB lay (J9 aeU afY N) Tryz.f102 0 (gP v0 v1 v2 v3 v4 v5) rec_ K = GU aeU N v0 v1 v2 v3 v4 v5 (fun v0 v1 v2 v3 v4 v5 => rec_ (gP v0 v1 v2 v3 v4 v5)) (fun y0 => K .ret (j6 y0)) (K (.exit 0) (j7 )) := by kernel_rfl
theorem H5 (N : Nat) (K : Exit → St → O β) : ∀ (F : Nat) (v0 v1 v2 v3 v4 v5 : Int), (lp Tryz.f102 0).rounds lay (PM N) (ai Tryz.f102) F (gP v0 v1 v2 v3 v4 v5) K = mv N F v0 v1 v2 v3 v4 v5 (fun y0 => K .ret (j6 y0)) (K (.exit 0) (j7 )) := by
 intro F; induction F with
 | zero => intros; rfl
 | succ F ih => intros; rw [am]; refine (Ed (rE N) (mv N) N _ _ _ _ _ _ (fun s => (lp Tryz.f102 0).rounds lay (PM N) (ai Tryz.f102) F s K) K).trans ?_; simp only [ih]; rfl
theorem QT (N : Nat) : aS (PM (β := β) N).loops (lp Tryz.f102 0).id = PS N := by kernel_rfl
theorem Ro (N : Nat) : ay lay (PM (β := β) N) (ai Tryz.f102) (lp Tryz.f102 0) := rks (QT ..) (rc1 (fun s K hb => ⟨N, by rw [← ar hb, Hz s]; unfold tO; exact H5 N K N _ _ _ _ _ _⟩) rc0)
theorem RL (N : Nat) (a0 a1 a2 a3 : Int) (K : TV → O β) : aL lay (J9 aeU afY N) Tryz.f102 [.v (.agg [.int .i64 a0, .int .i64 a1]), .v (.agg [.int .i64 a2, .int .i64 a3])] K = OS aeU afY N a0 a1 a2 a3 (fun z4 => K (.v (.one (.bool z4)))) := by kernel_rfl
theorem adj (N : Nat) : ao (β := β) inv Tryz.prog 102 (aao N) := by
 refine ap au mixed (E := PM N) (ae (aa (adr N) ag)) ak av Tryz.func102 (by kernel_rfl) 1 (by kernel_rfl) ⟨trivial, Ro N⟩ fun args K r h => ?_
 unfold aao Kg at h
 split at h
 ·exact (RL (rE N) (mv N) N _ _ _ _ _).trans h
 ·cases h
def Vo (N : Nat) : Rv.Spec β := fun args K => match args with
 | [.v (.agg [.int .i64 a0, .int .i64 a1])] => aeV a0 a1 (fun z2 => K (.v (.one (.fsl 46 (.pairs z2)))))
 | _ => none
def S68 (N : Nat) : Rv.Spec β := Vo (pZ N) N
def lw (v0 v1 v2 v3 : Int) (v4 : List (Int × Int)) : St := ⟨ac :: .v (.one (.ptr 0 0)) :: ac :: .v (.one (.row 1)) :: tn 4 ((Z' v0) :: (Z' v1) :: tn 26 []), [.cells 26 [.int .i64 v2, .int .i64 v3], .row 46 (.pairs v4)]⟩
def oe (y0 : List (Int × Int)) : St := ⟨tn 3 (.v (.one (.row 0)) :: tn 32 []), [.row 46 (.pairs y0)]⟩
def iQ (v0 v1 v2 v3 v4 v5 v6 : Int) (v7 : List (Int × Int)) : St := ⟨ac :: .v (.one (.ptr 0 0)) :: ac :: .v (.one (.row 1)) :: (Z' v0) :: tn 3 ((Z' v1) :: (Z' v2) :: tn 3 ((Z' v3) :: (Z' v4) :: tn 21 [])), [.cells 26 [.int .i64 v5, .int .i64 v6], .row 46 (.pairs v7)]⟩
def og (y0 y1 y2 y3 : Int) (y4 : List (Int × Int)) : St := ⟨ac :: .v (.one (.ptr 0 0)) :: ac :: .v (.one (.row 1)) :: tn 4 ((Z' y0) :: (Z' y1) :: tn 26 []), [.cells 26 [.int .i64 y2, .int .i64 y3], .row 46 (.pairs y4)]⟩
def zB {γ : Type} (f : Int → Int → Int → Int → (List (Int × Int)) → γ) (s : St) : γ := f (af (ah (vT (nx ac s.tmps 8)))) (af (ah (vT (nx ac s.tmps 9)))) (af (nx .und (aj (nx .dead s.blks 0)) 0)) (af (nx .und (aj (nx .dead s.blks 0)) 1)) (bc (bh (nx .dead s.blks 1)))
theorem LC (s : St) : aP (lw 0 0 0 0 []) s = zB lw s := by kernel_rfl
def EX (N : Nat) : ax β := fun s K => cond (aJ (lw 0 0 0 0 []) s) (zB (fun v0 v1 v2 v3 v4 => afg N v0 v1 v2 v3 v4 (fun y0 => K (.exit 0) (oe y0))) s) (none)
def Ug (N : Nat) : ax β := EX (iq N) N
def Rf {γ : Type} (f : Int → Int → Int → Int → Int → Int → Int → (List (Int × Int)) → γ) (s : St) : γ := f (af (ah (vT (nx ac s.tmps 4)))) (af (ah (vT (nx ac s.tmps 8)))) (af (ah (vT (nx ac s.tmps 9)))) (af (ah (vT (nx ac s.tmps 13)))) (af (ah (vT (nx ac s.tmps 14)))) (af (nx .und (aj (nx .dead s.blks 0)) 0)) (af (nx .und (aj (nx .dead s.blks 0)) 1)) (bc (bh (nx .dead s.blks 1)))
theorem LD (s : St) : aP (iQ 0 0 0 0 0 0 0 []) s = Rf iQ s := by kernel_rfl
def xO (N : Nat) : ax β := fun s K => cond (aJ (iQ 0 0 0 0 0 0 0 []) s) ((fun (v0 v1 v2 v3 v4 v5 v6 : Int) (v7 : List (Int × Int)) => aff N v0 v1 v2 v3 v4 v5 v6 v7 (fun y0 y1 y2 y3 y4 => K (.exit 2) (og y0 y1 y2 y3 y4))) (af (ah (vT (nx ac s.tmps 4)))) (af (ah (vT (nx ac s.tmps 8)))) (af (ah (vT (nx ac s.tmps 9)))) (af (ah (vT (nx ac s.tmps 13)))) (af (ah (vT (nx ac s.tmps 14)))) (af (nx .und (aj (nx .dead s.blks 0)) 0)) (af (nx .und (aj (nx .dead s.blks 0)) 1)) (bc (bh (nx .dead s.blks 1)))) (none)
def JO (N : Nat) : ax β := xO (kt N) N
def P5 (N : Nat) : Env β := ⟨[(65, xS zq2 N), (102, Kg afe N)], [], [(0, EX afg N), (2, xO aff N)], [], ⟨[], [], [], []⟩⟩
def E68 (N : Nat) : Env β := P5 (zj2 N) (rF N) (kt N) (iq N) N
theorem Jc (N : Nat) (v0 v1 v2 v3 : Int) (v4 : List (Int × Int)) (rec_ : St → O β) (K : Exit → St → O β) :
  stB lay (P5 zq2 afe aff afg N) Tryz.f68 0 (lw v0 v1 v2 v3 v4) rec_ K = GW aff N v0 v1 v2 v3 v4 (fun v0 v1 v2 v3 v4 => rec_ (lw v0 v1 v2 v3 v4)) (fun y0 => K (.exit 0) (oe y0)) := by kernel_rfl
theorem Nz (N : Nat) (K : Exit → St → O β) : ∀ (F : Nat) (v0 v1 v2 v3 : Int) (v4 : List (Int × Int)), (lp Tryz.f68 0).rounds lay (E68 N) (ai Tryz.f68) F (lw v0 v1 v2 v3 v4) K = iq N F v0 v1 v2 v3 v4 (fun y0 => K (.exit 0) (oe y0)) := by
 intro F; induction F with
 | zero => intros; rfl
 | succ F ih => intros; rw [am]; refine (Jc (zj2 N) (rF N) (kt N) (iq N) N _ _ _ _ _ (fun s => (lp Tryz.f68 0).rounds lay (E68 N) (ai Tryz.f68) F s K) K).trans ?_; simp only [ih]; rfl
theorem Ww (N : Nat) : aS (E68 (β := β) N).loops (lp Tryz.f68 0).id = Ug N := by kernel_rfl
theorem XE (N : Nat) : ay lay (E68 (β := β) N) (ai Tryz.f68) (lp Tryz.f68 0) := rks (Ww ..) (rc1 (fun s K hb => ⟨N, by rw [← ar hb, LC s]; unfold zB; exact Nz N K N _ _ _ _ _⟩) rc0)
theorem Jd (N : Nat) (v0 v1 v2 v3 v4 v5 v6 : Int) (v7 : List (Int × Int)) (rec_ : St → O β) (K : Exit → St → O β) :
  stB lay (P5 zq2 afe aff afg N) Tryz.f68 1 (iQ v0 v1 v2 v3 v4 v5 v6 v7) rec_ K = GV afe N v0 v1 v2 v3 v4 v5 v6 v7 (fun v0 v1 v2 v3 v4 v5 v6 v7 => rec_ (iQ v0 v1 v2 v3 v4 v5 v6 v7)) (fun y0 y1 y2 y3 y4 => K (.exit 2) (og y0 y1 y2 y3 y4)) := by kernel_rfl
theorem NA (N : Nat) (K : Exit → St → O β) : ∀ (F : Nat) (v0 v1 v2 v3 v4 v5 v6 : Int) (v7 : List (Int × Int)), (lp Tryz.f68 1).rounds lay (E68 N) (ai Tryz.f68) F (iQ v0 v1 v2 v3 v4 v5 v6 v7) K = kt N F v0 v1 v2 v3 v4 v5 v6 v7 (fun y0 y1 y2 y3 y4 => K (.exit 2) (og y0 y1 y2 y3 y4)) := by
 intro F; induction F with
 | zero => intros; rfl
 | succ F ih => intros; rw [am]; refine (Jd (zj2 N) (rF N) (kt N) (iq N) N _ _ _ _ _ _ _ _ (fun s => (lp Tryz.f68 1).rounds lay (E68 N) (ai Tryz.f68) F s K) K).trans ?_; simp only [ih]; rfl
theorem Wx (N : Nat) : aS (E68 (β := β) N).loops (lp Tryz.f68 1).id = JO N := by kernel_rfl
theorem XF (N : Nat) : ay lay (E68 (β := β) N) (ai Tryz.f68) (lp Tryz.f68 1) := by
 intro s K r h
 rw [Wx] at h
 unfold JO xO at h
 cases hb : aJ (iQ 0 0 0 0 0 0 0 []) s with
 | true =>
  rw [hb, agY] at h
  exact ⟨N, by rw [← ar hb, LD s]; exact (NA N K N (af (ah (vT (nx ac s.tmps 4)))) (af (ah (vT (nx ac s.tmps 8)))) (af (ah (vT (nx ac s.tmps 9)))) (af (ah (vT (nx ac s.tmps 13)))) (af (ah (vT (nx ac s.tmps 14)))) (af (nx .und (aj (nx .dead s.blks 0)) 0)) (af (nx .und (aj (nx .dead s.blks 0)) 1)) (bc (bh (nx .dead s.blks 1)))).trans h⟩
 | false =>
 rw [hb, agX] at h
 clear hb
 cases h
theorem Zf (N : Nat) (a0 a1 : Int) (K : TV → O β) : aL lay (P5 zq2 afe aff afg N) Tryz.f68 [.v (.agg [.int .i64 a0, .int .i64 a1])] (LR K) = OT zq2 afg N a0 a1 (fun z2 => K (.v (.one (.fsl 46 (.pairs z2))))) := by kernel_rfl
theorem o68 (N : Nat) : ao (β := β) inv Tryz.prog 68 (S68 N) := by
 refine Cj au mixed (E := E68 N) (ae (aa (o65 N) (aa (adj N) ag))) ak av Tryz.func68 (by kernel_rfl) 2 (by kernel_rfl) ⟨⟨trivial, XE N⟩, XF N⟩ fun args K r h => ?_
 unfold S68 Vo at h
 split at h
 ·exact (Zf (zj2 N) (rF N) (kt N) (iq N) N _ _ _).trans h
 ·cases h
def AL (N G : Nat) : Rv.Spec β := fun args K => match args with
 | [.v (.one (.sl 3 (.ints .i64 a0))), .v (.one (.int .i64 a1)), .v (.one (.int .i64 a2)), .v (.one (.int .i64 a3)), .v (.one (.int .i64 a4))] => aem G a0 a1 a2 a3 a4 (fun z5 z6 => K (.tup [.one (.sl 3 (.ints .i64 z5)), .one (.bool z6)]))
 | _ => none
def JY (N G : Nat) : Rv.Spec β := AL (eG N) N G
def acX (N : Nat) : Rv.Spec β := AL aem N N
def S69 (N : Nat) : Rv.Spec β := JY N N
def lx (v0 : List Int) (v1 v2 v3 v4 : Int) : St := ⟨.v (.one (.sl 3 (.ints .i64 v0))) :: (Z' v1) :: (Z' v2) :: ac :: (Z' v3) :: tn 7 ((Z' v4) :: tn 44 []), []⟩
def oh (y0 : Bool) (y1 : List Int) : St := ⟨tn 10 (.v (.one (.row 0)) :: .v (.one (.bool y0)) :: tn 45 []), [.row 3 (.ints .i64 y1)]⟩
def ol : St := ⟨tn 57 [], []⟩
def zC {γ : Type} (f : List Int → Int → Int → Int → Int → γ) (s : St) : γ := f (aY (bF (ah (vT (nx ac s.tmps 0))))) (af (ah (vT (nx ac s.tmps 1)))) (af (ah (vT (nx ac s.tmps 2)))) (af (ah (vT (nx ac s.tmps 4)))) (af (ah (vT (nx ac s.tmps 12))))
theorem LE (s : St) : aP (lx [] 0 0 0 0) s = zC lx s := by kernel_rfl
def EY (N G : Nat) : ax β := fun s K => cond (aJ (lx [] 0 0 0 0) s) (zC (fun v0 v1 v2 v3 v4 => afZ (aem G) N v0 v1 v2 v3 v4 (fun y0 y1 => K .ret (oh y0 y1)) (K (.exit 0) (ol ))) s) (none)
def Uh (N G : Nat) : ax β := EY (mw N) (eG N) N G
def UN (N G : Nat) : Env β := ⟨[(69, AL aem N G)], [], [(0, EY afZ aem N G)], [], ⟨[], [], [], []⟩⟩
def E69 (N G : Nat) : Env β := UN (mw N) (eG N) N G
theorem Je (N G : Nat) (v0 : List Int) (v1 v2 v3 v4 : Int) (rec_ : St → O β) (K : Exit → St → O β) :
  stB lay (UN afZ aem N G) Tryz.f69 0 (lx v0 v1 v2 v3 v4) rec_ K = GX N (aem G) v0 v1 v2 v3 v4 (fun v0 v1 v2 v3 v4 => rec_ (lx v0 v1 v2 v3 v4)) (fun y0 y1 => K .ret (oh y0 y1)) (K (.exit 0) (ol )) := by kernel_rfl
theorem NB (N G : Nat) (K : Exit → St → O β) : ∀ (F : Nat) (v0 : List Int) (v1 v2 v3 v4 : Int), (lp Tryz.f69 0).rounds lay (E69 N G) (ai Tryz.f69) F (lx v0 v1 v2 v3 v4) K = mw N (eG N G) F v0 v1 v2 v3 v4 (fun y0 y1 => K .ret (oh y0 y1)) (K (.exit 0) (ol )) := by
 intro F; induction F with
 | zero => intros; rfl
 | succ F ih => intros; rw [am]; refine (Je (mw N) (eG N) N G _ _ _ _ _ (fun s => (lp Tryz.f69 0).rounds lay (E69 N G) (ai Tryz.f69) F s K) K).trans ?_; simp only [ih]; rfl
theorem Wy (N G : Nat) : aS (E69 (β := β) N G).loops (lp Tryz.f69 0).id = Uh N G := by kernel_rfl
theorem XG (N G : Nat) : ay lay (E69 (β := β) N G) (ai Tryz.f69) (lp Tryz.f69 0) := rks (Wy ..) (rc1 (fun s K hb => ⟨N, by rw [← ar hb, LE s]; unfold zC; exact NB N _ K N _ _ _ _ _⟩) rc0)
theorem Zg (N G : Nat) (a0 : List Int) (a1 a2 a3 a4 : Int) (K : TV → O β) : aL lay (UN afZ aem N G) Tryz.f69 [.v (.one (.sl 3 (.ints .i64 a0))), (Z' a1), (Z' a2), (Z' a3), (Z' a4)] K = GY afZ N (aem G) a0 a1 a2 a3 a4 (fun z5 z6 => K (.tup [.one (.sl 3 (.ints .i64 z5)), .one (.bool z6)])) := by kernel_rfl
theorem z69 (N : Nat) : ∀ args K r, JY (β := β) N 0 args K = some r → (none : O β) = some r := by
 intro args K r h
 unfold JY AL at h
 split at h <;> exact h
theorem adA (N : Nat) : ∀ G, ao (β := β) inv Tryz.prog 69 (JY N G) := by
 intro G
 induction G with
 | zero => exact dG Tryz.func69 (by kernel_rfl) (z69 N)
 | succ G ih =>
  refine ap au mixed (E := E69 N G) (ae (aa ih ag)) ak av Tryz.func69 (by kernel_rfl) 1 (by kernel_rfl) ⟨trivial, XG N G⟩ fun args K r h => ?_
  unfold JY AL at h
  split at h
  ·exact (Zg (mw N) (eG N) N G _ _ _ _ _ _).trans h
  ·cases h
theorem o69 (N : Nat) : ao (β := β) inv Tryz.prog 69 (S69 N) := adA N N
end Go.Proofs.YtmhlcbibbhelkaaGreatDoor
