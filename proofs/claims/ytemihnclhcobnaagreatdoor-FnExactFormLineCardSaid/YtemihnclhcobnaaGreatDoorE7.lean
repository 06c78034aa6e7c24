/- The functions that the claims dl bK as their texts do. -/
import Derived.Test.YtemihnclhcobnaaGreatDoorE6
namespace Go.Proofs.YtemihnclhcobnaaGreatDoor
set_option linter.unusedSimpArgs false
open Go.Rv
set_option maxRecDepth 100000
set_option maxHeartbeats 2000000
set_option linter.unusedVariables false
variable {β : Type}
variable (zq0 : Y0 β) (zq11 : Y6 β) (zq12 : Y7 β) (zq16 : Y1 β) (zq19 : Y10 β) (zq121 : Y18 β) (zq123 : Y61 β) (zq124 : Y18 β) (zq126 : Y63 β) (zq128 : Y62 β) (zq129 : Y20 β) (zq130 : Y64 β) (zq132 : Y66 β) (zq134 : Y65 β)
def H6 (N : Nat) : Rv.Spec β := fun args K => match args with
 | [.v (.agg [.int .i64 a0, .int .i64 a1]), .v (.agg [.int .i64 a2, .int .i64 a3])] => zq124 a0 a1 a2 a3 (fun z4 => K (.v (.one (.bool z4))))
 | _ => none
def U6 (N : Nat) : Rv.Spec β := H6 (pA N) N
def gM (v0 v1 v2 v3 v4 v5 : Int) : St := ⟨ac :: ac :: .v (.one (.ptr 0 0)) :: .v (.one (.ptr 1 0)) :: tn 8 ((Z' v0) :: (Z' v1) :: tn 23 []), [.cells 25 [.int .i64 v2, .int .i64 v3], .cells 93 [.int .i64 v4, .int .i64 v5]]⟩
def kt (y0 : Bool) : St := ⟨tn 4 (.v (.one (.bool y0)) :: tn 32 []), []⟩
def ku : St := ⟨tn 37 [], []⟩
def rJ {γ : Type} (f : Int → Int → Int → Int → Int → Int → γ) (s : St) : γ := f (ae (ag (vT (nx ac s.tmps 12)))) (ae (ag (vT (nx ac s.tmps 13)))) (ae (nx .und (ao (nx .dead s.blks 0)) 0)) (ae (nx .und (ao (nx .dead s.blks 0)) 1)) (ae (nx .und (ao (nx .dead s.blks 1)) 0)) (ae (nx .und (ao (nx .dead s.blks 1)) 1))
theorem FB (s : St) : aT (gM 0 0 0 0 0 0) s = rJ gM s := by kernel_rfl
def xV (N : Nat) : ay β := fun s K => cond (aK (gM 0 0 0 0 0 0) s) (rJ (fun v0 v1 v2 v3 v4 v5 => zq123 N v0 v1 v2 v3 v4 v5 (fun y0 => K .ret (kt y0)) (K (.exit 0) (ku ))) s) (none)
def Mv (N : Nat) : ay β := xV (l3 N) N
def HL (N : Nat) : Env β := ⟨[(216, Ig zq121 N)], [], [(0, xV zq123 N)], [], ⟨[], [], [], []⟩⟩
def L3 (N : Nat) : Env β := HL (pz N) (l3 N) N
theorem Cp (N : Nat) (v0 v1 v2 v3 v4 v5 : Int) (rec_ : St → O β) (K : Exit → St → O β) :
  stB lay (HL zq121 zq123 N) Tryz.f154 0 (gM v0 v1 v2 v3 v4 v5) rec_ K = Ew zq121 N v0 v1 v2 v3 v4 v5 (fun v0 v1 v2 v3 v4 v5 => rec_ (gM v0 v1 v2 v3 v4 v5)) (fun y0 => K .ret (kt y0)) (K (.exit 0) (ku )) := by kernel_rfl
theorem GD (N : Nat) (K : Exit → St → O β) : ∀ (F : Nat) (v0 v1 v2 v3 v4 v5 : Int), (lp Tryz.f154 0).rounds lay (L3 N) (ah Tryz.f154) F (gM v0 v1 v2 v3 v4 v5) K = l3 N F v0 v1 v2 v3 v4 v5 (fun y0 => K .ret (kt y0)) (K (.exit 0) (ku )) := by
 intro F; induction F with
 | zero => intros; rfl
 | succ F ih => intros; rw [am]; refine (Cp (pz N) (l3 N) N _ _ _ _ _ _ (fun s => (lp Tryz.f154 0).rounds lay (L3 N) (ah Tryz.f154) F s K) K).trans ?_; simp only [ih]; rfl
theorem NF (N : Nat) : aS (L3 (β := β) N).loops (lp Tryz.f154 0).id = Mv N := by kernel_rfl
theorem OB (N : Nat) : az lay (L3 (β := β) N) (ah Tryz.f154) (lp Tryz.f154 0) := rks (NF ..) (rc1 (fun s K hb => ⟨N, by rw [← ar hb, FB s]; unfold rJ; exact GD N K N _ _ _ _ _ _⟩) rc0)
theorem Pw (N : Nat) (a0 a1 a2 a3 : Int) (K : TV → O β) : aQ lay (HL zq121 zq123 N) Tryz.f154 [.v (.agg [.int .i64 a0, .int .i64 a1]), .v (.agg [.int .i64 a2, .int .i64 a3])] K = KU zq121 zq123 N a0 a1 a2 a3 (fun z4 => K (.v (.one (.bool z4)))) := by kernel_rfl
theorem XS (N : Nat) : ap (β := β) inv Tryz.prog 154 (U6 N) := by
 refine aq ax mixed (E := L3 N) (af (aa (X5 N) ai)) ak aA Tryz.func154 (by kernel_rfl) 1 (by kernel_rfl) ⟨trivial, OB N⟩ fun args K r h => ?_
 unfold U6 H6 at h
 split at h
 ·exact (Pw (pz N) (l3 N) N _ _ _ _ _).trans h
 ·cases h
def Iq (N : Nat) : Rv.Spec β := fun args K => match args with
 | [.v (.agg [.int .i64 a0, .int .i64 a1])] => zq129 a0 a1 (fun z2 => K (.v (.one (.fsl 93 (.pairs z2)))))
 | _ => none
def S86 (N : Nat) : Rv.Spec β := Iq (ep N) N
def lz (v0 v1 v2 v3 : Int) (v4 : List (Int × Int)) : St := ⟨ac :: .v (.one (.ptr 0 0)) :: ac :: .v (.one (.row 1)) :: tn 4 ((Z' v0) :: (Z' v1) :: tn 26 []), [.cells 25 [.int .i64 v2, .int .i64 v3], .row 93 (.pairs v4)]⟩
def mT (y0 : List (Int × Int)) : St := ⟨tn 3 (.v (.one (.row 0)) :: tn 32 []), [.row 93 (.pairs y0)]⟩
def iI (v0 v1 v2 v3 v4 v5 v6 : Int) (v7 : List (Int × Int)) : St := ⟨ac :: .v (.one (.ptr 0 0)) :: ac :: .v (.one (.row 1)) :: (Z' v0) :: tn 3 ((Z' v1) :: (Z' v2) :: tn 3 ((Z' v3) :: (Z' v4) :: tn 21 [])), [.cells 25 [.int .i64 v5, .int .i64 v6], .row 93 (.pairs v7)]⟩
def mU (y0 y1 y2 y3 : Int) (y4 : List (Int × Int)) : St := ⟨ac :: .v (.one (.ptr 0 0)) :: ac :: .v (.one (.row 1)) :: tn 4 ((Z' y0) :: (Z' y1) :: tn 26 []), [.cells 25 [.int .i64 y2, .int .i64 y3], .row 93 (.pairs y4)]⟩
def wT {γ : Type} (f : Int → Int → Int → Int → (List (Int × Int)) → γ) (s : St) : γ := f (ae (ag (vT (nx ac s.tmps 8)))) (ae (ag (vT (nx ac s.tmps 9)))) (ae (nx .und (ao (nx .dead s.blks 0)) 0)) (ae (nx .und (ao (nx .dead s.blks 0)) 1)) (aL (aV (nx .dead s.blks 1)))
theorem I2 (s : St) : aT (lz 0 0 0 0 []) s = wT lz s := by kernel_rfl
def Da (N : Nat) : ay β := fun s K => cond (aK (lz 0 0 0 0 []) s) (wT (fun v0 v1 v2 v3 v4 => zq128 N v0 v1 v2 v3 v4 (fun y0 => K (.exit 0) (mT y0))) s) (none)
def RA (N : Nat) : ay β := Da (io N) N
def N5 {γ : Type} (f : Int → Int → Int → Int → Int → Int → Int → (List (Int × Int)) → γ) (s : St) : γ := f (ae (ag (vT (nx ac s.tmps 4)))) (ae (ag (vT (nx ac s.tmps 8)))) (ae (ag (vT (nx ac s.tmps 9)))) (ae (ag (vT (nx ac s.tmps 13)))) (ae (ag (vT (nx ac s.tmps 14)))) (ae (nx .und (ao (nx .dead s.blks 0)) 0)) (ae (nx .und (ao (nx .dead s.blks 0)) 1)) (aL (aV (nx .dead s.blks 1)))
theorem I3 (s : St) : aT (iI 0 0 0 0 0 0 0 []) s = N5 iI s := by kernel_rfl
def vO (N : Nat) : ay β := fun s K => cond (aK (iI 0 0 0 0 0 0 0 []) s) ((fun (v0 v1 v2 v3 v4 v5 v6 : Int) (v7 : List (Int × Int)) => zq126 N v0 v1 v2 v3 v4 v5 v6 v7 (fun y0 y1 y2 y3 y4 => K (.exit 2) (mU y0 y1 y2 y3 y4))) (ae (ag (vT (nx ac s.tmps 4)))) (ae (ag (vT (nx ac s.tmps 8)))) (ae (ag (vT (nx ac s.tmps 9)))) (ae (ag (vT (nx ac s.tmps 13)))) (ae (ag (vT (nx ac s.tmps 14)))) (ae (nx .und (ao (nx .dead s.blks 0)) 0)) (ae (nx .und (ao (nx .dead s.blks 0)) 1)) (aL (aV (nx .dead s.blks 1)))) (none)
def HB (N : Nat) : ay β := vO (kV N) N
def MN (N : Nat) : Env β := ⟨[(100, oZ zq12 N), (154, H6 zq124 N)], [], [(0, Da zq128 N), (2, vO zq126 N)], [], ⟨[], [], [], []⟩⟩
def E86 (N : Nat) : Env β := MN (db N) (pA N) (kV N) (io N) N
theorem Hn (N : Nat) (v0 v1 v2 v3 : Int) (v4 : List (Int × Int)) (rec_ : St → O β) (K : Exit → St → O β) :
  stB lay (MN zq12 zq124 zq126 zq128 N) Tryz.f86 0 (lz v0 v1 v2 v3 v4) rec_ K = Ey zq126 N v0 v1 v2 v3 v4 (fun v0 v1 v2 v3 v4 => rec_ (lz v0 v1 v2 v3 v4)) (fun y0 => K (.exit 0) (mT y0)) := by kernel_rfl
theorem Ke (N : Nat) (K : Exit → St → O β) : ∀ (F : Nat) (v0 v1 v2 v3 : Int) (v4 : List (Int × Int)), (lp Tryz.f86 0).rounds lay (E86 N) (ah Tryz.f86) F (lz v0 v1 v2 v3 v4) K = io N F v0 v1 v2 v3 v4 (fun y0 => K (.exit 0) (mT y0)) := by
 intro F; induction F with
 | zero => intros; rfl
 | succ F ih => intros; rw [am]; refine (Hn (db N) (pA N) (kV N) (io N) N _ _ _ _ _ (fun s => (lp Tryz.f86 0).rounds lay (E86 N) (ah Tryz.f86) F s K) K).trans ?_; simp only [ih]; rfl
theorem SA (N : Nat) : aS (E86 (β := β) N).loops (lp Tryz.f86 0).id = RA N := by kernel_rfl
theorem Th (N : Nat) : az lay (E86 (β := β) N) (ah Tryz.f86) (lp Tryz.f86 0) := rks (SA ..) (rc1 (fun s K hb => ⟨N, by rw [← ar hb, I2 s]; unfold wT; exact Ke N K N _ _ _ _ _⟩) rc0)
theorem Ho (N : Nat) (v0 v1 v2 v3 v4 v5 v6 : Int) (v7 : List (Int × Int)) (rec_ : St → O β) (K : Exit → St → O β) :
  stB lay (MN zq12 zq124 zq126 zq128 N) Tryz.f86 1 (iI v0 v1 v2 v3 v4 v5 v6 v7) rec_ K = Ex zq124 N v0 v1 v2 v3 v4 v5 v6 v7 (fun v0 v1 v2 v3 v4 v5 v6 v7 => rec_ (iI v0 v1 v2 v3 v4 v5 v6 v7)) (fun y0 y1 y2 y3 y4 => K (.exit 2) (mU y0 y1 y2 y3 y4)) := by kernel_rfl
theorem Kf (N : Nat) (K : Exit → St → O β) : ∀ (F : Nat) (v0 v1 v2 v3 v4 v5 v6 : Int) (v7 : List (Int × Int)), (lp Tryz.f86 1).rounds lay (E86 N) (ah Tryz.f86) F (iI v0 v1 v2 v3 v4 v5 v6 v7) K = kV N F v0 v1 v2 v3 v4 v5 v6 v7 (fun y0 y1 y2 y3 y4 => K (.exit 2) (mU y0 y1 y2 y3 y4)) := by
 intro F; induction F with
 | zero => intros; rfl
 | succ F ih => intros; rw [am]; refine (Ho (db N) (pA N) (kV N) (io N) N _ _ _ _ _ _ _ _ (fun s => (lp Tryz.f86 1).rounds lay (E86 N) (ah Tryz.f86) F s K) K).trans ?_; simp only [ih]; rfl
theorem SD (N : Nat) : aS (E86 (β := β) N).loops (lp Tryz.f86 1).id = HB N := by kernel_rfl
theorem Ti (N : Nat) : az lay (E86 (β := β) N) (ah Tryz.f86) (lp Tryz.f86 1) := by
 intro s K r h
 rw [SD] at h
 unfold HB vO at h
 cases hb : aK (iI 0 0 0 0 0 0 0 []) s with
 | true =>
  rw [hb, YC] at h
  exact ⟨N, by rw [← ar hb, I3 s]; exact (Kf N K N (ae (ag (vT (nx ac s.tmps 4)))) (ae (ag (vT (nx ac s.tmps 8)))) (ae (ag (vT (nx ac s.tmps 9)))) (ae (ag (vT (nx ac s.tmps 13)))) (ae (ag (vT (nx ac s.tmps 14)))) (ae (nx .und (ao (nx .dead s.blks 0)) 0)) (ae (nx .und (ao (nx .dead s.blks 0)) 1)) (aL (aV (nx .dead s.blks 1)))).trans h⟩
 | false =>
 rw [hb, YB] at h
 clear hb
 cases h
theorem TX (N : Nat) (a0 a1 : Int) (K : TV → O β) : aQ lay (MN zq12 zq124 zq126 zq128 N) Tryz.f86 [.v (.agg [.int .i64 a0, .int .i64 a1])] (I5 K) = KV zq12 zq128 N a0 a1 (fun z2 => K (.v (.one (.fsl 93 (.pairs z2))))) := by kernel_rfl
theorem o86 (N : Nat) : ap (β := β) inv Tryz.prog 86 (S86 N) := by
 refine Af ax mixed (E := E86 N) (af (aa (F9 N) (aa (XS N) ai))) ak aA Tryz.func86 (by kernel_rfl) 2 (by kernel_rfl) ⟨⟨trivial, Th N⟩, Ti N⟩ fun args K r h => ?_
 unfold S86 Iq at h
 split at h
 ·exact (TX (db N) (pA N) (kV N) (io N) N _ _ _).trans h
 ·cases h
def Dd (N : Nat) : Rv.Spec β := fun args K => match args with
 | [.v (.one (.int .i64 a0)), .v (.one (.sl 93 (.pairs a1)))] => zq130 a0 a1 (fun z2 z3 => K (.v (.agg [.int .i64 z2, .int .i64 z3])))
 | _ => none
def UX (N : Nat) : Rv.Spec β := Dd (fy N) N
def QG (N : Nat) : Env β := ⟨[(129, ym zq0 zq11 zq16 zq19 N), (193, Dk zq11 N)], [], [], [], ⟨[], [], [], []⟩⟩
def W6 (N : Nat) : Env β := QG (zj0 N) (il N) (iZ N) (pH N) N
theorem Pk (N : Nat) (a0 : Int) (a1 : List (Int × Int)) (K : TV → O β) : aQ lay (QG zq0 zq11 zq16 zq19 N) Tryz.f136 [(Z' a0), .v (.one (.sl 93 (.pairs a1)))] K = Ez zq11 zq19 N a0 a1 (fun z2 z3 => K (.v (.agg [.int .i64 z2, .int .i64 z3]))) := by kernel_rfl
theorem We (N : Nat) : ap (β := β) inv Tryz.prog 136 (UX N) := by
 refine aq ax mixed (E := W6 N) (af (aa (SK N) (aa (Wl N) ai))) ak aA Tryz.func136 (by kernel_rfl) 0 (by kernel_rfl) trivial fun args K r h => ?_
 unfold UX Dd at h
 split at h
 ·exact (Pk (zj0 N) (il N) (iZ N) (pH N) N _ _ _).trans h
 ·cases h
def qj (N G : Nat) : Rv.Spec β := fun args K => match args with
 | [.v (.one (.sl 3 (.ints .i64 a0))), .v (.one (.int .i64 a1)), .v (.one (.int .i64 a2)), .v (.one (.int .i64 a3)), .v (.one (.int .i64 a4))] => zq134 G a0 a1 a2 a3 a4 (fun z5 z6 => K (.tup [.one (.sl 3 (.ints .i64 z5)), .one (.bool z6)]))
 | _ => none
def xC (N G : Nat) : Rv.Spec β := qj (ec N) N G
def VT (N : Nat) : Rv.Spec β := qj zq134 N N
def Xs (N : Nat) : Rv.Spec β := xC N N
def gJ (v0 : List Int) (v1 v2 v3 v4 : Int) : St := ⟨.v (.one (.sl 3 (.ints .i64 v0))) :: (Z' v1) :: (Z' v2) :: ac :: (Z' v3) :: tn 7 ((Z' v4) :: tn 44 []), []⟩
def kg (y0 : Bool) (y1 : List Int) : St := ⟨tn 10 (.v (.one (.row 0)) :: .v (.one (.bool y0)) :: tn 45 []), [.row 3 (.ints .i64 y1)]⟩
def kh : St := ⟨tn 57 [], []⟩
def rG {γ : Type} (f : List Int → Int → Int → Int → Int → γ) (s : St) : γ := f (aY (bg (ag (vT (nx ac s.tmps 0))))) (ae (ag (vT (nx ac s.tmps 1)))) (ae (ag (vT (nx ac s.tmps 2)))) (ae (ag (vT (nx ac s.tmps 4)))) (ae (ag (vT (nx ac s.tmps 12))))
theorem Fu (s : St) : aT (gJ [] 0 0 0 0) s = rG gJ s := by kernel_rfl
def xS (N G : Nat) : ay β := fun s K => cond (aK (gJ [] 0 0 0 0) s) (rG (fun v0 v1 v2 v3 v4 => zq132 (zq134 G) N v0 v1 v2 v3 v4 (fun y0 y1 => K .ret (kg y0 y1)) (K (.exit 0) (kh ))) s) (none)
def Ms (N G : Nat) : ay β := xS (l4 N) (ec N) N G
def HK (N G : Nat) : Env β := ⟨[(147, qj zq134 N G)], [], [(0, xS zq132 zq134 N G)], [], ⟨[], [], [], []⟩⟩
def L2 (N G : Nat) : Env β := HK (l4 N) (ec N) N G
theorem Ch (N G : Nat) (v0 : List Int) (v1 v2 v3 v4 : Int) (rec_ : St → O β) (K : Exit → St → O β) :
  stB lay (HK zq132 zq134 N G) Tryz.f147 0 (gJ v0 v1 v2 v3 v4) rec_ K = EA N (zq134 G) v0 v1 v2 v3 v4 (fun v0 v1 v2 v3 v4 => rec_ (gJ v0 v1 v2 v3 v4)) (fun y0 y1 => K .ret (kg y0 y1)) (K (.exit 0) (kh )) := by kernel_rfl
theorem Gw (N G : Nat) (K : Exit → St → O β) : ∀ (F : Nat) (v0 : List Int) (v1 v2 v3 v4 : Int), (lp Tryz.f147 0).rounds lay (L2 N G) (ah Tryz.f147) F (gJ v0 v1 v2 v3 v4) K = l4 N (ec N G) F v0 v1 v2 v3 v4 (fun y0 y1 => K .ret (kg y0 y1)) (K (.exit 0) (kh )) := by
 intro F; induction F with
 | zero => intros; rfl
 | succ F ih => intros; rw [am]; refine (Ch (l4 N) (ec N) N G _ _ _ _ _ (fun s => (lp Tryz.f147 0).rounds lay (L2 N G) (ah Tryz.f147) F s K) K).trans ?_; simp only [ih]; rfl
theorem Ny (N G : Nat) : aS (L2 (β := β) N G).loops (lp Tryz.f147 0).id = Ms N G := by kernel_rfl
theorem Ou (N G : Nat) : az lay (L2 (β := β) N G) (ah Tryz.f147) (lp Tryz.f147 0) := rks (Ny ..) (rc1 (fun s K hb => ⟨N, by rw [← ar hb, Fu s]; unfold rG; exact Gw N _ K N _ _ _ _ _⟩) rc0)
theorem Pr (N G : Nat) (a0 : List Int) (a1 a2 a3 a4 : Int) (K : TV → O β) : aQ lay (HK zq132 zq134 N G) Tryz.f147 [.v (.one (.sl 3 (.ints .i64 a0))), (Z' a1), (Z' a2), (Z' a3), (Z' a4)] K = EB zq132 N (zq134 G) a0 a1 a2 a3 a4 (fun z5 z6 => K (.tup [.one (.sl 3 (.ints .i64 z5)), .one (.bool z6)])) := by kernel_rfl
theorem Yn (N : Nat) : ∀ args K r, xC (β := β) N 0 args K = some r → (none : O β) = some r := by
 intro args K r h
 unfold xC qj at h
 split at h <;> exact h
theorem Wu (N : Nat) : ∀ G, ap (β := β) inv Tryz.prog 147 (xC N G) := by
 intro G
 induction G with
 | zero => exact oK Tryz.func147 (by kernel_rfl) (Yn N)
 | succ G ih =>
  refine aq ax mixed (E := L2 N G) (af (aa ih ai)) ak aA Tryz.func147 (by kernel_rfl) 1 (by kernel_rfl) ⟨trivial, Ou N G⟩ fun args K r h => ?_
  unfold xC qj at h
  split at h
  ·exact (Pr (l4 N) (ec N) N G _ _ _ _ _ _).trans h
  ·cases h
theorem XL (N : Nat) : ap (β := β) inv Tryz.prog 147 (Xs N) := Wu N N
end Go.Proofs.YtemihnclhcobnaaGreatDoor
