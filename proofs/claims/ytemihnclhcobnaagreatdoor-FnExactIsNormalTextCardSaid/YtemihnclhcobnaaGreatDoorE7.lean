/- The functions that the claims cY bz as their texts do. -/
import Derived.Test.YtemihnclhcobnaaGreatDoorE6
namespace Go.Proofs.YtemihnclhcobnaaGreatDoor
set_option linter.unusedSimpArgs false
open Go.Rv
set_option maxRecDepth 100000
set_option maxHeartbeats 2000000
set_option linter.unusedVariables false
variable {β : Type}
variable (ahH : Y2 β) (ag5 : Y0 β) (ahj : Y73 β) (ahP : Y75 β) (ahQ : Y78 β) (ahR : Y77 β) (ahS : Y76 β) (ahc : Y74 β) (aiG : Y71 β)
variable (N : Nat)
def sw (N G : Nat) : Rv.Spec β := fun args K => match args with
 | [.v (.one (.sl 3 (.ints .i64 a0))), .v (.one (.int .i64 a1)), .v (.one (.int .i64 a2))] => ahc G a0 a1 a2 (fun z3 => K (.v (.one (.str z3))))
 | _ => none
def AH (G : Nat) : Rv.Spec β := sw (dr N) N G
def acN : Rv.Spec β := sw ahc N N
def afr : Rv.Spec β := AH N N
def ic (v0 : List Int) (v1 v2 v3 : Int) : St := ⟨.v (.one (.sl 3 (.ints .i64 v0))) :: (Z' v1) :: (Z' v2) :: tn 4 ((Z' v3) :: tn 120 []), []⟩
def kS (y0 : ByteArray) : St := ⟨tn 6 (.v (.one (.str y0)) :: tn 121 []), []⟩
def kT (y0 : List Int) (y1 y2 : Int) : St := ⟨.v (.one (.sl 3 (.ints .i64 y0))) :: (Z' y1) :: (Z' y2) :: tn 125 [], []⟩
def fx (v0 : List Int) (v1 v2 v3 : Int) : St := ⟨.v (.one (.sl 3 (.ints .i64 v0))) :: (Z' v1) :: (Z' v2) :: tn 5 ((Z' v3) :: tn 119 []), []⟩
def kU (y0 : ByteArray) : St := ⟨tn 6 (.v (.one (.str y0)) :: tn 121 []), []⟩
def kV : St := ⟨tn 128 [], []⟩
def fy (v0 : List Int) (v1 v2 v3 v4 : Int) : St := ⟨.v (.one (.sl 3 (.ints .i64 v0))) :: (Z' v1) :: (Z' v2) :: tn 5 ((Z' v3) :: (Z' v4) :: tn 118 []), []⟩
def kW (y0 : ByteArray) : St := ⟨tn 6 (.v (.one (.str y0)) :: tn 121 []), []⟩
def kX (y0 : List Int) (y1 y2 y3 : Int) : St := ⟨.v (.one (.sl 3 (.ints .i64 y0))) :: (Z' y1) :: (Z' y2) :: tn 5 ((Z' y3) :: tn 119 []), []⟩
def fA (v0 : List Int) (v1 v2 v3 v4 v5 : Int) : St := ⟨.v (.one (.sl 3 (.ints .i64 v0))) :: (Z' v1) :: (Z' v2) :: tn 5 ((Z' v3) :: (Z' v4) :: (Z' v5) :: tn 117 []), []⟩
def kY (y0 : ByteArray) : St := ⟨tn 6 (.v (.one (.str y0)) :: tn 121 []), []⟩
def kZ (y0 : List Int) (y1 y2 y3 y4 : Int) : St := ⟨.v (.one (.sl 3 (.ints .i64 y0))) :: (Z' y1) :: (Z' y2) :: tn 5 ((Z' y3) :: (Z' y4) :: tn 118 []), []⟩
def ut {γ : Type} (f : List Int -> Int -> Int -> Int -> γ) (s : St) : γ := f (aY (bF (ah (vT (nx ac s.tmps 0))))) (af (ah (vT (nx ac s.tmps 1)))) (af (ah (vT (nx ac s.tmps 2)))) (af (ah (vT (nx ac s.tmps 7))))
theorem I3 (s : St) : aP (ic [] 0 0 0) s = ut ic s := by kernel_rfl
def Ba (G : Nat) : ax β := fun s K => cond (aJ (ic [] 0 0 0) s) (ut (fun v0 v1 v2 v3 => ahP N v0 v1 v2 v3 (fun y0 => K .ret (kS y0)) (fun y0 y1 y2 => K (.exit 0) (kT y0 y1 y2))) s) (none)
def Rg (G : Nat) : ax β := Ba (lV N) N G
def N1 {γ : Type} (f : List Int -> Int -> Int -> Int -> γ) (s : St) : γ := f (aY (bF (ah (vT (nx ac s.tmps 0))))) (af (ah (vT (nx ac s.tmps 1)))) (af (ah (vT (nx ac s.tmps 2)))) (af (ah (vT (nx ac s.tmps 8))))
theorem I4 (s : St) : aP (fx [] 0 0 0) s = N1 fx s := by kernel_rfl
def sh (G : Nat) : ax β := fun s K => cond (aJ (fx [] 0 0 0) s) ((fun (v0 : List Int) (v1 v2 v3 : Int) => ahS (ahc G) N v0 v1 v2 v3 (fun y0 => K .ret (kU y0)) (K (.exit 2) (kV ))) (aY (bF (ah (vT (nx ac s.tmps 0))))) (af (ah (vT (nx ac s.tmps 1)))) (af (ah (vT (nx ac s.tmps 2)))) (af (ah (vT (nx ac s.tmps 8))))) (none)
def FO (G : Nat) : ax β := sh (iV N) (dr N) N G
def N2 {γ : Type} (f : List Int -> Int -> Int -> Int -> Int -> γ) (s : St) : γ := f (aY (bF (ah (vT (nx ac s.tmps 0))))) (af (ah (vT (nx ac s.tmps 1)))) (af (ah (vT (nx ac s.tmps 2)))) (af (ah (vT (nx ac s.tmps 8)))) (af (ah (vT (nx ac s.tmps 9))))
theorem I5 (s : St) : aP (fy [] 0 0 0 0) s = N2 fy s := by kernel_rfl
def si (G : Nat) : ax β := fun s K => cond (aJ (fy [] 0 0 0 0) s) ((fun (v0 : List Int) (v1 v2 v3 v4 : Int) => ahR (ahc G) N v0 v1 v2 v3 v4 (fun y0 => K .ret (kW y0)) (fun y0 y1 y2 y3 => K (.exit 4) (kX y0 y1 y2 y3))) (aY (bF (ah (vT (nx ac s.tmps 0))))) (af (ah (vT (nx ac s.tmps 1)))) (af (ah (vT (nx ac s.tmps 2)))) (af (ah (vT (nx ac s.tmps 8)))) (af (ah (vT (nx ac s.tmps 9))))) (none)
def FP (G : Nat) : ax β := si (iU N) (dr N) N G
def N3 {γ : Type} (f : List Int -> Int -> Int -> Int -> Int -> Int -> γ) (s : St) : γ := f (aY (bF (ah (vT (nx ac s.tmps 0))))) (af (ah (vT (nx ac s.tmps 1)))) (af (ah (vT (nx ac s.tmps 2)))) (af (ah (vT (nx ac s.tmps 8)))) (af (ah (vT (nx ac s.tmps 9)))) (af (ah (vT (nx ac s.tmps 10))))
theorem I6 (s : St) : aP (fA [] 0 0 0 0 0) s = N3 fA s := by kernel_rfl
def sj (G : Nat) : ax β := fun s K => cond (aJ (fA [] 0 0 0 0 0) s) ((fun (v0 : List Int) (v1 v2 v3 v4 v5 : Int) => ahQ (ahc G) N v0 v1 v2 v3 v4 v5 (fun y0 => K .ret (kY y0)) (fun y0 y1 y2 y3 y4 => K (.exit 6) (kZ y0 y1 y2 y3 y4))) (aY (bF (ah (vT (nx ac s.tmps 0))))) (af (ah (vT (nx ac s.tmps 1)))) (af (ah (vT (nx ac s.tmps 2)))) (af (ah (vT (nx ac s.tmps 8)))) (af (ah (vT (nx ac s.tmps 9)))) (af (ah (vT (nx ac s.tmps 10))))) (none)
def FQ (G : Nat) : ax β := sj (lW N) (dr N) N G
def wG (G : Nat) : Env β := ⟨[(160, L9 ahj N), (207, Mg ahH N), (144, sw ahc N G)], [], [(0, Ba ahP N G), (2, sh ahS ahc N G), (4, si ahR ahc N G), (6, sj ahQ ahc N G)], [], ⟨[], [], [], []⟩⟩
def pX (G : Nat) : Env β := wG (Ay N) (iT N) (lV N) (lW N) (iU N) (iV N) (dr N) N G
theorem Ff (G : Nat) (v0 : List Int) (v1 v2 v3 : Int) (rec_ : St -> O β) (K : Exit -> St -> O β) :
  stB lay (wG ahH ahj ahP ahQ ahR ahS ahc N G) Tryz.f144 0 (ic v0 v1 v2 v3) rec_ K = HN ahH ahj N v0 v1 v2 v3 (fun v0 v1 v2 v3 => rec_ (ic v0 v1 v2 v3)) (fun y0 => K .ret (kS y0)) (fun y0 y1 y2 => K (.exit 0) (kT y0 y1 y2)) := by kernel_rfl
theorem J9 (G : Nat) (K : Exit -> St -> O β) : ∀ (F : Nat) (v0 : List Int) (v1 v2 v3 : Int), (lp Tryz.f144 0).rounds lay (pX N G) (ai Tryz.f144) F (ic v0 v1 v2 v3) K = lV N F v0 v1 v2 v3 (fun y0 => K .ret (kS y0)) (fun y0 y1 y2 => K (.exit 0) (kT y0 y1 y2)) := by
 intro F; induction F with
 | zero => intros; rfl
 | succ F ih => intros; rw [am]; refine (Ff (Ay N) (iT N) (lV N) (lW N) (iU N) (iV N) (dr N) N G _ _ _ _ (fun s => (lp Tryz.f144 0).rounds lay (pX N G) (ai Tryz.f144) F s K) K).trans ?_; simp only [ih]; rfl
theorem So (G : Nat) : aS (pX (β := β) N G).loops (lp Tryz.f144 0).id = Rg N G := by kernel_rfl
theorem Tw (G : Nat) : ay lay (pX (β := β) N G) (ai Tryz.f144) (lp Tryz.f144 0) := rks (So ..) (rc1 (fun s K hb => ⟨N, by rw [<- ar hb, I3 s]; unfold ut; exact J9 N _ K N _ _ _ _⟩) rc0)
theorem Fg (G : Nat) (v0 : List Int) (v1 v2 v3 : Int) (rec_ : St -> O β) (K : Exit -> St -> O β) :
  stB lay (wG ahH ahj ahP ahQ ahR ahS ahc N G) Tryz.f144 1 (fx v0 v1 v2 v3) rec_ K = HQ ahR N (ahc G) v0 v1 v2 v3 (fun v0 v1 v2 v3 => rec_ (fx v0 v1 v2 v3)) (fun y0 => K .ret (kU y0)) (K (.exit 2) (kV )) := by kernel_rfl
theorem Ka (G : Nat) (K : Exit -> St -> O β) : ∀ (F : Nat) (v0 : List Int) (v1 v2 v3 : Int), (lp Tryz.f144 1).rounds lay (pX N G) (ai Tryz.f144) F (fx v0 v1 v2 v3) K = iV N (dr N G) F v0 v1 v2 v3 (fun y0 => K .ret (kU y0)) (K (.exit 2) (kV )) := by
 intro F; induction F with
 | zero => intros; rfl
 | succ F ih => intros; rw [am]; refine (Fg (Ay N) (iT N) (lV N) (lW N) (iU N) (iV N) (dr N) N G _ _ _ _ (fun s => (lp Tryz.f144 1).rounds lay (pX N G) (ai Tryz.f144) F s K) K).trans ?_; simp only [ih]; rfl
theorem Sp (G : Nat) : aS (pX (β := β) N G).loops (lp Tryz.f144 1).id = FO N G := by kernel_rfl
theorem Tx (G : Nat) : ay lay (pX (β := β) N G) (ai Tryz.f144) (lp Tryz.f144 1) := by
 intro s K r h
 rw [Sp] at h
 unfold FO sh at h
 cases hb : aJ (fx [] 0 0 0) s with
 | true =>
  rw [hb, ajZ] at h
  exact ⟨N, by rw [<- ar hb, I4 s]; exact (Ka N G K N (aY (bF (ah (vT (nx ac s.tmps 0))))) (af (ah (vT (nx ac s.tmps 1)))) (af (ah (vT (nx ac s.tmps 2)))) (af (ah (vT (nx ac s.tmps 8))))).trans h⟩
 | false =>
 rw [hb, ajY] at h
 clear hb
 cases h
theorem Fh (G : Nat) (v0 : List Int) (v1 v2 v3 v4 : Int) (rec_ : St -> O β) (K : Exit -> St -> O β) :
  stB lay (wG ahH ahj ahP ahQ ahR ahS ahc N G) Tryz.f144 2 (fy v0 v1 v2 v3 v4) rec_ K = HP ahj ahQ N (ahc G) v0 v1 v2 v3 v4 (fun v0 v1 v2 v3 v4 => rec_ (fy v0 v1 v2 v3 v4)) (fun y0 => K .ret (kW y0)) (fun y0 y1 y2 y3 => K (.exit 4) (kX y0 y1 y2 y3)) := by kernel_rfl
theorem Kb (G : Nat) (K : Exit -> St -> O β) : ∀ (F : Nat) (v0 : List Int) (v1 v2 v3 v4 : Int), (lp Tryz.f144 2).rounds lay (pX N G) (ai Tryz.f144) F (fy v0 v1 v2 v3 v4) K = iU N (dr N G) F v0 v1 v2 v3 v4 (fun y0 => K .ret (kW y0)) (fun y0 y1 y2 y3 => K (.exit 4) (kX y0 y1 y2 y3)) := by
 intro F; induction F with
 | zero => intros; rfl
 | succ F ih => intros; rw [am]; refine (Fh (Ay N) (iT N) (lV N) (lW N) (iU N) (iV N) (dr N) N G _ _ _ _ _ (fun s => (lp Tryz.f144 2).rounds lay (pX N G) (ai Tryz.f144) F s K) K).trans ?_; simp only [ih]; rfl
theorem Sq (G : Nat) : aS (pX (β := β) N G).loops (lp Tryz.f144 2).id = FP N G := by kernel_rfl
theorem Ty (G : Nat) : ay lay (pX (β := β) N G) (ai Tryz.f144) (lp Tryz.f144 2) := by
 intro s K r h
 rw [Sq] at h
 unfold FP si at h
 cases hb : aJ (fy [] 0 0 0 0) s with
 | true =>
  rw [hb, ajZ] at h
  exact ⟨N, by rw [<- ar hb, I5 s]; exact (Kb N G K N (aY (bF (ah (vT (nx ac s.tmps 0))))) (af (ah (vT (nx ac s.tmps 1)))) (af (ah (vT (nx ac s.tmps 2)))) (af (ah (vT (nx ac s.tmps 8)))) (af (ah (vT (nx ac s.tmps 9))))).trans h⟩
 | false =>
 rw [hb, ajY] at h
 clear hb
 cases h
theorem Fi (G : Nat) (v0 : List Int) (v1 v2 v3 v4 v5 : Int) (rec_ : St -> O β) (K : Exit -> St -> O β) :
  stB lay (wG ahH ahj ahP ahQ ahR ahS ahc N G) Tryz.f144 3 (fA v0 v1 v2 v3 v4 v5) rec_ K = HO ahj N (ahc G) v0 v1 v2 v3 v4 v5 (fun v0 v1 v2 v3 v4 v5 => rec_ (fA v0 v1 v2 v3 v4 v5)) (fun y0 => K .ret (kY y0)) (fun y0 y1 y2 y3 y4 => K (.exit 6) (kZ y0 y1 y2 y3 y4)) := by kernel_rfl
theorem Kc (G : Nat) (K : Exit -> St -> O β) : ∀ (F : Nat) (v0 : List Int) (v1 v2 v3 v4 v5 : Int), (lp Tryz.f144 3).rounds lay (pX N G) (ai Tryz.f144) F (fA v0 v1 v2 v3 v4 v5) K = lW N (dr N G) F v0 v1 v2 v3 v4 v5 (fun y0 => K .ret (kY y0)) (fun y0 y1 y2 y3 y4 => K (.exit 6) (kZ y0 y1 y2 y3 y4)) := by
 intro F; induction F with
 | zero => intros; rfl
 | succ F ih => intros; rw [am]; refine (Fi (Ay N) (iT N) (lV N) (lW N) (iU N) (iV N) (dr N) N G _ _ _ _ _ _ (fun s => (lp Tryz.f144 3).rounds lay (pX N G) (ai Tryz.f144) F s K) K).trans ?_; simp only [ih]; rfl
theorem Sr (G : Nat) : aS (pX (β := β) N G).loops (lp Tryz.f144 3).id = FQ N G := by kernel_rfl
theorem Tz (G : Nat) : ay lay (pX (β := β) N G) (ai Tryz.f144) (lp Tryz.f144 3) := by
 intro s K r h
 rw [Sr] at h
 unfold FQ sj at h
 cases hb : aJ (fA [] 0 0 0 0 0) s with
 | true =>
  rw [hb, ajZ] at h
  exact ⟨N, by rw [<- ar hb, I6 s]; exact (Kc N G K N (aY (bF (ah (vT (nx ac s.tmps 0))))) (af (ah (vT (nx ac s.tmps 1)))) (af (ah (vT (nx ac s.tmps 2)))) (af (ah (vT (nx ac s.tmps 8)))) (af (ah (vT (nx ac s.tmps 9)))) (af (ah (vT (nx ac s.tmps 10))))).trans h⟩
 | false =>
 rw [hb, ajY] at h
 clear hb
 cases h
theorem UD (G : Nat) (a0 : List Int) (a1 a2 : Int) (K : TV -> O β) : aL lay (wG ahH ahj ahP ahQ ahR ahS ahc N G) Tryz.f144 [.v (.one (.sl 3 (.ints .i64 a0))), (Z' a1), (Z' a2)] K = Ps ahj ahP ahS N (ahc G) a0 a1 a2 (fun z3 => K (.v (.one (.str z3)))) := by kernel_rfl
theorem agG : ∀ args K r, AH (β := β) N 0 args K = some r -> (none : O β) = some r := by
 intro args K r h
 unfold AH sw at h
 split at h <;> exact h
theorem adT : ∀ G, ao (β := β) inv Tryz.prog 144 (AH N G) := by
 intro G
 induction G with
 | zero => exact dG Tryz.func144 (by kernel_rfl) (agG N)
 | succ G ih =>
  refine ap au mixed (E := pX N G) (ae (aa (af9 N) (aa (adN N) (aa ih ag)))) aj av Tryz.func144 (by kernel_rfl) 4 (by kernel_rfl) ⟨⟨⟨⟨trivial, Tw N G⟩, Tx N G⟩, Ty N G⟩, Tz N G⟩ fun args K r h => ?_
  unfold AH sw at h
  split at h
  ·exact (UD (Ay N) (iT N) (lV N) (lW N) (iU N) (iV N) (dr N) N G _ _ _ _).trans h
  ·cases h
theorem af1 : ao (β := β) inv Tryz.prog 144 (afr N) := adT N N
def Yi (N : Nat) : Rv.Spec β := fun args K => match args with
 | [.v (.agg [.int .i64 a0, .int .i64 a1])] => aiG a0 a1 (fun z2 z3 => K (.tup [.one (.str z2), .one (.bool z3)]))
 | _ => none
def S74 : Rv.Spec β := Yi (yo N) N
def acC : Env β := ⟨[(20, Bx ag5 N), (145, abN N), (144, acN ahc N)], [], [], [], ⟨[], [], [], []⟩⟩
def E74 : Env β := acC (eT N) (dr N) N
theorem aaD (a0 a1 : Int) (K : TV -> O β) : aL lay (acC ag5 ahc N) Tryz.f74 [.v (.agg [.int .i64 a0, .int .i64 a1])] K = Pu ag5 (ahc N) N a0 a1 (fun z2 z3 => K (.tup [.one (.str z2), .one (.bool z3)])) := by kernel_rfl
theorem o74 : ao (β := β) inv Tryz.prog 74 (S74 N) := by
 refine ap au mixed (E := E74 N) (ae (aa (o20 N) (aa (af2 N) (aa (af1 N) ag)))) aj av Tryz.func74 (by kernel_rfl) 0 (by kernel_rfl) trivial fun args K r h => ?_
 unfold S74 Yi at h
 split at h
 ·exact (aaD (eT N) (dr N) N _ _ _).trans h
 ·cases h
end Go.Proofs.YtemihnclhcobnaaGreatDoor
