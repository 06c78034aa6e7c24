/- The functions that the claims cY bz as their texts do. -/
import Derived.Test.YtemihnclhcobnaaGreatDoorE13
namespace Go.Proofs.YtemihnclhcobnaaGreatDoor
set_option linter.unusedSimpArgs false
open Go.Rv
set_option maxRecDepth 100000
set_option maxHeartbeats 2000000
set_option linter.unusedVariables false
variable {β : Type}
variable (zq3 : Y3 β) (aho ahg : Y18 β) (ahn : RI β) (ahL : Y0 β) (ahW : ade β) (ahX : adh β) (ahY : adg β) (ahM : adf β) (ahb : adc β)
variable (N : Nat)
def sA (N G : Nat) : Rv.Spec β := fun args K => match args with
 | [.v (.agg [.int .i64 a0, .int .i64 a1]), .v (.one (.sl 3 (.ints .i64 a2)))] => ahb G a0 a1 a2 (fun z3 => K (.v (.one (.str z3))))
 | _ => none
def AK (G : Nat) : Rv.Spec β := sA (cZ N) N G
def acQ : Rv.Spec β := sA ahb N N
def afu : Rv.Spec β := AK N N
def ij (v0 : List Int) (v1 v2 v3 v4 : Int) : St := ⟨ac :: .v (.one (.sl 3 (.ints .i64 v0))) :: .v (.one (.ptr 0 0)) :: tn 24 ((Z' v1) :: (Z' v2) :: tn 102 []), [.cells 25 [.int .i64 v3, .int .i64 v4]]⟩
def lb (y0 : ByteArray) : St := ⟨tn 4 (.v (.one (.str y0)) :: tn 126 []), []⟩
def lg (y0 : List Int) (y1 y2 : Int) : St := ⟨ac :: .v (.one (.sl 3 (.ints .i64 y0))) :: .v (.one (.ptr 0 0)) :: tn 128 [], [.cells 25 [.int .i64 y1, .int .i64 y2]]⟩
def fB (v0 : List Int) (v1 v2 v3 v4 : Int) (v5 : List Int) : St := ⟨ac :: .v (.one (.sl 3 (.ints .i64 v0))) :: .v (.one (.ptr 0 0)) :: tn 50 (.v (.one (.row 1)) :: (Z' v1) :: (Z' v2) :: tn 75 []), [.cells 25 [.int .i64 v3, .int .i64 v4], .srow 5 (.ints .u8 v5)]⟩
def lh (y0 : ByteArray) : St := ⟨tn 4 (.v (.one (.str y0)) :: tn 126 []), []⟩
def ll : St := ⟨tn 131 [], []⟩
def fC (v0 : List Int) (v1 v2 v3 : Int) (v4 : List Int) (v5 v6 v7 v8 : Int) (v9 : List Int) : St := ⟨ac :: .v (.one (.sl 3 (.ints .i64 v0))) :: .v (.one (.ptr 0 0)) :: tn 6 (.v (.one (.int .u8 v1)) :: tn 43 (.v (.one (.row 1)) :: (Z' v2) :: (Z' v3) :: tn 3 (.v (.one (.sl 3 (.ints .i64 v4))) :: (Z' v5) :: (Z' v6) :: tn 69 []))), [.cells 25 [.int .i64 v7, .int .i64 v8], .srow 5 (.ints .u8 v9)]⟩
def lm (y0 : ByteArray) : St := ⟨tn 4 (.v (.one (.str y0)) :: tn 126 []), []⟩
def ln (y0 : List Int) (y1 y2 y3 y4 : Int) (y5 : List Int) : St := ⟨ac :: .v (.one (.sl 3 (.ints .i64 y0))) :: .v (.one (.ptr 0 0)) :: tn 50 (.v (.one (.row 1)) :: (Z' y1) :: (Z' y2) :: tn 75 []), [.cells 25 [.int .i64 y3, .int .i64 y4], .srow 5 (.ints .u8 y5)]⟩
def fD (v0 : List Int) (v1 v2 v3 v4 v5 : Int) (v6 : List Int) (v7 v8 : Int) (v9 : List Int) (v10 v11 v12 v13 : Int) (v14 : List Int) : St := ⟨ac :: .v (.one (.sl 3 (.ints .i64 v0))) :: .v (.one (.ptr 0 0)) :: tn 6 (.v (.one (.int .u8 v1)) :: (Z' v2) :: (Z' v3) :: tn 41 (.v (.one (.row 1)) :: (Z' v4) :: (Z' v5) :: tn 3 (.v (.one (.sl 3 (.ints .i64 v6))) :: (Z' v7) :: (Z' v8) :: tn 15 (.v (.one (.sl 3 (.ints .i64 v9))) :: (Z' v10) :: (Z' v11) :: tn 51 [])))), [.cells 25 [.int .i64 v12, .int .i64 v13], .srow 5 (.ints .u8 v14)]⟩
def lq (y0 : ByteArray) : St := ⟨tn 4 (.v (.one (.str y0)) :: tn 126 []), []⟩
def lr (y0 : List Int) (y1 y2 y3 : Int) (y4 : List Int) (y5 y6 y7 y8 : Int) (y9 : List Int) : St := ⟨ac :: .v (.one (.sl 3 (.ints .i64 y0))) :: .v (.one (.ptr 0 0)) :: tn 6 (.v (.one (.int .u8 y1)) :: tn 43 (.v (.one (.row 1)) :: (Z' y2) :: (Z' y3) :: tn 3 (.v (.one (.sl 3 (.ints .i64 y4))) :: (Z' y5) :: (Z' y6) :: tn 69 []))), [.cells 25 [.int .i64 y7, .int .i64 y8], .srow 5 (.ints .u8 y9)]⟩
def uw {γ : Type} (f : List Int -> Int -> Int -> Int -> Int -> γ) (s : St) : γ := f (aY (bF (ah (vT (nx ac s.tmps 1))))) (af (ah (vT (nx ac s.tmps 27)))) (af (ah (vT (nx ac s.tmps 28)))) (af (nx .und (ak (nx .dead s.blks 0)) 0)) (af (nx .und (ak (nx .dead s.blks 0)) 1))
theorem I9 (s : St) : aP (ij [] 0 0 0 0) s = uw ij s := by kernel_rfl
def Bd (G : Nat) : ax β := fun s K => cond (aJ (ij [] 0 0 0 0) s) (uw (fun v0 v1 v2 v3 v4 => ahW N v0 v1 v2 v3 v4 (fun y0 => K .ret (lb y0)) (fun y0 y1 y2 => K (.exit 0) (lg y0 y1 y2))) s) (none)
def Rj (G : Nat) : ax β := Bd (l5 N) N G
def N4 {γ : Type} (f : List Int -> Int -> Int -> Int -> Int -> List Int -> γ) (s : St) : γ := f (aY (bF (ah (vT (nx ac s.tmps 1))))) (af (ah (vT (nx ac s.tmps 54)))) (af (ah (vT (nx ac s.tmps 55)))) (af (nx .und (ak (nx .dead s.blks 0)) 0)) (af (nx .und (ak (nx .dead s.blks 0)) 1)) (aY (bh (nx .dead s.blks 1)))
theorem Ja (s : St) : aP (fB [] 0 0 0 0 []) s = N4 fB s := by kernel_rfl
def sk (G : Nat) : ax β := fun s K => cond (aJ (fB [] 0 0 0 0 []) s) ((fun (v0 : List Int) (v1 v2 v3 v4 : Int) (v5 : List Int) => ahM (ahb G) N v0 v1 v2 v3 v4 v5 (fun y0 => K .ret (lh y0)) (K (.exit 3) (ll ))) (aY (bF (ah (vT (nx ac s.tmps 1))))) (af (ah (vT (nx ac s.tmps 54)))) (af (ah (vT (nx ac s.tmps 55)))) (af (nx .und (ak (nx .dead s.blks 0)) 0)) (af (nx .und (ak (nx .dead s.blks 0)) 1)) (aY (bh (nx .dead s.blks 1)))) (none)
def FR (G : Nat) : ax β := sk (gx N) (cZ N) N G
def N5 {γ : Type} (f : List Int -> Int -> Int -> Int -> List Int -> Int -> Int -> Int -> Int -> List Int -> γ) (s : St) : γ := f (aY (bF (ah (vT (nx ac s.tmps 1))))) (af (ah (vT (nx ac s.tmps 9)))) (af (ah (vT (nx ac s.tmps 54)))) (af (ah (vT (nx ac s.tmps 55)))) (aY (bF (ah (vT (nx ac s.tmps 59))))) (af (ah (vT (nx ac s.tmps 60)))) (af (ah (vT (nx ac s.tmps 61)))) (af (nx .und (ak (nx .dead s.blks 0)) 0)) (af (nx .und (ak (nx .dead s.blks 0)) 1)) (aY (bh (nx .dead s.blks 1)))
theorem Jb (s : St) : aP (fC [] 0 0 0 [] 0 0 0 0 []) s = N5 fC s := by kernel_rfl
def sm (G : Nat) : ax β := fun s K => cond (aJ (fC [] 0 0 0 [] 0 0 0 0 []) s) ((fun (v0 : List Int) (v1 v2 v3 : Int) (v4 : List Int) (v5 v6 v7 v8 : Int) (v9 : List Int) => ahY (ahb G) N v0 v1 v2 v3 v4 v5 v6 v7 v8 v9 (fun y0 => K .ret (lm y0)) (fun y0 y1 y2 y3 y4 y5 => K (.exit 5) (ln y0 y1 y2 y3 y4 y5))) (aY (bF (ah (vT (nx ac s.tmps 1))))) (af (ah (vT (nx ac s.tmps 9)))) (af (ah (vT (nx ac s.tmps 54)))) (af (ah (vT (nx ac s.tmps 55)))) (aY (bF (ah (vT (nx ac s.tmps 59))))) (af (ah (vT (nx ac s.tmps 60)))) (af (ah (vT (nx ac s.tmps 61)))) (af (nx .und (ak (nx .dead s.blks 0)) 0)) (af (nx .und (ak (nx .dead s.blks 0)) 1)) (aY (bh (nx .dead s.blks 1)))) (none)
def FT (G : Nat) : ax β := sm (i7 N) (cZ N) N G
def N6 {γ : Type} (f : List Int -> Int -> Int -> Int -> Int -> Int -> List Int -> Int -> Int -> List Int -> Int -> Int -> Int -> Int -> List Int -> γ) (s : St) : γ := f (aY (bF (ah (vT (nx ac s.tmps 1))))) (af (ah (vT (nx ac s.tmps 9)))) (af (ah (vT (nx ac s.tmps 10)))) (af (ah (vT (nx ac s.tmps 11)))) (af (ah (vT (nx ac s.tmps 54)))) (af (ah (vT (nx ac s.tmps 55)))) (aY (bF (ah (vT (nx ac s.tmps 59))))) (af (ah (vT (nx ac s.tmps 60)))) (af (ah (vT (nx ac s.tmps 61)))) (aY (bF (ah (vT (nx ac s.tmps 77))))) (af (ah (vT (nx ac s.tmps 78)))) (af (ah (vT (nx ac s.tmps 79)))) (af (nx .und (ak (nx .dead s.blks 0)) 0)) (af (nx .und (ak (nx .dead s.blks 0)) 1)) (aY (bh (nx .dead s.blks 1)))
theorem Jc (s : St) : aP (fD [] 0 0 0 0 0 [] 0 0 [] 0 0 0 0 []) s = N6 fD s := by kernel_rfl
def sn (G : Nat) : ax β := fun s K => cond (aJ (fD [] 0 0 0 0 0 [] 0 0 [] 0 0 0 0 []) s) ((fun (v0 : List Int) (v1 v2 v3 v4 v5 : Int) (v6 : List Int) (v7 v8 : Int) (v9 : List Int) (v10 v11 v12 v13 : Int) (v14 : List Int) => ahX (ahb G) N v0 v1 v2 v3 v4 v5 v6 v7 v8 v9 v10 v11 v12 v13 v14 (fun y0 => K .ret (lq y0)) (fun y0 y1 y2 y3 y4 y5 y6 y7 y8 y9 => K (.exit 7) (lr y0 y1 y2 y3 y4 y5 y6 y7 y8 y9))) (aY (bF (ah (vT (nx ac s.tmps 1))))) (af (ah (vT (nx ac s.tmps 9)))) (af (ah (vT (nx ac s.tmps 10)))) (af (ah (vT (nx ac s.tmps 11)))) (af (ah (vT (nx ac s.tmps 54)))) (af (ah (vT (nx ac s.tmps 55)))) (aY (bF (ah (vT (nx ac s.tmps 59))))) (af (ah (vT (nx ac s.tmps 60)))) (af (ah (vT (nx ac s.tmps 61)))) (aY (bF (ah (vT (nx ac s.tmps 77))))) (af (ah (vT (nx ac s.tmps 78)))) (af (ah (vT (nx ac s.tmps 79)))) (af (nx .und (ak (nx .dead s.blks 0)) 0)) (af (nx .und (ak (nx .dead s.blks 0)) 1)) (aY (bh (nx .dead s.blks 1)))) (none)
def FU (G : Nat) : ax β := sn (l6 N) (cZ N) N G
def wH (G : Nat) : Env β := ⟨[(211, Mi ahL N), (103, so zq3 N), (41, RF ahn N), (212, Gw aho N), (174, Bu ahg N), (150, sA ahb N G)], [], [(0, Bd ahW N G), (3, sk ahM ahb N G), (5, sm ahY ahb N G), (7, sn ahX ahb N G)], [], ⟨[], [], [], []⟩⟩
def pY (G : Nat) : Env β := wH (zj3 N) (pT N) (eF N) (fQ N) (nm N) (l5 N) (l6 N) (i7 N) (gx N) (cZ N) N G
theorem Fl (G : Nat) (v0 : List Int) (v1 v2 v3 v4 : Int) (rec_ : St -> O β) (K : Exit -> St -> O β) :
  stB lay (wH zq3 aho ahg ahn ahL ahW ahX ahY ahM ahb N G) Tryz.f150 0 (ij v0 v1 v2 v3 v4) rec_ K = Ih aho ahg N v0 v1 v2 v3 v4 (fun v0 v1 v2 v3 v4 => rec_ (ij v0 v1 v2 v3 v4)) (fun y0 => K .ret (lb y0)) (fun y0 y1 y2 => K (.exit 0) (lg y0 y1 y2)) := by kernel_rfl
theorem Kf (G : Nat) (K : Exit -> St -> O β) : ∀ (F : Nat) (v0 : List Int) (v1 v2 v3 v4 : Int), (lp Tryz.f150 0).rounds lay (pY N G) (ai Tryz.f150) F (ij v0 v1 v2 v3 v4) K = l5 N F v0 v1 v2 v3 v4 (fun y0 => K .ret (lb y0)) (fun y0 y1 y2 => K (.exit 0) (lg y0 y1 y2)) := by
 intro F; induction F with
 | zero => intros; rfl
 | succ F ih => intros; rw [am]; refine (Fl (zj3 N) (pT N) (eF N) (fQ N) (nm N) (l5 N) (l6 N) (i7 N) (gx N) (cZ N) N G _ _ _ _ _ (fun s => (lp Tryz.f150 0).rounds lay (pY N G) (ai Tryz.f150) F s K) K).trans ?_; simp only [ih]; rfl
theorem Sv (G : Nat) : aS (pY (β := β) N G).loops (lp Tryz.f150 0).id = Rj N G := by kernel_rfl
theorem TC (G : Nat) : ay lay (pY (β := β) N G) (ai Tryz.f150) (lp Tryz.f150 0) := rks (Sv ..) (rc1 (fun s K hb => ⟨N, by rw [<- ar hb, I9 s]; unfold uw; exact Kf N _ K N _ _ _ _ _⟩) rc0)
theorem Fm (G : Nat) (v0 : List Int) (v1 v2 v3 v4 : Int) (v5 : List Int) (rec_ : St -> O β) (K : Exit -> St -> O β) :
  stB lay (wH zq3 aho ahg ahn ahL ahW ahX ahY ahM ahb N G) Tryz.f150 1 (fB v0 v1 v2 v3 v4 v5) rec_ K = Ik ahY N (ahb G) v0 v1 v2 v3 v4 v5 (fun v0 v1 v2 v3 v4 v5 => rec_ (fB v0 v1 v2 v3 v4 v5)) (fun y0 => K .ret (lh y0)) (K (.exit 3) (ll )) := by kernel_rfl
theorem Kg (G : Nat) (K : Exit -> St -> O β) : ∀ (F : Nat) (v0 : List Int) (v1 v2 v3 v4 : Int) (v5 : List Int), (lp Tryz.f150 1).rounds lay (pY N G) (ai Tryz.f150) F (fB v0 v1 v2 v3 v4 v5) K = gx N (cZ N G) F v0 v1 v2 v3 v4 v5 (fun y0 => K .ret (lh y0)) (K (.exit 3) (ll )) := by
 intro F; induction F with
 | zero => intros; rfl
 | succ F ih => intros; rw [am]; refine (Fm (zj3 N) (pT N) (eF N) (fQ N) (nm N) (l5 N) (l6 N) (i7 N) (gx N) (cZ N) N G _ _ _ _ _ _ (fun s => (lp Tryz.f150 1).rounds lay (pY N G) (ai Tryz.f150) F s K) K).trans ?_; simp only [ih]; rfl
theorem Sw (G : Nat) : aS (pY (β := β) N G).loops (lp Tryz.f150 1).id = FR N G := by kernel_rfl
theorem TD (G : Nat) : ay lay (pY (β := β) N G) (ai Tryz.f150) (lp Tryz.f150 1) := by
 intro s K r h
 rw [Sw] at h
 unfold FR sk at h
 cases hb : aJ (fB [] 0 0 0 0 []) s with
 | true =>
  rw [hb, ajZ] at h
  exact ⟨N, by rw [<- ar hb, Ja s]; exact (Kg N G K N (aY (bF (ah (vT (nx ac s.tmps 1))))) (af (ah (vT (nx ac s.tmps 54)))) (af (ah (vT (nx ac s.tmps 55)))) (af (nx .und (ak (nx .dead s.blks 0)) 0)) (af (nx .und (ak (nx .dead s.blks 0)) 1)) (aY (bh (nx .dead s.blks 1)))).trans h⟩
 | false =>
 rw [hb, ajY] at h
 clear hb
 cases h
theorem Fn (G : Nat) (v0 : List Int) (v1 v2 v3 : Int) (v4 : List Int) (v5 v6 v7 v8 : Int) (v9 : List Int) (rec_ : St -> O β) (K : Exit -> St -> O β) :
  stB lay (wH zq3 aho ahg ahn ahL ahW ahX ahY ahM ahb N G) Tryz.f150 2 (fC v0 v1 v2 v3 v4 v5 v6 v7 v8 v9) rec_ K = Ij ahX N (ahb G) v0 v1 v2 v3 v4 v5 v6 v7 v8 v9 (fun v0 v1 v2 v3 v4 v5 v6 v7 v8 v9 => rec_ (fC v0 v1 v2 v3 v4 v5 v6 v7 v8 v9)) (fun y0 => K .ret (lm y0)) (fun y0 y1 y2 y3 y4 y5 => K (.exit 5) (ln y0 y1 y2 y3 y4 y5)) := by kernel_rfl
theorem Kh (G : Nat) (K : Exit -> St -> O β) : ∀ (F : Nat) (v0 : List Int) (v1 v2 v3 : Int) (v4 : List Int) (v5 v6 v7 v8 : Int) (v9 : List Int), (lp Tryz.f150 2).rounds lay (pY N G) (ai Tryz.f150) F (fC v0 v1 v2 v3 v4 v5 v6 v7 v8 v9) K = i7 N (cZ N G) F v0 v1 v2 v3 v4 v5 v6 v7 v8 v9 (fun y0 => K .ret (lm y0)) (fun y0 y1 y2 y3 y4 y5 => K (.exit 5) (ln y0 y1 y2 y3 y4 y5)) := by
 intro F; induction F with
 | zero => intros; rfl
 | succ F ih => intros; rw [am]; refine (Fn (zj3 N) (pT N) (eF N) (fQ N) (nm N) (l5 N) (l6 N) (i7 N) (gx N) (cZ N) N G _ _ _ _ _ _ _ _ _ _ (fun s => (lp Tryz.f150 2).rounds lay (pY N G) (ai Tryz.f150) F s K) K).trans ?_; simp only [ih]; rfl
theorem Sx (G : Nat) : aS (pY (β := β) N G).loops (lp Tryz.f150 2).id = FT N G := by kernel_rfl
theorem TE (G : Nat) : ay lay (pY (β := β) N G) (ai Tryz.f150) (lp Tryz.f150 2) := by
 intro s K r h
 rw [Sx] at h
 unfold FT sm at h
 cases hb : aJ (fC [] 0 0 0 [] 0 0 0 0 []) s with
 | true =>
  rw [hb, ajZ] at h
  exact ⟨N, by rw [<- ar hb, Jb s]; exact (Kh N G K N (aY (bF (ah (vT (nx ac s.tmps 1))))) (af (ah (vT (nx ac s.tmps 9)))) (af (ah (vT (nx ac s.tmps 54)))) (af (ah (vT (nx ac s.tmps 55)))) (aY (bF (ah (vT (nx ac s.tmps 59))))) (af (ah (vT (nx ac s.tmps 60)))) (af (ah (vT (nx ac s.tmps 61)))) (af (nx .und (ak (nx .dead s.blks 0)) 0)) (af (nx .und (ak (nx .dead s.blks 0)) 1)) (aY (bh (nx .dead s.blks 1)))).trans h⟩
 | false =>
 rw [hb, ajY] at h
 clear hb
 cases h
theorem Fo (G : Nat) (v0 : List Int) (v1 v2 v3 v4 v5 : Int) (v6 : List Int) (v7 v8 : Int) (v9 : List Int) (v10 v11 v12 v13 : Int) (v14 : List Int) (rec_ : St -> O β) (K : Exit -> St -> O β) :
  stB lay (wH zq3 aho ahg ahn ahL ahW ahX ahY ahM ahb N G) Tryz.f150 3 (fD v0 v1 v2 v3 v4 v5 v6 v7 v8 v9 v10 v11 v12 v13 v14) rec_ K = Ii N (ahb G) v0 v1 v2 v3 v4 v5 v6 v7 v8 v9 v10 v11 v12 v13 v14 (fun v0 v1 v2 v3 v4 v5 v6 v7 v8 v9 v10 v11 v12 v13 v14 => rec_ (fD v0 v1 v2 v3 v4 v5 v6 v7 v8 v9 v10 v11 v12 v13 v14)) (fun y0 => K .ret (lq y0)) (fun y0 y1 y2 y3 y4 y5 y6 y7 y8 y9 => K (.exit 7) (lr y0 y1 y2 y3 y4 y5 y6 y7 y8 y9)) := by kernel_rfl
theorem Ki (G : Nat) (K : Exit -> St -> O β) : ∀ (F : Nat) (v0 : List Int) (v1 v2 v3 v4 v5 : Int) (v6 : List Int) (v7 v8 : Int) (v9 : List Int) (v10 v11 v12 v13 : Int) (v14 : List Int), (lp Tryz.f150 3).rounds lay (pY N G) (ai Tryz.f150) F (fD v0 v1 v2 v3 v4 v5 v6 v7 v8 v9 v10 v11 v12 v13 v14) K = l6 N (cZ N G) F v0 v1 v2 v3 v4 v5 v6 v7 v8 v9 v10 v11 v12 v13 v14 (fun y0 => K .ret (lq y0)) (fun y0 y1 y2 y3 y4 y5 y6 y7 y8 y9 => K (.exit 7) (lr y0 y1 y2 y3 y4 y5 y6 y7 y8 y9)) := by
 intro F; induction F with
 | zero => intros; rfl
 | succ F ih => intros; rw [am]; refine (Fo (zj3 N) (pT N) (eF N) (fQ N) (nm N) (l5 N) (l6 N) (i7 N) (gx N) (cZ N) N G _ _ _ _ _ _ _ _ _ _ _ _ _ _ _ (fun s => (lp Tryz.f150 3).rounds lay (pY N G) (ai Tryz.f150) F s K) K).trans ?_; simp only [ih]; rfl
theorem Sy (G : Nat) : aS (pY (β := β) N G).loops (lp Tryz.f150 3).id = FU N G := by kernel_rfl
theorem TF (G : Nat) : ay lay (pY (β := β) N G) (ai Tryz.f150) (lp Tryz.f150 3) := by
 intro s K r h
 rw [Sy] at h
 unfold FU sn at h
 cases hb : aJ (fD [] 0 0 0 0 0 [] 0 0 [] 0 0 0 0 []) s with
 | true =>
  rw [hb, ajZ] at h
  exact ⟨N, by rw [<- ar hb, Jc s]; exact (Ki N G K N (aY (bF (ah (vT (nx ac s.tmps 1))))) (af (ah (vT (nx ac s.tmps 9)))) (af (ah (vT (nx ac s.tmps 10)))) (af (ah (vT (nx ac s.tmps 11)))) (af (ah (vT (nx ac s.tmps 54)))) (af (ah (vT (nx ac s.tmps 55)))) (aY (bF (ah (vT (nx ac s.tmps 59))))) (af (ah (vT (nx ac s.tmps 60)))) (af (ah (vT (nx ac s.tmps 61)))) (aY (bF (ah (vT (nx ac s.tmps 77))))) (af (ah (vT (nx ac s.tmps 78)))) (af (ah (vT (nx ac s.tmps 79)))) (af (nx .und (ak (nx .dead s.blks 0)) 0)) (af (nx .und (ak (nx .dead s.blks 0)) 1)) (aY (bh (nx .dead s.blks 1)))).trans h⟩
 | false =>
 rw [hb, ajY] at h
 clear hb
 cases h
theorem UI (G : Nat) (a0 a1 : Int) (a2 : List Int) (K : TV -> O β) : aL lay (wH zq3 aho ahg ahn ahL ahW ahX ahY ahM ahb N G) Tryz.f150 [.v (.agg [.int .i64 a0, .int .i64 a1]), .v (.one (.sl 3 (.ints .i64 a2)))] K = PZ zq3 ahn ahL ahW ahM N (ahb G) a0 a1 a2 (fun z3 => K (.v (.one (.str z3)))) := by kernel_rfl
theorem agJ : ∀ args K r, AK (β := β) N 0 args K = some r -> (none : O β) = some r := by
 intro args K r h
 unfold AK sA at h
 split at h <;> exact h
theorem adW : ∀ G, ao (β := β) inv Tryz.prog 150 (AK N G) := by
 intro G
 induction G with
 | zero => exact dG Tryz.func150 (by kernel_rfl) (agJ N)
 | succ G ih =>
  refine ap au mixed (E := pY N G) (ae (aa (agn N) (aa (NT N) (aa (o41 N) (aa (Zt N) (aa (Zo N) (aa ih ag))))))) aj av Tryz.func150 (by kernel_rfl) 4 (by kernel_rfl) ⟨⟨⟨⟨trivial, TC N G⟩, TD N G⟩, TE N G⟩, TF N G⟩ fun args K r h => ?_
  unfold AK sA at h
  split at h
  ·exact (UI (zj3 N) (pT N) (eF N) (fQ N) (nm N) (l5 N) (l6 N) (i7 N) (gx N) (cZ N) N G _ _ _ _).trans h
  ·cases h
theorem af6 : ao (β := β) inv Tryz.prog 150 (afu N) := adW N N
end Go.Proofs.YtemihnclhcobnaaGreatDoor
