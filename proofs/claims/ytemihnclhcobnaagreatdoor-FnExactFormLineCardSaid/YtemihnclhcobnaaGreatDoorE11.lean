/- The functions that the claims dl bK as their texts do. -/
import Derived.Test.YtemihnclhcobnaaGreatDoorE10
namespace Go.Proofs.YtemihnclhcobnaaGreatDoor
set_option linter.unusedSimpArgs false
open Go.Rv
set_option maxRecDepth 100000
set_option maxHeartbeats 2000000
set_option linter.unusedVariables false
variable {β : Type}
variable (zq13 : Y8 β) (zq20 : Y12 β) (zq147 : Y45 β) (zq173 : Y12 β) (zq174 : Y0 β) (zq176 : Y85 β) (zq178 : Y88 β) (zq180 : Y87 β) (zq182 : Y86 β) (zq184 : Y84 β)
def ql (N G : Nat) : Rv.Spec β := fun args K => match args with
 | [.v (.agg [.int .i64 a0, .int .i64 a1]), .v (.one (.sl 3 (.ints .i64 a2)))] => zq184 G a0 a1 a2 (fun z3 => K (.v (.one (.str z3))))
 | _ => none
def xE (N G : Nat) : Rv.Spec β := ql (cL N) N G
def VV (N : Nat) : Rv.Spec β := ql zq184 N N
def Xu (N : Nat) : Rv.Spec β := xE N N
def gK (v0 : List Int) (v1 v2 v3 v4 : Int) : St := ⟨ac :: .v (.one (.sl 3 (.ints .i64 v0))) :: .v (.one (.ptr 0 0)) :: tn 24 ((Z' v1) :: (Z' v2) :: tn 102 []), [.cells 25 [.int .i64 v3, .int .i64 v4]]⟩
def ki (y0 : ByteArray) : St := ⟨tn 4 (.v (.one (.str y0)) :: tn 126 []), []⟩
def kj (y0 : List Int) (y1 y2 : Int) : St := ⟨ac :: .v (.one (.sl 3 (.ints .i64 y0))) :: .v (.one (.ptr 0 0)) :: tn 128 [], [.cells 25 [.int .i64 y1, .int .i64 y2]]⟩
def fe (v0 : List Int) (v1 v2 v3 v4 : Int) (v5 : List Int) : St := ⟨ac :: .v (.one (.sl 3 (.ints .i64 v0))) :: .v (.one (.ptr 0 0)) :: tn 50 (.v (.one (.row 1)) :: (Z' v1) :: (Z' v2) :: tn 75 []), [.cells 25 [.int .i64 v3, .int .i64 v4], .srow 5 (.ints .u8 v5)]⟩
def kk (y0 : ByteArray) : St := ⟨tn 4 (.v (.one (.str y0)) :: tn 126 []), []⟩
def kl : St := ⟨tn 131 [], []⟩
def fg (v0 : List Int) (v1 v2 v3 : Int) (v4 : List Int) (v5 v6 v7 v8 : Int) (v9 : List Int) : St := ⟨ac :: .v (.one (.sl 3 (.ints .i64 v0))) :: .v (.one (.ptr 0 0)) :: tn 6 (.v (.one (.int .u8 v1)) :: tn 43 (.v (.one (.row 1)) :: (Z' v2) :: (Z' v3) :: tn 3 (.v (.one (.sl 3 (.ints .i64 v4))) :: (Z' v5) :: (Z' v6) :: tn 69 []))), [.cells 25 [.int .i64 v7, .int .i64 v8], .srow 5 (.ints .u8 v9)]⟩
def km (y0 : ByteArray) : St := ⟨tn 4 (.v (.one (.str y0)) :: tn 126 []), []⟩
def ko (y0 : List Int) (y1 y2 y3 y4 : Int) (y5 : List Int) : St := ⟨ac :: .v (.one (.sl 3 (.ints .i64 y0))) :: .v (.one (.ptr 0 0)) :: tn 50 (.v (.one (.row 1)) :: (Z' y1) :: (Z' y2) :: tn 75 []), [.cells 25 [.int .i64 y3, .int .i64 y4], .srow 5 (.ints .u8 y5)]⟩
def fh (v0 : List Int) (v1 v2 v3 v4 v5 : Int) (v6 : List Int) (v7 v8 : Int) (v9 : List Int) (v10 v11 v12 v13 : Int) (v14 : List Int) : St := ⟨ac :: .v (.one (.sl 3 (.ints .i64 v0))) :: .v (.one (.ptr 0 0)) :: tn 6 (.v (.one (.int .u8 v1)) :: (Z' v2) :: (Z' v3) :: tn 41 (.v (.one (.row 1)) :: (Z' v4) :: (Z' v5) :: tn 3 (.v (.one (.sl 3 (.ints .i64 v6))) :: (Z' v7) :: (Z' v8) :: tn 15 (.v (.one (.sl 3 (.ints .i64 v9))) :: (Z' v10) :: (Z' v11) :: tn 51 [])))), [.cells 25 [.int .i64 v12, .int .i64 v13], .srow 5 (.ints .u8 v14)]⟩
def kp (y0 : ByteArray) : St := ⟨tn 4 (.v (.one (.str y0)) :: tn 126 []), []⟩
def kq (y0 : List Int) (y1 y2 y3 : Int) (y4 : List Int) (y5 y6 y7 y8 : Int) (y9 : List Int) : St := ⟨ac :: .v (.one (.sl 3 (.ints .i64 y0))) :: .v (.one (.ptr 0 0)) :: tn 6 (.v (.one (.int .u8 y1)) :: tn 43 (.v (.one (.row 1)) :: (Z' y2) :: (Z' y3) :: tn 3 (.v (.one (.sl 3 (.ints .i64 y4))) :: (Z' y5) :: (Z' y6) :: tn 69 []))), [.cells 25 [.int .i64 y7, .int .i64 y8], .srow 5 (.ints .u8 y9)]⟩
def rH {γ : Type} (f : List Int → Int → Int → Int → Int → γ) (s : St) : γ := f (aY (bg (ag (vT (nx ac s.tmps 1))))) (ae (ag (vT (nx ac s.tmps 27)))) (ae (ag (vT (nx ac s.tmps 28)))) (ae (nx .und (ao (nx .dead s.blks 0)) 0)) (ae (nx .und (ao (nx .dead s.blks 0)) 1))
theorem Fv (s : St) : aT (gK [] 0 0 0 0) s = rH gK s := by kernel_rfl
def xT (N G : Nat) : ay β := fun s K => cond (aK (gK [] 0 0 0 0) s) (rH (fun v0 v1 v2 v3 v4 => zq176 N v0 v1 v2 v3 v4 (fun y0 => K .ret (ki y0)) (fun y0 y1 y2 => K (.exit 0) (kj y0 y1 y2))) s) (none)
def Mt (N G : Nat) : ay β := xT (kZ N) N G
def JL {γ : Type} (f : List Int → Int → Int → Int → Int → List Int → γ) (s : St) : γ := f (aY (bg (ag (vT (nx ac s.tmps 1))))) (ae (ag (vT (nx ac s.tmps 54)))) (ae (ag (vT (nx ac s.tmps 55)))) (ae (nx .und (ao (nx .dead s.blks 0)) 0)) (ae (nx .und (ao (nx .dead s.blks 0)) 1)) (aY (aV (nx .dead s.blks 1)))
theorem Fw (s : St) : aT (fe [] 0 0 0 0 []) s = JL fe s := by kernel_rfl
def qb (N G : Nat) : ay β := fun s K => cond (aK (fe [] 0 0 0 0 []) s) ((fun (v0 : List Int) (v1 v2 v3 v4 : Int) (v5 : List Int) => zq182 (zq184 G) N v0 v1 v2 v3 v4 v5 (fun y0 => K .ret (kk y0)) (K (.exit 3) (kl ))) (aY (bg (ag (vT (nx ac s.tmps 1))))) (ae (ag (vT (nx ac s.tmps 54)))) (ae (ag (vT (nx ac s.tmps 55)))) (ae (nx .und (ao (nx .dead s.blks 0)) 0)) (ae (nx .und (ao (nx .dead s.blks 0)) 1)) (aY (aV (nx .dead s.blks 1)))) (none)
def CT (N G : Nat) : ay β := qb (fR N) (cL N) N G
def JM {γ : Type} (f : List Int → Int → Int → Int → List Int → Int → Int → Int → Int → List Int → γ) (s : St) : γ := f (aY (bg (ag (vT (nx ac s.tmps 1))))) (ae (ag (vT (nx ac s.tmps 9)))) (ae (ag (vT (nx ac s.tmps 54)))) (ae (ag (vT (nx ac s.tmps 55)))) (aY (bg (ag (vT (nx ac s.tmps 59))))) (ae (ag (vT (nx ac s.tmps 60)))) (ae (ag (vT (nx ac s.tmps 61)))) (ae (nx .und (ao (nx .dead s.blks 0)) 0)) (ae (nx .und (ao (nx .dead s.blks 0)) 1)) (aY (aV (nx .dead s.blks 1)))
theorem Fx (s : St) : aT (fg [] 0 0 0 [] 0 0 0 0 []) s = JM fg s := by kernel_rfl
def qc (N G : Nat) : ay β := fun s K => cond (aK (fg [] 0 0 0 [] 0 0 0 0 []) s) ((fun (v0 : List Int) (v1 v2 v3 : Int) (v4 : List Int) (v5 v6 v7 v8 : Int) (v9 : List Int) => zq180 (zq184 G) N v0 v1 v2 v3 v4 v5 v6 v7 v8 v9 (fun y0 => K .ret (km y0)) (fun y0 y1 y2 y3 y4 y5 => K (.exit 5) (ko y0 y1 y2 y3 y4 y5))) (aY (bg (ag (vT (nx ac s.tmps 1))))) (ae (ag (vT (nx ac s.tmps 9)))) (ae (ag (vT (nx ac s.tmps 54)))) (ae (ag (vT (nx ac s.tmps 55)))) (aY (bg (ag (vT (nx ac s.tmps 59))))) (ae (ag (vT (nx ac s.tmps 60)))) (ae (ag (vT (nx ac s.tmps 61)))) (ae (nx .und (ao (nx .dead s.blks 0)) 0)) (ae (nx .und (ao (nx .dead s.blks 0)) 1)) (aY (aV (nx .dead s.blks 1)))) (none)
def CU (N G : Nat) : ay β := qc (iu N) (cL N) N G
def JN {γ : Type} (f : List Int → Int → Int → Int → Int → Int → List Int → Int → Int → List Int → Int → Int → Int → Int → List Int → γ) (s : St) : γ := f (aY (bg (ag (vT (nx ac s.tmps 1))))) (ae (ag (vT (nx ac s.tmps 9)))) (ae (ag (vT (nx ac s.tmps 10)))) (ae (ag (vT (nx ac s.tmps 11)))) (ae (ag (vT (nx ac s.tmps 54)))) (ae (ag (vT (nx ac s.tmps 55)))) (aY (bg (ag (vT (nx ac s.tmps 59))))) (ae (ag (vT (nx ac s.tmps 60)))) (ae (ag (vT (nx ac s.tmps 61)))) (aY (bg (ag (vT (nx ac s.tmps 77))))) (ae (ag (vT (nx ac s.tmps 78)))) (ae (ag (vT (nx ac s.tmps 79)))) (ae (nx .und (ao (nx .dead s.blks 0)) 0)) (ae (nx .und (ao (nx .dead s.blks 0)) 1)) (aY (aV (nx .dead s.blks 1)))
theorem Fy (s : St) : aT (fh [] 0 0 0 0 0 [] 0 0 [] 0 0 0 0 []) s = JN fh s := by kernel_rfl
def qd (N G : Nat) : ay β := fun s K => cond (aK (fh [] 0 0 0 0 0 [] 0 0 [] 0 0 0 0 []) s) ((fun (v0 : List Int) (v1 v2 v3 v4 v5 : Int) (v6 : List Int) (v7 v8 : Int) (v9 : List Int) (v10 v11 v12 v13 : Int) (v14 : List Int) => zq178 (zq184 G) N v0 v1 v2 v3 v4 v5 v6 v7 v8 v9 v10 v11 v12 v13 v14 (fun y0 => K .ret (kp y0)) (fun y0 y1 y2 y3 y4 y5 y6 y7 y8 y9 => K (.exit 7) (kq y0 y1 y2 y3 y4 y5 y6 y7 y8 y9))) (aY (bg (ag (vT (nx ac s.tmps 1))))) (ae (ag (vT (nx ac s.tmps 9)))) (ae (ag (vT (nx ac s.tmps 10)))) (ae (ag (vT (nx ac s.tmps 11)))) (ae (ag (vT (nx ac s.tmps 54)))) (ae (ag (vT (nx ac s.tmps 55)))) (aY (bg (ag (vT (nx ac s.tmps 59))))) (ae (ag (vT (nx ac s.tmps 60)))) (ae (ag (vT (nx ac s.tmps 61)))) (aY (bg (ag (vT (nx ac s.tmps 77))))) (ae (ag (vT (nx ac s.tmps 78)))) (ae (ag (vT (nx ac s.tmps 79)))) (ae (nx .und (ao (nx .dead s.blks 0)) 0)) (ae (nx .und (ao (nx .dead s.blks 0)) 1)) (aY (aV (nx .dead s.blks 1)))) (none)
def CV (N G : Nat) : ay β := qd (k8 N) (cL N) N G
def tU (N G : Nat) : Env β := ⟨[(211, Id zq174 N), (103, tV zq13 N), (41, In zq147 N), (212, Ie zq20 N), (174, Dg zq173 N), (150, ql zq184 N G)], [], [(0, xT zq176 N G), (3, qb zq182 zq184 N G), (5, qc zq180 zq184 N G), (7, qd zq178 zq184 N G)], [], ⟨[], [], [], []⟩⟩
def nZ (N G : Nat) : Env β := tU (eD N) (tF N) (dx N) (ir N) (l9 N) (kZ N) (k8 N) (iu N) (fR N) (cL N) N G
theorem Ci (N G : Nat) (v0 : List Int) (v1 v2 v3 v4 : Int) (rec_ : St → O β) (K : Exit → St → O β) :
  stB lay (tU zq13 zq20 zq147 zq173 zq174 zq176 zq178 zq180 zq182 zq184 N G) Tryz.f150 0 (gK v0 v1 v2 v3 v4) rec_ K = EJ zq20 zq173 N v0 v1 v2 v3 v4 (fun v0 v1 v2 v3 v4 => rec_ (gK v0 v1 v2 v3 v4)) (fun y0 => K .ret (ki y0)) (fun y0 y1 y2 => K (.exit 0) (kj y0 y1 y2)) := by kernel_rfl
theorem Gx (N G : Nat) (K : Exit → St → O β) : ∀ (F : Nat) (v0 : List Int) (v1 v2 v3 v4 : Int), (lp Tryz.f150 0).rounds lay (nZ N G) (ah Tryz.f150) F (gK v0 v1 v2 v3 v4) K = kZ N F v0 v1 v2 v3 v4 (fun y0 => K .ret (ki y0)) (fun y0 y1 y2 => K (.exit 0) (kj y0 y1 y2)) := by
 intro F; induction F with
 | zero => intros; rfl
 | succ F ih => intros; rw [am]; refine (Ci (eD N) (tF N) (dx N) (ir N) (l9 N) (kZ N) (k8 N) (iu N) (fR N) (cL N) N G _ _ _ _ _ (fun s => (lp Tryz.f150 0).rounds lay (nZ N G) (ah Tryz.f150) F s K) K).trans ?_; simp only [ih]; rfl
theorem Nz (N G : Nat) : aS (nZ (β := β) N G).loops (lp Tryz.f150 0).id = Mt N G := by kernel_rfl
theorem Ov (N G : Nat) : az lay (nZ (β := β) N G) (ah Tryz.f150) (lp Tryz.f150 0) := rks (Nz ..) (rc1 (fun s K hb => ⟨N, by rw [← ar hb, Fv s]; unfold rH; exact Gx N _ K N _ _ _ _ _⟩) rc0)
theorem Cj (N G : Nat) (v0 : List Int) (v1 v2 v3 v4 : Int) (v5 : List Int) (rec_ : St → O β) (K : Exit → St → O β) :
  stB lay (tU zq13 zq20 zq147 zq173 zq174 zq176 zq178 zq180 zq182 zq184 N G) Tryz.f150 1 (fe v0 v1 v2 v3 v4 v5) rec_ K = EM zq180 N (zq184 G) v0 v1 v2 v3 v4 v5 (fun v0 v1 v2 v3 v4 v5 => rec_ (fe v0 v1 v2 v3 v4 v5)) (fun y0 => K .ret (kk y0)) (K (.exit 3) (kl )) := by kernel_rfl
theorem Gy (N G : Nat) (K : Exit → St → O β) : ∀ (F : Nat) (v0 : List Int) (v1 v2 v3 v4 : Int) (v5 : List Int), (lp Tryz.f150 1).rounds lay (nZ N G) (ah Tryz.f150) F (fe v0 v1 v2 v3 v4 v5) K = fR N (cL N G) F v0 v1 v2 v3 v4 v5 (fun y0 => K .ret (kk y0)) (K (.exit 3) (kl )) := by
 intro F; induction F with
 | zero => intros; rfl
 | succ F ih => intros; rw [am]; refine (Cj (eD N) (tF N) (dx N) (ir N) (l9 N) (kZ N) (k8 N) (iu N) (fR N) (cL N) N G _ _ _ _ _ _ (fun s => (lp Tryz.f150 1).rounds lay (nZ N G) (ah Tryz.f150) F s K) K).trans ?_; simp only [ih]; rfl
theorem NA (N G : Nat) : aS (nZ (β := β) N G).loops (lp Tryz.f150 1).id = CT N G := by kernel_rfl
theorem Ow (N G : Nat) : az lay (nZ (β := β) N G) (ah Tryz.f150) (lp Tryz.f150 1) := by
 intro s K r h
 rw [NA] at h
 unfold CT qb at h
 cases hb : aK (fe [] 0 0 0 0 []) s with
 | true =>
  rw [hb, YC] at h
  exact ⟨N, by rw [← ar hb, Fw s]; exact (Gy N G K N (aY (bg (ag (vT (nx ac s.tmps 1))))) (ae (ag (vT (nx ac s.tmps 54)))) (ae (ag (vT (nx ac s.tmps 55)))) (ae (nx .und (ao (nx .dead s.blks 0)) 0)) (ae (nx .und (ao (nx .dead s.blks 0)) 1)) (aY (aV (nx .dead s.blks 1)))).trans h⟩
 | false =>
 rw [hb, YB] at h
 clear hb
 cases h
theorem Ck (N G : Nat) (v0 : List Int) (v1 v2 v3 : Int) (v4 : List Int) (v5 v6 v7 v8 : Int) (v9 : List Int) (rec_ : St → O β) (K : Exit → St → O β) :
  stB lay (tU zq13 zq20 zq147 zq173 zq174 zq176 zq178 zq180 zq182 zq184 N G) Tryz.f150 2 (fg v0 v1 v2 v3 v4 v5 v6 v7 v8 v9) rec_ K = EL zq178 N (zq184 G) v0 v1 v2 v3 v4 v5 v6 v7 v8 v9 (fun v0 v1 v2 v3 v4 v5 v6 v7 v8 v9 => rec_ (fg v0 v1 v2 v3 v4 v5 v6 v7 v8 v9)) (fun y0 => K .ret (km y0)) (fun y0 y1 y2 y3 y4 y5 => K (.exit 5) (ko y0 y1 y2 y3 y4 y5)) := by kernel_rfl
theorem Gz (N G : Nat) (K : Exit → St → O β) : ∀ (F : Nat) (v0 : List Int) (v1 v2 v3 : Int) (v4 : List Int) (v5 v6 v7 v8 : Int) (v9 : List Int), (lp Tryz.f150 2).rounds lay (nZ N G) (ah Tryz.f150) F (fg v0 v1 v2 v3 v4 v5 v6 v7 v8 v9) K = iu N (cL N G) F v0 v1 v2 v3 v4 v5 v6 v7 v8 v9 (fun y0 => K .ret (km y0)) (fun y0 y1 y2 y3 y4 y5 => K (.exit 5) (ko y0 y1 y2 y3 y4 y5)) := by
 intro F; induction F with
 | zero => intros; rfl
 | succ F ih => intros; rw [am]; refine (Ck (eD N) (tF N) (dx N) (ir N) (l9 N) (kZ N) (k8 N) (iu N) (fR N) (cL N) N G _ _ _ _ _ _ _ _ _ _ (fun s => (lp Tryz.f150 2).rounds lay (nZ N G) (ah Tryz.f150) F s K) K).trans ?_; simp only [ih]; rfl
theorem NB (N G : Nat) : aS (nZ (β := β) N G).loops (lp Tryz.f150 2).id = CU N G := by kernel_rfl
theorem Ox (N G : Nat) : az lay (nZ (β := β) N G) (ah Tryz.f150) (lp Tryz.f150 2) := by
 intro s K r h
 rw [NB] at h
 unfold CU qc at h
 cases hb : aK (fg [] 0 0 0 [] 0 0 0 0 []) s with
 | true =>
  rw [hb, YC] at h
  exact ⟨N, by rw [← ar hb, Fx s]; exact (Gz N G K N (aY (bg (ag (vT (nx ac s.tmps 1))))) (ae (ag (vT (nx ac s.tmps 9)))) (ae (ag (vT (nx ac s.tmps 54)))) (ae (ag (vT (nx ac s.tmps 55)))) (aY (bg (ag (vT (nx ac s.tmps 59))))) (ae (ag (vT (nx ac s.tmps 60)))) (ae (ag (vT (nx ac s.tmps 61)))) (ae (nx .und (ao (nx .dead s.blks 0)) 0)) (ae (nx .und (ao (nx .dead s.blks 0)) 1)) (aY (aV (nx .dead s.blks 1)))).trans h⟩
 | false =>
 rw [hb, YB] at h
 clear hb
 cases h
theorem Cl (N G : Nat) (v0 : List Int) (v1 v2 v3 v4 v5 : Int) (v6 : List Int) (v7 v8 : Int) (v9 : List Int) (v10 v11 v12 v13 : Int) (v14 : List Int) (rec_ : St → O β) (K : Exit → St → O β) :
  stB lay (tU zq13 zq20 zq147 zq173 zq174 zq176 zq178 zq180 zq182 zq184 N G) Tryz.f150 3 (fh v0 v1 v2 v3 v4 v5 v6 v7 v8 v9 v10 v11 v12 v13 v14) rec_ K = EK N (zq184 G) v0 v1 v2 v3 v4 v5 v6 v7 v8 v9 v10 v11 v12 v13 v14 (fun v0 v1 v2 v3 v4 v5 v6 v7 v8 v9 v10 v11 v12 v13 v14 => rec_ (fh v0 v1 v2 v3 v4 v5 v6 v7 v8 v9 v10 v11 v12 v13 v14)) (fun y0 => K .ret (kp y0)) (fun y0 y1 y2 y3 y4 y5 y6 y7 y8 y9 => K (.exit 7) (kq y0 y1 y2 y3 y4 y5 y6 y7 y8 y9)) := by kernel_rfl
theorem GA (N G : Nat) (K : Exit → St → O β) : ∀ (F : Nat) (v0 : List Int) (v1 v2 v3 v4 v5 : Int) (v6 : List Int) (v7 v8 : Int) (v9 : List Int) (v10 v11 v12 v13 : Int) (v14 : List Int), (lp Tryz.f150 3).rounds lay (nZ N G) (ah Tryz.f150) F (fh v0 v1 v2 v3 v4 v5 v6 v7 v8 v9 v10 v11 v12 v13 v14) K = k8 N (cL N G) F v0 v1 v2 v3 v4 v5 v6 v7 v8 v9 v10 v11 v12 v13 v14 (fun y0 => K .ret (kp y0)) (fun y0 y1 y2 y3 y4 y5 y6 y7 y8 y9 => K (.exit 7) (kq y0 y1 y2 y3 y4 y5 y6 y7 y8 y9)) := by
 intro F; induction F with
 | zero => intros; rfl
 | succ F ih => intros; rw [am]; refine (Cl (eD N) (tF N) (dx N) (ir N) (l9 N) (kZ N) (k8 N) (iu N) (fR N) (cL N) N G _ _ _ _ _ _ _ _ _ _ _ _ _ _ _ (fun s => (lp Tryz.f150 3).rounds lay (nZ N G) (ah Tryz.f150) F s K) K).trans ?_; simp only [ih]; rfl
theorem NC (N G : Nat) : aS (nZ (β := β) N G).loops (lp Tryz.f150 3).id = CV N G := by kernel_rfl
theorem Oy (N G : Nat) : az lay (nZ (β := β) N G) (ah Tryz.f150) (lp Tryz.f150 3) := by
 intro s K r h
 rw [NC] at h
 unfold CV qd at h
 cases hb : aK (fh [] 0 0 0 0 0 [] 0 0 [] 0 0 0 0 []) s with
 | true =>
  rw [hb, YC] at h
  exact ⟨N, by rw [← ar hb, Fy s]; exact (GA N G K N (aY (bg (ag (vT (nx ac s.tmps 1))))) (ae (ag (vT (nx ac s.tmps 9)))) (ae (ag (vT (nx ac s.tmps 10)))) (ae (ag (vT (nx ac s.tmps 11)))) (ae (ag (vT (nx ac s.tmps 54)))) (ae (ag (vT (nx ac s.tmps 55)))) (aY (bg (ag (vT (nx ac s.tmps 59))))) (ae (ag (vT (nx ac s.tmps 60)))) (ae (ag (vT (nx ac s.tmps 61)))) (aY (bg (ag (vT (nx ac s.tmps 77))))) (ae (ag (vT (nx ac s.tmps 78)))) (ae (ag (vT (nx ac s.tmps 79)))) (ae (nx .und (ao (nx .dead s.blks 0)) 0)) (ae (nx .und (ao (nx .dead s.blks 0)) 1)) (aY (aV (nx .dead s.blks 1)))).trans h⟩
 | false =>
 rw [hb, YB] at h
 clear hb
 cases h
theorem Pu (N G : Nat) (a0 a1 : Int) (a2 : List Int) (K : TV → O β) : aQ lay (tU zq13 zq20 zq147 zq173 zq174 zq176 zq178 zq180 zq182 zq184 N G) Tryz.f150 [.v (.agg [.int .i64 a0, .int .i64 a1]), .v (.one (.sl 3 (.ints .i64 a2)))] K = Lf zq13 zq147 zq174 zq176 zq182 N (zq184 G) a0 a1 a2 (fun z3 => K (.v (.one (.str z3)))) := by kernel_rfl
theorem Yp (N : Nat) : ∀ args K r, xE (β := β) N 0 args K = some r → (none : O β) = some r := by
 intro args K r h
 unfold xE ql at h
 split at h <;> exact h
theorem Ww (N : Nat) : ∀ G, ap (β := β) inv Tryz.prog 150 (xE N G) := by
 intro G
 induction G with
 | zero => exact oK Tryz.func150 (by kernel_rfl) (Yp N)
 | succ G ih =>
  refine aq ax mixed (E := nZ N G) (af (aa (XZ N) (aa (NY N) (aa (o41 N) (aa (Wp N) (aa (Wh N) (aa ih ai))))))) ak aA Tryz.func150 (by kernel_rfl) 4 (by kernel_rfl) ⟨⟨⟨⟨trivial, Ov N G⟩, Ow N G⟩, Ox N G⟩, Oy N G⟩ fun args K r h => ?_
  unfold xE ql at h
  split at h
  ·exact (Pu (eD N) (tF N) (dx N) (ir N) (l9 N) (kZ N) (k8 N) (iu N) (fR N) (cL N) N G _ _ _ _).trans h
  ·cases h
theorem XO (N : Nat) : ap (β := β) inv Tryz.prog 150 (Xu N) := Ww N N
end Go.Proofs.YtemihnclhcobnaaGreatDoor
