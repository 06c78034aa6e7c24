/- The functions that the claims cZ bz as their texts do. -/
import Derived.Test.YtmhlcbibbhelkaaGreatDoorE13
namespace Go.Proofs.YtmhlcbibbhelkaaGreatDoor
set_option linter.unusedSimpArgs false
open Go.Rv
set_option maxRecDepth 100000
set_option maxHeartbeats 2000000
set_option linter.unusedVariables false
variable {β : Type}
variable (zq3 : Y3 β) (aeo aeg : Y18 β) (aen : Qq β) (aeL : Y0 β) (aeW : abE β) (aeX : abH β) (aeY : abG β) (aeM : abF β) (aeb : abD β)
def AN (N G : Nat) : Rv.Spec β := fun args K => match args with
 | [.v (.agg [.int .i64 a0, .int .i64 a1]), .v (.one (.sl 3 (.ints .i64 a2)))] => aeb G a0 a1 a2 (fun z3 => K (.v (.one (.str z3))))
 | _ => none
def J0 (N G : Nat) : Rv.Spec β := AN (c7 N) N G
def acZ (N : Nat) : Rv.Spec β := AN aeb N N
def S72 (N : Nat) : Rv.Spec β := J0 N N
def ly (v0 : List Int) (v1 v2 v3 v4 : Int) : St := ⟨ac :: .v (.one (.sl 3 (.ints .i64 v0))) :: .v (.one (.ptr 0 0)) :: tn 24 ((Z' v1) :: (Z' v2) :: tn 102 []), [.cells 26 [.int .i64 v3, .int .i64 v4]]⟩
def om (y0 : ByteArray) : St := ⟨tn 4 (.v (.one (.str y0)) :: tn 126 []), []⟩
def oo (y0 : List Int) (y1 y2 : Int) : St := ⟨ac :: .v (.one (.sl 3 (.ints .i64 y0))) :: .v (.one (.ptr 0 0)) :: tn 128 [], [.cells 26 [.int .i64 y1, .int .i64 y2]]⟩
def iR (v0 : List Int) (v1 v2 v3 v4 : Int) (v5 : List Int) : St := ⟨ac :: .v (.one (.sl 3 (.ints .i64 v0))) :: .v (.one (.ptr 0 0)) :: tn 50 (.v (.one (.row 1)) :: (Z' v1) :: (Z' v2) :: tn 75 []), [.cells 26 [.int .i64 v3, .int .i64 v4], .srow 5 (.ints .u8 v5)]⟩
def oq (y0 : ByteArray) : St := ⟨tn 4 (.v (.one (.str y0)) :: tn 126 []), []⟩
def ot : St := ⟨tn 131 [], []⟩
def iS (v0 : List Int) (v1 v2 v3 : Int) (v4 : List Int) (v5 v6 v7 v8 : Int) (v9 : List Int) : St := ⟨ac :: .v (.one (.sl 3 (.ints .i64 v0))) :: .v (.one (.ptr 0 0)) :: tn 6 (.v (.one (.int .u8 v1)) :: tn 43 (.v (.one (.row 1)) :: (Z' v2) :: (Z' v3) :: tn 3 (.v (.one (.sl 3 (.ints .i64 v4))) :: (Z' v5) :: (Z' v6) :: tn 69 []))), [.cells 26 [.int .i64 v7, .int .i64 v8], .srow 5 (.ints .u8 v9)]⟩
def ou (y0 : ByteArray) : St := ⟨tn 4 (.v (.one (.str y0)) :: tn 126 []), []⟩
def ov (y0 : List Int) (y1 y2 y3 y4 : Int) (y5 : List Int) : St := ⟨ac :: .v (.one (.sl 3 (.ints .i64 y0))) :: .v (.one (.ptr 0 0)) :: tn 50 (.v (.one (.row 1)) :: (Z' y1) :: (Z' y2) :: tn 75 []), [.cells 26 [.int .i64 y3, .int .i64 y4], .srow 5 (.ints .u8 y5)]⟩
def iT (v0 : List Int) (v1 v2 v3 v4 v5 : Int) (v6 : List Int) (v7 v8 : Int) (v9 : List Int) (v10 v11 v12 v13 : Int) (v14 : List Int) : St := ⟨ac :: .v (.one (.sl 3 (.ints .i64 v0))) :: .v (.one (.ptr 0 0)) :: tn 6 (.v (.one (.int .u8 v1)) :: (Z' v2) :: (Z' v3) :: tn 41 (.v (.one (.row 1)) :: (Z' v4) :: (Z' v5) :: tn 3 (.v (.one (.sl 3 (.ints .i64 v6))) :: (Z' v7) :: (Z' v8) :: tn 15 (.v (.one (.sl 3 (.ints .i64 v9))) :: (Z' v10) :: (Z' v11) :: tn 51 [])))), [.cells 26 [.int .i64 v12, .int .i64 v13], .srow 5 (.ints .u8 v14)]⟩
def ow (y0 : ByteArray) : St := ⟨tn 4 (.v (.one (.str y0)) :: tn 126 []), []⟩
def oA (y0 : List Int) (y1 y2 y3 : Int) (y4 : List Int) (y5 y6 y7 y8 : Int) (y9 : List Int) : St := ⟨ac :: .v (.one (.sl 3 (.ints .i64 y0))) :: .v (.one (.ptr 0 0)) :: tn 6 (.v (.one (.int .u8 y1)) :: tn 43 (.v (.one (.row 1)) :: (Z' y2) :: (Z' y3) :: tn 3 (.v (.one (.sl 3 (.ints .i64 y4))) :: (Z' y5) :: (Z' y6) :: tn 69 []))), [.cells 26 [.int .i64 y7, .int .i64 y8], .srow 5 (.ints .u8 y9)]⟩
def zD {γ : Type} (f : List Int → Int → Int → Int → Int → γ) (s : St) : γ := f (aY (bF (ah (vT (nx ac s.tmps 1))))) (af (ah (vT (nx ac s.tmps 27)))) (af (ah (vT (nx ac s.tmps 28)))) (af (nx .und (aj (nx .dead s.blks 0)) 0)) (af (nx .und (aj (nx .dead s.blks 0)) 1))
theorem LF (s : St) : aP (ly [] 0 0 0 0) s = zD ly s := by kernel_rfl
def EZ (N G : Nat) : ax β := fun s K => cond (aJ (ly [] 0 0 0 0) s) (zD (fun v0 v1 v2 v3 v4 => aeW N v0 v1 v2 v3 v4 (fun y0 => K .ret (om y0)) (fun y0 y1 y2 => K (.exit 0) (oo y0 y1 y2))) s) (none)
def Ui (N G : Nat) : ax β := EZ (kw N) N G
def Rg {γ : Type} (f : List Int → Int → Int → Int → Int → List Int → γ) (s : St) : γ := f (aY (bF (ah (vT (nx ac s.tmps 1))))) (af (ah (vT (nx ac s.tmps 54)))) (af (ah (vT (nx ac s.tmps 55)))) (af (nx .und (aj (nx .dead s.blks 0)) 0)) (af (nx .und (aj (nx .dead s.blks 0)) 1)) (aY (bh (nx .dead s.blks 1)))
theorem LG (s : St) : aP (iR [] 0 0 0 0 []) s = Rg iR s := by kernel_rfl
def xP (N G : Nat) : ax β := fun s K => cond (aJ (iR [] 0 0 0 0 []) s) ((fun (v0 : List Int) (v1 v2 v3 v4 : Int) (v5 : List Int) => aeM (aeb G) N v0 v1 v2 v3 v4 v5 (fun y0 => K .ret (oq y0)) (K (.exit 3) (ot ))) (aY (bF (ah (vT (nx ac s.tmps 1))))) (af (ah (vT (nx ac s.tmps 54)))) (af (ah (vT (nx ac s.tmps 55)))) (af (nx .und (aj (nx .dead s.blks 0)) 0)) (af (nx .und (aj (nx .dead s.blks 0)) 1)) (aY (bh (nx .dead s.blks 1)))) (none)
def JP (N G : Nat) : ax β := xP (gr N) (c7 N) N G
def Rh {γ : Type} (f : List Int → Int → Int → Int → List Int → Int → Int → Int → Int → List Int → γ) (s : St) : γ := f (aY (bF (ah (vT (nx ac s.tmps 1))))) (af (ah (vT (nx ac s.tmps 9)))) (af (ah (vT (nx ac s.tmps 54)))) (af (ah (vT (nx ac s.tmps 55)))) (aY (bF (ah (vT (nx ac s.tmps 59))))) (af (ah (vT (nx ac s.tmps 60)))) (af (ah (vT (nx ac s.tmps 61)))) (af (nx .und (aj (nx .dead s.blks 0)) 0)) (af (nx .und (aj (nx .dead s.blks 0)) 1)) (aY (bh (nx .dead s.blks 1)))
theorem LH (s : St) : aP (iS [] 0 0 0 [] 0 0 0 0 []) s = Rh iS s := by kernel_rfl
def xQ (N G : Nat) : ax β := fun s K => cond (aJ (iS [] 0 0 0 [] 0 0 0 0 []) s) ((fun (v0 : List Int) (v1 v2 v3 : Int) (v4 : List Int) (v5 v6 v7 v8 : Int) (v9 : List Int) => aeY (aeb G) N v0 v1 v2 v3 v4 v5 v6 v7 v8 v9 (fun y0 => K .ret (ou y0)) (fun y0 y1 y2 y3 y4 y5 => K (.exit 5) (ov y0 y1 y2 y3 y4 y5))) (aY (bF (ah (vT (nx ac s.tmps 1))))) (af (ah (vT (nx ac s.tmps 9)))) (af (ah (vT (nx ac s.tmps 54)))) (af (ah (vT (nx ac s.tmps 55)))) (aY (bF (ah (vT (nx ac s.tmps 59))))) (af (ah (vT (nx ac s.tmps 60)))) (af (ah (vT (nx ac s.tmps 61)))) (af (nx .und (aj (nx .dead s.blks 0)) 0)) (af (nx .und (aj (nx .dead s.blks 0)) 1)) (aY (bh (nx .dead s.blks 1)))) (none)
def JQ (N G : Nat) : ax β := xQ (iv N) (c7 N) N G
def Ri {γ : Type} (f : List Int → Int → Int → Int → Int → Int → List Int → Int → Int → List Int → Int → Int → Int → Int → List Int → γ) (s : St) : γ := f (aY (bF (ah (vT (nx ac s.tmps 1))))) (af (ah (vT (nx ac s.tmps 9)))) (af (ah (vT (nx ac s.tmps 10)))) (af (ah (vT (nx ac s.tmps 11)))) (af (ah (vT (nx ac s.tmps 54)))) (af (ah (vT (nx ac s.tmps 55)))) (aY (bF (ah (vT (nx ac s.tmps 59))))) (af (ah (vT (nx ac s.tmps 60)))) (af (ah (vT (nx ac s.tmps 61)))) (aY (bF (ah (vT (nx ac s.tmps 77))))) (af (ah (vT (nx ac s.tmps 78)))) (af (ah (vT (nx ac s.tmps 79)))) (af (nx .und (aj (nx .dead s.blks 0)) 0)) (af (nx .und (aj (nx .dead s.blks 0)) 1)) (aY (bh (nx .dead s.blks 1)))
theorem LI (s : St) : aP (iT [] 0 0 0 0 0 [] 0 0 [] 0 0 0 0 []) s = Ri iT s := by kernel_rfl
def xR (N G : Nat) : ax β := fun s K => cond (aJ (iT [] 0 0 0 0 0 [] 0 0 [] 0 0 0 0 []) s) ((fun (v0 : List Int) (v1 v2 v3 v4 v5 : Int) (v6 : List Int) (v7 v8 : Int) (v9 : List Int) (v10 v11 v12 v13 : Int) (v14 : List Int) => aeX (aeb G) N v0 v1 v2 v3 v4 v5 v6 v7 v8 v9 v10 v11 v12 v13 v14 (fun y0 => K .ret (ow y0)) (fun y0 y1 y2 y3 y4 y5 y6 y7 y8 y9 => K (.exit 7) (oA y0 y1 y2 y3 y4 y5 y6 y7 y8 y9))) (aY (bF (ah (vT (nx ac s.tmps 1))))) (af (ah (vT (nx ac s.tmps 9)))) (af (ah (vT (nx ac s.tmps 10)))) (af (ah (vT (nx ac s.tmps 11)))) (af (ah (vT (nx ac s.tmps 54)))) (af (ah (vT (nx ac s.tmps 55)))) (aY (bF (ah (vT (nx ac s.tmps 59))))) (af (ah (vT (nx ac s.tmps 60)))) (af (ah (vT (nx ac s.tmps 61)))) (aY (bF (ah (vT (nx ac s.tmps 77))))) (af (ah (vT (nx ac s.tmps 78)))) (af (ah (vT (nx ac s.tmps 79)))) (af (nx .und (aj (nx .dead s.blks 0)) 0)) (af (nx .und (aj (nx .dead s.blks 0)) 1)) (aY (bh (nx .dead s.blks 1)))) (none)
def JR (N G : Nat) : ax β := xR (kx N) (c7 N) N G
def Hl (N G : Nat) : Env β := ⟨[(107, Ki aeL N), (66, C8 zq3 N), (104, Ff aen N), (108, Fg aeo N), (100, AA aeg N), (72, AN aeb N G)], [], [(0, EZ aeW N G), (3, xP aeM aeb N G), (5, xQ aeY aeb N G), (7, xR aeX aeb N G)], [], ⟨[], [], [], []⟩⟩
def E72 (N G : Nat) : Env β := Hl (zj3 N) (p7 N) (eF N) (fI N) (my N) (kw N) (kx N) (iv N) (gr N) (c7 N) N G
theorem Jf (N G : Nat) (v0 : List Int) (v1 v2 v3 v4 : Int) (rec_ : St → O β) (K : Exit → St → O β) :
  stB lay (Hl zq3 aeo aeg aen aeL aeW aeX aeY aeM aeb N G) Tryz.f72 0 (ly v0 v1 v2 v3 v4) rec_ K = G3 aeo aeg N v0 v1 v2 v3 v4 (fun v0 v1 v2 v3 v4 => rec_ (ly v0 v1 v2 v3 v4)) (fun y0 => K .ret (om y0)) (fun y0 y1 y2 => K (.exit 0) (oo y0 y1 y2)) := by kernel_rfl
theorem NC (N G : Nat) (K : Exit → St → O β) : ∀ (F : Nat) (v0 : List Int) (v1 v2 v3 v4 : Int), (lp Tryz.f72 0).rounds lay (E72 N G) (ai Tryz.f72) F (ly v0 v1 v2 v3 v4) K = kw N F v0 v1 v2 v3 v4 (fun y0 => K .ret (om y0)) (fun y0 y1 y2 => K (.exit 0) (oo y0 y1 y2)) := by
 intro F; induction F with
 | zero => intros; rfl
 | succ F ih => intros; rw [am]; refine (Jf (zj3 N) (p7 N) (eF N) (fI N) (my N) (kw N) (kx N) (iv N) (gr N) (c7 N) N G _ _ _ _ _ (fun s => (lp Tryz.f72 0).rounds lay (E72 N G) (ai Tryz.f72) F s K) K).trans ?_; simp only [ih]; rfl
theorem Wz (N G : Nat) : aS (E72 (β := β) N G).loops (lp Tryz.f72 0).id = Ui N G := by kernel_rfl
theorem XH (N G : Nat) : ay lay (E72 (β := β) N G) (ai Tryz.f72) (lp Tryz.f72 0) := rks (Wz ..) (rc1 (fun s K hb => ⟨N, by rw [← ar hb, LF s]; unfold zD; exact NC N _ K N _ _ _ _ _⟩) rc0)
theorem Jg (N G : Nat) (v0 : List Int) (v1 v2 v3 v4 : Int) (v5 : List Int) (rec_ : St → O β) (K : Exit → St → O β) :
  stB lay (Hl zq3 aeo aeg aen aeL aeW aeX aeY aeM aeb N G) Tryz.f72 1 (iR v0 v1 v2 v3 v4 v5) rec_ K = G6 aeY N (aeb G) v0 v1 v2 v3 v4 v5 (fun v0 v1 v2 v3 v4 v5 => rec_ (iR v0 v1 v2 v3 v4 v5)) (fun y0 => K .ret (oq y0)) (K (.exit 3) (ot )) := by kernel_rfl
theorem ND (N G : Nat) (K : Exit → St → O β) : ∀ (F : Nat) (v0 : List Int) (v1 v2 v3 v4 : Int) (v5 : List Int), (lp Tryz.f72 1).rounds lay (E72 N G) (ai Tryz.f72) F (iR v0 v1 v2 v3 v4 v5) K = gr N (c7 N G) F v0 v1 v2 v3 v4 v5 (fun y0 => K .ret (oq y0)) (K (.exit 3) (ot )) := by
 intro F; induction F with
 | zero => intros; rfl
 | succ F ih => intros; rw [am]; refine (Jg (zj3 N) (p7 N) (eF N) (fI N) (my N) (kw N) (kx N) (iv N) (gr N) (c7 N) N G _ _ _ _ _ _ (fun s => (lp Tryz.f72 1).rounds lay (E72 N G) (ai Tryz.f72) F s K) K).trans ?_; simp only [ih]; rfl
theorem WA (N G : Nat) : aS (E72 (β := β) N G).loops (lp Tryz.f72 1).id = JP N G := by kernel_rfl
theorem XI (N G : Nat) : ay lay (E72 (β := β) N G) (ai Tryz.f72) (lp Tryz.f72 1) := by
 intro s K r h
 rw [WA] at h
 unfold JP xP at h
 cases hb : aJ (iR [] 0 0 0 0 []) s with
 | true =>
  rw [hb, agY] at h
  exact ⟨N, by rw [← ar hb, LG s]; exact (ND N G K N (aY (bF (ah (vT (nx ac s.tmps 1))))) (af (ah (vT (nx ac s.tmps 54)))) (af (ah (vT (nx ac s.tmps 55)))) (af (nx .und (aj (nx .dead s.blks 0)) 0)) (af (nx .und (aj (nx .dead s.blks 0)) 1)) (aY (bh (nx .dead s.blks 1)))).trans h⟩
 | false =>
 rw [hb, agX] at h
 clear hb
 cases h
theorem Jh (N G : Nat) (v0 : List Int) (v1 v2 v3 : Int) (v4 : List Int) (v5 v6 v7 v8 : Int) (v9 : List Int) (rec_ : St → O β) (K : Exit → St → O β) :
  stB lay (Hl zq3 aeo aeg aen aeL aeW aeX aeY aeM aeb N G) Tryz.f72 2 (iS v0 v1 v2 v3 v4 v5 v6 v7 v8 v9) rec_ K = G5 aeX N (aeb G) v0 v1 v2 v3 v4 v5 v6 v7 v8 v9 (fun v0 v1 v2 v3 v4 v5 v6 v7 v8 v9 => rec_ (iS v0 v1 v2 v3 v4 v5 v6 v7 v8 v9)) (fun y0 => K .ret (ou y0)) (fun y0 y1 y2 y3 y4 y5 => K (.exit 5) (ov y0 y1 y2 y3 y4 y5)) := by kernel_rfl
theorem NE (N G : Nat) (K : Exit → St → O β) : ∀ (F : Nat) (v0 : List Int) (v1 v2 v3 : Int) (v4 : List Int) (v5 v6 v7 v8 : Int) (v9 : List Int), (lp Tryz.f72 2).rounds lay (E72 N G) (ai Tryz.f72) F (iS v0 v1 v2 v3 v4 v5 v6 v7 v8 v9) K = iv N (c7 N G) F v0 v1 v2 v3 v4 v5 v6 v7 v8 v9 (fun y0 => K .ret (ou y0)) (fun y0 y1 y2 y3 y4 y5 => K (.exit 5) (ov y0 y1 y2 y3 y4 y5)) := by
 intro F; induction F with
 | zero => intros; rfl
 | succ F ih => intros; rw [am]; refine (Jh (zj3 N) (p7 N) (eF N) (fI N) (my N) (kw N) (kx N) (iv N) (gr N) (c7 N) N G _ _ _ _ _ _ _ _ _ _ (fun s => (lp Tryz.f72 2).rounds lay (E72 N G) (ai Tryz.f72) F s K) K).trans ?_; simp only [ih]; rfl
theorem WB (N G : Nat) : aS (E72 (β := β) N G).loops (lp Tryz.f72 2).id = JQ N G := by kernel_rfl
theorem XJ (N G : Nat) : ay lay (E72 (β := β) N G) (ai Tryz.f72) (lp Tryz.f72 2) := by
 intro s K r h
 rw [WB] at h
 unfold JQ xQ at h
 cases hb : aJ (iS [] 0 0 0 [] 0 0 0 0 []) s with
 | true =>
  rw [hb, agY] at h
  exact ⟨N, by rw [← ar hb, LH s]; exact (NE N G K N (aY (bF (ah (vT (nx ac s.tmps 1))))) (af (ah (vT (nx ac s.tmps 9)))) (af (ah (vT (nx ac s.tmps 54)))) (af (ah (vT (nx ac s.tmps 55)))) (aY (bF (ah (vT (nx ac s.tmps 59))))) (af (ah (vT (nx ac s.tmps 60)))) (af (ah (vT (nx ac s.tmps 61)))) (af (nx .und (aj (nx .dead s.blks 0)) 0)) (af (nx .und (aj (nx .dead s.blks 0)) 1)) (aY (bh (nx .dead s.blks 1)))).trans h⟩
 | false =>
 rw [hb, agX] at h
 clear hb
 cases h
theorem Ji (N G : Nat) (v0 : List Int) (v1 v2 v3 v4 v5 : Int) (v6 : List Int) (v7 v8 : Int) (v9 : List Int) (v10 v11 v12 v13 : Int) (v14 : List Int) (rec_ : St → O β) (K : Exit → St → O β) :
  stB lay (Hl zq3 aeo aeg aen aeL aeW aeX aeY aeM aeb N G) Tryz.f72 3 (iT v0 v1 v2 v3 v4 v5 v6 v7 v8 v9 v10 v11 v12 v13 v14) rec_ K = G4 N (aeb G) v0 v1 v2 v3 v4 v5 v6 v7 v8 v9 v10 v11 v12 v13 v14 (fun v0 v1 v2 v3 v4 v5 v6 v7 v8 v9 v10 v11 v12 v13 v14 => rec_ (iT v0 v1 v2 v3 v4 v5 v6 v7 v8 v9 v10 v11 v12 v13 v14)) (fun y0 => K .ret (ow y0)) (fun y0 y1 y2 y3 y4 y5 y6 y7 y8 y9 => K (.exit 7) (oA y0 y1 y2 y3 y4 y5 y6 y7 y8 y9)) := by kernel_rfl
theorem NF (N G : Nat) (K : Exit → St → O β) : ∀ (F : Nat) (v0 : List Int) (v1 v2 v3 v4 v5 : Int) (v6 : List Int) (v7 v8 : Int) (v9 : List Int) (v10 v11 v12 v13 : Int) (v14 : List Int), (lp Tryz.f72 3).rounds lay (E72 N G) (ai Tryz.f72) F (iT v0 v1 v2 v3 v4 v5 v6 v7 v8 v9 v10 v11 v12 v13 v14) K = kx N (c7 N G) F v0 v1 v2 v3 v4 v5 v6 v7 v8 v9 v10 v11 v12 v13 v14 (fun y0 => K .ret (ow y0)) (fun y0 y1 y2 y3 y4 y5 y6 y7 y8 y9 => K (.exit 7) (oA y0 y1 y2 y3 y4 y5 y6 y7 y8 y9)) := by
 intro F; induction F with
 | zero => intros; rfl
 | succ F ih => intros; rw [am]; refine (Ji (zj3 N) (p7 N) (eF N) (fI N) (my N) (kw N) (kx N) (iv N) (gr N) (c7 N) N G _ _ _ _ _ _ _ _ _ _ _ _ _ _ _ (fun s => (lp Tryz.f72 3).rounds lay (E72 N G) (ai Tryz.f72) F s K) K).trans ?_; simp only [ih]; rfl
theorem WC (N G : Nat) : aS (E72 (β := β) N G).loops (lp Tryz.f72 3).id = JR N G := by kernel_rfl
theorem XK (N G : Nat) : ay lay (E72 (β := β) N G) (ai Tryz.f72) (lp Tryz.f72 3) := by
 intro s K r h
 rw [WC] at h
 unfold JR xR at h
 cases hb : aJ (iT [] 0 0 0 0 0 [] 0 0 [] 0 0 0 0 []) s with
 | true =>
  rw [hb, agY] at h
  exact ⟨N, by rw [← ar hb, LI s]; exact (NF N G K N (aY (bF (ah (vT (nx ac s.tmps 1))))) (af (ah (vT (nx ac s.tmps 9)))) (af (ah (vT (nx ac s.tmps 10)))) (af (ah (vT (nx ac s.tmps 11)))) (af (ah (vT (nx ac s.tmps 54)))) (af (ah (vT (nx ac s.tmps 55)))) (aY (bF (ah (vT (nx ac s.tmps 59))))) (af (ah (vT (nx ac s.tmps 60)))) (af (ah (vT (nx ac s.tmps 61)))) (aY (bF (ah (vT (nx ac s.tmps 77))))) (af (ah (vT (nx ac s.tmps 78)))) (af (ah (vT (nx ac s.tmps 79)))) (af (nx .und (aj (nx .dead s.blks 0)) 0)) (af (nx .und (aj (nx .dead s.blks 0)) 1)) (aY (bh (nx .dead s.blks 1)))).trans h⟩
 | false =>
 rw [hb, agX] at h
 clear hb
 cases h
theorem Zj (N G : Nat) (a0 a1 : Int) (a2 : List Int) (K : TV → O β) : aL lay (Hl zq3 aeo aeg aen aeL aeW aeX aeY aeM aeb N G) Tryz.f72 [.v (.agg [.int .i64 a0, .int .i64 a1]), .v (.one (.sl 3 (.ints .i64 a2)))] K = O4 zq3 aen aeL aeW aeM N (aeb G) a0 a1 a2 (fun z3 => K (.v (.one (.str z3)))) := by kernel_rfl
theorem z72 (N : Nat) : ∀ args K r, J0 (β := β) N 0 args K = some r → (none : O β) = some r := by
 intro args K r h
 unfold J0 AN at h
 split at h <;> exact h
theorem adC (N : Nat) : ∀ G, ao (β := β) inv Tryz.prog 72 (J0 N G) := by
 intro G
 induction G with
 | zero => exact dG Tryz.func72 (by kernel_rfl) (z72 N)
 | succ G ih =>
  refine ap au mixed (E := E72 N G) (ae (aa (adl N) (aa (o66 N) (aa (abU N) (aa (WR N) (aa (WO N) (aa ih ag))))))) ak av Tryz.func72 (by kernel_rfl) 4 (by kernel_rfl) ⟨⟨⟨⟨trivial, XH N G⟩, XI N G⟩, XJ N G⟩, XK N G⟩ fun args K r h => ?_
  unfold J0 AN at h
  split at h
  ·exact (Zj (zj3 N) (p7 N) (eF N) (fI N) (my N) (kw N) (kx N) (iv N) (gr N) (c7 N) N G _ _ _ _).trans h
  ·cases h
theorem o72 (N : Nat) : ao (β := β) inv Tryz.prog 72 (S72 N) := adC N N
end Go.Proofs.YtmhlcbibbhelkaaGreatDoor
