/- The functions that the claims dl bK as their texts do. -/
import Derived.Test.YtemihnclhcobnaaGreatDoorE11
namespace Go.Proofs.YtemihnclhcobnaaGreatDoor
set_option linter.unusedSimpArgs false
open Go.Rv
set_option maxRecDepth 100000
set_option maxHeartbeats 2000000
set_option linter.unusedVariables false
variable {β : Type}
variable (zq1 zq2 : Y1 β) (zq3 : Y2 β) (zq6 : Y1 β) (zq10 : Y5 β) (zq28 : Y12 β) (zq115 : Y40 β) (zq117 : Y1 β) (zq129 zq142 : Y20 β) (zq145 : Y25 β) (zq147 : Y45 β) (zq161 : Y35 β) (zq171 : Y40 β) (zq172 : Y43 β) (zq184 : Y84 β) (zq186 : Y35 β) (zq187 zq188 : Y6 β) (zq190 : Y90 β) (zq191 : Y54 β) (zq193 : Y93 β) (zq195 : Y92 β) (zq196 : Y91 β) (zq197 : Y6 β) (zq198 : Y94 β) (zq199 : Y95 β) (zq200 : Y96 β) (zq201 : Y40 β) (q_laws_FnExactFormLine : Y0 β)
def R1 (N : Nat) : Rv.Spec β := fun args K => match args with
 | [.v (.agg [.int .i64 a0, .int .i64 a1])] => zq186 a0 a1 (fun z2 z3 => K (.tup [.one (.str z2), .one (.bool z3)]))
 | _ => none
def S79 (N : Nat) : Rv.Spec β := R1 (vF N) N
def VL (N : Nat) : Env β := ⟨[(45, Io zq117 N), (151, U3 N), (150, VV zq184 N)], [], [], [], ⟨[], [], [], []⟩⟩
def E79 (N : Nat) : Env β := VL (el N) (cL N) N
theorem TR (N : Nat) (a0 a1 : Int) (K : TV → O β) : aQ lay (VL zq117 zq184 N) Tryz.f79 [.v (.agg [.int .i64 a0, .int .i64 a1])] K = Lg zq117 (zq184 N) N a0 a1 (fun z2 z3 => K (.tup [.one (.str z2), .one (.bool z3)])) := by kernel_rfl
theorem o79 (N : Nat) : ap (β := β) inv Tryz.prog 79 (S79 N) := by
 refine aq ax mixed (E := E79 N) (af (aa (o45 N) (aa (XP N) (aa (XO N) ai)))) ak aA Tryz.func79 (by kernel_rfl) 0 (by kernel_rfl) trivial fun args K r h => ?_
 unfold S79 R1 at h
 split at h
 ·exact (TR (el N) (cL N) N _ _ _).trans h
 ·cases h
def H3 (N : Nat) : Rv.Spec β := fun args K => match args with
 | [.v (.one (.int .i64 a0)), .v (.one (.sl 93 (.pairs a1)))] => zq187 a0 a1 (fun z2 => K (.v (.one (.bool z2))))
 | _ => none
def UW (N : Nat) : Rv.Spec β := H3 (AJ N) N
def QF (N : Nat) : Env β := ⟨[(99, Ir zq3 N), (190, Di zq2 zq6 zq10 N), (191, yo zq6 N)], [], [], [], ⟨[], [], [], []⟩⟩
def W5 (N : Nat) : Env β := QF (zj2 N) (zj3 N) (zj6 N) (tD N) N
theorem Pj (N : Nat) (a0 : Int) (a1 : List (Int × Int)) (K : TV → O β) : aQ lay (QF zq2 zq3 zq6 zq10 N) Tryz.f135 [(Z' a0), .v (.one (.sl 93 (.pairs a1)))] K = Lh zq3 zq6 zq10 N a0 a1 (fun z2 => K (.v (.one (.bool z2)))) := by kernel_rfl
theorem XG (N : Nat) : ap (β := β) inv Tryz.prog 135 (UW N) := by
 refine aq ax mixed (E := W5 N) (af (aa (o99 N) (aa (Wj N) (aa (SN N) ai)))) ak aA Tryz.func135 (by kernel_rfl) 0 (by kernel_rfl) trivial fun args K r h => ?_
 unfold UW H3 at h
 split at h
 ·exact (Pj (zj2 N) (zj3 N) (zj6 N) (tD N) N _ _ _).trans h
 ·cases h
def H2 (N : Nat) : Rv.Spec β := fun args K => match args with
 | [.v (.one (.int .i64 a0)), .v (.one (.sl 93 (.pairs a1)))] => zq188 a0 a1 (fun z2 => K (.v (.one (.bool z2))))
 | _ => none
def UV (N : Nat) : Rv.Spec β := H2 (vG N) N
def QE (N : Nat) : Env β := ⟨[(135, H3 zq187 N)], [], [], [], ⟨[], [], [], []⟩⟩
def W4 (N : Nat) : Env β := QE (AJ N) N
theorem Pi (N : Nat) (a0 : Int) (a1 : List (Int × Int)) (K : TV → O β) : aQ lay (QE zq187 N) Tryz.f134 [(Z' a0), .v (.one (.sl 93 (.pairs a1)))] K = Li zq187 N a0 a1 (fun z2 => K (.v (.one (.bool z2)))) := by kernel_rfl
theorem XF (N : Nat) : ap (β := β) inv Tryz.prog 134 (UV N) := by
 refine aq ax mixed (E := W4 N) (af (aa (XG N) ai)) ak aA Tryz.func134 (by kernel_rfl) 0 (by kernel_rfl) trivial fun args K r h => ?_
 unfold UV H2 at h
 split at h
 ·exact (Pi (AJ N) N _ _ _).trans h
 ·cases h
def Ih (N : Nat) : Rv.Spec β := fun args K => match args with
 | [.v (.one (.sl 93 (.pairs a0))), .v (.one (.int .i64 a1)), .v (.one (.int .i64 a2))] => zq191 a0 a1 a2 (fun z3 => K (.v (.one (.bool z3))))
 | _ => none
def Vq (N : Nat) : Rv.Spec β := Ih (pB N) N
def gY (v0 v1 : Int) (v2 v3 : Bool) (v4 : List (Int × Int)) (v5 v6 : Int) : St := ⟨ac :: (Z' v0) :: (Z' v1) :: tn 4 (.v (.one (.bool v2)) :: .v (.one (.bool v3)) :: tn 4 (.v (.one (.sl 93 (.pairs v4))) :: (Z' v5) :: (Z' v6) :: tn 26 [])), []⟩
def kK (y0 : Bool) : St := ⟨tn 6 (.v (.one (.bool y0)) :: tn 35 []), []⟩
def kL (y0 y1 : Bool) : St := ⟨tn 7 (.v (.one (.bool y0)) :: .v (.one (.bool y1)) :: tn 33 []), []⟩
def rU {γ : Type} (f : Int → Int → Bool → Bool → (List (Int × Int)) → Int → Int → γ) (s : St) : γ := f (ae (ag (vT (nx ac s.tmps 1)))) (ae (ag (vT (nx ac s.tmps 2)))) (o0 (ag (vT (nx ac s.tmps 7)))) (o0 (ag (vT (nx ac s.tmps 8)))) (aL (bg (ag (vT (nx ac s.tmps 13))))) (ae (ag (vT (nx ac s.tmps 14)))) (ae (ag (vT (nx ac s.tmps 15))))
theorem FN (s : St) : aT (gY 0 0 false false [] 0 0) s = rU gY s := by kernel_rfl
def yh (N : Nat) : ay β := fun s K => cond (aK (gY 0 0 false false [] 0 0) s) (rU (fun v0 v1 v2 v3 v4 v5 v6 => zq190 N v0 v1 v2 v3 v4 v5 v6 (fun y0 => K .ret (kK y0)) (fun y0 y1 => K (.exit 0) (kL y0 y1))) s) (none)
def MG (N : Nat) : ay β := yh (ma N) N
def HW (N : Nat) : Env β := ⟨[(195, Dl zq1 N)], [], [(0, yh zq190 N)], [], ⟨[], [], [], []⟩⟩
def Md (N : Nat) : Env β := HW (zj1 N) (ma N) N
theorem CC (N : Nat) (v0 v1 : Int) (v2 v3 : Bool) (v4 : List (Int × Int)) (v5 v6 : Int) (rec_ : St → O β) (K : Exit → St → O β) :
  stB lay (HW zq1 zq190 N) Tryz.f217 0 (gY v0 v1 v2 v3 v4 v5 v6) rec_ K = EN zq1 N v0 v1 v2 v3 v4 v5 v6 (fun v0 v1 v2 v3 v4 v5 v6 => rec_ (gY v0 v1 v2 v3 v4 v5 v6)) (fun y0 => K .ret (kK y0)) (fun y0 y1 => K (.exit 0) (kL y0 y1)) := by kernel_rfl
theorem GP (N : Nat) (K : Exit → St → O β) : ∀ (F : Nat) (v0 v1 : Int) (v2 v3 : Bool) (v4 : List (Int × Int)) (v5 v6 : Int), (lp Tryz.f217 0).rounds lay (Md N) (ah Tryz.f217) F (gY v0 v1 v2 v3 v4 v5 v6) K = ma N F v0 v1 v2 v3 v4 v5 v6 (fun y0 => K .ret (kK y0)) (fun y0 y1 => K (.exit 0) (kL y0 y1)) := by
 intro F; induction F with
 | zero => intros; rfl
 | succ F ih => intros; rw [am]; refine (CC (zj1 N) (ma N) N _ _ _ _ _ _ _ (fun s => (lp Tryz.f217 0).rounds lay (Md N) (ah Tryz.f217) F s K) K).trans ?_; simp only [ih]; rfl
theorem NR (N : Nat) : aS (Md (β := β) N).loops (lp Tryz.f217 0).id = MG N := by kernel_rfl
theorem OO (N : Nat) : az lay (Md (β := β) N) (ah Tryz.f217) (lp Tryz.f217 0) := rks (NR ..) (rc1 (fun s K hb => ⟨N, by rw [← ar hb, FN s]; unfold rU; exact GP N K N _ _ _ _ _ _ _⟩) rc0)
theorem PW (N : Nat) (a0 : List (Int × Int)) (a1 a2 : Int) (K : TV → O β) : aQ lay (HW zq1 zq190 N) Tryz.f217 [.v (.one (.sl 93 (.pairs a0))), (Z' a1), (Z' a2)] K = Lk zq190 N a0 a1 a2 (fun z3 => K (.v (.one (.bool z3)))) := by kernel_rfl
theorem X6 (N : Nat) : ap (β := β) inv Tryz.prog 217 (Vq N) := by
 refine aq ax mixed (E := Md N) (af (aa (Wm N) ai)) ak aA Tryz.func217 (by kernel_rfl) 1 (by kernel_rfl) ⟨trivial, OO N⟩ fun args K r h => ?_
 unfold Vq Ih at h
 split at h
 ·exact (PW (zj1 N) (ma N) N _ _ _ _).trans h
 ·cases h
def H7 (N : Nat) : Rv.Spec β := fun args K => match args with
 | [.v (.one (.int .i64 a0)), .v (.one (.sl 93 (.pairs a1)))] => zq196 a0 a1 (fun z2 => K (.v (.one (.sl 40 (.lists 3 z2)))))
 | _ => none
def U7 (N : Nat) : Rv.Spec β := H7 (vH N) N
def gN (v0 : Int) (v1 : List (Int × Int)) (v2 v3 : Int) (v4 : List (List Int)) : St := ⟨(Z' v0) :: .v (.one (.sl 93 (.pairs v1))) :: tn 3 (.v (.one (.row 0)) :: tn 4 ((Z' v2) :: (Z' v3) :: tn 28 [])), [.row 40 (.lists 3 v4)]⟩
def kv (y0 : List (List Int)) : St := ⟨tn 5 (.v (.one (.row 0)) :: tn 34 []), [.row 40 (.lists 3 y0)]⟩
def fj (v0 : Int) (v1 : List (Int × Int)) (v2 v3 v4 v5 v6 : Int) (v7 : List (List Int)) : St := ⟨(Z' v0) :: .v (.one (.sl 93 (.pairs v1))) :: tn 3 (.v (.one (.row 0)) :: (Z' v2) :: tn 3 ((Z' v3) :: (Z' v4) :: ac :: ac :: (Z' v5) :: (Z' v6) :: tn 24 [])), [.row 40 (.lists 3 v7)]⟩
def kw (y0 : Int) (y1 : List (Int × Int)) (y2 y3 : Int) (y4 : List (List Int)) : St := ⟨(Z' y0) :: .v (.one (.sl 93 (.pairs y1))) :: tn 3 (.v (.one (.row 0)) :: tn 4 ((Z' y2) :: (Z' y3) :: tn 28 [])), [.row 40 (.lists 3 y4)]⟩
def rK {γ : Type} (f : Int → (List (Int × Int)) → Int → Int → List (List Int) → γ) (s : St) : γ := f (ae (ag (vT (nx ac s.tmps 0)))) (aL (bg (ag (vT (nx ac s.tmps 1))))) (ae (ag (vT (nx ac s.tmps 10)))) (ae (ag (vT (nx ac s.tmps 11)))) (fZ (aV (nx .dead s.blks 0)))
theorem FC (s : St) : aT (gN 0 [] 0 0 []) s = rK gN s := by kernel_rfl
def xW (N : Nat) : ay β := fun s K => cond (aK (gN 0 [] 0 0 []) s) (rK (fun v0 v1 v2 v3 v4 => zq195 N v0 v1 v2 v3 v4 (fun y0 => K (.exit 0) (kv y0))) s) (none)
def Mw (N : Nat) : ay β := xW (iv N) N
def JP {γ : Type} (f : Int → (List (Int × Int)) → Int → Int → Int → Int → Int → List (List Int) → γ) (s : St) : γ := f (ae (ag (vT (nx ac s.tmps 0)))) (aL (bg (ag (vT (nx ac s.tmps 1))))) (ae (ag (vT (nx ac s.tmps 6)))) (ae (ag (vT (nx ac s.tmps 10)))) (ae (ag (vT (nx ac s.tmps 11)))) (ae (ag (vT (nx ac s.tmps 14)))) (ae (ag (vT (nx ac s.tmps 15)))) (fZ (aV (nx .dead s.blks 0)))
theorem FD (s : St) : aT (fj 0 [] 0 0 0 0 0 []) s = JP fj s := by kernel_rfl
def qf (N : Nat) : ay β := fun s K => cond (aK (fj 0 [] 0 0 0 0 0 []) s) ((fun (v0 : Int) (v1 : List (Int × Int)) (v2 v3 v4 v5 v6 : Int) (v7 : List (List Int)) => zq193 N v0 v1 v2 v3 v4 v5 v6 v7 (fun y0 y1 y2 y3 y4 => K (.exit 2) (kw y0 y1 y2 y3 y4))) (ae (ag (vT (nx ac s.tmps 0)))) (aL (bg (ag (vT (nx ac s.tmps 1))))) (ae (ag (vT (nx ac s.tmps 6)))) (ae (ag (vT (nx ac s.tmps 10)))) (ae (ag (vT (nx ac s.tmps 11)))) (ae (ag (vT (nx ac s.tmps 14)))) (ae (ag (vT (nx ac s.tmps 15)))) (fZ (aV (nx .dead s.blks 0)))) (none)
def CX (N : Nat) : ay β := qf (k9 N) N
def C1 (N : Nat) : Env β := ⟨[(217, Ih zq191 N)], [], [(0, xW zq195 N), (2, qf zq193 N)], [], ⟨[], [], [], []⟩⟩
def AP (N : Nat) : Env β := C1 (pB N) (k9 N) (iv N) N
theorem Cq (N : Nat) (v0 : Int) (v1 : List (Int × Int)) (v2 v3 : Int) (v4 : List (List Int)) (rec_ : St → O β) (K : Exit → St → O β) :
  stB lay (C1 zq191 zq193 zq195 N) Tryz.f155 0 (gN v0 v1 v2 v3 v4) rec_ K = EP zq193 N v0 v1 v2 v3 v4 (fun v0 v1 v2 v3 v4 => rec_ (gN v0 v1 v2 v3 v4)) (fun y0 => K (.exit 0) (kv y0)) := by kernel_rfl
theorem GE (N : Nat) (K : Exit → St → O β) : ∀ (F : Nat) (v0 : Int) (v1 : List (Int × Int)) (v2 v3 : Int) (v4 : List (List Int)), (lp Tryz.f155 0).rounds lay (AP N) (ah Tryz.f155) F (gN v0 v1 v2 v3 v4) K = iv N F v0 v1 v2 v3 v4 (fun y0 => K (.exit 0) (kv y0)) := by
 intro F; induction F with
 | zero => intros; rfl
 | succ F ih => intros; rw [am]; refine (Cq (pB N) (k9 N) (iv N) N _ _ _ _ _ (fun s => (lp Tryz.f155 0).rounds lay (AP N) (ah Tryz.f155) F s K) K).trans ?_; simp only [ih]; rfl
theorem NG (N : Nat) : aS (AP (β := β) N).loops (lp Tryz.f155 0).id = Mw N := by kernel_rfl
theorem OC (N : Nat) : az lay (AP (β := β) N) (ah Tryz.f155) (lp Tryz.f155 0) := rks (NG ..) (rc1 (fun s K hb => ⟨N, by rw [← ar hb, FC s]; unfold rK; exact GE N K N _ _ _ _ _⟩) rc0)
theorem Cr (N : Nat) (v0 : Int) (v1 : List (Int × Int)) (v2 v3 v4 v5 v6 : Int) (v7 : List (List Int)) (rec_ : St → O β) (K : Exit → St → O β) :
  stB lay (C1 zq191 zq193 zq195 N) Tryz.f155 1 (fj v0 v1 v2 v3 v4 v5 v6 v7) rec_ K = EO zq191 N v0 v1 v2 v3 v4 v5 v6 v7 (fun v0 v1 v2 v3 v4 v5 v6 v7 => rec_ (fj v0 v1 v2 v3 v4 v5 v6 v7)) (fun y0 y1 y2 y3 y4 => K (.exit 2) (kw y0 y1 y2 y3 y4)) := by kernel_rfl
theorem GF (N : Nat) (K : Exit → St → O β) : ∀ (F : Nat) (v0 : Int) (v1 : List (Int × Int)) (v2 v3 v4 v5 v6 : Int) (v7 : List (List Int)), (lp Tryz.f155 1).rounds lay (AP N) (ah Tryz.f155) F (fj v0 v1 v2 v3 v4 v5 v6 v7) K = k9 N F v0 v1 v2 v3 v4 v5 v6 v7 (fun y0 y1 y2 y3 y4 => K (.exit 2) (kw y0 y1 y2 y3 y4)) := by
 intro F; induction F with
 | zero => intros; rfl
 | succ F ih => intros; rw [am]; refine (Cr (pB N) (k9 N) (iv N) N _ _ _ _ _ _ _ _ (fun s => (lp Tryz.f155 1).rounds lay (AP N) (ah Tryz.f155) F s K) K).trans ?_; simp only [ih]; rfl
theorem NH (N : Nat) : aS (AP (β := β) N).loops (lp Tryz.f155 1).id = CX N := by kernel_rfl
theorem OD (N : Nat) : az lay (AP (β := β) N) (ah Tryz.f155) (lp Tryz.f155 1) := by
 intro s K r h
 rw [NH] at h
 unfold CX qf at h
 cases hb : aK (fj 0 [] 0 0 0 0 0 []) s with
 | true =>
  rw [hb, YC] at h
  exact ⟨N, by rw [← ar hb, FD s]; exact (GF N K N (ae (ag (vT (nx ac s.tmps 0)))) (aL (bg (ag (vT (nx ac s.tmps 1))))) (ae (ag (vT (nx ac s.tmps 6)))) (ae (ag (vT (nx ac s.tmps 10)))) (ae (ag (vT (nx ac s.tmps 11)))) (ae (ag (vT (nx ac s.tmps 14)))) (ae (ag (vT (nx ac s.tmps 15)))) (fZ (aV (nx .dead s.blks 0)))).trans h⟩
 | false =>
 rw [hb, YB] at h
 clear hb
 cases h
theorem Px (N : Nat) (a0 : Int) (a1 : List (Int × Int)) (K : TV → O β) : aQ lay (C1 zq191 zq193 zq195 N) Tryz.f155 [(Z' a0), .v (.one (.sl 93 (.pairs a1)))] K = Ll zq195 N a0 a1 (fun z2 => K (.v (.one (.sl 40 (.lists 3 z2))))) := by kernel_rfl
theorem XT (N : Nat) : ap (β := β) inv Tryz.prog 155 (U7 N) := by
 refine aq ax mixed (E := AP N) (af (aa (X6 N) ai)) ak aA Tryz.func155 (by kernel_rfl) 2 (by kernel_rfl) ⟨⟨trivial, OC N⟩, OD N⟩ fun args K r h => ?_
 unfold U7 H7 at h
 split at h
 ·exact (Px (pB N) (k9 N) (iv N) N _ _ _).trans h
 ·cases h
def R6 (N : Nat) : Rv.Spec β := fun args K => match args with
 | [.v (.one (.int .i64 a0)), .v (.one (.sl 93 (.pairs a1)))] => zq197 a0 a1 (fun z2 => K (.v (.one (.bool z2))))
 | _ => none
def S87 (N : Nat) : Rv.Spec β := R6 (vI N) N
def VO (N : Nat) : Env β := ⟨[(134, H2 zq188 N), (155, H7 zq196 N)], [], [], [], ⟨[], [], [], []⟩⟩
def E87 (N : Nat) : Env β := VO (vG N) (vH N) N
theorem TY (N : Nat) (a0 : Int) (a1 : List (Int × Int)) (K : TV → O β) : aQ lay (VO zq188 zq196 N) Tryz.f87 [(Z' a0), .v (.one (.sl 93 (.pairs a1)))] K = Lm zq188 zq196 N a0 a1 (fun z2 => K (.v (.one (.bool z2)))) := by kernel_rfl
theorem o87 (N : Nat) : ap (β := β) inv Tryz.prog 87 (S87 N) := by
 refine aq ax mixed (E := E87 N) (af (aa (XF N) (aa (XT N) ai))) ak aA Tryz.func87 (by kernel_rfl) 0 (by kernel_rfl) trivial fun args K r h => ?_
 unfold S87 R6 at h
 split at h
 ·exact (TY (vG N) (vH N) N _ _ _).trans h
 ·cases h
def MO (N : Nat) : bO β := fun args bl K => match args, bl with
 | [.v (.one (.ptr 0 0)), .v (.one (.row 1))], [.pcells 0 46 [.row 2], .prow 1 9 (.strs a0), .prow 2 9 (.strs a1)] => zq198 a0 a1 (fun y0 y1 => K (.tup []) [.pcells 0 46 [.row 2], .prow 1 9 (.strs y0), .row 9 (.strs y1)])
 | _, _ => none
def S39 (N : Nat) : bO β := MO (mb N) N
def VB (N : Nat) : Env β := ⟨[], [], [], [], ⟨[], [], [], []⟩⟩
def E39 (N : Nat) : Env β := VB N
theorem TB (N : Nat) (a0 a1 : List ByteArray) (K : TV → List Blk → O β) : lQ lay (VB N) Tryz.f39 [.v (.one (.ptr 0 0)), .v (.one (.row 1))] [.pcells 0 46 [.row 2], .prow 1 9 (.strs a0), .prow 2 9 (.strs a1)] K = Ax N a0 a1 (fun y0 y1 => K (.tup []) [.pcells 0 46 [.row 2], .prow 1 9 (.strs y0), .row 9 (.strs y1)]) := by kernel_rfl
theorem o39 (N : Nat) : GOK (β := β) inv Tryz.prog 39 (S39 N) := by
 refine Be ax mixed (E := E39 N) (af ai) ak aA Tryz.func39 (by kernel_rfl) 0 (by kernel_rfl) trivial fun args bl K r h => ?_
 unfold S39 MO at h
 split at h
 ·exact (TB N _ _ _).trans h
 ·cases h
def RQ (N : Nat) : bO β := fun args bl K => match args, bl with
 | [.v (.one (.ptr 0 0)), .v (.one (.bool a0)), .v (.one (.str a1))], [.pcells 0 46 [.row 1], .prow 1 9 (.strs a2)] => zq199 a0 a1 a2 (fun y0 => K (.tup []) [.pcells 0 46 [.row 1], .row 9 (.strs y0)]) (fun y0 => K (.tup []) [.pcells 0 46 [.row 1], .prow 1 9 (.strs y0)])
 | _, _ => none
def S48 (N : Nat) : bO β := RQ (vJ N) N
def VE (N : Nat) : Env β := ⟨[], [], [], [(39, MO zq198 N)], ⟨[], [], [], []⟩⟩
def E48 (N : Nat) : Env β := VE (mb N) N
theorem TE (N : Nat) (a0 : Bool) (a1 : ByteArray) (a2 : List ByteArray) (K : TV → List Blk → O β) : lQ lay (VE zq198 N) Tryz.f48 [.v (.one (.ptr 0 0)), .v (.one (.bool a0)), .v (.one (.str a1))] [.pcells 0 46 [.row 1], .prow 1 9 (.strs a2)] K = EQ zq198 N a0 a1 a2 (fun y0 => K (.tup []) [.pcells 0 46 [.row 1], .row 9 (.strs y0)]) (fun y0 => K (.tup []) [.pcells 0 46 [.row 1], .prow 1 9 (.strs y0)]) := by kernel_rfl
theorem o48 (N : Nat) : GOK (β := β) inv Tryz.prog 48 (S48 N) := by
 refine Be ax mixed (E := E48 N) (af ai) ak (dM (o39 N) aA) Tryz.func48 (by kernel_rfl) 0 (by kernel_rfl) trivial fun args bl K r h => ?_
 unfold S48 RQ at h
 split at h
 ·exact (TE (mb N) N _ _ _ _).trans h
 ·cases h
def RR (N : Nat) : bO β := fun args bl K => match args, bl with
 | [.v (.one (.ptr 0 0))], [.pcells 0 46 [.row 1], .prow 1 9 (.strs a0)] => zq200 a0 (fun y0 y1 => K (.v (.one (.str y0))) [.pcells 0 46 [.row 1], .prow 1 9 (.strs y1)])
 | _, _ => none
def S56 (N : Nat) : bO β := RR (vK N) N
def VF (N : Nat) : Env β := ⟨[(106, RB N)], [], [], [], ⟨[], [], [], []⟩⟩
def E56 (N : Nat) : Env β := VF N
theorem TF (N : Nat) (a0 : List ByteArray) (K : TV → List Blk → O β) : lQ lay (VF N) Tryz.f56 [.v (.one (.ptr 0 0))] [.pcells 0 46 [.row 1], .prow 1 9 (.strs a0)] K = Ln N a0 (fun y0 y1 => K (.v (.one (.str y0))) [.pcells 0 46 [.row 1], .prow 1 9 (.strs y1)]) := by kernel_rfl
theorem o56 (N : Nat) : GOK (β := β) inv Tryz.prog 56 (S56 N) := by
 refine Be ax mixed (E := E56 N) (af (aa (Wb N) ai)) ak aA Tryz.func56 (by kernel_rfl) 0 (by kernel_rfl) trivial fun args bl K r h => ?_
 unfold S56 RR at h
 split at h
 ·exact (TF N _ _).trans h
 ·cases h
def RN (N : Nat) : Rv.Spec β := fun args K => match args with
 | [.v (.agg [.int .i64 a0, .int .i64 a1])] => zq201 a0 a1 (fun z2 => K (.v (.one (.str z2))))
 | _ => none
def S19 (N : Nat) : Rv.Spec β := RN (nU N) N
def Vx (N : Nat) : Env β := ⟨[(45, Io zq117 N), (77, RZ zq142 N), (85, R5 zq145 N), (78, R0 zq161 N), (75, RX zq171 N), (76, RY zq172 N), (86, Iq zq129 N), (41, In zq147 N), (79, R1 zq186 N), (87, R6 zq197 N)], [], [], [(39, MO zq198 N), (48, RQ zq199 N), (56, RR zq200 N)], ⟨[], [], [], []⟩⟩
def E19 (N : Nat) : Env β := Vx (el N) (ep N) (vv N) (vA N) (dx N) (vC N) (vD N) (vE N) (vF N) (vI N) (mb N) (vJ N) (vK N) N
theorem Tw (N : Nat) (a0 a1 : Int) (K : TV → O β) : aQ lay (Vx zq117 zq129 zq142 zq145 zq147 zq161 zq171 zq172 zq186 zq197 zq198 zq199 zq200 N) Tryz.f19 [.v (.agg [.int .i64 a0, .int .i64 a1])] K = Ay zq117 zq129 zq142 zq145 zq147 zq161 zq171 zq172 zq186 zq197 zq198 zq199 zq200 N a0 a1 (fun z2 => K (.v (.one (.str z2)))) := by kernel_rfl
theorem o19 (N : Nat) : ap (β := β) inv Tryz.prog 19 (S19 N) := by
 refine aq ax mixed (E := E19 N) (af (aa (o45 N) (aa (o77 N) (aa (o85 N) (aa (o78 N) (aa (o75 N) (aa (o76 N) (aa (o86 N) (aa (o41 N) (aa (o79 N) (aa (o87 N) ai))))))))))) ak (dM (o39 N) (dM (o48 N) (dM (o56 N) aA))) Tryz.func19 (by kernel_rfl) 0 (by kernel_rfl) trivial fun args K r h => ?_
 unfold S19 RN at h
 split at h
 ·exact (Tw (el N) (ep N) (vv N) (vA N) (dx N) (vC N) (vD N) (vE N) (vF N) (vI N) (mb N) (vJ N) (vK N) N _ _ _).trans h
 ·cases h
def VS7 (N : Nat) : Rv.Spec β := fun args K => match args with
 | [.v (.agg [.int .i64 a0, .int .i64 a1])] => q_laws_FnExactFormLine a0 a1 (fun z2 => K (.v (.one (.bool z2))))
 | _ => none
def S7 (N : Nat) : Rv.Spec β := VS7 (cA N) N
def VE7 (N : Nat) : Env β := ⟨[(9, VS9 zq28 N), (18, RM zq115 N), (19, RN zq201 N)], [], [], [], ⟨[], [], [], []⟩⟩
def E7 (N : Nat) : Env β := VE7 (LP N) (nS N) (nU N) N
theorem WP (N : Nat) (a0 a1 : Int) (K : TV → O β) : aQ lay (VE7 zq28 zq115 zq201 N) Tryz.f7 [.v (.agg [.int .i64 a0, .int .i64 a1])] K = b5 zq28 zq115 zq201 N a0 a1 (fun z2 => K (.v (.one (.bool z2)))) := by kernel_rfl
theorem o7 (N : Nat) : ap (β := β) inv Tryz.prog 7 (S7 N) := by
 refine aq ax mixed (E := E7 N) (af (aa (o9 N) (aa (o18 N) (aa (o19 N) ai)))) ak aA Tryz.func7 (by kernel_rfl) 0 (by kernel_rfl) trivial fun args K r h => ?_
 unfold S7 VS7 at h
 split at h
 ·exact (WP (LP N) (nS N) (nU N) N _ _ _).trans h
 ·cases h
end Go.Proofs.YtemihnclhcobnaaGreatDoor
