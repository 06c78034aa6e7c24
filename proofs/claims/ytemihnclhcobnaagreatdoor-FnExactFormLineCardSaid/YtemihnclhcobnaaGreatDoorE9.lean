/- The functions that the claims dl bK as their texts do. -/
import Derived.Test.YtemihnclhcobnaaGreatDoorE8
namespace Go.Proofs.YtemihnclhcobnaaGreatDoor
set_option linter.unusedSimpArgs false
open Go.Rv
set_option maxRecDepth 100000
set_option maxHeartbeats 2000000
set_option linter.unusedVariables false
variable {β : Type}
variable (zq0 : Y0 β) (zq5 : Y1 β) (zq11 : Y6 β) (zq16 : Y1 β) (zq19 : Y10 β) (zq117 : Y1 β) (zq120 : Y30 β) (zq146 : Y72 β) (zq147 : Y45 β) (zq148 : Y73 β) (zq150 : Y75 β) (zq152 : Y74 β) (zq155 : Y77 β) (zq156 : Y76 β) (zq159 : Y78 β) (zq161 : Y35 β) (zq162 : Y12 β) (zq164 : Y80 β) (zq165 : Y38 β)
def qn (N G : Nat) : bO β := fun args bl K => match args, bl with
 | [.v (.one (.ptr 0 0)), .v (.agg [.int .i64 a0, .int .i64 a1])], [.pcells 0 173 [.int .i64 a2, .int .i64 a3, .mp 1, .mp 2], .pmp 1 ⟨true, false⟩ a4, .pmp 2 ⟨true, false⟩ a5] => zq152 G a0 a1 a2 a3 a4 a5 (fun y0 y1 y2 y3 y4 => K (.v (.one (.int .i64 y0))) [.pcells 0 173 [.int .i64 y1, .int .i64 y2, .mp 1, .mp 2], .pmp 1 ⟨true, false⟩ y3, .pmp 2 ⟨true, false⟩ y4])
 | _, _ => none
def xG (N G : Nat) : bO β := qn (fQ N) N G
def VX (N : Nat) : bO β := qn zq152 N N
def Xw (N : Nat) : bO β := xG N N
def g6 (v0 v1 v2 v3 v4 : Int) (v5 v6 : Mp) (v7 v8 : Int) : St := ⟨.v (.one (.ptr 0 0)) :: ac :: ac :: .v (.one (.ptr 3 0)) :: tn 3 ((Z' v0) :: tn 31 ((Z' v1) :: (Z' v2) :: tn 30 [])), [.pcells 0 173 [.int .i64 v3, .int .i64 v4, .mp 1, .mp 2], .pmp 1 ⟨true, false⟩ v5, .pmp 2 ⟨true, false⟩ v6, .cells 123 [.int .i64 v7, .int .i64 v8]]⟩
def kQ (y0 y1 y2 : Int) (y3 y4 : Mp) (y5 y6 : Int) : St := ⟨.v (.one (.ptr 0 0)) :: ac :: ac :: .v (.one (.ptr 3 0)) :: tn 3 ((Z' y0) :: tn 63 []), [.pcells 0 173 [.int .i64 y1, .int .i64 y2, .mp 1, .mp 2], .pmp 1 ⟨true, false⟩ y3, .pmp 2 ⟨true, false⟩ y4, .cells 123 [.int .i64 y5, .int .i64 y6]]⟩
def rX {γ : Type} (f : Int → Int → Int → Int → Int → Mp → Mp → Int → Int → γ) (s : St) : γ := f (ae (ag (vT (nx ac s.tmps 7)))) (ae (ag (vT (nx ac s.tmps 39)))) (ae (ag (vT (nx ac s.tmps 40)))) (ae (nx .und (ao (nx .dead s.blks 0)) 0)) (ae (nx .und (ao (nx .dead s.blks 0)) 1)) (mpB (nx .dead s.blks 1)) (mpB (nx .dead s.blks 2)) (ae (nx .und (ao (nx .dead s.blks 3)) 0)) (ae (nx .und (ao (nx .dead s.blks 3)) 1))
theorem FQ (s : St) : aT (g6 0 0 0 0 0 [] [] 0 0) s = rX g6 s := by kernel_rfl
def yj (N G : Nat) : ay β := fun s K => cond (aK (g6 0 0 0 0 0 [] [] 0 0) s) (rX (fun v0 v1 v2 v3 v4 v5 v6 v7 v8 => zq150 (zq152 G) N v0 v1 v2 v3 v4 v5 v6 v7 v8 (fun y0 y1 y2 y3 y4 y5 y6 => K (.exit 0) (kQ y0 y1 y2 y3 y4 y5 y6))) s) (none)
def MI (N G : Nat) : ay β := yj (kX N) (fQ N) N G
def HX (N G : Nat) : Env β := ⟨[(209, yq zq120 N), (210, yr zq148 N)], [], [(0, yj zq150 zq152 N G)], [(237, qn zq152 N G)], ⟨[], [], [], []⟩⟩
def Me (N G : Nat) : Env β := HX (fP N) (er N) (kX N) (fQ N) N G
theorem CF (N G : Nat) (v0 v1 v2 v3 v4 : Int) (v5 v6 : Mp) (v7 v8 : Int) (rec_ : St → O β) (K : Exit → St → O β) :
  stB lay (HX zq120 zq148 zq150 zq152 N G) Tryz.f237 0 (g6 v0 v1 v2 v3 v4 v5 v6 v7 v8) rec_ K = Av zq148 N (zq152 G) v0 v1 v2 v3 v4 v5 v6 v7 v8 (fun v0 v1 v2 v3 v4 v5 v6 v7 v8 => rec_ (g6 v0 v1 v2 v3 v4 v5 v6 v7 v8)) (fun y0 y1 y2 y3 y4 y5 y6 => K (.exit 0) (kQ y0 y1 y2 y3 y4 y5 y6)) := by kernel_rfl
theorem GT (N G : Nat) (K : Exit → St → O β) : ∀ (F : Nat) (v0 v1 v2 v3 v4 : Int) (v5 v6 : Mp) (v7 v8 : Int), (lp Tryz.f237 0).rounds lay (Me N G) (ah Tryz.f237) F (g6 v0 v1 v2 v3 v4 v5 v6 v7 v8) K = kX N (fQ N G) F v0 v1 v2 v3 v4 v5 v6 v7 v8 (fun y0 y1 y2 y3 y4 y5 y6 => K (.exit 0) (kQ y0 y1 y2 y3 y4 y5 y6)) := by
 intro F; induction F with
 | zero => intros; rfl
 | succ F ih => intros; rw [am]; refine (CF (fP N) (er N) (kX N) (fQ N) N G _ _ _ _ _ _ _ _ _ (fun s => (lp Tryz.f237 0).rounds lay (Me N G) (ah Tryz.f237) F s K) K).trans ?_; simp only [ih]; rfl
theorem NT (N G : Nat) : aS (Me (β := β) N G).loops (lp Tryz.f237 0).id = MI N G := by kernel_rfl
theorem OQ (N G : Nat) : az lay (Me (β := β) N G) (ah Tryz.f237) (lp Tryz.f237 0) := rks (NT ..) (rc1 (fun s K hb => ⟨N, by rw [← ar hb, FQ s]; unfold rX; exact GT N _ K N _ _ _ _ _ _ _ _ _⟩) rc0)
theorem P1 (N G : Nat) (a0 a1 a2 a3 : Int) (a4 a5 : Mp) (K : TV → List Blk → O β) : lQ lay (HX zq120 zq148 zq150 zq152 N G) Tryz.f237 [.v (.one (.ptr 0 0)), .v (.agg [.int .i64 a0, .int .i64 a1])] [.pcells 0 173 [.int .i64 a2, .int .i64 a3, .mp 1, .mp 2], .pmp 1 ⟨true, false⟩ a4, .pmp 2 ⟨true, false⟩ a5] K = K2 zq120 zq150 N (zq152 G) a0 a1 a2 a3 a4 a5 (fun y0 y1 y2 y3 y4 => K ((Z' y0)) [.pcells 0 173 [.int .i64 y1, .int .i64 y2, .mp 1, .mp 2], .pmp 1 ⟨true, false⟩ y3, .pmp 2 ⟨true, false⟩ y4]) := by kernel_rfl
theorem Yr (N : Nat) : ∀ args bl K r, xG (β := β) N 0 args bl K = some r → (none : O β) = some r := by
 intro args bl K r h
 unfold xG qn at h
 split at h <;> exact h
theorem Wy (N : Nat) : ∀ G, GOK (β := β) inv Tryz.prog 237 (xG N G) := by
 intro G
 induction G with
 | zero => exact I8 Tryz.func237 (by kernel_rfl) (Yr N)
 | succ G ih =>
  refine Be ax mixed (E := Me N G) (af (aa (SU N) (aa (SW N) ai))) ak (dM ih aA) Tryz.func237 (by kernel_rfl) 1 (by kernel_rfl) ⟨trivial, OQ N G⟩ fun args bl K r h => ?_
  unfold xG qn at h
  split at h
  ·exact (P1 (fP N) (er N) (kX N) (fQ N) N G _ _ _ _ _ _ _).trans h
  ·cases h
theorem Ya (N : Nat) : GOK (β := β) inv Tryz.prog 237 (Xw N) := Wy N N
def Ic (N : Nat) : bO β := fun args bl K => match args, bl with
 | [.v (.one (.ptr 0 0)), .v (.agg [.int .i64 a0, .int .i64 a1])], [.pcells 0 173 [.int .i64 a2, .int .i64 a3, .mp 1, .mp 2], .pmp 1 ⟨true, false⟩ a4, .pmp 2 ⟨true, false⟩ a5] => zq156 a0 a1 a2 a3 a4 a5 (fun y0 y1 y2 y3 y4 => K (.v (.one (.int .i64 y0))) [.pcells 0 173 [.int .i64 y1, .int .i64 y2, .mp 1, .mp 2], .pmp 1 ⟨true, false⟩ y3, .pmp 2 ⟨true, false⟩ y4])
 | _, _ => none
def Vk (N : Nat) : bO β := Ic (vB N) N
def gV (v0 v1 v2 v3 v4 : Int) (v5 v6 : Mp) (v7 v8 : Int) : St := ⟨.v (.one (.ptr 0 0)) :: ac :: ac :: .v (.one (.ptr 3 0)) :: ac :: (Z' v0) :: tn 8 ((Z' v1) :: (Z' v2) :: tn 32 []), [.pcells 0 173 [.int .i64 v3, .int .i64 v4, .mp 1, .mp 2], .pmp 1 ⟨true, false⟩ v5, .pmp 2 ⟨true, false⟩ v6, .cells 123 [.int .i64 v7, .int .i64 v8]]⟩
def kF (y0 y1 y2 : Int) (y3 y4 : Mp) : St := ⟨tn 4 ((Z' y0) :: tn 43 []), [.pcells 0 173 [.int .i64 y1, .int .i64 y2, .mp 1, .mp 2], .pmp 1 ⟨true, false⟩ y3, .pmp 2 ⟨true, false⟩ y4]⟩
def kG (y0 y1 : Int) (y2 y3 : Mp) : St := ⟨tn 48 [], [.pcells 0 173 [.int .i64 y0, .int .i64 y1, .mp 1, .mp 2], .pmp 1 ⟨true, false⟩ y2, .pmp 2 ⟨true, false⟩ y3]⟩
def rR {γ : Type} (f : Int → Int → Int → Int → Int → Mp → Mp → Int → Int → γ) (s : St) : γ := f (ae (ag (vT (nx ac s.tmps 5)))) (ae (ag (vT (nx ac s.tmps 14)))) (ae (ag (vT (nx ac s.tmps 15)))) (ae (nx .und (ao (nx .dead s.blks 0)) 0)) (ae (nx .und (ao (nx .dead s.blks 0)) 1)) (mpB (nx .dead s.blks 1)) (mpB (nx .dead s.blks 2)) (ae (nx .und (ao (nx .dead s.blks 3)) 0)) (ae (nx .und (ao (nx .dead s.blks 3)) 1))
theorem FK (s : St) : aT (gV 0 0 0 0 0 [] [] 0 0) s = rR gV s := by kernel_rfl
def ye (N : Nat) : ay β := fun s K => cond (aK (gV 0 0 0 0 0 [] [] 0 0) s) (rR (fun v0 v1 v2 v3 v4 v5 v6 v7 v8 => zq155 N v0 v1 v2 v3 v4 v5 v6 v7 v8 (fun y0 y1 y2 y3 y4 => K .ret (kF y0 y1 y2 y3 y4)) (fun y0 y1 y2 y3 => K (.exit 0) (kG y0 y1 y2 y3))) s) (none)
def MD (N : Nat) : ay β := ye (iq N) N
def HT (N : Nat) : Env β := ⟨[(210, yr zq148 N)], [], [(0, ye zq155 N)], [(237, VX zq152 N)], ⟨[], [], [], []⟩⟩
def Ma (N : Nat) : Env β := HT (er N) (fQ N) (iq N) N
theorem Cz (N : Nat) (v0 v1 v2 v3 v4 : Int) (v5 v6 : Mp) (v7 v8 : Int) (rec_ : St → O β) (K : Exit → St → O β) :
  stB lay (HT zq148 zq152 zq155 N) Tryz.f208 0 (gV v0 v1 v2 v3 v4 v5 v6 v7 v8) rec_ K = Aw zq148 (zq152 N) N v0 v1 v2 v3 v4 v5 v6 v7 v8 (fun v0 v1 v2 v3 v4 v5 v6 v7 v8 => rec_ (gV v0 v1 v2 v3 v4 v5 v6 v7 v8)) (fun y0 y1 y2 y3 y4 => K .ret (kF y0 y1 y2 y3 y4)) (fun y0 y1 y2 y3 => K (.exit 0) (kG y0 y1 y2 y3)) := by kernel_rfl
theorem GM (N : Nat) (K : Exit → St → O β) : ∀ (F : Nat) (v0 v1 v2 v3 v4 : Int) (v5 v6 : Mp) (v7 v8 : Int), (lp Tryz.f208 0).rounds lay (Ma N) (ah Tryz.f208) F (gV v0 v1 v2 v3 v4 v5 v6 v7 v8) K = iq N F v0 v1 v2 v3 v4 v5 v6 v7 v8 (fun y0 y1 y2 y3 y4 => K .ret (kF y0 y1 y2 y3 y4)) (fun y0 y1 y2 y3 => K (.exit 0) (kG y0 y1 y2 y3)) := by
 intro F; induction F with
 | zero => intros; rfl
 | succ F ih => intros; rw [am]; refine (Cz (er N) (fQ N) (iq N) N _ _ _ _ _ _ _ _ _ (fun s => (lp Tryz.f208 0).rounds lay (Ma N) (ah Tryz.f208) F s K) K).trans ?_; simp only [ih]; rfl
theorem NO (N : Nat) : aS (Ma (β := β) N).loops (lp Tryz.f208 0).id = MD N := by kernel_rfl
theorem OL (N : Nat) : az lay (Ma (β := β) N) (ah Tryz.f208) (lp Tryz.f208 0) := rks (NO ..) (rc1 (fun s K hb => ⟨N, by rw [← ar hb, FK s]; unfold rR; exact GM N K N _ _ _ _ _ _ _ _ _⟩) rc0)
theorem PN (N : Nat) (a0 a1 a2 a3 : Int) (a4 a5 : Mp) (K : TV → List Blk → O β) : lQ lay (HT zq148 zq152 zq155 N) Tryz.f208 [.v (.one (.ptr 0 0)), .v (.agg [.int .i64 a0, .int .i64 a1])] [.pcells 0 173 [.int .i64 a2, .int .i64 a3, .mp 1, .mp 2], .pmp 1 ⟨true, false⟩ a4, .pmp 2 ⟨true, false⟩ a5] K = K3 (zq152 N) zq155 N a0 a1 a2 a3 a4 a5 (fun y0 y1 y2 y3 y4 => K ((Z' y0)) [.pcells 0 173 [.int .i64 y1, .int .i64 y2, .mp 1, .mp 2], .pmp 1 ⟨true, false⟩ y3, .pmp 2 ⟨true, false⟩ y4]) := by kernel_rfl
theorem XY (N : Nat) : GOK (β := β) inv Tryz.prog 208 (Vk N) := by
 refine Be ax mixed (E := Ma N) (af (aa (SW N) ai)) ak (dM (Ya N) aA) Tryz.func208 (by kernel_rfl) 1 (by kernel_rfl) ⟨trivial, OL N⟩ fun args bl K r h => ?_
 unfold Vk Ic at h
 split at h
 ·exact (PN (er N) (fQ N) (iq N) N _ _ _ _ _ _ _).trans h
 ·cases h
def qk (N G : Nat) : bO β := fun args bl K => match args, bl with
 | [.v (.one (.ptr 0 0)), .v (.agg [.int .i64 a0, .int .i64 a1])], [.pcells 0 173 [.int .i64 a2, .int .i64 a3, .mp 1, .mp 2], .pmp 1 ⟨true, false⟩ a4, .pmp 2 ⟨true, false⟩ a5] => zq159 G a0 a1 a2 a3 a4 a5 (fun y0 y1 y2 y3 y4 => K (.v (.one (.str y0))) [.pcells 0 173 [.int .i64 y1, .int .i64 y2, .mp 1, .mp 2], .pmp 1 ⟨true, false⟩ y3, .pmp 2 ⟨true, false⟩ y4])
 | _, _ => none
def xD (N G : Nat) : bO β := qk (nT N) N G
def VU (N : Nat) : bO β := qk zq159 N N
def Xt (N : Nat) : bO β := xD N N
def QI (N G : Nat) : Env β := ⟨[(209, yq zq120 N), (41, In zq147 N), (210, yr zq148 N)], [], [], [(208, Ic zq156 N), (149, qk zq159 N G)], ⟨[], [], [], []⟩⟩
def W8 (N G : Nat) : Env β := QI (fP N) (dx N) (er N) (vB N) (nT N) N G
theorem Pt (N G : Nat) (a0 a1 a2 a3 : Int) (a4 a5 : Mp) (K : TV → List Blk → O β) : lQ lay (QI zq120 zq147 zq148 zq156 zq159 N G) Tryz.f149 [.v (.one (.ptr 0 0)), .v (.agg [.int .i64 a0, .int .i64 a1])] [.pcells 0 173 [.int .i64 a2, .int .i64 a3, .mp 1, .mp 2], .pmp 1 ⟨true, false⟩ a4, .pmp 2 ⟨true, false⟩ a5] K = K4 zq120 zq147 zq148 zq156 N (zq159 G) a0 a1 a2 a3 a4 a5 (fun y0 y1 y2 y3 y4 => K (.v (.one (.str y0))) [.pcells 0 173 [.int .i64 y1, .int .i64 y2, .mp 1, .mp 2], .pmp 1 ⟨true, false⟩ y3, .pmp 2 ⟨true, false⟩ y4]) := by kernel_rfl
theorem Yo (N : Nat) : ∀ args bl K r, xD (β := β) N 0 args bl K = some r → (none : O β) = some r := by
 intro args bl K r h
 unfold xD qk at h
 split at h <;> exact h
theorem Wv (N : Nat) : ∀ G, GOK (β := β) inv Tryz.prog 149 (xD N G) := by
 intro G
 induction G with
 | zero => exact I8 Tryz.func149 (by kernel_rfl) (Yo N)
 | succ G ih =>
  refine Be ax mixed (E := W8 N G) (af (aa (SU N) (aa (o41 N) (aa (SW N) ai)))) ak (dM (XY N) (dM ih aA)) Tryz.func149 (by kernel_rfl) 0 (by kernel_rfl) trivial fun args bl K r h => ?_
  unfold xD qk at h
  split at h
  ·exact (Pt (fP N) (dx N) (er N) (vB N) (nT N) N G _ _ _ _ _ _ _).trans h
  ·cases h
theorem XN (N : Nat) : GOK (β := β) inv Tryz.prog 149 (Xt N) := Wv N N
def R0 (N : Nat) : Rv.Spec β := fun args K => match args with
 | [.v (.agg [.int .i64 a0, .int .i64 a1])] => zq161 a0 a1 (fun z2 z3 => K (.tup [.one (.str z2), .one (.bool z3)]))
 | _ => none
def S78 (N : Nat) : Rv.Spec β := R0 (vC N) N
def VK (N : Nat) : Env β := ⟨[(45, Io zq117 N)], [], [], [(148, H4 zq146 N), (149, VU zq159 N)], ⟨[], [], [], []⟩⟩
def E78 (N : Nat) : Env β := VK (el N) (AD N) (nT N) N
theorem TQ (N : Nat) (a0 a1 : Int) (K : TV → O β) : aQ lay (VK zq117 zq146 zq159 N) Tryz.f78 [.v (.agg [.int .i64 a0, .int .i64 a1])] K = K5 zq117 zq146 (zq159 N) N a0 a1 (fun z2 z3 => K (.tup [.one (.str z2), .one (.bool z3)])) := by kernel_rfl
theorem o78 (N : Nat) : ap (β := β) inv Tryz.prog 78 (S78 N) := by
 refine aq ax mixed (E := E78 N) (af (aa (o45 N) ai)) ak (dM (XM N) (dM (XN N) aA)) Tryz.func78 (by kernel_rfl) 0 (by kernel_rfl) trivial fun args K r h => ?_
 unfold S78 R0 at h
 split at h
 ·exact (TQ (el N) (AD N) (nT N) N _ _ _).trans h
 ·cases h
def H1 (N : Nat) : Rv.Spec β := fun args K => match args with
 | [.v (.agg [.int .i64 a0, .int .i64 a1])] => zq162 a0 a1 (fun z2 z3 => K (.v (.agg [.int .i64 z2, .int .i64 z3])))
 | _ => none
def UU (N : Nat) : Rv.Spec β := H1 (sS N) N
def QD (N : Nat) : Env β := ⟨[(129, ym zq0 zq11 zq16 zq19 N), (189, Dh zq16 N)], [], [], [], ⟨[], [], [], []⟩⟩
def W3 (N : Nat) : Env β := QD (zj0 N) (il N) (iZ N) (pH N) N
theorem Ph (N : Nat) (a0 a1 : Int) (K : TV → O β) : aQ lay (QD zq0 zq11 zq16 zq19 N) Tryz.f133 [.v (.agg [.int .i64 a0, .int .i64 a1])] K = K6 zq16 zq19 N a0 a1 (fun z2 z3 => K (.v (.agg [.int .i64 z2, .int .i64 z3]))) := by kernel_rfl
theorem XE (N : Nat) : ap (β := β) inv Tryz.prog 133 (UU N) := by
 refine aq ax mixed (E := W3 N) (af (aa (SK N) (aa (Wi N) ai))) ak aA Tryz.func133 (by kernel_rfl) 0 (by kernel_rfl) trivial fun args K r h => ?_
 unfold UU H1 at h
 split at h
 ·exact (Ph (zj0 N) (il N) (iZ N) (pH N) N _ _ _).trans h
 ·cases h
def H9 (N : Nat) : Rv.Spec β := fun args K => match args with
 | [.v (.one (.int .i64 a0)), .v (.agg [.int .i64 a1, .int .i64 a2])] => zq165 a0 a1 a2 (fun z3 => K (.v (.one (.str z3))))
 | _ => none
def Va (N : Nat) : Rv.Spec β := H9 (sT N) N
def gO (v0 v1 v2 v3 : Int) (v4 : List Int) : St := ⟨tn 3 (.v (.one (.ptr 0 0)) :: ac :: .v (.one (.row 1)) :: tn 5 ((Z' v0) :: (Z' v1) :: tn 29 [])), [.cells 93 [.int .i64 v2, .int .i64 v3], .row 5 (.ints .u8 v4)]⟩
def kx (y0 : List Int) : St := ⟨tn 5 (.v (.one (.row 0)) :: tn 36 []), [.row 5 (.ints .u8 y0)]⟩
def rL {γ : Type} (f : Int → Int → Int → Int → List Int → γ) (s : St) : γ := f (ae (ag (vT (nx ac s.tmps 11)))) (ae (ag (vT (nx ac s.tmps 12)))) (ae (nx .und (ao (nx .dead s.blks 0)) 0)) (ae (nx .und (ao (nx .dead s.blks 0)) 1)) (aY (aV (nx .dead s.blks 1)))
theorem FE (s : St) : aT (gO 0 0 0 0 []) s = rL gO s := by kernel_rfl
def xX (N : Nat) : ay β := fun s K => cond (aK (gO 0 0 0 0 []) s) (rL (fun v0 v1 v2 v3 v4 => zq164 N v0 v1 v2 v3 v4 (fun y0 => K (.exit 0) (kx y0))) s) (none)
def Mx (N : Nat) : ay β := xX (l6 N) N
def HM (N : Nat) : Env β := ⟨[(192, Dj zq5 N)], [], [(0, xX zq164 N)], [], ⟨[], [], [], []⟩⟩
def L4 (N : Nat) : Env β := HM (zj5 N) (l6 N) N
theorem Cs (N : Nat) (v0 v1 v2 v3 : Int) (v4 : List Int) (rec_ : St → O β) (K : Exit → St → O β) :
  stB lay (HM zq5 zq164 N) Tryz.f188 0 (gO v0 v1 v2 v3 v4) rec_ K = EG N v0 v1 v2 v3 v4 (fun v0 v1 v2 v3 v4 => rec_ (gO v0 v1 v2 v3 v4)) (fun y0 => K (.exit 0) (kx y0)) := by kernel_rfl
theorem GG (N : Nat) (K : Exit → St → O β) : ∀ (F : Nat) (v0 v1 v2 v3 : Int) (v4 : List Int), (lp Tryz.f188 0).rounds lay (L4 N) (ah Tryz.f188) F (gO v0 v1 v2 v3 v4) K = l6 N F v0 v1 v2 v3 v4 (fun y0 => K (.exit 0) (kx y0)) := by
 intro F; induction F with
 | zero => intros; rfl
 | succ F ih => intros; rw [am]; refine (Cs (zj5 N) (l6 N) N _ _ _ _ _ (fun s => (lp Tryz.f188 0).rounds lay (L4 N) (ah Tryz.f188) F s K) K).trans ?_; simp only [ih]; rfl
theorem NI (N : Nat) : aS (L4 (β := β) N).loops (lp Tryz.f188 0).id = Mx N := by kernel_rfl
theorem OE (N : Nat) : az lay (L4 (β := β) N) (ah Tryz.f188) (lp Tryz.f188 0) := rks (NI ..) (rc1 (fun s K hb => ⟨N, by rw [← ar hb, FE s]; unfold rL; exact GG N K N _ _ _ _ _⟩) rc0)
theorem PA (N : Nat) (a0 a1 a2 : Int) (K : TV → O β) : aQ lay (HM zq5 zq164 N) Tryz.f188 [(Z' a0), .v (.agg [.int .i64 a1, .int .i64 a2])] K = K7 zq5 zq164 N a0 a1 a2 (fun z3 => K (.v (.one (.str z3)))) := by kernel_rfl
theorem XV (N : Nat) : ap (β := β) inv Tryz.prog 188 (Va N) := by
 refine aq ax mixed (E := L4 N) (af (aa (Wk N) ai)) ak aA Tryz.func188 (by kernel_rfl) 1 (by kernel_rfl) ⟨trivial, OE N⟩ fun args K r h => ?_
 unfold Va H9 at h
 split at h
 ·exact (PA (zj5 N) (l6 N) N _ _ _ _).trans h
 ·cases h
end Go.Proofs.YtemihnclhcobnaaGreatDoor
