/- The functions that the claims cZ bz as their texts do. -/
import Derived.Test.YtmhlcbibbhelkaaGreatDoorE12
namespace Go.Proofs.YtmhlcbibbhelkaaGreatDoor
set_option linter.unusedSimpArgs false
open Go.Rv
set_option maxRecDepth 100000
set_option maxHeartbeats 2000000
set_option linter.unusedVariables false
variable {β : Type}
variable (aeg : Y18 β) (ael : Y4 β) (aek : Y66 β) (af2 : Vy β) (aen : Qq β) (aea : Vz β) (aeq : abA β) (af4 : abC β) (agy : VA β) (afh : ac8 β) (af5 : Y71 β) (aeL : Y0 β)
def Kh (N : Nat) : cc β := fun args bl K => match args, bl with
 | [.v (.one (.ptr 0 0)), .v (.agg [.int .i64 a0, .int .i64 a1])], [.pcells 0 112 [.int .i64 a2, .int .i64 a3, .mp 1, .mp 2], .pmp 1 ⟨true, false⟩ a4, .pmp 2 ⟨true, false⟩ a5] => agy a0 a1 a2 a3 a4 a5 (fun y0 y1 y2 y3 y4 => K (.v (.one (.int .i64 y0))) [.pcells 0 112 [.int .i64 y1, .int .i64 y2, .mp 1, .mp 2], .pmp 1 ⟨true, false⟩ y3, .pmp 2 ⟨true, false⟩ y4])
 | _, _ => none
def aap (N : Nat) : cc β := Kh (xw N) N
def gR (v0 v1 v2 v3 v4 : Int) (v5 v6 : Mp) (v7 v8 : Int) : St := ⟨.v (.one (.ptr 0 0)) :: ac :: ac :: .v (.one (.ptr 3 0)) :: ac :: (Z' v0) :: tn 8 ((Z' v1) :: (Z' v2) :: tn 32 []), [.pcells 0 112 [.int .i64 v3, .int .i64 v4, .mp 1, .mp 2], .pmp 1 ⟨true, false⟩ v5, .pmp 2 ⟨true, false⟩ v6, .cells 88 [.int .i64 v7, .int .i64 v8]]⟩
def j8 (y0 y1 y2 : Int) (y3 y4 : Mp) : St := ⟨tn 4 ((Z' y0) :: tn 43 []), [.pcells 0 112 [.int .i64 y1, .int .i64 y2, .mp 1, .mp 2], .pmp 1 ⟨true, false⟩ y3, .pmp 2 ⟨true, false⟩ y4]⟩
def j9 (y0 y1 : Int) (y2 y3 : Mp) : St := ⟨tn 48 [], [.pcells 0 112 [.int .i64 y0, .int .i64 y1, .mp 1, .mp 2], .pmp 1 ⟨true, false⟩ y2, .pmp 2 ⟨true, false⟩ y3]⟩
def tP {γ : Type} (f : Int → Int → Int → Int → Int → Mp → Mp → Int → Int → γ) (s : St) : γ := f (af (ah (vT (nx ac s.tmps 5)))) (af (ah (vT (nx ac s.tmps 14)))) (af (ah (vT (nx ac s.tmps 15)))) (af (nx .und (aj (nx .dead s.blks 0)) 0)) (af (nx .und (aj (nx .dead s.blks 0)) 1)) (mpB (nx .dead s.blks 1)) (mpB (nx .dead s.blks 2)) (af (nx .und (aj (nx .dead s.blks 3)) 0)) (af (nx .und (aj (nx .dead s.blks 3)) 1))
theorem HA (s : St) : aP (gR 0 0 0 0 0 [] [] 0 0) s = tP gR s := by kernel_rfl
def Av (N : Nat) : ax β := fun s K => cond (aJ (gR 0 0 0 0 0 [] [] 0 0) s) (tP (fun v0 v1 v2 v3 v4 v5 v6 v7 v8 => af4 N v0 v1 v2 v3 v4 v5 v6 v7 v8 (fun y0 y1 y2 y3 y4 => K .ret (j8 y0 y1 y2 y3 y4)) (fun y0 y1 y2 y3 => K (.exit 0) (j9 y0 y1 y2 y3))) s) (none)
def PU (N : Nat) : ax β := Av (iu N) N
def Ka (N : Nat) : Env β := ⟨[(106, AC aea N)], [], [(0, Av af4 N)], [(124, abn aeq N)], ⟨[], [], [], []⟩⟩
def PN (N : Nat) : Env β := Ka (eP N) (gq N) (iu N) N
theorem Ee (N : Nat) (v0 v1 v2 v3 v4 : Int) (v5 v6 : Mp) (v7 v8 : Int) (rec_ : St → O β) (K : Exit → St → O β) :
  stB lay (Ka aea aeq af4 N) Tryz.f103 0 (gR v0 v1 v2 v3 v4 v5 v6 v7 v8) rec_ K = CK aea (aeq N) N v0 v1 v2 v3 v4 v5 v6 v7 v8 (fun v0 v1 v2 v3 v4 v5 v6 v7 v8 => rec_ (gR v0 v1 v2 v3 v4 v5 v6 v7 v8)) (fun y0 y1 y2 y3 y4 => K .ret (j8 y0 y1 y2 y3 y4)) (fun y0 y1 y2 y3 => K (.exit 0) (j9 y0 y1 y2 y3)) := by kernel_rfl
theorem H6 (N : Nat) (K : Exit → St → O β) : ∀ (F : Nat) (v0 v1 v2 v3 v4 : Int) (v5 v6 : Mp) (v7 v8 : Int), (lp Tryz.f103 0).rounds lay (PN N) (ai Tryz.f103) F (gR v0 v1 v2 v3 v4 v5 v6 v7 v8) K = iu N F v0 v1 v2 v3 v4 v5 v6 v7 v8 (fun y0 y1 y2 y3 y4 => K .ret (j8 y0 y1 y2 y3 y4)) (fun y0 y1 y2 y3 => K (.exit 0) (j9 y0 y1 y2 y3)) := by
 intro F; induction F with
 | zero => intros; rfl
 | succ F ih => intros; rw [am]; refine (Ee (eP N) (gq N) (iu N) N _ _ _ _ _ _ _ _ _ (fun s => (lp Tryz.f103 0).rounds lay (PN N) (ai Tryz.f103) F s K) K).trans ?_; simp only [ih]; rfl
theorem QU (N : Nat) : aS (PN (β := β) N).loops (lp Tryz.f103 0).id = PU N := by kernel_rfl
theorem Rp (N : Nat) : ay lay (PN (β := β) N) (ai Tryz.f103) (lp Tryz.f103 0) := rks (QU ..) (rc1 (fun s K hb => ⟨N, by rw [← ar hb, HA s]; unfold tP; exact H6 N K N _ _ _ _ _ _ _ _ _⟩) rc0)
theorem RM (N : Nat) (a0 a1 a2 a3 : Int) (a4 a5 : Mp) (K : TV → List Blk → O β) : pb lay (Ka aea aeq af4 N) Tryz.f103 [.v (.one (.ptr 0 0)), .v (.agg [.int .i64 a0, .int .i64 a1])] [.pcells 0 112 [.int .i64 a2, .int .i64 a3, .mp 1, .mp 2], .pmp 1 ⟨true, false⟩ a4, .pmp 2 ⟨true, false⟩ a5] K = O0 (aeq N) af4 N a0 a1 a2 a3 a4 a5 (fun y0 y1 y2 y3 y4 => K ((Z' y0)) [.pcells 0 112 [.int .i64 y1, .int .i64 y2, .mp 1, .mp 2], .pmp 1 ⟨true, false⟩ y3, .pmp 2 ⟨true, false⟩ y4]) := by kernel_rfl
theorem adk (N : Nat) : GOK (β := β) inv Tryz.prog 103 (aap N) := by
 refine LW au mixed (E := PN N) (ae (aa (WQ N) ag)) ak (eR (ads N) av) Tryz.func103 (by kernel_rfl) 1 (by kernel_rfl) ⟨trivial, Rp N⟩ fun args bl K r h => ?_
 unfold aap Kh at h
 split at h
 ·exact (RM (eP N) (gq N) (iu N) N _ _ _ _ _ _ _).trans h
 ·cases h
def AM (N G : Nat) : cc β := fun args bl K => match args, bl with
 | [.v (.one (.ptr 0 0)), .v (.agg [.int .i64 a0, .int .i64 a1])], [.pcells 0 112 [.int .i64 a2, .int .i64 a3, .mp 1, .mp 2], .pmp 1 ⟨true, false⟩ a4, .pmp 2 ⟨true, false⟩ a5] => afh G a0 a1 a2 a3 a4 a5 (fun y0 y1 y2 y3 y4 => K (.v (.one (.str y0))) [.pcells 0 112 [.int .i64 y1, .int .i64 y2, .mp 1, .mp 2], .pmp 1 ⟨true, false⟩ y3, .pmp 2 ⟨true, false⟩ y4])
 | _, _ => none
def JZ (N G : Nat) : cc β := AM (p6 N) N G
def acY (N : Nat) : cc β := AM afh N N
def S71 (N : Nat) : cc β := JZ N N
def aa4 (N G : Nat) : Env β := ⟨[(105, AB aek N), (104, Ff aen N), (106, AC aea N)], [], [], [(103, Kh agy N), (71, AM afh N G)], ⟨[], [], [], []⟩⟩
def E71 (N G : Nat) : Env β := aa4 (gm N) (fI N) (eP N) (xw N) (p6 N) N G
theorem Zi (N G : Nat) (a0 a1 a2 a3 : Int) (a4 a5 : Mp) (K : TV → List Blk → O β) : pb lay (aa4 aek aen aea agy afh N G) Tryz.f71 [.v (.one (.ptr 0 0)), .v (.agg [.int .i64 a0, .int .i64 a1])] [.pcells 0 112 [.int .i64 a2, .int .i64 a3, .mp 1, .mp 2], .pmp 1 ⟨true, false⟩ a4, .pmp 2 ⟨true, false⟩ a5] K = O1 aek aen aea agy N (afh G) a0 a1 a2 a3 a4 a5 (fun y0 y1 y2 y3 y4 => K (.v (.one (.str y0))) [.pcells 0 112 [.int .i64 y1, .int .i64 y2, .mp 1, .mp 2], .pmp 1 ⟨true, false⟩ y3, .pmp 2 ⟨true, false⟩ y4]) := by kernel_rfl
theorem z71 (N : Nat) : ∀ args bl K r, JZ (β := β) N 0 args bl K = some r → (none : O β) = some r := by
 intro args bl K r h
 unfold JZ AM at h
 split at h <;> exact h
theorem adB (N : Nat) : ∀ G, GOK (β := β) inv Tryz.prog 71 (JZ N G) := by
 intro G
 induction G with
 | zero => exact LX Tryz.func71 (by kernel_rfl) (z71 N)
 | succ G ih =>
  refine LW au mixed (E := E71 N G) (ae (aa (WP N) (aa (abU N) (aa (WQ N) ag)))) ak (eR (adk N) (eR ih av)) Tryz.func71 (by kernel_rfl) 0 (by kernel_rfl) trivial fun args bl K r h => ?_
  unfold JZ AM at h
  split at h
  ·exact (Zi (gm N) (fI N) (eP N) (xw N) (p6 N) N G _ _ _ _ _ _ _).trans h
  ·cases h
theorem o71 (N : Nat) : GOK (β := β) inv Tryz.prog 71 (S71 N) := adB N N
def Vf (N : Nat) : Rv.Spec β := fun args K => match args with
 | [.v (.agg [.int .i64 a0, .int .i64 a1])] => af5 a0 a1 (fun z2 z3 => K (.tup [.one (.str z2), .one (.bool z3)]))
 | _ => none
def S35 (N : Nat) : Rv.Spec β := Vf (xx N) N
def aaL (N : Nat) : Env β := ⟨[(30, Ko ael N)], [], [], [(70, Vp af2 N), (71, acY afh N)], ⟨[], [], [], []⟩⟩
def E35 (N : Nat) : Env β := aaL (gj N) (CZ N) (p6 N) N
theorem Yv (N : Nat) (a0 a1 : Int) (K : TV → O β) : aL lay (aaL ael af2 afh N) Tryz.f35 [.v (.agg [.int .i64 a0, .int .i64 a1])] K = O2 ael af2 (afh N) N a0 a1 (fun z2 z3 => K (.tup [.one (.str z2), .one (.bool z3)])) := by kernel_rfl
theorem o35 (N : Nat) : ao (β := β) inv Tryz.prog 35 (S35 N) := by
 refine ap au mixed (E := E35 N) (ae (aa (o30 N) ag)) ak (eR (o70 N) (eR (o71 N) av)) Tryz.func35 (by kernel_rfl) 0 (by kernel_rfl) trivial fun args K r h => ?_
 unfold S35 Vf at h
 split at h
 ·exact (Yv (gj N) (CZ N) (p6 N) N _ _ _).trans h
 ·cases h
def Ki (N : Nat) : Rv.Spec β := fun args K => match args with
 | [.v (.agg [.int .i64 a0, .int .i64 a1])] => aeL a0 a1 (fun z2 => K (.v (.one (.bool z2))))
 | _ => none
def aat (N : Nat) : Rv.Spec β := Ki (my N) N
def SK (N : Nat) : Env β := ⟨[(100, AA aeg N)], [], [], [], ⟨[], [], [], []⟩⟩
def acH (N : Nat) : Env β := SK (eF N) N
theorem RQ (N : Nat) (a0 a1 : Int) (K : TV → O β) : aL lay (SK aeg N) Tryz.f107 [.v (.agg [.int .i64 a0, .int .i64 a1])] K = O3 aeg N a0 a1 (fun z2 => K (.v (.one (.bool z2)))) := by kernel_rfl
theorem adl (N : Nat) : ao (β := β) inv Tryz.prog 107 (aat N) := by
 refine ap au mixed (E := acH N) (ae (aa (WO N) ag)) ak av Tryz.func107 (by kernel_rfl) 0 (by kernel_rfl) trivial fun args K r h => ?_
 unfold aat Ki at h
 split at h
 ·exact (RQ (eF N) N _ _ _).trans h
 ·cases h
end Go.Proofs.YtmhlcbibbhelkaaGreatDoor
