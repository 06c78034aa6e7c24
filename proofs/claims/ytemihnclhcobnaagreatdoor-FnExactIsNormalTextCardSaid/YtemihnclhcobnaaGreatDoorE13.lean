/- The functions that the claims cY bz as their texts do. -/
import Derived.Test.YtemihnclhcobnaaGreatDoorE12
namespace Go.Proofs.YtemihnclhcobnaaGreatDoor
set_option linter.unusedSimpArgs false
open Go.Rv
set_option maxRecDepth 100000
set_option maxHeartbeats 2000000
set_option linter.unusedVariables false
variable {β : Type}
variable (ahg : Y18 β) (ahl : Y4 β) (ahk : Y66 β) (ai2 : Yq β) (ahn : RI β) (aha : Yr β) (ahq : ac9 β) (ai4 : adb β) (ajy : Ys β) (aih : afG β) (ai5 : Y71 β) (ahL : Y0 β)
variable (N : Nat)
def Mh (N : Nat) : ce β := fun args bl K => match args, bl with
 | [.v (.one (.ptr 0 0)), .v (.agg [.int .i64 a0, .int .i64 a1])], [.pcells 0 173 [.int .i64 a2, .int .i64 a3, .mp 1, .mp 2], .pmp 1 ⟨true, false⟩ a4, .pmp 2 ⟨true, false⟩ a5] => ajy a0 a1 a2 a3 a4 a5 (fun y0 y1 y2 y3 y4 => K (.v (.one (.int .i64 y0))) [.pcells 0 173 [.int .i64 y1, .int .i64 y2, .mp 1, .mp 2], .pmp 1 ⟨true, false⟩ y3, .pmp 2 ⟨true, false⟩ y4])
 | _, _ => none
def acb : ce β := Mh (yu N) N
def iv (v0 v1 v2 v3 v4 : Int) (v5 v6 : Mp) (v7 v8 : Int) : St := ⟨.v (.one (.ptr 0 0)) :: ac :: ac :: .v (.one (.ptr 3 0)) :: ac :: (Z' v0) :: tn 8 ((Z' v1) :: (Z' v2) :: tn 32 []), [.pcells 0 173 [.int .i64 v3, .int .i64 v4, .mp 1, .mp 2], .pmp 1 ⟨true, false⟩ v5, .pmp 2 ⟨true, false⟩ v6, .cells 123 [.int .i64 v7, .int .i64 v8]]⟩
def lH (y0 y1 y2 : Int) (y3 y4 : Mp) : St := ⟨tn 4 ((Z' y0) :: tn 43 []), [.pcells 0 173 [.int .i64 y1, .int .i64 y2, .mp 1, .mp 2], .pmp 1 ⟨true, false⟩ y3, .pmp 2 ⟨true, false⟩ y4]⟩
def lI (y0 y1 : Int) (y2 y3 : Mp) : St := ⟨tn 48 [], [.pcells 0 173 [.int .i64 y0, .int .i64 y1, .mp 1, .mp 2], .pmp 1 ⟨true, false⟩ y2, .pmp 2 ⟨true, false⟩ y3]⟩
def uF {γ : Type} (f : Int -> Int -> Int -> Int -> Int -> Mp -> Mp -> Int -> Int -> γ) (s : St) : γ := f (af (ah (vT (nx ac s.tmps 5)))) (af (ah (vT (nx ac s.tmps 14)))) (af (ah (vT (nx ac s.tmps 15)))) (af (nx .und (ak (nx .dead s.blks 0)) 0)) (af (nx .und (ak (nx .dead s.blks 0)) 1)) (mpB (nx .dead s.blks 1)) (mpB (nx .dead s.blks 2)) (af (nx .und (ak (nx .dead s.blks 3)) 0)) (af (nx .und (ak (nx .dead s.blks 3)) 1))
theorem Jl (s : St) : aP (iv 0 0 0 0 0 [] [] 0 0) s = uF iv s := by kernel_rfl
def Bm : ax β := fun s K => cond (aJ (iv 0 0 0 0 0 [] [] 0 0) s) (uF (fun v0 v1 v2 v3 v4 v5 v6 v7 v8 => ai4 N v0 v1 v2 v3 v4 v5 v6 v7 v8 (fun y0 y1 y2 y3 y4 => K .ret (lH y0 y1 y2 y3 y4)) (fun y0 y1 y2 y3 => K (.exit 0) (lI y0 y1 y2 y3))) s) (none)
def Rs : ax β := Bm (i6 N) N
def LU : Env β := ⟨[(210, Bz aha N)], [], [(0, Bm ai4 N)], [(237, acX ahq N)], ⟨[], [], [], []⟩⟩
def Q0 : Env β := LU (eO N) (gw N) (i6 N) N
theorem Fx (v0 v1 v2 v3 v4 : Int) (v5 v6 : Mp) (v7 v8 : Int) (rec_ : St -> O β) (K : Exit -> St -> O β) :
  stB lay (LU aha ahq ai4 N) Tryz.f208 0 (iv v0 v1 v2 v3 v4 v5 v6 v7 v8) rec_ K = Dn aha (ahq N) N v0 v1 v2 v3 v4 v5 v6 v7 v8 (fun v0 v1 v2 v3 v4 v5 v6 v7 v8 => rec_ (iv v0 v1 v2 v3 v4 v5 v6 v7 v8)) (fun y0 y1 y2 y3 y4 => K .ret (lH y0 y1 y2 y3 y4)) (fun y0 y1 y2 y3 => K (.exit 0) (lI y0 y1 y2 y3)) := by kernel_rfl
theorem Kr (K : Exit -> St -> O β) : ∀ (F : Nat) (v0 v1 v2 v3 v4 : Int) (v5 v6 : Mp) (v7 v8 : Int), (lp Tryz.f208 0).rounds lay (Q0 N) (ai Tryz.f208) F (iv v0 v1 v2 v3 v4 v5 v6 v7 v8) K = i6 N F v0 v1 v2 v3 v4 v5 v6 v7 v8 (fun y0 y1 y2 y3 y4 => K .ret (lH y0 y1 y2 y3 y4)) (fun y0 y1 y2 y3 => K (.exit 0) (lI y0 y1 y2 y3)) := by
 intro F; induction F with
 | zero => intros; rfl
 | succ F ih => intros; rw [am]; refine (Fx (eO N) (gw N) (i6 N) N _ _ _ _ _ _ _ _ _ (fun s => (lp Tryz.f208 0).rounds lay (Q0 N) (ai Tryz.f208) F s K) K).trans ?_; simp only [ih]; rfl
theorem SK : aS (Q0 (β := β) N).loops (lp Tryz.f208 0).id = Rs N := by kernel_rfl
theorem TP : ay lay (Q0 (β := β) N) (ai Tryz.f208) (lp Tryz.f208 0) := rks (SK ..) (rc1 (fun s K hb => ⟨N, by rw [<- ar hb, Jl s]; unfold uF; exact Kr N K N _ _ _ _ _ _ _ _ _⟩) rc0)
theorem Vb (a0 a1 a2 a3 : Int) (a4 a5 : Mp) (K : TV -> List Blk -> O β) : oZ lay (LU aha ahq ai4 N) Tryz.f208 [.v (.one (.ptr 0 0)), .v (.agg [.int .i64 a0, .int .i64 a1])] [.pcells 0 173 [.int .i64 a2, .int .i64 a3, .mp 1, .mp 2], .pmp 1 ⟨true, false⟩ a4, .pmp 2 ⟨true, false⟩ a5] K = PV (ahq N) ai4 N a0 a1 a2 a3 a4 a5 (fun y0 y1 y2 y3 y4 => K ((Z' y0)) [.pcells 0 173 [.int .i64 y1, .int .i64 y2, .mp 1, .mp 2], .pmp 1 ⟨true, false⟩ y3, .pmp 2 ⟨true, false⟩ y4]) := by kernel_rfl
theorem agm : GOK (β := β) inv Tryz.prog 208 (acb N) := by
 refine Nj au mixed (E := Q0 N) (ae (aa (Zs N) ag)) aj (eQ (agu N) av) Tryz.func208 (by kernel_rfl) 1 (by kernel_rfl) ⟨trivial, TP N⟩ fun args bl K r h => ?_
 unfold acb Mh at h
 split at h
 ·exact (Vb (eO N) (gw N) (i6 N) N _ _ _ _ _ _ _).trans h
 ·cases h
def sy (N G : Nat) : ce β := fun args bl K => match args, bl with
 | [.v (.one (.ptr 0 0)), .v (.agg [.int .i64 a0, .int .i64 a1])], [.pcells 0 173 [.int .i64 a2, .int .i64 a3, .mp 1, .mp 2], .pmp 1 ⟨true, false⟩ a4, .pmp 2 ⟨true, false⟩ a5] => aih G a0 a1 a2 a3 a4 a5 (fun y0 y1 y2 y3 y4 => K (.v (.one (.str y0))) [.pcells 0 173 [.int .i64 y1, .int .i64 y2, .mp 1, .mp 2], .pmp 1 ⟨true, false⟩ y3, .pmp 2 ⟨true, false⟩ y4])
 | _, _ => none
def AJ (G : Nat) : ce β := sy (pS N) N G
def acP : ce β := sy aih N N
def aft : ce β := AJ N N
def Wh (G : Nat) : Env β := ⟨[(209, By ahk N), (41, RF ahn N), (210, Bz aha N)], [], [], [(208, Mh ajy N), (149, sy aih N G)], ⟨[], [], [], []⟩⟩
def aeT (G : Nat) : Env β := Wh (gv N) (fQ N) (eO N) (yu N) (pS N) N G
theorem UH (G : Nat) (a0 a1 a2 a3 : Int) (a4 a5 : Mp) (K : TV -> List Blk -> O β) : oZ lay (Wh ahk ahn aha ajy aih N G) Tryz.f149 [.v (.one (.ptr 0 0)), .v (.agg [.int .i64 a0, .int .i64 a1])] [.pcells 0 173 [.int .i64 a2, .int .i64 a3, .mp 1, .mp 2], .pmp 1 ⟨true, false⟩ a4, .pmp 2 ⟨true, false⟩ a5] K = PW ahk ahn aha ajy N (aih G) a0 a1 a2 a3 a4 a5 (fun y0 y1 y2 y3 y4 => K (.v (.one (.str y0))) [.pcells 0 173 [.int .i64 y1, .int .i64 y2, .mp 1, .mp 2], .pmp 1 ⟨true, false⟩ y3, .pmp 2 ⟨true, false⟩ y4]) := by kernel_rfl
theorem agI : ∀ args bl K r, AJ (β := β) N 0 args bl K = some r -> (none : O β) = some r := by
 intro args bl K r h
 unfold AJ sy at h
 split at h <;> exact h
theorem adV : ∀ G, GOK (β := β) inv Tryz.prog 149 (AJ N G) := by
 intro G
 induction G with
 | zero => exact Nk Tryz.func149 (by kernel_rfl) (agI N)
 | succ G ih =>
  refine Nj au mixed (E := aeT N G) (ae (aa (Zr N) (aa (o41 N) (aa (Zs N) ag)))) aj (eQ (agm N) (eQ ih av)) Tryz.func149 (by kernel_rfl) 0 (by kernel_rfl) trivial fun args bl K r h => ?_
  unfold AJ sy at h
  split at h
  ·exact (UH (gv N) (fQ N) (eO N) (yu N) (pS N) N G _ _ _ _ _ _ _).trans h
  ·cases h
theorem af5 : GOK (β := β) inv Tryz.prog 149 (aft N) := adV N N
def Yl (N : Nat) : Rv.Spec β := fun args K => match args with
 | [.v (.agg [.int .i64 a0, .int .i64 a1])] => ai5 a0 a1 (fun z2 z3 => K (.tup [.one (.str z2), .one (.bool z3)]))
 | _ => none
def S78 : Rv.Spec β := Yl (yv N) N
def acE : Env β := ⟨[(45, Mq ahl N)], [], [], [(148, L7 ai2 N), (149, acP aih N)], ⟨[], [], [], []⟩⟩
def E78 : Env β := acE (gu N) (DD N) (pS N) N
theorem aaH (a0 a1 : Int) (K : TV -> O β) : aL lay (acE ahl ai2 aih N) Tryz.f78 [.v (.agg [.int .i64 a0, .int .i64 a1])] K = PX ahl ai2 (aih N) N a0 a1 (fun z2 z3 => K (.tup [.one (.str z2), .one (.bool z3)])) := by kernel_rfl
theorem o78 : ao (β := β) inv Tryz.prog 78 (S78 N) := by
 refine ap au mixed (E := E78 N) (ae (aa (o45 N) ag)) aj (eQ (af4 N) (eQ (af5 N) av)) Tryz.func78 (by kernel_rfl) 0 (by kernel_rfl) trivial fun args K r h => ?_
 unfold S78 Yl at h
 split at h
 ·exact (aaH (gu N) (DD N) (pS N) N _ _ _).trans h
 ·cases h
def Mi (N : Nat) : Rv.Spec β := fun args K => match args with
 | [.v (.agg [.int .i64 a0, .int .i64 a1])] => ahL a0 a1 (fun z2 => K (.v (.one (.bool z2))))
 | _ => none
def acf : Rv.Spec β := Mi (nm N) N
def WB : Env β := ⟨[(174, Bu ahg N)], [], [], [], ⟨[], [], [], []⟩⟩
def afe : Env β := WB (eF N) N
theorem Ve (a0 a1 : Int) (K : TV -> O β) : aL lay (WB ahg N) Tryz.f211 [.v (.agg [.int .i64 a0, .int .i64 a1])] K = PY ahg N a0 a1 (fun z2 => K (.v (.one (.bool z2)))) := by kernel_rfl
theorem agn : ao (β := β) inv Tryz.prog 211 (acf N) := by
 refine ap au mixed (E := afe N) (ae (aa (Zo N) ag)) aj av Tryz.func211 (by kernel_rfl) 0 (by kernel_rfl) trivial fun args K r h => ?_
 unfold acf Mi at h
 split at h
 ·exact (Ve (eF N) N _ _ _).trans h
 ·cases h
end Go.Proofs.YtemihnclhcobnaaGreatDoor
