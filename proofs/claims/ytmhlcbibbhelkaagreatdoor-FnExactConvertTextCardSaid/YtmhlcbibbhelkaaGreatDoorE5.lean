/- The functions that the claims cZ bz as their texts do. -/
import Derived.Test.YtmhlcbibbhelkaaGreatDoorE4
namespace Go.Proofs.YtmhlcbibbhelkaaGreatDoor
set_option linter.unusedSimpArgs false
open Go.Rv
set_option maxRecDepth 100000
set_option maxHeartbeats 2000000
set_option linter.unusedVariables false
variable {β : Type}
variable (aee : Y26 β) (ad5 : Y0 β) (aes : Y10 β) (aeh : Y3 β) (ae9 : Y56 β) (afx : Y60 β) (aex : Y59 β) (afy : Y62 β) (afz : Y61 β) (afA : Y65 β) (afB : Y64 β) (afC : Y67 β) (aey : Y66 β) (afD : Y68 β) (aep : Y19 β)
def AH (N G : Nat) : Rv.Spec β := fun args K => match args with
 | [.v (.agg [.int .i64 a0, .int .i64 a1]), .v (.one (.sl 46 (.pairs a2))), .v (.one (.int .i64 a3)), .v (.one (.int .i64 a4)), .v (.one (.int .i64 a5))] => aex G a0 a1 a2 a3 a4 a5 (fun z6 z7 => K (.tup [.one (.sl 46 (.pairs z6)), .one (.bool z7)]))
 | _ => none
def JU (N G : Nat) : Rv.Spec β := AH (eD N) N G
def acT (N : Nat) : Rv.Spec β := AH aex N N
def S48 (N : Nat) : Rv.Spec β := JU N N
def k9 (v0 : List (Int × Int)) (v1 v2 v3 v4 v5 : Int) : St := ⟨ac :: .v (.one (.sl 46 (.pairs v0))) :: ac :: (Z' v1) :: (Z' v2) :: .v (.one (.ptr 0 0)) :: tn 6 ((Z' v3) :: tn 51 []), [.cells 26 [.int .i64 v4, .int .i64 v5]]⟩
def nS (y0 : Bool) (y1 : List (Int × Int)) : St := ⟨tn 10 (.v (.one (.row 0)) :: .v (.one (.bool y0)) :: tn 52 []), [.row 46 (.pairs y1)]⟩
def nT : St := ⟨tn 64 [], []⟩
def zo {γ : Type} (f : (List (Int × Int)) → Int → Int → Int → Int → Int → γ) (s : St) : γ := f (bc (bF (ah (vT (nx ac s.tmps 1))))) (af (ah (vT (nx ac s.tmps 3)))) (af (ah (vT (nx ac s.tmps 4)))) (af (ah (vT (nx ac s.tmps 12)))) (af (nx .und (aj (nx .dead s.blks 0)) 0)) (af (nx .und (aj (nx .dead s.blks 0)) 1))
theorem Lo (s : St) : aP (k9 [] 0 0 0 0 0) s = zo k9 s := by kernel_rfl
def ER (N G : Nat) : ax β := fun s K => cond (aJ (k9 [] 0 0 0 0 0) s) (zo (fun v0 v1 v2 v3 v4 v5 => afx (aex G) N v0 v1 v2 v3 v4 v5 (fun y0 y1 => K .ret (nS y0 y1)) (K (.exit 0) (nT ))) s) (none)
def Ua (N G : Nat) : ax β := ER (me N) (eD N) N G
def UJ (N G : Nat) : Env β := ⟨[(41, Kq aeh N), (48, AH aex N G)], [], [(0, ER afx aex N G)], [], ⟨[], [], [], []⟩⟩
def E48 (N G : Nat) : Env β := UJ (oN N) (me N) (eD N) N G
theorem IY (N G : Nat) (v0 : List (Int × Int)) (v1 v2 v3 v4 v5 : Int) (rec_ : St → O β) (K : Exit → St → O β) :
  stB lay (UJ aeh afx aex N G) Tryz.f48 0 (k9 v0 v1 v2 v3 v4 v5) rec_ K = Gu aeh N (aex G) v0 v1 v2 v3 v4 v5 (fun v0 v1 v2 v3 v4 v5 => rec_ (k9 v0 v1 v2 v3 v4 v5)) (fun y0 y1 => K .ret (nS y0 y1)) (K (.exit 0) (nT )) := by kernel_rfl
theorem Nk (N G : Nat) (K : Exit → St → O β) : ∀ (F : Nat) (v0 : List (Int × Int)) (v1 v2 v3 v4 v5 : Int), (lp Tryz.f48 0).rounds lay (E48 N G) (ai Tryz.f48) F (k9 v0 v1 v2 v3 v4 v5) K = me N (eD N G) F v0 v1 v2 v3 v4 v5 (fun y0 y1 => K .ret (nS y0 y1)) (K (.exit 0) (nT )) := by
 intro F; induction F with
 | zero => intros; rfl
 | succ F ih => intros; rw [am]; refine (IY (oN N) (me N) (eD N) N G _ _ _ _ _ _ (fun s => (lp Tryz.f48 0).rounds lay (E48 N G) (ai Tryz.f48) F s K) K).trans ?_; simp only [ih]; rfl
theorem Wn (N G : Nat) : aS (E48 (β := β) N G).loops (lp Tryz.f48 0).id = Ua N G := by kernel_rfl
theorem Xv (N G : Nat) : ay lay (E48 (β := β) N G) (ai Tryz.f48) (lp Tryz.f48 0) := rks (Wn ..) (rc1 (fun s K hb => ⟨N, by rw [← ar hb, Lo s]; unfold zo; exact Nk N _ K N _ _ _ _ _ _⟩) rc0)
theorem YI (N G : Nat) (a0 a1 : Int) (a2 : List (Int × Int)) (a3 a4 a5 : Int) (K : TV → O β) : aL lay (UJ aeh afx aex N G) Tryz.f48 [.v (.agg [.int .i64 a0, .int .i64 a1]), .v (.one (.sl 46 (.pairs a2))), (Z' a3), (Z' a4), (Z' a5)] K = xk afx N (aex G) a0 a1 a2 a3 a4 a5 (fun z6 z7 => K (.tup [.one (.sl 46 (.pairs z6)), .one (.bool z7)])) := by kernel_rfl
theorem z48 (N : Nat) : ∀ args K r, JU (β := β) N 0 args K = some r → (none : O β) = some r := by
 intro args K r h
 unfold JU AH at h
 split at h <;> exact h
theorem adw (N : Nat) : ∀ G, ao (β := β) inv Tryz.prog 48 (JU N G) := by
 intro G
 induction G with
 | zero => exact dG Tryz.func48 (by kernel_rfl) (z48 N)
 | succ G ih =>
  refine ap au mixed (E := E48 N G) (ae (aa (o41 N) (aa ih ag))) ak av Tryz.func48 (by kernel_rfl) 1 (by kernel_rfl) ⟨trivial, Xv N G⟩ fun args K r h => ?_
  unfold JU AH at h
  split at h
  ·exact (YI (oN N) (me N) (eD N) N G _ _ _ _ _ _ _).trans h
  ·cases h
theorem o48 (N : Nat) : ao (β := β) inv Tryz.prog 48 (S48 N) := adw N N
def U3 (N : Nat) : Rv.Spec β := fun args K => match args with
 | [.v (.agg [.int .i64 a0, .int .i64 a1])] => afz a0 a1 (fun z2 z3 => K (.tup [.one (.sl 46 (.pairs z2)), .one (.bool z3)]))
 | _ => none
def S20 (N : Nat) : Rv.Spec β := U3 (xn N) N
def kM (v0 v1 v2 : Int) (v3 : List (Int × Int)) : St := ⟨ac :: .v (.one (.ptr 0 0)) :: ac :: ac :: .v (.one (.row 1)) :: (Z' v0) :: tn 29 [], [.cells 26 [.int .i64 v1, .int .i64 v2], .row 46 (.pairs v3)]⟩
def nr (y0 : Bool) (y1 : List (Int × Int)) : St := ⟨ac :: ac :: .v (.one (.row 0)) :: .v (.one (.bool y0)) :: tn 31 [], [.row 46 (.pairs y1)]⟩
def ns : St := ⟨tn 35 [], []⟩
def yU {γ : Type} (f : Int → Int → Int → (List (Int × Int)) → γ) (s : St) : γ := f (af (ah (vT (nx ac s.tmps 5)))) (af (nx .und (aj (nx .dead s.blks 0)) 0)) (af (nx .und (aj (nx .dead s.blks 0)) 1)) (bc (bh (nx .dead s.blks 1)))
theorem K4 (s : St) : aP (kM 0 0 0 []) s = yU kM s := by kernel_rfl
def EC (N : Nat) : ax β := fun s K => cond (aJ (kM 0 0 0 []) s) (yU (fun v0 v1 v2 v3 => afy N v0 v1 v2 v3 (fun y0 y1 => K .ret (nr y0 y1)) (K (.exit 0) (ns ))) s) (none)
def TU (N : Nat) : ax β := EC (kl N) N
def Ux (N : Nat) : Env β := ⟨[(17, AE ad5 N), (47, Vk ae9 N), (48, acT aex N)], [], [(0, EC afy N)], [], ⟨[], [], [], []⟩⟩
def E20 (N : Nat) : Env β := Ux (eU N) (uH N) (eD N) (kl N) N
theorem IE (N : Nat) (v0 v1 v2 : Int) (v3 : List (Int × Int)) (rec_ : St → O β) (K : Exit → St → O β) :
  stB lay (Ux ad5 ae9 aex afy N) Tryz.f20 0 (kM v0 v1 v2 v3) rec_ K = CC (aex N) N v0 v1 v2 v3 (fun v0 v1 v2 v3 => rec_ (kM v0 v1 v2 v3)) (fun y0 y1 => K .ret (nr y0 y1)) (K (.exit 0) (ns )) := by kernel_rfl
theorem M0 (N : Nat) (K : Exit → St → O β) : ∀ (F : Nat) (v0 v1 v2 : Int) (v3 : List (Int × Int)), (lp Tryz.f20 0).rounds lay (E20 N) (ai Tryz.f20) F (kM v0 v1 v2 v3) K = kl N F v0 v1 v2 v3 (fun y0 y1 => K .ret (nr y0 y1)) (K (.exit 0) (ns )) := by
 intro F; induction F with
 | zero => intros; rfl
 | succ F ih => intros; rw [am]; refine (IE (eU N) (uH N) (eD N) (kl N) N _ _ _ _ (fun s => (lp Tryz.f20 0).rounds lay (E20 N) (ai Tryz.f20) F s K) K).trans ?_; simp only [ih]; rfl
theorem V3 (N : Nat) : aS (E20 (β := β) N).loops (lp Tryz.f20 0).id = TU N := by kernel_rfl
theorem Xc (N : Nat) : ay lay (E20 (β := β) N) (ai Tryz.f20) (lp Tryz.f20 0) := rks (V3 ..) (rc1 (fun s K hb => ⟨N, by rw [← ar hb, K4 s]; unfold yU; exact M0 N K N _ _ _ _⟩) rc0)
theorem Yg (N : Nat) (a0 a1 : Int) (K : TV → O β) : aL lay (Ux ad5 ae9 aex afy N) Tryz.f20 [.v (.agg [.int .i64 a0, .int .i64 a1])] K = On ad5 ae9 afy N a0 a1 (fun z2 z3 => K (.tup [.one (.sl 46 (.pairs z2)), .one (.bool z3)])) := by kernel_rfl
theorem o20 (N : Nat) : ao (β := β) inv Tryz.prog 20 (S20 N) := by
 refine ap au mixed (E := E20 N) (ae (aa (o17 N) (aa (o47 N) (aa (o48 N) ag)))) ak av Tryz.func20 (by kernel_rfl) 1 (by kernel_rfl) ⟨trivial, Xc N⟩ fun args K r h => ?_
 unfold S20 U3 at h
 split at h
 ·exact (Yg (eU N) (uH N) (eD N) (kl N) N _ _ _).trans h
 ·cases h
def U4 (N : Nat) : Rv.Spec β := fun args K => match args with
 | [.v (.one (.int .i64 a0)), .v (.one (.sl 46 (.pairs a1)))] => afB a0 a1 (fun z2 => K (.v (.one (.str z2))))
 | _ => none
def S21 (N : Nat) : Rv.Spec β := U4 (xo N) N
def kN (v0 : Int) (v1 : List (Int × Int)) (v2 : ByteArray) (v3 : Int) : St := ⟨(Z' v0) :: .v (.one (.sl 46 (.pairs v1))) :: tn 3 (.v (.one (.str v2)) :: (Z' v3) :: tn 31 []), []⟩
def nt (y0 : Int) (y1 : List (Int × Int)) (y2 : ByteArray) : St := ⟨(Z' y0) :: .v (.one (.sl 46 (.pairs y1))) :: tn 3 (.v (.one (.str y2)) :: tn 32 []), []⟩
def yV {γ : Type} (f : Int → (List (Int × Int)) → ByteArray → Int → γ) (s : St) : γ := f (af (ah (vT (nx ac s.tmps 0)))) (bc (bF (ah (vT (nx ac s.tmps 1))))) (dV (ah (vT (nx ac s.tmps 5)))) (af (ah (vT (nx ac s.tmps 6))))
theorem K5 (s : St) : aP (kN 0 [] ByteArray.empty 0) s = yV kN s := by kernel_rfl
def ED (N : Nat) : ax β := fun s K => cond (aJ (kN 0 [] ByteArray.empty 0) s) (yV (fun v0 v1 v2 v3 => afA N v0 v1 v2 v3 (fun y0 y1 y2 => K (.exit 0) (nt y0 y1 y2))) s) (none)
def TW (N : Nat) : ax β := ED (mf N) N
def Uy (N : Nat) : Env β := ⟨[(39, Qb aes N), (46, Kr aee N)], [], [(0, ED afA N)], [], ⟨[], [], [], []⟩⟩
def E21 (N : Nat) : Env β := Uy (iw N) (oM N) (mf N) N
theorem IF (N : Nat) (v0 : Int) (v1 : List (Int × Int)) (v2 : ByteArray) (v3 : Int) (rec_ : St → O β) (K : Exit → St → O β) :
  stB lay (Uy aee aes afA N) Tryz.f21 0 (kN v0 v1 v2 v3) rec_ K = Gv aee aes N v0 v1 v2 v3 (fun v0 v1 v2 v3 => rec_ (kN v0 v1 v2 v3)) (fun y0 y1 y2 => K (.exit 0) (nt y0 y1 y2)) := by kernel_rfl
theorem M1 (N : Nat) (K : Exit → St → O β) : ∀ (F : Nat) (v0 : Int) (v1 : List (Int × Int)) (v2 : ByteArray) (v3 : Int), (lp Tryz.f21 0).rounds lay (E21 N) (ai Tryz.f21) F (kN v0 v1 v2 v3) K = mf N F v0 v1 v2 v3 (fun y0 y1 y2 => K (.exit 0) (nt y0 y1 y2)) := by
 intro F; induction F with
 | zero => intros; rfl
 | succ F ih => intros; rw [am]; refine (IF (iw N) (oM N) (mf N) N _ _ _ _ (fun s => (lp Tryz.f21 0).rounds lay (E21 N) (ai Tryz.f21) F s K) K).trans ?_; simp only [ih]; rfl
theorem V4 (N : Nat) : aS (E21 (β := β) N).loops (lp Tryz.f21 0).id = TW N := by kernel_rfl
theorem Xd (N : Nat) : ay lay (E21 (β := β) N) (ai Tryz.f21) (lp Tryz.f21 0) := rks (V4 ..) (rc1 (fun s K hb => ⟨N, by rw [← ar hb, K5 s]; unfold yV; exact M1 N K N _ _ _ _⟩) rc0)
theorem Yh (N : Nat) (a0 : Int) (a1 : List (Int × Int)) (K : TV → O β) : aL lay (Uy aee aes afA N) Tryz.f21 [(Z' a0), .v (.one (.sl 46 (.pairs a1)))] K = Oo aes afA N a0 a1 (fun z2 => K (.v (.one (.str z2)))) := by kernel_rfl
theorem o21 (N : Nat) : ao (β := β) inv Tryz.prog 21 (S21 N) := by
 refine ap au mixed (E := E21 N) (ae (aa (o39 N) (aa (o46 N) ag))) ak av Tryz.func21 (by kernel_rfl) 1 (by kernel_rfl) ⟨trivial, Xd N⟩ fun args K r h => ?_
 unfold S21 U4 at h
 split at h
 ·exact (Yh (iw N) (oM N) (mf N) N _ _ _).trans h
 ·cases h
def Qi (N : Nat) : Rv.Spec β := fun args K => match args with
 | [.v (.agg [.int .i64 a0, .int .i64 a1]), .v (.one (.int .i64 a2)), .v (.one (.int .i64 a3))] => aey a0 a1 a2 a3 (fun z4 => K (.v (.one (.int .i64 z4))))
 | _ => none
def S78 (N : Nat) : Rv.Spec β := Qi (km N) N
def lA (v0 v1 v2 v3 v4 v5 : Int) : St := ⟨ac :: (Z' v0) :: (Z' v1) :: .v (.one (.ptr 0 0)) :: tn 3 ((Z' v2) :: (Z' v3) :: tn 27 []), [.cells 26 [.int .i64 v4, .int .i64 v5]]⟩
def oD (y0 : Int) : St := ⟨tn 6 ((Z' y0) :: tn 29 []), []⟩
def oE (y0 : Int) : St := ⟨tn 7 ((Z' y0) :: tn 28 []), []⟩
def zF {γ : Type} (f : Int → Int → Int → Int → Int → Int → γ) (s : St) : γ := f (af (ah (vT (nx ac s.tmps 1)))) (af (ah (vT (nx ac s.tmps 2)))) (af (ah (vT (nx ac s.tmps 7)))) (af (ah (vT (nx ac s.tmps 8)))) (af (nx .und (aj (nx .dead s.blks 0)) 0)) (af (nx .und (aj (nx .dead s.blks 0)) 1))
theorem LK (s : St) : aP (lA 0 0 0 0 0 0) s = zF lA s := by kernel_rfl
def E1 (N : Nat) : ax β := fun s K => cond (aJ (lA 0 0 0 0 0 0) s) (zF (fun v0 v1 v2 v3 v4 v5 => afC N v0 v1 v2 v3 v4 v5 (fun y0 => K .ret (oD y0)) (fun y0 => K (.exit 0) (oE y0))) s) (none)
def Uk (N : Nat) : ax β := E1 (pT N) N
def UP (N : Nat) : Env β := ⟨[], [], [(0, E1 afC N)], [], ⟨[], [], [], []⟩⟩
def E78 (N : Nat) : Env β := UP (pT N) N
theorem Jk (N : Nat) (v0 v1 v2 v3 v4 v5 : Int) (rec_ : St → O β) (K : Exit → St → O β) :
  stB lay (UP afC N) Tryz.f78 0 (lA v0 v1 v2 v3 v4 v5) rec_ K = Oq N v0 v1 v2 v3 v4 v5 (fun v0 v1 v2 v3 v4 v5 => rec_ (lA v0 v1 v2 v3 v4 v5)) (fun y0 => K .ret (oD y0)) (fun y0 => K (.exit 0) (oE y0)) := by kernel_rfl
theorem NH (N : Nat) (K : Exit → St → O β) : ∀ (F : Nat) (v0 v1 v2 v3 v4 v5 : Int), (lp Tryz.f78 0).rounds lay (E78 N) (ai Tryz.f78) F (lA v0 v1 v2 v3 v4 v5) K = pT N F v0 v1 v2 v3 v4 v5 (fun y0 => K .ret (oD y0)) (fun y0 => K (.exit 0) (oE y0)) := by
 intro F; induction F with
 | zero => intros; rfl
 | succ F ih => intros; rw [am]; refine (Jk (pT N) N _ _ _ _ _ _ (fun s => (lp Tryz.f78 0).rounds lay (E78 N) (ai Tryz.f78) F s K) K).trans ?_; simp only [ih]; rfl
theorem WE (N : Nat) : aS (E78 (β := β) N).loops (lp Tryz.f78 0).id = Uk N := by kernel_rfl
theorem XM (N : Nat) : ay lay (E78 (β := β) N) (ai Tryz.f78) (lp Tryz.f78 0) := rks (WE ..) (rc1 (fun s K hb => ⟨N, by rw [← ar hb, LK s]; unfold zF; exact NH N K N _ _ _ _ _ _⟩) rc0)
theorem Zo (N : Nat) (a0 a1 a2 a3 : Int) (K : TV → O β) : aL lay (UP afC N) Tryz.f78 [.v (.agg [.int .i64 a0, .int .i64 a1]), (Z' a2), (Z' a3)] K = Ot afC N a0 a1 a2 a3 (fun z4 => K ((Z' z4))) := by kernel_rfl
theorem o78 (N : Nat) : ao (β := β) inv Tryz.prog 78 (S78 N) := by
 refine ap au mixed (E := E78 N) (ae ag) ak av Tryz.func78 (by kernel_rfl) 1 (by kernel_rfl) ⟨trivial, XM N⟩ fun args K r h => ?_
 unfold S78 Qi at h
 split at h
 ·exact (Zo (pT N) N _ _ _ _ _).trans h
 ·cases h
def AR (N G : Nat) : Rv.Spec β := fun args K => match args with
 | [.v (.agg [.int .i64 a0, .int .i64 a1]), .v (.one (.int .i64 a2)), .v (.one (.int .i64 a3))] => aep G a0 a1 a2 a3 (fun z4 => K (.v (.one (.int .i64 z4))))
 | _ => none
def J4 (N G : Nat) : Rv.Spec β := AR (fY N) N G
def ac2 (N : Nat) : Rv.Spec β := AR aep N N
def S79 (N : Nat) : Rv.Spec β := J4 N N
def lC (v0 v1 v2 v3 v4 v5 : Int) : St := ⟨ac :: (Z' v0) :: (Z' v1) :: .v (.one (.ptr 0 0)) :: tn 3 ((Z' v2) :: (Z' v3) :: tn 37 []), [.cells 26 [.int .i64 v4, .int .i64 v5]]⟩
def oF (y0 : Int) : St := ⟨tn 7 ((Z' y0) :: tn 38 []), []⟩
def zG {γ : Type} (f : Int → Int → Int → Int → Int → Int → γ) (s : St) : γ := f (af (ah (vT (nx ac s.tmps 1)))) (af (ah (vT (nx ac s.tmps 2)))) (af (ah (vT (nx ac s.tmps 7)))) (af (ah (vT (nx ac s.tmps 8)))) (af (nx .und (aj (nx .dead s.blks 0)) 0)) (af (nx .und (aj (nx .dead s.blks 0)) 1))
theorem LL (s : St) : aP (lC 0 0 0 0 0 0) s = zG lC s := by kernel_rfl
def E2 (N G : Nat) : ax β := fun s K => cond (aJ (lC 0 0 0 0 0 0) s) (zG (fun v0 v1 v2 v3 v4 v5 => afD (aep G) N v0 v1 v2 v3 v4 v5 (fun y0 => K (.exit 0) (oF y0))) s) (none)
def Ul (N G : Nat) : ax β := E2 (mg N) (fY N) N G
def UQ (N G : Nat) : Env β := ⟨[(78, Qi aey N), (79, AR aep N G)], [], [(0, E2 afD aep N G)], [], ⟨[], [], [], []⟩⟩
def E79 (N G : Nat) : Env β := UQ (km N) (mg N) (fY N) N G
theorem Jl (N G : Nat) (v0 v1 v2 v3 v4 v5 : Int) (rec_ : St → O β) (K : Exit → St → O β) :
  stB lay (UQ aey afD aep N G) Tryz.f79 0 (lC v0 v1 v2 v3 v4 v5) rec_ K = Gw N (aep G) v0 v1 v2 v3 v4 v5 (fun v0 v1 v2 v3 v4 v5 => rec_ (lC v0 v1 v2 v3 v4 v5)) (fun y0 => K (.exit 0) (oF y0)) := by kernel_rfl
theorem NI (N G : Nat) (K : Exit → St → O β) : ∀ (F : Nat) (v0 v1 v2 v3 v4 v5 : Int), (lp Tryz.f79 0).rounds lay (E79 N G) (ai Tryz.f79) F (lC v0 v1 v2 v3 v4 v5) K = mg N (fY N G) F v0 v1 v2 v3 v4 v5 (fun y0 => K (.exit 0) (oF y0)) := by
 intro F; induction F with
 | zero => intros; rfl
 | succ F ih => intros; rw [am]; refine (Jl (km N) (mg N) (fY N) N G _ _ _ _ _ _ (fun s => (lp Tryz.f79 0).rounds lay (E79 N G) (ai Tryz.f79) F s K) K).trans ?_; simp only [ih]; rfl
theorem WF (N G : Nat) : aS (E79 (β := β) N G).loops (lp Tryz.f79 0).id = Ul N G := by kernel_rfl
theorem XN (N G : Nat) : ay lay (E79 (β := β) N G) (ai Tryz.f79) (lp Tryz.f79 0) := rks (WF ..) (rc1 (fun s K hb => ⟨N, by rw [← ar hb, LL s]; unfold zG; exact NI N _ K N _ _ _ _ _ _⟩) rc0)
theorem Zp (N G : Nat) (a0 a1 a2 a3 : Int) (K : TV → O β) : aL lay (UQ aey afD aep N G) Tryz.f79 [.v (.agg [.int .i64 a0, .int .i64 a1]), (Z' a2), (Z' a3)] K = Ou aey afD N (aep G) a0 a1 a2 a3 (fun z4 => K ((Z' z4))) := by kernel_rfl
theorem z79 (N : Nat) : ∀ args K r, J4 (β := β) N 0 args K = some r → (none : O β) = some r := by
 intro args K r h
 unfold J4 AR at h
 split at h <;> exact h
theorem adG (N : Nat) : ∀ G, ao (β := β) inv Tryz.prog 79 (J4 N G) := by
 intro G
 induction G with
 | zero => exact dG Tryz.func79 (by kernel_rfl) (z79 N)
 | succ G ih =>
  refine ap au mixed (E := E79 N G) (ae (aa (o78 N) (aa ih ag))) ak av Tryz.func79 (by kernel_rfl) 1 (by kernel_rfl) ⟨trivial, XN N G⟩ fun args K r h => ?_
  unfold J4 AR at h
  split at h
  ·exact (Zp (km N) (mg N) (fY N) N G _ _ _ _ _).trans h
  ·cases h
theorem o79 (N : Nat) : ao (β := β) inv Tryz.prog 79 (S79 N) := adG N N
end Go.Proofs.YtmhlcbibbhelkaaGreatDoor
