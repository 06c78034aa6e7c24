/- The functions that the claims cZ bz as their texts do. -/
import Derived.Test.YtmhlcbibbhelkaaGreatDoorE1
namespace Go.Proofs.YtmhlcbibbhelkaaGreatDoor
set_option linter.unusedSimpArgs false
open Go.Rv
set_option maxRecDepth 100000
set_option maxHeartbeats 2000000
set_option linter.unusedVariables false
variable {β : Type}
variable (adV aed : Y4 β) (aee : Y26 β) (aer : Y28 β) (aeC : Y2 β) (ad5 : Y0 β) (agc : Y32 β) (aeI : Y31 β) (agd : Y33 β) (age : Y28 β) (agf : Y34 β) (aes : Y10 β) (agh : Y36 β) (agi : Y35 β) (agj : Y37 β) (aeh : Y3 β)
def P6 (N : Nat) : Rv.Spec β := fun args K => match args with
 | [.v (.agg [.int .i64 a0, .int .i64 a1])] => aeI a0 a1 (fun z2 => K (.v (.one (.str z2))))
 | _ => none
def S19 (N : Nat) : Rv.Spec β := P6 (qV N) N
def kL (v0 : ByteArray) (v1 v2 v3 v4 : Int) : St := ⟨ac :: .v (.one (.ptr 0 0)) :: ac :: .v (.one (.str v0)) :: (Z' v1) :: (Z' v2) :: tn 32 [], [.cells 26 [.int .i64 v3, .int .i64 v4]]⟩
def np (y0 : ByteArray) : St := ⟨tn 3 (.v (.one (.str y0)) :: tn 34 []), []⟩
def yT {γ : Type} (f : ByteArray → Int → Int → Int → Int → γ) (s : St) : γ := f (dV (ah (vT (nx ac s.tmps 3)))) (af (ah (vT (nx ac s.tmps 4)))) (af (ah (vT (nx ac s.tmps 5)))) (af (nx .und (aj (nx .dead s.blks 0)) 0)) (af (nx .und (aj (nx .dead s.blks 0)) 1))
theorem K3 (s : St) : aP (kL ByteArray.empty 0 0 0 0) s = yT kL s := by kernel_rfl
def EB (N : Nat) : ax β := fun s K => cond (aJ (kL ByteArray.empty 0 0 0 0) s) (yT (fun v0 v1 v2 v3 v4 => agc N v0 v1 v2 v3 v4 (fun y0 => K (.exit 0) (np y0))) s) (none)
def TT (N : Nat) : ax β := EB (vu N) N
def Uw (N : Nat) : Env β := ⟨[(17, AE ad5 N), (38, Qa aeC N), (46, Kr aee N)], [], [(0, EB agc N)], [], ⟨[], [], [], []⟩⟩
def E19 (N : Nat) : Env β := Uw (iw N) (p8 N) (eU N) (vu N) N
theorem ID (N : Nat) (v0 : ByteArray) (v1 v2 v3 v4 : Int) (rec_ : St → O β) (K : Exit → St → O β) :
  stB lay (Uw aee aeC ad5 agc N) Tryz.f19 0 (kL v0 v1 v2 v3 v4) rec_ K = Sn aee N v0 v1 v2 v3 v4 (fun v0 v1 v2 v3 v4 => rec_ (kL v0 v1 v2 v3 v4)) (fun y0 => K (.exit 0) (np y0)) := by kernel_rfl
theorem MZ (N : Nat) (K : Exit → St → O β) : ∀ (F : Nat) (v0 : ByteArray) (v1 v2 v3 v4 : Int), (lp Tryz.f19 0).rounds lay (E19 N) (ai Tryz.f19) F (kL v0 v1 v2 v3 v4) K = vu N F v0 v1 v2 v3 v4 (fun y0 => K (.exit 0) (np y0)) := by
 intro F; induction F with
 | zero => intros; rfl
 | succ F ih => intros; rw [am]; refine (ID (iw N) (p8 N) (eU N) (vu N) N _ _ _ _ _ (fun s => (lp Tryz.f19 0).rounds lay (E19 N) (ai Tryz.f19) F s K) K).trans ?_; simp only [ih]; rfl
theorem V2 (N : Nat) : aS (E19 (β := β) N).loops (lp Tryz.f19 0).id = TT N := by kernel_rfl
theorem Xb (N : Nat) : ay lay (E19 (β := β) N) (ai Tryz.f19) (lp Tryz.f19 0) := rks (V2 ..) (rc1 (fun s K hb => ⟨N, by rw [← ar hb, K3 s]; unfold yT; exact MZ N K N _ _ _ _ _⟩) rc0)
theorem Yf (N : Nat) (a0 a1 : Int) (K : TV → O β) : aL lay (Uw aee aeC ad5 agc N) Tryz.f19 [.v (.agg [.int .i64 a0, .int .i64 a1])] K = ZW aeC ad5 agc N a0 a1 (fun z2 => K (.v (.one (.str z2)))) := by kernel_rfl
theorem o19 (N : Nat) : ao (β := β) inv Tryz.prog 19 (S19 N) := by
 refine ap au mixed (E := E19 N) (ae (aa (o17 N) (aa (o38 N) (aa (o46 N) ag)))) ak av Tryz.func19 (by kernel_rfl) 1 (by kernel_rfl) ⟨trivial, Xb N⟩ fun args K r h => ?_
 unfold S19 P6 at h
 split at h
 ·exact (Yf (iw N) (p8 N) (eU N) (vu N) N _ _ _).trans h
 ·cases h
def UX (N : Nat) : Rv.Spec β := fun args K => match args with
 | [.v (.one (.int .i64 a0)), .v (.one (.str a1))] => age a0 a1 (fun z2 z3 z4 => K (.tup [.agg [.int .i64 z2, .int .i64 z3], .one (.bool z4)]))
 | _ => none
def S12 (N : Nat) : Rv.Spec β := UX (vv N) N
def kF (v0 : Int) (v1 : ByteArray) (v2 : Int) (v3 : ByteArray) (v4 v5 v6 : Int) : St := ⟨(Z' v0) :: .v (.one (.str v1)) :: ac :: ac :: .v (.one (.ptr 0 0)) :: ac :: (Z' v2) :: .v (.one (.str v3)) :: (Z' v4) :: tn 72 [], [.cells 26 [.int .i64 v5, .int .i64 v6]]⟩
def na (y0 : Bool) (y1 y2 : Int) : St := ⟨tn 4 (.v (.one (.ptr 0 0)) :: .v (.one (.bool y0)) :: tn 75 []), [.cells 26 [.int .i64 y1, .int .i64 y2]]⟩
def nb (y0 : Int) (y1 : ByteArray) (y2 y3 y4 : Int) : St := ⟨(Z' y0) :: .v (.one (.str y1)) :: ac :: ac :: .v (.one (.ptr 0 0)) :: ac :: (Z' y2) :: tn 74 [], [.cells 26 [.int .i64 y3, .int .i64 y4]]⟩
def yN {γ : Type} (f : Int → ByteArray → Int → ByteArray → Int → Int → Int → γ) (s : St) : γ := f (af (ah (vT (nx ac s.tmps 0)))) (dV (ah (vT (nx ac s.tmps 1)))) (af (ah (vT (nx ac s.tmps 6)))) (dV (ah (vT (nx ac s.tmps 7)))) (af (ah (vT (nx ac s.tmps 8)))) (af (nx .und (aj (nx .dead s.blks 0)) 0)) (af (nx .und (aj (nx .dead s.blks 0)) 1))
theorem KU (s : St) : aP (kF 0 ByteArray.empty 0 ByteArray.empty 0 0 0) s = yN kF s := by kernel_rfl
def Ev (N : Nat) : ax β := fun s K => cond (aJ (kF 0 ByteArray.empty 0 ByteArray.empty 0 0 0) s) (yN (fun v0 v1 v2 v3 v4 v5 v6 => agd N v0 v1 v2 v3 v4 v5 v6 (fun y0 y1 y2 => K .ret (na y0 y1 y2)) (fun y0 y1 y2 y3 y4 => K (.exit 0) (nb y0 y1 y2 y3 y4))) s) (none)
def TN (N : Nat) : ax β := Ev (jx N) N
def Us (N : Nat) : Env β := ⟨[(10, qb adV N), (37, P9 aer N), (38, Qa aeC N), (19, P6 aeI N)], [], [(0, Ev agd N)], [], ⟨[], [], [], []⟩⟩
def E12 (N : Nat) : Env β := Us (bK N) (oL N) (p8 N) (qV N) (jx N) N
theorem Iv (N : Nat) (v0 : Int) (v1 : ByteArray) (v2 : Int) (v3 : ByteArray) (v4 v5 v6 : Int) (rec_ : St → O β) (K : Exit → St → O β) :
  stB lay (Us adV aer aeC aeI agd N) Tryz.f12 0 (kF v0 v1 v2 v3 v4 v5 v6) rec_ K = Js aer N v0 v1 v2 v3 v4 v5 v6 (fun v0 v1 v2 v3 v4 v5 v6 => rec_ (kF v0 v1 v2 v3 v4 v5 v6)) (fun y0 y1 y2 => K .ret (na y0 y1 y2)) (fun y0 y1 y2 y3 y4 => K (.exit 0) (nb y0 y1 y2 y3 y4)) := by kernel_rfl
theorem MQ (N : Nat) (K : Exit → St → O β) : ∀ (F : Nat) (v0 : Int) (v1 : ByteArray) (v2 : Int) (v3 : ByteArray) (v4 v5 v6 : Int), (lp Tryz.f12 0).rounds lay (E12 N) (ai Tryz.f12) F (kF v0 v1 v2 v3 v4 v5 v6) K = jx N F v0 v1 v2 v3 v4 v5 v6 (fun y0 y1 y2 => K .ret (na y0 y1 y2)) (fun y0 y1 y2 y3 y4 => K (.exit 0) (nb y0 y1 y2 y3 y4)) := by
 intro F; induction F with
 | zero => intros; rfl
 | succ F ih => intros; rw [am]; refine (Iv (bK N) (oL N) (p8 N) (qV N) (jx N) N _ _ _ _ _ _ _ (fun s => (lp Tryz.f12 0).rounds lay (E12 N) (ai Tryz.f12) F s K) K).trans ?_; simp only [ih]; rfl
theorem VU (N : Nat) : aS (E12 (β := β) N).loops (lp Tryz.f12 0).id = TN N := by kernel_rfl
theorem W3 (N : Nat) : ay lay (E12 (β := β) N) (ai Tryz.f12) (lp Tryz.f12 0) := rks (VU ..) (rc1 (fun s K hb => ⟨N, by rw [← ar hb, KU s]; unfold yN; exact MQ N K N _ _ _ _ _ _ _⟩) rc0)
theorem X7 (N : Nat) (a0 : Int) (a1 : ByteArray) (K : TV → O β) : aL lay (Us adV aer aeC aeI agd N) Tryz.f12 [(Z' a0), .v (.one (.str a1))] K = O9 adV aeC aeI agd N a0 a1 (fun z2 z3 z4 => K (.tup [.agg [.int .i64 z2, .int .i64 z3], .one (.bool z4)])) := by kernel_rfl
theorem o12 (N : Nat) : ao (β := β) inv Tryz.prog 12 (S12 N) := by
 refine ap au mixed (E := E12 N) (ae (aa (o10 N) (aa (o37 N) (aa (o38 N) (aa (o19 N) ag))))) ak av Tryz.func12 (by kernel_rfl) 1 (by kernel_rfl) ⟨trivial, W3 N⟩ fun args K r h => ?_
 unfold S12 UX at h
 split at h
 ·exact (X7 (bK N) (oL N) (p8 N) (qV N) (jx N) N _ _ _).trans h
 ·cases h
def Qb (N : Nat) : Rv.Spec β := fun args K => match args with
 | [.v (.one (.int .i64 a0)), .v (.one (.sl 46 (.pairs a1)))] => aes a0 a1 (fun z2 => K (.v (.one (.bool z2))))
 | _ => none
def S39 (N : Nat) : Rv.Spec β := Qb (oM N) N
def kW (v0 : Int) (v1 : List (Int × Int)) (v2 : Int) : St := ⟨(Z' v0) :: .v (.one (.sl 46 (.pairs v1))) :: tn 3 ((Z' v2) :: tn 20 []), []⟩
def nL (y0 : Bool) : St := ⟨tn 4 (.v (.one (.bool y0)) :: tn 21 []), []⟩
def nM (y0 : Int) (y1 : List (Int × Int)) : St := ⟨(Z' y0) :: .v (.one (.sl 46 (.pairs y1))) :: tn 24 [], []⟩
def zi {γ : Type} (f : Int → (List (Int × Int)) → Int → γ) (s : St) : γ := f (af (ah (vT (nx ac s.tmps 0)))) (bc (bF (ah (vT (nx ac s.tmps 1))))) (af (ah (vT (nx ac s.tmps 5))))
theorem Li (s : St) : aP (kW 0 [] 0) s = zi kW s := by kernel_rfl
def EM (N : Nat) : ax β := fun s K => cond (aJ (kW 0 [] 0) s) (zi (fun v0 v1 v2 => agf N v0 v1 v2 (fun y0 => K .ret (nL y0)) (fun y0 y1 => K (.exit 0) (nM y0 y1))) s) (none)
def T5 (N : Nat) : ax β := EM (vA N) N
def UF (N : Nat) : Env β := ⟨[(40, Kp aed N), (10, qb adV N)], [], [(0, EM agf N)], [], ⟨[], [], [], []⟩⟩
def E39 (N : Nat) : Env β := UF (bK N) (jl N) (vA N) N
theorem IS (N : Nat) (v0 : Int) (v1 : List (Int × Int)) (v2 : Int) (rec_ : St → O β) (K : Exit → St → O β) :
  stB lay (UF adV aed agf N) Tryz.f39 0 (kW v0 v1 v2) rec_ K = So aed N v0 v1 v2 (fun v0 v1 v2 => rec_ (kW v0 v1 v2)) (fun y0 => K .ret (nL y0)) (fun y0 y1 => K (.exit 0) (nM y0 y1)) := by kernel_rfl
theorem Nd (N : Nat) (K : Exit → St → O β) : ∀ (F : Nat) (v0 : Int) (v1 : List (Int × Int)) (v2 : Int), (lp Tryz.f39 0).rounds lay (E39 N) (ai Tryz.f39) F (kW v0 v1 v2) K = vA N F v0 v1 v2 (fun y0 => K .ret (nL y0)) (fun y0 y1 => K (.exit 0) (nM y0 y1)) := by
 intro F; induction F with
 | zero => intros; rfl
 | succ F ih => intros; rw [am]; refine (IS (bK N) (jl N) (vA N) N _ _ _ (fun s => (lp Tryz.f39 0).rounds lay (E39 N) (ai Tryz.f39) F s K) K).trans ?_; simp only [ih]; rfl
theorem Wh (N : Nat) : aS (E39 (β := β) N).loops (lp Tryz.f39 0).id = T5 N := by kernel_rfl
theorem Xp (N : Nat) : ay lay (E39 (β := β) N) (ai Tryz.f39) (lp Tryz.f39 0) := rks (Wh ..) (rc1 (fun s K hb => ⟨N, by rw [← ar hb, Li s]; unfold zi; exact Nd N K N _ _ _⟩) rc0)
theorem Yz (N : Nat) (a0 : Int) (a1 : List (Int × Int)) (K : TV → O β) : aL lay (UF adV aed agf N) Tryz.f39 [(Z' a0), .v (.one (.sl 46 (.pairs a1)))] K = ZX adV agf N a0 a1 (fun z2 => K (.v (.one (.bool z2)))) := by kernel_rfl
theorem o39 (N : Nat) : ao (β := β) inv Tryz.prog 39 (S39 N) := by
 refine ap au mixed (E := E39 N) (ae (aa (o40 N) (aa (o10 N) ag))) ak av Tryz.func39 (by kernel_rfl) 1 (by kernel_rfl) ⟨trivial, Xp N⟩ fun args K r h => ?_
 unfold S39 Qb at h
 split at h
 ·exact (Yz (bK N) (jl N) (vA N) N _ _ _).trans h
 ·cases h
def UY (N : Nat) : Rv.Spec β := fun args K => match args with
 | [.v (.one (.int .i64 a0)), .v (.one (.str a1))] => agi a0 a1 (fun z2 z3 => K (.tup [.one (.sl 46 (.pairs z2)), .one (.bool z3)]))
 | _ => none
def S13 (N : Nat) : Rv.Spec β := UY (uR N) N
def kG (v0 : Int) (v1 v2 : ByteArray) (v3 : Int) (v4 : List (Int × Int)) : St := ⟨(Z' v0) :: .v (.one (.str v1)) :: tn 4 (.v (.one (.row 0)) :: .v (.one (.str v2)) :: (Z' v3) :: tn 60 []), [.row 46 (.pairs v4)]⟩
def nc (y0 : Bool) (y1 : List (Int × Int)) : St := ⟨tn 4 (.v (.one (.row 0)) :: .v (.one (.bool y0)) :: tn 63 []), [.row 46 (.pairs y1)]⟩
def nd (y0 : Int) (y1 : ByteArray) (y2 : List (Int × Int)) : St := ⟨(Z' y0) :: .v (.one (.str y1)) :: tn 4 (.v (.one (.row 0)) :: tn 62 []), [.row 46 (.pairs y2)]⟩
def yO {γ : Type} (f : Int → ByteArray → ByteArray → Int → (List (Int × Int)) → γ) (s : St) : γ := f (af (ah (vT (nx ac s.tmps 0)))) (dV (ah (vT (nx ac s.tmps 1)))) (dV (ah (vT (nx ac s.tmps 7)))) (af (ah (vT (nx ac s.tmps 8)))) (bc (bh (nx .dead s.blks 0)))
theorem KV (s : St) : aP (kG 0 ByteArray.empty ByteArray.empty 0 []) s = yO kG s := by kernel_rfl
def Ew (N : Nat) : ax β := fun s K => cond (aJ (kG 0 ByteArray.empty ByteArray.empty 0 []) s) (yO (fun v0 v1 v2 v3 v4 => agh N v0 v1 v2 v3 v4 (fun y0 y1 => K .ret (nc y0 y1)) (fun y0 y1 y2 => K (.exit 0) (nd y0 y1 y2))) s) (none)
def TO (N : Nat) : ax β := Ew (p9 N) N
def Ut (N : Nat) : Env β := ⟨[(10, qb adV N), (37, P9 aer N), (39, Qb aes N)], [], [(0, Ew agh N)], [], ⟨[], [], [], []⟩⟩
def E13 (N : Nat) : Env β := Ut (bK N) (oL N) (oM N) (p9 N) N
theorem Iw (N : Nat) (v0 : Int) (v1 v2 : ByteArray) (v3 : Int) (v4 : List (Int × Int)) (rec_ : St → O β) (K : Exit → St → O β) :
  stB lay (Ut adV aer aes agh N) Tryz.f13 0 (kG v0 v1 v2 v3 v4) rec_ K = Jt aer N v0 v1 v2 v3 v4 (fun v0 v1 v2 v3 v4 => rec_ (kG v0 v1 v2 v3 v4)) (fun y0 y1 => K .ret (nc y0 y1)) (fun y0 y1 y2 => K (.exit 0) (nd y0 y1 y2)) := by kernel_rfl
theorem MR (N : Nat) (K : Exit → St → O β) : ∀ (F : Nat) (v0 : Int) (v1 v2 : ByteArray) (v3 : Int) (v4 : List (Int × Int)), (lp Tryz.f13 0).rounds lay (E13 N) (ai Tryz.f13) F (kG v0 v1 v2 v3 v4) K = p9 N F v0 v1 v2 v3 v4 (fun y0 y1 => K .ret (nc y0 y1)) (fun y0 y1 y2 => K (.exit 0) (nd y0 y1 y2)) := by
 intro F; induction F with
 | zero => intros; rfl
 | succ F ih => intros; rw [am]; refine (Iw (bK N) (oL N) (oM N) (p9 N) N _ _ _ _ _ (fun s => (lp Tryz.f13 0).rounds lay (E13 N) (ai Tryz.f13) F s K) K).trans ?_; simp only [ih]; rfl
theorem VV (N : Nat) : aS (E13 (β := β) N).loops (lp Tryz.f13 0).id = TO N := by kernel_rfl
theorem W4 (N : Nat) : ay lay (E13 (β := β) N) (ai Tryz.f13) (lp Tryz.f13 0) := rks (VV ..) (rc1 (fun s K hb => ⟨N, by rw [← ar hb, KV s]; unfold yO; exact MR N K N _ _ _ _ _⟩) rc0)
theorem X8 (N : Nat) (a0 : Int) (a1 : ByteArray) (K : TV → O β) : aL lay (Ut adV aer aes agh N) Tryz.f13 [(Z' a0), .v (.one (.str a1))] K = Pa adV aes agh N a0 a1 (fun z2 z3 => K (.tup [.one (.sl 46 (.pairs z2)), .one (.bool z3)])) := by kernel_rfl
theorem o13 (N : Nat) : ao (β := β) inv Tryz.prog 13 (S13 N) := by
 refine ap au mixed (E := E13 N) (ae (aa (o10 N) (aa (o37 N) (aa (o39 N) ag)))) ak av Tryz.func13 (by kernel_rfl) 1 (by kernel_rfl) ⟨trivial, W4 N⟩ fun args K r h => ?_
 unfold S13 UY at h
 split at h
 ·exact (X8 (bK N) (oL N) (oM N) (p9 N) N _ _ _).trans h
 ·cases h
def Kq (N : Nat) : Rv.Spec β := fun args K => match args with
 | [.v (.one (.int .i64 a0)), .v (.agg [.int .i64 a1, .int .i64 a2])] => aeh a0 a1 a2 (fun z3 => K (.v (.one (.int .i64 z3))))
 | _ => none
def S41 (N : Nat) : Rv.Spec β := Kq (oN N) N
def kX (v0 v1 v2 v3 v4 : Int) : St := ⟨(Z' v0) :: ac :: ac :: .v (.one (.ptr 0 0)) :: ac :: (Z' v1) :: (Z' v2) :: tn 18 [], [.cells 46 [.int .i64 v3, .int .i64 v4]]⟩
def nN (y0 : Int) : St := ⟨tn 5 ((Z' y0) :: tn 19 []), []⟩
def zj {γ : Type} (f : Int → Int → Int → Int → Int → γ) (s : St) : γ := f (af (ah (vT (nx ac s.tmps 0)))) (af (ah (vT (nx ac s.tmps 5)))) (af (ah (vT (nx ac s.tmps 6)))) (af (nx .und (aj (nx .dead s.blks 0)) 0)) (af (nx .und (aj (nx .dead s.blks 0)) 1))
theorem Lj (s : St) : aP (kX 0 0 0 0 0) s = zj kX s := by kernel_rfl
def EN (N : Nat) : ax β := fun s K => cond (aJ (kX 0 0 0 0 0) s) (zj (fun v0 v1 v2 v3 v4 => agj N v0 v1 v2 v3 v4 (fun y0 => K (.exit 0) (nN y0))) s) (none)
def T6 (N : Nat) : ax β := EN (vB N) N
def UG (N : Nat) : Env β := ⟨[], [], [(0, EN agj N)], [], ⟨[], [], [], []⟩⟩
def E41 (N : Nat) : Env β := UG (vB N) N
theorem IT (N : Nat) (v0 v1 v2 v3 v4 : Int) (rec_ : St → O β) (K : Exit → St → O β) :
  stB lay (UG agj N) Tryz.f41 0 (kX v0 v1 v2 v3 v4) rec_ K = Sp N v0 v1 v2 v3 v4 (fun v0 v1 v2 v3 v4 => rec_ (kX v0 v1 v2 v3 v4)) (fun y0 => K (.exit 0) (nN y0)) := by kernel_rfl
theorem Nf (N : Nat) (K : Exit → St → O β) : ∀ (F : Nat) (v0 v1 v2 v3 v4 : Int), (lp Tryz.f41 0).rounds lay (E41 N) (ai Tryz.f41) F (kX v0 v1 v2 v3 v4) K = vB N F v0 v1 v2 v3 v4 (fun y0 => K (.exit 0) (nN y0)) := by
 intro F; induction F with
 | zero => intros; rfl
 | succ F ih => intros; rw [am]; refine (IT (vB N) N _ _ _ _ _ (fun s => (lp Tryz.f41 0).rounds lay (E41 N) (ai Tryz.f41) F s K) K).trans ?_; simp only [ih]; rfl
theorem Wi (N : Nat) : aS (E41 (β := β) N).loops (lp Tryz.f41 0).id = T6 N := by kernel_rfl
theorem Xq (N : Nat) : ay lay (E41 (β := β) N) (ai Tryz.f41) (lp Tryz.f41 0) := rks (Wi ..) (rc1 (fun s K hb => ⟨N, by rw [← ar hb, Lj s]; unfold zj; exact Nf N K N _ _ _ _ _⟩) rc0)
theorem YB (N : Nat) (a0 a1 a2 : Int) (K : TV → O β) : aL lay (UG agj N) Tryz.f41 [(Z' a0), .v (.agg [.int .i64 a1, .int .i64 a2])] K = ZY agj N a0 a1 a2 (fun z3 => K ((Z' z3))) := by kernel_rfl
theorem o41 (N : Nat) : ao (β := β) inv Tryz.prog 41 (S41 N) := by
 refine ap au mixed (E := E41 N) (ae ag) ak av Tryz.func41 (by kernel_rfl) 1 (by kernel_rfl) ⟨trivial, Xq N⟩ fun args K r h => ?_
 unfold S41 Kq at h
 split at h
 ·exact (YB (vB N) N _ _ _ _).trans h
 ·cases h
end Go.Proofs.YtmhlcbibbhelkaaGreatDoor
