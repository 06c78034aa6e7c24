/- The functions that the claims cZ bz as their texts do. -/
import Derived.Test.YtmhlcbibbhelkaaGreatDoorSizU
namespace Go.Proofs.YtmhlcbibbhelkaaGreatDoor
set_option linter.unusedSimpArgs false
open Go.Rv
set_option maxRecDepth 100000
set_option maxHeartbeats 2000000
set_option linter.unusedVariables false
variable {β : Type}
variable (adV : Y4 β) (afi : Y25 β) (afj : Y24 β) (af8 : Y23 β) (aed : Y4 β) (af9 : Y27 β) (aee : Y26 β) (aga : Y29 β) (aer : Y28 β) (afk : Y30 β) (afl : Y19 β) (aeC : Y2 β) (ad5 : Y0 β)
def qb (N : Nat) : Rv.Spec β := fun args K => match args with
 | [.v (.one (.int .i64 a0)), .v (.one (.int .i64 a1)), .v (.one (.int .i64 a2))] => adV a0 a1 a2 (fun z3 => K (.v (.one (.bool z3))))
 | _ => none
def S10 (N : Nat) : Rv.Spec β := qb (bK N) N
def aaC (N : Nat) : Env β := ⟨[], [], [], [], ⟨[], [], [], []⟩⟩
def E10 (N : Nat) : Env β := aaC N
theorem X5 (N : Nat) (a0 a1 a2 : Int) (K : TV → O β) : aL lay (aaC N) Tryz.f10 [(Z' a0), (Z' a1), (Z' a2)] K = Sf N a0 a1 a2 (fun z3 => K (.v (.one (.bool z3)))) := by kernel_rfl
theorem o10 (N : Nat) : ao (β := β) inv Tryz.prog 10 (S10 N) := by
 refine ap au mixed (E := E10 N) (ae ag) ak av Tryz.func10 (by kernel_rfl) 0 (by kernel_rfl) trivial fun args K r h => ?_
 unfold S10 qb at h
 split at h
 ·exact (X5 N _ _ _ _).trans h
 ·cases h
def UW (N : Nat) : Rv.Spec β := fun args K => match args with
 | [.v (.one (.str a0))] => af8 a0 (fun z1 z2 z3 => K (.tup [.agg [.int .i64 z1, .int .i64 z2], .one (.bool z3)]))
 | _ => none
def S11 (N : Nat) : Rv.Spec β := UW (C5 N) N
def kE (v0 : ByteArray) (v1 v2 v3 : Int) : St := ⟨.v (.one (.str v0)) :: ac :: .v (.one (.ptr 0 0)) :: ac :: (Z' v1) :: tn 33 [], [.cells 26 [.int .i64 v2, .int .i64 v3]]⟩
def m6 (y0 : Bool) (y1 y2 : Int) : St := ⟨ac :: ac :: .v (.one (.ptr 0 0)) :: .v (.one (.bool y0)) :: tn 34 [], [.cells 26 [.int .i64 y1, .int .i64 y2]]⟩
def m7 (y0 y1 : Int) : St := ⟨ac :: ac :: .v (.one (.ptr 0 0)) :: tn 35 [], [.cells 26 [.int .i64 y0, .int .i64 y1]]⟩
def iG (v0 : ByteArray) (v1 v2 v3 v4 v5 : Int) : St := ⟨.v (.one (.str v0)) :: ac :: .v (.one (.ptr 0 0)) :: ac :: (Z' v1) :: (Z' v2) :: (Z' v3) :: tn 31 [], [.cells 26 [.int .i64 v4, .int .i64 v5]]⟩
def m8 (y0 : Bool) (y1 y2 : Int) : St := ⟨ac :: ac :: .v (.one (.ptr 0 0)) :: .v (.one (.bool y0)) :: tn 34 [], [.cells 26 [.int .i64 y1, .int .i64 y2]]⟩
def m9 (y0 y1 y2 y3 : Int) : St := ⟨ac :: ac :: .v (.one (.ptr 0 0)) :: ac :: (Z' y0) :: (Z' y1) :: tn 32 [], [.cells 26 [.int .i64 y2, .int .i64 y3]]⟩
def yM {γ : Type} (f : ByteArray → Int → Int → Int → γ) (s : St) : γ := f (dV (ah (vT (nx ac s.tmps 0)))) (af (ah (vT (nx ac s.tmps 4)))) (af (nx .und (aj (nx .dead s.blks 0)) 0)) (af (nx .und (aj (nx .dead s.blks 0)) 1))
theorem KS (s : St) : aP (kE ByteArray.empty 0 0 0) s = yM kE s := by kernel_rfl
def Eu (N : Nat) : ax β := fun s K => cond (aJ (kE ByteArray.empty 0 0 0) s) (yM (fun v0 v1 v2 v3 => afj N v0 v1 v2 v3 (fun y0 y1 y2 => K .ret (m6 y0 y1 y2)) (fun y0 y1 => K (.exit 0) (m7 y0 y1))) s) (none)
def TM (N : Nat) : ax β := Eu (oK N) N
def Q5 {γ : Type} (f : ByteArray → Int → Int → Int → Int → Int → γ) (s : St) : γ := f (dV (ah (vT (nx ac s.tmps 0)))) (af (ah (vT (nx ac s.tmps 4)))) (af (ah (vT (nx ac s.tmps 5)))) (af (ah (vT (nx ac s.tmps 6)))) (af (nx .und (aj (nx .dead s.blks 0)) 0)) (af (nx .und (aj (nx .dead s.blks 0)) 1))
theorem KT (s : St) : aP (iG ByteArray.empty 0 0 0 0 0) s = Q5 iG s := by kernel_rfl
def xE (N : Nat) : ax β := fun s K => cond (aJ (iG ByteArray.empty 0 0 0 0 0) s) ((fun (v0 : ByteArray) (v1 v2 v3 v4 v5 : Int) => afi N v0 v1 v2 v3 v4 v5 (fun y0 y1 y2 => K .ret (m8 y0 y1 y2)) (fun y0 y1 y2 y3 => K (.exit 2) (m9 y0 y1 y2 y3))) (dV (ah (vT (nx ac s.tmps 0)))) (af (ah (vT (nx ac s.tmps 4)))) (af (ah (vT (nx ac s.tmps 5)))) (af (ah (vT (nx ac s.tmps 6)))) (af (nx .und (aj (nx .dead s.blks 0)) 0)) (af (nx .und (aj (nx .dead s.blks 0)) 1))) (none)
def JE (N : Nat) : ax β := xE (rL N) N
def P0 (N : Nat) : Env β := ⟨[], [], [(0, Eu afj N), (2, xE afi N)], [], ⟨[], [], [], []⟩⟩
def E11 (N : Nat) : Env β := P0 (rL N) (oK N) N
theorem It (N : Nat) (v0 : ByteArray) (v1 v2 v3 : Int) (rec_ : St → O β) (K : Exit → St → O β) :
  stB lay (P0 afi afj N) Tryz.f11 0 (kE v0 v1 v2 v3) rec_ K = O8 afi N v0 v1 v2 v3 (fun v0 v1 v2 v3 => rec_ (kE v0 v1 v2 v3)) (fun y0 y1 y2 => K .ret (m6 y0 y1 y2)) (fun y0 y1 => K (.exit 0) (m7 y0 y1)) := by kernel_rfl
theorem MO (N : Nat) (K : Exit → St → O β) : ∀ (F : Nat) (v0 : ByteArray) (v1 v2 v3 : Int), (lp Tryz.f11 0).rounds lay (E11 N) (ai Tryz.f11) F (kE v0 v1 v2 v3) K = oK N F v0 v1 v2 v3 (fun y0 y1 y2 => K .ret (m6 y0 y1 y2)) (fun y0 y1 => K (.exit 0) (m7 y0 y1)) := by
 intro F; induction F with
 | zero => intros; rfl
 | succ F ih => intros; rw [am]; refine (It (rL N) (oK N) N _ _ _ _ (fun s => (lp Tryz.f11 0).rounds lay (E11 N) (ai Tryz.f11) F s K) K).trans ?_; simp only [ih]; rfl
theorem VS (N : Nat) : aS (E11 (β := β) N).loops (lp Tryz.f11 0).id = TM N := by kernel_rfl
theorem W1 (N : Nat) : ay lay (E11 (β := β) N) (ai Tryz.f11) (lp Tryz.f11 0) := rks (VS ..) (rc1 (fun s K hb => ⟨N, by rw [← ar hb, KS s]; unfold yM; exact MO N K N _ _ _ _⟩) rc0)
theorem Iu (N : Nat) (v0 : ByteArray) (v1 v2 v3 v4 v5 : Int) (rec_ : St → O β) (K : Exit → St → O β) :
  stB lay (P0 afi afj N) Tryz.f11 1 (iG v0 v1 v2 v3 v4 v5) rec_ K = Sg N v0 v1 v2 v3 v4 v5 (fun v0 v1 v2 v3 v4 v5 => rec_ (iG v0 v1 v2 v3 v4 v5)) (fun y0 y1 y2 => K .ret (m8 y0 y1 y2)) (fun y0 y1 y2 y3 => K (.exit 2) (m9 y0 y1 y2 y3)) := by kernel_rfl
theorem MP (N : Nat) (K : Exit → St → O β) : ∀ (F : Nat) (v0 : ByteArray) (v1 v2 v3 v4 v5 : Int), (lp Tryz.f11 1).rounds lay (E11 N) (ai Tryz.f11) F (iG v0 v1 v2 v3 v4 v5) K = rL N F v0 v1 v2 v3 v4 v5 (fun y0 y1 y2 => K .ret (m8 y0 y1 y2)) (fun y0 y1 y2 y3 => K (.exit 2) (m9 y0 y1 y2 y3)) := by
 intro F; induction F with
 | zero => intros; rfl
 | succ F ih => intros; rw [am]; refine (Iu (rL N) (oK N) N _ _ _ _ _ _ (fun s => (lp Tryz.f11 1).rounds lay (E11 N) (ai Tryz.f11) F s K) K).trans ?_; simp only [ih]; rfl
theorem VT (N : Nat) : aS (E11 (β := β) N).loops (lp Tryz.f11 1).id = JE N := by kernel_rfl
theorem W2 (N : Nat) : ay lay (E11 (β := β) N) (ai Tryz.f11) (lp Tryz.f11 1) := by
 intro s K r h
 rw [VT] at h
 unfold JE xE at h
 cases hb : aJ (iG ByteArray.empty 0 0 0 0 0) s with
 | true =>
  rw [hb, agY] at h
  exact ⟨N, by rw [← ar hb, KT s]; exact (MP N K N (dV (ah (vT (nx ac s.tmps 0)))) (af (ah (vT (nx ac s.tmps 4)))) (af (ah (vT (nx ac s.tmps 5)))) (af (ah (vT (nx ac s.tmps 6)))) (af (nx .und (aj (nx .dead s.blks 0)) 0)) (af (nx .und (aj (nx .dead s.blks 0)) 1))).trans h⟩
 | false =>
 rw [hb, agX] at h
 clear hb
 cases h
theorem X6 (N : Nat) (a0 : ByteArray) (K : TV → O β) : aL lay (P0 afi afj N) Tryz.f11 [.v (.one (.str a0))] K = Sh afj N a0 (fun z1 z2 z3 => K (.tup [.agg [.int .i64 z1, .int .i64 z2], .one (.bool z3)])) := by kernel_rfl
theorem o11 (N : Nat) : ao (β := β) inv Tryz.prog 11 (S11 N) := by
 refine ap au mixed (E := E11 N) (ae ag) ak av Tryz.func11 (by kernel_rfl) 2 (by kernel_rfl) ⟨⟨trivial, W1 N⟩, W2 N⟩ fun args K r h => ?_
 unfold S11 UW at h
 split at h
 ·exact (X6 (rL N) (oK N) N _ _).trans h
 ·cases h
def Kp (N : Nat) : Rv.Spec β := fun args K => match args with
 | [.v (.one (.int .i64 a0)), .v (.agg [.int .i64 a1, .int .i64 a2])] => aed a0 a1 a2 (fun z3 => K (.v (.one (.bool z3))))
 | _ => none
def S40 (N : Nat) : Rv.Spec β := Kp (jl N) N
def aaN (N : Nat) : Env β := ⟨[(10, qb adV N)], [], [], [], ⟨[], [], [], []⟩⟩
def E40 (N : Nat) : Env β := aaN (bK N) N
theorem YA (N : Nat) (a0 a1 a2 : Int) (K : TV → O β) : aL lay (aaN adV N) Tryz.f40 [(Z' a0), .v (.agg [.int .i64 a1, .int .i64 a2])] K = Si adV N a0 a1 a2 (fun z3 => K (.v (.one (.bool z3)))) := by kernel_rfl
theorem o40 (N : Nat) : ao (β := β) inv Tryz.prog 40 (S40 N) := by
 refine ap au mixed (E := E40 N) (ae (aa (o10 N) ag)) ak av Tryz.func40 (by kernel_rfl) 0 (by kernel_rfl) trivial fun args K r h => ?_
 unfold S40 Kp at h
 split at h
 ·exact (YA (bK N) N _ _ _ _).trans h
 ·cases h
def Kr (N : Nat) : Rv.Spec β := fun args K => match args with
 | [.v (.one (.int .i64 a0)), .v (.agg [.int .i64 a1, .int .i64 a2])] => aee a0 a1 a2 (fun z3 => K (.v (.one (.str z3))))
 | _ => none
def S46 (N : Nat) : Rv.Spec β := Kr (iw N) N
def kZ (v0 : Int) (v1 : ByteArray) (v2 v3 v4 : Int) : St := ⟨(Z' v0) :: ac :: ac :: .v (.one (.ptr 0 0)) :: ac :: .v (.one (.str v1)) :: (Z' v2) :: tn 38 [], [.cells 46 [.int .i64 v3, .int .i64 v4]]⟩
def nP (y0 : Int) (y1 : ByteArray) (y2 y3 : Int) : St := ⟨(Z' y0) :: ac :: ac :: .v (.one (.ptr 0 0)) :: ac :: .v (.one (.str y1)) :: tn 39 [], [.cells 46 [.int .i64 y2, .int .i64 y3]]⟩
def zm {γ : Type} (f : Int → ByteArray → Int → Int → Int → γ) (s : St) : γ := f (af (ah (vT (nx ac s.tmps 0)))) (dV (ah (vT (nx ac s.tmps 5)))) (af (ah (vT (nx ac s.tmps 6)))) (af (nx .und (aj (nx .dead s.blks 0)) 0)) (af (nx .und (aj (nx .dead s.blks 0)) 1))
theorem Ll (s : St) : aP (kZ 0 ByteArray.empty 0 0 0) s = zm kZ s := by kernel_rfl
def EP (N : Nat) : ax β := fun s K => cond (aJ (kZ 0 ByteArray.empty 0 0 0) s) (zm (fun v0 v1 v2 v3 v4 => af9 N v0 v1 v2 v3 v4 (fun y0 y1 y2 y3 => K (.exit 0) (nP y0 y1 y2 y3))) s) (none)
def T8 (N : Nat) : ax β := EP (rM N) N
def UI (N : Nat) : Env β := ⟨[(40, Kp aed N)], [], [(0, EP af9 N)], [], ⟨[], [], [], []⟩⟩
def E46 (N : Nat) : Env β := UI (jl N) (rM N) N
theorem IV (N : Nat) (v0 : Int) (v1 : ByteArray) (v2 v3 v4 : Int) (rec_ : St → O β) (K : Exit → St → O β) :
  stB lay (UI aed af9 N) Tryz.f46 0 (kZ v0 v1 v2 v3 v4) rec_ K = Jr aed N v0 v1 v2 v3 v4 (fun v0 v1 v2 v3 v4 => rec_ (kZ v0 v1 v2 v3 v4)) (fun y0 y1 y2 y3 => K (.exit 0) (nP y0 y1 y2 y3)) := by kernel_rfl
theorem Nh (N : Nat) (K : Exit → St → O β) : ∀ (F : Nat) (v0 : Int) (v1 : ByteArray) (v2 v3 v4 : Int), (lp Tryz.f46 0).rounds lay (E46 N) (ai Tryz.f46) F (kZ v0 v1 v2 v3 v4) K = rM N F v0 v1 v2 v3 v4 (fun y0 y1 y2 y3 => K (.exit 0) (nP y0 y1 y2 y3)) := by
 intro F; induction F with
 | zero => intros; rfl
 | succ F ih => intros; rw [am]; refine (IV (jl N) (rM N) N _ _ _ _ _ (fun s => (lp Tryz.f46 0).rounds lay (E46 N) (ai Tryz.f46) F s K) K).trans ?_; simp only [ih]; rfl
theorem Wk (N : Nat) : aS (E46 (β := β) N).loops (lp Tryz.f46 0).id = T8 N := by kernel_rfl
theorem Xs (N : Nat) : ay lay (E46 (β := β) N) (ai Tryz.f46) (lp Tryz.f46 0) := rks (Wk ..) (rc1 (fun s K hb => ⟨N, by rw [← ar hb, Ll s]; unfold zm; exact Nh N K N _ _ _ _ _⟩) rc0)
theorem YG (N : Nat) (a0 a1 a2 : Int) (K : TV → O β) : aL lay (UI aed af9 N) Tryz.f46 [(Z' a0), .v (.agg [.int .i64 a1, .int .i64 a2])] K = Sj aed af9 N a0 a1 a2 (fun z3 => K (.v (.one (.str z3)))) := by kernel_rfl
theorem o46 (N : Nat) : ao (β := β) inv Tryz.prog 46 (S46 N) := by
 refine ap au mixed (E := E46 N) (ae (aa (o40 N) ag)) ak av Tryz.func46 (by kernel_rfl) 1 (by kernel_rfl) ⟨trivial, Xs N⟩ fun args K r h => ?_
 unfold S46 Kr at h
 split at h
 ·exact (YG (jl N) (rM N) N _ _ _ _).trans h
 ·cases h
def P9 (N : Nat) : Rv.Spec β := fun args K => match args with
 | [.v (.one (.int .i64 a0)), .v (.one (.str a1))] => aer a0 a1 (fun z2 z3 z4 => K (.tup [.agg [.int .i64 z2, .int .i64 z3], .one (.bool z4)]))
 | _ => none
def S37 (N : Nat) : Rv.Spec β := P9 (oL N) N
def kU (v0 : Int) (v1 : ByteArray) (v2 : Bool) (v3 v4 v5 v6 v7 : Int) : St := ⟨(Z' v0) :: .v (.one (.str v1)) :: ac :: ac :: .v (.one (.ptr 0 0)) :: ac :: .v (.one (.ptr 1 0)) :: .v (.one (.bool v2)) :: (Z' v3) :: tn 57 [], [.cells 46 [.int .i64 v4, .int .i64 v5], .cells 46 [.int .i64 v6, .int .i64 v7]]⟩
def nH (y0 : Bool) (y1 y2 : Int) : St := ⟨tn 4 (.v (.one (.ptr 0 0)) :: .v (.one (.bool y0)) :: tn 60 []), [.cells 46 [.int .i64 y1, .int .i64 y2]]⟩
def nI (y0 : Int) (y1 : ByteArray) (y2 y3 y4 y5 : Int) : St := ⟨(Z' y0) :: .v (.one (.str y1)) :: ac :: ac :: .v (.one (.ptr 0 0)) :: ac :: .v (.one (.ptr 1 0)) :: tn 59 [], [.cells 46 [.int .i64 y2, .int .i64 y3], .cells 46 [.int .i64 y4, .int .i64 y5]]⟩
def ze {γ : Type} (f : Int → ByteArray → Bool → Int → Int → Int → Int → Int → γ) (s : St) : γ := f (af (ah (vT (nx ac s.tmps 0)))) (dV (ah (vT (nx ac s.tmps 1)))) (Fo (ah (vT (nx ac s.tmps 7)))) (af (ah (vT (nx ac s.tmps 8)))) (af (nx .und (aj (nx .dead s.blks 0)) 0)) (af (nx .und (aj (nx .dead s.blks 0)) 1)) (af (nx .und (aj (nx .dead s.blks 1)) 0)) (af (nx .und (aj (nx .dead s.blks 1)) 1))
theorem Lf (s : St) : aP (kU 0 ByteArray.empty false 0 0 0 0 0) s = ze kU s := by kernel_rfl
def EK (N : Nat) : ax β := fun s K => cond (aJ (kU 0 ByteArray.empty false 0 0 0 0 0) s) (ze (fun v0 v1 v2 v3 v4 v5 v6 v7 => aga N v0 v1 v2 v3 v4 v5 v6 v7 (fun y0 y1 y2 => K .ret (nH y0 y1 y2)) (fun y0 y1 y2 y3 y4 y5 => K (.exit 0) (nI y0 y1 y2 y3 y4 y5))) s) (none)
def T3 (N : Nat) : ax β := EK (ky N) N
def UE (N : Nat) : Env β := ⟨[(10, qb adV N), (46, Kr aee N)], [], [(0, EK aga N)], [], ⟨[], [], [], []⟩⟩
def E37 (N : Nat) : Env β := UE (bK N) (iw N) (ky N) N
theorem IP (N : Nat) (v0 : Int) (v1 : ByteArray) (v2 : Bool) (v3 v4 v5 v6 v7 : Int) (rec_ : St → O β) (K : Exit → St → O β) :
  stB lay (UE adV aee aga N) Tryz.f37 0 (kU v0 v1 v2 v3 v4 v5 v6 v7) rec_ K = CN adV N v0 v1 v2 v3 v4 v5 v6 v7 (fun v0 v1 v2 v3 v4 v5 v6 v7 => rec_ (kU v0 v1 v2 v3 v4 v5 v6 v7)) (fun y0 y1 y2 => K .ret (nH y0 y1 y2)) (fun y0 y1 y2 y3 y4 y5 => K (.exit 0) (nI y0 y1 y2 y3 y4 y5)) := by kernel_rfl
theorem Na (N : Nat) (K : Exit → St → O β) : ∀ (F : Nat) (v0 : Int) (v1 : ByteArray) (v2 : Bool) (v3 v4 v5 v6 v7 : Int), (lp Tryz.f37 0).rounds lay (E37 N) (ai Tryz.f37) F (kU v0 v1 v2 v3 v4 v5 v6 v7) K = ky N F v0 v1 v2 v3 v4 v5 v6 v7 (fun y0 y1 y2 => K .ret (nH y0 y1 y2)) (fun y0 y1 y2 y3 y4 y5 => K (.exit 0) (nI y0 y1 y2 y3 y4 y5)) := by
 intro F; induction F with
 | zero => intros; rfl
 | succ F ih => intros; rw [am]; refine (IP (bK N) (iw N) (ky N) N _ _ _ _ _ _ _ _ (fun s => (lp Tryz.f37 0).rounds lay (E37 N) (ai Tryz.f37) F s K) K).trans ?_; simp only [ih]; rfl
theorem We (N : Nat) : aS (E37 (β := β) N).loops (lp Tryz.f37 0).id = T3 N := by kernel_rfl
theorem Xm (N : Nat) : ay lay (E37 (β := β) N) (ai Tryz.f37) (lp Tryz.f37 0) := rks (We ..) (rc1 (fun s K hb => ⟨N, by rw [← ar hb, Lf s]; unfold ze; exact Na N K N _ _ _ _ _ _ _ _⟩) rc0)
theorem Yx (N : Nat) (a0 : Int) (a1 : ByteArray) (K : TV → O β) : aL lay (UE adV aee aga N) Tryz.f37 [(Z' a0), .v (.one (.str a1))] K = Sk aee aga N a0 a1 (fun z2 z3 z4 => K (.tup [.agg [.int .i64 z2, .int .i64 z3], .one (.bool z4)])) := by kernel_rfl
theorem o37 (N : Nat) : ao (β := β) inv Tryz.prog 37 (S37 N) := by
 refine ap au mixed (E := E37 N) (ae (aa (o10 N) (aa (o46 N) ag))) ak av Tryz.func37 (by kernel_rfl) 1 (by kernel_rfl) ⟨trivial, Xm N⟩ fun args K r h => ?_
 unfold S37 P9 at h
 split at h
 ·exact (Yx (bK N) (iw N) (ky N) N _ _ _).trans h
 ·cases h
def Qa (N : Nat) : Rv.Spec β := fun args K => match args with
 | [.v (.agg [.int .i64 a0, .int .i64 a1])] => aeC a0 a1 (fun z2 => K (.v (.one (.int .i64 z2))))
 | _ => none
def S38 (N : Nat) : Rv.Spec β := Qa (p8 N) N
def kV (v0 v1 v2 v3 : Int) : St := ⟨ac :: .v (.one (.ptr 0 0)) :: ac :: (Z' v0) :: (Z' v1) :: tn 33 [], [.cells 26 [.int .i64 v2, .int .i64 v3]]⟩
def nJ (y0 : Int) : St := ⟨tn 3 ((Z' y0) :: tn 34 []), []⟩
def iL (v0 v1 v2 v3 v4 v5 : Int) : St := ⟨ac :: .v (.one (.ptr 0 0)) :: ac :: (Z' v0) :: (Z' v1) :: (Z' v2) :: (Z' v3) :: tn 31 [], [.cells 26 [.int .i64 v4, .int .i64 v5]]⟩
def nK (y0 y1 y2 y3 y4 : Int) : St := ⟨ac :: .v (.one (.ptr 0 0)) :: ac :: (Z' y0) :: (Z' y1) :: (Z' y2) :: tn 32 [], [.cells 26 [.int .i64 y3, .int .i64 y4]]⟩
def zh {γ : Type} (f : Int → Int → Int → Int → γ) (s : St) : γ := f (af (ah (vT (nx ac s.tmps 3)))) (af (ah (vT (nx ac s.tmps 4)))) (af (nx .und (aj (nx .dead s.blks 0)) 0)) (af (nx .und (aj (nx .dead s.blks 0)) 1))
theorem Lg (s : St) : aP (kV 0 0 0 0) s = zh kV s := by kernel_rfl
def EL (N : Nat) : ax β := fun s K => cond (aJ (kV 0 0 0 0) s) (zh (fun v0 v1 v2 v3 => afl N v0 v1 v2 v3 (fun y0 => K (.exit 0) (nJ y0))) s) (none)
def T4 (N : Nat) : ax β := EL (uQ N) N
def Ra {γ : Type} (f : Int → Int → Int → Int → Int → Int → γ) (s : St) : γ := f (af (ah (vT (nx ac s.tmps 3)))) (af (ah (vT (nx ac s.tmps 4)))) (af (ah (vT (nx ac s.tmps 5)))) (af (ah (vT (nx ac s.tmps 6)))) (af (nx .und (aj (nx .dead s.blks 0)) 0)) (af (nx .und (aj (nx .dead s.blks 0)) 1))
theorem Lh (s : St) : aP (iL 0 0 0 0 0 0) s = Ra iL s := by kernel_rfl
def xJ (N : Nat) : ax β := fun s K => cond (aJ (iL 0 0 0 0 0 0) s) ((fun (v0 v1 v2 v3 v4 v5 : Int) => afk N v0 v1 v2 v3 v4 v5 (fun y0 y1 y2 y3 y4 => K (.exit 2) (nK y0 y1 y2 y3 y4))) (af (ah (vT (nx ac s.tmps 3)))) (af (ah (vT (nx ac s.tmps 4)))) (af (ah (vT (nx ac s.tmps 5)))) (af (ah (vT (nx ac s.tmps 6)))) (af (nx .und (aj (nx .dead s.blks 0)) 0)) (af (nx .und (aj (nx .dead s.blks 0)) 1))) (none)
def JJ (N : Nat) : ax β := xJ (uP N) N
def P3 (N : Nat) : Env β := ⟨[], [], [(0, EL afl N), (2, xJ afk N)], [], ⟨[], [], [], []⟩⟩
def E38 (N : Nat) : Env β := P3 (uP N) (uQ N) N
theorem IQ (N : Nat) (v0 v1 v2 v3 : Int) (rec_ : St → O β) (K : Exit → St → O β) :
  stB lay (P3 afk afl N) Tryz.f38 0 (kV v0 v1 v2 v3) rec_ K = Sm afk N v0 v1 v2 v3 (fun v0 v1 v2 v3 => rec_ (kV v0 v1 v2 v3)) (fun y0 => K (.exit 0) (nJ y0)) := by kernel_rfl
theorem Nb (N : Nat) (K : Exit → St → O β) : ∀ (F : Nat) (v0 v1 v2 v3 : Int), (lp Tryz.f38 0).rounds lay (E38 N) (ai Tryz.f38) F (kV v0 v1 v2 v3) K = uQ N F v0 v1 v2 v3 (fun y0 => K (.exit 0) (nJ y0)) := by
 intro F; induction F with
 | zero => intros; rfl
 | succ F ih => intros; rw [am]; refine (IQ (uP N) (uQ N) N _ _ _ _ (fun s => (lp Tryz.f38 0).rounds lay (E38 N) (ai Tryz.f38) F s K) K).trans ?_; simp only [ih]; rfl
theorem Wf (N : Nat) : aS (E38 (β := β) N).loops (lp Tryz.f38 0).id = T4 N := by kernel_rfl
theorem Xn (N : Nat) : ay lay (E38 (β := β) N) (ai Tryz.f38) (lp Tryz.f38 0) := rks (Wf ..) (rc1 (fun s K hb => ⟨N, by rw [← ar hb, Lg s]; unfold zh; exact Nb N K N _ _ _ _⟩) rc0)
theorem IR (N : Nat) (v0 v1 v2 v3 v4 v5 : Int) (rec_ : St → O β) (K : Exit → St → O β) :
  stB lay (P3 afk afl N) Tryz.f38 1 (iL v0 v1 v2 v3 v4 v5) rec_ K = Sl N v0 v1 v2 v3 v4 v5 (fun v0 v1 v2 v3 v4 v5 => rec_ (iL v0 v1 v2 v3 v4 v5)) (fun y0 y1 y2 y3 y4 => K (.exit 2) (nK y0 y1 y2 y3 y4)) := by kernel_rfl
theorem Nc (N : Nat) (K : Exit → St → O β) : ∀ (F : Nat) (v0 v1 v2 v3 v4 v5 : Int), (lp Tryz.f38 1).rounds lay (E38 N) (ai Tryz.f38) F (iL v0 v1 v2 v3 v4 v5) K = uP N F v0 v1 v2 v3 v4 v5 (fun y0 y1 y2 y3 y4 => K (.exit 2) (nK y0 y1 y2 y3 y4)) := by
 intro F; induction F with
 | zero => intros; rfl
 | succ F ih => intros; rw [am]; refine (IR (uP N) (uQ N) N _ _ _ _ _ _ (fun s => (lp Tryz.f38 1).rounds lay (E38 N) (ai Tryz.f38) F s K) K).trans ?_; simp only [ih]; rfl
theorem Wg (N : Nat) : aS (E38 (β := β) N).loops (lp Tryz.f38 1).id = JJ N := by kernel_rfl
theorem Xo (N : Nat) : ay lay (E38 (β := β) N) (ai Tryz.f38) (lp Tryz.f38 1) := by
 intro s K r h
 rw [Wg] at h
 unfold JJ xJ at h
 cases hb : aJ (iL 0 0 0 0 0 0) s with
 | true =>
  rw [hb, agY] at h
  exact ⟨N, by rw [← ar hb, Lh s]; exact (Nc N K N (af (ah (vT (nx ac s.tmps 3)))) (af (ah (vT (nx ac s.tmps 4)))) (af (ah (vT (nx ac s.tmps 5)))) (af (ah (vT (nx ac s.tmps 6)))) (af (nx .und (aj (nx .dead s.blks 0)) 0)) (af (nx .und (aj (nx .dead s.blks 0)) 1))).trans h⟩
 | false =>
 rw [hb, agX] at h
 clear hb
 cases h
theorem Yy (N : Nat) (a0 a1 : Int) (K : TV → O β) : aL lay (P3 afk afl N) Tryz.f38 [.v (.agg [.int .i64 a0, .int .i64 a1])] K = ZU afl N a0 a1 (fun z2 => K ((Z' z2))) := by kernel_rfl
theorem o38 (N : Nat) : ao (β := β) inv Tryz.prog 38 (S38 N) := by
 refine ap au mixed (E := E38 N) (ae ag) ak av Tryz.func38 (by kernel_rfl) 2 (by kernel_rfl) ⟨⟨trivial, Xn N⟩, Xo N⟩ fun args K r h => ?_
 unfold S38 Qa at h
 split at h
 ·exact (Yy (uP N) (uQ N) N _ _ _).trans h
 ·cases h
def AE (N : Nat) : Rv.Spec β := fun args K => match args with
 | [.v (.agg [.int .i64 a0, .int .i64 a1])] => ad5 a0 a1 (fun z2 => K (.v (.one (.bool z2))))
 | _ => none
def S17 (N : Nat) : Rv.Spec β := AE (eU N) N
def aaD (N : Nat) : Env β := ⟨[(10, qb adV N)], [], [], [], ⟨[], [], [], []⟩⟩
def E17 (N : Nat) : Env β := aaD (bK N) N
theorem Yd (N : Nat) (a0 a1 : Int) (K : TV → O β) : aL lay (aaD adV N) Tryz.f17 [.v (.agg [.int .i64 a0, .int .i64 a1])] K = ZV adV N a0 a1 (fun z2 => K (.v (.one (.bool z2)))) := by kernel_rfl
theorem o17 (N : Nat) : ao (β := β) inv Tryz.prog 17 (S17 N) := by
 refine ap au mixed (E := E17 N) (ae (aa (o10 N) ag)) ak av Tryz.func17 (by kernel_rfl) 0 (by kernel_rfl) trivial fun args K r h => ?_
 unfold S17 AE at h
 split at h
 ·exact (Yd (bK N) N _ _ _).trans h
 ·cases h
end Go.Proofs.YtmhlcbibbhelkaaGreatDoor
