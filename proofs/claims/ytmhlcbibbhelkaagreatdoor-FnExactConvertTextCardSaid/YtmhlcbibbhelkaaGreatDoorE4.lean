/- The functions that the claims cZ bz as their texts do. -/
import Derived.Test.YtmhlcbibbhelkaaGreatDoorE3
namespace Go.Proofs.YtmhlcbibbhelkaaGreatDoor
set_option linter.unusedSimpArgs false
open Go.Rv
set_option maxRecDepth 100000
set_option maxHeartbeats 2000000
set_option linter.unusedVariables false
variable {β : Type}
variable (adV : Y4 β) (af8 : Y23 β) (ad5 : Y0 β) (age : Y28 β) (agi : Y35 β) (aeh : Y3 β) (agl : Y38 β) (agn : Y47 β) (ae5 : Y41 β) (aeO : Y50 β) (afr : Y48 β) (afs : Y49 β) (agE : Y47 β) (aft : Y52 β) (afu : Y53 β) (afv : Y31 β) (aeZ : Y54 β) (afw : Y55 β) (ae6 : Y54 β) (ae7 : Y58 β) (ae8 : Y57 β) (ae9 : Y56 β)
def U1 (N : Nat) : Rv.Spec β := fun args K => match args with
 | [.v (.one (.str a0)), .v (.one (.int .i64 a1))] => agE a0 a1 (fun z2 z3 z4 => K (.tup [.agg [.int .i64 z2, .int .i64 z3], .one (.bool z4)]))
 | _ => none
def S16 (N : Nat) : Rv.Spec β := U1 (uY N) N
def kJ (v0 : ByteArray) (v1 v2 v3 v4 : Int) : St := ⟨.v (.one (.str v0)) :: (Z' v1) :: ac :: ac :: .v (.one (.ptr 0 0)) :: ac :: (Z' v2) :: tn 53 [], [.cells 26 [.int .i64 v3, .int .i64 v4]]⟩
def nk (y0 : Bool) (y1 y2 : Int) : St := ⟨tn 4 (.v (.one (.ptr 0 0)) :: .v (.one (.bool y0)) :: tn 54 []), [.cells 26 [.int .i64 y1, .int .i64 y2]]⟩
def nl (y0 : ByteArray) (y1 y2 y3 : Int) : St := ⟨.v (.one (.str y0)) :: (Z' y1) :: ac :: ac :: .v (.one (.ptr 0 0)) :: tn 55 [], [.cells 26 [.int .i64 y2, .int .i64 y3]]⟩
def iI (v0 : ByteArray) (v1 v2 v3 v4 v5 : Int) : St := ⟨.v (.one (.str v0)) :: (Z' v1) :: ac :: ac :: .v (.one (.ptr 0 0)) :: ac :: ac :: (Z' v2) :: (Z' v3) :: tn 51 [], [.cells 26 [.int .i64 v4, .int .i64 v5]]⟩
def nm (y0 y1 y2 y3 : Int) : St := ⟨ac :: (Z' y0) :: ac :: ac :: .v (.one (.ptr 0 0)) :: ac :: ac :: (Z' y1) :: tn 52 [], [.cells 26 [.int .i64 y2, .int .i64 y3]]⟩
def yR {γ : Type} (f : ByteArray → Int → Int → Int → Int → γ) (s : St) : γ := f (dV (ah (vT (nx ac s.tmps 0)))) (af (ah (vT (nx ac s.tmps 1)))) (af (ah (vT (nx ac s.tmps 6)))) (af (nx .und (aj (nx .dead s.blks 0)) 0)) (af (nx .und (aj (nx .dead s.blks 0)) 1))
theorem KZ (s : St) : aP (kJ ByteArray.empty 0 0 0 0) s = yR kJ s := by kernel_rfl
def Ez (N : Nat) : ax β := fun s K => cond (aJ (kJ ByteArray.empty 0 0 0 0) s) (yR (fun v0 v1 v2 v3 v4 => afr N v0 v1 v2 v3 v4 (fun y0 y1 y2 => K .ret (nk y0 y1 y2)) (fun y0 y1 y2 y3 => K (.exit 0) (nl y0 y1 y2 y3))) s) (none)
def TR (N : Nat) : ax β := Ez (uW N) N
def Q7 {γ : Type} (f : ByteArray → Int → Int → Int → Int → Int → γ) (s : St) : γ := f (dV (ah (vT (nx ac s.tmps 0)))) (af (ah (vT (nx ac s.tmps 1)))) (af (ah (vT (nx ac s.tmps 7)))) (af (ah (vT (nx ac s.tmps 8)))) (af (nx .und (aj (nx .dead s.blks 0)) 0)) (af (nx .und (aj (nx .dead s.blks 0)) 1))
theorem K1 (s : St) : aP (iI ByteArray.empty 0 0 0 0 0) s = Q7 iI s := by kernel_rfl
def xG (N : Nat) : ax β := fun s K => cond (aJ (iI ByteArray.empty 0 0 0 0 0) s) ((fun (v0 : ByteArray) (v1 v2 v3 v4 v5 : Int) => afs N v0 v1 v2 v3 v4 v5 (fun y0 y1 y2 y3 => K (.exit 2) (nm y0 y1 y2 y3))) (dV (ah (vT (nx ac s.tmps 0)))) (af (ah (vT (nx ac s.tmps 1)))) (af (ah (vT (nx ac s.tmps 7)))) (af (ah (vT (nx ac s.tmps 8)))) (af (nx .und (aj (nx .dead s.blks 0)) 0)) (af (nx .und (aj (nx .dead s.blks 0)) 1))) (none)
def JG (N : Nat) : ax β := xG (uX N) N
def P2 (N : Nat) : Env β := ⟨[(44, Vj ae5 N), (10, qb adV N), (45, acS aeO N)], [], [(0, Ez afr N), (2, xG afs N)], [], ⟨[], [], [], []⟩⟩
def E16 (N : Nat) : Env β := P2 (bK N) (vD N) (uV N) (uW N) (uX N) N
theorem IA (N : Nat) (v0 : ByteArray) (v1 v2 v3 v4 : Int) (rec_ : St → O β) (K : Exit → St → O β) :
  stB lay (P2 adV ae5 aeO afr afs N) Tryz.f16 0 (kJ v0 v1 v2 v3 v4) rec_ K = Su N v0 v1 v2 v3 v4 (fun v0 v1 v2 v3 v4 => rec_ (kJ v0 v1 v2 v3 v4)) (fun y0 y1 y2 => K .ret (nk y0 y1 y2)) (fun y0 y1 y2 y3 => K (.exit 0) (nl y0 y1 y2 y3)) := by kernel_rfl
theorem MW (N : Nat) (K : Exit → St → O β) : ∀ (F : Nat) (v0 : ByteArray) (v1 v2 v3 v4 : Int), (lp Tryz.f16 0).rounds lay (E16 N) (ai Tryz.f16) F (kJ v0 v1 v2 v3 v4) K = uW N F v0 v1 v2 v3 v4 (fun y0 y1 y2 => K .ret (nk y0 y1 y2)) (fun y0 y1 y2 y3 => K (.exit 0) (nl y0 y1 y2 y3)) := by
 intro F; induction F with
 | zero => intros; rfl
 | succ F ih => intros; rw [am]; refine (IA (bK N) (vD N) (uV N) (uW N) (uX N) N _ _ _ _ _ (fun s => (lp Tryz.f16 0).rounds lay (E16 N) (ai Tryz.f16) F s K) K).trans ?_; simp only [ih]; rfl
theorem VZ (N : Nat) : aS (E16 (β := β) N).loops (lp Tryz.f16 0).id = TR N := by kernel_rfl
theorem W8 (N : Nat) : ay lay (E16 (β := β) N) (ai Tryz.f16) (lp Tryz.f16 0) := rks (VZ ..) (rc1 (fun s K hb => ⟨N, by rw [← ar hb, KZ s]; unfold yR; exact MW N K N _ _ _ _ _⟩) rc0)
theorem IB (N : Nat) (v0 : ByteArray) (v1 v2 v3 v4 v5 : Int) (rec_ : St → O β) (K : Exit → St → O β) :
  stB lay (P2 adV ae5 aeO afr afs N) Tryz.f16 1 (iI v0 v1 v2 v3 v4 v5) rec_ K = Sv (aeO N) N v0 v1 v2 v3 v4 v5 (fun v0 v1 v2 v3 v4 v5 => rec_ (iI v0 v1 v2 v3 v4 v5)) (fun y0 y1 y2 y3 => K (.exit 2) (nm y0 y1 y2 y3)) := by kernel_rfl
theorem MX (N : Nat) (K : Exit → St → O β) : ∀ (F : Nat) (v0 : ByteArray) (v1 v2 v3 v4 v5 : Int), (lp Tryz.f16 1).rounds lay (E16 N) (ai Tryz.f16) F (iI v0 v1 v2 v3 v4 v5) K = uX N F v0 v1 v2 v3 v4 v5 (fun y0 y1 y2 y3 => K (.exit 2) (nm y0 y1 y2 y3)) := by
 intro F; induction F with
 | zero => intros; rfl
 | succ F ih => intros; rw [am]; refine (IB (bK N) (vD N) (uV N) (uW N) (uX N) N _ _ _ _ _ _ (fun s => (lp Tryz.f16 1).rounds lay (E16 N) (ai Tryz.f16) F s K) K).trans ?_; simp only [ih]; rfl
theorem V0 (N : Nat) : aS (E16 (β := β) N).loops (lp Tryz.f16 1).id = JG N := by kernel_rfl
theorem W9 (N : Nat) : ay lay (E16 (β := β) N) (ai Tryz.f16) (lp Tryz.f16 1) := by
 intro s K r h
 rw [V0] at h
 unfold JG xG at h
 cases hb : aJ (iI ByteArray.empty 0 0 0 0 0) s with
 | true =>
  rw [hb, agY] at h
  exact ⟨N, by rw [← ar hb, K1 s]; exact (MX N K N (dV (ah (vT (nx ac s.tmps 0)))) (af (ah (vT (nx ac s.tmps 1)))) (af (ah (vT (nx ac s.tmps 7)))) (af (ah (vT (nx ac s.tmps 8)))) (af (nx .und (aj (nx .dead s.blks 0)) 0)) (af (nx .und (aj (nx .dead s.blks 0)) 1))).trans h⟩
 | false =>
 rw [hb, agX] at h
 clear hb
 cases h
theorem Yc (N : Nat) (a0 : ByteArray) (a1 : Int) (K : TV → O β) : aL lay (P2 adV ae5 aeO afr afs N) Tryz.f16 [.v (.one (.str a0)), (Z' a1)] K = Ju adV ae5 afr afs N a0 a1 (fun z2 z3 z4 => K (.tup [.agg [.int .i64 z2, .int .i64 z3], .one (.bool z4)])) := by kernel_rfl
theorem o16 (N : Nat) : ao (β := β) inv Tryz.prog 16 (S16 N) := by
 refine ap au mixed (E := E16 N) (ae (aa (o44 N) (aa (o10 N) (aa (o45 N) ag)))) ak av Tryz.func16 (by kernel_rfl) 2 (by kernel_rfl) ⟨⟨trivial, W8 N⟩, W9 N⟩ fun args K r h => ?_
 unfold S16 U1 at h
 split at h
 ·exact (Yc (bK N) (vD N) (uV N) (uW N) (uX N) N _ _ _).trans h
 ·cases h
def VS6 (N : Nat) : Rv.Spec β := fun args K => match args with
 | [.v (.one (.str a0)), .v (.one (.int .i64 a1)), .v (.one (.str a2))] => aft a0 a1 a2 (fun z3 z4 z5 => K (.tup [.agg [.int .i64 z3, .int .i64 z4], .one (.bool z5)]))
 | _ => none
def S6 (N : Nat) : Rv.Spec β := VS6 (uG N) N
def VE6 (N : Nat) : Env β := ⟨[(10, qb adV N), (11, UW af8 N), (12, UX age N), (13, UY agi N), (14, UZ agl N), (15, U0 agn N), (16, U1 agE N)], [], [], [], ⟨[], [], [], []⟩⟩
def E6 (N : Nat) : Env β := VE6 (bK N) (C5 N) (vv N) (uR N) (Ep N) (Ao N) (uY N) N
theorem acl (N : Nat) (a0 : ByteArray) (a1 : Int) (a2 : ByteArray) (K : TV → O β) : aL lay (VE6 adV af8 age agi agl agn agE N) Tryz.f6 [.v (.one (.str a0)), (Z' a1), .v (.one (.str a2))] K = Gp adV af8 age agi agl agn agE N a0 a1 a2 (fun z3 z4 z5 => K (.tup [.agg [.int .i64 z3, .int .i64 z4], .one (.bool z5)])) := by kernel_rfl
theorem o6 (N : Nat) : ao (β := β) inv Tryz.prog 6 (S6 N) := by
 refine ap au mixed (E := E6 N) (ae (aa (o10 N) (aa (o11 N) (aa (o12 N) (aa (o13 N) (aa (o14 N) (aa (o15 N) (aa (o16 N) ag)))))))) ak av Tryz.func6 (by kernel_rfl) 0 (by kernel_rfl) trivial fun args K r h => ?_
 unfold S6 VS6 at h
 split at h
 ·exact (acl (bK N) (C5 N) (vv N) (uR N) (Ep N) (Ao N) (uY N) N _ _ _ _).trans h
 ·cases h
def U2 (N : Nat) : Rv.Spec β := fun args K => match args with
 | [.v (.agg [.int .i64 a0, .int .i64 a1])] => afv a0 a1 (fun z2 => K (.v (.one (.str z2))))
 | _ => none
def S18 (N : Nat) : Rv.Spec β := U2 (CR N) N
def kK (v0 : ByteArray) (v1 v2 v3 : Int) : St := ⟨ac :: .v (.one (.ptr 0 0)) :: ac :: .v (.one (.str v0)) :: (Z' v1) :: tn 22 [], [.cells 26 [.int .i64 v2, .int .i64 v3]]⟩
def nn (y0 : ByteArray) : St := ⟨tn 3 (.v (.one (.str y0)) :: tn 23 []), []⟩
def yS {γ : Type} (f : ByteArray → Int → Int → Int → γ) (s : St) : γ := f (dV (ah (vT (nx ac s.tmps 3)))) (af (ah (vT (nx ac s.tmps 4)))) (af (nx .und (aj (nx .dead s.blks 0)) 0)) (af (nx .und (aj (nx .dead s.blks 0)) 1))
theorem K2 (s : St) : aP (kK ByteArray.empty 0 0 0) s = yS kK s := by kernel_rfl
def EA (N : Nat) : ax β := fun s K => cond (aJ (kK ByteArray.empty 0 0 0) s) (yS (fun v0 v1 v2 v3 => afu N v0 v1 v2 v3 (fun y0 => K (.exit 0) (nn y0))) s) (none)
def TS (N : Nat) : ax β := EA (mb N) N
def Uv (N : Nat) : Env β := ⟨[(17, AE ad5 N)], [], [(0, EA afu N)], [], ⟨[], [], [], []⟩⟩
def E18 (N : Nat) : Env β := Uv (eU N) (mb N) N
theorem IC (N : Nat) (v0 : ByteArray) (v1 v2 v3 : Int) (rec_ : St → O β) (K : Exit → St → O β) :
  stB lay (Uv ad5 afu N) Tryz.f18 0 (kK v0 v1 v2 v3) rec_ K = Gq ad5 N v0 v1 v2 v3 (fun v0 v1 v2 v3 => rec_ (kK v0 v1 v2 v3)) (fun y0 => K (.exit 0) (nn y0)) := by kernel_rfl
theorem MY (N : Nat) (K : Exit → St → O β) : ∀ (F : Nat) (v0 : ByteArray) (v1 v2 v3 : Int), (lp Tryz.f18 0).rounds lay (E18 N) (ai Tryz.f18) F (kK v0 v1 v2 v3) K = mb N F v0 v1 v2 v3 (fun y0 => K (.exit 0) (nn y0)) := by
 intro F; induction F with
 | zero => intros; rfl
 | succ F ih => intros; rw [am]; refine (IC (eU N) (mb N) N _ _ _ _ (fun s => (lp Tryz.f18 0).rounds lay (E18 N) (ai Tryz.f18) F s K) K).trans ?_; simp only [ih]; rfl
theorem V1 (N : Nat) : aS (E18 (β := β) N).loops (lp Tryz.f18 0).id = TS N := by kernel_rfl
theorem Xa (N : Nat) : ay lay (E18 (β := β) N) (ai Tryz.f18) (lp Tryz.f18 0) := rks (V1 ..) (rc1 (fun s K hb => ⟨N, by rw [← ar hb, K2 s]; unfold yS; exact MY N K N _ _ _ _⟩) rc0)
theorem Ye (N : Nat) (a0 a1 : Int) (K : TV → O β) : aL lay (Uv ad5 afu N) Tryz.f18 [.v (.agg [.int .i64 a0, .int .i64 a1])] K = Tp afu N a0 a1 (fun z2 => K (.v (.one (.str z2)))) := by kernel_rfl
theorem o18 (N : Nat) : ao (β := β) inv Tryz.prog 18 (S18 N) := by
 refine ap au mixed (E := E18 N) (ae (aa (o17 N) ag)) ak av Tryz.func18 (by kernel_rfl) 1 (by kernel_rfl) ⟨trivial, Xa N⟩ fun args K r h => ?_
 unfold S18 U2 at h
 split at h
 ·exact (Ye (eU N) (mb N) N _ _ _).trans h
 ·cases h
def Kj (N : Nat) : Rv.Spec β := fun args K => match args with
 | [.v (.agg [.int .i64 a0, .int .i64 a1]), .v (.agg [.int .i64 a2, .int .i64 a3])] => aeZ a0 a1 a2 a3 (fun z4 => K (.v (.one (.bool z4))))
 | _ => none
def aau (N : Nat) : Rv.Spec β := Kj (rB N) N
def ST (N : Nat) : Env β := ⟨[(41, Kq aeh N)], [], [], [], ⟨[], [], [], []⟩⟩
def acK (N : Nat) : Env β := ST (oN N) N
theorem RT (N : Nat) (a0 a1 a2 a3 : Int) (K : TV → O β) : aL lay (ST aeh N) Tryz.f112 [.v (.agg [.int .i64 a0, .int .i64 a1]), .v (.agg [.int .i64 a2, .int .i64 a3])] K = Ok aeh N a0 a1 a2 a3 (fun z4 => K (.v (.one (.bool z4)))) := by kernel_rfl
theorem adn (N : Nat) : ao (β := β) inv Tryz.prog 112 (aau N) := by
 refine ap au mixed (E := acK N) (ae (aa (o41 N) ag)) ak av Tryz.func112 (by kernel_rfl) 0 (by kernel_rfl) trivial fun args K r h => ?_
 unfold aau Kj at h
 split at h
 ·exact (RT (oN N) N _ _ _ _ _).trans h
 ·cases h
def Vq (N : Nat) : Rv.Spec β := fun args K => match args with
 | [.v (.agg [.int .i64 a0, .int .i64 a1]), .v (.agg [.int .i64 a2, .int .i64 a3])] => ae6 a0 a1 a2 a3 (fun z4 => K (.v (.one (.bool z4))))
 | _ => none
def S77 (N : Nat) : Rv.Spec β := Vq (rC N) N
def lz (v0 v1 v2 v3 v4 : Int) : St := ⟨ac :: ac :: .v (.one (.ptr 0 0)) :: .v (.one (.ptr 1 0)) :: ac :: (Z' v0) :: tn 34 [], [.cells 26 [.int .i64 v1, .int .i64 v2], .cells 46 [.int .i64 v3, .int .i64 v4]]⟩
def oB (y0 : Bool) : St := ⟨tn 4 (.v (.one (.bool y0)) :: tn 35 []), []⟩
def oC : St := ⟨tn 40 [], []⟩
def zE {γ : Type} (f : Int → Int → Int → Int → Int → γ) (s : St) : γ := f (af (ah (vT (nx ac s.tmps 5)))) (af (nx .und (aj (nx .dead s.blks 0)) 0)) (af (nx .und (aj (nx .dead s.blks 0)) 1)) (af (nx .und (aj (nx .dead s.blks 1)) 0)) (af (nx .und (aj (nx .dead s.blks 1)) 1))
theorem LJ (s : St) : aP (lz 0 0 0 0 0) s = zE lz s := by kernel_rfl
def E0 (N : Nat) : ax β := fun s K => cond (aJ (lz 0 0 0 0 0) s) (zE (fun v0 v1 v2 v3 v4 => afw N v0 v1 v2 v3 v4 (fun y0 => K .ret (oB y0)) (K (.exit 0) (oC ))) s) (none)
def Uj (N : Nat) : ax β := E0 (mc N) N
def UO (N : Nat) : Env β := ⟨[(112, Kj aeZ N)], [], [(0, E0 afw N)], [], ⟨[], [], [], []⟩⟩
def E77 (N : Nat) : Env β := UO (rB N) (mc N) N
theorem Jj (N : Nat) (v0 v1 v2 v3 v4 : Int) (rec_ : St → O β) (K : Exit → St → O β) :
  stB lay (UO aeZ afw N) Tryz.f77 0 (lz v0 v1 v2 v3 v4) rec_ K = Gr aeZ N v0 v1 v2 v3 v4 (fun v0 v1 v2 v3 v4 => rec_ (lz v0 v1 v2 v3 v4)) (fun y0 => K .ret (oB y0)) (K (.exit 0) (oC )) := by kernel_rfl
theorem NG (N : Nat) (K : Exit → St → O β) : ∀ (F : Nat) (v0 v1 v2 v3 v4 : Int), (lp Tryz.f77 0).rounds lay (E77 N) (ai Tryz.f77) F (lz v0 v1 v2 v3 v4) K = mc N F v0 v1 v2 v3 v4 (fun y0 => K .ret (oB y0)) (K (.exit 0) (oC )) := by
 intro F; induction F with
 | zero => intros; rfl
 | succ F ih => intros; rw [am]; refine (Jj (rB N) (mc N) N _ _ _ _ _ (fun s => (lp Tryz.f77 0).rounds lay (E77 N) (ai Tryz.f77) F s K) K).trans ?_; simp only [ih]; rfl
theorem WD (N : Nat) : aS (E77 (β := β) N).loops (lp Tryz.f77 0).id = Uj N := by kernel_rfl
theorem XL (N : Nat) : ay lay (E77 (β := β) N) (ai Tryz.f77) (lp Tryz.f77 0) := rks (WD ..) (rc1 (fun s K hb => ⟨N, by rw [← ar hb, LJ s]; unfold zE; exact NG N K N _ _ _ _ _⟩) rc0)
theorem Zn (N : Nat) (a0 a1 a2 a3 : Int) (K : TV → O β) : aL lay (UO aeZ afw N) Tryz.f77 [.v (.agg [.int .i64 a0, .int .i64 a1]), .v (.agg [.int .i64 a2, .int .i64 a3])] K = Ol aeZ afw N a0 a1 a2 a3 (fun z4 => K (.v (.one (.bool z4)))) := by kernel_rfl
theorem o77 (N : Nat) : ao (β := β) inv Tryz.prog 77 (S77 N) := by
 refine ap au mixed (E := E77 N) (ae (aa (adn N) ag)) ak av Tryz.func77 (by kernel_rfl) 1 (by kernel_rfl) ⟨trivial, XL N⟩ fun args K r h => ?_
 unfold S77 Vq at h
 split at h
 ·exact (Zn (rB N) (mc N) N _ _ _ _ _).trans h
 ·cases h
def Vk (N : Nat) : Rv.Spec β := fun args K => match args with
 | [.v (.agg [.int .i64 a0, .int .i64 a1])] => ae9 a0 a1 (fun z2 => K (.v (.one (.sl 46 (.pairs z2)))))
 | _ => none
def S47 (N : Nat) : Rv.Spec β := Vk (uH N) N
def k8 (v0 v1 v2 : Int) (v3 : List (Int × Int)) : St := ⟨ac :: .v (.one (.ptr 0 0)) :: ac :: .v (.one (.row 1)) :: (Z' v0) :: tn 33 [], [.cells 26 [.int .i64 v1, .int .i64 v2], .row 46 (.pairs v3)]⟩
def nQ (y0 : List (Int × Int)) : St := ⟨tn 3 (.v (.one (.row 0)) :: tn 34 []), [.row 46 (.pairs y0)]⟩
def iM (v0 v1 v2 v3 : Int) (v4 : List (Int × Int)) : St := ⟨ac :: .v (.one (.ptr 0 0)) :: ac :: .v (.one (.row 1)) :: (Z' v0) :: (Z' v1) :: tn 32 [], [.cells 26 [.int .i64 v2, .int .i64 v3], .row 46 (.pairs v4)]⟩
def nR (y0 y1 y2 : Int) (y3 : List (Int × Int)) : St := ⟨ac :: .v (.one (.ptr 0 0)) :: ac :: .v (.one (.row 1)) :: (Z' y0) :: tn 33 [], [.cells 26 [.int .i64 y1, .int .i64 y2], .row 46 (.pairs y3)]⟩
def zn {γ : Type} (f : Int → Int → Int → (List (Int × Int)) → γ) (s : St) : γ := f (af (ah (vT (nx ac s.tmps 4)))) (af (nx .und (aj (nx .dead s.blks 0)) 0)) (af (nx .und (aj (nx .dead s.blks 0)) 1)) (bc (bh (nx .dead s.blks 1)))
theorem Lm (s : St) : aP (k8 0 0 0 []) s = zn k8 s := by kernel_rfl
def EQ (N : Nat) : ax β := fun s K => cond (aJ (k8 0 0 0 []) s) (zn (fun v0 v1 v2 v3 => ae8 N v0 v1 v2 v3 (fun y0 => K (.exit 0) (nQ y0))) s) (none)
def T9 (N : Nat) : ax β := EQ (ii N) N
def Rb {γ : Type} (f : Int → Int → Int → Int → (List (Int × Int)) → γ) (s : St) : γ := f (af (ah (vT (nx ac s.tmps 4)))) (af (ah (vT (nx ac s.tmps 5)))) (af (nx .und (aj (nx .dead s.blks 0)) 0)) (af (nx .und (aj (nx .dead s.blks 0)) 1)) (bc (bh (nx .dead s.blks 1)))
theorem Ln (s : St) : aP (iM 0 0 0 0 []) s = Rb iM s := by kernel_rfl
def xK (N : Nat) : ax β := fun s K => cond (aJ (iM 0 0 0 0 []) s) ((fun (v0 v1 v2 v3 : Int) (v4 : List (Int × Int)) => ae7 N v0 v1 v2 v3 v4 (fun y0 y1 y2 y3 => K (.exit 2) (nR y0 y1 y2 y3))) (af (ah (vT (nx ac s.tmps 4)))) (af (ah (vT (nx ac s.tmps 5)))) (af (nx .und (aj (nx .dead s.blks 0)) 0)) (af (nx .und (aj (nx .dead s.blks 0)) 1)) (bc (bh (nx .dead s.blks 1)))) (none)
def JK (N : Nat) : ax β := xK (kk N) N
def P4 (N : Nat) : Env β := ⟨[(77, Vq ae6 N)], [], [(0, EQ ae8 N), (2, xK ae7 N)], [], ⟨[], [], [], []⟩⟩
def E47 (N : Nat) : Env β := P4 (rC N) (kk N) (ii N) N
theorem IW (N : Nat) (v0 v1 v2 : Int) (v3 : List (Int × Int)) (rec_ : St → O β) (K : Exit → St → O β) :
  stB lay (P4 ae6 ae7 ae8 N) Tryz.f47 0 (k8 v0 v1 v2 v3) rec_ K = Gt ae7 N v0 v1 v2 v3 (fun v0 v1 v2 v3 => rec_ (k8 v0 v1 v2 v3)) (fun y0 => K (.exit 0) (nQ y0)) := by kernel_rfl
theorem Ni (N : Nat) (K : Exit → St → O β) : ∀ (F : Nat) (v0 v1 v2 : Int) (v3 : List (Int × Int)), (lp Tryz.f47 0).rounds lay (E47 N) (ai Tryz.f47) F (k8 v0 v1 v2 v3) K = ii N F v0 v1 v2 v3 (fun y0 => K (.exit 0) (nQ y0)) := by
 intro F; induction F with
 | zero => intros; rfl
 | succ F ih => intros; rw [am]; refine (IW (rC N) (kk N) (ii N) N _ _ _ _ (fun s => (lp Tryz.f47 0).rounds lay (E47 N) (ai Tryz.f47) F s K) K).trans ?_; simp only [ih]; rfl
theorem Wl (N : Nat) : aS (E47 (β := β) N).loops (lp Tryz.f47 0).id = T9 N := by kernel_rfl
theorem Xt (N : Nat) : ay lay (E47 (β := β) N) (ai Tryz.f47) (lp Tryz.f47 0) := rks (Wl ..) (rc1 (fun s K hb => ⟨N, by rw [← ar hb, Lm s]; unfold zn; exact Ni N K N _ _ _ _⟩) rc0)
theorem IX (N : Nat) (v0 v1 v2 v3 : Int) (v4 : List (Int × Int)) (rec_ : St → O β) (K : Exit → St → O β) :
  stB lay (P4 ae6 ae7 ae8 N) Tryz.f47 1 (iM v0 v1 v2 v3 v4) rec_ K = Gs ae6 N v0 v1 v2 v3 v4 (fun v0 v1 v2 v3 v4 => rec_ (iM v0 v1 v2 v3 v4)) (fun y0 y1 y2 y3 => K (.exit 2) (nR y0 y1 y2 y3)) := by kernel_rfl
theorem Nj (N : Nat) (K : Exit → St → O β) : ∀ (F : Nat) (v0 v1 v2 v3 : Int) (v4 : List (Int × Int)), (lp Tryz.f47 1).rounds lay (E47 N) (ai Tryz.f47) F (iM v0 v1 v2 v3 v4) K = kk N F v0 v1 v2 v3 v4 (fun y0 y1 y2 y3 => K (.exit 2) (nR y0 y1 y2 y3)) := by
 intro F; induction F with
 | zero => intros; rfl
 | succ F ih => intros; rw [am]; refine (IX (rC N) (kk N) (ii N) N _ _ _ _ _ (fun s => (lp Tryz.f47 1).rounds lay (E47 N) (ai Tryz.f47) F s K) K).trans ?_; simp only [ih]; rfl
theorem Wm (N : Nat) : aS (E47 (β := β) N).loops (lp Tryz.f47 1).id = JK N := by kernel_rfl
theorem Xu (N : Nat) : ay lay (E47 (β := β) N) (ai Tryz.f47) (lp Tryz.f47 1) := by
 intro s K r h
 rw [Wm] at h
 unfold JK xK at h
 cases hb : aJ (iM 0 0 0 0 []) s with
 | true =>
  rw [hb, agY] at h
  exact ⟨N, by rw [← ar hb, Ln s]; exact (Nj N K N (af (ah (vT (nx ac s.tmps 4)))) (af (ah (vT (nx ac s.tmps 5)))) (af (nx .und (aj (nx .dead s.blks 0)) 0)) (af (nx .und (aj (nx .dead s.blks 0)) 1)) (bc (bh (nx .dead s.blks 1)))).trans h⟩
 | false =>
 rw [hb, agX] at h
 clear hb
 cases h
theorem YH (N : Nat) (a0 a1 : Int) (K : TV → O β) : aL lay (P4 ae6 ae7 ae8 N) Tryz.f47 [.v (.agg [.int .i64 a0, .int .i64 a1])] K = Om ae8 N a0 a1 (fun z2 => K (.v (.one (.sl 46 (.pairs z2))))) := by kernel_rfl
theorem o47 (N : Nat) : ao (β := β) inv Tryz.prog 47 (S47 N) := by
 refine ap au mixed (E := E47 N) (ae (aa (o77 N) ag)) ak av Tryz.func47 (by kernel_rfl) 2 (by kernel_rfl) ⟨⟨trivial, Xt N⟩, Xu N⟩ fun args K r h => ?_
 unfold S47 Vk at h
 split at h
 ·exact (YH (rC N) (kk N) (ii N) N _ _ _).trans h
 ·cases h
end Go.Proofs.YtmhlcbibbhelkaaGreatDoor
