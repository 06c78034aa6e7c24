/- The functions that the claims cZ bz as their texts do. -/
import Derived.Test.YtmhlcbibbhelkaaGreatDoorE7
namespace Go.Proofs.YtmhlcbibbhelkaaGreatDoor
set_option linter.unusedSimpArgs false
open Go.Rv
set_option maxRecDepth 100000
set_option maxHeartbeats 2000000
set_option linter.unusedVariables false
variable {β : Type}
variable (zq0 : Y0 β) (zq1 : Y1 β) (zq2 : Y2 β) (zq3 : Y3 β) (zq6 : Y4 β) (zq7 : Y6 β) (zq9 : Y4 β) (adZ : Y10 β) (ad0 ad1 : Y15 β) (ad4 : Y16 β) (ad5 : Y0 β) (aeI : Y31 β) (aft : Y52 β) (afv : Y31 β) (afz : Y61 β) (afB : Y64 β) (afF afG : Y71 β) (agp : Y80 β) (afH : Y81 β) (aei : Y0 β) (afI : Y82 β) (aeE : Y31 β) (afJ : Y83 β) (afK : Y23 β) (aef : Y6 β) (afL : Y82 β) (aet : Y26 β) (afM : Y84 β) (aez : Y28 β) (aeu : Y18 β)
def VS7 (N : Nat) : Rv.Spec β := fun args K => match args with
 | [.v (.one (.str a0)), .v (.agg [.int .i64 a1, .int .i64 a2])] => agp a0 a1 a2 (fun z3 z4 => K (.tup [.one (.str z3), .one (.bool z4)]))
 | _ => none
def S7 (N : Nat) : Rv.Spec β := VS7 (xr N) N
def VE7 (N : Nat) : Env β := ⟨[(17, AE ad5 N), (18, U2 afv N), (19, P6 aeI N), (20, U3 afz N), (21, U4 afB N), (22, U5 afF N), (23, U6 afG N)], [], [], [], ⟨[], [], [], []⟩⟩
def E7 (N : Nat) : Env β := VE7 (eU N) (qV N) (CR N) (xn N) (xo N) (xp N) (xq N) N
theorem acm (N : Nat) (a0 : ByteArray) (a1 a2 : Int) (K : TV → O β) : aL lay (VE7 ad5 aeI afv afz afB afF afG N) Tryz.f7 [.v (.one (.str a0)), .v (.agg [.int .i64 a1, .int .i64 a2])] K = OC ad5 aeI afv afz afB afF afG N a0 a1 a2 (fun z3 z4 => K (.tup [.one (.str z3), .one (.bool z4)])) := by kernel_rfl
theorem o7 (N : Nat) : ao (β := β) inv Tryz.prog 7 (S7 N) := by
 refine ap au mixed (E := E7 N) (ae (aa (o17 N) (aa (o18 N) (aa (o19 N) (aa (o20 N) (aa (o21 N) (aa (o22 N) (aa (o23 N) ag)))))))) ak av Tryz.func7 (by kernel_rfl) 0 (by kernel_rfl) trivial fun args K r h => ?_
 unfold S7 VS7 at h
 split at h
 ·exact (acm (eU N) (qV N) (CR N) (xn N) (xo N) (xp N) (xq N) N _ _ _ _).trans h
 ·cases h
def VS4 (N : Nat) : Rv.Spec β := fun args K => match args with
 | [.v (.one (.str a0)), .v (.one (.str a1)), .v (.one (.int .i64 a2)), .v (.one (.str a3))] => afH a0 a1 a2 a3 (fun z4 z5 => K (.tup [.one (.str z4), .one (.bool z5)]))
 | _ => none
def S4 (N : Nat) : Rv.Spec β := VS4 (xt N) N
def VE4 (N : Nat) : Env β := ⟨[(6, VS6 aft N), (7, VS7 agp N)], [], [], [], ⟨[], [], [], []⟩⟩
def E4 (N : Nat) : Env β := VE4 (uG N) (xr N) N
theorem acj (N : Nat) (a0 a1 : ByteArray) (a2 : Int) (a3 : ByteArray) (K : TV → O β) : aL lay (VE4 aft agp N) Tryz.f4 [.v (.one (.str a0)), .v (.one (.str a1)), (Z' a2), .v (.one (.str a3))] K = OD aft agp N a0 a1 a2 a3 (fun z4 z5 => K (.tup [.one (.str z4), .one (.bool z5)])) := by kernel_rfl
theorem o4 (N : Nat) : ao (β := β) inv Tryz.prog 4 (S4 N) := by
 refine ap au mixed (E := E4 N) (ae (aa (o6 N) (aa (o7 N) ag))) ak av Tryz.func4 (by kernel_rfl) 0 (by kernel_rfl) trivial fun args K r h => ?_
 unfold S4 VS4 at h
 split at h
 ·exact (acj (uG N) (xr N) N _ _ _ _ _).trans h
 ·cases h
def Ks (N : Nat) : Rv.Spec β := fun args K => match args with
 | [.v (.agg [.int .i64 a0, .int .i64 a1])] => aei a0 a1 (fun z2 => K (.v (.one (.bool z2))))
 | _ => none
def S64 (N : Nat) : Rv.Spec β := Ks (ge N) N
def aa0 (N : Nat) : Env β := ⟨[(54, u7 zq7 N), (65, xS zq2 N)], [], [], [], ⟨[], [], [], []⟩⟩
def E64 (N : Nat) : Env β := aa0 (zj2 N) (zj7 N) N
theorem Zb (N : Nat) (a0 a1 : Int) (K : TV → O β) : aL lay (aa0 zq2 zq7 N) Tryz.f64 [.v (.agg [.int .i64 a0, .int .i64 a1])] K = OE zq2 zq7 N a0 a1 (fun z2 => K (.v (.one (.bool z2)))) := by kernel_rfl
theorem o64 (N : Nat) : ao (β := β) inv Tryz.prog 64 (S64 N) := by
 refine ap au mixed (E := E64 N) (ae (aa (o54 N) (aa (o65 N) ag))) ak av Tryz.func64 (by kernel_rfl) 0 (by kernel_rfl) trivial fun args K r h => ?_
 unfold S64 Ks at h
 split at h
 ·exact (Zb (zj2 N) (zj7 N) N _ _ _).trans h
 ·cases h
def P7 (N : Nat) : Rv.Spec β := fun args K => match args with
 | [.v (.agg [.int .i64 a0, .int .i64 a1])] => aeE a0 a1 (fun z2 => K (.v (.one (.str z2))))
 | _ => none
def S31 (N : Nat) : Rv.Spec β := P7 (mj N) N
def kR (v0 v1 v2 v3 : Int) (v4 : List Int) : St := ⟨ac :: .v (.one (.ptr 0 0)) :: ac :: .v (.one (.row 1)) :: tn 8 ((Z' v0) :: (Z' v1) :: tn 13 []), [.cells 26 [.int .i64 v2, .int .i64 v3], .row 5 (.ints .u8 v4)]⟩
def nB (y0 : List Int) : St := ⟨tn 3 (.v (.one (.row 0)) :: tn 23 []), [.row 5 (.ints .u8 y0)]⟩
def yZ {γ : Type} (f : Int → Int → Int → Int → List Int → γ) (s : St) : γ := f (af (ah (vT (nx ac s.tmps 12)))) (af (ah (vT (nx ac s.tmps 13)))) (af (nx .und (aj (nx .dead s.blks 0)) 0)) (af (nx .und (aj (nx .dead s.blks 0)) 1)) (aY (bh (nx .dead s.blks 1)))
theorem K9 (s : St) : aP (kR 0 0 0 0 []) s = yZ kR s := by kernel_rfl
def EH (N : Nat) : ax β := fun s K => cond (aJ (kR 0 0 0 0 []) s) (yZ (fun v0 v1 v2 v3 v4 => afI N v0 v1 v2 v3 v4 (fun y0 => K (.exit 0) (nB y0))) s) (none)
def T0 (N : Nat) : ax β := EH (mi N) N
def UC (N : Nat) : Env β := ⟨[(64, Ks aei N), (65, xS zq2 N), (66, C8 zq3 N)], [], [(0, EH afI N)], [], ⟨[], [], [], []⟩⟩
def E31 (N : Nat) : Env β := UC (zj2 N) (zj3 N) (ge N) (mi N) N
theorem IJ (N : Nat) (v0 v1 v2 v3 : Int) (v4 : List Int) (rec_ : St → O β) (K : Exit → St → O β) :
  stB lay (UC zq2 zq3 aei afI N) Tryz.f31 0 (kR v0 v1 v2 v3 v4) rec_ K = GB zq3 N v0 v1 v2 v3 v4 (fun v0 v1 v2 v3 v4 => rec_ (kR v0 v1 v2 v3 v4)) (fun y0 => K (.exit 0) (nB y0)) := by kernel_rfl
theorem M5 (N : Nat) (K : Exit → St → O β) : ∀ (F : Nat) (v0 v1 v2 v3 : Int) (v4 : List Int), (lp Tryz.f31 0).rounds lay (E31 N) (ai Tryz.f31) F (kR v0 v1 v2 v3 v4) K = mi N F v0 v1 v2 v3 v4 (fun y0 => K (.exit 0) (nB y0)) := by
 intro F; induction F with
 | zero => intros; rfl
 | succ F ih => intros; rw [am]; refine (IJ (zj2 N) (zj3 N) (ge N) (mi N) N _ _ _ _ _ (fun s => (lp Tryz.f31 0).rounds lay (E31 N) (ai Tryz.f31) F s K) K).trans ?_; simp only [ih]; rfl
theorem V8 (N : Nat) : aS (E31 (β := β) N).loops (lp Tryz.f31 0).id = T0 N := by kernel_rfl
theorem Xh (N : Nat) : ay lay (E31 (β := β) N) (ai Tryz.f31) (lp Tryz.f31 0) := rks (V8 ..) (rc1 (fun s K hb => ⟨N, by rw [← ar hb, K9 s]; unfold yZ; exact M5 N K N _ _ _ _ _⟩) rc0)
theorem Yr (N : Nat) (a0 a1 : Int) (K : TV → O β) : aL lay (UC zq2 zq3 aei afI N) Tryz.f31 [.v (.agg [.int .i64 a0, .int .i64 a1])] K = OF zq2 aei afI N a0 a1 (fun z2 => K (.v (.one (.str z2)))) := by kernel_rfl
theorem o31 (N : Nat) : ao (β := β) inv Tryz.prog 31 (S31 N) := by
 refine ap au mixed (E := E31 N) (ae (aa (o64 N) (aa (o65 N) (aa (o66 N) ag)))) ak av Tryz.func31 (by kernel_rfl) 1 (by kernel_rfl) ⟨trivial, Xh N⟩ fun args K r h => ?_
 unfold S31 P7 at h
 split at h
 ·exact (Yr (zj2 N) (zj3 N) (ge N) (mi N) N _ _ _).trans h
 ·cases h
def U7 (N : Nat) : Rv.Spec β := fun args K => match args with
 | [.v (.one (.str a0))] => afK a0 (fun z1 z2 z3 => K (.tup [.agg [.int .i64 z1, .int .i64 z2], .one (.bool z3)]))
 | _ => none
def S24 (N : Nat) : Rv.Spec β := U7 (rD N) N
def kO (v0 : Int) (v1 : ByteArray) (v2 v3 : Int) : St := ⟨ac :: .v (.one (.ptr 0 0)) :: .v (.one (.ptr 1 0)) :: tn 3 ((Z' v0) :: tn 18 []), [.cells 9 [.str v1], .cells 26 [.int .i64 v2, .int .i64 v3]]⟩
def nu (y0 : Bool) (y1 y2 : Int) : St := ⟨ac :: ac :: .v (.one (.ptr 0 0)) :: .v (.one (.bool y0)) :: tn 21 [], [.cells 26 [.int .i64 y1, .int .i64 y2]]⟩
def nv (y0 y1 : Int) : St := ⟨ac :: ac :: .v (.one (.ptr 0 0)) :: tn 22 [], [.cells 26 [.int .i64 y0, .int .i64 y1]]⟩
def yW {γ : Type} (f : Int → ByteArray → Int → Int → γ) (s : St) : γ := f (af (ah (vT (nx ac s.tmps 6)))) (dV (nx .und (aj (nx .dead s.blks 0)) 0)) (af (nx .und (aj (nx .dead s.blks 1)) 0)) (af (nx .und (aj (nx .dead s.blks 1)) 1))
theorem K6 (s : St) : aP (kO 0 ByteArray.empty 0 0) s = yW kO s := by kernel_rfl
def EE (N : Nat) : ax β := fun s K => cond (aJ (kO 0 ByteArray.empty 0 0) s) (yW (fun v0 v1 v2 v3 => afJ N v0 v1 v2 v3 (fun y0 y1 y2 => K .ret (nu y0 y1 y2)) (fun y0 y1 => K (.exit 0) (nv y0 y1))) s) (none)
def TX (N : Nat) : ax β := EE (gf N) N
def Uz (N : Nat) : Env β := ⟨[(52, AF zq0 zq1 zq6 adZ ad0 ad1 ad4 N), (53, Qc zq1 N), (31, P7 aeE N)], [], [(0, EE afJ N)], [], ⟨[], [], [], []⟩⟩
def E24 (N : Nat) : Env β := Uz (zj0 N) (zj1 N) (zj6 N) (da N) (de N) (df N) (fK N) (mj N) (gf N) N
theorem IG (N : Nat) (v0 : Int) (v1 : ByteArray) (v2 v3 : Int) (rec_ : St → O β) (K : Exit → St → O β) :
  stB lay (Uz zq0 zq1 zq6 adZ ad0 ad1 ad4 aeE afJ N) Tryz.f24 0 (kO v0 v1 v2 v3) rec_ K = CD zq1 ad4 aeE N v0 v1 v2 v3 (fun v0 v1 v2 v3 => rec_ (kO v0 v1 v2 v3)) (fun y0 y1 y2 => K .ret (nu y0 y1 y2)) (fun y0 y1 => K (.exit 0) (nv y0 y1)) := by kernel_rfl
theorem M2 (N : Nat) (K : Exit → St → O β) : ∀ (F : Nat) (v0 : Int) (v1 : ByteArray) (v2 v3 : Int), (lp Tryz.f24 0).rounds lay (E24 N) (ai Tryz.f24) F (kO v0 v1 v2 v3) K = gf N F v0 v1 v2 v3 (fun y0 y1 y2 => K .ret (nu y0 y1 y2)) (fun y0 y1 => K (.exit 0) (nv y0 y1)) := by
 intro F; induction F with
 | zero => intros; rfl
 | succ F ih => intros; rw [am]; refine (IG (zj0 N) (zj1 N) (zj6 N) (da N) (de N) (df N) (fK N) (mj N) (gf N) N _ _ _ _ (fun s => (lp Tryz.f24 0).rounds lay (E24 N) (ai Tryz.f24) F s K) K).trans ?_; simp only [ih]; rfl
theorem V5 (N : Nat) : aS (E24 (β := β) N).loops (lp Tryz.f24 0).id = TX N := by kernel_rfl
theorem Xe (N : Nat) : ay lay (E24 (β := β) N) (ai Tryz.f24) (lp Tryz.f24 0) := rks (V5 ..) (rc1 (fun s K hb => ⟨N, by rw [← ar hb, K6 s]; unfold yW; exact M2 N K N _ _ _ _⟩) rc0)
theorem Yk (N : Nat) (a0 : ByteArray) (K : TV → O β) : aL lay (Uz zq0 zq1 zq6 adZ ad0 ad1 ad4 aeE afJ N) Tryz.f24 [.v (.one (.str a0))] K = GC afJ N a0 (fun z1 z2 z3 => K (.tup [.agg [.int .i64 z1, .int .i64 z2], .one (.bool z3)])) := by kernel_rfl
theorem o24 (N : Nat) : ao (β := β) inv Tryz.prog 24 (S24 N) := by
 refine ap au mixed (E := E24 N) (ae (aa (o52 N) (aa (o53 N) (aa (o31 N) ag)))) ak av Tryz.func24 (by kernel_rfl) 1 (by kernel_rfl) ⟨trivial, Xe N⟩ fun args K r h => ?_
 unfold S24 U7 at h
 split at h
 ·exact (Yk (zj0 N) (zj1 N) (zj6 N) (da N) (de N) (df N) (fK N) (mj N) (gf N) N _ _).trans h
 ·cases h
def Hm (N : Nat) : Rv.Spec β := fun args K => match args with
 | [.v (.one (.int .u8 a0))] => aef a0 (fun z1 => K (.v (.one (.bool z1))))
 | _ => none
def S83 (N : Nat) : Rv.Spec β := Hm (eE N) N
def aa9 (N : Nat) : Env β := ⟨[], [], [], [], ⟨[], [], [], []⟩⟩
def E83 (N : Nat) : Env β := aa9 N
theorem Zs (N : Nat) (a0 : Int) (K : TV → O β) : aL lay (aa9 N) Tryz.f83 [.v (.one (.int .u8 a0))] K = GD N a0 (fun z1 => K (.v (.one (.bool z1)))) := by kernel_rfl
theorem o83 (N : Nat) : ao (β := β) inv Tryz.prog 83 (S83 N) := by
 refine ap au mixed (E := E83 N) (ae ag) ak av Tryz.func83 (by kernel_rfl) 0 (by kernel_rfl) trivial fun args K r h => ?_
 unfold S83 Hm at h
 split at h
 ·exact (Zs N _ _).trans h
 ·cases h
def Qj (N : Nat) : Rv.Spec β := fun args K => match args with
 | [.v (.one (.int .i64 a0)), .v (.agg [.int .i64 a1, .int .i64 a2])] => aet a0 a1 a2 (fun z3 => K (.v (.one (.str z3))))
 | _ => none
def S84 (N : Nat) : Rv.Spec β := Qj (jp N) N
def lE (v0 v1 v2 v3 : Int) (v4 : List Int) : St := ⟨tn 3 (.v (.one (.ptr 0 0)) :: ac :: .v (.one (.row 1)) :: tn 5 ((Z' v0) :: (Z' v1) :: tn 29 [])), [.cells 46 [.int .i64 v2, .int .i64 v3], .row 5 (.ints .u8 v4)]⟩
def oH (y0 : List Int) : St := ⟨tn 5 (.v (.one (.row 0)) :: tn 36 []), [.row 5 (.ints .u8 y0)]⟩
def zI {γ : Type} (f : Int → Int → Int → Int → List Int → γ) (s : St) : γ := f (af (ah (vT (nx ac s.tmps 11)))) (af (ah (vT (nx ac s.tmps 12)))) (af (nx .und (aj (nx .dead s.blks 0)) 0)) (af (nx .und (aj (nx .dead s.blks 0)) 1)) (aY (bh (nx .dead s.blks 1)))
theorem LN (s : St) : aP (lE 0 0 0 0 []) s = zI lE s := by kernel_rfl
def Fb (N : Nat) : ax β := fun s K => cond (aJ (lE 0 0 0 0 []) s) (zI (fun v0 v1 v2 v3 v4 => afL N v0 v1 v2 v3 v4 (fun y0 => K (.exit 0) (oH y0))) s) (none)
def Un (N : Nat) : ax β := Fb (ml N) N
def US (N : Nat) : Env β := ⟨[(88, Qm zq9 N)], [], [(0, Fb afL N)], [], ⟨[], [], [], []⟩⟩
def E84 (N : Nat) : Env β := US (zj9 N) (ml N) N
theorem Jn (N : Nat) (v0 v1 v2 v3 : Int) (v4 : List Int) (rec_ : St → O β) (K : Exit → St → O β) :
  stB lay (US zq9 afL N) Tryz.f84 0 (lE v0 v1 v2 v3 v4) rec_ K = GE N v0 v1 v2 v3 v4 (fun v0 v1 v2 v3 v4 => rec_ (lE v0 v1 v2 v3 v4)) (fun y0 => K (.exit 0) (oH y0)) := by kernel_rfl
theorem NK (N : Nat) (K : Exit → St → O β) : ∀ (F : Nat) (v0 v1 v2 v3 : Int) (v4 : List Int), (lp Tryz.f84 0).rounds lay (E84 N) (ai Tryz.f84) F (lE v0 v1 v2 v3 v4) K = ml N F v0 v1 v2 v3 v4 (fun y0 => K (.exit 0) (oH y0)) := by
 intro F; induction F with
 | zero => intros; rfl
 | succ F ih => intros; rw [am]; refine (Jn (zj9 N) (ml N) N _ _ _ _ _ (fun s => (lp Tryz.f84 0).rounds lay (E84 N) (ai Tryz.f84) F s K) K).trans ?_; simp only [ih]; rfl
theorem WH (N : Nat) : aS (E84 (β := β) N).loops (lp Tryz.f84 0).id = Un N := by kernel_rfl
theorem XP (N : Nat) : ay lay (E84 (β := β) N) (ai Tryz.f84) (lp Tryz.f84 0) := rks (WH ..) (rc1 (fun s K hb => ⟨N, by rw [← ar hb, LN s]; unfold zI; exact NK N K N _ _ _ _ _⟩) rc0)
theorem Zt (N : Nat) (a0 a1 a2 : Int) (K : TV → O β) : aL lay (US zq9 afL N) Tryz.f84 [(Z' a0), .v (.agg [.int .i64 a1, .int .i64 a2])] K = OH zq9 afL N a0 a1 a2 (fun z3 => K (.v (.one (.str z3)))) := by kernel_rfl
theorem o84 (N : Nat) : ao (β := β) inv Tryz.prog 84 (S84 N) := by
 refine ap au mixed (E := E84 N) (ae (aa (o88 N) ag)) ak av Tryz.func84 (by kernel_rfl) 1 (by kernel_rfl) ⟨trivial, XP N⟩ fun args K r h => ?_
 unfold S84 Qj at h
 split at h
 ·exact (Zt (zj9 N) (ml N) N _ _ _ _).trans h
 ·cases h
def Qd (N : Nat) : Rv.Spec β := fun args K => match args with
 | [.v (.one (.int .i64 a0)), .v (.one (.str a1))] => aez a0 a1 (fun z2 z3 z4 => K (.tup [.agg [.int .i64 z2, .int .i64 z3], .one (.bool z4)]))
 | _ => none
def S56 (N : Nat) : Rv.Spec β := Qd (jq N) N
def lr (v0 : Int) (v1 : ByteArray) (v2 v3 v4 v5 v6 v7 v8 : Int) : St := ⟨(Z' v0) :: .v (.one (.str v1)) :: ac :: ac :: .v (.one (.ptr 0 0)) :: ac :: .v (.one (.ptr 1 0)) :: (Z' v2) :: tn 4 ((Z' v3) :: (Z' v4) :: tn 43 []), [.cells 46 [.int .i64 v5, .int .i64 v6], .cells 46 [.int .i64 v7, .int .i64 v8]]⟩
def oc (y0 : Int) (y1 : ByteArray) (y2 y3 y4 y5 : Int) : St := ⟨(Z' y0) :: .v (.one (.str y1)) :: ac :: ac :: .v (.one (.ptr 0 0)) :: ac :: .v (.one (.ptr 1 0)) :: tn 50 [], [.cells 46 [.int .i64 y2, .int .i64 y3], .cells 46 [.int .i64 y4, .int .i64 y5]]⟩
def zz {γ : Type} (f : Int → ByteArray → Int → Int → Int → Int → Int → Int → Int → γ) (s : St) : γ := f (af (ah (vT (nx ac s.tmps 0)))) (dV (ah (vT (nx ac s.tmps 1)))) (af (ah (vT (nx ac s.tmps 7)))) (af (ah (vT (nx ac s.tmps 12)))) (af (ah (vT (nx ac s.tmps 13)))) (af (nx .und (aj (nx .dead s.blks 0)) 0)) (af (nx .und (aj (nx .dead s.blks 0)) 1)) (af (nx .und (aj (nx .dead s.blks 1)) 0)) (af (nx .und (aj (nx .dead s.blks 1)) 1))
theorem LA (s : St) : aP (lr 0 ByteArray.empty 0 0 0 0 0 0 0) s = zz lr s := by kernel_rfl
def EV (N : Nat) : ax β := fun s K => cond (aJ (lr 0 ByteArray.empty 0 0 0 0 0 0 0) s) (zz (fun v0 v1 v2 v3 v4 v5 v6 v7 v8 => afM N v0 v1 v2 v3 v4 v5 v6 v7 v8 (fun y0 y1 y2 y3 y4 y5 => K (.exit 0) (oc y0 y1 y2 y3 y4 y5))) s) (none)
def Ue (N : Nat) : ax β := EV (mm N) N
def UL (N : Nat) : Env β := ⟨[(83, Hm aef N), (84, Qj aet N)], [], [(0, EV afM N)], [], ⟨[], [], [], []⟩⟩
def E56 (N : Nat) : Env β := UL (eE N) (jp N) (mm N) N
theorem Ja (N : Nat) (v0 : Int) (v1 : ByteArray) (v2 v3 v4 v5 v6 v7 v8 : Int) (rec_ : St → O β) (K : Exit → St → O β) :
  stB lay (UL aef aet afM N) Tryz.f56 0 (lr v0 v1 v2 v3 v4 v5 v6 v7 v8) rec_ K = GF aef N v0 v1 v2 v3 v4 v5 v6 v7 v8 (fun v0 v1 v2 v3 v4 v5 v6 v7 v8 => rec_ (lr v0 v1 v2 v3 v4 v5 v6 v7 v8)) (fun y0 y1 y2 y3 y4 y5 => K (.exit 0) (oc y0 y1 y2 y3 y4 y5)) := by kernel_rfl
theorem Nx (N : Nat) (K : Exit → St → O β) : ∀ (F : Nat) (v0 : Int) (v1 : ByteArray) (v2 v3 v4 v5 v6 v7 v8 : Int), (lp Tryz.f56 0).rounds lay (E56 N) (ai Tryz.f56) F (lr v0 v1 v2 v3 v4 v5 v6 v7 v8) K = mm N F v0 v1 v2 v3 v4 v5 v6 v7 v8 (fun y0 y1 y2 y3 y4 y5 => K (.exit 0) (oc y0 y1 y2 y3 y4 y5)) := by
 intro F; induction F with
 | zero => intros; rfl
 | succ F ih => intros; rw [am]; refine (Ja (eE N) (jp N) (mm N) N _ _ _ _ _ _ _ _ _ (fun s => (lp Tryz.f56 0).rounds lay (E56 N) (ai Tryz.f56) F s K) K).trans ?_; simp only [ih]; rfl
theorem Wu (N : Nat) : aS (E56 (β := β) N).loops (lp Tryz.f56 0).id = Ue N := by kernel_rfl
theorem XC (N : Nat) : ay lay (E56 (β := β) N) (ai Tryz.f56) (lp Tryz.f56 0) := rks (Wu ..) (rc1 (fun s K hb => ⟨N, by rw [← ar hb, LA s]; unfold zz; exact Nx N K N _ _ _ _ _ _ _ _ _⟩) rc0)
theorem YT (N : Nat) (a0 : Int) (a1 : ByteArray) (K : TV → O β) : aL lay (UL aef aet afM N) Tryz.f56 [(Z' a0), .v (.one (.str a1))] K = OI aet afM N a0 a1 (fun z2 z3 z4 => K (.tup [.agg [.int .i64 z2, .int .i64 z3], .one (.bool z4)])) := by kernel_rfl
theorem o56 (N : Nat) : ao (β := β) inv Tryz.prog 56 (S56 N) := by
 refine ap au mixed (E := E56 N) (ae (aa (o83 N) (aa (o84 N) ag))) ak av Tryz.func56 (by kernel_rfl) 1 (by kernel_rfl) ⟨trivial, XC N⟩ fun args K r h => ?_
 unfold S56 Qd at h
 split at h
 ·exact (YT (eE N) (jp N) (mm N) N _ _ _).trans h
 ·cases h
def Qe (N : Nat) : Rv.Spec β := fun args K => match args with
 | [.v (.agg [.int .i64 a0, .int .i64 a1])] => aeu a0 a1 (fun z2 z3 => K (.v (.agg [.int .i64 z2, .int .i64 z3])))
 | _ => none
def S57 (N : Nat) : Rv.Spec β := Qe (gh N) N
def aaT (N : Nat) : Env β := ⟨[(52, AF zq0 zq1 zq6 adZ ad0 ad1 ad4 N), (85, Qk zq6 N)], [], [], [], ⟨[], [], [], []⟩⟩
def E57 (N : Nat) : Env β := aaT (zj0 N) (zj1 N) (zj6 N) (da N) (de N) (df N) (fK N) N
theorem YU (N : Nat) (a0 a1 : Int) (K : TV → O β) : aL lay (aaT zq0 zq1 zq6 adZ ad0 ad1 ad4 N) Tryz.f57 [.v (.agg [.int .i64 a0, .int .i64 a1])] K = OJ zq6 ad4 N a0 a1 (fun z2 z3 => K (.v (.agg [.int .i64 z2, .int .i64 z3]))) := by kernel_rfl
theorem o57 (N : Nat) : ao (β := β) inv Tryz.prog 57 (S57 N) := by
 refine ap au mixed (E := E57 N) (ae (aa (o52 N) (aa (o85 N) ag))) ak av Tryz.func57 (by kernel_rfl) 0 (by kernel_rfl) trivial fun args K r h => ?_
 unfold S57 Qe at h
 split at h
 ·exact (YU (zj0 N) (zj1 N) (zj6 N) (da N) (de N) (df N) (fK N) N _ _ _).trans h
 ·cases h
end Go.Proofs.YtmhlcbibbhelkaaGreatDoor
