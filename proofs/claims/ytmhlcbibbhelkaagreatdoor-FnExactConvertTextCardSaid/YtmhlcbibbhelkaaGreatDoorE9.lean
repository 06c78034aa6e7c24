/- The functions that the claims cZ bz as their texts do. -/
import Derived.Test.YtmhlcbibbhelkaaGreatDoorE8
namespace Go.Proofs.YtmhlcbibbhelkaaGreatDoor
set_option linter.unusedSimpArgs false
open Go.Rv
set_option maxRecDepth 100000
set_option maxHeartbeats 2000000
set_option linter.unusedVariables false
variable {β : Type}
variable (zq0 : Y0 β) (zq1 : Y1 β) (zq2 : Y2 β) (zq3 : Y3 β) (zq6 : Y4 β) (zq7 : Y6 β) (ad8 ad9 : Y4 β) (aeF : Y9 β) (adZ : Y10 β) (ad0 ad1 : Y15 β) (ad4 : Y16 β) (aei : Y0 β) (aet : Y26 β) (aez : Y28 β) (aeu : Y18 β) (afN : Y86 β) (aeG : Y85 β) (afO : Y87 β) (aeA : Y31 β) (afP : Y88 β) (afQ : Y28 β) (aeT afR : Y10 β) (afS : Y89 β) (afT : Y35 β) (aev : Y90 β) (afU : Y38 β)
def Qh (N : Nat) : Rv.Spec β := fun args K => match args with
 | [.v (.one (.int .i64 a0)), .v (.one (.sl 46 (.pairs a1))), .v (.one (.str a2))] => aeG a0 a1 a2 (fun z3 => K (.v (.one (.str z3))))
 | _ => none
def S67 (N : Nat) : Rv.Spec β := Qh (kq N) N
def lu (v0 : Int) (v1 : ByteArray) (v2 : List (Int × Int)) (v3 v4 : Int) (v5 : List ByteArray) : St := ⟨(Z' v0) :: ac :: .v (.one (.str v1)) :: tn 4 (.v (.one (.row 0)) :: tn 5 (.v (.one (.sl 46 (.pairs v2))) :: (Z' v3) :: (Z' v4) :: tn 14 [])), [.row 9 (.strs v5)]⟩
def od (y0 : ByteArray) (y1 : List ByteArray) : St := ⟨ac :: ac :: .v (.one (.str y0)) :: tn 4 (.v (.one (.row 0)) :: tn 22 []), [.row 9 (.strs y1)]⟩
def zA {γ : Type} (f : Int → ByteArray → (List (Int × Int)) → Int → Int → List ByteArray → γ) (s : St) : γ := f (af (ah (vT (nx ac s.tmps 0)))) (dV (ah (vT (nx ac s.tmps 2)))) (bc (bF (ah (vT (nx ac s.tmps 13))))) (af (ah (vT (nx ac s.tmps 14)))) (af (ah (vT (nx ac s.tmps 15)))) (BN (bh (nx .dead s.blks 0)))
theorem LB (s : St) : aP (lu 0 ByteArray.empty [] 0 0 []) s = zA lu s := by kernel_rfl
def EW (N : Nat) : ax β := fun s K => cond (aJ (lu 0 ByteArray.empty [] 0 0 []) s) (zA (fun v0 v1 v2 v3 v4 v5 => afN N v0 v1 v2 v3 v4 v5 (fun y0 y1 => K (.exit 0) (od y0 y1))) s) (none)
def Uf (N : Nat) : ax β := EW (mn N) N
def UM (N : Nat) : Env β := ⟨[(84, Qj aet N), (101, aan N)], [], [(0, EW afN N)], [], ⟨[], [], [], []⟩⟩
def E67 (N : Nat) : Env β := UM (jp N) (mn N) N
theorem Jb (N : Nat) (v0 : Int) (v1 : ByteArray) (v2 : List (Int × Int)) (v3 v4 : Int) (v5 : List ByteArray) (rec_ : St → O β) (K : Exit → St → O β) :
  stB lay (UM aet afN N) Tryz.f67 0 (lu v0 v1 v2 v3 v4 v5) rec_ K = GG aet N v0 v1 v2 v3 v4 v5 (fun v0 v1 v2 v3 v4 v5 => rec_ (lu v0 v1 v2 v3 v4 v5)) (fun y0 y1 => K (.exit 0) (od y0 y1)) := by kernel_rfl
theorem Ny (N : Nat) (K : Exit → St → O β) : ∀ (F : Nat) (v0 : Int) (v1 : ByteArray) (v2 : List (Int × Int)) (v3 v4 : Int) (v5 : List ByteArray), (lp Tryz.f67 0).rounds lay (E67 N) (ai Tryz.f67) F (lu v0 v1 v2 v3 v4 v5) K = mn N F v0 v1 v2 v3 v4 v5 (fun y0 y1 => K (.exit 0) (od y0 y1)) := by
 intro F; induction F with
 | zero => intros; rfl
 | succ F ih => intros; rw [am]; refine (Jb (jp N) (mn N) N _ _ _ _ _ _ (fun s => (lp Tryz.f67 0).rounds lay (E67 N) (ai Tryz.f67) F s K) K).trans ?_; simp only [ih]; rfl
theorem Wv (N : Nat) : aS (E67 (β := β) N).loops (lp Tryz.f67 0).id = Uf N := by kernel_rfl
theorem XD (N : Nat) : ay lay (E67 (β := β) N) (ai Tryz.f67) (lp Tryz.f67 0) := rks (Wv ..) (rc1 (fun s K hb => ⟨N, by rw [← ar hb, LB s]; unfold zA; exact Ny N K N _ _ _ _ _ _⟩) rc0)
theorem Ze (N : Nat) (a0 : Int) (a1 : List (Int × Int)) (a2 : ByteArray) (K : TV → O β) : aL lay (UM aet afN N) Tryz.f67 [(Z' a0), .v (.one (.sl 46 (.pairs a1))), .v (.one (.str a2))] K = OK afN N a0 a1 a2 (fun z3 => K (.v (.one (.str z3)))) := by kernel_rfl
theorem o67 (N : Nat) : ao (β := β) inv Tryz.prog 67 (S67 N) := by
 refine ap au mixed (E := E67 N) (ae (aa (o84 N) (aa (adi N) ag))) ak av Tryz.func67 (by kernel_rfl) 1 (by kernel_rfl) ⟨trivial, XD N⟩ fun args K r h => ?_
 unfold S67 Qh at h
 split at h
 ·exact (Ze (jp N) (mn N) N _ _ _ _).trans h
 ·cases h
def P8 (N : Nat) : Rv.Spec β := fun args K => match args with
 | [.v (.agg [.int .i64 a0, .int .i64 a1])] => aeA a0 a1 (fun z2 => K (.v (.one (.str z2))))
 | _ => none
def S32 (N : Nat) : Rv.Spec β := P8 (io N) N
def kS (v0 v1 v2 v3 v4 v5 : Int) (v6 : List (Int × Int)) : St := ⟨ac :: .v (.one (.ptr 0 0)) :: ac :: .v (.one (.ptr 1 0)) :: .v (.one (.row 2)) :: tn 7 ((Z' v0) :: (Z' v1) :: tn 20 []), [.cells 26 [.int .i64 v2, .int .i64 v3], .cells 26 [.int .i64 v4, .int .i64 v5], .row 46 (.pairs v6)]⟩
def nC (y0 y1 : Int) (y2 : List (Int × Int)) : St := ⟨ac :: .v (.one (.ptr 0 0)) :: ac :: ac :: .v (.one (.row 1)) :: tn 29 [], [.cells 26 [.int .i64 y0, .int .i64 y1], .row 46 (.pairs y2)]⟩
def zb {γ : Type} (f : Int → Int → Int → Int → Int → Int → (List (Int × Int)) → γ) (s : St) : γ := f (af (ah (vT (nx ac s.tmps 12)))) (af (ah (vT (nx ac s.tmps 13)))) (af (nx .und (aj (nx .dead s.blks 0)) 0)) (af (nx .und (aj (nx .dead s.blks 0)) 1)) (af (nx .und (aj (nx .dead s.blks 1)) 0)) (af (nx .und (aj (nx .dead s.blks 1)) 1)) (bc (bh (nx .dead s.blks 2)))
theorem La (s : St) : aP (kS 0 0 0 0 0 0 []) s = zb kS s := by kernel_rfl
def EI (N : Nat) : ax β := fun s K => cond (aJ (kS 0 0 0 0 0 0 []) s) (zb (fun v0 v1 v2 v3 v4 v5 v6 => afO N v0 v1 v2 v3 v4 v5 v6 (fun y0 y1 y2 => K (.exit 0) (nC y0 y1 y2))) s) (none)
def T1 (N : Nat) : ax β := EI (mo N) N
def UD (N : Nat) : Env β := ⟨[(64, Ks aei N), (57, Qe aeu N), (65, xS zq2 N), (66, C8 zq3 N), (67, Qh aeG N)], [], [(0, EI afO N)], [], ⟨[], [], [], []⟩⟩
def E32 (N : Nat) : Env β := UD (zj2 N) (zj3 N) (ge N) (gh N) (kq N) (mo N) N
theorem IK (N : Nat) (v0 v1 v2 v3 v4 v5 : Int) (v6 : List (Int × Int)) (rec_ : St → O β) (K : Exit → St → O β) :
  stB lay (UD zq2 zq3 aei aeu aeG afO N) Tryz.f32 0 (kS v0 v1 v2 v3 v4 v5 v6) rec_ K = GH zq3 N v0 v1 v2 v3 v4 v5 v6 (fun v0 v1 v2 v3 v4 v5 v6 => rec_ (kS v0 v1 v2 v3 v4 v5 v6)) (fun y0 y1 y2 => K (.exit 0) (nC y0 y1 y2)) := by kernel_rfl
theorem M6 (N : Nat) (K : Exit → St → O β) : ∀ (F : Nat) (v0 v1 v2 v3 v4 v5 : Int) (v6 : List (Int × Int)), (lp Tryz.f32 0).rounds lay (E32 N) (ai Tryz.f32) F (kS v0 v1 v2 v3 v4 v5 v6) K = mo N F v0 v1 v2 v3 v4 v5 v6 (fun y0 y1 y2 => K (.exit 0) (nC y0 y1 y2)) := by
 intro F; induction F with
 | zero => intros; rfl
 | succ F ih => intros; rw [am]; refine (IK (zj2 N) (zj3 N) (ge N) (gh N) (kq N) (mo N) N _ _ _ _ _ _ _ (fun s => (lp Tryz.f32 0).rounds lay (E32 N) (ai Tryz.f32) F s K) K).trans ?_; simp only [ih]; rfl
theorem V9 (N : Nat) : aS (E32 (β := β) N).loops (lp Tryz.f32 0).id = T1 N := by kernel_rfl
theorem Xi (N : Nat) : ay lay (E32 (β := β) N) (ai Tryz.f32) (lp Tryz.f32 0) := rks (V9 ..) (rc1 (fun s K hb => ⟨N, by rw [← ar hb, La s]; unfold zb; exact M6 N K N _ _ _ _ _ _ _⟩) rc0)
theorem Ys (N : Nat) (a0 a1 : Int) (K : TV → O β) : aL lay (UD zq2 zq3 aei aeu aeG afO N) Tryz.f32 [.v (.agg [.int .i64 a0, .int .i64 a1])] K = OL zq2 aei aeu aeG afO N a0 a1 (fun z2 => K (.v (.one (.str z2)))) := by kernel_rfl
theorem o32 (N : Nat) : ao (β := β) inv Tryz.prog 32 (S32 N) := by
 refine ap au mixed (E := E32 N) (ae (aa (o64 N) (aa (o57 N) (aa (o65 N) (aa (o66 N) (aa (o67 N) ag)))))) ak av Tryz.func32 (by kernel_rfl) 1 (by kernel_rfl) ⟨trivial, Xi N⟩ fun args K r h => ?_
 unfold S32 P8 at h
 split at h
 ·exact (Ys (zj2 N) (zj3 N) (ge N) (gh N) (kq N) (mo N) N _ _ _).trans h
 ·cases h
def U8 (N : Nat) : Rv.Spec β := fun args K => match args with
 | [.v (.one (.int .i64 a0)), .v (.one (.str a1))] => afQ a0 a1 (fun z2 z3 z4 => K (.tup [.agg [.int .i64 z2, .int .i64 z3], .one (.bool z4)]))
 | _ => none
def S25 (N : Nat) : Rv.Spec β := U8 (mr N) N
def kP (v0 : Int) (v1 : ByteArray) (v2 v3 v4 v5 v6 v7 : Int) (v8 : List ByteArray) : St := ⟨(Z' v0) :: .v (.one (.str v1)) :: ac :: ac :: .v (.one (.ptr 0 0)) :: ac :: .v (.one (.ptr 1 0)) :: tn 19 (.v (.one (.row 2)) :: (Z' v2) :: (Z' v3) :: tn 28 []), [.cells 26 [.int .i64 v4, .int .i64 v5], .cells 26 [.int .i64 v6, .int .i64 v7], .row 9 (.strs v8)]⟩
def nw (y0 : Bool) (y1 y2 : Int) : St := ⟨tn 4 (.v (.one (.ptr 0 0)) :: .v (.one (.bool y0)) :: tn 51 []), [.cells 26 [.int .i64 y1, .int .i64 y2]]⟩
def ny (y0 : ByteArray) (y1 y2 y3 y4 : Int) : St := ⟨ac :: .v (.one (.str y0)) :: ac :: ac :: .v (.one (.ptr 0 0)) :: ac :: .v (.one (.ptr 1 0)) :: tn 50 [], [.cells 26 [.int .i64 y1, .int .i64 y2], .cells 26 [.int .i64 y3, .int .i64 y4]]⟩
def yX {γ : Type} (f : Int → ByteArray → Int → Int → Int → Int → Int → Int → List ByteArray → γ) (s : St) : γ := f (af (ah (vT (nx ac s.tmps 0)))) (dV (ah (vT (nx ac s.tmps 1)))) (af (ah (vT (nx ac s.tmps 27)))) (af (ah (vT (nx ac s.tmps 28)))) (af (nx .und (aj (nx .dead s.blks 0)) 0)) (af (nx .und (aj (nx .dead s.blks 0)) 1)) (af (nx .und (aj (nx .dead s.blks 1)) 0)) (af (nx .und (aj (nx .dead s.blks 1)) 1)) (BN (bh (nx .dead s.blks 2)))
theorem K7 (s : St) : aP (kP 0 ByteArray.empty 0 0 0 0 0 0 []) s = yX kP s := by kernel_rfl
def EF (N : Nat) : ax β := fun s K => cond (aJ (kP 0 ByteArray.empty 0 0 0 0 0 0 []) s) (yX (fun v0 v1 v2 v3 v4 v5 v6 v7 v8 => afP N v0 v1 v2 v3 v4 v5 v6 v7 v8 (fun y0 y1 y2 => K .ret (nw y0 y1 y2)) (fun y0 y1 y2 y3 y4 => K (.exit 0) (ny y0 y1 y2 y3 y4))) s) (none)
def TY (N : Nat) : ax β := EF (mq N) N
def UA (N : Nat) : Env β := ⟨[(54, u7 zq7 N), (55, S55 N), (56, Qd aez N), (57, Qe aeu N), (32, P8 aeA N)], [], [(0, EF afP N)], [], ⟨[], [], [], []⟩⟩
def E25 (N : Nat) : Env β := UA (zj7 N) (jq N) (gh N) (io N) (mq N) N
theorem IH (N : Nat) (v0 : Int) (v1 : ByteArray) (v2 v3 v4 v5 v6 v7 : Int) (v8 : List ByteArray) (rec_ : St → O β) (K : Exit → St → O β) :
  stB lay (UA zq7 aez aeu aeA afP N) Tryz.f25 0 (kP v0 v1 v2 v3 v4 v5 v6 v7 v8) rec_ K = GI aez N v0 v1 v2 v3 v4 v5 v6 v7 v8 (fun v0 v1 v2 v3 v4 v5 v6 v7 v8 => rec_ (kP v0 v1 v2 v3 v4 v5 v6 v7 v8)) (fun y0 y1 y2 => K .ret (nw y0 y1 y2)) (fun y0 y1 y2 y3 y4 => K (.exit 0) (ny y0 y1 y2 y3 y4)) := by kernel_rfl
theorem M3 (N : Nat) (K : Exit → St → O β) : ∀ (F : Nat) (v0 : Int) (v1 : ByteArray) (v2 v3 v4 v5 v6 v7 : Int) (v8 : List ByteArray), (lp Tryz.f25 0).rounds lay (E25 N) (ai Tryz.f25) F (kP v0 v1 v2 v3 v4 v5 v6 v7 v8) K = mq N F v0 v1 v2 v3 v4 v5 v6 v7 v8 (fun y0 y1 y2 => K .ret (nw y0 y1 y2)) (fun y0 y1 y2 y3 y4 => K (.exit 0) (ny y0 y1 y2 y3 y4)) := by
 intro F; induction F with
 | zero => intros; rfl
 | succ F ih => intros; rw [am]; refine (IH (zj7 N) (jq N) (gh N) (io N) (mq N) N _ _ _ _ _ _ _ _ _ (fun s => (lp Tryz.f25 0).rounds lay (E25 N) (ai Tryz.f25) F s K) K).trans ?_; simp only [ih]; rfl
theorem V6 (N : Nat) : aS (E25 (β := β) N).loops (lp Tryz.f25 0).id = TY N := by kernel_rfl
theorem Xf (N : Nat) : ay lay (E25 (β := β) N) (ai Tryz.f25) (lp Tryz.f25 0) := rks (V6 ..) (rc1 (fun s K hb => ⟨N, by rw [← ar hb, K7 s]; unfold yX; exact M3 N K N _ _ _ _ _ _ _ _ _⟩) rc0)
theorem Yl (N : Nat) (a0 : Int) (a1 : ByteArray) (K : TV → O β) : aL lay (UA zq7 aez aeu aeA afP N) Tryz.f25 [(Z' a0), .v (.one (.str a1))] K = CE zq7 aeu aeA afP N a0 a1 (fun z2 z3 z4 => K (.tup [.agg [.int .i64 z2, .int .i64 z3], .one (.bool z4)])) := by kernel_rfl
theorem o25 (N : Nat) : ao (β := β) inv Tryz.prog 25 (S25 N) := by
 refine ap au mixed (E := E25 N) (ae (aa (o54 N) (aa (o55 N) (aa (o56 N) (aa (o57 N) (aa (o32 N) ag)))))) ak av Tryz.func25 (by kernel_rfl) 1 (by kernel_rfl) ⟨trivial, Xf N⟩ fun args K r h => ?_
 unfold S25 U8 at h
 split at h
 ·exact (Yl (zj7 N) (jq N) (gh N) (io N) (mq N) N _ _ _).trans h
 ·cases h
def Qf (N : Nat) : Rv.Spec β := fun args K => match args with
 | [.v (.one (.int .i64 a0)), .v (.one (.sl 46 (.pairs a1)))] => aeT a0 a1 (fun z2 => K (.v (.one (.bool z2))))
 | _ => none
def S59 (N : Nat) : Rv.Spec β := Qf (pU N) N
def aaV (N : Nat) : Env β := ⟨[(54, u7 zq7 N), (86, Ql ad8 ad9 aeF N), (87, Kt ad8 N)], [], [], [], ⟨[], [], [], []⟩⟩
def E59 (N : Nat) : Env β := aaV (zj7 N) (gL N) (ij N) (vq N) N
theorem YW (N : Nat) (a0 : Int) (a1 : List (Int × Int)) (K : TV → O β) : aL lay (aaV zq7 ad8 ad9 aeF N) Tryz.f59 [(Z' a0), .v (.one (.sl 46 (.pairs a1)))] K = GJ zq7 ad8 aeF N a0 a1 (fun z2 => K (.v (.one (.bool z2)))) := by kernel_rfl
theorem o59 (N : Nat) : ao (β := β) inv Tryz.prog 59 (S59 N) := by
 refine ap au mixed (E := E59 N) (ae (aa (o54 N) (aa (o86 N) (aa (o87 N) ag)))) ak av Tryz.func59 (by kernel_rfl) 0 (by kernel_rfl) trivial fun args K r h => ?_
 unfold S59 Qf at h
 split at h
 ·exact (YW (zj7 N) (gL N) (ij N) (vq N) N _ _ _).trans h
 ·cases h
def Vl (N : Nat) : Rv.Spec β := fun args K => match args with
 | [.v (.one (.int .i64 a0)), .v (.one (.sl 46 (.pairs a1)))] => afR a0 a1 (fun z2 => K (.v (.one (.bool z2))))
 | _ => none
def S58 (N : Nat) : Rv.Spec β := Vl (pV N) N
def aaU (N : Nat) : Env β := ⟨[(59, Qf aeT N)], [], [], [], ⟨[], [], [], []⟩⟩
def E58 (N : Nat) : Env β := aaU (pU N) N
theorem YV (N : Nat) (a0 : Int) (a1 : List (Int × Int)) (K : TV → O β) : aL lay (aaU aeT N) Tryz.f58 [(Z' a0), .v (.one (.sl 46 (.pairs a1)))] K = OM aeT N a0 a1 (fun z2 => K (.v (.one (.bool z2)))) := by kernel_rfl
theorem o58 (N : Nat) : ao (β := β) inv Tryz.prog 58 (S58 N) := by
 refine ap au mixed (E := E58 N) (ae (aa (o59 N) ag)) ak av Tryz.func58 (by kernel_rfl) 0 (by kernel_rfl) trivial fun args K r h => ?_
 unfold S58 Vl at h
 split at h
 ·exact (YV (pU N) N _ _ _).trans h
 ·cases h
def U9 (N : Nat) : Rv.Spec β := fun args K => match args with
 | [.v (.one (.int .i64 a0)), .v (.one (.str a1))] => afT a0 a1 (fun z2 z3 => K (.tup [.one (.sl 46 (.pairs z2)), .one (.bool z3)]))
 | _ => none
def S26 (N : Nat) : Rv.Spec β := U9 (kr N) N
def kQ (v0 v1 v2 : Int) (v3 : List (Int × Int)) (v4 : List ByteArray) : St := ⟨(Z' v0) :: tn 5 (.v (.one (.row 0)) :: tn 15 (.v (.one (.row 1)) :: (Z' v1) :: (Z' v2) :: tn 21 [])), [.row 46 (.pairs v3), .row 9 (.strs v4)]⟩
def nz (y0 : Bool) (y1 : List (Int × Int)) : St := ⟨tn 4 (.v (.one (.row 0)) :: .v (.one (.bool y0)) :: tn 40 []), [.row 46 (.pairs y1)]⟩
def nA (y0 : Int) (y1 : List (Int × Int)) : St := ⟨(Z' y0) :: tn 5 (.v (.one (.row 0)) :: tn 39 []), [.row 46 (.pairs y1)]⟩
def yY {γ : Type} (f : Int → Int → Int → (List (Int × Int)) → List ByteArray → γ) (s : St) : γ := f (af (ah (vT (nx ac s.tmps 0)))) (af (ah (vT (nx ac s.tmps 23)))) (af (ah (vT (nx ac s.tmps 24)))) (bc (bh (nx .dead s.blks 0))) (BN (bh (nx .dead s.blks 1)))
theorem K8 (s : St) : aP (kQ 0 0 0 [] []) s = yY kQ s := by kernel_rfl
def EG (N : Nat) : ax β := fun s K => cond (aJ (kQ 0 0 0 [] []) s) (yY (fun v0 v1 v2 v3 v4 => afS N v0 v1 v2 v3 v4 (fun y0 y1 => K .ret (nz y0 y1)) (fun y0 y1 => K (.exit 0) (nA y0 y1))) s) (none)
def TZ (N : Nat) : ax β := EG (mt N) N
def UB (N : Nat) : Env β := ⟨[(54, u7 zq7 N), (55, S55 N), (56, Qd aez N), (58, Vl afR N)], [], [(0, EG afS N)], [], ⟨[], [], [], []⟩⟩
def E26 (N : Nat) : Env β := UB (zj7 N) (jq N) (pV N) (mt N) N
theorem II (N : Nat) (v0 v1 v2 : Int) (v3 : List (Int × Int)) (v4 : List ByteArray) (rec_ : St → O β) (K : Exit → St → O β) :
  stB lay (UB zq7 aez afR afS N) Tryz.f26 0 (kQ v0 v1 v2 v3 v4) rec_ K = GK aez N v0 v1 v2 v3 v4 (fun v0 v1 v2 v3 v4 => rec_ (kQ v0 v1 v2 v3 v4)) (fun y0 y1 => K .ret (nz y0 y1)) (fun y0 y1 => K (.exit 0) (nA y0 y1)) := by kernel_rfl
theorem M4 (N : Nat) (K : Exit → St → O β) : ∀ (F : Nat) (v0 v1 v2 : Int) (v3 : List (Int × Int)) (v4 : List ByteArray), (lp Tryz.f26 0).rounds lay (E26 N) (ai Tryz.f26) F (kQ v0 v1 v2 v3 v4) K = mt N F v0 v1 v2 v3 v4 (fun y0 y1 => K .ret (nz y0 y1)) (fun y0 y1 => K (.exit 0) (nA y0 y1)) := by
 intro F; induction F with
 | zero => intros; rfl
 | succ F ih => intros; rw [am]; refine (II (zj7 N) (jq N) (pV N) (mt N) N _ _ _ _ _ (fun s => (lp Tryz.f26 0).rounds lay (E26 N) (ai Tryz.f26) F s K) K).trans ?_; simp only [ih]; rfl
theorem V7 (N : Nat) : aS (E26 (β := β) N).loops (lp Tryz.f26 0).id = TZ N := by kernel_rfl
theorem Xg (N : Nat) : ay lay (E26 (β := β) N) (ai Tryz.f26) (lp Tryz.f26 0) := rks (V7 ..) (rc1 (fun s K hb => ⟨N, by rw [← ar hb, K8 s]; unfold yY; exact M4 N K N _ _ _ _ _⟩) rc0)
theorem Ym (N : Nat) (a0 : Int) (a1 : ByteArray) (K : TV → O β) : aL lay (UB zq7 aez afR afS N) Tryz.f26 [(Z' a0), .v (.one (.str a1))] K = xl zq7 afR afS N a0 a1 (fun z2 z3 => K (.tup [.one (.sl 46 (.pairs z2)), .one (.bool z3)])) := by kernel_rfl
theorem o26 (N : Nat) : ao (β := β) inv Tryz.prog 26 (S26 N) := by
 refine ap au mixed (E := E26 N) (ae (aa (o54 N) (aa (o55 N) (aa (o56 N) (aa (o58 N) ag))))) ak av Tryz.func26 (by kernel_rfl) 1 (by kernel_rfl) ⟨trivial, Xg N⟩ fun args K r h => ?_
 unfold S26 U9 at h
 split at h
 ·exact (Ym (zj7 N) (jq N) (pV N) (mt N) N _ _ _).trans h
 ·cases h
def Qg (N : Nat) : Rv.Spec β := fun args K => match args with
 | [.v (.one (.int .i64 a0)), .v (.one (.sl 46 (.pairs a1)))] => aev a0 a1 (fun z2 z3 => K (.v (.agg [.int .i64 z2, .int .i64 z3])))
 | _ => none
def S60 (N : Nat) : Rv.Spec β := Qg (ip N) N
def aaW (N : Nat) : Env β := ⟨[(52, AF zq0 zq1 zq6 adZ ad0 ad1 ad4 N), (89, Qn adZ N)], [], [], [], ⟨[], [], [], []⟩⟩
def E60 (N : Nat) : Env β := aaW (zj0 N) (zj1 N) (zj6 N) (da N) (de N) (df N) (fK N) N
theorem YX (N : Nat) (a0 : Int) (a1 : List (Int × Int)) (K : TV → O β) : aL lay (aaW zq0 zq1 zq6 adZ ad0 ad1 ad4 N) Tryz.f60 [(Z' a0), .v (.one (.sl 46 (.pairs a1)))] K = GL adZ ad4 N a0 a1 (fun z2 z3 => K (.v (.agg [.int .i64 z2, .int .i64 z3]))) := by kernel_rfl
theorem o60 (N : Nat) : ao (β := β) inv Tryz.prog 60 (S60 N) := by
 refine ap au mixed (E := E60 N) (ae (aa (o52 N) (aa (o89 N) ag))) ak av Tryz.func60 (by kernel_rfl) 0 (by kernel_rfl) trivial fun args K r h => ?_
 unfold S60 Qg at h
 split at h
 ·exact (YX (zj0 N) (zj1 N) (zj6 N) (da N) (de N) (df N) (fK N) N _ _ _).trans h
 ·cases h
def Va (N : Nat) : Rv.Spec β := fun args K => match args with
 | [.v (.one (.int .i64 a0)), .v (.one (.sl 46 (.pairs a1)))] => afU a0 a1 (fun z2 z3 z4 => K (.tup [.agg [.int .i64 z2, .int .i64 z3], .one (.bool z4)]))
 | _ => none
def S27 (N : Nat) : Rv.Spec β := Va (uJ N) N
def aaG (N : Nat) : Env β := ⟨[(59, Qf aeT N), (60, Qg aev N)], [], [], [], ⟨[], [], [], []⟩⟩
def E27 (N : Nat) : Env β := aaG (pU N) (ip N) N
theorem Yn (N : Nat) (a0 : Int) (a1 : List (Int × Int)) (K : TV → O β) : aL lay (aaG aeT aev N) Tryz.f27 [(Z' a0), .v (.one (.sl 46 (.pairs a1)))] K = ON aeT aev N a0 a1 (fun z2 z3 z4 => K (.tup [.agg [.int .i64 z2, .int .i64 z3], .one (.bool z4)])) := by kernel_rfl
theorem o27 (N : Nat) : ao (β := β) inv Tryz.prog 27 (S27 N) := by
 refine ap au mixed (E := E27 N) (ae (aa (o59 N) (aa (o60 N) ag))) ak av Tryz.func27 (by kernel_rfl) 0 (by kernel_rfl) trivial fun args K r h => ?_
 unfold S27 Va at h
 split at h
 ·exact (Yn (pU N) (ip N) N _ _ _).trans h
 ·cases h
end Go.Proofs.YtmhlcbibbhelkaaGreatDoor
