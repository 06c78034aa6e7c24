/- The functions that the claims dl bK as their texts do. -/
import Derived.Test.YtemihnclhcobnaaGreatDoorE5
namespace Go.Proofs.YtemihnclhcobnaaGreatDoor
set_option linter.unusedSimpArgs false
open Go.Rv
set_option maxRecDepth 100000
set_option maxHeartbeats 2000000
set_option linter.unusedVariables false
variable {β : Type}
variable (zq3 : Y2 β) (zq12 : Y7 β) (zq13 : Y8 β) (zq30 : Y0 β) (zq50 zq51 zq56 : Y25 β) (zq70 : Y35 β) (zq82 : Y40 β) (zq85 : Y6 β) (zq88 : Y43 β) (zq91 : Y45 β) (zq104 : Y35 β) (zq106 : Y55 β) (zq107 : Y54 β) (zq109 : Y58 β) (zq111 : Y57 β) (zq112 : Y56 β) (zq113 : Y6 β) (zq114 : Y59 β) (zq115 : Y40 β) (zq116 : Y0 β) (zq117 : Y1 β) (zq119 : Y60 β) (zq120 : Y30 β) (zq121 : Y18 β)
def If (N : Nat) : Rv.Spec β := fun args K => match args with
 | [.v (.one (.sl 93 (.pairs a0))), .v (.one (.int .i64 a1)), .v (.one (.int .i64 a2))] => zq107 a0 a1 a2 (fun z3 => K (.v (.one (.bool z3))))
 | _ => none
def Vo (N : Nat) : Rv.Spec β := If (py N) N
def gX (v0 : List (Int × Int)) (v1 v2 : Int) (v3 v4 : Bool) (v5 : Int) : St := ⟨.v (.one (.sl 93 (.pairs v0))) :: (Z' v1) :: (Z' v2) :: tn 4 (.v (.one (.bool v3)) :: .v (.one (.bool v4)) :: (Z' v5) :: tn 50 []), []⟩
def kI (y0 : Bool) : St := ⟨tn 6 (.v (.one (.bool y0)) :: tn 53 []), []⟩
def kJ (y0 y1 : Bool) : St := ⟨tn 7 (.v (.one (.bool y0)) :: .v (.one (.bool y1)) :: tn 51 []), []⟩
def rT {γ : Type} (f : (List (Int × Int)) → Int → Int → Bool → Bool → Int → γ) (s : St) : γ := f (aL (bg (ag (vT (nx ac s.tmps 0))))) (ae (ag (vT (nx ac s.tmps 1)))) (ae (ag (vT (nx ac s.tmps 2)))) (o0 (ag (vT (nx ac s.tmps 7)))) (o0 (ag (vT (nx ac s.tmps 8)))) (ae (ag (vT (nx ac s.tmps 9))))
theorem FM (s : St) : aT (gX [] 0 0 false false 0) s = rT gX s := by kernel_rfl
def yg (N : Nat) : ay β := fun s K => cond (aK (gX [] 0 0 false false 0) s) (rT (fun v0 v1 v2 v3 v4 v5 => zq106 N v0 v1 v2 v3 v4 v5 (fun y0 => K .ret (kI y0)) (fun y0 y1 => K (.exit 0) (kJ y0 y1))) s) (none)
def MF (N : Nat) : ay β := yg (l0 N) N
def HV (N : Nat) : Env β := ⟨[], [], [(0, yg zq106 N)], [], ⟨[], [], [], []⟩⟩
def Mc (N : Nat) : Env β := HV (l0 N) N
theorem CB (N : Nat) (v0 : List (Int × Int)) (v1 v2 : Int) (v3 v4 : Bool) (v5 : Int) (rec_ : St → O β) (K : Exit → St → O β) :
  stB lay (HV zq106 N) Tryz.f215 0 (gX v0 v1 v2 v3 v4 v5) rec_ K = Es N v0 v1 v2 v3 v4 v5 (fun v0 v1 v2 v3 v4 v5 => rec_ (gX v0 v1 v2 v3 v4 v5)) (fun y0 => K .ret (kI y0)) (fun y0 y1 => K (.exit 0) (kJ y0 y1)) := by kernel_rfl
theorem GO (N : Nat) (K : Exit → St → O β) : ∀ (F : Nat) (v0 : List (Int × Int)) (v1 v2 : Int) (v3 v4 : Bool) (v5 : Int), (lp Tryz.f215 0).rounds lay (Mc N) (ah Tryz.f215) F (gX v0 v1 v2 v3 v4 v5) K = l0 N F v0 v1 v2 v3 v4 v5 (fun y0 => K .ret (kI y0)) (fun y0 y1 => K (.exit 0) (kJ y0 y1)) := by
 intro F; induction F with
 | zero => intros; rfl
 | succ F ih => intros; rw [am]; refine (CB (l0 N) N _ _ _ _ _ _ (fun s => (lp Tryz.f215 0).rounds lay (Mc N) (ah Tryz.f215) F s K) K).trans ?_; simp only [ih]; rfl
theorem NQ (N : Nat) : aS (Mc (β := β) N).loops (lp Tryz.f215 0).id = MF N := by kernel_rfl
theorem ON (N : Nat) : az lay (Mc (β := β) N) (ah Tryz.f215) (lp Tryz.f215 0) := rks (NQ ..) (rc1 (fun s K hb => ⟨N, by rw [← ar hb, FM s]; unfold rT; exact GO N K N _ _ _ _ _ _⟩) rc0)
theorem PU (N : Nat) (a0 : List (Int × Int)) (a1 a2 : Int) (K : TV → O β) : aQ lay (HV zq106 N) Tryz.f215 [.v (.one (.sl 93 (.pairs a0))), (Z' a1), (Z' a2)] K = KO zq106 N a0 a1 a2 (fun z3 => K (.v (.one (.bool z3)))) := by kernel_rfl
theorem X4 (N : Nat) : ap (β := β) inv Tryz.prog 215 (Vo N) := by
 refine aq ax mixed (E := Mc N) (af ai) ak aA Tryz.func215 (by kernel_rfl) 1 (by kernel_rfl) ⟨trivial, ON N⟩ fun args K r h => ?_
 unfold Vo If at h
 split at h
 ·exact (PU (l0 N) N _ _ _ _).trans h
 ·cases h
def H5 (N : Nat) : Rv.Spec β := fun args K => match args with
 | [.v (.one (.int .i64 a0)), .v (.one (.sl 93 (.pairs a1)))] => zq112 a0 a1 (fun z2 z3 => K (.tup [.one (.sl 40 (.lists 3 z2)), .one (.bool z3)]))
 | _ => none
def U4 (N : Nat) : Rv.Spec β := H5 (vt N) N
def gL (v0 : Int) (v1 : List (Int × Int)) (v2 : Int) (v3 : List (List Int)) : St := ⟨(Z' v0) :: .v (.one (.sl 93 (.pairs v1))) :: tn 4 (.v (.one (.row 0)) :: (Z' v2) :: tn 42 []), [.row 40 (.lists 3 v3)]⟩
def kr (y0 : List (List Int)) : St := ⟨tn 6 (.v (.one (.row 0)) :: tn 43 []), [.row 40 (.lists 3 y0)]⟩
def fi (v0 : Int) (v1 : List (Int × Int)) (v2 v3 : Int) (v4 : List (List Int)) : St := ⟨(Z' v0) :: .v (.one (.sl 93 (.pairs v1))) :: tn 4 (.v (.one (.row 0)) :: (Z' v2) :: (Z' v3) :: tn 41 []), [.row 40 (.lists 3 v4)]⟩
def ks (y0 : Int) (y1 : List (Int × Int)) (y2 : Int) (y3 : List (List Int)) : St := ⟨(Z' y0) :: .v (.one (.sl 93 (.pairs y1))) :: tn 4 (.v (.one (.row 0)) :: (Z' y2) :: tn 42 []), [.row 40 (.lists 3 y3)]⟩
def rI {γ : Type} (f : Int → (List (Int × Int)) → Int → List (List Int) → γ) (s : St) : γ := f (ae (ag (vT (nx ac s.tmps 0)))) (aL (bg (ag (vT (nx ac s.tmps 1))))) (ae (ag (vT (nx ac s.tmps 7)))) (fZ (aV (nx .dead s.blks 0)))
theorem Fz (s : St) : aT (gL 0 [] 0 []) s = rI gL s := by kernel_rfl
def xU (N : Nat) : ay β := fun s K => cond (aK (gL 0 [] 0 []) s) (rI (fun v0 v1 v2 v3 => zq111 N v0 v1 v2 v3 (fun y0 => K (.exit 0) (kr y0))) s) (none)
def Mu (N : Nat) : ay β := xU (im N) N
def JO {γ : Type} (f : Int → (List (Int × Int)) → Int → Int → List (List Int) → γ) (s : St) : γ := f (ae (ag (vT (nx ac s.tmps 0)))) (aL (bg (ag (vT (nx ac s.tmps 1))))) (ae (ag (vT (nx ac s.tmps 7)))) (ae (ag (vT (nx ac s.tmps 8)))) (fZ (aV (nx .dead s.blks 0)))
theorem FA (s : St) : aT (fi 0 [] 0 0 []) s = JO fi s := by kernel_rfl
def qe (N : Nat) : ay β := fun s K => cond (aK (fi 0 [] 0 0 []) s) ((fun (v0 : Int) (v1 : List (Int × Int)) (v2 v3 : Int) (v4 : List (List Int)) => zq109 N v0 v1 v2 v3 v4 (fun y0 y1 y2 y3 => K (.exit 2) (ks y0 y1 y2 y3))) (ae (ag (vT (nx ac s.tmps 0)))) (aL (bg (ag (vT (nx ac s.tmps 1))))) (ae (ag (vT (nx ac s.tmps 7)))) (ae (ag (vT (nx ac s.tmps 8)))) (fZ (aV (nx .dead s.blks 0)))) (none)
def CW (N : Nat) : ay β := qe (kU N) N
def C0 (N : Nat) : Env β := ⟨[(122, Db zq85 N), (215, If zq107 N)], [], [(0, xU zq111 N), (2, qe zq109 N)], [], ⟨[], [], [], []⟩⟩
def AO (N : Nat) : Env β := C0 (nX N) (py N) (kU N) (im N) N
theorem Cm (N : Nat) (v0 : Int) (v1 : List (Int × Int)) (v2 : Int) (v3 : List (List Int)) (rec_ : St → O β) (K : Exit → St → O β) :
  stB lay (C0 zq85 zq107 zq109 zq111 N) Tryz.f152 0 (gL v0 v1 v2 v3) rec_ K = Eu zq109 N v0 v1 v2 v3 (fun v0 v1 v2 v3 => rec_ (gL v0 v1 v2 v3)) (fun y0 => K (.exit 0) (kr y0)) := by kernel_rfl
theorem GB (N : Nat) (K : Exit → St → O β) : ∀ (F : Nat) (v0 : Int) (v1 : List (Int × Int)) (v2 : Int) (v3 : List (List Int)), (lp Tryz.f152 0).rounds lay (AO N) (ah Tryz.f152) F (gL v0 v1 v2 v3) K = im N F v0 v1 v2 v3 (fun y0 => K (.exit 0) (kr y0)) := by
 intro F; induction F with
 | zero => intros; rfl
 | succ F ih => intros; rw [am]; refine (Cm (nX N) (py N) (kU N) (im N) N _ _ _ _ (fun s => (lp Tryz.f152 0).rounds lay (AO N) (ah Tryz.f152) F s K) K).trans ?_; simp only [ih]; rfl
theorem ND (N : Nat) : aS (AO (β := β) N).loops (lp Tryz.f152 0).id = Mu N := by kernel_rfl
theorem Oz (N : Nat) : az lay (AO (β := β) N) (ah Tryz.f152) (lp Tryz.f152 0) := rks (ND ..) (rc1 (fun s K hb => ⟨N, by rw [← ar hb, Fz s]; unfold rI; exact GB N K N _ _ _ _⟩) rc0)
theorem Cn (N : Nat) (v0 : Int) (v1 : List (Int × Int)) (v2 v3 : Int) (v4 : List (List Int)) (rec_ : St → O β) (K : Exit → St → O β) :
  stB lay (C0 zq85 zq107 zq109 zq111 N) Tryz.f152 1 (fi v0 v1 v2 v3 v4) rec_ K = Et zq107 N v0 v1 v2 v3 v4 (fun v0 v1 v2 v3 v4 => rec_ (fi v0 v1 v2 v3 v4)) (fun y0 y1 y2 y3 => K (.exit 2) (ks y0 y1 y2 y3)) := by kernel_rfl
theorem GC (N : Nat) (K : Exit → St → O β) : ∀ (F : Nat) (v0 : Int) (v1 : List (Int × Int)) (v2 v3 : Int) (v4 : List (List Int)), (lp Tryz.f152 1).rounds lay (AO N) (ah Tryz.f152) F (fi v0 v1 v2 v3 v4) K = kU N F v0 v1 v2 v3 v4 (fun y0 y1 y2 y3 => K (.exit 2) (ks y0 y1 y2 y3)) := by
 intro F; induction F with
 | zero => intros; rfl
 | succ F ih => intros; rw [am]; refine (Cn (nX N) (py N) (kU N) (im N) N _ _ _ _ _ (fun s => (lp Tryz.f152 1).rounds lay (AO N) (ah Tryz.f152) F s K) K).trans ?_; simp only [ih]; rfl
theorem NE (N : Nat) : aS (AO (β := β) N).loops (lp Tryz.f152 1).id = CW N := by kernel_rfl
theorem OA (N : Nat) : az lay (AO (β := β) N) (ah Tryz.f152) (lp Tryz.f152 1) := by
 intro s K r h
 rw [NE] at h
 unfold CW qe at h
 cases hb : aK (fi 0 [] 0 0 []) s with
 | true =>
  rw [hb, YC] at h
  exact ⟨N, by rw [← ar hb, FA s]; exact (GC N K N (ae (ag (vT (nx ac s.tmps 0)))) (aL (bg (ag (vT (nx ac s.tmps 1))))) (ae (ag (vT (nx ac s.tmps 7)))) (ae (ag (vT (nx ac s.tmps 8)))) (fZ (aV (nx .dead s.blks 0)))).trans h⟩
 | false =>
 rw [hb, YB] at h
 clear hb
 cases h
theorem Pv (N : Nat) (a0 : Int) (a1 : List (Int × Int)) (K : TV → O β) : aQ lay (C0 zq85 zq107 zq109 zq111 N) Tryz.f152 [(Z' a0), .v (.one (.sl 93 (.pairs a1)))] K = KP zq85 zq111 N a0 a1 (fun z2 z3 => K (.tup [.one (.sl 40 (.lists 3 z2)), .one (.bool z3)])) := by kernel_rfl
theorem XQ (N : Nat) : ap (β := β) inv Tryz.prog 152 (U4 N) := by
 refine aq ax mixed (E := AO N) (af (aa (Wc N) (aa (X4 N) ai))) ak aA Tryz.func152 (by kernel_rfl) 2 (by kernel_rfl) ⟨⟨trivial, Oz N⟩, OA N⟩ fun args K r h => ?_
 unfold U4 H5 at h
 split at h
 ·exact (Pv (nX N) (py N) (kU N) (im N) N _ _ _).trans h
 ·cases h
def R4 (N : Nat) : Rv.Spec β := fun args K => match args with
 | [.v (.one (.int .i64 a0)), .v (.one (.sl 93 (.pairs a1)))] => zq113 a0 a1 (fun z2 => K (.v (.one (.bool z2))))
 | _ => none
def S84 (N : Nat) : Rv.Spec β := R4 (vu N) N
def VN (N : Nat) : Env β := ⟨[(152, H5 zq112 N)], [], [], [], ⟨[], [], [], []⟩⟩
def E84 (N : Nat) : Env β := VN (vt N) N
theorem TU (N : Nat) (a0 : Int) (a1 : List (Int × Int)) (K : TV → O β) : aQ lay (VN zq112 N) Tryz.f84 [(Z' a0), .v (.one (.sl 93 (.pairs a1)))] K = KQ zq112 N a0 a1 (fun z2 => K (.v (.one (.bool z2)))) := by kernel_rfl
theorem o84 (N : Nat) : ap (β := β) inv Tryz.prog 84 (S84 N) := by
 refine aq ax mixed (E := E84 N) (af (aa (XQ N) ai)) ak aA Tryz.func84 (by kernel_rfl) 0 (by kernel_rfl) trivial fun args K r h => ?_
 unfold S84 R4 at h
 split at h
 ·exact (TU (vt N) N _ _ _).trans h
 ·cases h
def RP (N : Nat) : Rv.Spec β := fun args K => match args with
 | [.v (.one (.bool a0)), .v (.one (.str a1))] => zq114 a0 a1 (fun z2 => K (.v (.one (.str z2))))
 | _ => none
def S29 (N : Nat) : Rv.Spec β := RP (AC N) N
def Vz (N : Nat) : Env β := ⟨[], [], [], [], ⟨[], [], [], []⟩⟩
def E29 (N : Nat) : Env β := Vz N
theorem Tz (N : Nat) (a0 : Bool) (a1 : ByteArray) (K : TV → O β) : aQ lay (Vz N) Tryz.f29 [.v (.one (.bool a0)), .v (.one (.str a1))] K = KR N a0 a1 (fun z2 => K (.v (.one (.str z2)))) := by kernel_rfl
theorem o29 (N : Nat) : ap (β := β) inv Tryz.prog 29 (S29 N) := by
 refine aq ax mixed (E := E29 N) (af ai) ak aA Tryz.func29 (by kernel_rfl) 0 (by kernel_rfl) trivial fun args K r h => ?_
 unfold S29 RP at h
 split at h
 ·exact (Tz N _ _ _).trans h
 ·cases h
def RM (N : Nat) : Rv.Spec β := fun args K => match args with
 | [.v (.agg [.int .i64 a0, .int .i64 a1])] => zq115 a0 a1 (fun z2 => K (.v (.one (.str z2))))
 | _ => none
def S18 (N : Nat) : Rv.Spec β := RM (nS N) N
def Vw (N : Nat) : Env β := ⟨[(20, vP zq30 N), (71, RT zq50 N), (82, R2 zq51 N), (83, R3 zq56 N), (73, RV zq70 N), (70, RS zq82 N), (72, RU zq88 N), (23, RO zq91 N), (74, RW zq104 N), (84, R4 zq113 N), (29, RP zq114 N)], [], [], [], ⟨[], [], [], []⟩⟩
def E18 (N : Nat) : Env β := Vw (du N) (Hq N) (LR N) (Hr N) (Hs N) (Ht N) (Hu N) (Hv N) (vq N) (vu N) (AC N) N
theorem Tv (N : Nat) (a0 a1 : Int) (K : TV → O β) : aQ lay (Vw zq30 zq50 zq51 zq56 zq70 zq82 zq88 zq91 zq104 zq113 zq114 N) Tryz.f18 [.v (.agg [.int .i64 a0, .int .i64 a1])] K = At zq30 zq50 zq51 zq56 zq70 zq82 zq88 zq91 zq104 zq113 zq114 N a0 a1 (fun z2 => K (.v (.one (.str z2)))) := by kernel_rfl
theorem o18 (N : Nat) : ap (β := β) inv Tryz.prog 18 (S18 N) := by
 refine aq ax mixed (E := E18 N) (af (aa (o20 N) (aa (o71 N) (aa (o82 N) (aa (o83 N) (aa (o73 N) (aa (o70 N) (aa (o72 N) (aa (o23 N) (aa (o74 N) (aa (o84 N) (aa (o29 N) ai)))))))))))) ak aA Tryz.func18 (by kernel_rfl) 0 (by kernel_rfl) trivial fun args K r h => ?_
 unfold S18 RM at h
 split at h
 ·exact (Tv (du N) (Hq N) (LR N) (Hr N) (Hs N) (Ht N) (Hu N) (Hv N) (vq N) (vu N) (AC N) N _ _ _).trans h
 ·cases h
def Im (N : Nat) : Rv.Spec β := fun args K => match args with
 | [.v (.agg [.int .i64 a0, .int .i64 a1])] => zq116 a0 a1 (fun z2 => K (.v (.one (.bool z2))))
 | _ => none
def S37 (N : Nat) : Rv.Spec β := Im (fO N) N
def VA (N : Nat) : Env β := ⟨[(99, Ir zq3 N), (100, oZ zq12 N)], [], [], [], ⟨[], [], [], []⟩⟩
def E37 (N : Nat) : Env β := VA (zj3 N) (db N) N
theorem TA (N : Nat) (a0 a1 : Int) (K : TV → O β) : aQ lay (VA zq3 zq12 N) Tryz.f37 [.v (.agg [.int .i64 a0, .int .i64 a1])] K = KS zq3 zq12 N a0 a1 (fun z2 => K (.v (.one (.bool z2)))) := by kernel_rfl
theorem o37 (N : Nat) : ap (β := β) inv Tryz.prog 37 (S37 N) := by
 refine aq ax mixed (E := E37 N) (af (aa (o99 N) (aa (F9 N) ai))) ak aA Tryz.func37 (by kernel_rfl) 0 (by kernel_rfl) trivial fun args K r h => ?_
 unfold S37 Im at h
 split at h
 ·exact (TA (zj3 N) (db N) N _ _ _).trans h
 ·cases h
def Io (N : Nat) : Rv.Spec β := fun args K => match args with
 | [.v (.agg [.int .i64 a0, .int .i64 a1]), .v (.one (.int .i64 a2))] => zq117 a0 a1 a2 (fun z3 => K (.v (.one (.bool z3))))
 | _ => none
def S45 (N : Nat) : Rv.Spec β := Io (el N) N
def VD (N : Nat) : Env β := ⟨[(37, Im zq116 N)], [], [], [], ⟨[], [], [], []⟩⟩
def E45 (N : Nat) : Env β := VD (fO N) N
theorem TD (N : Nat) (a0 a1 a2 : Int) (K : TV → O β) : aQ lay (VD zq116 N) Tryz.f45 [.v (.agg [.int .i64 a0, .int .i64 a1]), (Z' a2)] K = sR zq116 N a0 a1 a2 (fun z3 => K (.v (.one (.bool z3)))) := by kernel_rfl
theorem o45 (N : Nat) : ap (β := β) inv Tryz.prog 45 (S45 N) := by
 refine aq ax mixed (E := E45 N) (af (aa (o37 N) ai)) ak aA Tryz.func45 (by kernel_rfl) 0 (by kernel_rfl) trivial fun args K r h => ?_
 unfold S45 Io at h
 split at h
 ·exact (TD (fO N) N _ _ _ _).trans h
 ·cases h
def yq (N : Nat) : Rv.Spec β := fun args K => match args with
 | [.v (.agg [.int .i64 a0, .int .i64 a1]), .v (.one (.int .i64 a2)), .v (.one (.int .i64 a3))] => zq120 a0 a1 a2 a3 (fun z4 => K (.v (.one (.int .i64 z4))))
 | _ => none
def Vl (N : Nat) : Rv.Spec β := yq (fP N) N
def gW (v0 v1 v2 v3 v4 v5 : Int) (v6 v7 : Bool) : St := ⟨ac :: (Z' v0) :: (Z' v1) :: .v (.one (.ptr 0 0)) :: tn 3 (.v (.one (.ptr 1 0)) :: tn 3 ((Z' v2) :: (Z' v3) :: tn 22 [])), [.cells 25 [.int .i64 v4, .int .i64 v5], .cells 194 [.bool v6, .bool v7]]⟩
def kH (y0 y1 : Bool) : St := ⟨tn 7 (.v (.one (.ptr 0 0)) :: tn 27 []), [.cells 194 [.bool y0, .bool y1]]⟩
def rS {γ : Type} (f : Int → Int → Int → Int → Int → Int → Bool → Bool → γ) (s : St) : γ := f (ae (ag (vT (nx ac s.tmps 1)))) (ae (ag (vT (nx ac s.tmps 2)))) (ae (ag (vT (nx ac s.tmps 11)))) (ae (ag (vT (nx ac s.tmps 12)))) (ae (nx .und (ao (nx .dead s.blks 0)) 0)) (ae (nx .und (ao (nx .dead s.blks 0)) 1)) (o0 (nx .und (ao (nx .dead s.blks 1)) 0)) (o0 (nx .und (ao (nx .dead s.blks 1)) 1))
theorem FL (s : St) : aT (gW 0 0 0 0 0 0 false false) s = rS gW s := by kernel_rfl
def yf (N : Nat) : ay β := fun s K => cond (aK (gW 0 0 0 0 0 0 false false) s) (rS (fun v0 v1 v2 v3 v4 v5 v6 v7 => zq119 N v0 v1 v2 v3 v4 v5 v6 v7 (fun y0 y1 => K (.exit 0) (kH y0 y1))) s) (none)
def ME (N : Nat) : ay β := yf (jb N) N
def HU (N : Nat) : Env β := ⟨[(100, oZ zq12 N), (103, tV zq13 N)], [], [(0, yf zq119 N)], [], ⟨[], [], [], []⟩⟩
def Mb (N : Nat) : Env β := HU (db N) (eD N) (jb N) N
theorem CA (N : Nat) (v0 v1 v2 v3 v4 v5 : Int) (v6 v7 : Bool) (rec_ : St → O β) (K : Exit → St → O β) :
  stB lay (HU zq12 zq13 zq119 N) Tryz.f209 0 (gW v0 v1 v2 v3 v4 v5 v6 v7) rec_ K = Au zq13 N v0 v1 v2 v3 v4 v5 v6 v7 (fun v0 v1 v2 v3 v4 v5 v6 v7 => rec_ (gW v0 v1 v2 v3 v4 v5 v6 v7)) (fun y0 y1 => K (.exit 0) (kH y0 y1)) := by kernel_rfl
theorem GN (N : Nat) (K : Exit → St → O β) : ∀ (F : Nat) (v0 v1 v2 v3 v4 v5 : Int) (v6 v7 : Bool), (lp Tryz.f209 0).rounds lay (Mb N) (ah Tryz.f209) F (gW v0 v1 v2 v3 v4 v5 v6 v7) K = jb N F v0 v1 v2 v3 v4 v5 v6 v7 (fun y0 y1 => K (.exit 0) (kH y0 y1)) := by
 intro F; induction F with
 | zero => intros; rfl
 | succ F ih => intros; rw [am]; refine (CA (db N) (eD N) (jb N) N _ _ _ _ _ _ _ _ (fun s => (lp Tryz.f209 0).rounds lay (Mb N) (ah Tryz.f209) F s K) K).trans ?_; simp only [ih]; rfl
theorem NP (N : Nat) : aS (Mb (β := β) N).loops (lp Tryz.f209 0).id = ME N := by kernel_rfl
theorem OM (N : Nat) : az lay (Mb (β := β) N) (ah Tryz.f209) (lp Tryz.f209 0) := rks (NP ..) (rc1 (fun s K hb => ⟨N, by rw [← ar hb, FL s]; unfold rS; exact GN N K N _ _ _ _ _ _ _ _⟩) rc0)
theorem PO (N : Nat) (a0 a1 a2 a3 : Int) (K : TV → O β) : aQ lay (HU zq12 zq13 zq119 N) Tryz.f209 [.v (.agg [.int .i64 a0, .int .i64 a1]), (Z' a2), (Z' a3)] K = Ev zq12 zq119 N a0 a1 a2 a3 (fun z4 => K ((Z' z4))) := by kernel_rfl
theorem SU (N : Nat) : ap (β := β) inv Tryz.prog 209 (Vl N) := by
 refine aq ax mixed (E := Mb N) (af (aa (F9 N) (aa (NY N) ai))) ak aA Tryz.func209 (by kernel_rfl) 1 (by kernel_rfl) ⟨trivial, OM N⟩ fun args K r h => ?_
 unfold Vl yq at h
 split at h
 ·exact (PO (db N) (eD N) (jb N) N _ _ _ _ _).trans h
 ·cases h
def Ig (N : Nat) : Rv.Spec β := fun args K => match args with
 | [.v (.agg [.int .i64 a0, .int .i64 a1]), .v (.agg [.int .i64 a2, .int .i64 a3])] => zq121 a0 a1 a2 a3 (fun z4 => K (.v (.one (.bool z4))))
 | _ => none
def Vp (N : Nat) : Rv.Spec β := Ig (pz N) N
def QU (N : Nat) : Env β := ⟨[(209, yq zq120 N)], [], [], [], ⟨[], [], [], []⟩⟩
def Xl (N : Nat) : Env β := QU (fP N) N
theorem PV (N : Nat) (a0 a1 a2 a3 : Int) (K : TV → O β) : aQ lay (QU zq120 N) Tryz.f216 [.v (.agg [.int .i64 a0, .int .i64 a1]), .v (.agg [.int .i64 a2, .int .i64 a3])] K = KT zq120 N a0 a1 a2 a3 (fun z4 => K (.v (.one (.bool z4)))) := by kernel_rfl
theorem X5 (N : Nat) : ap (β := β) inv Tryz.prog 216 (Vp N) := by
 refine aq ax mixed (E := Xl N) (af (aa (SU N) ai)) ak aA Tryz.func216 (by kernel_rfl) 0 (by kernel_rfl) trivial fun args K r h => ?_
 unfold Vp Ig at h
 split at h
 ·exact (PV (fP N) N _ _ _ _ _).trans h
 ·cases h
end Go.Proofs.YtemihnclhcobnaaGreatDoor
