/- The functions that the claims cY bz as their texts do. -/
import Derived.Test.YtemihnclhcobnaaGreatDoorE4
namespace Go.Proofs.YtemihnclhcobnaaGreatDoor
set_option linter.unusedSimpArgs false
open Go.Rv
set_option maxRecDepth 100000
set_option maxHeartbeats 2000000
set_option linter.unusedVariables false
variable {β : Type}
variable (ahe : Y26 β) (ag5 : Y0 β) (ahs : Y10 β) (ahh : Y3 β) (ah9 : Y56 β) (aix : Y60 β) (ahx : Y59 β) (aiy : Y62 β) (aiz : Y61 β) (aiA : Y65 β) (aiB : Y64 β) (aiC : Y67 β) (ahy : Y66 β) (aiD : Y68 β) (ahp : Y19 β)
variable (N : Nat)
def ss (N G : Nat) : Rv.Spec β := fun args K => match args with
 | [.v (.agg [.int .i64 a0, .int .i64 a1]), .v (.one (.sl 93 (.pairs a2))), .v (.one (.int .i64 a3)), .v (.one (.int .i64 a4)), .v (.one (.int .i64 a5))] => ahx G a0 a1 a2 a3 a4 a5 (fun z6 z7 => K (.tup [.one (.sl 93 (.pairs z6)), .one (.bool z7)]))
 | _ => none
def AF (G : Nat) : Rv.Spec β := ss (eD N) N G
def acL : Rv.Spec β := ss ahx N N
def afp : Rv.Spec β := AF N N
def ia (v0 : List (Int × Int)) (v1 v2 v3 v4 v5 : Int) : St := ⟨ac :: .v (.one (.sl 93 (.pairs v0))) :: ac :: (Z' v1) :: (Z' v2) :: .v (.one (.ptr 0 0)) :: tn 6 ((Z' v3) :: tn 51 []), [.cells 25 [.int .i64 v4, .int .i64 v5]]⟩
def kO (y0 : Bool) (y1 : List (Int × Int)) : St := ⟨tn 10 (.v (.one (.row 0)) :: .v (.one (.bool y0)) :: tn 52 []), [.row 93 (.pairs y1)]⟩
def kP : St := ⟨tn 64 [], []⟩
def ur {γ : Type} (f : (List (Int × Int)) -> Int -> Int -> Int -> Int -> Int -> γ) (s : St) : γ := f (bc (bF (ah (vT (nx ac s.tmps 1))))) (af (ah (vT (nx ac s.tmps 3)))) (af (ah (vT (nx ac s.tmps 4)))) (af (ah (vT (nx ac s.tmps 12)))) (af (nx .und (ak (nx .dead s.blks 0)) 0)) (af (nx .und (ak (nx .dead s.blks 0)) 1))
theorem I1 (s : St) : aP (ia [] 0 0 0 0 0) s = ur ia s := by kernel_rfl
def A8 (G : Nat) : ax β := fun s K => cond (aJ (ia [] 0 0 0 0 0) s) (ur (fun v0 v1 v2 v3 v4 v5 => aix (ahx G) N v0 v1 v2 v3 v4 v5 (fun y0 y1 => K .ret (kO y0 y1)) (K (.exit 0) (kP ))) s) (none)
def Re (G : Nat) : ax β := A8 (m5 N) (eD N) N G
def LH (G : Nat) : Env β := ⟨[(124, Bs ahh N), (142, ss ahx N G)], [], [(0, A8 aix ahx N G)], [], ⟨[], [], [], []⟩⟩
def QO (G : Nat) : Env β := LH (oJ N) (m5 N) (eD N) N G
theorem Fc (G : Nat) (v0 : List (Int × Int)) (v1 v2 v3 v4 v5 : Int) (rec_ : St -> O β) (K : Exit -> St -> O β) :
  stB lay (LH ahh aix ahx N G) Tryz.f142 0 (ia v0 v1 v2 v3 v4 v5) rec_ K = HK ahh N (ahx G) v0 v1 v2 v3 v4 v5 (fun v0 v1 v2 v3 v4 v5 => rec_ (ia v0 v1 v2 v3 v4 v5)) (fun y0 y1 => K .ret (kO y0 y1)) (K (.exit 0) (kP )) := by kernel_rfl
theorem J7 (G : Nat) (K : Exit -> St -> O β) : ∀ (F : Nat) (v0 : List (Int × Int)) (v1 v2 v3 v4 v5 : Int), (lp Tryz.f142 0).rounds lay (QO N G) (ai Tryz.f142) F (ia v0 v1 v2 v3 v4 v5) K = m5 N (eD N G) F v0 v1 v2 v3 v4 v5 (fun y0 y1 => K .ret (kO y0 y1)) (K (.exit 0) (kP )) := by
 intro F; induction F with
 | zero => intros; rfl
 | succ F ih => intros; rw [am]; refine (Fc (oJ N) (m5 N) (eD N) N G _ _ _ _ _ _ (fun s => (lp Tryz.f142 0).rounds lay (QO N G) (ai Tryz.f142) F s K) K).trans ?_; simp only [ih]; rfl
theorem Sm (G : Nat) : aS (QO (β := β) N G).loops (lp Tryz.f142 0).id = Re N G := by kernel_rfl
theorem Tu (G : Nat) : ay lay (QO (β := β) N G) (ai Tryz.f142) (lp Tryz.f142 0) := rks (Sm ..) (rc1 (fun s K hb => ⟨N, by rw [<- ar hb, I1 s]; unfold ur; exact J7 N _ K N _ _ _ _ _ _⟩) rc0)
theorem UB (G : Nat) (a0 a1 : Int) (a2 : List (Int × Int)) (a3 a4 a5 : Int) (K : TV -> O β) : aL lay (LH ahh aix ahx N G) Tryz.f142 [.v (.agg [.int .i64 a0, .int .i64 a1]), .v (.one (.sl 93 (.pairs a2))), (Z' a3), (Z' a4), (Z' a5)] K = yi aix N (ahx G) a0 a1 a2 a3 a4 a5 (fun z6 z7 => K (.tup [.one (.sl 93 (.pairs z6)), .one (.bool z7)])) := by kernel_rfl
theorem agE : ∀ args K r, AF (β := β) N 0 args K = some r -> (none : O β) = some r := by
 intro args K r h
 unfold AF ss at h
 split at h <;> exact h
theorem adR : ∀ G, ao (β := β) inv Tryz.prog 142 (AF N G) := by
 intro G
 induction G with
 | zero => exact dG Tryz.func142 (by kernel_rfl) (agE N)
 | succ G ih =>
  refine ap au mixed (E := QO N G) (ae (aa (Zm N) (aa ih ag))) aj av Tryz.func142 (by kernel_rfl) 1 (by kernel_rfl) ⟨trivial, Tu N G⟩ fun args K r h => ?_
  unfold AF ss at h
  split at h
  ·exact (UB (oJ N) (m5 N) (eD N) N G _ _ _ _ _ _ _).trans h
  ·cases h
theorem afZ : ao (β := β) inv Tryz.prog 142 (afp N) := adR N N
def Yf (N : Nat) : Rv.Spec β := fun args K => match args with
 | [.v (.agg [.int .i64 a0, .int .i64 a1])] => aiz a0 a1 (fun z2 z3 => K (.tup [.one (.sl 93 (.pairs z2)), .one (.bool z3)]))
 | _ => none
def S71 : Rv.Spec β := Yf (yl N) N
def mt (v0 v1 v2 : Int) (v3 : List (Int × Int)) : St := ⟨ac :: .v (.one (.ptr 0 0)) :: ac :: ac :: .v (.one (.row 1)) :: (Z' v0) :: tn 29 [], [.cells 25 [.int .i64 v1, .int .i64 v2], .row 93 (.pairs v3)]⟩
def ot (y0 : Bool) (y1 : List (Int × Int)) : St := ⟨ac :: ac :: .v (.one (.row 0)) :: .v (.one (.bool y0)) :: tn 31 [], [.row 93 (.pairs y1)]⟩
def ou : St := ⟨tn 35 [], []⟩
def zT {γ : Type} (f : Int -> Int -> Int -> (List (Int × Int)) -> γ) (s : St) : γ := f (af (ah (vT (nx ac s.tmps 5)))) (af (nx .und (ak (nx .dead s.blks 0)) 0)) (af (nx .und (ak (nx .dead s.blks 0)) 1)) (bc (bh (nx .dead s.blks 1)))
theorem M4 (s : St) : aP (mt 0 0 0 []) s = zT mt s := by kernel_rfl
def F9 : ax β := fun s K => cond (aJ (mt 0 0 0 []) s) (zT (fun v0 v1 v2 v3 => aiy N v0 v1 v2 v3 (fun y0 y1 => K .ret (ot y0 y1)) (K (.exit 0) (ou ))) s) (none)
def Xx : ax β := F9 (lT N) N
def XP : Env β := ⟨[(20, Bx ag5 N), (141, L6 ah9 N), (142, acL ahx N)], [], [(0, F9 aiy N)], [], ⟨[], [], [], []⟩⟩
def E71 : Env β := XP (eT N) (vG N) (eD N) (lT N) N
theorem K5 (v0 v1 v2 : Int) (v3 : List (Int × Int)) (rec_ : St -> O β) (K : Exit -> St -> O β) :
  stB lay (XP ag5 ah9 ahx aiy N) Tryz.f71 0 (mt v0 v1 v2 v3) rec_ K = Df (ahx N) N v0 v1 v2 v3 (fun v0 v1 v2 v3 => rec_ (mt v0 v1 v2 v3)) (fun y0 y1 => K .ret (ot y0 y1)) (K (.exit 0) (ou )) := by kernel_rfl
theorem OB (K : Exit -> St -> O β) : ∀ (F : Nat) (v0 v1 v2 : Int) (v3 : List (Int × Int)), (lp Tryz.f71 0).rounds lay (E71 N) (ai Tryz.f71) F (mt v0 v1 v2 v3) K = lT N F v0 v1 v2 v3 (fun y0 y1 => K .ret (ot y0 y1)) (K (.exit 0) (ou )) := by
 intro F; induction F with
 | zero => intros; rfl
 | succ F ih => intros; rw [am]; refine (K5 (eT N) (vG N) (eD N) (lT N) N _ _ _ _ (fun s => (lp Tryz.f71 0).rounds lay (E71 N) (ai Tryz.f71) F s K) K).trans ?_; simp only [ih]; rfl
theorem YZ : aS (E71 (β := β) N).loops (lp Tryz.f71 0).id = Xx N := by kernel_rfl
theorem ZS : ay lay (E71 (β := β) N) (ai Tryz.f71) (lp Tryz.f71 0) := rks (YZ ..) (rc1 (fun s K hb => ⟨N, by rw [<- ar hb, M4 s]; unfold zT; exact OB N K N _ _ _ _⟩) rc0)
theorem aaA (a0 a1 : Int) (K : TV -> O β) : aL lay (XP ag5 ah9 ahx aiy N) Tryz.f71 [.v (.agg [.int .i64 a0, .int .i64 a1])] K = Pj ag5 ah9 aiy N a0 a1 (fun z2 z3 => K (.tup [.one (.sl 93 (.pairs z2)), .one (.bool z3)])) := by kernel_rfl
theorem o71 : ao (β := β) inv Tryz.prog 71 (S71 N) := by
 refine ap au mixed (E := E71 N) (ae (aa (o20 N) (aa (afY N) (aa (afZ N) ag)))) aj av Tryz.func71 (by kernel_rfl) 1 (by kernel_rfl) ⟨trivial, ZS N⟩ fun args K r h => ?_
 unfold S71 Yf at h
 split at h
 ·exact (aaA (eT N) (vG N) (eD N) (lT N) N _ _ _).trans h
 ·cases h
def Yg (N : Nat) : Rv.Spec β := fun args K => match args with
 | [.v (.one (.int .i64 a0)), .v (.one (.sl 93 (.pairs a1)))] => aiB a0 a1 (fun z2 => K (.v (.one (.str z2))))
 | _ => none
def S72 : Rv.Spec β := Yg (ym N) N
def mu (v0 : Int) (v1 : List (Int × Int)) (v2 : ByteArray) (v3 : Int) : St := ⟨(Z' v0) :: .v (.one (.sl 93 (.pairs v1))) :: tn 3 (.v (.one (.str v2)) :: (Z' v3) :: tn 31 []), []⟩
def ov (y0 : Int) (y1 : List (Int × Int)) (y2 : ByteArray) : St := ⟨(Z' y0) :: .v (.one (.sl 93 (.pairs y1))) :: tn 3 (.v (.one (.str y2)) :: tn 32 []), []⟩
def zU {γ : Type} (f : Int -> (List (Int × Int)) -> ByteArray -> Int -> γ) (s : St) : γ := f (af (ah (vT (nx ac s.tmps 0)))) (bc (bF (ah (vT (nx ac s.tmps 1))))) (dV (ah (vT (nx ac s.tmps 5)))) (af (ah (vT (nx ac s.tmps 6))))
theorem M5 (s : St) : aP (mu 0 [] ByteArray.empty 0) s = zU mu s := by kernel_rfl
def Ga : ax β := fun s K => cond (aJ (mu 0 [] ByteArray.empty 0) s) (zU (fun v0 v1 v2 v3 => aiA N v0 v1 v2 v3 (fun y0 y1 y2 => K (.exit 0) (ov y0 y1 y2))) s) (none)
def Xy : ax β := Ga (m6 N) N
def XQ : Env β := ⟨[(122, Gg ahs N), (140, Bt ahe N)], [], [(0, Ga aiA N)], [], ⟨[], [], [], []⟩⟩
def E72 : Env β := XQ (ja N) (oI N) (m6 N) N
theorem K6 (v0 : Int) (v1 : List (Int × Int)) (v2 : ByteArray) (v3 : Int) (rec_ : St -> O β) (K : Exit -> St -> O β) :
  stB lay (XQ ahe ahs aiA N) Tryz.f72 0 (mu v0 v1 v2 v3) rec_ K = HL ahe ahs N v0 v1 v2 v3 (fun v0 v1 v2 v3 => rec_ (mu v0 v1 v2 v3)) (fun y0 y1 y2 => K (.exit 0) (ov y0 y1 y2)) := by kernel_rfl
theorem OC (K : Exit -> St -> O β) : ∀ (F : Nat) (v0 : Int) (v1 : List (Int × Int)) (v2 : ByteArray) (v3 : Int), (lp Tryz.f72 0).rounds lay (E72 N) (ai Tryz.f72) F (mu v0 v1 v2 v3) K = m6 N F v0 v1 v2 v3 (fun y0 y1 y2 => K (.exit 0) (ov y0 y1 y2)) := by
 intro F; induction F with
 | zero => intros; rfl
 | succ F ih => intros; rw [am]; refine (K6 (ja N) (oI N) (m6 N) N _ _ _ _ (fun s => (lp Tryz.f72 0).rounds lay (E72 N) (ai Tryz.f72) F s K) K).trans ?_; simp only [ih]; rfl
theorem Za : aS (E72 (β := β) N).loops (lp Tryz.f72 0).id = Xy N := by kernel_rfl
theorem ZT : ay lay (E72 (β := β) N) (ai Tryz.f72) (lp Tryz.f72 0) := rks (Za ..) (rc1 (fun s K hb => ⟨N, by rw [<- ar hb, M5 s]; unfold zU; exact OC N K N _ _ _ _⟩) rc0)
theorem aaB (a0 : Int) (a1 : List (Int × Int)) (K : TV -> O β) : aL lay (XQ ahe ahs aiA N) Tryz.f72 [(Z' a0), .v (.one (.sl 93 (.pairs a1)))] K = Pk ahs aiA N a0 a1 (fun z2 => K (.v (.one (.str z2)))) := by kernel_rfl
theorem o72 : ao (β := β) inv Tryz.prog 72 (S72 N) := by
 refine ap au mixed (E := E72 N) (ae (aa (adw N) (aa (Zn N) ag))) aj av Tryz.func72 (by kernel_rfl) 1 (by kernel_rfl) ⟨trivial, ZT N⟩ fun args K r h => ?_
 unfold S72 Yg at h
 split at h
 ·exact (aaB (ja N) (oI N) (m6 N) N _ _ _).trans h
 ·cases h
def Gv (N : Nat) : Rv.Spec β := fun args K => match args with
 | [.v (.agg [.int .i64 a0, .int .i64 a1]), .v (.one (.int .i64 a2)), .v (.one (.int .i64 a3))] => ahy a0 a1 a2 a3 (fun z4 => K (.v (.one (.int .i64 z4))))
 | _ => none
def aca : Rv.Spec β := Gv (lU N) N
def iq (v0 v1 v2 v3 v4 v5 : Int) : St := ⟨ac :: (Z' v0) :: (Z' v1) :: .v (.one (.ptr 0 0)) :: tn 3 ((Z' v2) :: (Z' v3) :: tn 27 []), [.cells 25 [.int .i64 v4, .int .i64 v5]]⟩
def lD (y0 : Int) : St := ⟨tn 6 ((Z' y0) :: tn 29 []), []⟩
def lE (y0 : Int) : St := ⟨tn 7 ((Z' y0) :: tn 28 []), []⟩
def uC {γ : Type} (f : Int -> Int -> Int -> Int -> Int -> Int -> γ) (s : St) : γ := f (af (ah (vT (nx ac s.tmps 1)))) (af (ah (vT (nx ac s.tmps 2)))) (af (ah (vT (nx ac s.tmps 7)))) (af (ah (vT (nx ac s.tmps 8)))) (af (nx .und (ak (nx .dead s.blks 0)) 0)) (af (nx .und (ak (nx .dead s.blks 0)) 1))
theorem Ji (s : St) : aP (iq 0 0 0 0 0 0) s = uC iq s := by kernel_rfl
def Bj : ax β := fun s K => cond (aJ (iq 0 0 0 0 0 0) s) (uC (fun v0 v1 v2 v3 v4 v5 => aiC N v0 v1 v2 v3 v4 v5 (fun y0 => K .ret (lD y0)) (fun y0 => K (.exit 0) (lE y0))) s) (none)
def Rp : ax β := Bj (pL N) N
def LR : Env β := ⟨[], [], [(0, Bj aiC N)], [], ⟨[], [], [], []⟩⟩
def QX : Env β := LR (pL N) N
theorem Fu (v0 v1 v2 v3 v4 v5 : Int) (rec_ : St -> O β) (K : Exit -> St -> O β) :
  stB lay (LR aiC N) Tryz.f205 0 (iq v0 v1 v2 v3 v4 v5) rec_ K = Pl N v0 v1 v2 v3 v4 v5 (fun v0 v1 v2 v3 v4 v5 => rec_ (iq v0 v1 v2 v3 v4 v5)) (fun y0 => K .ret (lD y0)) (fun y0 => K (.exit 0) (lE y0)) := by kernel_rfl
theorem Ko (K : Exit -> St -> O β) : ∀ (F : Nat) (v0 v1 v2 v3 v4 v5 : Int), (lp Tryz.f205 0).rounds lay (QX N) (ai Tryz.f205) F (iq v0 v1 v2 v3 v4 v5) K = pL N F v0 v1 v2 v3 v4 v5 (fun y0 => K .ret (lD y0)) (fun y0 => K (.exit 0) (lE y0)) := by
 intro F; induction F with
 | zero => intros; rfl
 | succ F ih => intros; rw [am]; refine (Fu (pL N) N _ _ _ _ _ _ (fun s => (lp Tryz.f205 0).rounds lay (QX N) (ai Tryz.f205) F s K) K).trans ?_; simp only [ih]; rfl
theorem SH : aS (QX (β := β) N).loops (lp Tryz.f205 0).id = Rp N := by kernel_rfl
theorem TM : ay lay (QX (β := β) N) (ai Tryz.f205) (lp Tryz.f205 0) := rks (SH ..) (rc1 (fun s K hb => ⟨N, by rw [<- ar hb, Ji s]; unfold uC; exact Ko N K N _ _ _ _ _ _⟩) rc0)
theorem U8 (a0 a1 a2 a3 : Int) (K : TV -> O β) : aL lay (LR aiC N) Tryz.f205 [.v (.agg [.int .i64 a0, .int .i64 a1]), (Z' a2), (Z' a3)] K = Pm aiC N a0 a1 a2 a3 (fun z4 => K ((Z' z4))) := by kernel_rfl
theorem adM : ao (β := β) inv Tryz.prog 205 (aca N) := by
 refine ap au mixed (E := QX N) (ae ag) aj av Tryz.func205 (by kernel_rfl) 1 (by kernel_rfl) ⟨trivial, TM N⟩ fun args K r h => ?_
 unfold aca Gv at h
 split at h
 ·exact (U8 (pL N) N _ _ _ _ _).trans h
 ·cases h
def sG (N G : Nat) : Rv.Spec β := fun args K => match args with
 | [.v (.agg [.int .i64 a0, .int .i64 a1]), .v (.one (.int .i64 a2)), .v (.one (.int .i64 a3))] => ahp G a0 a1 a2 a3 (fun z4 => K (.v (.one (.int .i64 z4))))
 | _ => none
def AQ (G : Nat) : Rv.Spec β := sG (gh N) N G
def acV : Rv.Spec β := sG ahp N N
def afA : Rv.Spec β := AQ N N
def ir (v0 v1 v2 v3 v4 v5 : Int) : St := ⟨ac :: (Z' v0) :: (Z' v1) :: .v (.one (.ptr 0 0)) :: tn 3 ((Z' v2) :: (Z' v3) :: tn 37 []), [.cells 25 [.int .i64 v4, .int .i64 v5]]⟩
def lF (y0 : Int) : St := ⟨tn 7 ((Z' y0) :: tn 38 []), []⟩
def uD {γ : Type} (f : Int -> Int -> Int -> Int -> Int -> Int -> γ) (s : St) : γ := f (af (ah (vT (nx ac s.tmps 1)))) (af (ah (vT (nx ac s.tmps 2)))) (af (ah (vT (nx ac s.tmps 7)))) (af (ah (vT (nx ac s.tmps 8)))) (af (nx .und (ak (nx .dead s.blks 0)) 0)) (af (nx .und (ak (nx .dead s.blks 0)) 1))
theorem Jj (s : St) : aP (ir 0 0 0 0 0 0) s = uD ir s := by kernel_rfl
def Bk (G : Nat) : ax β := fun s K => cond (aJ (ir 0 0 0 0 0 0) s) (uD (fun v0 v1 v2 v3 v4 v5 => aiD (ahp G) N v0 v1 v2 v3 v4 v5 (fun y0 => K (.exit 0) (lF y0))) s) (none)
def Rq (G : Nat) : ax β := Bk (m7 N) (gh N) N G
def LS (G : Nat) : Env β := ⟨[(205, Gv ahy N), (206, sG ahp N G)], [], [(0, Bk aiD ahp N G)], [], ⟨[], [], [], []⟩⟩
def QY (G : Nat) : Env β := LS (lU N) (m7 N) (gh N) N G
theorem Fv (G : Nat) (v0 v1 v2 v3 v4 v5 : Int) (rec_ : St -> O β) (K : Exit -> St -> O β) :
  stB lay (LS ahy aiD ahp N G) Tryz.f206 0 (ir v0 v1 v2 v3 v4 v5) rec_ K = HM N (ahp G) v0 v1 v2 v3 v4 v5 (fun v0 v1 v2 v3 v4 v5 => rec_ (ir v0 v1 v2 v3 v4 v5)) (fun y0 => K (.exit 0) (lF y0)) := by kernel_rfl
theorem Kp (G : Nat) (K : Exit -> St -> O β) : ∀ (F : Nat) (v0 v1 v2 v3 v4 v5 : Int), (lp Tryz.f206 0).rounds lay (QY N G) (ai Tryz.f206) F (ir v0 v1 v2 v3 v4 v5) K = m7 N (gh N G) F v0 v1 v2 v3 v4 v5 (fun y0 => K (.exit 0) (lF y0)) := by
 intro F; induction F with
 | zero => intros; rfl
 | succ F ih => intros; rw [am]; refine (Fv (lU N) (m7 N) (gh N) N G _ _ _ _ _ _ (fun s => (lp Tryz.f206 0).rounds lay (QY N G) (ai Tryz.f206) F s K) K).trans ?_; simp only [ih]; rfl
theorem SI (G : Nat) : aS (QY (β := β) N G).loops (lp Tryz.f206 0).id = Rq N G := by kernel_rfl
theorem TN (G : Nat) : ay lay (QY (β := β) N G) (ai Tryz.f206) (lp Tryz.f206 0) := rks (SI ..) (rc1 (fun s K hb => ⟨N, by rw [<- ar hb, Jj s]; unfold uD; exact Kp N _ K N _ _ _ _ _ _⟩) rc0)
theorem U9 (G : Nat) (a0 a1 a2 a3 : Int) (K : TV -> O β) : aL lay (LS ahy aiD ahp N G) Tryz.f206 [.v (.agg [.int .i64 a0, .int .i64 a1]), (Z' a2), (Z' a3)] K = Pn ahy aiD N (ahp G) a0 a1 a2 a3 (fun z4 => K ((Z' z4))) := by kernel_rfl
theorem agP : ∀ args K r, AQ (β := β) N 0 args K = some r -> (none : O β) = some r := by
 intro args K r h
 unfold AQ sG at h
 split at h <;> exact h
theorem ad2 : ∀ G, ao (β := β) inv Tryz.prog 206 (AQ N G) := by
 intro G
 induction G with
 | zero => exact dG Tryz.func206 (by kernel_rfl) (agP N)
 | succ G ih =>
  refine ap au mixed (E := QY N G) (ae (aa (adM N) (aa ih ag))) aj av Tryz.func206 (by kernel_rfl) 1 (by kernel_rfl) ⟨trivial, TN N G⟩ fun args K r h => ?_
  unfold AQ sG at h
  split at h
  ·exact (U9 (lU N) (m7 N) (gh N) N G _ _ _ _ _).trans h
  ·cases h
theorem agl : ao (β := β) inv Tryz.prog 206 (afA N) := ad2 N N
end Go.Proofs.YtemihnclhcobnaaGreatDoor
