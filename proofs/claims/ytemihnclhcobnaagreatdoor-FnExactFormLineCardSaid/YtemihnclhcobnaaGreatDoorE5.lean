/- The functions that the claims dl bK as their texts do. -/
import Derived.Test.YtemihnclhcobnaaGreatDoorE4
namespace Go.Proofs.YtemihnclhcobnaaGreatDoor
set_option linter.unusedSimpArgs false
open Go.Rv
set_option maxRecDepth 100000
set_option maxHeartbeats 2000000
set_option linter.unusedVariables false
variable {β : Type}
variable (zq23 : Y7 β) (zq30 : Y0 β) (zq92 : Y47 β) (zq94 : Y49 β) (zq96 : Y52 β) (zq98 : Y51 β) (zq100 : Y50 β) (zq102 : Y48 β) (zq104 : Y35 β)
def qi (N G : Nat) : Rv.Spec β := fun args K => match args with
 | [.v (.one (.sl 3 (.ints .i64 a0))), .v (.one (.int .i64 a1)), .v (.one (.int .i64 a2))] => zq102 G a0 a1 a2 (fun z3 => K (.v (.one (.str z3))))
 | _ => none
def xB (N G : Nat) : Rv.Spec β := qi (c8 N) N G
def VS (N : Nat) : Rv.Spec β := qi zq102 N N
def Xr (N : Nat) : Rv.Spec β := xB N N
def gH (v0 : List Int) (v1 v2 v3 : Int) : St := ⟨.v (.one (.sl 3 (.ints .i64 v0))) :: (Z' v1) :: (Z' v2) :: tn 4 ((Z' v3) :: tn 120 []), []⟩
def j6 (y0 : ByteArray) : St := ⟨tn 6 (.v (.one (.str y0)) :: tn 121 []), []⟩
def j7 (y0 : List Int) (y1 y2 : Int) : St := ⟨.v (.one (.sl 3 (.ints .i64 y0))) :: (Z' y1) :: (Z' y2) :: tn 125 [], []⟩
def eX (v0 : List Int) (v1 v2 v3 : Int) : St := ⟨.v (.one (.sl 3 (.ints .i64 v0))) :: (Z' v1) :: (Z' v2) :: tn 5 ((Z' v3) :: tn 119 []), []⟩
def j8 (y0 : ByteArray) : St := ⟨tn 6 (.v (.one (.str y0)) :: tn 121 []), []⟩
def j9 : St := ⟨tn 128 [], []⟩
def eY (v0 : List Int) (v1 v2 v3 v4 : Int) : St := ⟨.v (.one (.sl 3 (.ints .i64 v0))) :: (Z' v1) :: (Z' v2) :: tn 5 ((Z' v3) :: (Z' v4) :: tn 118 []), []⟩
def ka (y0 : ByteArray) : St := ⟨tn 6 (.v (.one (.str y0)) :: tn 121 []), []⟩
def kb (y0 : List Int) (y1 y2 y3 : Int) : St := ⟨.v (.one (.sl 3 (.ints .i64 y0))) :: (Z' y1) :: (Z' y2) :: tn 5 ((Z' y3) :: tn 119 []), []⟩
def fb (v0 : List Int) (v1 v2 v3 v4 v5 : Int) : St := ⟨.v (.one (.sl 3 (.ints .i64 v0))) :: (Z' v1) :: (Z' v2) :: tn 5 ((Z' v3) :: (Z' v4) :: (Z' v5) :: tn 117 []), []⟩
def kc (y0 : ByteArray) : St := ⟨tn 6 (.v (.one (.str y0)) :: tn 121 []), []⟩
def ke (y0 : List Int) (y1 y2 y3 y4 : Int) : St := ⟨.v (.one (.sl 3 (.ints .i64 y0))) :: (Z' y1) :: (Z' y2) :: tn 5 ((Z' y3) :: (Z' y4) :: tn 118 []), []⟩
def rE {γ : Type} (f : List Int → Int → Int → Int → γ) (s : St) : γ := f (aY (bg (ag (vT (nx ac s.tmps 0))))) (ae (ag (vT (nx ac s.tmps 1)))) (ae (ag (vT (nx ac s.tmps 2)))) (ae (ag (vT (nx ac s.tmps 7))))
theorem Fp (s : St) : aT (gH [] 0 0 0) s = rE gH s := by kernel_rfl
def xQ (N G : Nat) : ay β := fun s K => cond (aK (gH [] 0 0 0) s) (rE (fun v0 v1 v2 v3 => zq94 N v0 v1 v2 v3 (fun y0 => K .ret (j6 y0)) (fun y0 y1 y2 => K (.exit 0) (j7 y0 y1 y2))) s) (none)
def Mq (N G : Nat) : ay β := xQ (tf N) N G
def JI {γ : Type} (f : List Int → Int → Int → Int → γ) (s : St) : γ := f (aY (bg (ag (vT (nx ac s.tmps 0))))) (ae (ag (vT (nx ac s.tmps 1)))) (ae (ag (vT (nx ac s.tmps 2)))) (ae (ag (vT (nx ac s.tmps 8))))
theorem Fq (s : St) : aT (eX [] 0 0 0) s = JI eX s := by kernel_rfl
def p8 (N G : Nat) : ay β := fun s K => cond (aK (eX [] 0 0 0) s) ((fun (v0 : List Int) (v1 v2 v3 : Int) => zq100 (zq102 G) N v0 v1 v2 v3 (fun y0 => K .ret (j8 y0)) (K (.exit 2) (j9 ))) (aY (bg (ag (vT (nx ac s.tmps 0))))) (ae (ag (vT (nx ac s.tmps 1)))) (ae (ag (vT (nx ac s.tmps 2)))) (ae (ag (vT (nx ac s.tmps 8))))) (none)
def CQ (N G : Nat) : ay β := p8 (ik N) (c8 N) N G
def JJ {γ : Type} (f : List Int → Int → Int → Int → Int → γ) (s : St) : γ := f (aY (bg (ag (vT (nx ac s.tmps 0))))) (ae (ag (vT (nx ac s.tmps 1)))) (ae (ag (vT (nx ac s.tmps 2)))) (ae (ag (vT (nx ac s.tmps 8)))) (ae (ag (vT (nx ac s.tmps 9))))
theorem Fr (s : St) : aT (eY [] 0 0 0 0) s = JJ eY s := by kernel_rfl
def p9 (N G : Nat) : ay β := fun s K => cond (aK (eY [] 0 0 0 0) s) ((fun (v0 : List Int) (v1 v2 v3 v4 : Int) => zq98 (zq102 G) N v0 v1 v2 v3 v4 (fun y0 => K .ret (ka y0)) (fun y0 y1 y2 y3 => K (.exit 4) (kb y0 y1 y2 y3))) (aY (bg (ag (vT (nx ac s.tmps 0))))) (ae (ag (vT (nx ac s.tmps 1)))) (ae (ag (vT (nx ac s.tmps 2)))) (ae (ag (vT (nx ac s.tmps 8)))) (ae (ag (vT (nx ac s.tmps 9))))) (none)
def CR (N G : Nat) : ay β := p9 (oX N) (c8 N) N G
def JK {γ : Type} (f : List Int → Int → Int → Int → Int → Int → γ) (s : St) : γ := f (aY (bg (ag (vT (nx ac s.tmps 0))))) (ae (ag (vT (nx ac s.tmps 1)))) (ae (ag (vT (nx ac s.tmps 2)))) (ae (ag (vT (nx ac s.tmps 8)))) (ae (ag (vT (nx ac s.tmps 9)))) (ae (ag (vT (nx ac s.tmps 10))))
theorem Fs (s : St) : aT (fb [] 0 0 0 0 0) s = JK fb s := by kernel_rfl
def qa (N G : Nat) : ay β := fun s K => cond (aK (fb [] 0 0 0 0 0) s) ((fun (v0 : List Int) (v1 v2 v3 v4 v5 : Int) => zq96 (zq102 G) N v0 v1 v2 v3 v4 v5 (fun y0 => K .ret (kc y0)) (fun y0 y1 y2 y3 y4 => K (.exit 6) (ke y0 y1 y2 y3 y4))) (aY (bg (ag (vT (nx ac s.tmps 0))))) (ae (ag (vT (nx ac s.tmps 1)))) (ae (ag (vT (nx ac s.tmps 2)))) (ae (ag (vT (nx ac s.tmps 8)))) (ae (ag (vT (nx ac s.tmps 9)))) (ae (ag (vT (nx ac s.tmps 10))))) (none)
def CS (N G : Nat) : ay β := qa (tg N) (c8 N) N G
def tT (N G : Nat) : Env β := ⟨[(160, H8 zq92 N), (207, Ib zq23 N), (144, qi zq102 N G)], [], [(0, xQ zq94 N G), (2, p8 zq100 zq102 N G), (4, p9 zq98 zq102 N G), (6, qa zq96 zq102 N G)], [], ⟨[], [], [], []⟩⟩
def nY (N G : Nat) : Env β := tT (xw N) (oW N) (tf N) (tg N) (oX N) (ik N) (c8 N) N G
theorem Cc (N G : Nat) (v0 : List Int) (v1 v2 v3 : Int) (rec_ : St → O β) (K : Exit → St → O β) :
  stB lay (tT zq23 zq92 zq94 zq96 zq98 zq100 zq102 N G) Tryz.f144 0 (gH v0 v1 v2 v3) rec_ K = Qp zq23 zq92 N v0 v1 v2 v3 (fun v0 v1 v2 v3 => rec_ (gH v0 v1 v2 v3)) (fun y0 => K .ret (j6 y0)) (fun y0 y1 y2 => K (.exit 0) (j7 y0 y1 y2)) := by kernel_rfl
theorem Gr (N G : Nat) (K : Exit → St → O β) : ∀ (F : Nat) (v0 : List Int) (v1 v2 v3 : Int), (lp Tryz.f144 0).rounds lay (nY N G) (ah Tryz.f144) F (gH v0 v1 v2 v3) K = tf N F v0 v1 v2 v3 (fun y0 => K .ret (j6 y0)) (fun y0 y1 y2 => K (.exit 0) (j7 y0 y1 y2)) := by
 intro F; induction F with
 | zero => intros; rfl
 | succ F ih => intros; rw [am]; refine (Cc (xw N) (oW N) (tf N) (tg N) (oX N) (ik N) (c8 N) N G _ _ _ _ (fun s => (lp Tryz.f144 0).rounds lay (nY N G) (ah Tryz.f144) F s K) K).trans ?_; simp only [ih]; rfl
theorem Nt (N G : Nat) : aS (nY (β := β) N G).loops (lp Tryz.f144 0).id = Mq N G := by kernel_rfl
theorem Om (N G : Nat) : az lay (nY (β := β) N G) (ah Tryz.f144) (lp Tryz.f144 0) := rks (Nt ..) (rc1 (fun s K hb => ⟨N, by rw [← ar hb, Fp s]; unfold rE; exact Gr N _ K N _ _ _ _⟩) rc0)
theorem Cd (N G : Nat) (v0 : List Int) (v1 v2 v3 : Int) (rec_ : St → O β) (K : Exit → St → O β) :
  stB lay (tT zq23 zq92 zq94 zq96 zq98 zq100 zq102 N G) Tryz.f144 1 (eX v0 v1 v2 v3) rec_ K = Qs zq98 N (zq102 G) v0 v1 v2 v3 (fun v0 v1 v2 v3 => rec_ (eX v0 v1 v2 v3)) (fun y0 => K .ret (j8 y0)) (K (.exit 2) (j9 )) := by kernel_rfl
theorem Gs (N G : Nat) (K : Exit → St → O β) : ∀ (F : Nat) (v0 : List Int) (v1 v2 v3 : Int), (lp Tryz.f144 1).rounds lay (nY N G) (ah Tryz.f144) F (eX v0 v1 v2 v3) K = ik N (c8 N G) F v0 v1 v2 v3 (fun y0 => K .ret (j8 y0)) (K (.exit 2) (j9 )) := by
 intro F; induction F with
 | zero => intros; rfl
 | succ F ih => intros; rw [am]; refine (Cd (xw N) (oW N) (tf N) (tg N) (oX N) (ik N) (c8 N) N G _ _ _ _ (fun s => (lp Tryz.f144 1).rounds lay (nY N G) (ah Tryz.f144) F s K) K).trans ?_; simp only [ih]; rfl
theorem Nu (N G : Nat) : aS (nY (β := β) N G).loops (lp Tryz.f144 1).id = CQ N G := by kernel_rfl
theorem On (N G : Nat) : az lay (nY (β := β) N G) (ah Tryz.f144) (lp Tryz.f144 1) := by
 intro s K r h
 rw [Nu] at h
 unfold CQ p8 at h
 cases hb : aK (eX [] 0 0 0) s with
 | true =>
  rw [hb, YC] at h
  exact ⟨N, by rw [← ar hb, Fq s]; exact (Gs N G K N (aY (bg (ag (vT (nx ac s.tmps 0))))) (ae (ag (vT (nx ac s.tmps 1)))) (ae (ag (vT (nx ac s.tmps 2)))) (ae (ag (vT (nx ac s.tmps 8))))).trans h⟩
 | false =>
 rw [hb, YB] at h
 clear hb
 cases h
theorem Ce (N G : Nat) (v0 : List Int) (v1 v2 v3 v4 : Int) (rec_ : St → O β) (K : Exit → St → O β) :
  stB lay (tT zq23 zq92 zq94 zq96 zq98 zq100 zq102 N G) Tryz.f144 2 (eY v0 v1 v2 v3 v4) rec_ K = Qr zq92 zq96 N (zq102 G) v0 v1 v2 v3 v4 (fun v0 v1 v2 v3 v4 => rec_ (eY v0 v1 v2 v3 v4)) (fun y0 => K .ret (ka y0)) (fun y0 y1 y2 y3 => K (.exit 4) (kb y0 y1 y2 y3)) := by kernel_rfl
theorem Gt (N G : Nat) (K : Exit → St → O β) : ∀ (F : Nat) (v0 : List Int) (v1 v2 v3 v4 : Int), (lp Tryz.f144 2).rounds lay (nY N G) (ah Tryz.f144) F (eY v0 v1 v2 v3 v4) K = oX N (c8 N G) F v0 v1 v2 v3 v4 (fun y0 => K .ret (ka y0)) (fun y0 y1 y2 y3 => K (.exit 4) (kb y0 y1 y2 y3)) := by
 intro F; induction F with
 | zero => intros; rfl
 | succ F ih => intros; rw [am]; refine (Ce (xw N) (oW N) (tf N) (tg N) (oX N) (ik N) (c8 N) N G _ _ _ _ _ (fun s => (lp Tryz.f144 2).rounds lay (nY N G) (ah Tryz.f144) F s K) K).trans ?_; simp only [ih]; rfl
theorem Nv (N G : Nat) : aS (nY (β := β) N G).loops (lp Tryz.f144 2).id = CR N G := by kernel_rfl
theorem Oo (N G : Nat) : az lay (nY (β := β) N G) (ah Tryz.f144) (lp Tryz.f144 2) := by
 intro s K r h
 rw [Nv] at h
 unfold CR p9 at h
 cases hb : aK (eY [] 0 0 0 0) s with
 | true =>
  rw [hb, YC] at h
  exact ⟨N, by rw [← ar hb, Fr s]; exact (Gt N G K N (aY (bg (ag (vT (nx ac s.tmps 0))))) (ae (ag (vT (nx ac s.tmps 1)))) (ae (ag (vT (nx ac s.tmps 2)))) (ae (ag (vT (nx ac s.tmps 8)))) (ae (ag (vT (nx ac s.tmps 9))))).trans h⟩
 | false =>
 rw [hb, YB] at h
 clear hb
 cases h
theorem Cf (N G : Nat) (v0 : List Int) (v1 v2 v3 v4 v5 : Int) (rec_ : St → O β) (K : Exit → St → O β) :
  stB lay (tT zq23 zq92 zq94 zq96 zq98 zq100 zq102 N G) Tryz.f144 3 (fb v0 v1 v2 v3 v4 v5) rec_ K = Qq zq92 N (zq102 G) v0 v1 v2 v3 v4 v5 (fun v0 v1 v2 v3 v4 v5 => rec_ (fb v0 v1 v2 v3 v4 v5)) (fun y0 => K .ret (kc y0)) (fun y0 y1 y2 y3 y4 => K (.exit 6) (ke y0 y1 y2 y3 y4)) := by kernel_rfl
theorem Gu (N G : Nat) (K : Exit → St → O β) : ∀ (F : Nat) (v0 : List Int) (v1 v2 v3 v4 v5 : Int), (lp Tryz.f144 3).rounds lay (nY N G) (ah Tryz.f144) F (fb v0 v1 v2 v3 v4 v5) K = tg N (c8 N G) F v0 v1 v2 v3 v4 v5 (fun y0 => K .ret (kc y0)) (fun y0 y1 y2 y3 y4 => K (.exit 6) (ke y0 y1 y2 y3 y4)) := by
 intro F; induction F with
 | zero => intros; rfl
 | succ F ih => intros; rw [am]; refine (Cf (xw N) (oW N) (tf N) (tg N) (oX N) (ik N) (c8 N) N G _ _ _ _ _ _ (fun s => (lp Tryz.f144 3).rounds lay (nY N G) (ah Tryz.f144) F s K) K).trans ?_; simp only [ih]; rfl
theorem Nw (N G : Nat) : aS (nY (β := β) N G).loops (lp Tryz.f144 3).id = CS N G := by kernel_rfl
theorem Oq (N G : Nat) : az lay (nY (β := β) N G) (ah Tryz.f144) (lp Tryz.f144 3) := by
 intro s K r h
 rw [Nw] at h
 unfold CS qa at h
 cases hb : aK (fb [] 0 0 0 0 0) s with
 | true =>
  rw [hb, YC] at h
  exact ⟨N, by rw [← ar hb, Fs s]; exact (Gu N G K N (aY (bg (ag (vT (nx ac s.tmps 0))))) (ae (ag (vT (nx ac s.tmps 1)))) (ae (ag (vT (nx ac s.tmps 2)))) (ae (ag (vT (nx ac s.tmps 8)))) (ae (ag (vT (nx ac s.tmps 9)))) (ae (ag (vT (nx ac s.tmps 10))))).trans h⟩
 | false =>
 rw [hb, YB] at h
 clear hb
 cases h
theorem Pp (N G : Nat) (a0 : List Int) (a1 a2 : Int) (K : TV → O β) : aQ lay (tT zq23 zq92 zq94 zq96 zq98 zq100 zq102 N G) Tryz.f144 [.v (.one (.sl 3 (.ints .i64 a0))), (Z' a1), (Z' a2)] K = KM zq92 zq94 zq100 N (zq102 G) a0 a1 a2 (fun z3 => K (.v (.one (.str z3)))) := by kernel_rfl
theorem Ym (N : Nat) : ∀ args K r, xB (β := β) N 0 args K = some r → (none : O β) = some r := by
 intro args K r h
 unfold xB qi at h
 split at h <;> exact h
theorem Wt (N : Nat) : ∀ G, ap (β := β) inv Tryz.prog 144 (xB N G) := by
 intro G
 induction G with
 | zero => exact oK Tryz.func144 (by kernel_rfl) (Ym N)
 | succ G ih =>
  refine aq ax mixed (E := nY N G) (af (aa (XU N) (aa (Wo N) (aa ih ai)))) ak aA Tryz.func144 (by kernel_rfl) 4 (by kernel_rfl) ⟨⟨⟨⟨trivial, Om N G⟩, On N G⟩, Oo N G⟩, Oq N G⟩ fun args K r h => ?_
  unfold xB qi at h
  split at h
  ·exact (Pp (xw N) (oW N) (tf N) (tg N) (oX N) (ik N) (c8 N) N G _ _ _ _).trans h
  ·cases h
theorem XJ (N : Nat) : ap (β := β) inv Tryz.prog 144 (Xr N) := Wt N N
def RW (N : Nat) : Rv.Spec β := fun args K => match args with
 | [.v (.agg [.int .i64 a0, .int .i64 a1])] => zq104 a0 a1 (fun z2 z3 => K (.tup [.one (.str z2), .one (.bool z3)]))
 | _ => none
def S74 (N : Nat) : Rv.Spec β := RW (vq N) N
def VI (N : Nat) : Env β := ⟨[(20, vP zq30 N), (145, U0 N), (144, VS zq102 N)], [], [], [], ⟨[], [], [], []⟩⟩
def E74 (N : Nat) : Env β := VI (du N) (c8 N) N
theorem TM (N : Nat) (a0 a1 : Int) (K : TV → O β) : aQ lay (VI zq30 zq102 N) Tryz.f74 [.v (.agg [.int .i64 a0, .int .i64 a1])] K = KN zq30 (zq102 N) N a0 a1 (fun z2 z3 => K (.tup [.one (.str z2), .one (.bool z3)])) := by kernel_rfl
theorem o74 (N : Nat) : ap (β := β) inv Tryz.prog 74 (S74 N) := by
 refine aq ax mixed (E := E74 N) (af (aa (o20 N) (aa (XK N) (aa (XJ N) ai)))) ak aA Tryz.func74 (by kernel_rfl) 0 (by kernel_rfl) trivial fun args K r h => ?_
 unfold S74 RW at h
 split at h
 ·exact (TM (du N) (c8 N) N _ _ _).trans h
 ·cases h
end Go.Proofs.YtemihnclhcobnaaGreatDoor
