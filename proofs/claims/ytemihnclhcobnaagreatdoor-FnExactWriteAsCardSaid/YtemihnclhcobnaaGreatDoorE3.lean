/- The functions that the claims reach answer as their texts do. -/
import Derived.Test.YtemihnclhcobnaaGreatDoorE2
namespace Go.Proofs.YtemihnclhcobnaaGreatDoor
open Go.Rv
set_option maxRecDepth 100000
set_option maxHeartbeats 2000000
set_option linter.unusedVariables false
variable {β : Type}
variable (zq26 : Y0 β) (zq38 : Y19 β) (zq64 : Y8 β) (zq66 : Y35 β) (zq67 : Y34 β) (zq69 : Y37 β) (zq70 : Y36 β) (zq72 : Y38 β) (zq74 : Y12 β) (zq77 : Y40 β) (zq79 : Y39 β) (zq81 : Y41 β) (zq82 : Y43 β)
def VS72 (N : Nat) : Rv.Spec β := fun args K => match args with
  | [.v (.one (.int .i64 a0)), .v (.one (.sl 93 (.pairs a1)))] => zq67 a0 a1 (fun z2 => K (.v (.one (.str z2))))
  | _ => none
def S72 (N : Nat) : Rv.Spec β := VS72 (zj67 N) N
def h72_0_0 (v0 : Int) (v1 : List (Int × Int)) (v2 : ByteArray) (v3 : Int) : St := ⟨.v (.one (.int .i64 v0)) :: .v (.one (.sl 93 (.pairs v1))) :: tn 3 (.v (.one (.str v2)) :: .v (.one (.int .i64 v3)) :: tn 31 []), []⟩
def x72_0_0_k0 (y0 : Int) (y1 : List (Int × Int)) (y2 : ByteArray) : St := ⟨.v (.one (.int .i64 y0)) :: .v (.one (.sl 93 (.pairs y1))) :: tn 3 (.v (.one (.str y2)) :: tn 32 []), []⟩
def p72_0_0 {γ : Type} (f : Int → (List (Int × Int)) → ByteArray → Int → γ) (s : St) : γ := f (intS (oneA (vT (nx tund s.tmps 0)))) (rPairs (rowV (oneA (vT (nx tund s.tmps 1))))) (strS (oneA (vT (nx tund s.tmps 5)))) (intS (oneA (vT (nx tund s.tmps 6))))
theorem fl72_0_0 (s : St) : refSt (h72_0_0 0 [] ByteArray.empty 0) s = p72_0_0 h72_0_0 s := by kernel_rfl
def VLS72_0 (N : Nat) : LSpec β := fun s K => cond (shpSt (h72_0_0 0 [] ByteArray.empty 0) s) (p72_0_0 (fun v0 v1 v2 v3 => zq66 N v0 v1 v2 v3 (fun y0 y1 y2 => K (.exit 0) (x72_0_0_k0 y0 y1 y2))) s) (none)
def LS72_0 (N : Nat) : LSpec β := VLS72_0 (zj66 N) N
def VE72 (N : Nat) : Env β := ⟨[(122, VS122 zq64 N), (140, VS140 zq38 N)], [], [(0, VLS72_0 zq66 N)], [], ⟨[], [], [], []⟩⟩
def E72 (N : Nat) : Env β := VE72 (zj38 N) (zj64 N) (zj66 N) N
theorem vst72_0_0 (N : Nat) (v0 : Int) (v1 : List (Int × Int)) (v2 : ByteArray) (v3 : Int) (rec_ : St → O β) (K : Exit → St → O β) :
    stB lay (VE72 zq38 zq64 zq66 N) Tryz.f72 0 (h72_0_0 v0 v1 v2 v3) rec_ K = zb65 zq38 zq64 N v0 v1 v2 v3 (fun v0 v1 v2 v3 => rec_ (h72_0_0 v0 v1 v2 v3)) (fun y0 y1 y2 => K (.exit 0) (x72_0_0_k0 y0 y1 y2)) := by kernel_rfl
theorem ro72_0_0 (N : Nat) (K : Exit → St → O β) : ∀ (F : Nat) (v0 : Int) (v1 : List (Int × Int)) (v2 : ByteArray) (v3 : Int), (lp Tryz.f72 0).rounds lay (E72 N) (retMask Tryz.f72) F (h72_0_0 v0 v1 v2 v3) K = zj66 N F v0 v1 v2 v3 (fun y0 y1 y2 => K (.exit 0) (x72_0_0_k0 y0 y1 y2)) := by
  intro F
  induction F with
  | zero => intros; rfl
  | succ F ih =>
    intros
    rw [rounds_next]
    refine (vst72_0_0 (zj38 N) (zj64 N) (zj66 N) N _ _ _ _ (fun s => (lp Tryz.f72 0).rounds lay (E72 N) (retMask Tryz.f72) F s K) K).trans ?_
    simp only [ih]
    rfl
theorem lk72_0 (N : Nat) : lookL (E72 (β := β) N).loops (lp Tryz.f72 0).id = LS72_0 N := by kernel_rfl
theorem rk72_0 (N : Nat) : RoundsOK lay (E72 (β := β) N) (retMask Tryz.f72) (lp Tryz.f72 0) := by
  intro s K r h
  rw [lk72_0] at h
  unfold LS72_0 VLS72_0 at h
  cases hb : shpSt (h72_0_0 0 [] ByteArray.empty 0) s with
  | true =>
    rw [hb, cond_true] at h
    exact ⟨N, by rw [← shpSt_ref hb, fl72_0_0 s]; unfold p72_0_0 at h ⊢; exact (ro72_0_0 N K N _ _ _ _).trans h⟩
  | false =>
  rw [hb, cond_false] at h
  clear hb
  cases h
theorem ve72_0 (N : Nat) (a0 : Int) (a1 : List (Int × Int)) (K : TV → O β) : evFn lay (VE72 zq38 zq64 zq66 N) Tryz.f72 [.v (.one (.int .i64 a0)), .v (.one (.sl 93 (.pairs a1)))] K = zb67 zq64 zq66 N a0 a1 (fun z2 => K (.v (.one (.str z2)))) := by kernel_rfl
theorem o72 (N : Nat) : SpecOK (β := β) inv Tryz.prog 72 (S72 N) := by
  refine spec_of lay_ok mixed (E := E72 N) (specs_loops (specs_cons (o122 N) (specs_cons (o140 N) specs_nil))) muts_nil gs_nil Tryz.func72 (by kernel_rfl) 1 (by kernel_rfl) ⟨trivial, rk72_0 N⟩ fun args K r h => ?_
  unfold S72 VS72 at h
  split at h
  · exact (ve72_0 (zj38 N) (zj64 N) (zj66 N) N _ _ _).trans h
  · cases h
def VS205 (N : Nat) : Rv.Spec β := fun args K => match args with
  | [.v (.agg [.int .i64 a0, .int .i64 a1]), .v (.one (.int .i64 a2)), .v (.one (.int .i64 a3))] => zq70 a0 a1 a2 a3 (fun z4 => K (.v (.one (.int .i64 z4))))
  | _ => none
def S205 (N : Nat) : Rv.Spec β := VS205 (zj70 N) N
def h205_0_0 (v0 : Int) (v1 : Int) (v2 : Int) (v3 : Int) (v4 : Int) (v5 : Int) : St := ⟨tund :: .v (.one (.int .i64 v0)) :: .v (.one (.int .i64 v1)) :: .v (.one (.ptr 0 0)) :: tn 3 (.v (.one (.int .i64 v2)) :: .v (.one (.int .i64 v3)) :: tn 27 []), [.cells 25 [.int .i64 v4, .int .i64 v5]]⟩
def x205_0_0_k0 (y0 : Int) : St := ⟨tn 6 (.v (.one (.int .i64 y0)) :: tn 29 []), []⟩
def x205_0_0_k1 (y0 : Int) : St := ⟨tn 7 (.v (.one (.int .i64 y0)) :: tn 28 []), []⟩
def p205_0_0 {γ : Type} (f : Int → Int → Int → Int → Int → Int → γ) (s : St) : γ := f (intS (oneA (vT (nx tund s.tmps 1)))) (intS (oneA (vT (nx tund s.tmps 2)))) (intS (oneA (vT (nx tund s.tmps 7)))) (intS (oneA (vT (nx tund s.tmps 8)))) (intS (nx .und (cellsB (nx .dead s.blks 0)) 0)) (intS (nx .und (cellsB (nx .dead s.blks 0)) 1))
theorem fl205_0_0 (s : St) : refSt (h205_0_0 0 0 0 0 0 0) s = p205_0_0 h205_0_0 s := by kernel_rfl
def VLS205_0 (N : Nat) : LSpec β := fun s K => cond (shpSt (h205_0_0 0 0 0 0 0 0) s) (p205_0_0 (fun v0 v1 v2 v3 v4 v5 => zq69 N v0 v1 v2 v3 v4 v5 (fun y0 => K .ret (x205_0_0_k0 y0)) (fun y0 => K (.exit 0) (x205_0_0_k1 y0))) s) (none)
def LS205_0 (N : Nat) : LSpec β := VLS205_0 (zj69 N) N
def VE205 (N : Nat) : Env β := ⟨[], [], [(0, VLS205_0 zq69 N)], [], ⟨[], [], [], []⟩⟩
def E205 (N : Nat) : Env β := VE205 (zj69 N) N
theorem vst205_0_0 (N : Nat) (v0 : Int) (v1 : Int) (v2 : Int) (v3 : Int) (v4 : Int) (v5 : Int) (rec_ : St → O β) (K : Exit → St → O β) :
    stB lay (VE205 zq69 N) Tryz.f205 0 (h205_0_0 v0 v1 v2 v3 v4 v5) rec_ K = zb68 N v0 v1 v2 v3 v4 v5 (fun v0 v1 v2 v3 v4 v5 => rec_ (h205_0_0 v0 v1 v2 v3 v4 v5)) (fun y0 => K .ret (x205_0_0_k0 y0)) (fun y0 => K (.exit 0) (x205_0_0_k1 y0)) := by kernel_rfl
theorem ro205_0_0 (N : Nat) (K : Exit → St → O β) : ∀ (F : Nat) (v0 : Int) (v1 : Int) (v2 : Int) (v3 : Int) (v4 : Int) (v5 : Int), (lp Tryz.f205 0).rounds lay (E205 N) (retMask Tryz.f205) F (h205_0_0 v0 v1 v2 v3 v4 v5) K = zj69 N F v0 v1 v2 v3 v4 v5 (fun y0 => K .ret (x205_0_0_k0 y0)) (fun y0 => K (.exit 0) (x205_0_0_k1 y0)) := by
  intro F
  induction F with
  | zero => intros; rfl
  | succ F ih =>
    intros
    rw [rounds_next]
    refine (vst205_0_0 (zj69 N) N _ _ _ _ _ _ (fun s => (lp Tryz.f205 0).rounds lay (E205 N) (retMask Tryz.f205) F s K) K).trans ?_
    simp only [ih]
    rfl
theorem lk205_0 (N : Nat) : lookL (E205 (β := β) N).loops (lp Tryz.f205 0).id = LS205_0 N := by kernel_rfl
theorem rk205_0 (N : Nat) : RoundsOK lay (E205 (β := β) N) (retMask Tryz.f205) (lp Tryz.f205 0) := by
  intro s K r h
  rw [lk205_0] at h
  unfold LS205_0 VLS205_0 at h
  cases hb : shpSt (h205_0_0 0 0 0 0 0 0) s with
  | true =>
    rw [hb, cond_true] at h
    exact ⟨N, by rw [← shpSt_ref hb, fl205_0_0 s]; unfold p205_0_0 at h ⊢; exact (ro205_0_0 N K N _ _ _ _ _ _).trans h⟩
  | false =>
  rw [hb, cond_false] at h
  clear hb
  cases h
theorem ve205_0 (N : Nat) (a0 : Int) (a1 : Int) (a2 : Int) (a3 : Int) (K : TV → O β) : evFn lay (VE205 zq69 N) Tryz.f205 [.v (.agg [.int .i64 a0, .int .i64 a1]), .v (.one (.int .i64 a2)), .v (.one (.int .i64 a3))] K = zb70 zq69 N a0 a1 a2 a3 (fun z4 => K (.v (.one (.int .i64 z4)))) := by kernel_rfl
theorem o205 (N : Nat) : SpecOK (β := β) inv Tryz.prog 205 (S205 N) := by
  refine spec_of lay_ok mixed (E := E205 N) (specs_loops specs_nil) muts_nil gs_nil Tryz.func205 (by kernel_rfl) 1 (by kernel_rfl) ⟨trivial, rk205_0 N⟩ fun args K r h => ?_
  unfold S205 VS205 at h
  split at h
  · exact (ve205_0 (zj69 N) N _ _ _ _ _).trans h
  · cases h
def VSF206 (N : Nat) (G : Nat) : Rv.Spec β := fun args K => match args with
  | [.v (.agg [.int .i64 a0, .int .i64 a1]), .v (.one (.int .i64 a2)), .v (.one (.int .i64 a3))] => zq74 G a0 a1 a2 a3 (fun z4 => K (.v (.one (.int .i64 z4))))
  | _ => none
def SF206 (N : Nat) (G : Nat) : Rv.Spec β := VSF206 (zj74 N) N G
def VS206 (N : Nat) : Rv.Spec β := VSF206 zq74 N N
def S206 (N : Nat) : Rv.Spec β := SF206 N N
def h206_0_0 (v0 : Int) (v1 : Int) (v2 : Int) (v3 : Int) (v4 : Int) (v5 : Int) : St := ⟨tund :: .v (.one (.int .i64 v0)) :: .v (.one (.int .i64 v1)) :: .v (.one (.ptr 0 0)) :: tn 3 (.v (.one (.int .i64 v2)) :: .v (.one (.int .i64 v3)) :: tn 37 []), [.cells 25 [.int .i64 v4, .int .i64 v5]]⟩
def x206_0_0_k0 (y0 : Int) : St := ⟨tn 7 (.v (.one (.int .i64 y0)) :: tn 38 []), []⟩
def p206_0_0 {γ : Type} (f : Int → Int → Int → Int → Int → Int → γ) (s : St) : γ := f (intS (oneA (vT (nx tund s.tmps 1)))) (intS (oneA (vT (nx tund s.tmps 2)))) (intS (oneA (vT (nx tund s.tmps 7)))) (intS (oneA (vT (nx tund s.tmps 8)))) (intS (nx .und (cellsB (nx .dead s.blks 0)) 0)) (intS (nx .und (cellsB (nx .dead s.blks 0)) 1))
theorem fl206_0_0 (s : St) : refSt (h206_0_0 0 0 0 0 0 0) s = p206_0_0 h206_0_0 s := by kernel_rfl
def VLS206_0 (N : Nat) (G : Nat) : LSpec β := fun s K => cond (shpSt (h206_0_0 0 0 0 0 0 0) s) (p206_0_0 (fun v0 v1 v2 v3 v4 v5 => zq72 (zq74 G) N v0 v1 v2 v3 v4 v5 (fun y0 => K (.exit 0) (x206_0_0_k0 y0))) s) (none)
def LS206_0 (N : Nat) (G : Nat) : LSpec β := VLS206_0 (zj72 N) (zj74 N) N G
def VE206 (N : Nat) (G : Nat) : Env β := ⟨[(205, VS205 zq70 N), (206, VSF206 zq74 N G)], [], [(0, VLS206_0 zq72 zq74 N G)], [], ⟨[], [], [], []⟩⟩
def E206 (N : Nat) (G : Nat) : Env β := VE206 (zj70 N) (zj72 N) (zj74 N) N G
theorem vst206_0_0 (N : Nat) (G : Nat) (v0 : Int) (v1 : Int) (v2 : Int) (v3 : Int) (v4 : Int) (v5 : Int) (rec_ : St → O β) (K : Exit → St → O β) :
    stB lay (VE206 zq70 zq72 zq74 N G) Tryz.f206 0 (h206_0_0 v0 v1 v2 v3 v4 v5) rec_ K = zb71 N (zq74 G) v0 v1 v2 v3 v4 v5 (fun v0 v1 v2 v3 v4 v5 => rec_ (h206_0_0 v0 v1 v2 v3 v4 v5)) (fun y0 => K (.exit 0) (x206_0_0_k0 y0)) := by kernel_rfl
theorem ro206_0_0 (N : Nat) (G : Nat) (K : Exit → St → O β) : ∀ (F : Nat) (v0 : Int) (v1 : Int) (v2 : Int) (v3 : Int) (v4 : Int) (v5 : Int), (lp Tryz.f206 0).rounds lay (E206 N G) (retMask Tryz.f206) F (h206_0_0 v0 v1 v2 v3 v4 v5) K = zj72 N (zj74 N G) F v0 v1 v2 v3 v4 v5 (fun y0 => K (.exit 0) (x206_0_0_k0 y0)) := by
  intro F
  induction F with
  | zero => intros; rfl
  | succ F ih =>
    intros
    rw [rounds_next]
    refine (vst206_0_0 (zj70 N) (zj72 N) (zj74 N) N G _ _ _ _ _ _ (fun s => (lp Tryz.f206 0).rounds lay (E206 N G) (retMask Tryz.f206) F s K) K).trans ?_
    simp only [ih]
    rfl
theorem lk206_0 (N : Nat) (G : Nat) : lookL (E206 (β := β) N G).loops (lp Tryz.f206 0).id = LS206_0 N G := by kernel_rfl
theorem rk206_0 (N : Nat) (G : Nat) : RoundsOK lay (E206 (β := β) N G) (retMask Tryz.f206) (lp Tryz.f206 0) := by
  intro s K r h
  rw [lk206_0] at h
  unfold LS206_0 VLS206_0 at h
  cases hb : shpSt (h206_0_0 0 0 0 0 0 0) s with
  | true =>
    rw [hb, cond_true] at h
    exact ⟨N, by rw [← shpSt_ref hb, fl206_0_0 s]; unfold p206_0_0 at h ⊢; exact (ro206_0_0 N _ K N _ _ _ _ _ _).trans h⟩
  | false =>
  rw [hb, cond_false] at h
  clear hb
  cases h
theorem ve206_0 (N : Nat) (G : Nat) (a0 : Int) (a1 : Int) (a2 : Int) (a3 : Int) (K : TV → O β) : evFn lay (VE206 zq70 zq72 zq74 N G) Tryz.f206 [.v (.agg [.int .i64 a0, .int .i64 a1]), .v (.one (.int .i64 a2)), .v (.one (.int .i64 a3))] K = zb73 zq70 zq72 N (zq74 G) a0 a1 a2 a3 (fun z4 => K (.v (.one (.int .i64 z4)))) := by kernel_rfl
theorem z206 (N : Nat) : ∀ args K r, SF206 (β := β) N 0 args K = some r → (none : O β) = some r := by
  intro args K r h
  unfold SF206 VSF206 at h
  split at h <;> exact h
theorem of206 (N : Nat) : ∀ G, SpecOK (β := β) inv Tryz.prog 206 (SF206 N G) := by
  intro G
  induction G with
  | zero => exact s_zero Tryz.func206 (by kernel_rfl) (z206 N)
  | succ G ih =>
    refine spec_of lay_ok mixed (E := E206 N G) (specs_loops (specs_cons (o205 N) (specs_cons ih specs_nil))) muts_nil gs_nil Tryz.func206 (by kernel_rfl) 1 (by kernel_rfl) ⟨trivial, rk206_0 N G⟩ fun args K r h => ?_
    unfold SF206 VSF206 at h
    split at h
    · exact (ve206_0 (zj70 N) (zj72 N) (zj74 N) N G _ _ _ _ _).trans h
    · cases h
theorem o206 (N : Nat) : SpecOK (β := β) inv Tryz.prog 206 (S206 N) := of206 N N
def VSF143 (N : Nat) (G : Nat) : Rv.Spec β := fun args K => match args with
  | [.v (.agg [.int .i64 a0, .int .i64 a1]), .v (.one (.int .i64 a2)), .v (.one (.int .i64 a3))] => zq79 G a0 a1 a2 a3 (fun z4 => K (.v (.one (.str z4))))
  | _ => none
def SF143 (N : Nat) (G : Nat) : Rv.Spec β := VSF143 (zj79 N) N G
def VS143 (N : Nat) : Rv.Spec β := VSF143 zq79 N N
def S143 (N : Nat) : Rv.Spec β := SF143 N N
def h143_0_0 (v0 : Int) (v1 : Int) (v2 : Int) (v3 : Int) (v4 : Int) (v5 : Int) : St := ⟨tund :: .v (.one (.int .i64 v0)) :: .v (.one (.int .i64 v1)) :: .v (.one (.ptr 0 0)) :: tn 4 (.v (.one (.int .i64 v2)) :: .v (.one (.int .i64 v3)) :: tn 67 []), [.cells 25 [.int .i64 v4, .int .i64 v5]]⟩
def x143_0_0_k0 (y0 : ByteArray) : St := ⟨tn 6 (.v (.one (.str y0)) :: tn 70 []), []⟩
def x143_0_0_k1 : St := ⟨tn 77 [], []⟩
def p143_0_0 {γ : Type} (f : Int → Int → Int → Int → Int → Int → γ) (s : St) : γ := f (intS (oneA (vT (nx tund s.tmps 1)))) (intS (oneA (vT (nx tund s.tmps 2)))) (intS (oneA (vT (nx tund s.tmps 8)))) (intS (oneA (vT (nx tund s.tmps 9)))) (intS (nx .und (cellsB (nx .dead s.blks 0)) 0)) (intS (nx .und (cellsB (nx .dead s.blks 0)) 1))
theorem fl143_0_0 (s : St) : refSt (h143_0_0 0 0 0 0 0 0) s = p143_0_0 h143_0_0 s := by kernel_rfl
def VLS143_0 (N : Nat) (G : Nat) : LSpec β := fun s K => cond (shpSt (h143_0_0 0 0 0 0 0 0) s) (p143_0_0 (fun v0 v1 v2 v3 v4 v5 => zq77 (zq79 G) N v0 v1 v2 v3 v4 v5 (fun y0 => K .ret (x143_0_0_k0 y0)) (K (.exit 0) (x143_0_0_k1 ))) s) (none)
def LS143_0 (N : Nat) (G : Nat) : LSpec β := VLS143_0 (zj77 N) (zj79 N) N G
def VE143 (N : Nat) (G : Nat) : Env β := ⟨[(205, VS205 zq70 N), (206, VS206 zq74 N), (143, VSF143 zq79 N G)], [], [(0, VLS143_0 zq77 zq79 N G)], [], ⟨[], [], [], []⟩⟩
def E143 (N : Nat) (G : Nat) : Env β := VE143 (zj70 N) (zj74 N) (zj77 N) (zj79 N) N G
theorem vst143_0_0 (N : Nat) (G : Nat) (v0 : Int) (v1 : Int) (v2 : Int) (v3 : Int) (v4 : Int) (v5 : Int) (rec_ : St → O β) (K : Exit → St → O β) :
    stB lay (VE143 zq70 zq74 zq77 zq79 N G) Tryz.f143 0 (h143_0_0 v0 v1 v2 v3 v4 v5) rec_ K = zb76 (zq74 N) N (zq79 G) v0 v1 v2 v3 v4 v5 (fun v0 v1 v2 v3 v4 v5 => rec_ (h143_0_0 v0 v1 v2 v3 v4 v5)) (fun y0 => K .ret (x143_0_0_k0 y0)) (K (.exit 0) (x143_0_0_k1 )) := by kernel_rfl
theorem ro143_0_0 (N : Nat) (G : Nat) (K : Exit → St → O β) : ∀ (F : Nat) (v0 : Int) (v1 : Int) (v2 : Int) (v3 : Int) (v4 : Int) (v5 : Int), (lp Tryz.f143 0).rounds lay (E143 N G) (retMask Tryz.f143) F (h143_0_0 v0 v1 v2 v3 v4 v5) K = zj77 N (zj79 N G) F v0 v1 v2 v3 v4 v5 (fun y0 => K .ret (x143_0_0_k0 y0)) (K (.exit 0) (x143_0_0_k1 )) := by
  intro F
  induction F with
  | zero => intros; rfl
  | succ F ih =>
    intros
    rw [rounds_next]
    refine (vst143_0_0 (zj70 N) (zj74 N) (zj77 N) (zj79 N) N G _ _ _ _ _ _ (fun s => (lp Tryz.f143 0).rounds lay (E143 N G) (retMask Tryz.f143) F s K) K).trans ?_
    simp only [ih]
    rfl
theorem lk143_0 (N : Nat) (G : Nat) : lookL (E143 (β := β) N G).loops (lp Tryz.f143 0).id = LS143_0 N G := by kernel_rfl
theorem rk143_0 (N : Nat) (G : Nat) : RoundsOK lay (E143 (β := β) N G) (retMask Tryz.f143) (lp Tryz.f143 0) := by
  intro s K r h
  rw [lk143_0] at h
  unfold LS143_0 VLS143_0 at h
  cases hb : shpSt (h143_0_0 0 0 0 0 0 0) s with
  | true =>
    rw [hb, cond_true] at h
    exact ⟨N, by rw [← shpSt_ref hb, fl143_0_0 s]; unfold p143_0_0 at h ⊢; exact (ro143_0_0 N _ K N _ _ _ _ _ _).trans h⟩
  | false =>
  rw [hb, cond_false] at h
  clear hb
  cases h
theorem ve143_0 (N : Nat) (G : Nat) (a0 : Int) (a1 : Int) (a2 : Int) (a3 : Int) (K : TV → O β) : evFn lay (VE143 zq70 zq74 zq77 zq79 N G) Tryz.f143 [.v (.agg [.int .i64 a0, .int .i64 a1]), .v (.one (.int .i64 a2)), .v (.one (.int .i64 a3))] K = zb78 zq70 (zq74 N) zq77 N (zq79 G) a0 a1 a2 a3 (fun z4 => K (.v (.one (.str z4)))) := by kernel_rfl
theorem z143 (N : Nat) : ∀ args K r, SF143 (β := β) N 0 args K = some r → (none : O β) = some r := by
  intro args K r h
  unfold SF143 VSF143 at h
  split at h <;> exact h
theorem of143 (N : Nat) : ∀ G, SpecOK (β := β) inv Tryz.prog 143 (SF143 N G) := by
  intro G
  induction G with
  | zero => exact s_zero Tryz.func143 (by kernel_rfl) (z143 N)
  | succ G ih =>
    refine spec_of lay_ok mixed (E := E143 N G) (specs_loops (specs_cons (o205 N) (specs_cons (o206 N) (specs_cons ih specs_nil)))) muts_nil gs_nil Tryz.func143 (by kernel_rfl) 1 (by kernel_rfl) ⟨trivial, rk143_0 N G⟩ fun args K r h => ?_
    unfold SF143 VSF143 at h
    split at h
    · exact (ve143_0 (zj70 N) (zj74 N) (zj77 N) (zj79 N) N G _ _ _ _ _).trans h
    · cases h
theorem o143 (N : Nat) : SpecOK (β := β) inv Tryz.prog 143 (S143 N) := of143 N N
def VS73 (N : Nat) : Rv.Spec β := fun args K => match args with
  | [.v (.agg [.int .i64 a0, .int .i64 a1])] => zq81 a0 a1 (fun z2 z3 => K (.tup [.one (.str z2), .one (.bool z3)]))
  | _ => none
def S73 (N : Nat) : Rv.Spec β := VS73 (zj81 N) N
def VE73 (N : Nat) : Env β := ⟨[(20, VS20 zq26 N), (143, VS143 zq79 N)], [], [], [], ⟨[], [], [], []⟩⟩
def E73 (N : Nat) : Env β := VE73 (zj26 N) (zj79 N) N
theorem ve73_0 (N : Nat) (a0 : Int) (a1 : Int) (K : TV → O β) : evFn lay (VE73 zq26 zq79 N) Tryz.f73 [.v (.agg [.int .i64 a0, .int .i64 a1])] K = zb81 zq26 (zq79 N) N a0 a1 (fun z2 z3 => K (.tup [.one (.str z2), .one (.bool z3)])) := by kernel_rfl
theorem o73 (N : Nat) : SpecOK (β := β) inv Tryz.prog 73 (S73 N) := by
  refine spec_of lay_ok mixed (E := E73 N) (specs_loops (specs_cons (o20 N) (specs_cons (o143 N) specs_nil))) muts_nil gs_nil Tryz.func73 (by kernel_rfl) 0 (by kernel_rfl) trivial fun args K r h => ?_
  unfold S73 VS73 at h
  split at h
  · exact (ve73_0 (zj26 N) (zj79 N) N _ _ _).trans h
  · cases h
def VS160 (N : Nat) : Rv.Spec β := fun args K => match args with
  | [.v (.one (.int .i64 a0))] => zq82 a0 (fun z1 => K (.v (.one (.int .i64 z1))))
  | _ => none
def S160 (N : Nat) : Rv.Spec β := VS160 (zj82 N) N
def VE160 (N : Nat) : Env β := ⟨[], [], [], [], ⟨[], [], [], []⟩⟩
def E160 (N : Nat) : Env β := VE160 N
theorem ve160_0 (N : Nat) (a0 : Int) (K : TV → O β) : evFn lay (VE160 N) Tryz.f160 [.v (.one (.int .i64 a0))] K = zb82 N a0 (fun z1 => K (.v (.one (.int .i64 z1)))) := by kernel_rfl
theorem o160 (N : Nat) : SpecOK (β := β) inv Tryz.prog 160 (S160 N) := by
  refine spec_of lay_ok mixed (E := E160 N) (specs_loops specs_nil) muts_nil gs_nil Tryz.func160 (by kernel_rfl) 0 (by kernel_rfl) trivial fun args K r h => ?_
  unfold S160 VS160 at h
  split at h
  · exact (ve160_0 N _ _).trans h
  · cases h
end Go.Proofs.YtemihnclhcobnaaGreatDoor
