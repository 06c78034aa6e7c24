/- The functions that the claims reach answer as their texts do. -/
import Derived.Test.YtemihnclhcobnaaGreatDoorE1
namespace Go.Proofs.YtemihnclhcobnaaGreatDoor
open Go.Rv
set_option maxRecDepth 100000
set_option maxHeartbeats 2000000
set_option linter.unusedVariables false
variable {β : Type}
variable (zq25 : Y3 β) (zq26 : Y0 β) (zq35 : Y3 β) (zq44 : Y2 β) (zq45 : Y23 β) (zq47 : Y24 β) (zq48 : Y23 β) (zq50 : Y27 β) (zq52 : Y26 β) (zq53 : Y25 β) (zq55 : Y29 β) (zq57 : Y28 β) (zq60 : Y31 β) (zq61 : Y30 β) (zq63 : Y33 β) (zq64 : Y8 β)
def VS204 (N : Nat) : Rv.Spec β := fun args K => match args with
  | [.v (.agg [.int .i64 a0, .int .i64 a1]), .v (.agg [.int .i64 a2, .int .i64 a3])] => zq48 a0 a1 a2 a3 (fun z4 => K (.v (.one (.bool z4))))
  | _ => none
def S204 (N : Nat) : Rv.Spec β := VS204 (zj48 N) N
def h204_0_0 (v0 : Int) (v1 : Int) (v2 : Int) (v3 : Int) (v4 : Int) : St := ⟨tund :: tund :: .v (.one (.ptr 0 0)) :: .v (.one (.ptr 1 0)) :: tund :: .v (.one (.int .i64 v0)) :: tn 34 [], [.cells 25 [.int .i64 v1, .int .i64 v2], .cells 93 [.int .i64 v3, .int .i64 v4]]⟩
def x204_0_0_k0 (y0 : Bool) : St := ⟨tn 4 (.v (.one (.bool y0)) :: tn 35 []), []⟩
def x204_0_0_k1 : St := ⟨tn 40 [], []⟩
def p204_0_0 {γ : Type} (f : Int → Int → Int → Int → Int → γ) (s : St) : γ := f (intS (oneA (vT (nx tund s.tmps 5)))) (intS (nx .und (cellsB (nx .dead s.blks 0)) 0)) (intS (nx .und (cellsB (nx .dead s.blks 0)) 1)) (intS (nx .und (cellsB (nx .dead s.blks 1)) 0)) (intS (nx .und (cellsB (nx .dead s.blks 1)) 1))
theorem fl204_0_0 (s : St) : refSt (h204_0_0 0 0 0 0 0) s = p204_0_0 h204_0_0 s := by kernel_rfl
def VLS204_0 (N : Nat) : LSpec β := fun s K => cond (shpSt (h204_0_0 0 0 0 0 0) s) (p204_0_0 (fun v0 v1 v2 v3 v4 => zq47 N v0 v1 v2 v3 v4 (fun y0 => K .ret (x204_0_0_k0 y0)) (K (.exit 0) (x204_0_0_k1 ))) s) (none)
def LS204_0 (N : Nat) : LSpec β := VLS204_0 (zj47 N) N
def VE204 (N : Nat) : Env β := ⟨[(236, VS236 zq45 N)], [], [(0, VLS204_0 zq47 N)], [], ⟨[], [], [], []⟩⟩
def E204 (N : Nat) : Env β := VE204 (zj45 N) (zj47 N) N
theorem vst204_0_0 (N : Nat) (v0 : Int) (v1 : Int) (v2 : Int) (v3 : Int) (v4 : Int) (rec_ : St → O β) (K : Exit → St → O β) :
    stB lay (VE204 zq45 zq47 N) Tryz.f204 0 (h204_0_0 v0 v1 v2 v3 v4) rec_ K = zb46 zq45 N v0 v1 v2 v3 v4 (fun v0 v1 v2 v3 v4 => rec_ (h204_0_0 v0 v1 v2 v3 v4)) (fun y0 => K .ret (x204_0_0_k0 y0)) (K (.exit 0) (x204_0_0_k1 )) := by kernel_rfl
theorem ro204_0_0 (N : Nat) (K : Exit → St → O β) : ∀ (F : Nat) (v0 : Int) (v1 : Int) (v2 : Int) (v3 : Int) (v4 : Int), (lp Tryz.f204 0).rounds lay (E204 N) (retMask Tryz.f204) F (h204_0_0 v0 v1 v2 v3 v4) K = zj47 N F v0 v1 v2 v3 v4 (fun y0 => K .ret (x204_0_0_k0 y0)) (K (.exit 0) (x204_0_0_k1 )) := by
  intro F
  induction F with
  | zero => intros; rfl
  | succ F ih =>
    intros
    rw [rounds_next]
    refine (vst204_0_0 (zj45 N) (zj47 N) N _ _ _ _ _ (fun s => (lp Tryz.f204 0).rounds lay (E204 N) (retMask Tryz.f204) F s K) K).trans ?_
    simp only [ih]
    rfl
theorem lk204_0 (N : Nat) : lookL (E204 (β := β) N).loops (lp Tryz.f204 0).id = LS204_0 N := by kernel_rfl
theorem rk204_0 (N : Nat) : RoundsOK lay (E204 (β := β) N) (retMask Tryz.f204) (lp Tryz.f204 0) := by
  intro s K r h
  rw [lk204_0] at h
  unfold LS204_0 VLS204_0 at h
  cases hb : shpSt (h204_0_0 0 0 0 0 0) s with
  | true =>
    rw [hb, cond_true] at h
    exact ⟨N, by rw [← shpSt_ref hb, fl204_0_0 s]; unfold p204_0_0 at h ⊢; exact (ro204_0_0 N K N _ _ _ _ _).trans h⟩
  | false =>
  rw [hb, cond_false] at h
  clear hb
  cases h
theorem ve204_0 (N : Nat) (a0 : Int) (a1 : Int) (a2 : Int) (a3 : Int) (K : TV → O β) : evFn lay (VE204 zq45 zq47 N) Tryz.f204 [.v (.agg [.int .i64 a0, .int .i64 a1]), .v (.agg [.int .i64 a2, .int .i64 a3])] K = zb48 zq45 zq47 N a0 a1 a2 a3 (fun z4 => K (.v (.one (.bool z4)))) := by kernel_rfl
theorem o204 (N : Nat) : SpecOK (β := β) inv Tryz.prog 204 (S204 N) := by
  refine spec_of lay_ok mixed (E := E204 N) (specs_loops (specs_cons (o236 N) specs_nil)) muts_nil gs_nil Tryz.func204 (by kernel_rfl) 1 (by kernel_rfl) ⟨trivial, rk204_0 N⟩ fun args K r h => ?_
  unfold S204 VS204 at h
  split at h
  · exact (ve204_0 (zj45 N) (zj47 N) N _ _ _ _ _).trans h
  · cases h
def VS141 (N : Nat) : Rv.Spec β := fun args K => match args with
  | [.v (.agg [.int .i64 a0, .int .i64 a1])] => zq53 a0 a1 (fun z2 => K (.v (.one (.sl 93 (.pairs z2)))))
  | _ => none
def S141 (N : Nat) : Rv.Spec β := VS141 (zj53 N) N
def h141_0_0 (v0 : Int) (v1 : Int) (v2 : Int) (v3 : List (Int × Int)) : St := ⟨tund :: .v (.one (.ptr 0 0)) :: tund :: .v (.one (.row 1)) :: .v (.one (.int .i64 v0)) :: tn 33 [], [.cells 25 [.int .i64 v1, .int .i64 v2], .row 93 (.pairs v3)]⟩
def x141_0_0_k0 (y0 : List (Int × Int)) : St := ⟨tn 3 (.v (.one (.row 0)) :: tn 34 []), [.row 93 (.pairs y0)]⟩
def h141_1_0 (v0 : Int) (v1 : Int) (v2 : Int) (v3 : Int) (v4 : List (Int × Int)) : St := ⟨tund :: .v (.one (.ptr 0 0)) :: tund :: .v (.one (.row 1)) :: .v (.one (.int .i64 v0)) :: .v (.one (.int .i64 v1)) :: tn 32 [], [.cells 25 [.int .i64 v2, .int .i64 v3], .row 93 (.pairs v4)]⟩
def x141_1_0_k0 (y0 : Int) (y1 : Int) (y2 : Int) (y3 : List (Int × Int)) : St := ⟨tund :: .v (.one (.ptr 0 0)) :: tund :: .v (.one (.row 1)) :: .v (.one (.int .i64 y0)) :: tn 33 [], [.cells 25 [.int .i64 y1, .int .i64 y2], .row 93 (.pairs y3)]⟩
def p141_0_0 {γ : Type} (f : Int → Int → Int → (List (Int × Int)) → γ) (s : St) : γ := f (intS (oneA (vT (nx tund s.tmps 4)))) (intS (nx .und (cellsB (nx .dead s.blks 0)) 0)) (intS (nx .und (cellsB (nx .dead s.blks 0)) 1)) (rPairs (rowB_ (nx .dead s.blks 1)))
theorem fl141_0_0 (s : St) : refSt (h141_0_0 0 0 0 []) s = p141_0_0 h141_0_0 s := by kernel_rfl
def VLS141_0 (N : Nat) : LSpec β := fun s K => cond (shpSt (h141_0_0 0 0 0 []) s) (p141_0_0 (fun v0 v1 v2 v3 => zq52 N v0 v1 v2 v3 (fun y0 => K (.exit 0) (x141_0_0_k0 y0))) s) (none)
def LS141_0 (N : Nat) : LSpec β := VLS141_0 (zj52 N) N
def p141_1_0 {γ : Type} (f : Int → Int → Int → Int → (List (Int × Int)) → γ) (s : St) : γ := f (intS (oneA (vT (nx tund s.tmps 4)))) (intS (oneA (vT (nx tund s.tmps 5)))) (intS (nx .und (cellsB (nx .dead s.blks 0)) 0)) (intS (nx .und (cellsB (nx .dead s.blks 0)) 1)) (rPairs (rowB_ (nx .dead s.blks 1)))
theorem fl141_1_0 (s : St) : refSt (h141_1_0 0 0 0 0 []) s = p141_1_0 h141_1_0 s := by kernel_rfl
def VLS141_2 (N : Nat) : LSpec β := fun s K => cond (shpSt (h141_1_0 0 0 0 0 []) s) ((fun (v0 : Int) (v1 : Int) (v2 : Int) (v3 : Int) (v4 : List (Int × Int)) => zq50 N v0 v1 v2 v3 v4 (fun y0 y1 y2 y3 => K (.exit 2) (x141_1_0_k0 y0 y1 y2 y3))) (intS (oneA (vT (nx tund s.tmps 4)))) (intS (oneA (vT (nx tund s.tmps 5)))) (intS (nx .und (cellsB (nx .dead s.blks 0)) 0)) (intS (nx .und (cellsB (nx .dead s.blks 0)) 1)) (rPairs (rowB_ (nx .dead s.blks 1)))) (none)
def LS141_2 (N : Nat) : LSpec β := VLS141_2 (zj50 N) N
def VE141 (N : Nat) : Env β := ⟨[(204, VS204 zq48 N)], [], [(0, VLS141_0 zq52 N), (2, VLS141_2 zq50 N)], [], ⟨[], [], [], []⟩⟩
def E141 (N : Nat) : Env β := VE141 (zj48 N) (zj50 N) (zj52 N) N
theorem vst141_0_0 (N : Nat) (v0 : Int) (v1 : Int) (v2 : Int) (v3 : List (Int × Int)) (rec_ : St → O β) (K : Exit → St → O β) :
    stB lay (VE141 zq48 zq50 zq52 N) Tryz.f141 0 (h141_0_0 v0 v1 v2 v3) rec_ K = zb51 zq50 N v0 v1 v2 v3 (fun v0 v1 v2 v3 => rec_ (h141_0_0 v0 v1 v2 v3)) (fun y0 => K (.exit 0) (x141_0_0_k0 y0)) := by kernel_rfl
theorem ro141_0_0 (N : Nat) (K : Exit → St → O β) : ∀ (F : Nat) (v0 : Int) (v1 : Int) (v2 : Int) (v3 : List (Int × Int)), (lp Tryz.f141 0).rounds lay (E141 N) (retMask Tryz.f141) F (h141_0_0 v0 v1 v2 v3) K = zj52 N F v0 v1 v2 v3 (fun y0 => K (.exit 0) (x141_0_0_k0 y0)) := by
  intro F
  induction F with
  | zero => intros; rfl
  | succ F ih =>
    intros
    rw [rounds_next]
    refine (vst141_0_0 (zj48 N) (zj50 N) (zj52 N) N _ _ _ _ (fun s => (lp Tryz.f141 0).rounds lay (E141 N) (retMask Tryz.f141) F s K) K).trans ?_
    simp only [ih]
    rfl
theorem lk141_0 (N : Nat) : lookL (E141 (β := β) N).loops (lp Tryz.f141 0).id = LS141_0 N := by kernel_rfl
theorem rk141_0 (N : Nat) : RoundsOK lay (E141 (β := β) N) (retMask Tryz.f141) (lp Tryz.f141 0) := by
  intro s K r h
  rw [lk141_0] at h
  unfold LS141_0 VLS141_0 at h
  cases hb : shpSt (h141_0_0 0 0 0 []) s with
  | true =>
    rw [hb, cond_true] at h
    exact ⟨N, by rw [← shpSt_ref hb, fl141_0_0 s]; unfold p141_0_0 at h ⊢; exact (ro141_0_0 N K N _ _ _ _).trans h⟩
  | false =>
  rw [hb, cond_false] at h
  clear hb
  cases h
theorem vst141_1_0 (N : Nat) (v0 : Int) (v1 : Int) (v2 : Int) (v3 : Int) (v4 : List (Int × Int)) (rec_ : St → O β) (K : Exit → St → O β) :
    stB lay (VE141 zq48 zq50 zq52 N) Tryz.f141 1 (h141_1_0 v0 v1 v2 v3 v4) rec_ K = zb49 zq48 N v0 v1 v2 v3 v4 (fun v0 v1 v2 v3 v4 => rec_ (h141_1_0 v0 v1 v2 v3 v4)) (fun y0 y1 y2 y3 => K (.exit 2) (x141_1_0_k0 y0 y1 y2 y3)) := by kernel_rfl
theorem ro141_1_0 (N : Nat) (K : Exit → St → O β) : ∀ (F : Nat) (v0 : Int) (v1 : Int) (v2 : Int) (v3 : Int) (v4 : List (Int × Int)), (lp Tryz.f141 1).rounds lay (E141 N) (retMask Tryz.f141) F (h141_1_0 v0 v1 v2 v3 v4) K = zj50 N F v0 v1 v2 v3 v4 (fun y0 y1 y2 y3 => K (.exit 2) (x141_1_0_k0 y0 y1 y2 y3)) := by
  intro F
  induction F with
  | zero => intros; rfl
  | succ F ih =>
    intros
    rw [rounds_next]
    refine (vst141_1_0 (zj48 N) (zj50 N) (zj52 N) N _ _ _ _ _ (fun s => (lp Tryz.f141 1).rounds lay (E141 N) (retMask Tryz.f141) F s K) K).trans ?_
    simp only [ih]
    rfl
theorem lk141_2 (N : Nat) : lookL (E141 (β := β) N).loops (lp Tryz.f141 1).id = LS141_2 N := by kernel_rfl
theorem rk141_2 (N : Nat) : RoundsOK lay (E141 (β := β) N) (retMask Tryz.f141) (lp Tryz.f141 1) := by
  intro s K r h
  rw [lk141_2] at h
  unfold LS141_2 VLS141_2 at h
  cases hb : shpSt (h141_1_0 0 0 0 0 []) s with
  | true =>
    rw [hb, cond_true] at h
    exact ⟨N, by rw [← shpSt_ref hb, fl141_1_0 s]; exact (ro141_1_0 N K N (intS (oneA (vT (nx tund s.tmps 4)))) (intS (oneA (vT (nx tund s.tmps 5)))) (intS (nx .und (cellsB (nx .dead s.blks 0)) 0)) (intS (nx .und (cellsB (nx .dead s.blks 0)) 1)) (rPairs (rowB_ (nx .dead s.blks 1)))).trans h⟩
  | false =>
  rw [hb, cond_false] at h
  clear hb
  cases h
theorem ve141_0 (N : Nat) (a0 : Int) (a1 : Int) (K : TV → O β) : evFn lay (VE141 zq48 zq50 zq52 N) Tryz.f141 [.v (.agg [.int .i64 a0, .int .i64 a1])] K = zb53 zq52 N a0 a1 (fun z2 => K (.v (.one (.sl 93 (.pairs z2))))) := by kernel_rfl
theorem o141 (N : Nat) : SpecOK (β := β) inv Tryz.prog 141 (S141 N) := by
  refine spec_of lay_ok mixed (E := E141 N) (specs_loops (specs_cons (o204 N) specs_nil)) muts_nil gs_nil Tryz.func141 (by kernel_rfl) 2 (by kernel_rfl) ⟨⟨trivial, rk141_0 N⟩, rk141_2 N⟩ fun args K r h => ?_
  unfold S141 VS141 at h
  split at h
  · exact (ve141_0 (zj48 N) (zj50 N) (zj52 N) N _ _ _).trans h
  · cases h
def VSF142 (N : Nat) (G : Nat) : Rv.Spec β := fun args K => match args with
  | [.v (.agg [.int .i64 a0, .int .i64 a1]), .v (.one (.sl 93 (.pairs a2))), .v (.one (.int .i64 a3)), .v (.one (.int .i64 a4)), .v (.one (.int .i64 a5))] => zq57 G a0 a1 a2 a3 a4 a5 (fun z6 z7 => K (.tup [.one (.sl 93 (.pairs z6)), .one (.bool z7)]))
  | _ => none
def SF142 (N : Nat) (G : Nat) : Rv.Spec β := VSF142 (zj57 N) N G
def VS142 (N : Nat) : Rv.Spec β := VSF142 zq57 N N
def S142 (N : Nat) : Rv.Spec β := SF142 N N
def h142_0_0 (v0 : List (Int × Int)) (v1 : Int) (v2 : Int) (v3 : Int) (v4 : Int) (v5 : Int) : St := ⟨tund :: .v (.one (.sl 93 (.pairs v0))) :: tund :: .v (.one (.int .i64 v1)) :: .v (.one (.int .i64 v2)) :: .v (.one (.ptr 0 0)) :: tn 6 (.v (.one (.int .i64 v3)) :: tn 51 []), [.cells 25 [.int .i64 v4, .int .i64 v5]]⟩
def x142_0_0_k0 (y0 : Bool) (y1 : List (Int × Int)) : St := ⟨tn 10 (.v (.one (.row 0)) :: .v (.one (.bool y0)) :: tn 52 []), [.row 93 (.pairs y1)]⟩
def x142_0_0_k1 : St := ⟨tn 64 [], []⟩
def p142_0_0 {γ : Type} (f : (List (Int × Int)) → Int → Int → Int → Int → Int → γ) (s : St) : γ := f (rPairs (rowV (oneA (vT (nx tund s.tmps 1))))) (intS (oneA (vT (nx tund s.tmps 3)))) (intS (oneA (vT (nx tund s.tmps 4)))) (intS (oneA (vT (nx tund s.tmps 12)))) (intS (nx .und (cellsB (nx .dead s.blks 0)) 0)) (intS (nx .und (cellsB (nx .dead s.blks 0)) 1))
theorem fl142_0_0 (s : St) : refSt (h142_0_0 [] 0 0 0 0 0) s = p142_0_0 h142_0_0 s := by kernel_rfl
def VLS142_0 (N : Nat) (G : Nat) : LSpec β := fun s K => cond (shpSt (h142_0_0 [] 0 0 0 0 0) s) (p142_0_0 (fun v0 v1 v2 v3 v4 v5 => zq55 (zq57 G) N v0 v1 v2 v3 v4 v5 (fun y0 y1 => K .ret (x142_0_0_k0 y0 y1)) (K (.exit 0) (x142_0_0_k1 ))) s) (none)
def LS142_0 (N : Nat) (G : Nat) : LSpec β := VLS142_0 (zj55 N) (zj57 N) N G
def VE142 (N : Nat) (G : Nat) : Env β := ⟨[(124, VS124 zq44 N), (142, VSF142 zq57 N G)], [], [(0, VLS142_0 zq55 zq57 N G)], [], ⟨[], [], [], []⟩⟩
def E142 (N : Nat) (G : Nat) : Env β := VE142 (zj44 N) (zj55 N) (zj57 N) N G
theorem vst142_0_0 (N : Nat) (G : Nat) (v0 : List (Int × Int)) (v1 : Int) (v2 : Int) (v3 : Int) (v4 : Int) (v5 : Int) (rec_ : St → O β) (K : Exit → St → O β) :
    stB lay (VE142 zq44 zq55 zq57 N G) Tryz.f142 0 (h142_0_0 v0 v1 v2 v3 v4 v5) rec_ K = zb54 zq44 N (zq57 G) v0 v1 v2 v3 v4 v5 (fun v0 v1 v2 v3 v4 v5 => rec_ (h142_0_0 v0 v1 v2 v3 v4 v5)) (fun y0 y1 => K .ret (x142_0_0_k0 y0 y1)) (K (.exit 0) (x142_0_0_k1 )) := by kernel_rfl
theorem ro142_0_0 (N : Nat) (G : Nat) (K : Exit → St → O β) : ∀ (F : Nat) (v0 : List (Int × Int)) (v1 : Int) (v2 : Int) (v3 : Int) (v4 : Int) (v5 : Int), (lp Tryz.f142 0).rounds lay (E142 N G) (retMask Tryz.f142) F (h142_0_0 v0 v1 v2 v3 v4 v5) K = zj55 N (zj57 N G) F v0 v1 v2 v3 v4 v5 (fun y0 y1 => K .ret (x142_0_0_k0 y0 y1)) (K (.exit 0) (x142_0_0_k1 )) := by
  intro F
  induction F with
  | zero => intros; rfl
  | succ F ih =>
    intros
    rw [rounds_next]
    refine (vst142_0_0 (zj44 N) (zj55 N) (zj57 N) N G _ _ _ _ _ _ (fun s => (lp Tryz.f142 0).rounds lay (E142 N G) (retMask Tryz.f142) F s K) K).trans ?_
    simp only [ih]
    rfl
theorem lk142_0 (N : Nat) (G : Nat) : lookL (E142 (β := β) N G).loops (lp Tryz.f142 0).id = LS142_0 N G := by kernel_rfl
theorem rk142_0 (N : Nat) (G : Nat) : RoundsOK lay (E142 (β := β) N G) (retMask Tryz.f142) (lp Tryz.f142 0) := by
  intro s K r h
  rw [lk142_0] at h
  unfold LS142_0 VLS142_0 at h
  cases hb : shpSt (h142_0_0 [] 0 0 0 0 0) s with
  | true =>
    rw [hb, cond_true] at h
    exact ⟨N, by rw [← shpSt_ref hb, fl142_0_0 s]; unfold p142_0_0 at h ⊢; exact (ro142_0_0 N _ K N _ _ _ _ _ _).trans h⟩
  | false =>
  rw [hb, cond_false] at h
  clear hb
  cases h
theorem ve142_0 (N : Nat) (G : Nat) (a0 : Int) (a1 : Int) (a2 : List (Int × Int)) (a3 : Int) (a4 : Int) (a5 : Int) (K : TV → O β) : evFn lay (VE142 zq44 zq55 zq57 N G) Tryz.f142 [.v (.agg [.int .i64 a0, .int .i64 a1]), .v (.one (.sl 93 (.pairs a2))), .v (.one (.int .i64 a3)), .v (.one (.int .i64 a4)), .v (.one (.int .i64 a5))] K = zb56 zq55 N (zq57 G) a0 a1 a2 a3 a4 a5 (fun z6 z7 => K (.tup [.one (.sl 93 (.pairs z6)), .one (.bool z7)])) := by kernel_rfl
theorem z142 (N : Nat) : ∀ args K r, SF142 (β := β) N 0 args K = some r → (none : O β) = some r := by
  intro args K r h
  unfold SF142 VSF142 at h
  split at h <;> exact h
theorem of142 (N : Nat) : ∀ G, SpecOK (β := β) inv Tryz.prog 142 (SF142 N G) := by
  intro G
  induction G with
  | zero => exact s_zero Tryz.func142 (by kernel_rfl) (z142 N)
  | succ G ih =>
    refine spec_of lay_ok mixed (E := E142 N G) (specs_loops (specs_cons (o124 N) (specs_cons ih specs_nil))) muts_nil gs_nil Tryz.func142 (by kernel_rfl) 1 (by kernel_rfl) ⟨trivial, rk142_0 N G⟩ fun args K r h => ?_
    unfold SF142 VSF142 at h
    split at h
    · exact (ve142_0 (zj44 N) (zj55 N) (zj57 N) N G _ _ _ _ _ _ _).trans h
    · cases h
theorem o142 (N : Nat) : SpecOK (β := β) inv Tryz.prog 142 (S142 N) := of142 N N
def VS71 (N : Nat) : Rv.Spec β := fun args K => match args with
  | [.v (.agg [.int .i64 a0, .int .i64 a1])] => zq61 a0 a1 (fun z2 z3 => K (.tup [.one (.sl 93 (.pairs z2)), .one (.bool z3)]))
  | _ => none
def S71 (N : Nat) : Rv.Spec β := VS71 (zj61 N) N
def h71_0_0 (v0 : Int) (v1 : Int) (v2 : Int) (v3 : List (Int × Int)) : St := ⟨tund :: .v (.one (.ptr 0 0)) :: tund :: tund :: .v (.one (.row 1)) :: .v (.one (.int .i64 v0)) :: tn 29 [], [.cells 25 [.int .i64 v1, .int .i64 v2], .row 93 (.pairs v3)]⟩
def x71_0_0_k0 (y0 : Bool) (y1 : List (Int × Int)) : St := ⟨tund :: tund :: .v (.one (.row 0)) :: .v (.one (.bool y0)) :: tn 31 [], [.row 93 (.pairs y1)]⟩
def x71_0_0_k1 : St := ⟨tn 35 [], []⟩
def p71_0_0 {γ : Type} (f : Int → Int → Int → (List (Int × Int)) → γ) (s : St) : γ := f (intS (oneA (vT (nx tund s.tmps 5)))) (intS (nx .und (cellsB (nx .dead s.blks 0)) 0)) (intS (nx .und (cellsB (nx .dead s.blks 0)) 1)) (rPairs (rowB_ (nx .dead s.blks 1)))
theorem fl71_0_0 (s : St) : refSt (h71_0_0 0 0 0 []) s = p71_0_0 h71_0_0 s := by kernel_rfl
def VLS71_0 (N : Nat) : LSpec β := fun s K => cond (shpSt (h71_0_0 0 0 0 []) s) (p71_0_0 (fun v0 v1 v2 v3 => zq60 N v0 v1 v2 v3 (fun y0 y1 => K .ret (x71_0_0_k0 y0 y1)) (K (.exit 0) (x71_0_0_k1 ))) s) (none)
def LS71_0 (N : Nat) : LSpec β := VLS71_0 (zj60 N) N
def VE71 (N : Nat) : Env β := ⟨[(20, VS20 zq26 N), (141, VS141 zq53 N), (142, VS142 zq57 N)], [], [(0, VLS71_0 zq60 N)], [], ⟨[], [], [], []⟩⟩
def E71 (N : Nat) : Env β := VE71 (zj26 N) (zj53 N) (zj57 N) (zj60 N) N
theorem vst71_0_0 (N : Nat) (v0 : Int) (v1 : Int) (v2 : Int) (v3 : List (Int × Int)) (rec_ : St → O β) (K : Exit → St → O β) :
    stB lay (VE71 zq26 zq53 zq57 zq60 N) Tryz.f71 0 (h71_0_0 v0 v1 v2 v3) rec_ K = zb59 (zq57 N) N v0 v1 v2 v3 (fun v0 v1 v2 v3 => rec_ (h71_0_0 v0 v1 v2 v3)) (fun y0 y1 => K .ret (x71_0_0_k0 y0 y1)) (K (.exit 0) (x71_0_0_k1 )) := by kernel_rfl
theorem ro71_0_0 (N : Nat) (K : Exit → St → O β) : ∀ (F : Nat) (v0 : Int) (v1 : Int) (v2 : Int) (v3 : List (Int × Int)), (lp Tryz.f71 0).rounds lay (E71 N) (retMask Tryz.f71) F (h71_0_0 v0 v1 v2 v3) K = zj60 N F v0 v1 v2 v3 (fun y0 y1 => K .ret (x71_0_0_k0 y0 y1)) (K (.exit 0) (x71_0_0_k1 )) := by
  intro F
  induction F with
  | zero => intros; rfl
  | succ F ih =>
    intros
    rw [rounds_next]
    refine (vst71_0_0 (zj26 N) (zj53 N) (zj57 N) (zj60 N) N _ _ _ _ (fun s => (lp Tryz.f71 0).rounds lay (E71 N) (retMask Tryz.f71) F s K) K).trans ?_
    simp only [ih]
    rfl
theorem lk71_0 (N : Nat) : lookL (E71 (β := β) N).loops (lp Tryz.f71 0).id = LS71_0 N := by kernel_rfl
theorem rk71_0 (N : Nat) : RoundsOK lay (E71 (β := β) N) (retMask Tryz.f71) (lp Tryz.f71 0) := by
  intro s K r h
  rw [lk71_0] at h
  unfold LS71_0 VLS71_0 at h
  cases hb : shpSt (h71_0_0 0 0 0 []) s with
  | true =>
    rw [hb, cond_true] at h
    exact ⟨N, by rw [← shpSt_ref hb, fl71_0_0 s]; unfold p71_0_0 at h ⊢; exact (ro71_0_0 N K N _ _ _ _).trans h⟩
  | false =>
  rw [hb, cond_false] at h
  clear hb
  cases h
theorem ve71_0 (N : Nat) (a0 : Int) (a1 : Int) (K : TV → O β) : evFn lay (VE71 zq26 zq53 zq57 zq60 N) Tryz.f71 [.v (.agg [.int .i64 a0, .int .i64 a1])] K = zb61 zq26 zq53 zq60 N a0 a1 (fun z2 z3 => K (.tup [.one (.sl 93 (.pairs z2)), .one (.bool z3)])) := by kernel_rfl
theorem o71 (N : Nat) : SpecOK (β := β) inv Tryz.prog 71 (S71 N) := by
  refine spec_of lay_ok mixed (E := E71 N) (specs_loops (specs_cons (o20 N) (specs_cons (o141 N) (specs_cons (o142 N) specs_nil)))) muts_nil gs_nil Tryz.func71 (by kernel_rfl) 1 (by kernel_rfl) ⟨trivial, rk71_0 N⟩ fun args K r h => ?_
  unfold S71 VS71 at h
  split at h
  · exact (ve71_0 (zj26 N) (zj53 N) (zj57 N) (zj60 N) N _ _ _).trans h
  · cases h
def VS122 (N : Nat) : Rv.Spec β := fun args K => match args with
  | [.v (.one (.int .i64 a0)), .v (.one (.sl 93 (.pairs a1)))] => zq64 a0 a1 (fun z2 => K (.v (.one (.bool z2))))
  | _ => none
def S122 (N : Nat) : Rv.Spec β := VS122 (zj64 N) N
def h122_0_0 (v0 : Int) (v1 : List (Int × Int)) (v2 : Int) : St := ⟨.v (.one (.int .i64 v0)) :: .v (.one (.sl 93 (.pairs v1))) :: tn 3 (.v (.one (.int .i64 v2)) :: tn 20 []), []⟩
def x122_0_0_k0 (y0 : Bool) : St := ⟨tn 4 (.v (.one (.bool y0)) :: tn 21 []), []⟩
def x122_0_0_k1 (y0 : Int) (y1 : List (Int × Int)) : St := ⟨.v (.one (.int .i64 y0)) :: .v (.one (.sl 93 (.pairs y1))) :: tn 24 [], []⟩
def p122_0_0 {γ : Type} (f : Int → (List (Int × Int)) → Int → γ) (s : St) : γ := f (intS (oneA (vT (nx tund s.tmps 0)))) (rPairs (rowV (oneA (vT (nx tund s.tmps 1))))) (intS (oneA (vT (nx tund s.tmps 5))))
theorem fl122_0_0 (s : St) : refSt (h122_0_0 0 [] 0) s = p122_0_0 h122_0_0 s := by kernel_rfl
def VLS122_0 (N : Nat) : LSpec β := fun s K => cond (shpSt (h122_0_0 0 [] 0) s) (p122_0_0 (fun v0 v1 v2 => zq63 N v0 v1 v2 (fun y0 => K .ret (x122_0_0_k0 y0)) (fun y0 y1 => K (.exit 0) (x122_0_0_k1 y0 y1))) s) (none)
def LS122_0 (N : Nat) : LSpec β := VLS122_0 (zj63 N) N
def VE122 (N : Nat) : Env β := ⟨[(123, VS123 zq35 N), (57, VS57 zq25 N)], [], [(0, VLS122_0 zq63 N)], [], ⟨[], [], [], []⟩⟩
def E122 (N : Nat) : Env β := VE122 (zj25 N) (zj35 N) (zj63 N) N
theorem vst122_0_0 (N : Nat) (v0 : Int) (v1 : List (Int × Int)) (v2 : Int) (rec_ : St → O β) (K : Exit → St → O β) :
    stB lay (VE122 zq25 zq35 zq63 N) Tryz.f122 0 (h122_0_0 v0 v1 v2) rec_ K = zb62 zq35 N v0 v1 v2 (fun v0 v1 v2 => rec_ (h122_0_0 v0 v1 v2)) (fun y0 => K .ret (x122_0_0_k0 y0)) (fun y0 y1 => K (.exit 0) (x122_0_0_k1 y0 y1)) := by kernel_rfl
theorem ro122_0_0 (N : Nat) (K : Exit → St → O β) : ∀ (F : Nat) (v0 : Int) (v1 : List (Int × Int)) (v2 : Int), (lp Tryz.f122 0).rounds lay (E122 N) (retMask Tryz.f122) F (h122_0_0 v0 v1 v2) K = zj63 N F v0 v1 v2 (fun y0 => K .ret (x122_0_0_k0 y0)) (fun y0 y1 => K (.exit 0) (x122_0_0_k1 y0 y1)) := by
  intro F
  induction F with
  | zero => intros; rfl
  | succ F ih =>
    intros
    rw [rounds_next]
    refine (vst122_0_0 (zj25 N) (zj35 N) (zj63 N) N _ _ _ (fun s => (lp Tryz.f122 0).rounds lay (E122 N) (retMask Tryz.f122) F s K) K).trans ?_
    simp only [ih]
    rfl
theorem lk122_0 (N : Nat) : lookL (E122 (β := β) N).loops (lp Tryz.f122 0).id = LS122_0 N := by kernel_rfl
theorem rk122_0 (N : Nat) : RoundsOK lay (E122 (β := β) N) (retMask Tryz.f122) (lp Tryz.f122 0) := by
  intro s K r h
  rw [lk122_0] at h
  unfold LS122_0 VLS122_0 at h
  cases hb : shpSt (h122_0_0 0 [] 0) s with
  | true =>
    rw [hb, cond_true] at h
    exact ⟨N, by rw [← shpSt_ref hb, fl122_0_0 s]; unfold p122_0_0 at h ⊢; exact (ro122_0_0 N K N _ _ _).trans h⟩
  | false =>
  rw [hb, cond_false] at h
  clear hb
  cases h
theorem ve122_0 (N : Nat) (a0 : Int) (a1 : List (Int × Int)) (K : TV → O β) : evFn lay (VE122 zq25 zq35 zq63 N) Tryz.f122 [.v (.one (.int .i64 a0)), .v (.one (.sl 93 (.pairs a1)))] K = zb64 zq25 zq63 N a0 a1 (fun z2 => K (.v (.one (.bool z2)))) := by kernel_rfl
theorem o122 (N : Nat) : SpecOK (β := β) inv Tryz.prog 122 (S122 N) := by
  refine spec_of lay_ok mixed (E := E122 N) (specs_loops (specs_cons (o123 N) (specs_cons (o57 N) specs_nil))) muts_nil gs_nil Tryz.func122 (by kernel_rfl) 1 (by kernel_rfl) ⟨trivial, rk122_0 N⟩ fun args K r h => ?_
  unfold S122 VS122 at h
  split at h
  · exact (ve122_0 (zj25 N) (zj35 N) (zj63 N) N _ _ _).trans h
  · cases h
end Go.Proofs.YtemihnclhcobnaaGreatDoor
