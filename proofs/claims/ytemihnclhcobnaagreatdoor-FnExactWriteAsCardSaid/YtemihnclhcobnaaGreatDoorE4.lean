/- The functions that the claims reach answer as their texts do. -/
import Derived.Test.YtemihnclhcobnaaGreatDoorE3
namespace Go.Proofs.YtemihnclhcobnaaGreatDoor
open Go.Rv
set_option maxRecDepth 100000
set_option maxHeartbeats 2000000
set_option linter.unusedVariables false
variable {β : Type}
variable (zq19 : Y1 β) (zq26 : Y0 β) (zq82 : Y43 β) (zq84 : Y45 β) (zq86 : Y48 β) (zq88 : Y47 β) (zq90 : Y46 β) (zq92 : Y44 β) (zq94 : Y41 β)
def VSF144 (N : Nat) (G : Nat) : Rv.Spec β := fun args K => match args with
  | [.v (.one (.sl 3 (.ints .i64 a0))), .v (.one (.int .i64 a1)), .v (.one (.int .i64 a2))] => zq92 G a0 a1 a2 (fun z3 => K (.v (.one (.str z3))))
  | _ => none
def SF144 (N : Nat) (G : Nat) : Rv.Spec β := VSF144 (zj92 N) N G
def VS144 (N : Nat) : Rv.Spec β := VSF144 zq92 N N
def S144 (N : Nat) : Rv.Spec β := SF144 N N
def h144_0_0 (v0 : List Int) (v1 : Int) (v2 : Int) (v3 : Int) : St := ⟨.v (.one (.sl 3 (.ints .i64 v0))) :: .v (.one (.int .i64 v1)) :: .v (.one (.int .i64 v2)) :: tn 4 (.v (.one (.int .i64 v3)) :: tn 120 []), []⟩
def x144_0_0_k0 (y0 : ByteArray) : St := ⟨tn 6 (.v (.one (.str y0)) :: tn 121 []), []⟩
def x144_0_0_k1 (y0 : List Int) (y1 : Int) (y2 : Int) : St := ⟨.v (.one (.sl 3 (.ints .i64 y0))) :: .v (.one (.int .i64 y1)) :: .v (.one (.int .i64 y2)) :: tn 125 [], []⟩
def h144_1_0 (v0 : List Int) (v1 : Int) (v2 : Int) (v3 : Int) : St := ⟨.v (.one (.sl 3 (.ints .i64 v0))) :: .v (.one (.int .i64 v1)) :: .v (.one (.int .i64 v2)) :: tn 5 (.v (.one (.int .i64 v3)) :: tn 119 []), []⟩
def x144_1_0_k0 (y0 : ByteArray) : St := ⟨tn 6 (.v (.one (.str y0)) :: tn 121 []), []⟩
def x144_1_0_k1 : St := ⟨tn 128 [], []⟩
def h144_2_0 (v0 : List Int) (v1 : Int) (v2 : Int) (v3 : Int) (v4 : Int) : St := ⟨.v (.one (.sl 3 (.ints .i64 v0))) :: .v (.one (.int .i64 v1)) :: .v (.one (.int .i64 v2)) :: tn 5 (.v (.one (.int .i64 v3)) :: .v (.one (.int .i64 v4)) :: tn 118 []), []⟩
def x144_2_0_k0 (y0 : ByteArray) : St := ⟨tn 6 (.v (.one (.str y0)) :: tn 121 []), []⟩
def x144_2_0_k1 (y0 : List Int) (y1 : Int) (y2 : Int) (y3 : Int) : St := ⟨.v (.one (.sl 3 (.ints .i64 y0))) :: .v (.one (.int .i64 y1)) :: .v (.one (.int .i64 y2)) :: tn 5 (.v (.one (.int .i64 y3)) :: tn 119 []), []⟩
def h144_3_0 (v0 : List Int) (v1 : Int) (v2 : Int) (v3 : Int) (v4 : Int) (v5 : Int) : St := ⟨.v (.one (.sl 3 (.ints .i64 v0))) :: .v (.one (.int .i64 v1)) :: .v (.one (.int .i64 v2)) :: tn 5 (.v (.one (.int .i64 v3)) :: .v (.one (.int .i64 v4)) :: .v (.one (.int .i64 v5)) :: tn 117 []), []⟩
def x144_3_0_k0 (y0 : ByteArray) : St := ⟨tn 6 (.v (.one (.str y0)) :: tn 121 []), []⟩
def x144_3_0_k1 (y0 : List Int) (y1 : Int) (y2 : Int) (y3 : Int) (y4 : Int) : St := ⟨.v (.one (.sl 3 (.ints .i64 y0))) :: .v (.one (.int .i64 y1)) :: .v (.one (.int .i64 y2)) :: tn 5 (.v (.one (.int .i64 y3)) :: .v (.one (.int .i64 y4)) :: tn 118 []), []⟩
def p144_0_0 {γ : Type} (f : List Int → Int → Int → Int → γ) (s : St) : γ := f (rInts (rowV (oneA (vT (nx tund s.tmps 0))))) (intS (oneA (vT (nx tund s.tmps 1)))) (intS (oneA (vT (nx tund s.tmps 2)))) (intS (oneA (vT (nx tund s.tmps 7))))
theorem fl144_0_0 (s : St) : refSt (h144_0_0 [] 0 0 0) s = p144_0_0 h144_0_0 s := by kernel_rfl
def VLS144_0 (N : Nat) (G : Nat) : LSpec β := fun s K => cond (shpSt (h144_0_0 [] 0 0 0) s) (p144_0_0 (fun v0 v1 v2 v3 => zq84 N v0 v1 v2 v3 (fun y0 => K .ret (x144_0_0_k0 y0)) (fun y0 y1 y2 => K (.exit 0) (x144_0_0_k1 y0 y1 y2))) s) (none)
def LS144_0 (N : Nat) (G : Nat) : LSpec β := VLS144_0 (zj84 N) N G
def p144_1_0 {γ : Type} (f : List Int → Int → Int → Int → γ) (s : St) : γ := f (rInts (rowV (oneA (vT (nx tund s.tmps 0))))) (intS (oneA (vT (nx tund s.tmps 1)))) (intS (oneA (vT (nx tund s.tmps 2)))) (intS (oneA (vT (nx tund s.tmps 8))))
theorem fl144_1_0 (s : St) : refSt (h144_1_0 [] 0 0 0) s = p144_1_0 h144_1_0 s := by kernel_rfl
def VLS144_2 (N : Nat) (G : Nat) : LSpec β := fun s K => cond (shpSt (h144_1_0 [] 0 0 0) s) ((fun (v0 : List Int) (v1 : Int) (v2 : Int) (v3 : Int) => zq90 (zq92 G) N v0 v1 v2 v3 (fun y0 => K .ret (x144_1_0_k0 y0)) (K (.exit 2) (x144_1_0_k1 ))) (rInts (rowV (oneA (vT (nx tund s.tmps 0))))) (intS (oneA (vT (nx tund s.tmps 1)))) (intS (oneA (vT (nx tund s.tmps 2)))) (intS (oneA (vT (nx tund s.tmps 8))))) (none)
def LS144_2 (N : Nat) (G : Nat) : LSpec β := VLS144_2 (zj90 N) (zj92 N) N G
def p144_2_0 {γ : Type} (f : List Int → Int → Int → Int → Int → γ) (s : St) : γ := f (rInts (rowV (oneA (vT (nx tund s.tmps 0))))) (intS (oneA (vT (nx tund s.tmps 1)))) (intS (oneA (vT (nx tund s.tmps 2)))) (intS (oneA (vT (nx tund s.tmps 8)))) (intS (oneA (vT (nx tund s.tmps 9))))
theorem fl144_2_0 (s : St) : refSt (h144_2_0 [] 0 0 0 0) s = p144_2_0 h144_2_0 s := by kernel_rfl
def VLS144_4 (N : Nat) (G : Nat) : LSpec β := fun s K => cond (shpSt (h144_2_0 [] 0 0 0 0) s) ((fun (v0 : List Int) (v1 : Int) (v2 : Int) (v3 : Int) (v4 : Int) => zq88 (zq92 G) N v0 v1 v2 v3 v4 (fun y0 => K .ret (x144_2_0_k0 y0)) (fun y0 y1 y2 y3 => K (.exit 4) (x144_2_0_k1 y0 y1 y2 y3))) (rInts (rowV (oneA (vT (nx tund s.tmps 0))))) (intS (oneA (vT (nx tund s.tmps 1)))) (intS (oneA (vT (nx tund s.tmps 2)))) (intS (oneA (vT (nx tund s.tmps 8)))) (intS (oneA (vT (nx tund s.tmps 9))))) (none)
def LS144_4 (N : Nat) (G : Nat) : LSpec β := VLS144_4 (zj88 N) (zj92 N) N G
def p144_3_0 {γ : Type} (f : List Int → Int → Int → Int → Int → Int → γ) (s : St) : γ := f (rInts (rowV (oneA (vT (nx tund s.tmps 0))))) (intS (oneA (vT (nx tund s.tmps 1)))) (intS (oneA (vT (nx tund s.tmps 2)))) (intS (oneA (vT (nx tund s.tmps 8)))) (intS (oneA (vT (nx tund s.tmps 9)))) (intS (oneA (vT (nx tund s.tmps 10))))
theorem fl144_3_0 (s : St) : refSt (h144_3_0 [] 0 0 0 0 0) s = p144_3_0 h144_3_0 s := by kernel_rfl
def VLS144_6 (N : Nat) (G : Nat) : LSpec β := fun s K => cond (shpSt (h144_3_0 [] 0 0 0 0 0) s) ((fun (v0 : List Int) (v1 : Int) (v2 : Int) (v3 : Int) (v4 : Int) (v5 : Int) => zq86 (zq92 G) N v0 v1 v2 v3 v4 v5 (fun y0 => K .ret (x144_3_0_k0 y0)) (fun y0 y1 y2 y3 y4 => K (.exit 6) (x144_3_0_k1 y0 y1 y2 y3 y4))) (rInts (rowV (oneA (vT (nx tund s.tmps 0))))) (intS (oneA (vT (nx tund s.tmps 1)))) (intS (oneA (vT (nx tund s.tmps 2)))) (intS (oneA (vT (nx tund s.tmps 8)))) (intS (oneA (vT (nx tund s.tmps 9)))) (intS (oneA (vT (nx tund s.tmps 10))))) (none)
def LS144_6 (N : Nat) (G : Nat) : LSpec β := VLS144_6 (zj86 N) (zj92 N) N G
def VE144 (N : Nat) (G : Nat) : Env β := ⟨[(160, VS160 zq82 N), (207, VS207 zq19 N), (144, VSF144 zq92 N G)], [], [(0, VLS144_0 zq84 N G), (2, VLS144_2 zq90 zq92 N G), (4, VLS144_4 zq88 zq92 N G), (6, VLS144_6 zq86 zq92 N G)], [], ⟨[], [], [], []⟩⟩
def E144 (N : Nat) (G : Nat) : Env β := VE144 (zj19 N) (zj82 N) (zj84 N) (zj86 N) (zj88 N) (zj90 N) (zj92 N) N G
theorem vst144_0_0 (N : Nat) (G : Nat) (v0 : List Int) (v1 : Int) (v2 : Int) (v3 : Int) (rec_ : St → O β) (K : Exit → St → O β) :
    stB lay (VE144 zq19 zq82 zq84 zq86 zq88 zq90 zq92 N G) Tryz.f144 0 (h144_0_0 v0 v1 v2 v3) rec_ K = zb83 zq19 zq82 N v0 v1 v2 v3 (fun v0 v1 v2 v3 => rec_ (h144_0_0 v0 v1 v2 v3)) (fun y0 => K .ret (x144_0_0_k0 y0)) (fun y0 y1 y2 => K (.exit 0) (x144_0_0_k1 y0 y1 y2)) := by kernel_rfl
theorem ro144_0_0 (N : Nat) (G : Nat) (K : Exit → St → O β) : ∀ (F : Nat) (v0 : List Int) (v1 : Int) (v2 : Int) (v3 : Int), (lp Tryz.f144 0).rounds lay (E144 N G) (retMask Tryz.f144) F (h144_0_0 v0 v1 v2 v3) K = zj84 N F v0 v1 v2 v3 (fun y0 => K .ret (x144_0_0_k0 y0)) (fun y0 y1 y2 => K (.exit 0) (x144_0_0_k1 y0 y1 y2)) := by
  intro F
  induction F with
  | zero => intros; rfl
  | succ F ih =>
    intros
    rw [rounds_next]
    refine (vst144_0_0 (zj19 N) (zj82 N) (zj84 N) (zj86 N) (zj88 N) (zj90 N) (zj92 N) N G _ _ _ _ (fun s => (lp Tryz.f144 0).rounds lay (E144 N G) (retMask Tryz.f144) F s K) K).trans ?_
    simp only [ih]
    rfl
theorem lk144_0 (N : Nat) (G : Nat) : lookL (E144 (β := β) N G).loops (lp Tryz.f144 0).id = LS144_0 N G := by kernel_rfl
theorem rk144_0 (N : Nat) (G : Nat) : RoundsOK lay (E144 (β := β) N G) (retMask Tryz.f144) (lp Tryz.f144 0) := by
  intro s K r h
  rw [lk144_0] at h
  unfold LS144_0 VLS144_0 at h
  cases hb : shpSt (h144_0_0 [] 0 0 0) s with
  | true =>
    rw [hb, cond_true] at h
    exact ⟨N, by rw [← shpSt_ref hb, fl144_0_0 s]; unfold p144_0_0 at h ⊢; exact (ro144_0_0 N _ K N _ _ _ _).trans h⟩
  | false =>
  rw [hb, cond_false] at h
  clear hb
  cases h
theorem vst144_1_0 (N : Nat) (G : Nat) (v0 : List Int) (v1 : Int) (v2 : Int) (v3 : Int) (rec_ : St → O β) (K : Exit → St → O β) :
    stB lay (VE144 zq19 zq82 zq84 zq86 zq88 zq90 zq92 N G) Tryz.f144 1 (h144_1_0 v0 v1 v2 v3) rec_ K = zb89 zq88 N (zq92 G) v0 v1 v2 v3 (fun v0 v1 v2 v3 => rec_ (h144_1_0 v0 v1 v2 v3)) (fun y0 => K .ret (x144_1_0_k0 y0)) (K (.exit 2) (x144_1_0_k1 )) := by kernel_rfl
theorem ro144_1_0 (N : Nat) (G : Nat) (K : Exit → St → O β) : ∀ (F : Nat) (v0 : List Int) (v1 : Int) (v2 : Int) (v3 : Int), (lp Tryz.f144 1).rounds lay (E144 N G) (retMask Tryz.f144) F (h144_1_0 v0 v1 v2 v3) K = zj90 N (zj92 N G) F v0 v1 v2 v3 (fun y0 => K .ret (x144_1_0_k0 y0)) (K (.exit 2) (x144_1_0_k1 )) := by
  intro F
  induction F with
  | zero => intros; rfl
  | succ F ih =>
    intros
    rw [rounds_next]
    refine (vst144_1_0 (zj19 N) (zj82 N) (zj84 N) (zj86 N) (zj88 N) (zj90 N) (zj92 N) N G _ _ _ _ (fun s => (lp Tryz.f144 1).rounds lay (E144 N G) (retMask Tryz.f144) F s K) K).trans ?_
    simp only [ih]
    rfl
theorem lk144_2 (N : Nat) (G : Nat) : lookL (E144 (β := β) N G).loops (lp Tryz.f144 1).id = LS144_2 N G := by kernel_rfl
theorem rk144_2 (N : Nat) (G : Nat) : RoundsOK lay (E144 (β := β) N G) (retMask Tryz.f144) (lp Tryz.f144 1) := by
  intro s K r h
  rw [lk144_2] at h
  unfold LS144_2 VLS144_2 at h
  cases hb : shpSt (h144_1_0 [] 0 0 0) s with
  | true =>
    rw [hb, cond_true] at h
    exact ⟨N, by rw [← shpSt_ref hb, fl144_1_0 s]; exact (ro144_1_0 N G K N (rInts (rowV (oneA (vT (nx tund s.tmps 0))))) (intS (oneA (vT (nx tund s.tmps 1)))) (intS (oneA (vT (nx tund s.tmps 2)))) (intS (oneA (vT (nx tund s.tmps 8))))).trans h⟩
  | false =>
  rw [hb, cond_false] at h
  clear hb
  cases h
theorem vst144_2_0 (N : Nat) (G : Nat) (v0 : List Int) (v1 : Int) (v2 : Int) (v3 : Int) (v4 : Int) (rec_ : St → O β) (K : Exit → St → O β) :
    stB lay (VE144 zq19 zq82 zq84 zq86 zq88 zq90 zq92 N G) Tryz.f144 2 (h144_2_0 v0 v1 v2 v3 v4) rec_ K = zb87 zq82 zq86 N (zq92 G) v0 v1 v2 v3 v4 (fun v0 v1 v2 v3 v4 => rec_ (h144_2_0 v0 v1 v2 v3 v4)) (fun y0 => K .ret (x144_2_0_k0 y0)) (fun y0 y1 y2 y3 => K (.exit 4) (x144_2_0_k1 y0 y1 y2 y3)) := by kernel_rfl
theorem ro144_2_0 (N : Nat) (G : Nat) (K : Exit → St → O β) : ∀ (F : Nat) (v0 : List Int) (v1 : Int) (v2 : Int) (v3 : Int) (v4 : Int), (lp Tryz.f144 2).rounds lay (E144 N G) (retMask Tryz.f144) F (h144_2_0 v0 v1 v2 v3 v4) K = zj88 N (zj92 N G) F v0 v1 v2 v3 v4 (fun y0 => K .ret (x144_2_0_k0 y0)) (fun y0 y1 y2 y3 => K (.exit 4) (x144_2_0_k1 y0 y1 y2 y3)) := by
  intro F
  induction F with
  | zero => intros; rfl
  | succ F ih =>
    intros
    rw [rounds_next]
    refine (vst144_2_0 (zj19 N) (zj82 N) (zj84 N) (zj86 N) (zj88 N) (zj90 N) (zj92 N) N G _ _ _ _ _ (fun s => (lp Tryz.f144 2).rounds lay (E144 N G) (retMask Tryz.f144) F s K) K).trans ?_
    simp only [ih]
    rfl
theorem lk144_4 (N : Nat) (G : Nat) : lookL (E144 (β := β) N G).loops (lp Tryz.f144 2).id = LS144_4 N G := by kernel_rfl
theorem rk144_4 (N : Nat) (G : Nat) : RoundsOK lay (E144 (β := β) N G) (retMask Tryz.f144) (lp Tryz.f144 2) := by
  intro s K r h
  rw [lk144_4] at h
  unfold LS144_4 VLS144_4 at h
  cases hb : shpSt (h144_2_0 [] 0 0 0 0) s with
  | true =>
    rw [hb, cond_true] at h
    exact ⟨N, by rw [← shpSt_ref hb, fl144_2_0 s]; exact (ro144_2_0 N G K N (rInts (rowV (oneA (vT (nx tund s.tmps 0))))) (intS (oneA (vT (nx tund s.tmps 1)))) (intS (oneA (vT (nx tund s.tmps 2)))) (intS (oneA (vT (nx tund s.tmps 8)))) (intS (oneA (vT (nx tund s.tmps 9))))).trans h⟩
  | false =>
  rw [hb, cond_false] at h
  clear hb
  cases h
theorem vst144_3_0 (N : Nat) (G : Nat) (v0 : List Int) (v1 : Int) (v2 : Int) (v3 : Int) (v4 : Int) (v5 : Int) (rec_ : St → O β) (K : Exit → St → O β) :
    stB lay (VE144 zq19 zq82 zq84 zq86 zq88 zq90 zq92 N G) Tryz.f144 3 (h144_3_0 v0 v1 v2 v3 v4 v5) rec_ K = zb85 zq82 N (zq92 G) v0 v1 v2 v3 v4 v5 (fun v0 v1 v2 v3 v4 v5 => rec_ (h144_3_0 v0 v1 v2 v3 v4 v5)) (fun y0 => K .ret (x144_3_0_k0 y0)) (fun y0 y1 y2 y3 y4 => K (.exit 6) (x144_3_0_k1 y0 y1 y2 y3 y4)) := by kernel_rfl
theorem ro144_3_0 (N : Nat) (G : Nat) (K : Exit → St → O β) : ∀ (F : Nat) (v0 : List Int) (v1 : Int) (v2 : Int) (v3 : Int) (v4 : Int) (v5 : Int), (lp Tryz.f144 3).rounds lay (E144 N G) (retMask Tryz.f144) F (h144_3_0 v0 v1 v2 v3 v4 v5) K = zj86 N (zj92 N G) F v0 v1 v2 v3 v4 v5 (fun y0 => K .ret (x144_3_0_k0 y0)) (fun y0 y1 y2 y3 y4 => K (.exit 6) (x144_3_0_k1 y0 y1 y2 y3 y4)) := by
  intro F
  induction F with
  | zero => intros; rfl
  | succ F ih =>
    intros
    rw [rounds_next]
    refine (vst144_3_0 (zj19 N) (zj82 N) (zj84 N) (zj86 N) (zj88 N) (zj90 N) (zj92 N) N G _ _ _ _ _ _ (fun s => (lp Tryz.f144 3).rounds lay (E144 N G) (retMask Tryz.f144) F s K) K).trans ?_
    simp only [ih]
    rfl
theorem lk144_6 (N : Nat) (G : Nat) : lookL (E144 (β := β) N G).loops (lp Tryz.f144 3).id = LS144_6 N G := by kernel_rfl
theorem rk144_6 (N : Nat) (G : Nat) : RoundsOK lay (E144 (β := β) N G) (retMask Tryz.f144) (lp Tryz.f144 3) := by
  intro s K r h
  rw [lk144_6] at h
  unfold LS144_6 VLS144_6 at h
  cases hb : shpSt (h144_3_0 [] 0 0 0 0 0) s with
  | true =>
    rw [hb, cond_true] at h
    exact ⟨N, by rw [← shpSt_ref hb, fl144_3_0 s]; exact (ro144_3_0 N G K N (rInts (rowV (oneA (vT (nx tund s.tmps 0))))) (intS (oneA (vT (nx tund s.tmps 1)))) (intS (oneA (vT (nx tund s.tmps 2)))) (intS (oneA (vT (nx tund s.tmps 8)))) (intS (oneA (vT (nx tund s.tmps 9)))) (intS (oneA (vT (nx tund s.tmps 10))))).trans h⟩
  | false =>
  rw [hb, cond_false] at h
  clear hb
  cases h
theorem ve144_0 (N : Nat) (G : Nat) (a0 : List Int) (a1 : Int) (a2 : Int) (K : TV → O β) : evFn lay (VE144 zq19 zq82 zq84 zq86 zq88 zq90 zq92 N G) Tryz.f144 [.v (.one (.sl 3 (.ints .i64 a0))), .v (.one (.int .i64 a1)), .v (.one (.int .i64 a2))] K = zb91 zq82 zq84 zq90 N (zq92 G) a0 a1 a2 (fun z3 => K (.v (.one (.str z3)))) := by kernel_rfl
theorem z144 (N : Nat) : ∀ args K r, SF144 (β := β) N 0 args K = some r → (none : O β) = some r := by
  intro args K r h
  unfold SF144 VSF144 at h
  split at h <;> exact h
theorem of144 (N : Nat) : ∀ G, SpecOK (β := β) inv Tryz.prog 144 (SF144 N G) := by
  intro G
  induction G with
  | zero => exact s_zero Tryz.func144 (by kernel_rfl) (z144 N)
  | succ G ih =>
    refine spec_of lay_ok mixed (E := E144 N G) (specs_loops (specs_cons (o160 N) (specs_cons (o207 N) (specs_cons ih specs_nil)))) muts_nil gs_nil Tryz.func144 (by kernel_rfl) 4 (by kernel_rfl) ⟨⟨⟨⟨trivial, rk144_0 N G⟩, rk144_2 N G⟩, rk144_4 N G⟩, rk144_6 N G⟩ fun args K r h => ?_
    unfold SF144 VSF144 at h
    split at h
    · exact (ve144_0 (zj19 N) (zj82 N) (zj84 N) (zj86 N) (zj88 N) (zj90 N) (zj92 N) N G _ _ _ _).trans h
    · cases h
theorem o144 (N : Nat) : SpecOK (β := β) inv Tryz.prog 144 (S144 N) := of144 N N
def VS74 (N : Nat) : Rv.Spec β := fun args K => match args with
  | [.v (.agg [.int .i64 a0, .int .i64 a1])] => zq94 a0 a1 (fun z2 z3 => K (.tup [.one (.str z2), .one (.bool z3)]))
  | _ => none
def S74 (N : Nat) : Rv.Spec β := VS74 (zj94 N) N
def VE74 (N : Nat) : Env β := ⟨[(20, VS20 zq26 N), (145, S145 N), (144, VS144 zq92 N)], [], [], [], ⟨[], [], [], []⟩⟩
def E74 (N : Nat) : Env β := VE74 (zj26 N) (zj92 N) N
theorem ve74_0 (N : Nat) (a0 : Int) (a1 : Int) (K : TV → O β) : evFn lay (VE74 zq26 zq92 N) Tryz.f74 [.v (.agg [.int .i64 a0, .int .i64 a1])] K = zb94 zq26 (zq92 N) N a0 a1 (fun z2 z3 => K (.tup [.one (.str z2), .one (.bool z3)])) := by kernel_rfl
theorem o74 (N : Nat) : SpecOK (β := β) inv Tryz.prog 74 (S74 N) := by
  refine spec_of lay_ok mixed (E := E74 N) (specs_loops (specs_cons (o20 N) (specs_cons (o145 N) (specs_cons (o144 N) specs_nil)))) muts_nil gs_nil Tryz.func74 (by kernel_rfl) 0 (by kernel_rfl) trivial fun args K r h => ?_
  unfold S74 VS74 at h
  split at h
  · exact (ve74_0 (zj26 N) (zj92 N) N _ _ _).trans h
  · cases h
end Go.Proofs.YtemihnclhcobnaaGreatDoor
