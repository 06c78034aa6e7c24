/- The functions that the claims reach answer as their texts do. -/
import Derived.Test.YtemihnclhcobnaaGreatDoorE4
namespace Go.Proofs.YtemihnclhcobnaaGreatDoor
open Go.Rv
set_option maxRecDepth 100000
set_option maxHeartbeats 2000000
set_option linter.unusedVariables false
variable {β : Type}
variable (zq2 : Y2 β) (zq10 : Y6 β) (zq13 : Y8 β) (zq16 : Y10 β) (zq19 : Y12 β) (zq22 : Y14 β) (zq25 : Y16 β) (zq47 : Y6 β) (zq51 : Y29 β) (zq55 : Y2 β) (zq56 : Y32 β) (zq60 : Y2 β) (zq66 : Y2 β) (zq75 : Y2 β) (zq77 : Y2 β) (zq86 : Y2 β) (zq92 : Y44 β) (zq94 : Y47 β) (zq96 : Y49 β) (zq98 : Y48 β) (zq99 : Y46 β) (zq100 : Y2 β) (zq101 : Y8 β) (zq102 : Y50 β) (zq103 : Y29 β) (zq104 : Y2 β) (zq105 : Y3 β) (zq106 : Y3 β)
def VS98 (N : Nat) : Rv.Spec β := fun args K => match args with
  | [.v (.agg [.int .i64 a0, .int .i64 a1])] => zq99 a0 a1 (fun z2 z3 z4 => K (.tup [.one (.sl 3 (.ints .i64 z2)), .one (.int .i64 z3), .one (.bool z4)]))
  | _ => none
def S98 (N : Nat) : Rv.Spec β := VS98 (zj99 N) N
def h98_0_0 (v0 : Int) (v1 : Int) (v2 : Int) (v3 : Int) : St := ⟨tund :: .v (.one (.ptr 0 0)) :: tn 3 (.v (.one (.int .i64 v0)) :: .v (.one (.int .i64 v1)) :: tn 81 []), [.cells 25 [.int .i64 v2, .int .i64 v3]]⟩
def x98_0_0_k0 (y0 : Int) (y1 : Int) (y2 : Int) : St := ⟨tund :: .v (.one (.ptr 0 0)) :: tn 3 (.v (.one (.int .i64 y0)) :: tn 82 []), [.cells 25 [.int .i64 y1, .int .i64 y2]]⟩
def h98_1_0 (v0 : Int) (v1 : Int) (v2 : Int) (v3 : Int) (v4 : Int) (v5 : Int) (v6 : List Int) : St := ⟨tund :: .v (.one (.ptr 0 0)) :: tn 3 (.v (.one (.int .i64 v0)) :: tund :: .v (.one (.row 1)) :: .v (.one (.int .i64 v1)) :: .v (.one (.int .i64 v2)) :: .v (.one (.int .i64 v3)) :: tn 77 []), [.cells 25 [.int .i64 v4, .int .i64 v5], .row 3 (.ints .i64 v6)]⟩
def x98_1_0_k0 (y0 : Int) (y1 : Int) (y2 : List Int) : St := ⟨tn 7 (.v (.one (.row 0)) :: .v (.one (.int .i64 y0)) :: .v (.one (.int .i64 y1)) :: tn 78 []), [.row 3 (.ints .i64 y2)]⟩
def h98_2_0 (v0 : Int) (v1 : Int) (v2 : Int) (v3 : Int) (v4 : Int) (v5 : Int) (v6 : Int) (v7 : Int) (v8 : Int) (v9 : List Int) (v10 : List Int) : St := ⟨tund :: .v (.one (.ptr 0 0)) :: tn 3 (.v (.one (.int .i64 v0)) :: tund :: .v (.one (.row 1)) :: .v (.one (.int .i64 v1)) :: .v (.one (.int .i64 v2)) :: .v (.one (.int .i64 v3)) :: .v (.one (.row 2)) :: .v (.one (.int .i64 v4)) :: .v (.one (.int .i64 v5)) :: .v (.one (.int .i64 v6)) :: tn 73 []), [.cells 25 [.int .i64 v7, .int .i64 v8], .row 3 (.ints .i64 v9), .row 3 (.ints .i64 v10)]⟩
def x98_2_0_k0 (y0 : Int) (y1 : Int) (y2 : Int) (y3 : Int) (y4 : Int) (y5 : Int) (y6 : Int) (y7 : List Int) (y8 : List Int) : St := ⟨tund :: .v (.one (.ptr 0 0)) :: tn 3 (.v (.one (.int .i64 y0)) :: tund :: .v (.one (.row 1)) :: .v (.one (.int .i64 y1)) :: .v (.one (.int .i64 y2)) :: .v (.one (.int .i64 y3)) :: .v (.one (.row 2)) :: tund :: .v (.one (.int .i64 y4)) :: tn 74 []), [.cells 25 [.int .i64 y5, .int .i64 y6], .row 3 (.ints .i64 y7), .row 3 (.ints .i64 y8)]⟩
def p98_0_0 {γ : Type} (f : Int → Int → Int → Int → γ) (s : St) : γ := f (intS (oneA (vT (nx tund s.tmps 5)))) (intS (oneA (vT (nx tund s.tmps 6)))) (intS (nx .und (cellsB (nx .dead s.blks 0)) 0)) (intS (nx .und (cellsB (nx .dead s.blks 0)) 1))
theorem fl98_0_0 (s : St) : refSt (h98_0_0 0 0 0 0) s = p98_0_0 h98_0_0 s := by kernel_rfl
def VLS98_0 (N : Nat) : LSpec β := fun s K => cond (shpSt (h98_0_0 0 0 0 0) s) (p98_0_0 (fun v0 v1 v2 v3 => zq94 N v0 v1 v2 v3 (fun y0 y1 y2 => K (.exit 0) (x98_0_0_k0 y0 y1 y2))) s) (none)
def LS98_0 (N : Nat) : LSpec β := VLS98_0 (zj94 N) N
def p98_1_0 {γ : Type} (f : Int → Int → Int → Int → Int → Int → List Int → γ) (s : St) : γ := f (intS (oneA (vT (nx tund s.tmps 5)))) (intS (oneA (vT (nx tund s.tmps 8)))) (intS (oneA (vT (nx tund s.tmps 9)))) (intS (oneA (vT (nx tund s.tmps 10)))) (intS (nx .und (cellsB (nx .dead s.blks 0)) 0)) (intS (nx .und (cellsB (nx .dead s.blks 0)) 1)) (rInts (rowB_ (nx .dead s.blks 1)))
theorem fl98_1_0 (s : St) : refSt (h98_1_0 0 0 0 0 0 0 []) s = p98_1_0 h98_1_0 s := by kernel_rfl
def VLS98_2 (N : Nat) : LSpec β := fun s K => cond (shpSt (h98_1_0 0 0 0 0 0 0 []) s) ((fun (v0 : Int) (v1 : Int) (v2 : Int) (v3 : Int) (v4 : Int) (v5 : Int) (v6 : List Int) => zq98 N v0 v1 v2 v3 v4 v5 v6 (fun y0 y1 y2 => K (.exit 2) (x98_1_0_k0 y0 y1 y2))) (intS (oneA (vT (nx tund s.tmps 5)))) (intS (oneA (vT (nx tund s.tmps 8)))) (intS (oneA (vT (nx tund s.tmps 9)))) (intS (oneA (vT (nx tund s.tmps 10)))) (intS (nx .und (cellsB (nx .dead s.blks 0)) 0)) (intS (nx .und (cellsB (nx .dead s.blks 0)) 1)) (rInts (rowB_ (nx .dead s.blks 1)))) (none)
def LS98_2 (N : Nat) : LSpec β := VLS98_2 (zj98 N) N
def p98_2_0 {γ : Type} (f : Int → Int → Int → Int → Int → Int → Int → Int → Int → List Int → List Int → γ) (s : St) : γ := f (intS (oneA (vT (nx tund s.tmps 5)))) (intS (oneA (vT (nx tund s.tmps 8)))) (intS (oneA (vT (nx tund s.tmps 9)))) (intS (oneA (vT (nx tund s.tmps 10)))) (intS (oneA (vT (nx tund s.tmps 12)))) (intS (oneA (vT (nx tund s.tmps 13)))) (intS (oneA (vT (nx tund s.tmps 14)))) (intS (nx .und (cellsB (nx .dead s.blks 0)) 0)) (intS (nx .und (cellsB (nx .dead s.blks 0)) 1)) (rInts (rowB_ (nx .dead s.blks 1))) (rInts (rowB_ (nx .dead s.blks 2)))
theorem fl98_2_0 (s : St) : refSt (h98_2_0 0 0 0 0 0 0 0 0 0 [] []) s = p98_2_0 h98_2_0 s := by kernel_rfl
def VLS98_4 (N : Nat) : LSpec β := fun s K => cond (shpSt (h98_2_0 0 0 0 0 0 0 0 0 0 [] []) s) ((fun (v0 : Int) (v1 : Int) (v2 : Int) (v3 : Int) (v4 : Int) (v5 : Int) (v6 : Int) (v7 : Int) (v8 : Int) (v9 : List Int) (v10 : List Int) => zq96 N v0 v1 v2 v3 v4 v5 v6 v7 v8 v9 v10 (fun y0 y1 y2 y3 y4 y5 y6 y7 y8 => K (.exit 4) (x98_2_0_k0 y0 y1 y2 y3 y4 y5 y6 y7 y8))) (intS (oneA (vT (nx tund s.tmps 5)))) (intS (oneA (vT (nx tund s.tmps 8)))) (intS (oneA (vT (nx tund s.tmps 9)))) (intS (oneA (vT (nx tund s.tmps 10)))) (intS (oneA (vT (nx tund s.tmps 12)))) (intS (oneA (vT (nx tund s.tmps 13)))) (intS (oneA (vT (nx tund s.tmps 14)))) (intS (nx .und (cellsB (nx .dead s.blks 0)) 0)) (intS (nx .und (cellsB (nx .dead s.blks 0)) 1)) (rInts (rowB_ (nx .dead s.blks 1))) (rInts (rowB_ (nx .dead s.blks 2)))) (none)
def LS98_4 (N : Nat) : LSpec β := VLS98_4 (zj96 N) N
def VE98 (N : Nat) : Env β := ⟨[(20, VS20 zq2 N), (163, VS163 zq92 N)], [], [(0, VLS98_0 zq94 N), (2, VLS98_2 zq98 N), (4, VLS98_4 zq96 N)], [], ⟨[], [], [157], [222]⟩⟩
def E98 (N : Nat) : Env β := VE98 (zj2 N) (zj92 N) (zj94 N) (zj96 N) (zj98 N) N
theorem vst98_0_0 (N : Nat) (v0 : Int) (v1 : Int) (v2 : Int) (v3 : Int) (rec_ : St → O β) (K : Exit → St → O β) :
    stB lay (VE98 zq2 zq92 zq94 zq96 zq98 N) Tryz.f98 0 (h98_0_0 v0 v1 v2 v3) rec_ K = zb93 N v0 v1 v2 v3 (fun v0 v1 v2 v3 => rec_ (h98_0_0 v0 v1 v2 v3)) (fun y0 y1 y2 => K (.exit 0) (x98_0_0_k0 y0 y1 y2)) := by kernel_rfl
theorem ro98_0_0 (N : Nat) (K : Exit → St → O β) : ∀ (F : Nat) (v0 : Int) (v1 : Int) (v2 : Int) (v3 : Int), (lp Tryz.f98 0).rounds lay (E98 N) (retMask Tryz.f98) F (h98_0_0 v0 v1 v2 v3) K = zj94 N F v0 v1 v2 v3 (fun y0 y1 y2 => K (.exit 0) (x98_0_0_k0 y0 y1 y2)) := by
  intro F
  induction F with
  | zero => intros; rfl
  | succ F ih =>
    intros
    rw [rounds_next]
    refine (vst98_0_0 (zj2 N) (zj92 N) (zj94 N) (zj96 N) (zj98 N) N _ _ _ _ (fun s => (lp Tryz.f98 0).rounds lay (E98 N) (retMask Tryz.f98) F s K) K).trans ?_
    simp only [ih]
    rfl
theorem lk98_0 (N : Nat) : lookL (E98 (β := β) N).loops (lp Tryz.f98 0).id = LS98_0 N := by kernel_rfl
theorem rk98_0 (N : Nat) : RoundsOK lay (E98 (β := β) N) (retMask Tryz.f98) (lp Tryz.f98 0) := by
  intro s K r h
  rw [lk98_0] at h
  unfold LS98_0 VLS98_0 at h
  cases hb : shpSt (h98_0_0 0 0 0 0) s with
  | true =>
    rw [hb, cond_true] at h
    exact ⟨N, by rw [← shpSt_ref hb, fl98_0_0 s]; unfold p98_0_0 at h ⊢; exact (ro98_0_0 N K N _ _ _ _).trans h⟩
  | false =>
  rw [hb, cond_false] at h
  clear hb
  cases h
theorem vst98_1_0 (N : Nat) (v0 : Int) (v1 : Int) (v2 : Int) (v3 : Int) (v4 : Int) (v5 : Int) (v6 : List Int) (rec_ : St → O β) (K : Exit → St → O β) :
    stB lay (VE98 zq2 zq92 zq94 zq96 zq98 N) Tryz.f98 1 (h98_1_0 v0 v1 v2 v3 v4 v5 v6) rec_ K = zb97 zq92 zq96 N v0 v1 v2 v3 v4 v5 v6 (fun v0 v1 v2 v3 v4 v5 v6 => rec_ (h98_1_0 v0 v1 v2 v3 v4 v5 v6)) (fun y0 y1 y2 => K (.exit 2) (x98_1_0_k0 y0 y1 y2)) := by kernel_rfl
theorem ro98_1_0 (N : Nat) (K : Exit → St → O β) : ∀ (F : Nat) (v0 : Int) (v1 : Int) (v2 : Int) (v3 : Int) (v4 : Int) (v5 : Int) (v6 : List Int), (lp Tryz.f98 1).rounds lay (E98 N) (retMask Tryz.f98) F (h98_1_0 v0 v1 v2 v3 v4 v5 v6) K = zj98 N F v0 v1 v2 v3 v4 v5 v6 (fun y0 y1 y2 => K (.exit 2) (x98_1_0_k0 y0 y1 y2)) := by
  intro F
  induction F with
  | zero => intros; rfl
  | succ F ih =>
    intros
    rw [rounds_next]
    refine (vst98_1_0 (zj2 N) (zj92 N) (zj94 N) (zj96 N) (zj98 N) N _ _ _ _ _ _ _ (fun s => (lp Tryz.f98 1).rounds lay (E98 N) (retMask Tryz.f98) F s K) K).trans ?_
    simp only [ih]
    rfl
theorem lk98_2 (N : Nat) : lookL (E98 (β := β) N).loops (lp Tryz.f98 1).id = LS98_2 N := by kernel_rfl
theorem rk98_2 (N : Nat) : RoundsOK lay (E98 (β := β) N) (retMask Tryz.f98) (lp Tryz.f98 1) := by
  intro s K r h
  rw [lk98_2] at h
  unfold LS98_2 VLS98_2 at h
  cases hb : shpSt (h98_1_0 0 0 0 0 0 0 []) s with
  | true =>
    rw [hb, cond_true] at h
    exact ⟨N, by rw [← shpSt_ref hb, fl98_1_0 s]; exact (ro98_1_0 N K N (intS (oneA (vT (nx tund s.tmps 5)))) (intS (oneA (vT (nx tund s.tmps 8)))) (intS (oneA (vT (nx tund s.tmps 9)))) (intS (oneA (vT (nx tund s.tmps 10)))) (intS (nx .und (cellsB (nx .dead s.blks 0)) 0)) (intS (nx .und (cellsB (nx .dead s.blks 0)) 1)) (rInts (rowB_ (nx .dead s.blks 1)))).trans h⟩
  | false =>
  rw [hb, cond_false] at h
  clear hb
  cases h
theorem vst98_2_0 (N : Nat) (v0 : Int) (v1 : Int) (v2 : Int) (v3 : Int) (v4 : Int) (v5 : Int) (v6 : Int) (v7 : Int) (v8 : Int) (v9 : List Int) (v10 : List Int) (rec_ : St → O β) (K : Exit → St → O β) :
    stB lay (VE98 zq2 zq92 zq94 zq96 zq98 N) Tryz.f98 2 (h98_2_0 v0 v1 v2 v3 v4 v5 v6 v7 v8 v9 v10) rec_ K = zb95 N v0 v1 v2 v3 v4 v5 v6 v7 v8 v9 v10 (fun v0 v1 v2 v3 v4 v5 v6 v7 v8 v9 v10 => rec_ (h98_2_0 v0 v1 v2 v3 v4 v5 v6 v7 v8 v9 v10)) (fun y0 y1 y2 y3 y4 y5 y6 y7 y8 => K (.exit 4) (x98_2_0_k0 y0 y1 y2 y3 y4 y5 y6 y7 y8)) := by kernel_rfl
theorem ro98_2_0 (N : Nat) (K : Exit → St → O β) : ∀ (F : Nat) (v0 : Int) (v1 : Int) (v2 : Int) (v3 : Int) (v4 : Int) (v5 : Int) (v6 : Int) (v7 : Int) (v8 : Int) (v9 : List Int) (v10 : List Int), (lp Tryz.f98 2).rounds lay (E98 N) (retMask Tryz.f98) F (h98_2_0 v0 v1 v2 v3 v4 v5 v6 v7 v8 v9 v10) K = zj96 N F v0 v1 v2 v3 v4 v5 v6 v7 v8 v9 v10 (fun y0 y1 y2 y3 y4 y5 y6 y7 y8 => K (.exit 4) (x98_2_0_k0 y0 y1 y2 y3 y4 y5 y6 y7 y8)) := by
  intro F
  induction F with
  | zero => intros; rfl
  | succ F ih =>
    intros
    rw [rounds_next]
    refine (vst98_2_0 (zj2 N) (zj92 N) (zj94 N) (zj96 N) (zj98 N) N _ _ _ _ _ _ _ _ _ _ _ (fun s => (lp Tryz.f98 2).rounds lay (E98 N) (retMask Tryz.f98) F s K) K).trans ?_
    simp only [ih]
    rfl
theorem lk98_4 (N : Nat) : lookL (E98 (β := β) N).loops (lp Tryz.f98 2).id = LS98_4 N := by kernel_rfl
theorem rk98_4 (N : Nat) : RoundsOK lay (E98 (β := β) N) (retMask Tryz.f98) (lp Tryz.f98 2) := by
  intro s K r h
  rw [lk98_4] at h
  unfold LS98_4 VLS98_4 at h
  cases hb : shpSt (h98_2_0 0 0 0 0 0 0 0 0 0 [] []) s with
  | true =>
    rw [hb, cond_true] at h
    exact ⟨N, by rw [← shpSt_ref hb, fl98_2_0 s]; exact (ro98_2_0 N K N (intS (oneA (vT (nx tund s.tmps 5)))) (intS (oneA (vT (nx tund s.tmps 8)))) (intS (oneA (vT (nx tund s.tmps 9)))) (intS (oneA (vT (nx tund s.tmps 10)))) (intS (oneA (vT (nx tund s.tmps 12)))) (intS (oneA (vT (nx tund s.tmps 13)))) (intS (oneA (vT (nx tund s.tmps 14)))) (intS (nx .und (cellsB (nx .dead s.blks 0)) 0)) (intS (nx .und (cellsB (nx .dead s.blks 0)) 1)) (rInts (rowB_ (nx .dead s.blks 1))) (rInts (rowB_ (nx .dead s.blks 2)))).trans h⟩
  | false =>
  rw [hb, cond_false] at h
  clear hb
  cases h
theorem ve98_0 (N : Nat) (a0 : Int) (a1 : Int) (K : TV → O β) : evFn lay (VE98 zq2 zq92 zq94 zq96 zq98 N) Tryz.f98 [.v (.agg [.int .i64 a0, .int .i64 a1])] K = zb99 zq2 zq94 zq98 N a0 a1 (fun z2 z3 z4 => K (.tup [.one (.sl 3 (.ints .i64 z2)), .one (.int .i64 z3), .one (.bool z4)])) := by kernel_rfl
theorem o98 (N : Nat) : SpecOK (β := β) inv Tryz.prog 98 (S98 N) := by
  refine spec_of lay_ok mixed (E := E98 N) (specs_loops (specs_cons (o20 N) (specs_cons (o163 N) specs_nil))) muts_nil gs_nil Tryz.func98 (by kernel_rfl) 3 (by kernel_rfl) ⟨⟨⟨trivial, rk98_0 N⟩, rk98_2 N⟩, rk98_4 N⟩ fun args K r h => ?_
  unfold S98 VS98 at h
  split at h
  · exact (ve98_0 (zj2 N) (zj92 N) (zj94 N) (zj96 N) (zj98 N) N _ _ _).trans h
  · cases h
def VS36 (N : Nat) : Rv.Spec β := fun args K => match args with
  | [.v (.agg [.int .i64 a0, .int .i64 a1])] => zq100 a0 a1 (fun z2 => K (.v (.one (.bool z2))))
  | _ => none
def S36 (N : Nat) : Rv.Spec β := VS36 (zj100 N) N
def VE36 (N : Nat) : Env β := ⟨[(98, VS98 zq99 N)], [], [], [], ⟨[], [], [157], [222]⟩⟩
def E36 (N : Nat) : Env β := VE36 (zj99 N) N
theorem ve36_0 (N : Nat) (a0 : Int) (a1 : Int) (K : TV → O β) : evFn lay (VE36 zq99 N) Tryz.f36 [.v (.agg [.int .i64 a0, .int .i64 a1])] K = zb100 zq99 N a0 a1 (fun z2 => K (.v (.one (.bool z2)))) := by kernel_rfl
theorem o36 (N : Nat) : SpecOK (β := β) inv Tryz.prog 36 (S36 N) := by
  refine spec_of lay_ok mixed (E := E36 N) (specs_loops (specs_cons (o98 N) specs_nil)) muts_nil gs_nil Tryz.func36 (by kernel_rfl) 0 (by kernel_rfl) trivial fun args K r h => ?_
  unfold S36 VS36 at h
  split at h
  · exact (ve36_0 (zj99 N) N _ _ _).trans h
  · cases h
def VS8 (N : Nat) : Rv.Spec β := fun args K => match args with
  | [.v (.agg [.int .i64 a0, .int .i64 a1])] => zq101 a0 a1 (fun z2 => K (.v (.one (.str z2))))
  | _ => none
def S8 (N : Nat) : Rv.Spec β := VS8 (zj101 N) N
def VE8 (N : Nat) : Env β := ⟨[(20, VS20 zq2 N), (21, VS21 zq10 N), (22, VS22 zq13 N), (24, VS24 zq16 N), (23, VS23 zq19 N), (26, VS26 zq22 N), (25, VS25 zq25 N), (27, VS27 zq47 N), (28, VS28 zq51 N), (30, VS30 zq55 N), (29, VS29 zq56 N), (31, VS31 zq60 N), (32, VS32 zq66 N), (33, VS33 zq75 N), (34, VS34 zq77 N), (35, VS35 zq86 N), (36, VS36 zq100 N)], [], [], [], ⟨[], [], [157], [222]⟩⟩
def E8 (N : Nat) : Env β := VE8 (zj2 N) (zj10 N) (zj13 N) (zj16 N) (zj19 N) (zj22 N) (zj25 N) (zj47 N) (zj51 N) (zj55 N) (zj56 N) (zj60 N) (zj66 N) (zj75 N) (zj77 N) (zj86 N) (zj100 N) N
theorem ve8_0 (N : Nat) (a0 : Int) (a1 : Int) (K : TV → O β) : evFn lay (VE8 zq2 zq10 zq13 zq16 zq19 zq22 zq25 zq47 zq51 zq55 zq56 zq60 zq66 zq75 zq77 zq86 zq100 N) Tryz.f8 [.v (.agg [.int .i64 a0, .int .i64 a1])] K = zb101 zq2 zq10 zq13 zq16 zq19 zq22 zq25 zq47 zq51 zq55 zq56 zq60 zq66 zq75 zq77 zq86 zq100 N a0 a1 (fun z2 => K (.v (.one (.str z2)))) := by kernel_rfl
theorem o8 (N : Nat) : SpecOK (β := β) inv Tryz.prog 8 (S8 N) := by
  refine spec_of lay_ok mixed (E := E8 N) (specs_loops (specs_cons (o20 N) (specs_cons (o21 N) (specs_cons (o22 N) (specs_cons (o24 N) (specs_cons (o23 N) (specs_cons (o26 N) (specs_cons (o25 N) (specs_cons (o27 N) (specs_cons (o28 N) (specs_cons (o30 N) (specs_cons (o29 N) (specs_cons (o31 N) (specs_cons (o32 N) (specs_cons (o33 N) (specs_cons (o34 N) (specs_cons (o35 N) (specs_cons (o36 N) specs_nil)))))))))))))))))) muts_nil gs_nil Tryz.func8 (by kernel_rfl) 0 (by kernel_rfl) trivial fun args K r h => ?_
  unfold S8 VS8 at h
  split at h
  · exact (ve8_0 (zj2 N) (zj10 N) (zj13 N) (zj16 N) (zj19 N) (zj22 N) (zj25 N) (zj47 N) (zj51 N) (zj55 N) (zj56 N) (zj60 N) (zj66 N) (zj75 N) (zj77 N) (zj86 N) (zj100 N) N _ _ _).trans h
  · cases h
def VS99 (N : Nat) : Rv.Spec β := fun args K => match args with
  | [.v (.one (.int .i64 a0))] => zq102 a0 (fun z1 => K (.v (.one (.bool z1))))
  | _ => none
def S99 (N : Nat) : Rv.Spec β := VS99 (zj102 N) N
def VE99 (N : Nat) : Env β := ⟨[], [], [], [], ⟨[], [], [157], [222]⟩⟩
def E99 (N : Nat) : Env β := VE99 N
theorem ve99_0 (N : Nat) (a0 : Int) (K : TV → O β) : evFn lay (VE99 N) Tryz.f99 [.v (.one (.int .i64 a0))] K = zb102 N a0 (fun z1 => K (.v (.one (.bool z1)))) := by kernel_rfl
theorem o99 (N : Nat) : SpecOK (β := β) inv Tryz.prog 99 (S99 N) := by
  refine spec_of lay_ok mixed (E := E99 N) (specs_loops specs_nil) muts_nil gs_nil Tryz.func99 (by kernel_rfl) 0 (by kernel_rfl) trivial fun args K r h => ?_
  unfold S99 VS99 at h
  split at h
  · exact (ve99_0 N _ _).trans h
  · cases h
def VS100 (N : Nat) : Rv.Spec β := fun args K => match args with
  | [.v (.agg [.int .i64 a0, .int .i64 a1])] => zq103 a0 a1 (fun z2 => K (.v (.one (.int .i64 z2))))
  | _ => none
def S100 (N : Nat) : Rv.Spec β := VS100 (zj103 N) N
def VE100 (N : Nat) : Env β := ⟨[], [], [], [], ⟨[], [], [157], [222]⟩⟩
def E100 (N : Nat) : Env β := VE100 N
theorem ve100_0 (N : Nat) (a0 : Int) (a1 : Int) (K : TV → O β) : evFn lay (VE100 N) Tryz.f100 [.v (.agg [.int .i64 a0, .int .i64 a1])] K = zb103 N a0 a1 (fun z2 => K (.v (.one (.int .i64 z2)))) := by kernel_rfl
theorem o100 (N : Nat) : SpecOK (β := β) inv Tryz.prog 100 (S100 N) := by
  refine spec_of lay_ok mixed (E := E100 N) (specs_loops specs_nil) muts_nil gs_nil Tryz.func100 (by kernel_rfl) 0 (by kernel_rfl) trivial fun args K r h => ?_
  unfold S100 VS100 at h
  split at h
  · exact (ve100_0 N _ _ _).trans h
  · cases h
def VS37 (N : Nat) : Rv.Spec β := fun args K => match args with
  | [.v (.agg [.int .i64 a0, .int .i64 a1])] => zq104 a0 a1 (fun z2 => K (.v (.one (.bool z2))))
  | _ => none
def S37 (N : Nat) : Rv.Spec β := VS37 (zj104 N) N
def VE37 (N : Nat) : Env β := ⟨[(99, VS99 zq102 N), (100, VS100 zq103 N)], [], [], [], ⟨[], [], [157], [222]⟩⟩
def E37 (N : Nat) : Env β := VE37 (zj102 N) (zj103 N) N
theorem ve37_0 (N : Nat) (a0 : Int) (a1 : Int) (K : TV → O β) : evFn lay (VE37 zq102 zq103 N) Tryz.f37 [.v (.agg [.int .i64 a0, .int .i64 a1])] K = zb104 zq102 zq103 N a0 a1 (fun z2 => K (.v (.one (.bool z2)))) := by kernel_rfl
theorem o37 (N : Nat) : SpecOK (β := β) inv Tryz.prog 37 (S37 N) := by
  refine spec_of lay_ok mixed (E := E37 N) (specs_loops (specs_cons (o99 N) (specs_cons (o100 N) specs_nil))) muts_nil gs_nil Tryz.func37 (by kernel_rfl) 0 (by kernel_rfl) trivial fun args K r h => ?_
  unfold S37 VS37 at h
  split at h
  · exact (ve37_0 (zj102 N) (zj103 N) N _ _ _).trans h
  · cases h
def VS165 (N : Nat) : Rv.Spec β := fun args K => match args with
  | [.v (.one (.int .i64 a0)), .v (.one (.int .i64 a1)), .v (.one (.int .i64 a2))] => zq105 a0 a1 a2 (fun z3 => K (.v (.one (.int .i64 z3))))
  | _ => none
def S165 (N : Nat) : Rv.Spec β := VS165 (zj105 N) N
def VE165 (N : Nat) : Env β := ⟨[], [], [], [], ⟨[], [], [157], [222]⟩⟩
def E165 (N : Nat) : Env β := VE165 N
theorem ve165_0 (N : Nat) (a0 : Int) (a1 : Int) (a2 : Int) (K : TV → O β) : evFn lay (VE165 N) Tryz.f165 [.v (.one (.int .i64 a0)), .v (.one (.int .i64 a1)), .v (.one (.int .i64 a2))] K = zb105 N a0 a1 a2 (fun z3 => K (.v (.one (.int .i64 z3)))) := by kernel_rfl
theorem o165 (N : Nat) : SpecOK (β := β) inv Tryz.prog 165 (S165 N) := by
  refine spec_of lay_ok mixed (E := E165 N) (specs_loops specs_nil) muts_nil gs_nil Tryz.func165 (by kernel_rfl) 0 (by kernel_rfl) trivial fun args K r h => ?_
  unfold S165 VS165 at h
  split at h
  · exact (ve165_0 N _ _ _ _).trans h
  · cases h
def VS103 (N : Nat) : Rv.Spec β := fun args K => match args with
  | [.v (.agg [.int .i64 a0, .int .i64 a1]), .v (.one (.int .i64 a2))] => zq106 a0 a1 a2 (fun z3 => K (.v (.one (.int .i64 z3))))
  | _ => none
def S103 (N : Nat) : Rv.Spec β := VS103 (zj106 N) N
def VE103 (N : Nat) : Env β := ⟨[], [], [], [], ⟨[], [], [157], [222]⟩⟩
def E103 (N : Nat) : Env β := VE103 N
theorem ve103_0 (N : Nat) (a0 : Int) (a1 : Int) (a2 : Int) (K : TV → O β) : evFn lay (VE103 N) Tryz.f103 [.v (.agg [.int .i64 a0, .int .i64 a1]), .v (.one (.int .i64 a2))] K = zb106 N a0 a1 a2 (fun z3 => K (.v (.one (.int .i64 z3)))) := by kernel_rfl
theorem o103 (N : Nat) : SpecOK (β := β) inv Tryz.prog 103 (S103 N) := by
  refine spec_of lay_ok mixed (E := E103 N) (specs_loops specs_nil) muts_nil gs_nil Tryz.func103 (by kernel_rfl) 0 (by kernel_rfl) trivial fun args K r h => ?_
  unfold S103 VS103 at h
  split at h
  · exact (ve103_0 N _ _ _ _).trans h
  · cases h
end Go.Proofs.YtemihnclhcobnaaGreatDoor
