/- The functions that the claims reach answer as their texts do. -/
import Derived.Test.YtemihnclhcobnaaGreatDoorE11
namespace Go.Proofs.YtemihnclhcobnaaGreatDoor
open Go.Rv
set_option maxRecDepth 100000
set_option maxHeartbeats 2000000
set_option linter.unusedVariables false
variable {β : Type}
variable (zq103 : Y29 β) (zq106 : Y3 β) (zq131 : Y1 β) (zq191 : Y10 β) (zq200 : Y42 β) (zq202 : Y81 β) (zq203 : Y44 β) (zq205 : Y83 β) (zq206 : Y82 β) (zq208 : Y85 β) (zq210 : Y84 β) (zq211 : Y46 β) (zq212 : Y2 β) (zq213 : Y86 β) (zq214 : Y87 β) (zq215 : Y88 β)
def VS180 (N : Nat) : Rv.Spec β := fun args K => match args with
  | [.v (.agg [.int .i64 a0, .int .i64 a1]), .v (.one (.sl 3 (.ints .i64 a2)))] => zq203 a0 a1 a2 (fun z3 z4 => K (.tup [.one (.int .i64 z3), .one (.bool z4)]))
  | _ => none
def S180 (N : Nat) : Rv.Spec β := VS180 (zj203 N) N
def h180_0_0 (v0 : List Int) (v1 : Int) (v2 : Int) (v3 : Bool) (v4 : Bool) (v5 : Int) (v6 : Int) (v7 : Int) (v8 : Int) : St := ⟨tund :: .v (.one (.sl 3 (.ints .i64 v0))) :: .v (.one (.ptr 0 0)) :: tn 3 (.v (.one (.int .i64 v1)) :: .v (.one (.int .i64 v2)) :: .v (.one (.bool v3)) :: .v (.one (.bool v4)) :: tn 3 (.v (.one (.int .i64 v5)) :: .v (.one (.int .i64 v6)) :: tn 44 [])), [.cells 25 [.int .i64 v7, .int .i64 v8]]⟩
def x180_0_0_k0 (y0 : Int) (y1 : Int) (y2 : Bool) (y3 : Bool) : St := ⟨tn 6 (.v (.one (.int .i64 y0)) :: .v (.one (.int .i64 y1)) :: .v (.one (.bool y2)) :: .v (.one (.bool y3)) :: tn 49 []), []⟩
def p180_0_0 {γ : Type} (f : List Int → Int → Int → Bool → Bool → Int → Int → Int → Int → γ) (s : St) : γ := f (rInts (rowV (oneA (vT (nx tund s.tmps 1))))) (intS (oneA (vT (nx tund s.tmps 6)))) (intS (oneA (vT (nx tund s.tmps 7)))) (boolS (oneA (vT (nx tund s.tmps 8)))) (boolS (oneA (vT (nx tund s.tmps 9)))) (intS (oneA (vT (nx tund s.tmps 13)))) (intS (oneA (vT (nx tund s.tmps 14)))) (intS (nx .und (cellsB (nx .dead s.blks 0)) 0)) (intS (nx .und (cellsB (nx .dead s.blks 0)) 1))
theorem fl180_0_0 (s : St) : refSt (h180_0_0 [] 0 0 false false 0 0 0 0) s = p180_0_0 h180_0_0 s := by kernel_rfl
def VLS180_0 (N : Nat) : LSpec β := fun s K => cond (shpSt (h180_0_0 [] 0 0 false false 0 0 0 0) s) (p180_0_0 (fun v0 v1 v2 v3 v4 v5 v6 v7 v8 => zq202 N v0 v1 v2 v3 v4 v5 v6 v7 v8 (fun y0 y1 y2 y3 => K (.exit 0) (x180_0_0_k0 y0 y1 y2 y3))) s) (none)
def LS180_0 (N : Nat) : LSpec β := VLS180_0 (zj202 N) N
def VE180 (N : Nat) : Env β := ⟨[(100, VS100 zq103 N), (228, VS228 zq200 N), (103, VS103 zq106 N)], [], [(0, VLS180_0 zq202 N)], [], ⟨[], [], [157], [222]⟩⟩
def E180 (N : Nat) : Env β := VE180 (zj103 N) (zj106 N) (zj200 N) (zj202 N) N
theorem vst180_0_0 (N : Nat) (v0 : List Int) (v1 : Int) (v2 : Int) (v3 : Bool) (v4 : Bool) (v5 : Int) (v6 : Int) (v7 : Int) (v8 : Int) (rec_ : St → O β) (K : Exit → St → O β) :
    stB lay (VE180 zq103 zq106 zq200 zq202 N) Tryz.f180 0 (h180_0_0 v0 v1 v2 v3 v4 v5 v6 v7 v8) rec_ K = zb201 zq106 zq200 N v0 v1 v2 v3 v4 v5 v6 v7 v8 (fun v0 v1 v2 v3 v4 v5 v6 v7 v8 => rec_ (h180_0_0 v0 v1 v2 v3 v4 v5 v6 v7 v8)) (fun y0 y1 y2 y3 => K (.exit 0) (x180_0_0_k0 y0 y1 y2 y3)) := by kernel_rfl
theorem ro180_0_0 (N : Nat) (K : Exit → St → O β) : ∀ (F : Nat) (v0 : List Int) (v1 : Int) (v2 : Int) (v3 : Bool) (v4 : Bool) (v5 : Int) (v6 : Int) (v7 : Int) (v8 : Int), (lp Tryz.f180 0).rounds lay (E180 N) (retMask Tryz.f180) F (h180_0_0 v0 v1 v2 v3 v4 v5 v6 v7 v8) K = zj202 N F v0 v1 v2 v3 v4 v5 v6 v7 v8 (fun y0 y1 y2 y3 => K (.exit 0) (x180_0_0_k0 y0 y1 y2 y3)) := by
  intro F
  induction F with
  | zero => intros; rfl
  | succ F ih =>
    intros
    rw [rounds_next]
    refine (vst180_0_0 (zj103 N) (zj106 N) (zj200 N) (zj202 N) N _ _ _ _ _ _ _ _ _ (fun s => (lp Tryz.f180 0).rounds lay (E180 N) (retMask Tryz.f180) F s K) K).trans ?_
    simp only [ih]
    rfl
theorem lk180_0 (N : Nat) : lookL (E180 (β := β) N).loops (lp Tryz.f180 0).id = LS180_0 N := by kernel_rfl
theorem rk180_0 (N : Nat) : RoundsOK lay (E180 (β := β) N) (retMask Tryz.f180) (lp Tryz.f180 0) := by
  intro s K r h
  rw [lk180_0] at h
  unfold LS180_0 VLS180_0 at h
  cases hb : shpSt (h180_0_0 [] 0 0 false false 0 0 0 0) s with
  | true =>
    rw [hb, cond_true] at h
    exact ⟨N, by rw [← shpSt_ref hb, fl180_0_0 s]; unfold p180_0_0 at h ⊢; exact (ro180_0_0 N K N _ _ _ _ _ _ _ _ _).trans h⟩
  | false =>
  rw [hb, cond_false] at h
  clear hb
  cases h
theorem ve180_0 (N : Nat) (a0 : Int) (a1 : Int) (a2 : List Int) (K : TV → O β) : evFn lay (VE180 zq103 zq106 zq200 zq202 N) Tryz.f180 [.v (.agg [.int .i64 a0, .int .i64 a1]), .v (.one (.sl 3 (.ints .i64 a2)))] K = zb203 zq103 zq202 N a0 a1 a2 (fun z3 z4 => K (.tup [.one (.int .i64 z3), .one (.bool z4)])) := by kernel_rfl
theorem o180 (N : Nat) : SpecOK (β := β) inv Tryz.prog 180 (S180 N) := by
  refine spec_of lay_ok mixed (E := E180 N) (specs_loops (specs_cons (o100 N) (specs_cons (o228 N) (specs_cons (o103 N) specs_nil)))) muts_nil gs_nil Tryz.func180 (by kernel_rfl) 1 (by kernel_rfl) ⟨trivial, rk180_0 N⟩ fun args K r h => ?_
  unfold S180 VS180 at h
  split at h
  · exact (ve180_0 (zj103 N) (zj106 N) (zj200 N) (zj202 N) N _ _ _ _).trans h
  · cases h
def VS181 (N : Nat) : Rv.Spec β := fun args K => match args with
  | [.v (.one (.sl 3 (.ints .i64 a0)))] => zq206 a0 (fun z1 => K (.v (.one (.int .i64 z1))))
  | _ => none
def S181 (N : Nat) : Rv.Spec β := VS181 (zj206 N) N
def h181_0_0 (v0 : Int) (v1 : List Int) (v2 : Int) (v3 : Int) : St := ⟨tn 3 (.v (.one (.int .i64 v0)) :: tund :: tund :: .v (.one (.sl 3 (.ints .i64 v1))) :: .v (.one (.int .i64 v2)) :: .v (.one (.int .i64 v3)) :: tn 9 []), []⟩
def x181_0_0_k0 (y0 : Int) : St := ⟨tn 3 (.v (.one (.int .i64 y0)) :: tn 14 []), []⟩
def p181_0_0 {γ : Type} (f : Int → List Int → Int → Int → γ) (s : St) : γ := f (intS (oneA (vT (nx tund s.tmps 3)))) (rInts (rowV (oneA (vT (nx tund s.tmps 6))))) (intS (oneA (vT (nx tund s.tmps 7)))) (intS (oneA (vT (nx tund s.tmps 8))))
theorem fl181_0_0 (s : St) : refSt (h181_0_0 0 [] 0 0) s = p181_0_0 h181_0_0 s := by kernel_rfl
def VLS181_0 (N : Nat) : LSpec β := fun s K => cond (shpSt (h181_0_0 0 [] 0 0) s) (p181_0_0 (fun v0 v1 v2 v3 => zq205 N v0 v1 v2 v3 (fun y0 => K (.exit 0) (x181_0_0_k0 y0))) s) (none)
def LS181_0 (N : Nat) : LSpec β := VLS181_0 (zj205 N) N
def VE181 (N : Nat) : Env β := ⟨[(118, VS118 zq191 N)], [], [(0, VLS181_0 zq205 N)], [], ⟨[], [], [157], [222]⟩⟩
def E181 (N : Nat) : Env β := VE181 (zj191 N) (zj205 N) N
theorem vst181_0_0 (N : Nat) (v0 : Int) (v1 : List Int) (v2 : Int) (v3 : Int) (rec_ : St → O β) (K : Exit → St → O β) :
    stB lay (VE181 zq191 zq205 N) Tryz.f181 0 (h181_0_0 v0 v1 v2 v3) rec_ K = zb204 zq191 N v0 v1 v2 v3 (fun v0 v1 v2 v3 => rec_ (h181_0_0 v0 v1 v2 v3)) (fun y0 => K (.exit 0) (x181_0_0_k0 y0)) := by kernel_rfl
theorem ro181_0_0 (N : Nat) (K : Exit → St → O β) : ∀ (F : Nat) (v0 : Int) (v1 : List Int) (v2 : Int) (v3 : Int), (lp Tryz.f181 0).rounds lay (E181 N) (retMask Tryz.f181) F (h181_0_0 v0 v1 v2 v3) K = zj205 N F v0 v1 v2 v3 (fun y0 => K (.exit 0) (x181_0_0_k0 y0)) := by
  intro F
  induction F with
  | zero => intros; rfl
  | succ F ih =>
    intros
    rw [rounds_next]
    refine (vst181_0_0 (zj191 N) (zj205 N) N _ _ _ _ (fun s => (lp Tryz.f181 0).rounds lay (E181 N) (retMask Tryz.f181) F s K) K).trans ?_
    simp only [ih]
    rfl
theorem lk181_0 (N : Nat) : lookL (E181 (β := β) N).loops (lp Tryz.f181 0).id = LS181_0 N := by kernel_rfl
theorem rk181_0 (N : Nat) : RoundsOK lay (E181 (β := β) N) (retMask Tryz.f181) (lp Tryz.f181 0) := by
  intro s K r h
  rw [lk181_0] at h
  unfold LS181_0 VLS181_0 at h
  cases hb : shpSt (h181_0_0 0 [] 0 0) s with
  | true =>
    rw [hb, cond_true] at h
    exact ⟨N, by rw [← shpSt_ref hb, fl181_0_0 s]; unfold p181_0_0 at h ⊢; exact (ro181_0_0 N K N _ _ _ _).trans h⟩
  | false =>
  rw [hb, cond_false] at h
  clear hb
  cases h
theorem ve181_0 (N : Nat) (a0 : List Int) (K : TV → O β) : evFn lay (VE181 zq191 zq205 N) Tryz.f181 [.v (.one (.sl 3 (.ints .i64 a0)))] K = zb206 zq205 N a0 (fun z1 => K (.v (.one (.int .i64 z1)))) := by kernel_rfl
theorem o181 (N : Nat) : SpecOK (β := β) inv Tryz.prog 181 (S181 N) := by
  refine spec_of lay_ok mixed (E := E181 N) (specs_loops (specs_cons (o118 N) specs_nil)) muts_nil gs_nil Tryz.func181 (by kernel_rfl) 1 (by kernel_rfl) ⟨trivial, rk181_0 N⟩ fun args K r h => ?_
  unfold S181 VS181 at h
  split at h
  · exact (ve181_0 (zj191 N) (zj205 N) N _ _).trans h
  · cases h
def VS119 (N : Nat) : Rv.Spec β := fun args K => match args with
  | [.v (.agg [.int .i64 a0, .int .i64 a1])] => zq211 a0 a1 (fun z2 z3 z4 => K (.tup [.one (.sl 3 (.ints .i64 z2)), .one (.int .i64 z3), .one (.bool z4)]))
  | _ => none
def S119 (N : Nat) : Rv.Spec β := VS119 (zj211 N) N
def h119_0_0 (v0 : Int) (v1 : Bool) (v2 : Int) (v3 : Int) (v4 : List Int) (v5 : List Int) : St := ⟨tund :: .v (.one (.ptr 0 0)) :: tn 3 (.v (.one (.row 1)) :: .v (.one (.row 2)) :: .v (.one (.int .i64 v0)) :: .v (.one (.bool v1)) :: tn 59 []), [.cells 25 [.int .i64 v2, .int .i64 v3], .row 3 (.ints .i64 v4), .row 3 (.ints .i64 v5)]⟩
def x119_0_0_k0 (y0 : Int) (y1 : Bool) (y2 : List Int) : St := ⟨tund :: tund :: .v (.one (.row 0)) :: .v (.one (.int .i64 y0)) :: .v (.one (.bool y1)) :: tn 63 [], [.row 3 (.ints .i64 y2)]⟩
def h119_1_0 (v0 : Int) (v1 : Bool) (v2 : Int) (v3 : Int) (v4 : Int) (v5 : List Int) (v6 : List Int) : St := ⟨tund :: .v (.one (.ptr 0 0)) :: tn 3 (.v (.one (.row 1)) :: .v (.one (.row 2)) :: .v (.one (.int .i64 v0)) :: .v (.one (.bool v1)) :: tund :: tund :: .v (.one (.int .i64 v2)) :: tn 56 []), [.cells 25 [.int .i64 v3, .int .i64 v4], .row 3 (.ints .i64 v5), .row 3 (.ints .i64 v6)]⟩
def x119_1_0_k0 (y0 : Int) (y1 : Bool) (y2 : Int) (y3 : Int) (y4 : Int) (y5 : List Int) (y6 : List Int) : St := ⟨tund :: .v (.one (.ptr 0 0)) :: tn 3 (.v (.one (.row 1)) :: .v (.one (.row 2)) :: .v (.one (.int .i64 y0)) :: .v (.one (.bool y1)) :: tund :: tund :: .v (.one (.int .i64 y2)) :: tn 56 []), [.cells 25 [.int .i64 y3, .int .i64 y4], .row 3 (.ints .i64 y5), .row 3 (.ints .i64 y6)]⟩
def p119_0_0 {γ : Type} (f : Int → Bool → Int → Int → List Int → List Int → γ) (s : St) : γ := f (intS (oneA (vT (nx tund s.tmps 7)))) (boolS (oneA (vT (nx tund s.tmps 8)))) (intS (nx .und (cellsB (nx .dead s.blks 0)) 0)) (intS (nx .und (cellsB (nx .dead s.blks 0)) 1)) (rInts (rowB_ (nx .dead s.blks 1))) (rInts (rowB_ (nx .dead s.blks 2)))
theorem fl119_0_0 (s : St) : refSt (h119_0_0 0 false 0 0 [] []) s = p119_0_0 h119_0_0 s := by kernel_rfl
def VLS119_0 (N : Nat) : LSpec β := fun s K => cond (shpSt (h119_0_0 0 false 0 0 [] []) s) (p119_0_0 (fun v0 v1 v2 v3 v4 v5 => zq210 N v0 v1 v2 v3 v4 v5 (fun y0 y1 y2 => K .ret (x119_0_0_k0 y0 y1 y2))) s) (none)
def LS119_0 (N : Nat) : LSpec β := VLS119_0 (zj210 N) N
def p119_1_0 {γ : Type} (f : Int → Bool → Int → Int → Int → List Int → List Int → γ) (s : St) : γ := f (intS (oneA (vT (nx tund s.tmps 7)))) (boolS (oneA (vT (nx tund s.tmps 8)))) (intS (oneA (vT (nx tund s.tmps 11)))) (intS (nx .und (cellsB (nx .dead s.blks 0)) 0)) (intS (nx .und (cellsB (nx .dead s.blks 0)) 1)) (rInts (rowB_ (nx .dead s.blks 1))) (rInts (rowB_ (nx .dead s.blks 2)))
theorem fl119_1_0 (s : St) : refSt (h119_1_0 0 false 0 0 0 [] []) s = p119_1_0 h119_1_0 s := by kernel_rfl
def VLS119_2 (N : Nat) : LSpec β := fun s K => cond (shpSt (h119_1_0 0 false 0 0 0 [] []) s) ((fun (v0 : Int) (v1 : Bool) (v2 : Int) (v3 : Int) (v4 : Int) (v5 : List Int) (v6 : List Int) => zq208 N v0 v1 v2 v3 v4 v5 v6 (fun y0 y1 y2 y3 y4 y5 y6 => K (.exit 2) (x119_1_0_k0 y0 y1 y2 y3 y4 y5 y6))) (intS (oneA (vT (nx tund s.tmps 7)))) (boolS (oneA (vT (nx tund s.tmps 8)))) (intS (oneA (vT (nx tund s.tmps 11)))) (intS (nx .und (cellsB (nx .dead s.blks 0)) 0)) (intS (nx .und (cellsB (nx .dead s.blks 0)) 1)) (rInts (rowB_ (nx .dead s.blks 1))) (rInts (rowB_ (nx .dead s.blks 2)))) (none)
def LS119_2 (N : Nat) : LSpec β := VLS119_2 (zj208 N) N
def VE119 (N : Nat) : Env β := ⟨[(45, VS45 zq131 N), (179, S179 N), (180, VS180 zq203 N), (182, S182 N), (181, VS181 zq206 N)], [], [(0, VLS119_0 zq210 N), (2, VLS119_2 zq208 N)], [], ⟨[], [], [157], [222]⟩⟩
def E119 (N : Nat) : Env β := VE119 (zj131 N) (zj203 N) (zj206 N) (zj208 N) (zj210 N) N
theorem vst119_0_0 (N : Nat) (v0 : Int) (v1 : Bool) (v2 : Int) (v3 : Int) (v4 : List Int) (v5 : List Int) (rec_ : St → O β) (K : Exit → St → O β) :
    stB lay (VE119 zq131 zq203 zq206 zq208 zq210 N) Tryz.f119 0 (h119_0_0 v0 v1 v2 v3 v4 v5) rec_ K = zb209 zq203 zq206 zq208 N v0 v1 v2 v3 v4 v5 (fun v0 v1 v2 v3 v4 v5 => rec_ (h119_0_0 v0 v1 v2 v3 v4 v5)) (fun y0 y1 y2 => K .ret (x119_0_0_k0 y0 y1 y2)) := by kernel_rfl
theorem ro119_0_0 (N : Nat) (K : Exit → St → O β) : ∀ (F : Nat) (v0 : Int) (v1 : Bool) (v2 : Int) (v3 : Int) (v4 : List Int) (v5 : List Int), (lp Tryz.f119 0).rounds lay (E119 N) (retMask Tryz.f119) F (h119_0_0 v0 v1 v2 v3 v4 v5) K = zj210 N F v0 v1 v2 v3 v4 v5 (fun y0 y1 y2 => K .ret (x119_0_0_k0 y0 y1 y2)) := by
  intro F
  induction F with
  | zero => intros; rfl
  | succ F ih =>
    intros
    rw [rounds_next]
    refine (vst119_0_0 (zj131 N) (zj203 N) (zj206 N) (zj208 N) (zj210 N) N _ _ _ _ _ _ (fun s => (lp Tryz.f119 0).rounds lay (E119 N) (retMask Tryz.f119) F s K) K).trans ?_
    simp only [ih]
    rfl
theorem lk119_0 (N : Nat) : lookL (E119 (β := β) N).loops (lp Tryz.f119 0).id = LS119_0 N := by kernel_rfl
theorem rk119_0 (N : Nat) : RoundsOK lay (E119 (β := β) N) (retMask Tryz.f119) (lp Tryz.f119 0) := by
  intro s K r h
  rw [lk119_0] at h
  unfold LS119_0 VLS119_0 at h
  cases hb : shpSt (h119_0_0 0 false 0 0 [] []) s with
  | true =>
    rw [hb, cond_true] at h
    exact ⟨N, by rw [← shpSt_ref hb, fl119_0_0 s]; unfold p119_0_0 at h ⊢; exact (ro119_0_0 N K N _ _ _ _ _ _).trans h⟩
  | false =>
  rw [hb, cond_false] at h
  clear hb
  cases h
theorem vst119_1_0 (N : Nat) (v0 : Int) (v1 : Bool) (v2 : Int) (v3 : Int) (v4 : Int) (v5 : List Int) (v6 : List Int) (rec_ : St → O β) (K : Exit → St → O β) :
    stB lay (VE119 zq131 zq203 zq206 zq208 zq210 N) Tryz.f119 1 (h119_1_0 v0 v1 v2 v3 v4 v5 v6) rec_ K = zb207 N v0 v1 v2 v3 v4 v5 v6 (fun v0 v1 v2 v3 v4 v5 v6 => rec_ (h119_1_0 v0 v1 v2 v3 v4 v5 v6)) (fun y0 y1 y2 y3 y4 y5 y6 => K (.exit 2) (x119_1_0_k0 y0 y1 y2 y3 y4 y5 y6)) := by kernel_rfl
theorem ro119_1_0 (N : Nat) (K : Exit → St → O β) : ∀ (F : Nat) (v0 : Int) (v1 : Bool) (v2 : Int) (v3 : Int) (v4 : Int) (v5 : List Int) (v6 : List Int), (lp Tryz.f119 1).rounds lay (E119 N) (retMask Tryz.f119) F (h119_1_0 v0 v1 v2 v3 v4 v5 v6) K = zj208 N F v0 v1 v2 v3 v4 v5 v6 (fun y0 y1 y2 y3 y4 y5 y6 => K (.exit 2) (x119_1_0_k0 y0 y1 y2 y3 y4 y5 y6)) := by
  intro F
  induction F with
  | zero => intros; rfl
  | succ F ih =>
    intros
    rw [rounds_next]
    refine (vst119_1_0 (zj131 N) (zj203 N) (zj206 N) (zj208 N) (zj210 N) N _ _ _ _ _ _ _ (fun s => (lp Tryz.f119 1).rounds lay (E119 N) (retMask Tryz.f119) F s K) K).trans ?_
    simp only [ih]
    rfl
theorem lk119_2 (N : Nat) : lookL (E119 (β := β) N).loops (lp Tryz.f119 1).id = LS119_2 N := by kernel_rfl
theorem rk119_2 (N : Nat) : RoundsOK lay (E119 (β := β) N) (retMask Tryz.f119) (lp Tryz.f119 1) := by
  intro s K r h
  rw [lk119_2] at h
  unfold LS119_2 VLS119_2 at h
  cases hb : shpSt (h119_1_0 0 false 0 0 0 [] []) s with
  | true =>
    rw [hb, cond_true] at h
    exact ⟨N, by rw [← shpSt_ref hb, fl119_1_0 s]; exact (ro119_1_0 N K N (intS (oneA (vT (nx tund s.tmps 7)))) (boolS (oneA (vT (nx tund s.tmps 8)))) (intS (oneA (vT (nx tund s.tmps 11)))) (intS (nx .und (cellsB (nx .dead s.blks 0)) 0)) (intS (nx .und (cellsB (nx .dead s.blks 0)) 1)) (rInts (rowB_ (nx .dead s.blks 1))) (rInts (rowB_ (nx .dead s.blks 2)))).trans h⟩
  | false =>
  rw [hb, cond_false] at h
  clear hb
  cases h
theorem ve119_0 (N : Nat) (a0 : Int) (a1 : Int) (K : TV → O β) : evFn lay (VE119 zq131 zq203 zq206 zq208 zq210 N) Tryz.f119 [.v (.agg [.int .i64 a0, .int .i64 a1])] K = zb211 zq131 zq210 N a0 a1 (fun z2 z3 z4 => K (.tup [.one (.sl 3 (.ints .i64 z2)), .one (.int .i64 z3), .one (.bool z4)])) := by kernel_rfl
theorem o119 (N : Nat) : SpecOK (β := β) inv Tryz.prog 119 (S119 N) := by
  refine spec_of lay_ok mixed (E := E119 N) (specs_loops (specs_cons (o45 N) (specs_cons (o179 N) (specs_cons (o180 N) (specs_cons (o182 N) (specs_cons (o181 N) specs_nil)))))) muts_nil gs_nil Tryz.func119 (by kernel_rfl) 2 (by kernel_rfl) ⟨⟨trivial, rk119_0 N⟩, rk119_2 N⟩ fun args K r h => ?_
  unfold S119 VS119 at h
  split at h
  · exact (ve119_0 (zj131 N) (zj203 N) (zj206 N) (zj208 N) (zj210 N) N _ _ _).trans h
  · cases h
def VS55 (N : Nat) : Rv.Spec β := fun args K => match args with
  | [.v (.agg [.int .i64 a0, .int .i64 a1])] => zq212 a0 a1 (fun z2 => K (.v (.one (.bool z2))))
  | _ => none
def S55 (N : Nat) : Rv.Spec β := VS55 (zj212 N) N
def VE55 (N : Nat) : Env β := ⟨[(119, VS119 zq211 N)], [], [], [], ⟨[], [], [157], [222]⟩⟩
def E55 (N : Nat) : Env β := VE55 (zj211 N) N
theorem ve55_0 (N : Nat) (a0 : Int) (a1 : Int) (K : TV → O β) : evFn lay (VE55 zq211 N) Tryz.f55 [.v (.agg [.int .i64 a0, .int .i64 a1])] K = zb212 zq211 N a0 a1 (fun z2 => K (.v (.one (.bool z2)))) := by kernel_rfl
theorem o55 (N : Nat) : SpecOK (β := β) inv Tryz.prog 55 (S55 N) := by
  refine spec_of lay_ok mixed (E := E55 N) (specs_loops (specs_cons (o119 N) specs_nil)) muts_nil gs_nil Tryz.func55 (by kernel_rfl) 0 (by kernel_rfl) trivial fun args K r h => ?_
  unfold S55 VS55 at h
  split at h
  · exact (ve55_0 (zj211 N) N _ _ _).trans h
  · cases h
def VS39 (N : Nat) : GSpec β := fun args bl K => match args, bl with
  | [.v (.one (.ptr 0 0)), .v (.one (.row 1))], [.pcells 0 46 [.row 2], .prow 1 9 (.strs a0), .prow 2 9 (.strs a1)] => zq213 a0 a1 (fun y0 y1 => K (.tup []) [.pcells 0 46 [.row 2], .prow 1 9 (.strs y0), .row 9 (.strs y1)])
  | _, _ => none
def S39 (N : Nat) : GSpec β := VS39 (zj213 N) N
def VE39 (N : Nat) : Env β := ⟨[], [], [], [], ⟨[], [], [157], [222]⟩⟩
def E39 (N : Nat) : Env β := VE39 N
theorem ve39_0 (N : Nat) (a0 : List ByteArray) (a1 : List ByteArray) (K : TV → List Blk → O β) : evFnG lay (VE39 N) Tryz.f39 [.v (.one (.ptr 0 0)), .v (.one (.row 1))] [.pcells 0 46 [.row 2], .prow 1 9 (.strs a0), .prow 2 9 (.strs a1)] K = zb213 N a0 a1 (fun y0 y1 => K (.tup []) [.pcells 0 46 [.row 2], .prow 1 9 (.strs y0), .row 9 (.strs y1)]) := by kernel_rfl
theorem o39 (N : Nat) : GOK (β := β) inv Tryz.prog 39 (S39 N) := by
  refine g_of lay_ok mixed (E := E39 N) (specs_loops specs_nil) muts_nil gs_nil Tryz.func39 (by kernel_rfl) 0 (by kernel_rfl) trivial fun args bl K r h => ?_
  unfold S39 VS39 at h
  split at h
  · exact (ve39_0 N _ _ _).trans h
  · cases h
def VS48 (N : Nat) : GSpec β := fun args bl K => match args, bl with
  | [.v (.one (.ptr 0 0)), .v (.one (.bool a0)), .v (.one (.str a1))], [.pcells 0 46 [.row 1], .prow 1 9 (.strs a2)] => zq214 a0 a1 a2 (fun y0 => K (.tup []) [.pcells 0 46 [.row 1], .row 9 (.strs y0)]) (fun y0 => K (.tup []) [.pcells 0 46 [.row 1], .prow 1 9 (.strs y0)])
  | _, _ => none
def S48 (N : Nat) : GSpec β := VS48 (zj214 N) N
def VE48 (N : Nat) : Env β := ⟨[], [], [], [(39, VS39 zq213 N)], ⟨[], [], [157], [222]⟩⟩
def E48 (N : Nat) : Env β := VE48 (zj213 N) N
theorem ve48_0 (N : Nat) (a0 : Bool) (a1 : ByteArray) (a2 : List ByteArray) (K : TV → List Blk → O β) : evFnG lay (VE48 zq213 N) Tryz.f48 [.v (.one (.ptr 0 0)), .v (.one (.bool a0)), .v (.one (.str a1))] [.pcells 0 46 [.row 1], .prow 1 9 (.strs a2)] K = zb214 zq213 N a0 a1 a2 (fun y0 => K (.tup []) [.pcells 0 46 [.row 1], .row 9 (.strs y0)]) (fun y0 => K (.tup []) [.pcells 0 46 [.row 1], .prow 1 9 (.strs y0)]) := by kernel_rfl
theorem o48 (N : Nat) : GOK (β := β) inv Tryz.prog 48 (S48 N) := by
  refine g_of lay_ok mixed (E := E48 N) (specs_loops specs_nil) muts_nil (gs_cons (o39 N) gs_nil) Tryz.func48 (by kernel_rfl) 0 (by kernel_rfl) trivial fun args bl K r h => ?_
  unfold S48 VS48 at h
  split at h
  · exact (ve48_0 (zj213 N) N _ _ _ _).trans h
  · cases h
def VS56 (N : Nat) : GSpec β := fun args bl K => match args, bl with
  | [.v (.one (.ptr 0 0))], [.pcells 0 46 [.row 1], .prow 1 9 (.strs a0)] => zq215 a0 (fun y0 y1 => K (.v (.one (.str y0))) [.pcells 0 46 [.row 1], .prow 1 9 (.strs y1)])
  | _, _ => none
def S56 (N : Nat) : GSpec β := VS56 (zj215 N) N
def VE56 (N : Nat) : Env β := ⟨[(106, S106 N)], [], [], [], ⟨[], [], [157], [222]⟩⟩
def E56 (N : Nat) : Env β := VE56 N
theorem ve56_0 (N : Nat) (a0 : List ByteArray) (K : TV → List Blk → O β) : evFnG lay (VE56 N) Tryz.f56 [.v (.one (.ptr 0 0))] [.pcells 0 46 [.row 1], .prow 1 9 (.strs a0)] K = zb215 N a0 (fun y0 y1 => K (.v (.one (.str y0))) [.pcells 0 46 [.row 1], .prow 1 9 (.strs y1)]) := by kernel_rfl
theorem o56 (N : Nat) : GOK (β := β) inv Tryz.prog 56 (S56 N) := by
  refine g_of lay_ok mixed (E := E56 N) (specs_loops (specs_cons (o106 N) specs_nil)) muts_nil gs_nil Tryz.func56 (by kernel_rfl) 0 (by kernel_rfl) trivial fun args bl K r h => ?_
  unfold S56 VS56 at h
  split at h
  · exact (ve56_0 N _ _).trans h
  · cases h
end Go.Proofs.YtemihnclhcobnaaGreatDoor
