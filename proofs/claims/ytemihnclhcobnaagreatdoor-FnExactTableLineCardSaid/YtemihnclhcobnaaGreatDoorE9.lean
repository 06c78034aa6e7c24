/- The functions that the claims reach answer as their texts do. -/
import Derived.Test.YtemihnclhcobnaaGreatDoorE8
namespace Go.Proofs.YtemihnclhcobnaaGreatDoor
open Go.Rv
set_option maxRecDepth 100000
set_option maxHeartbeats 2000000
set_option linter.unusedVariables false
variable {β : Type}
variable (zq103 : Y29 β) (zq104 : Y2 β) (zq115 : Y4 β) (zq131 : Y1 β) (zq137 : Y58 β) (zq143 : Y21 β) (zq144 : Y24 β) (zq145 : Y0 β) (zq146 : Y4 β) (zq147 : Y63 β) (zq149 : Y66 β) (zq151 : Y64 β) (zq153 : Y67 β) (zq155 : Y65 β) (zq156 : Y4 β) (zq157 : Y63 β) (zq158 : Y0 β) (zq159 : Y29 β) (zq161 : Y68 β) (zq162 : Y2 β) (zq163 : Y2 β)
def VS107 (N : Nat) : GSpec β := fun args bl K => match args, bl with
  | [.v (.agg [.int .i64 a0, .int .i64 a1]), .v (.one (.fn 108 [(0, 0)]))], [.pcells 0 25 [.int .i64 a2, .int .i64 a3]] => zq156 a0 a1 a2 a3 (fun y0 y1 => K (.tup []) [.pcells 0 25 [.int .i64 y0, .int .i64 y1]])
  | [.v (.agg [.int .i64 a0, .int .i64 a1]), .v (.one (.fn 109 [(0, 0)]))], [.pcells 0 84 [.mp 1], .pmp 1 ⟨false, true⟩ a2] => zq157 a0 a1 a2 (fun y0 => K (.tup []) [.pcells 0 84 [.mp 1], .pmp 1 ⟨false, true⟩ y0])
  | _, _ => none
def S107 (N : Nat) : GSpec β := VS107 (zj156 N) (zj157 N) N
def h107_0_0 (v0 : Int) (v1 : Int) (v2 : Int) (v3 : Int) (v4 : Int) (v5 : Int) (v6 : List (List Int)) : St := ⟨tund :: .v (.one (.fn 108 [(0, 0)])) :: .v (.one (.ptr 1 0)) :: tn 8 (.v (.one (.row 2)) :: .v (.one (.int .i64 v0)) :: .v (.one (.int .i64 v1)) :: tn 23 []), [.pcells 0 25 [.int .i64 v2, .int .i64 v3], .cells 25 [.int .i64 v4, .int .i64 v5], .row 40 (.lists 3 v6)]⟩
def x107_0_0_k0 (y0 : Int) (y1 : Int) : St := ⟨tn 37 [], [.pcells 0 25 [.int .i64 y0, .int .i64 y1]]⟩
def h107_1_0 (v0 : Int) (v1 : Int) (v2 : Int) (v3 : Int) (v4 : Int) (v5 : Int) (v6 : Int) (v7 : Int) (v8 : Int) (v9 : Int) (v10 : List (List Int)) : St := ⟨tund :: .v (.one (.fn 108 [(0, 0)])) :: .v (.one (.ptr 1 0)) :: tn 3 (.v (.one (.ptr 2 0)) :: tn 4 (.v (.one (.row 3)) :: .v (.one (.int .i64 v0)) :: .v (.one (.int .i64 v1)) :: tn 7 (.v (.one (.int .i64 v2)) :: .v (.one (.int .i64 v3)) :: tn 14 []))), [.pcells 0 25 [.int .i64 v4, .int .i64 v5], .cells 25 [.int .i64 v6, .int .i64 v7], .cells 25 [.int .i64 v8, .int .i64 v9], .row 40 (.lists 3 v10)]⟩
def x107_1_0_k0 (y0 : Int) (y1 : Int) (y2 : Int) (y3 : Int) (y4 : Int) (y5 : Int) (y6 : List (List Int)) : St := ⟨tund :: .v (.one (.fn 108 [(0, 0)])) :: .v (.one (.ptr 1 0)) :: tn 8 (.v (.one (.row 2)) :: .v (.one (.int .i64 y0)) :: .v (.one (.int .i64 y1)) :: tn 23 []), [.pcells 0 25 [.int .i64 y2, .int .i64 y3], .cells 25 [.int .i64 y4, .int .i64 y5], .row 40 (.lists 3 y6)]⟩
def h107_2_0 (v0 : Int) (v1 : Int) (v2 : Mp) (v3 : Int) (v4 : Int) (v5 : List (List Int)) : St := ⟨tund :: .v (.one (.fn 109 [(0, 0)])) :: .v (.one (.ptr 2 0)) :: tn 8 (.v (.one (.row 3)) :: .v (.one (.int .i64 v0)) :: .v (.one (.int .i64 v1)) :: tn 23 []), [.pcells 0 84 [.mp 1], .pmp 1 ⟨false, true⟩ v2, .cells 25 [.int .i64 v3, .int .i64 v4], .row 40 (.lists 3 v5)]⟩
def x107_2_0_k0 (y0 : Mp) : St := ⟨tn 37 [], [.pcells 0 84 [.mp 1], .pmp 1 ⟨false, true⟩ y0]⟩
def h107_3_0 (v0 : Int) (v1 : Int) (v2 : Int) (v3 : Int) (v4 : Mp) (v5 : Int) (v6 : Int) (v7 : Int) (v8 : Int) (v9 : List (List Int)) : St := ⟨tund :: .v (.one (.fn 109 [(0, 0)])) :: .v (.one (.ptr 2 0)) :: tn 3 (.v (.one (.ptr 3 0)) :: tn 4 (.v (.one (.row 4)) :: .v (.one (.int .i64 v0)) :: .v (.one (.int .i64 v1)) :: tn 7 (.v (.one (.int .i64 v2)) :: .v (.one (.int .i64 v3)) :: tn 14 []))), [.pcells 0 84 [.mp 1], .pmp 1 ⟨false, true⟩ v4, .cells 25 [.int .i64 v5, .int .i64 v6], .cells 25 [.int .i64 v7, .int .i64 v8], .row 40 (.lists 3 v9)]⟩
def x107_3_0_k0 (y0 : Int) (y1 : Int) (y2 : Mp) (y3 : Int) (y4 : Int) (y5 : List (List Int)) : St := ⟨tund :: .v (.one (.fn 109 [(0, 0)])) :: .v (.one (.ptr 2 0)) :: tn 8 (.v (.one (.row 3)) :: .v (.one (.int .i64 y0)) :: .v (.one (.int .i64 y1)) :: tn 23 []), [.pcells 0 84 [.mp 1], .pmp 1 ⟨false, true⟩ y2, .cells 25 [.int .i64 y3, .int .i64 y4], .row 40 (.lists 3 y5)]⟩
def p107_0_0 {γ : Type} (f : Int → Int → Int → Int → Int → Int → List (List Int) → γ) (s : St) : γ := f (intS (oneA (vT (nx tund s.tmps 12)))) (intS (oneA (vT (nx tund s.tmps 13)))) (intS (nx .und (cellsB (nx .dead s.blks 0)) 0)) (intS (nx .und (cellsB (nx .dead s.blks 0)) 1)) (intS (nx .und (cellsB (nx .dead s.blks 1)) 0)) (intS (nx .und (cellsB (nx .dead s.blks 1)) 1)) (rLists (rowB_ (nx .dead s.blks 2)))
theorem fl107_0_0 (s : St) : refSt (h107_0_0 0 0 0 0 0 0 []) s = p107_0_0 h107_0_0 s := by kernel_rfl
def p107_2_0 {γ : Type} (f : Int → Int → Mp → Int → Int → List (List Int) → γ) (s : St) : γ := f (intS (oneA (vT (nx tund s.tmps 12)))) (intS (oneA (vT (nx tund s.tmps 13)))) (mpB (nx .dead s.blks 1)) (intS (nx .und (cellsB (nx .dead s.blks 2)) 0)) (intS (nx .und (cellsB (nx .dead s.blks 2)) 1)) (rLists (rowB_ (nx .dead s.blks 3)))
theorem fl107_2_0 (s : St) : refSt (h107_2_0 0 0 [] 0 0 []) s = p107_2_0 h107_2_0 s := by kernel_rfl
def VLS107_0 (N : Nat) : LSpec β := fun s K => cond (shpSt (h107_0_0 0 0 0 0 0 0 []) s) (p107_0_0 (fun v0 v1 v2 v3 v4 v5 v6 => zq151 N v0 v1 v2 v3 v4 v5 v6 (fun y0 y1 => K (.exit 0) (x107_0_0_k0 y0 y1))) s) (cond (shpSt (h107_2_0 0 0 [] 0 0 []) s) ((fun (v0 : Int) (v1 : Int) (v2 : Mp) (v3 : Int) (v4 : Int) (v5 : List (List Int)) => zq155 N v0 v1 v2 v3 v4 v5 (fun y0 => K (.exit 0) (x107_2_0_k0 y0))) (intS (oneA (vT (nx tund s.tmps 12)))) (intS (oneA (vT (nx tund s.tmps 13)))) (mpB (nx .dead s.blks 1)) (intS (nx .und (cellsB (nx .dead s.blks 2)) 0)) (intS (nx .und (cellsB (nx .dead s.blks 2)) 1)) (rLists (rowB_ (nx .dead s.blks 3)))) (none))
def LS107_0 (N : Nat) : LSpec β := VLS107_0 (zj151 N) (zj155 N) N
def p107_1_0 {γ : Type} (f : Int → Int → Int → Int → Int → Int → Int → Int → Int → Int → List (List Int) → γ) (s : St) : γ := f (intS (oneA (vT (nx tund s.tmps 12)))) (intS (oneA (vT (nx tund s.tmps 13)))) (intS (oneA (vT (nx tund s.tmps 21)))) (intS (oneA (vT (nx tund s.tmps 22)))) (intS (nx .und (cellsB (nx .dead s.blks 0)) 0)) (intS (nx .und (cellsB (nx .dead s.blks 0)) 1)) (intS (nx .und (cellsB (nx .dead s.blks 1)) 0)) (intS (nx .und (cellsB (nx .dead s.blks 1)) 1)) (intS (nx .und (cellsB (nx .dead s.blks 2)) 0)) (intS (nx .und (cellsB (nx .dead s.blks 2)) 1)) (rLists (rowB_ (nx .dead s.blks 3)))
theorem fl107_1_0 (s : St) : refSt (h107_1_0 0 0 0 0 0 0 0 0 0 0 []) s = p107_1_0 h107_1_0 s := by kernel_rfl
def p107_3_0 {γ : Type} (f : Int → Int → Int → Int → Mp → Int → Int → Int → Int → List (List Int) → γ) (s : St) : γ := f (intS (oneA (vT (nx tund s.tmps 12)))) (intS (oneA (vT (nx tund s.tmps 13)))) (intS (oneA (vT (nx tund s.tmps 21)))) (intS (oneA (vT (nx tund s.tmps 22)))) (mpB (nx .dead s.blks 1)) (intS (nx .und (cellsB (nx .dead s.blks 2)) 0)) (intS (nx .und (cellsB (nx .dead s.blks 2)) 1)) (intS (nx .und (cellsB (nx .dead s.blks 3)) 0)) (intS (nx .und (cellsB (nx .dead s.blks 3)) 1)) (rLists (rowB_ (nx .dead s.blks 4)))
theorem fl107_3_0 (s : St) : refSt (h107_3_0 0 0 0 0 [] 0 0 0 0 []) s = p107_3_0 h107_3_0 s := by kernel_rfl
def VLS107_2 (N : Nat) : LSpec β := fun s K => cond (shpSt (h107_1_0 0 0 0 0 0 0 0 0 0 0 []) s) ((fun (v0 : Int) (v1 : Int) (v2 : Int) (v3 : Int) (v4 : Int) (v5 : Int) (v6 : Int) (v7 : Int) (v8 : Int) (v9 : Int) (v10 : List (List Int)) => zq149 N v0 v1 v2 v3 v4 v5 v6 v7 v8 v9 v10 (fun y0 y1 y2 y3 y4 y5 y6 => K (.exit 2) (x107_1_0_k0 y0 y1 y2 y3 y4 y5 y6))) (intS (oneA (vT (nx tund s.tmps 12)))) (intS (oneA (vT (nx tund s.tmps 13)))) (intS (oneA (vT (nx tund s.tmps 21)))) (intS (oneA (vT (nx tund s.tmps 22)))) (intS (nx .und (cellsB (nx .dead s.blks 0)) 0)) (intS (nx .und (cellsB (nx .dead s.blks 0)) 1)) (intS (nx .und (cellsB (nx .dead s.blks 1)) 0)) (intS (nx .und (cellsB (nx .dead s.blks 1)) 1)) (intS (nx .und (cellsB (nx .dead s.blks 2)) 0)) (intS (nx .und (cellsB (nx .dead s.blks 2)) 1)) (rLists (rowB_ (nx .dead s.blks 3)))) (cond (shpSt (h107_3_0 0 0 0 0 [] 0 0 0 0 []) s) ((fun (v0 : Int) (v1 : Int) (v2 : Int) (v3 : Int) (v4 : Mp) (v5 : Int) (v6 : Int) (v7 : Int) (v8 : Int) (v9 : List (List Int)) => zq153 N v0 v1 v2 v3 v4 v5 v6 v7 v8 v9 (fun y0 y1 y2 y3 y4 y5 => K (.exit 2) (x107_3_0_k0 y0 y1 y2 y3 y4 y5))) (intS (oneA (vT (nx tund s.tmps 12)))) (intS (oneA (vT (nx tund s.tmps 13)))) (intS (oneA (vT (nx tund s.tmps 21)))) (intS (oneA (vT (nx tund s.tmps 22)))) (mpB (nx .dead s.blks 1)) (intS (nx .und (cellsB (nx .dead s.blks 2)) 0)) (intS (nx .und (cellsB (nx .dead s.blks 2)) 1)) (intS (nx .und (cellsB (nx .dead s.blks 3)) 0)) (intS (nx .und (cellsB (nx .dead s.blks 3)) 1)) (rLists (rowB_ (nx .dead s.blks 4)))) (none))
def LS107_2 (N : Nat) : LSpec β := VLS107_2 (zj149 N) (zj153 N) N
def VE107 (N : Nat) : Env β := ⟨[(171, VS171 zq137 N), (172, VS172 zq143 N), (100, VS100 zq103 N), (173, VS173 zq144 N), (174, VS174 zq145 N)], [], [(0, VLS107_0 zq151 zq155 N), (2, VLS107_2 zq149 zq153 N)], [(108, VS108 zq146 N), (109, VS109 zq147 N)], ⟨[], [], [157], [222]⟩⟩
def E107 (N : Nat) : Env β := VE107 (zj103 N) (zj137 N) (zj143 N) (zj144 N) (zj145 N) (zj146 N) (zj147 N) (zj149 N) (zj151 N) (zj153 N) (zj155 N) N
theorem vst107_0_0 (N : Nat) (v0 : Int) (v1 : Int) (v2 : Int) (v3 : Int) (v4 : Int) (v5 : Int) (v6 : List (List Int)) (rec_ : St → O β) (K : Exit → St → O β) :
    stB lay (VE107 zq103 zq137 zq143 zq144 zq145 zq146 zq147 zq149 zq151 zq153 zq155 N) Tryz.f107 0 (h107_0_0 v0 v1 v2 v3 v4 v5 v6) rec_ K = zb150 zq103 zq143 zq149 N v0 v1 v2 v3 v4 v5 v6 (fun v0 v1 v2 v3 v4 v5 v6 => rec_ (h107_0_0 v0 v1 v2 v3 v4 v5 v6)) (fun y0 y1 => K (.exit 0) (x107_0_0_k0 y0 y1)) := by kernel_rfl
theorem ro107_0_0 (N : Nat) (K : Exit → St → O β) : ∀ (F : Nat) (v0 : Int) (v1 : Int) (v2 : Int) (v3 : Int) (v4 : Int) (v5 : Int) (v6 : List (List Int)), (lp Tryz.f107 0).rounds lay (E107 N) (retMask Tryz.f107) F (h107_0_0 v0 v1 v2 v3 v4 v5 v6) K = zj151 N F v0 v1 v2 v3 v4 v5 v6 (fun y0 y1 => K (.exit 0) (x107_0_0_k0 y0 y1)) := by
  intro F
  induction F with
  | zero => intros; rfl
  | succ F ih =>
    intros
    rw [rounds_next]
    refine (vst107_0_0 (zj103 N) (zj137 N) (zj143 N) (zj144 N) (zj145 N) (zj146 N) (zj147 N) (zj149 N) (zj151 N) (zj153 N) (zj155 N) N _ _ _ _ _ _ _ (fun s => (lp Tryz.f107 0).rounds lay (E107 N) (retMask Tryz.f107) F s K) K).trans ?_
    simp only [ih]
    rfl
theorem vst107_2_0 (N : Nat) (v0 : Int) (v1 : Int) (v2 : Mp) (v3 : Int) (v4 : Int) (v5 : List (List Int)) (rec_ : St → O β) (K : Exit → St → O β) :
    stB lay (VE107 zq103 zq137 zq143 zq144 zq145 zq146 zq147 zq149 zq151 zq153 zq155 N) Tryz.f107 0 (h107_2_0 v0 v1 v2 v3 v4 v5) rec_ K = zb154 zq103 zq143 zq153 N v0 v1 v2 v3 v4 v5 (fun v0 v1 v2 v3 v4 v5 => rec_ (h107_2_0 v0 v1 v2 v3 v4 v5)) (fun y0 => K (.exit 0) (x107_2_0_k0 y0)) := by kernel_rfl
theorem ro107_2_0 (N : Nat) (K : Exit → St → O β) : ∀ (F : Nat) (v0 : Int) (v1 : Int) (v2 : Mp) (v3 : Int) (v4 : Int) (v5 : List (List Int)), (lp Tryz.f107 0).rounds lay (E107 N) (retMask Tryz.f107) F (h107_2_0 v0 v1 v2 v3 v4 v5) K = zj155 N F v0 v1 v2 v3 v4 v5 (fun y0 => K (.exit 0) (x107_2_0_k0 y0)) := by
  intro F
  induction F with
  | zero => intros; rfl
  | succ F ih =>
    intros
    rw [rounds_next]
    refine (vst107_2_0 (zj103 N) (zj137 N) (zj143 N) (zj144 N) (zj145 N) (zj146 N) (zj147 N) (zj149 N) (zj151 N) (zj153 N) (zj155 N) N _ _ _ _ _ _ (fun s => (lp Tryz.f107 0).rounds lay (E107 N) (retMask Tryz.f107) F s K) K).trans ?_
    simp only [ih]
    rfl
theorem lk107_0 (N : Nat) : lookL (E107 (β := β) N).loops (lp Tryz.f107 0).id = LS107_0 N := by kernel_rfl
theorem rk107_0 (N : Nat) : RoundsOK lay (E107 (β := β) N) (retMask Tryz.f107) (lp Tryz.f107 0) := by
  intro s K r h
  rw [lk107_0] at h
  unfold LS107_0 VLS107_0 at h
  cases hb : shpSt (h107_0_0 0 0 0 0 0 0 []) s with
  | true =>
    rw [hb, cond_true] at h
    exact ⟨N, by rw [← shpSt_ref hb, fl107_0_0 s]; unfold p107_0_0 at h ⊢; exact (ro107_0_0 N K N _ _ _ _ _ _ _).trans h⟩
  | false =>
  rw [hb, cond_false] at h
  clear hb
  cases hb : shpSt (h107_2_0 0 0 [] 0 0 []) s with
  | true =>
    rw [hb, cond_true] at h
    exact ⟨N, by rw [← shpSt_ref hb, fl107_2_0 s]; exact (ro107_2_0 N K N (intS (oneA (vT (nx tund s.tmps 12)))) (intS (oneA (vT (nx tund s.tmps 13)))) (mpB (nx .dead s.blks 1)) (intS (nx .und (cellsB (nx .dead s.blks 2)) 0)) (intS (nx .und (cellsB (nx .dead s.blks 2)) 1)) (rLists (rowB_ (nx .dead s.blks 3)))).trans h⟩
  | false =>
  rw [hb, cond_false] at h
  clear hb
  cases h
theorem vst107_1_0 (N : Nat) (v0 : Int) (v1 : Int) (v2 : Int) (v3 : Int) (v4 : Int) (v5 : Int) (v6 : Int) (v7 : Int) (v8 : Int) (v9 : Int) (v10 : List (List Int)) (rec_ : St → O β) (K : Exit → St → O β) :
    stB lay (VE107 zq103 zq137 zq143 zq144 zq145 zq146 zq147 zq149 zq151 zq153 zq155 N) Tryz.f107 1 (h107_1_0 v0 v1 v2 v3 v4 v5 v6 v7 v8 v9 v10) rec_ K = zb148 zq144 zq145 zq146 N v0 v1 v2 v3 v4 v5 v6 v7 v8 v9 v10 (fun v0 v1 v2 v3 v4 v5 v6 v7 v8 v9 v10 => rec_ (h107_1_0 v0 v1 v2 v3 v4 v5 v6 v7 v8 v9 v10)) (fun y0 y1 y2 y3 y4 y5 y6 => K (.exit 2) (x107_1_0_k0 y0 y1 y2 y3 y4 y5 y6)) := by kernel_rfl
theorem ro107_1_0 (N : Nat) (K : Exit → St → O β) : ∀ (F : Nat) (v0 : Int) (v1 : Int) (v2 : Int) (v3 : Int) (v4 : Int) (v5 : Int) (v6 : Int) (v7 : Int) (v8 : Int) (v9 : Int) (v10 : List (List Int)), (lp Tryz.f107 1).rounds lay (E107 N) (retMask Tryz.f107) F (h107_1_0 v0 v1 v2 v3 v4 v5 v6 v7 v8 v9 v10) K = zj149 N F v0 v1 v2 v3 v4 v5 v6 v7 v8 v9 v10 (fun y0 y1 y2 y3 y4 y5 y6 => K (.exit 2) (x107_1_0_k0 y0 y1 y2 y3 y4 y5 y6)) := by
  intro F
  induction F with
  | zero => intros; rfl
  | succ F ih =>
    intros
    rw [rounds_next]
    refine (vst107_1_0 (zj103 N) (zj137 N) (zj143 N) (zj144 N) (zj145 N) (zj146 N) (zj147 N) (zj149 N) (zj151 N) (zj153 N) (zj155 N) N _ _ _ _ _ _ _ _ _ _ _ (fun s => (lp Tryz.f107 1).rounds lay (E107 N) (retMask Tryz.f107) F s K) K).trans ?_
    simp only [ih]
    rfl
theorem vst107_3_0 (N : Nat) (v0 : Int) (v1 : Int) (v2 : Int) (v3 : Int) (v4 : Mp) (v5 : Int) (v6 : Int) (v7 : Int) (v8 : Int) (v9 : List (List Int)) (rec_ : St → O β) (K : Exit → St → O β) :
    stB lay (VE107 zq103 zq137 zq143 zq144 zq145 zq146 zq147 zq149 zq151 zq153 zq155 N) Tryz.f107 1 (h107_3_0 v0 v1 v2 v3 v4 v5 v6 v7 v8 v9) rec_ K = zb152 zq144 zq145 zq147 N v0 v1 v2 v3 v4 v5 v6 v7 v8 v9 (fun v0 v1 v2 v3 v4 v5 v6 v7 v8 v9 => rec_ (h107_3_0 v0 v1 v2 v3 v4 v5 v6 v7 v8 v9)) (fun y0 y1 y2 y3 y4 y5 => K (.exit 2) (x107_3_0_k0 y0 y1 y2 y3 y4 y5)) := by kernel_rfl
theorem ro107_3_0 (N : Nat) (K : Exit → St → O β) : ∀ (F : Nat) (v0 : Int) (v1 : Int) (v2 : Int) (v3 : Int) (v4 : Mp) (v5 : Int) (v6 : Int) (v7 : Int) (v8 : Int) (v9 : List (List Int)), (lp Tryz.f107 1).rounds lay (E107 N) (retMask Tryz.f107) F (h107_3_0 v0 v1 v2 v3 v4 v5 v6 v7 v8 v9) K = zj153 N F v0 v1 v2 v3 v4 v5 v6 v7 v8 v9 (fun y0 y1 y2 y3 y4 y5 => K (.exit 2) (x107_3_0_k0 y0 y1 y2 y3 y4 y5)) := by
  intro F
  induction F with
  | zero => intros; rfl
  | succ F ih =>
    intros
    rw [rounds_next]
    refine (vst107_3_0 (zj103 N) (zj137 N) (zj143 N) (zj144 N) (zj145 N) (zj146 N) (zj147 N) (zj149 N) (zj151 N) (zj153 N) (zj155 N) N _ _ _ _ _ _ _ _ _ _ (fun s => (lp Tryz.f107 1).rounds lay (E107 N) (retMask Tryz.f107) F s K) K).trans ?_
    simp only [ih]
    rfl
theorem lk107_2 (N : Nat) : lookL (E107 (β := β) N).loops (lp Tryz.f107 1).id = LS107_2 N := by kernel_rfl
theorem rk107_2 (N : Nat) : RoundsOK lay (E107 (β := β) N) (retMask Tryz.f107) (lp Tryz.f107 1) := by
  intro s K r h
  rw [lk107_2] at h
  unfold LS107_2 VLS107_2 at h
  cases hb : shpSt (h107_1_0 0 0 0 0 0 0 0 0 0 0 []) s with
  | true =>
    rw [hb, cond_true] at h
    exact ⟨N, by rw [← shpSt_ref hb, fl107_1_0 s]; exact (ro107_1_0 N K N (intS (oneA (vT (nx tund s.tmps 12)))) (intS (oneA (vT (nx tund s.tmps 13)))) (intS (oneA (vT (nx tund s.tmps 21)))) (intS (oneA (vT (nx tund s.tmps 22)))) (intS (nx .und (cellsB (nx .dead s.blks 0)) 0)) (intS (nx .und (cellsB (nx .dead s.blks 0)) 1)) (intS (nx .und (cellsB (nx .dead s.blks 1)) 0)) (intS (nx .und (cellsB (nx .dead s.blks 1)) 1)) (intS (nx .und (cellsB (nx .dead s.blks 2)) 0)) (intS (nx .und (cellsB (nx .dead s.blks 2)) 1)) (rLists (rowB_ (nx .dead s.blks 3)))).trans h⟩
  | false =>
  rw [hb, cond_false] at h
  clear hb
  cases hb : shpSt (h107_3_0 0 0 0 0 [] 0 0 0 0 []) s with
  | true =>
    rw [hb, cond_true] at h
    exact ⟨N, by rw [← shpSt_ref hb, fl107_3_0 s]; exact (ro107_3_0 N K N (intS (oneA (vT (nx tund s.tmps 12)))) (intS (oneA (vT (nx tund s.tmps 13)))) (intS (oneA (vT (nx tund s.tmps 21)))) (intS (oneA (vT (nx tund s.tmps 22)))) (mpB (nx .dead s.blks 1)) (intS (nx .und (cellsB (nx .dead s.blks 2)) 0)) (intS (nx .und (cellsB (nx .dead s.blks 2)) 1)) (intS (nx .und (cellsB (nx .dead s.blks 3)) 0)) (intS (nx .und (cellsB (nx .dead s.blks 3)) 1)) (rLists (rowB_ (nx .dead s.blks 4)))).trans h⟩
  | false =>
  rw [hb, cond_false] at h
  clear hb
  cases h
theorem ve107_0 (N : Nat) (a0 : Int) (a1 : Int) (a2 : Int) (a3 : Int) (K : TV → List Blk → O β) : evFnG lay (VE107 zq103 zq137 zq143 zq144 zq145 zq146 zq147 zq149 zq151 zq153 zq155 N) Tryz.f107 [.v (.agg [.int .i64 a0, .int .i64 a1]), .v (.one (.fn 108 [(0, 0)]))] [.pcells 0 25 [.int .i64 a2, .int .i64 a3]] K = zb156 zq137 zq151 N a0 a1 a2 a3 (fun y0 y1 => K (.tup []) [.pcells 0 25 [.int .i64 y0, .int .i64 y1]]) := by kernel_rfl
theorem ve107_1 (N : Nat) (a0 : Int) (a1 : Int) (a2 : Mp) (K : TV → List Blk → O β) : evFnG lay (VE107 zq103 zq137 zq143 zq144 zq145 zq146 zq147 zq149 zq151 zq153 zq155 N) Tryz.f107 [.v (.agg [.int .i64 a0, .int .i64 a1]), .v (.one (.fn 109 [(0, 0)]))] [.pcells 0 84 [.mp 1], .pmp 1 ⟨false, true⟩ a2] K = zb157 zq137 zq155 N a0 a1 a2 (fun y0 => K (.tup []) [.pcells 0 84 [.mp 1], .pmp 1 ⟨false, true⟩ y0]) := by kernel_rfl
theorem o107 (N : Nat) : GOK (β := β) inv Tryz.prog 107 (S107 N) := by
  refine g_of lay_ok mixed (E := E107 N) (specs_loops (specs_cons (o171 N) (specs_cons (o172 N) (specs_cons (o100 N) (specs_cons (o173 N) (specs_cons (o174 N) specs_nil)))))) muts_nil (gs_cons (o108 N) (gs_cons (o109 N) gs_nil)) Tryz.func107 (by kernel_rfl) 2 (by kernel_rfl) ⟨⟨trivial, rk107_0 N⟩, rk107_2 N⟩ fun args bl K r h => ?_
  unfold S107 VS107 at h
  split at h
  · exact (ve107_0 (zj103 N) (zj137 N) (zj143 N) (zj144 N) (zj145 N) (zj146 N) (zj147 N) (zj149 N) (zj151 N) (zj153 N) (zj155 N) N _ _ _ _ _).trans h
  · exact (ve107_1 (zj103 N) (zj137 N) (zj143 N) (zj144 N) (zj145 N) (zj146 N) (zj147 N) (zj149 N) (zj151 N) (zj153 N) (zj155 N) N _ _ _ _).trans h
  · cases h
def VS46 (N : Nat) : Rv.Spec β := fun args K => match args with
  | [.v (.agg [.int .i64 a0, .int .i64 a1])] => zq158 a0 a1 (fun z2 z3 => K (.v (.agg [.int .i64 z2, .int .i64 z3])))
  | _ => none
def S46 (N : Nat) : Rv.Spec β := VS46 (zj158 N) N
def VE46 (N : Nat) : Env β := ⟨[], [], [], [(107, VS107 zq156 zq157 N)], ⟨[], [], [157], [222]⟩⟩
def E46 (N : Nat) : Env β := VE46 (zj156 N) (zj157 N) N
theorem ve46_0 (N : Nat) (a0 : Int) (a1 : Int) (K : TV → O β) : evFn lay (VE46 zq156 zq157 N) Tryz.f46 [.v (.agg [.int .i64 a0, .int .i64 a1])] K = zb158 zq156 N a0 a1 (fun z2 z3 => K (.v (.agg [.int .i64 z2, .int .i64 z3]))) := by kernel_rfl
theorem o46 (N : Nat) : SpecOK (β := β) inv Tryz.prog 46 (S46 N) := by
  refine spec_of lay_ok mixed (E := E46 N) (specs_loops specs_nil) muts_nil (gs_cons (o107 N) gs_nil) Tryz.func46 (by kernel_rfl) 0 (by kernel_rfl) trivial fun args K r h => ?_
  unfold S46 VS46 at h
  split at h
  · exact (ve46_0 (zj156 N) (zj157 N) N _ _ _).trans h
  · cases h
def VS47 (N : Nat) : Rv.Spec β := fun args K => match args with
  | [.v (.agg [.int .i64 a0, .int .i64 a1])] => zq159 a0 a1 (fun z2 => K (.v (.one (.int .i64 z2))))
  | _ => none
def S47 (N : Nat) : Rv.Spec β := VS47 (zj159 N) N
def VE47 (N : Nat) : Env β := ⟨[(45, VS45 zq131 N)], [], [], [(107, VS107 zq156 zq157 N)], ⟨[], [], [157], [222]⟩⟩
def E47 (N : Nat) : Env β := VE47 (zj131 N) (zj156 N) (zj157 N) N
theorem ve47_0 (N : Nat) (a0 : Int) (a1 : Int) (K : TV → O β) : evFn lay (VE47 zq131 zq156 zq157 N) Tryz.f47 [.v (.agg [.int .i64 a0, .int .i64 a1])] K = zb159 zq131 zq157 N a0 a1 (fun z2 => K (.v (.one (.int .i64 z2)))) := by kernel_rfl
theorem o47 (N : Nat) : SpecOK (β := β) inv Tryz.prog 47 (S47 N) := by
  refine spec_of lay_ok mixed (E := E47 N) (specs_loops (specs_cons (o45 N) specs_nil)) muts_nil (gs_cons (o107 N) gs_nil) Tryz.func47 (by kernel_rfl) 0 (by kernel_rfl) trivial fun args K r h => ?_
  unfold S47 VS47 at h
  split at h
  · exact (ve47_0 (zj131 N) (zj156 N) (zj157 N) N _ _ _).trans h
  · cases h
def VS110 (N : Nat) : Rv.Spec β := fun args K => match args with
  | [.v (.agg [.int .i64 a0, .int .i64 a1])] => zq162 a0 a1 (fun z2 => K (.v (.one (.bool z2))))
  | _ => none
def S110 (N : Nat) : Rv.Spec β := VS110 (zj162 N) N
def h110_0_0 (v0 : Int) (v1 : Int) (v2 : Int) (v3 : Int) : St := ⟨tund :: .v (.one (.ptr 0 0)) :: tn 3 (.v (.one (.int .i64 v0)) :: .v (.one (.int .i64 v1)) :: tn 13 []), [.cells 25 [.int .i64 v2, .int .i64 v3]]⟩
def x110_0_0_k0 (y0 : Bool) : St := ⟨tund :: tund :: .v (.one (.bool y0)) :: tn 17 [], []⟩
def x110_0_0_k1 : St := ⟨tn 20 [], []⟩
def p110_0_0 {γ : Type} (f : Int → Int → Int → Int → γ) (s : St) : γ := f (intS (oneA (vT (nx tund s.tmps 5)))) (intS (oneA (vT (nx tund s.tmps 6)))) (intS (nx .und (cellsB (nx .dead s.blks 0)) 0)) (intS (nx .und (cellsB (nx .dead s.blks 0)) 1))
theorem fl110_0_0 (s : St) : refSt (h110_0_0 0 0 0 0) s = p110_0_0 h110_0_0 s := by kernel_rfl
def VLS110_0 (N : Nat) : LSpec β := fun s K => cond (shpSt (h110_0_0 0 0 0 0) s) (p110_0_0 (fun v0 v1 v2 v3 => zq161 N v0 v1 v2 v3 (fun y0 => K .ret (x110_0_0_k0 y0)) (K (.exit 0) (x110_0_0_k1 ))) s) (none)
def LS110_0 (N : Nat) : LSpec β := VLS110_0 (zj161 N) N
def VE110 (N : Nat) : Env β := ⟨[(102, VS102 zq115 N)], [], [(0, VLS110_0 zq161 N)], [], ⟨[], [], [157], [222]⟩⟩
def E110 (N : Nat) : Env β := VE110 (zj115 N) (zj161 N) N
theorem vst110_0_0 (N : Nat) (v0 : Int) (v1 : Int) (v2 : Int) (v3 : Int) (rec_ : St → O β) (K : Exit → St → O β) :
    stB lay (VE110 zq115 zq161 N) Tryz.f110 0 (h110_0_0 v0 v1 v2 v3) rec_ K = zb160 zq115 N v0 v1 v2 v3 (fun v0 v1 v2 v3 => rec_ (h110_0_0 v0 v1 v2 v3)) (fun y0 => K .ret (x110_0_0_k0 y0)) (K (.exit 0) (x110_0_0_k1 )) := by kernel_rfl
theorem ro110_0_0 (N : Nat) (K : Exit → St → O β) : ∀ (F : Nat) (v0 : Int) (v1 : Int) (v2 : Int) (v3 : Int), (lp Tryz.f110 0).rounds lay (E110 N) (retMask Tryz.f110) F (h110_0_0 v0 v1 v2 v3) K = zj161 N F v0 v1 v2 v3 (fun y0 => K .ret (x110_0_0_k0 y0)) (K (.exit 0) (x110_0_0_k1 )) := by
  intro F
  induction F with
  | zero => intros; rfl
  | succ F ih =>
    intros
    rw [rounds_next]
    refine (vst110_0_0 (zj115 N) (zj161 N) N _ _ _ _ (fun s => (lp Tryz.f110 0).rounds lay (E110 N) (retMask Tryz.f110) F s K) K).trans ?_
    simp only [ih]
    rfl
theorem lk110_0 (N : Nat) : lookL (E110 (β := β) N).loops (lp Tryz.f110 0).id = LS110_0 N := by kernel_rfl
theorem rk110_0 (N : Nat) : RoundsOK lay (E110 (β := β) N) (retMask Tryz.f110) (lp Tryz.f110 0) := by
  intro s K r h
  rw [lk110_0] at h
  unfold LS110_0 VLS110_0 at h
  cases hb : shpSt (h110_0_0 0 0 0 0) s with
  | true =>
    rw [hb, cond_true] at h
    exact ⟨N, by rw [← shpSt_ref hb, fl110_0_0 s]; unfold p110_0_0 at h ⊢; exact (ro110_0_0 N K N _ _ _ _).trans h⟩
  | false =>
  rw [hb, cond_false] at h
  clear hb
  cases h
theorem ve110_0 (N : Nat) (a0 : Int) (a1 : Int) (K : TV → O β) : evFn lay (VE110 zq115 zq161 N) Tryz.f110 [.v (.agg [.int .i64 a0, .int .i64 a1])] K = zb162 zq161 N a0 a1 (fun z2 => K (.v (.one (.bool z2)))) := by kernel_rfl
theorem o110 (N : Nat) : SpecOK (β := β) inv Tryz.prog 110 (S110 N) := by
  refine spec_of lay_ok mixed (E := E110 N) (specs_loops (specs_cons (o102 N) specs_nil)) muts_nil gs_nil Tryz.func110 (by kernel_rfl) 1 (by kernel_rfl) ⟨trivial, rk110_0 N⟩ fun args K r h => ?_
  unfold S110 VS110 at h
  split at h
  · exact (ve110_0 (zj115 N) (zj161 N) N _ _ _).trans h
  · cases h
def VS49 (N : Nat) : Rv.Spec β := fun args K => match args with
  | [.v (.agg [.int .i64 a0, .int .i64 a1])] => zq163 a0 a1 (fun z2 => K (.v (.one (.bool z2))))
  | _ => none
def S49 (N : Nat) : Rv.Spec β := VS49 (zj163 N) N
def VE49 (N : Nat) : Env β := ⟨[(37, VS37 zq104 N), (110, VS110 zq162 N)], [], [], [], ⟨[], [], [157], [222]⟩⟩
def E49 (N : Nat) : Env β := VE49 (zj104 N) (zj162 N) N
theorem ve49_0 (N : Nat) (a0 : Int) (a1 : Int) (K : TV → O β) : evFn lay (VE49 zq104 zq162 N) Tryz.f49 [.v (.agg [.int .i64 a0, .int .i64 a1])] K = zb163 zq104 zq162 N a0 a1 (fun z2 => K (.v (.one (.bool z2)))) := by kernel_rfl
theorem o49 (N : Nat) : SpecOK (β := β) inv Tryz.prog 49 (S49 N) := by
  refine spec_of lay_ok mixed (E := E49 N) (specs_loops (specs_cons (o37 N) (specs_cons (o110 N) specs_nil))) muts_nil gs_nil Tryz.func49 (by kernel_rfl) 0 (by kernel_rfl) trivial fun args K r h => ?_
  unfold S49 VS49 at h
  split at h
  · exact (ve49_0 (zj104 N) (zj162 N) N _ _ _).trans h
  · cases h
end Go.Proofs.YtemihnclhcobnaaGreatDoor
