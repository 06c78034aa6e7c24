/- The functions that the claims reach answer as their texts do. -/
import Derived.Test.YtemihnclhcobnaaGreatDoorE0
namespace Go.Proofs.YtemihnclhcobnaaGreatDoor
open Go.Rv
set_option maxRecDepth 100000
set_option maxHeartbeats 2000000
set_option linter.unusedVariables false
variable {β : Type}
variable (zq19 : Y12 β) (zq24 : Y17 β) (zq25 : Y16 β) (zq27 : Y20 β) (zq29 : Y19 β) (zq31 : Y18 β) (zq34 : Y23 β) (zq36 : Y22 β) (zq37 : Y21 β) (zq39 : Y25 β) (zq40 : Y24 β) (zq41 : Y10 β)
def VS25 (N : Nat) : Rv.Spec β := fun args K => match args with
  | [.v (.one (.sl 3 (.ints .i64 a0)))] => zq25 a0 (fun z1 => K (.v (.one (.str z1))))
  | _ => none
def S25 (N : Nat) : Rv.Spec β := VS25 (zj25 N) N
def h25_0_0 (v0 : List Int) (v1 : ByteArray) (v2 : Int) : St := ⟨.v (.one (.sl 3 (.ints .i64 v0))) :: tund :: tund :: .v (.one (.str v1)) :: .v (.one (.int .i64 v2)) :: tn 20 [], []⟩
def x25_0_0_k0 (y0 : ByteArray) : St := ⟨tn 3 (.v (.one (.str y0)) :: tn 21 []), []⟩
def p25_0_0 {γ : Type} (f : List Int → ByteArray → Int → γ) (s : St) : γ := f (rInts (rowV (oneA (vT (nx tund s.tmps 0))))) (strS (oneA (vT (nx tund s.tmps 3)))) (intS (oneA (vT (nx tund s.tmps 4))))
theorem fl25_0_0 (s : St) : refSt (h25_0_0 [] ByteArray.empty 0) s = p25_0_0 h25_0_0 s := by kernel_rfl
def VLS25_0 (N : Nat) : LSpec β := fun s K => cond (shpSt (h25_0_0 [] ByteArray.empty 0) s) (p25_0_0 (fun v0 v1 v2 => zq24 N v0 v1 v2 (fun y0 => K (.exit 0) (x25_0_0_k0 y0))) s) (none)
def LS25_0 (N : Nat) : LSpec β := VLS25_0 (zj24 N) N
def VE25 (N : Nat) : Env β := ⟨[(23, VS23 zq19 N)], [], [(0, VLS25_0 zq24 N)], [], ⟨[], [], [157], [222]⟩⟩
def E25 (N : Nat) : Env β := VE25 (zj19 N) (zj24 N) N
theorem vst25_0_0 (N : Nat) (v0 : List Int) (v1 : ByteArray) (v2 : Int) (rec_ : St → O β) (K : Exit → St → O β) :
    stB lay (VE25 zq19 zq24 N) Tryz.f25 0 (h25_0_0 v0 v1 v2) rec_ K = zb23 zq19 N v0 v1 v2 (fun v0 v1 v2 => rec_ (h25_0_0 v0 v1 v2)) (fun y0 => K (.exit 0) (x25_0_0_k0 y0)) := by kernel_rfl
theorem ro25_0_0 (N : Nat) (K : Exit → St → O β) : ∀ (F : Nat) (v0 : List Int) (v1 : ByteArray) (v2 : Int), (lp Tryz.f25 0).rounds lay (E25 N) (retMask Tryz.f25) F (h25_0_0 v0 v1 v2) K = zj24 N F v0 v1 v2 (fun y0 => K (.exit 0) (x25_0_0_k0 y0)) := by
  intro F
  induction F with
  | zero => intros; rfl
  | succ F ih =>
    intros
    rw [rounds_next]
    refine (vst25_0_0 (zj19 N) (zj24 N) N _ _ _ (fun s => (lp Tryz.f25 0).rounds lay (E25 N) (retMask Tryz.f25) F s K) K).trans ?_
    simp only [ih]
    rfl
theorem lk25_0 (N : Nat) : lookL (E25 (β := β) N).loops (lp Tryz.f25 0).id = LS25_0 N := by kernel_rfl
theorem rk25_0 (N : Nat) : RoundsOK lay (E25 (β := β) N) (retMask Tryz.f25) (lp Tryz.f25 0) := by
  intro s K r h
  rw [lk25_0] at h
  unfold LS25_0 VLS25_0 at h
  cases hb : shpSt (h25_0_0 [] ByteArray.empty 0) s with
  | true =>
    rw [hb, cond_true] at h
    exact ⟨N, by rw [← shpSt_ref hb, fl25_0_0 s]; unfold p25_0_0 at h ⊢; exact (ro25_0_0 N K N _ _ _).trans h⟩
  | false =>
  rw [hb, cond_false] at h
  clear hb
  cases h
theorem ve25_0 (N : Nat) (a0 : List Int) (K : TV → O β) : evFn lay (VE25 zq19 zq24 N) Tryz.f25 [.v (.one (.sl 3 (.ints .i64 a0)))] K = zb25 zq24 N a0 (fun z1 => K (.v (.one (.str z1)))) := by kernel_rfl
theorem o25 (N : Nat) : SpecOK (β := β) inv Tryz.prog 25 (S25 N) := by
  refine spec_of lay_ok mixed (E := E25 N) (specs_loops (specs_cons (o23 N) specs_nil)) muts_nil gs_nil Tryz.func25 (by kernel_rfl) 1 (by kernel_rfl) ⟨trivial, rk25_0 N⟩ fun args K r h => ?_
  unfold S25 VS25 at h
  split at h
  · exact (ve25_0 (zj19 N) (zj24 N) N _ _).trans h
  · cases h
def VSF157 (N : Nat) (G : Nat) : Rv.Spec β := fun args K => match args with
  | [.v (.one (.int .i64 a0)), .v (.one (.fsl 3 (.ints .i64 a1)))] => zq31 G a0 a1 (fun z2 => K (.v (.one (.sl 40 (.lists 3 z2)))))
  | _ => none
def SF157 (N : Nat) (G : Nat) : Rv.Spec β := VSF157 (zj31 N) N G
def VS157 (N : Nat) : Rv.Spec β := VSF157 zq31 N N
def S157 (N : Nat) : Rv.Spec β := SF157 N N
def h157_0_0 (v0 : Int) (v1 : List Int) (v2 : Int) (v3 : List (List Int)) : St := ⟨.v (.one (.int .i64 v0)) :: .v (.one (.fsl 3 (.ints .i64 v1))) :: tn 3 (.v (.one (.row 0)) :: .v (.one (.int .i64 v2)) :: tn 42 []), [.row 40 (.lists 3 v3)]⟩
def x157_0_0_k0 (y0 : List (List Int)) : St := ⟨tn 5 (.v (.one (.row 0)) :: tn 43 []), [.row 40 (.lists 3 y0)]⟩
def h157_1_0 (v0 : Int) (v1 : List Int) (v2 : Int) (v3 : Bool) (v4 : Int) (v5 : List (List Int)) : St := ⟨.v (.one (.int .i64 v0)) :: .v (.one (.fsl 3 (.ints .i64 v1))) :: tn 3 (.v (.one (.row 0)) :: .v (.one (.int .i64 v2)) :: .v (.one (.bool v3)) :: .v (.one (.int .i64 v4)) :: tn 40 []), [.row 40 (.lists 3 v5)]⟩
def x157_1_0_k0 (y0 : Int) (y1 : List Int) (y2 : Int) (y3 : Bool) (y4 : List (List Int)) : St := ⟨.v (.one (.int .i64 y0)) :: .v (.one (.fsl 3 (.ints .i64 y1))) :: tn 3 (.v (.one (.row 0)) :: .v (.one (.int .i64 y2)) :: .v (.one (.bool y3)) :: tn 41 []), [.row 40 (.lists 3 y4)]⟩
def p157_0_0 {γ : Type} (f : Int → List Int → Int → List (List Int) → γ) (s : St) : γ := f (intS (oneA (vT (nx tund s.tmps 0)))) (rInts (rowV (oneA (vT (nx tund s.tmps 1))))) (intS (oneA (vT (nx tund s.tmps 6)))) (rLists (rowB_ (nx .dead s.blks 0)))
theorem fl157_0_0 (s : St) : refSt (h157_0_0 0 [] 0 []) s = p157_0_0 h157_0_0 s := by kernel_rfl
def VLS157_0 (N : Nat) (G : Nat) : LSpec β := fun s K => cond (shpSt (h157_0_0 0 [] 0 []) s) (p157_0_0 (fun v0 v1 v2 v3 => zq29 (zq31 G) N v0 v1 v2 v3 (fun y0 => K (.exit 0) (x157_0_0_k0 y0))) s) (none)
def LS157_0 (N : Nat) (G : Nat) : LSpec β := VLS157_0 (zj29 N) (zj31 N) N G
def p157_1_0 {γ : Type} (f : Int → List Int → Int → Bool → Int → List (List Int) → γ) (s : St) : γ := f (intS (oneA (vT (nx tund s.tmps 0)))) (rInts (rowV (oneA (vT (nx tund s.tmps 1))))) (intS (oneA (vT (nx tund s.tmps 6)))) (boolS (oneA (vT (nx tund s.tmps 7)))) (intS (oneA (vT (nx tund s.tmps 8)))) (rLists (rowB_ (nx .dead s.blks 0)))
theorem fl157_1_0 (s : St) : refSt (h157_1_0 0 [] 0 false 0 []) s = p157_1_0 h157_1_0 s := by kernel_rfl
def VLS157_2 (N : Nat) (G : Nat) : LSpec β := fun s K => cond (shpSt (h157_1_0 0 [] 0 false 0 []) s) ((fun (v0 : Int) (v1 : List Int) (v2 : Int) (v3 : Bool) (v4 : Int) (v5 : List (List Int)) => zq27 N v0 v1 v2 v3 v4 v5 (fun y0 y1 y2 y3 y4 => K (.exit 2) (x157_1_0_k0 y0 y1 y2 y3 y4))) (intS (oneA (vT (nx tund s.tmps 0)))) (rInts (rowV (oneA (vT (nx tund s.tmps 1))))) (intS (oneA (vT (nx tund s.tmps 6)))) (boolS (oneA (vT (nx tund s.tmps 7)))) (intS (oneA (vT (nx tund s.tmps 8)))) (rLists (rowB_ (nx .dead s.blks 0)))) (none)
def LS157_2 (N : Nat) (G : Nat) : LSpec β := VLS157_2 (zj27 N) N G
def VE157 (N : Nat) (G : Nat) : Env β := ⟨[(157, VSF157 zq31 N G)], [], [(0, VLS157_0 zq29 zq31 N G), (2, VLS157_2 zq27 N G)], [], ⟨[], [], [157], [222]⟩⟩
def E157 (N : Nat) (G : Nat) : Env β := VE157 (zj27 N) (zj29 N) (zj31 N) N G
theorem vst157_0_0 (N : Nat) (G : Nat) (v0 : Int) (v1 : List Int) (v2 : Int) (v3 : List (List Int)) (rec_ : St → O β) (K : Exit → St → O β) :
    stB lay (VE157 zq27 zq29 zq31 N G) Tryz.f157 0 (h157_0_0 v0 v1 v2 v3) rec_ K = zb28 zq27 N (zq31 G) v0 v1 v2 v3 (fun v0 v1 v2 v3 => rec_ (h157_0_0 v0 v1 v2 v3)) (fun y0 => K (.exit 0) (x157_0_0_k0 y0)) := by kernel_rfl
theorem ro157_0_0 (N : Nat) (G : Nat) (K : Exit → St → O β) : ∀ (F : Nat) (v0 : Int) (v1 : List Int) (v2 : Int) (v3 : List (List Int)), (lp Tryz.f157 0).rounds lay (E157 N G) (retMask Tryz.f157) F (h157_0_0 v0 v1 v2 v3) K = zj29 N (zj31 N G) F v0 v1 v2 v3 (fun y0 => K (.exit 0) (x157_0_0_k0 y0)) := by
  intro F
  induction F with
  | zero => intros; rfl
  | succ F ih =>
    intros
    rw [rounds_next]
    refine (vst157_0_0 (zj27 N) (zj29 N) (zj31 N) N G _ _ _ _ (fun s => (lp Tryz.f157 0).rounds lay (E157 N G) (retMask Tryz.f157) F s K) K).trans ?_
    simp only [ih]
    rfl
theorem lk157_0 (N : Nat) (G : Nat) : lookL (E157 (β := β) N G).loops (lp Tryz.f157 0).id = LS157_0 N G := by kernel_rfl
theorem rk157_0 (N : Nat) (G : Nat) : RoundsOK lay (E157 (β := β) N G) (retMask Tryz.f157) (lp Tryz.f157 0) := by
  intro s K r h
  rw [lk157_0] at h
  unfold LS157_0 VLS157_0 at h
  cases hb : shpSt (h157_0_0 0 [] 0 []) s with
  | true =>
    rw [hb, cond_true] at h
    exact ⟨N, by rw [← shpSt_ref hb, fl157_0_0 s]; unfold p157_0_0 at h ⊢; exact (ro157_0_0 N _ K N _ _ _ _).trans h⟩
  | false =>
  rw [hb, cond_false] at h
  clear hb
  cases h
theorem vst157_1_0 (N : Nat) (G : Nat) (v0 : Int) (v1 : List Int) (v2 : Int) (v3 : Bool) (v4 : Int) (v5 : List (List Int)) (rec_ : St → O β) (K : Exit → St → O β) :
    stB lay (VE157 zq27 zq29 zq31 N G) Tryz.f157 1 (h157_1_0 v0 v1 v2 v3 v4 v5) rec_ K = zb26 N v0 v1 v2 v3 v4 v5 (fun v0 v1 v2 v3 v4 v5 => rec_ (h157_1_0 v0 v1 v2 v3 v4 v5)) (fun y0 y1 y2 y3 y4 => K (.exit 2) (x157_1_0_k0 y0 y1 y2 y3 y4)) := by kernel_rfl
theorem ro157_1_0 (N : Nat) (G : Nat) (K : Exit → St → O β) : ∀ (F : Nat) (v0 : Int) (v1 : List Int) (v2 : Int) (v3 : Bool) (v4 : Int) (v5 : List (List Int)), (lp Tryz.f157 1).rounds lay (E157 N G) (retMask Tryz.f157) F (h157_1_0 v0 v1 v2 v3 v4 v5) K = zj27 N F v0 v1 v2 v3 v4 v5 (fun y0 y1 y2 y3 y4 => K (.exit 2) (x157_1_0_k0 y0 y1 y2 y3 y4)) := by
  intro F
  induction F with
  | zero => intros; rfl
  | succ F ih =>
    intros
    rw [rounds_next]
    refine (vst157_1_0 (zj27 N) (zj29 N) (zj31 N) N G _ _ _ _ _ _ (fun s => (lp Tryz.f157 1).rounds lay (E157 N G) (retMask Tryz.f157) F s K) K).trans ?_
    simp only [ih]
    rfl
theorem lk157_2 (N : Nat) (G : Nat) : lookL (E157 (β := β) N G).loops (lp Tryz.f157 1).id = LS157_2 N G := by kernel_rfl
theorem rk157_2 (N : Nat) (G : Nat) : RoundsOK lay (E157 (β := β) N G) (retMask Tryz.f157) (lp Tryz.f157 1) := by
  intro s K r h
  rw [lk157_2] at h
  unfold LS157_2 VLS157_2 at h
  cases hb : shpSt (h157_1_0 0 [] 0 false 0 []) s with
  | true =>
    rw [hb, cond_true] at h
    exact ⟨N, by rw [← shpSt_ref hb, fl157_1_0 s]; exact (ro157_1_0 N G K N (intS (oneA (vT (nx tund s.tmps 0)))) (rInts (rowV (oneA (vT (nx tund s.tmps 1))))) (intS (oneA (vT (nx tund s.tmps 6)))) (boolS (oneA (vT (nx tund s.tmps 7)))) (intS (oneA (vT (nx tund s.tmps 8)))) (rLists (rowB_ (nx .dead s.blks 0)))).trans h⟩
  | false =>
  rw [hb, cond_false] at h
  clear hb
  cases h
theorem ve157_0 (N : Nat) (G : Nat) (a0 : Int) (a1 : List Int) (K : TV → O β) : evFn lay (VE157 zq27 zq29 zq31 N G) Tryz.f157 [.v (.one (.int .i64 a0)), .v (.one (.fsl 3 (.ints .i64 a1)))] K = zb30 zq29 N (zq31 G) a0 a1 (fun z2 => K (.v (.one (.sl 40 (.lists 3 z2))))) := by kernel_rfl
theorem z157 (N : Nat) : ∀ args K r, SF157 (β := β) N 0 args K = some r → (none : O β) = some r := by
  intro args K r h
  unfold SF157 VSF157 at h
  split at h <;> exact h
theorem of157 (N : Nat) : ∀ G, SpecOK (β := β) inv Tryz.prog 157 (SF157 N G) := by
  intro G
  induction G with
  | zero => exact s_zero Tryz.func157 (by kernel_rfl) (z157 N)
  | succ G ih =>
    refine spec_of lay_ok mixed (E := E157 N G) (specs_loops (specs_cons ih specs_nil)) muts_nil gs_nil Tryz.func157 (by kernel_rfl) 2 (by kernel_rfl) ⟨⟨trivial, rk157_0 N G⟩, rk157_2 N G⟩ fun args K r h => ?_
    unfold SF157 VSF157 at h
    split at h
    · exact (ve157_0 (zj27 N) (zj29 N) (zj31 N) N G _ _ _).trans h
    · cases h
theorem o157 (N : Nat) : SpecOK (β := β) inv Tryz.prog 157 (S157 N) := of157 N N
def VS158 (N : Nat) : Rv.Spec β := fun args K => match args with
  | [.v (.agg [.int .i64 a0, .int .i64 a1]), .v (.one (.sl 3 (.ints .i64 a2)))] => zq37 a0 a1 a2 (fun z3 z4 => K (.v (.agg [.int .i64 z3, .int .i64 z4])))
  | _ => none
def S158 (N : Nat) : Rv.Spec β := VS158 (zj37 N) N
def h158_0_0 (v0 : List Int) (v1 : Int) (v2 : Int) (v3 : Int) (v4 : Int) (v5 : Int) (v6 : Int) : St := ⟨tund :: .v (.one (.sl 3 (.ints .i64 v0))) :: .v (.one (.ptr 0 0)) :: tund :: .v (.one (.ptr 1 0)) :: .v (.one (.int .i64 v1)) :: .v (.one (.int .i64 v2)) :: tn 39 [], [.cells 25 [.int .i64 v3, .int .i64 v4], .cells 25 [.int .i64 v5, .int .i64 v6]]⟩
def x158_0_0_k0 (y0 : Int) (y1 : Int) (y2 : Int) (y3 : Int) (y4 : Int) : St := ⟨tund :: tund :: .v (.one (.ptr 0 0)) :: tund :: .v (.one (.ptr 1 0)) :: .v (.one (.int .i64 y0)) :: tn 40 [], [.cells 25 [.int .i64 y1, .int .i64 y2], .cells 25 [.int .i64 y3, .int .i64 y4]]⟩
def h158_1_0 (v0 : List Int) (v1 : Int) (v2 : Int) (v3 : Int) (v4 : Int) (v5 : Int) (v6 : Int) (v7 : Int) (v8 : Int) : St := ⟨tund :: .v (.one (.sl 3 (.ints .i64 v0))) :: .v (.one (.ptr 0 0)) :: tund :: .v (.one (.ptr 1 0)) :: .v (.one (.int .i64 v1)) :: .v (.one (.int .i64 v2)) :: .v (.one (.int .i64 v3)) :: .v (.one (.int .i64 v4)) :: tn 37 [], [.cells 25 [.int .i64 v5, .int .i64 v6], .cells 25 [.int .i64 v7, .int .i64 v8]]⟩
def x158_1_0_k0 (y0 : List Int) (y1 : Int) (y2 : Int) (y3 : Int) (y4 : Int) (y5 : Int) (y6 : Int) (y7 : Int) : St := ⟨tund :: .v (.one (.sl 3 (.ints .i64 y0))) :: .v (.one (.ptr 0 0)) :: tund :: .v (.one (.ptr 1 0)) :: .v (.one (.int .i64 y1)) :: .v (.one (.int .i64 y2)) :: .v (.one (.int .i64 y3)) :: tn 38 [], [.cells 25 [.int .i64 y4, .int .i64 y5], .cells 25 [.int .i64 y6, .int .i64 y7]]⟩
def p158_0_0 {γ : Type} (f : List Int → Int → Int → Int → Int → Int → Int → γ) (s : St) : γ := f (rInts (rowV (oneA (vT (nx tund s.tmps 1))))) (intS (oneA (vT (nx tund s.tmps 5)))) (intS (oneA (vT (nx tund s.tmps 6)))) (intS (nx .und (cellsB (nx .dead s.blks 0)) 0)) (intS (nx .und (cellsB (nx .dead s.blks 0)) 1)) (intS (nx .und (cellsB (nx .dead s.blks 1)) 0)) (intS (nx .und (cellsB (nx .dead s.blks 1)) 1))
theorem fl158_0_0 (s : St) : refSt (h158_0_0 [] 0 0 0 0 0 0) s = p158_0_0 h158_0_0 s := by kernel_rfl
def VLS158_0 (N : Nat) : LSpec β := fun s K => cond (shpSt (h158_0_0 [] 0 0 0 0 0 0) s) (p158_0_0 (fun v0 v1 v2 v3 v4 v5 v6 => zq36 N v0 v1 v2 v3 v4 v5 v6 (fun y0 y1 y2 y3 y4 => K (.exit 0) (x158_0_0_k0 y0 y1 y2 y3 y4))) s) (none)
def LS158_0 (N : Nat) : LSpec β := VLS158_0 (zj36 N) N
def p158_1_0 {γ : Type} (f : List Int → Int → Int → Int → Int → Int → Int → Int → Int → γ) (s : St) : γ := f (rInts (rowV (oneA (vT (nx tund s.tmps 1))))) (intS (oneA (vT (nx tund s.tmps 5)))) (intS (oneA (vT (nx tund s.tmps 6)))) (intS (oneA (vT (nx tund s.tmps 7)))) (intS (oneA (vT (nx tund s.tmps 8)))) (intS (nx .und (cellsB (nx .dead s.blks 0)) 0)) (intS (nx .und (cellsB (nx .dead s.blks 0)) 1)) (intS (nx .und (cellsB (nx .dead s.blks 1)) 0)) (intS (nx .und (cellsB (nx .dead s.blks 1)) 1))
theorem fl158_1_0 (s : St) : refSt (h158_1_0 [] 0 0 0 0 0 0 0 0) s = p158_1_0 h158_1_0 s := by kernel_rfl
def VLS158_2 (N : Nat) : LSpec β := fun s K => cond (shpSt (h158_1_0 [] 0 0 0 0 0 0 0 0) s) ((fun (v0 : List Int) (v1 : Int) (v2 : Int) (v3 : Int) (v4 : Int) (v5 : Int) (v6 : Int) (v7 : Int) (v8 : Int) => zq34 N v0 v1 v2 v3 v4 v5 v6 v7 v8 (fun y0 y1 y2 y3 y4 y5 y6 y7 => K (.exit 2) (x158_1_0_k0 y0 y1 y2 y3 y4 y5 y6 y7))) (rInts (rowV (oneA (vT (nx tund s.tmps 1))))) (intS (oneA (vT (nx tund s.tmps 5)))) (intS (oneA (vT (nx tund s.tmps 6)))) (intS (oneA (vT (nx tund s.tmps 7)))) (intS (oneA (vT (nx tund s.tmps 8)))) (intS (nx .und (cellsB (nx .dead s.blks 0)) 0)) (intS (nx .und (cellsB (nx .dead s.blks 0)) 1)) (intS (nx .und (cellsB (nx .dead s.blks 1)) 0)) (intS (nx .und (cellsB (nx .dead s.blks 1)) 1))) (none)
def LS158_2 (N : Nat) : LSpec β := VLS158_2 (zj34 N) N
def VE158 (N : Nat) : Env β := ⟨[], [], [(0, VLS158_0 zq36 N), (2, VLS158_2 zq34 N)], [], ⟨[], [], [157], [222]⟩⟩
def E158 (N : Nat) : Env β := VE158 (zj34 N) (zj36 N) N
theorem vst158_0_0 (N : Nat) (v0 : List Int) (v1 : Int) (v2 : Int) (v3 : Int) (v4 : Int) (v5 : Int) (v6 : Int) (rec_ : St → O β) (K : Exit → St → O β) :
    stB lay (VE158 zq34 zq36 N) Tryz.f158 0 (h158_0_0 v0 v1 v2 v3 v4 v5 v6) rec_ K = zb35 zq34 N v0 v1 v2 v3 v4 v5 v6 (fun v0 v1 v2 v3 v4 v5 v6 => rec_ (h158_0_0 v0 v1 v2 v3 v4 v5 v6)) (fun y0 y1 y2 y3 y4 => K (.exit 0) (x158_0_0_k0 y0 y1 y2 y3 y4)) := by kernel_rfl
theorem ro158_0_0 (N : Nat) (K : Exit → St → O β) : ∀ (F : Nat) (v0 : List Int) (v1 : Int) (v2 : Int) (v3 : Int) (v4 : Int) (v5 : Int) (v6 : Int), (lp Tryz.f158 0).rounds lay (E158 N) (retMask Tryz.f158) F (h158_0_0 v0 v1 v2 v3 v4 v5 v6) K = zj36 N F v0 v1 v2 v3 v4 v5 v6 (fun y0 y1 y2 y3 y4 => K (.exit 0) (x158_0_0_k0 y0 y1 y2 y3 y4)) := by
  intro F
  induction F with
  | zero => intros; rfl
  | succ F ih =>
    intros
    rw [rounds_next]
    refine (vst158_0_0 (zj34 N) (zj36 N) N _ _ _ _ _ _ _ (fun s => (lp Tryz.f158 0).rounds lay (E158 N) (retMask Tryz.f158) F s K) K).trans ?_
    simp only [ih]
    rfl
theorem lk158_0 (N : Nat) : lookL (E158 (β := β) N).loops (lp Tryz.f158 0).id = LS158_0 N := by kernel_rfl
theorem rk158_0 (N : Nat) : RoundsOK lay (E158 (β := β) N) (retMask Tryz.f158) (lp Tryz.f158 0) := by
  intro s K r h
  rw [lk158_0] at h
  unfold LS158_0 VLS158_0 at h
  cases hb : shpSt (h158_0_0 [] 0 0 0 0 0 0) s with
  | true =>
    rw [hb, cond_true] at h
    exact ⟨N, by rw [← shpSt_ref hb, fl158_0_0 s]; unfold p158_0_0 at h ⊢; exact (ro158_0_0 N K N _ _ _ _ _ _ _).trans h⟩
  | false =>
  rw [hb, cond_false] at h
  clear hb
  cases h
theorem vst158_1_0 (N : Nat) (v0 : List Int) (v1 : Int) (v2 : Int) (v3 : Int) (v4 : Int) (v5 : Int) (v6 : Int) (v7 : Int) (v8 : Int) (rec_ : St → O β) (K : Exit → St → O β) :
    stB lay (VE158 zq34 zq36 N) Tryz.f158 1 (h158_1_0 v0 v1 v2 v3 v4 v5 v6 v7 v8) rec_ K = zb33 N v0 v1 v2 v3 v4 v5 v6 v7 v8 (fun v0 v1 v2 v3 v4 v5 v6 v7 v8 => rec_ (h158_1_0 v0 v1 v2 v3 v4 v5 v6 v7 v8)) (fun y0 y1 y2 y3 y4 y5 y6 y7 => K (.exit 2) (x158_1_0_k0 y0 y1 y2 y3 y4 y5 y6 y7)) := by kernel_rfl
theorem ro158_1_0 (N : Nat) (K : Exit → St → O β) : ∀ (F : Nat) (v0 : List Int) (v1 : Int) (v2 : Int) (v3 : Int) (v4 : Int) (v5 : Int) (v6 : Int) (v7 : Int) (v8 : Int), (lp Tryz.f158 1).rounds lay (E158 N) (retMask Tryz.f158) F (h158_1_0 v0 v1 v2 v3 v4 v5 v6 v7 v8) K = zj34 N F v0 v1 v2 v3 v4 v5 v6 v7 v8 (fun y0 y1 y2 y3 y4 y5 y6 y7 => K (.exit 2) (x158_1_0_k0 y0 y1 y2 y3 y4 y5 y6 y7)) := by
  intro F
  induction F with
  | zero => intros; rfl
  | succ F ih =>
    intros
    rw [rounds_next]
    refine (vst158_1_0 (zj34 N) (zj36 N) N _ _ _ _ _ _ _ _ _ (fun s => (lp Tryz.f158 1).rounds lay (E158 N) (retMask Tryz.f158) F s K) K).trans ?_
    simp only [ih]
    rfl
theorem lk158_2 (N : Nat) : lookL (E158 (β := β) N).loops (lp Tryz.f158 1).id = LS158_2 N := by kernel_rfl
theorem rk158_2 (N : Nat) : RoundsOK lay (E158 (β := β) N) (retMask Tryz.f158) (lp Tryz.f158 1) := by
  intro s K r h
  rw [lk158_2] at h
  unfold LS158_2 VLS158_2 at h
  cases hb : shpSt (h158_1_0 [] 0 0 0 0 0 0 0 0) s with
  | true =>
    rw [hb, cond_true] at h
    exact ⟨N, by rw [← shpSt_ref hb, fl158_1_0 s]; exact (ro158_1_0 N K N (rInts (rowV (oneA (vT (nx tund s.tmps 1))))) (intS (oneA (vT (nx tund s.tmps 5)))) (intS (oneA (vT (nx tund s.tmps 6)))) (intS (oneA (vT (nx tund s.tmps 7)))) (intS (oneA (vT (nx tund s.tmps 8)))) (intS (nx .und (cellsB (nx .dead s.blks 0)) 0)) (intS (nx .und (cellsB (nx .dead s.blks 0)) 1)) (intS (nx .und (cellsB (nx .dead s.blks 1)) 0)) (intS (nx .und (cellsB (nx .dead s.blks 1)) 1))).trans h⟩
  | false =>
  rw [hb, cond_false] at h
  clear hb
  cases h
theorem ve158_0 (N : Nat) (a0 : Int) (a1 : Int) (a2 : List Int) (K : TV → O β) : evFn lay (VE158 zq34 zq36 N) Tryz.f158 [.v (.agg [.int .i64 a0, .int .i64 a1]), .v (.one (.sl 3 (.ints .i64 a2)))] K = zb37 zq36 N a0 a1 a2 (fun z3 z4 => K (.v (.agg [.int .i64 z3, .int .i64 z4]))) := by kernel_rfl
theorem o158 (N : Nat) : SpecOK (β := β) inv Tryz.prog 158 (S158 N) := by
  refine spec_of lay_ok mixed (E := E158 N) (specs_loops specs_nil) muts_nil gs_nil Tryz.func158 (by kernel_rfl) 2 (by kernel_rfl) ⟨⟨trivial, rk158_0 N⟩, rk158_2 N⟩ fun args K r h => ?_
  unfold S158 VS158 at h
  split at h
  · exact (ve158_0 (zj34 N) (zj36 N) N _ _ _ _).trans h
  · cases h
def VS159 (N : Nat) : Rv.Spec β := fun args K => match args with
  | [.v (.agg [.int .i64 a0, .int .i64 a1]), .v (.one (.int .i64 a2))] => zq40 a0 a1 a2 (fun z3 z4 => K (.v (.agg [.int .i64 z3, .int .i64 z4])))
  | _ => none
def S159 (N : Nat) : Rv.Spec β := VS159 (zj40 N) N
def h159_0_0 (v0 : Int) (v1 : Int) (v2 : Int) (v3 : Int) (v4 : Int) (v5 : Int) (v6 : Int) : St := ⟨tund :: .v (.one (.int .i64 v0)) :: .v (.one (.ptr 0 0)) :: tund :: .v (.one (.ptr 1 0)) :: .v (.one (.int .i64 v1)) :: .v (.one (.int .i64 v2)) :: tn 22 [], [.cells 25 [.int .i64 v3, .int .i64 v4], .cells 25 [.int .i64 v5, .int .i64 v6]]⟩
def x159_0_0_k0 (y0 : Int) (y1 : Int) (y2 : Int) (y3 : Int) (y4 : Int) : St := ⟨tund :: tund :: .v (.one (.ptr 0 0)) :: tund :: .v (.one (.ptr 1 0)) :: .v (.one (.int .i64 y0)) :: tn 23 [], [.cells 25 [.int .i64 y1, .int .i64 y2], .cells 25 [.int .i64 y3, .int .i64 y4]]⟩
def p159_0_0 {γ : Type} (f : Int → Int → Int → Int → Int → Int → Int → γ) (s : St) : γ := f (intS (oneA (vT (nx tund s.tmps 1)))) (intS (oneA (vT (nx tund s.tmps 5)))) (intS (oneA (vT (nx tund s.tmps 6)))) (intS (nx .und (cellsB (nx .dead s.blks 0)) 0)) (intS (nx .und (cellsB (nx .dead s.blks 0)) 1)) (intS (nx .und (cellsB (nx .dead s.blks 1)) 0)) (intS (nx .und (cellsB (nx .dead s.blks 1)) 1))
theorem fl159_0_0 (s : St) : refSt (h159_0_0 0 0 0 0 0 0 0) s = p159_0_0 h159_0_0 s := by kernel_rfl
def VLS159_0 (N : Nat) : LSpec β := fun s K => cond (shpSt (h159_0_0 0 0 0 0 0 0 0) s) (p159_0_0 (fun v0 v1 v2 v3 v4 v5 v6 => zq39 N v0 v1 v2 v3 v4 v5 v6 (fun y0 y1 y2 y3 y4 => K (.exit 0) (x159_0_0_k0 y0 y1 y2 y3 y4))) s) (none)
def LS159_0 (N : Nat) : LSpec β := VLS159_0 (zj39 N) N
def VE159 (N : Nat) : Env β := ⟨[], [], [(0, VLS159_0 zq39 N)], [], ⟨[], [], [157], [222]⟩⟩
def E159 (N : Nat) : Env β := VE159 (zj39 N) N
theorem vst159_0_0 (N : Nat) (v0 : Int) (v1 : Int) (v2 : Int) (v3 : Int) (v4 : Int) (v5 : Int) (v6 : Int) (rec_ : St → O β) (K : Exit → St → O β) :
    stB lay (VE159 zq39 N) Tryz.f159 0 (h159_0_0 v0 v1 v2 v3 v4 v5 v6) rec_ K = zb38 N v0 v1 v2 v3 v4 v5 v6 (fun v0 v1 v2 v3 v4 v5 v6 => rec_ (h159_0_0 v0 v1 v2 v3 v4 v5 v6)) (fun y0 y1 y2 y3 y4 => K (.exit 0) (x159_0_0_k0 y0 y1 y2 y3 y4)) := by kernel_rfl
theorem ro159_0_0 (N : Nat) (K : Exit → St → O β) : ∀ (F : Nat) (v0 : Int) (v1 : Int) (v2 : Int) (v3 : Int) (v4 : Int) (v5 : Int) (v6 : Int), (lp Tryz.f159 0).rounds lay (E159 N) (retMask Tryz.f159) F (h159_0_0 v0 v1 v2 v3 v4 v5 v6) K = zj39 N F v0 v1 v2 v3 v4 v5 v6 (fun y0 y1 y2 y3 y4 => K (.exit 0) (x159_0_0_k0 y0 y1 y2 y3 y4)) := by
  intro F
  induction F with
  | zero => intros; rfl
  | succ F ih =>
    intros
    rw [rounds_next]
    refine (vst159_0_0 (zj39 N) N _ _ _ _ _ _ _ (fun s => (lp Tryz.f159 0).rounds lay (E159 N) (retMask Tryz.f159) F s K) K).trans ?_
    simp only [ih]
    rfl
theorem lk159_0 (N : Nat) : lookL (E159 (β := β) N).loops (lp Tryz.f159 0).id = LS159_0 N := by kernel_rfl
theorem rk159_0 (N : Nat) : RoundsOK lay (E159 (β := β) N) (retMask Tryz.f159) (lp Tryz.f159 0) := by
  intro s K r h
  rw [lk159_0] at h
  unfold LS159_0 VLS159_0 at h
  cases hb : shpSt (h159_0_0 0 0 0 0 0 0 0) s with
  | true =>
    rw [hb, cond_true] at h
    exact ⟨N, by rw [← shpSt_ref hb, fl159_0_0 s]; unfold p159_0_0 at h ⊢; exact (ro159_0_0 N K N _ _ _ _ _ _ _).trans h⟩
  | false =>
  rw [hb, cond_false] at h
  clear hb
  cases h
theorem ve159_0 (N : Nat) (a0 : Int) (a1 : Int) (a2 : Int) (K : TV → O β) : evFn lay (VE159 zq39 N) Tryz.f159 [.v (.agg [.int .i64 a0, .int .i64 a1]), .v (.one (.int .i64 a2))] K = zb40 zq39 N a0 a1 a2 (fun z3 z4 => K (.v (.agg [.int .i64 z3, .int .i64 z4]))) := by kernel_rfl
theorem o159 (N : Nat) : SpecOK (β := β) inv Tryz.prog 159 (S159 N) := by
  refine spec_of lay_ok mixed (E := E159 N) (specs_loops specs_nil) muts_nil gs_nil Tryz.func159 (by kernel_rfl) 1 (by kernel_rfl) ⟨trivial, rk159_0 N⟩ fun args K r h => ?_
  unfold S159 VS159 at h
  split at h
  · exact (ve159_0 (zj39 N) N _ _ _ _).trans h
  · cases h
def VS160 (N : Nat) : Rv.Spec β := fun args K => match args with
  | [.v (.one (.int .i64 a0))] => zq41 a0 (fun z1 => K (.v (.one (.int .i64 z1))))
  | _ => none
def S160 (N : Nat) : Rv.Spec β := VS160 (zj41 N) N
def VE160 (N : Nat) : Env β := ⟨[], [], [], [], ⟨[], [], [157], [222]⟩⟩
def E160 (N : Nat) : Env β := VE160 N
theorem ve160_0 (N : Nat) (a0 : Int) (K : TV → O β) : evFn lay (VE160 N) Tryz.f160 [.v (.one (.int .i64 a0))] K = zb41 N a0 (fun z1 => K (.v (.one (.int .i64 z1)))) := by kernel_rfl
theorem o160 (N : Nat) : SpecOK (β := β) inv Tryz.prog 160 (S160 N) := by
  refine spec_of lay_ok mixed (E := E160 N) (specs_loops specs_nil) muts_nil gs_nil Tryz.func160 (by kernel_rfl) 0 (by kernel_rfl) trivial fun args K r h => ?_
  unfold S160 VS160 at h
  split at h
  · exact (ve160_0 N _ _).trans h
  · cases h
end Go.Proofs.YtemihnclhcobnaaGreatDoor
