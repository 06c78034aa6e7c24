/- The functions that the claims reach answer as their texts do. -/
import Derived.Test.YtemihnclhcobnaaGreatDoorE8
namespace Go.Proofs.YtemihnclhcobnaaGreatDoor
open Go.Rv
set_option maxRecDepth 100000
set_option maxHeartbeats 2000000
set_option linter.unusedVariables false
variable {β : Type}
variable (zq2 : Y2 β) (zq16 : Y11 β) (zq141 : Y68 β) (zq156 : Y11 β) (zq157 : Y0 β) (zq159 : Y77 β) (zq161 : Y80 β) (zq163 : Y79 β) (zq165 : Y78 β) (zq167 : Y76 β)
def VSF150 (N : Nat) (G : Nat) : Rv.Spec β := fun args K => match args with
  | [.v (.agg [.int .i64 a0, .int .i64 a1]), .v (.one (.sl 3 (.ints .i64 a2)))] => zq167 G a0 a1 a2 (fun z3 => K (.v (.one (.str z3))))
  | _ => none
def SF150 (N : Nat) (G : Nat) : Rv.Spec β := VSF150 (zj167 N) N G
def VS150 (N : Nat) : Rv.Spec β := VSF150 zq167 N N
def S150 (N : Nat) : Rv.Spec β := SF150 N N
def h150_0_0 (v0 : List Int) (v1 : Int) (v2 : Int) (v3 : Int) (v4 : Int) : St := ⟨tund :: .v (.one (.sl 3 (.ints .i64 v0))) :: .v (.one (.ptr 0 0)) :: tn 24 (.v (.one (.int .i64 v1)) :: .v (.one (.int .i64 v2)) :: tn 102 []), [.cells 25 [.int .i64 v3, .int .i64 v4]]⟩
def x150_0_0_k0 (y0 : ByteArray) : St := ⟨tn 4 (.v (.one (.str y0)) :: tn 126 []), []⟩
def x150_0_0_k1 (y0 : List Int) (y1 : Int) (y2 : Int) : St := ⟨tund :: .v (.one (.sl 3 (.ints .i64 y0))) :: .v (.one (.ptr 0 0)) :: tn 128 [], [.cells 25 [.int .i64 y1, .int .i64 y2]]⟩
def h150_1_0 (v0 : List Int) (v1 : Int) (v2 : Int) (v3 : Int) (v4 : Int) (v5 : List Int) : St := ⟨tund :: .v (.one (.sl 3 (.ints .i64 v0))) :: .v (.one (.ptr 0 0)) :: tn 50 (.v (.one (.row 1)) :: .v (.one (.int .i64 v1)) :: .v (.one (.int .i64 v2)) :: tn 75 []), [.cells 25 [.int .i64 v3, .int .i64 v4], .srow 5 (.ints .u8 v5)]⟩
def x150_1_0_k0 (y0 : ByteArray) : St := ⟨tn 4 (.v (.one (.str y0)) :: tn 126 []), []⟩
def x150_1_0_k1 : St := ⟨tn 131 [], []⟩
def h150_2_0 (v0 : List Int) (v1 : Int) (v2 : Int) (v3 : Int) (v4 : List Int) (v5 : Int) (v6 : Int) (v7 : Int) (v8 : Int) (v9 : List Int) : St := ⟨tund :: .v (.one (.sl 3 (.ints .i64 v0))) :: .v (.one (.ptr 0 0)) :: tn 6 (.v (.one (.int .u8 v1)) :: tn 43 (.v (.one (.row 1)) :: .v (.one (.int .i64 v2)) :: .v (.one (.int .i64 v3)) :: tn 3 (.v (.one (.sl 3 (.ints .i64 v4))) :: .v (.one (.int .i64 v5)) :: .v (.one (.int .i64 v6)) :: tn 69 []))), [.cells 25 [.int .i64 v7, .int .i64 v8], .srow 5 (.ints .u8 v9)]⟩
def x150_2_0_k0 (y0 : ByteArray) : St := ⟨tn 4 (.v (.one (.str y0)) :: tn 126 []), []⟩
def x150_2_0_k1 (y0 : List Int) (y1 : Int) (y2 : Int) (y3 : Int) (y4 : Int) (y5 : List Int) : St := ⟨tund :: .v (.one (.sl 3 (.ints .i64 y0))) :: .v (.one (.ptr 0 0)) :: tn 50 (.v (.one (.row 1)) :: .v (.one (.int .i64 y1)) :: .v (.one (.int .i64 y2)) :: tn 75 []), [.cells 25 [.int .i64 y3, .int .i64 y4], .srow 5 (.ints .u8 y5)]⟩
def h150_3_0 (v0 : List Int) (v1 : Int) (v2 : Int) (v3 : Int) (v4 : Int) (v5 : Int) (v6 : List Int) (v7 : Int) (v8 : Int) (v9 : List Int) (v10 : Int) (v11 : Int) (v12 : Int) (v13 : Int) (v14 : List Int) : St := ⟨tund :: .v (.one (.sl 3 (.ints .i64 v0))) :: .v (.one (.ptr 0 0)) :: tn 6 (.v (.one (.int .u8 v1)) :: .v (.one (.int .i64 v2)) :: .v (.one (.int .i64 v3)) :: tn 41 (.v (.one (.row 1)) :: .v (.one (.int .i64 v4)) :: .v (.one (.int .i64 v5)) :: tn 3 (.v (.one (.sl 3 (.ints .i64 v6))) :: .v (.one (.int .i64 v7)) :: .v (.one (.int .i64 v8)) :: tn 15 (.v (.one (.sl 3 (.ints .i64 v9))) :: .v (.one (.int .i64 v10)) :: .v (.one (.int .i64 v11)) :: tn 51 [])))), [.cells 25 [.int .i64 v12, .int .i64 v13], .srow 5 (.ints .u8 v14)]⟩
def x150_3_0_k0 (y0 : ByteArray) : St := ⟨tn 4 (.v (.one (.str y0)) :: tn 126 []), []⟩
def x150_3_0_k1 (y0 : List Int) (y1 : Int) (y2 : Int) (y3 : Int) (y4 : List Int) (y5 : Int) (y6 : Int) (y7 : Int) (y8 : Int) (y9 : List Int) : St := ⟨tund :: .v (.one (.sl 3 (.ints .i64 y0))) :: .v (.one (.ptr 0 0)) :: tn 6 (.v (.one (.int .u8 y1)) :: tn 43 (.v (.one (.row 1)) :: .v (.one (.int .i64 y2)) :: .v (.one (.int .i64 y3)) :: tn 3 (.v (.one (.sl 3 (.ints .i64 y4))) :: .v (.one (.int .i64 y5)) :: .v (.one (.int .i64 y6)) :: tn 69 []))), [.cells 25 [.int .i64 y7, .int .i64 y8], .srow 5 (.ints .u8 y9)]⟩
def p150_0_0 {γ : Type} (f : List Int → Int → Int → Int → Int → γ) (s : St) : γ := f (rInts (rowV (oneA (vT (nx tund s.tmps 1))))) (intS (oneA (vT (nx tund s.tmps 27)))) (intS (oneA (vT (nx tund s.tmps 28)))) (intS (nx .und (cellsB (nx .dead s.blks 0)) 0)) (intS (nx .und (cellsB (nx .dead s.blks 0)) 1))
theorem fl150_0_0 (s : St) : refSt (h150_0_0 [] 0 0 0 0) s = p150_0_0 h150_0_0 s := by kernel_rfl
def VLS150_0 (N : Nat) (G : Nat) : LSpec β := fun s K => cond (shpSt (h150_0_0 [] 0 0 0 0) s) (p150_0_0 (fun v0 v1 v2 v3 v4 => zq159 N v0 v1 v2 v3 v4 (fun y0 => K .ret (x150_0_0_k0 y0)) (fun y0 y1 y2 => K (.exit 0) (x150_0_0_k1 y0 y1 y2))) s) (none)
def LS150_0 (N : Nat) (G : Nat) : LSpec β := VLS150_0 (zj159 N) N G
def p150_1_0 {γ : Type} (f : List Int → Int → Int → Int → Int → List Int → γ) (s : St) : γ := f (rInts (rowV (oneA (vT (nx tund s.tmps 1))))) (intS (oneA (vT (nx tund s.tmps 54)))) (intS (oneA (vT (nx tund s.tmps 55)))) (intS (nx .und (cellsB (nx .dead s.blks 0)) 0)) (intS (nx .und (cellsB (nx .dead s.blks 0)) 1)) (rInts (rowB_ (nx .dead s.blks 1)))
theorem fl150_1_0 (s : St) : refSt (h150_1_0 [] 0 0 0 0 []) s = p150_1_0 h150_1_0 s := by kernel_rfl
def VLS150_3 (N : Nat) (G : Nat) : LSpec β := fun s K => cond (shpSt (h150_1_0 [] 0 0 0 0 []) s) ((fun (v0 : List Int) (v1 : Int) (v2 : Int) (v3 : Int) (v4 : Int) (v5 : List Int) => zq165 (zq167 G) N v0 v1 v2 v3 v4 v5 (fun y0 => K .ret (x150_1_0_k0 y0)) (K (.exit 3) (x150_1_0_k1 ))) (rInts (rowV (oneA (vT (nx tund s.tmps 1))))) (intS (oneA (vT (nx tund s.tmps 54)))) (intS (oneA (vT (nx tund s.tmps 55)))) (intS (nx .und (cellsB (nx .dead s.blks 0)) 0)) (intS (nx .und (cellsB (nx .dead s.blks 0)) 1)) (rInts (rowB_ (nx .dead s.blks 1)))) (none)
def LS150_3 (N : Nat) (G : Nat) : LSpec β := VLS150_3 (zj165 N) (zj167 N) N G
def p150_2_0 {γ : Type} (f : List Int → Int → Int → Int → List Int → Int → Int → Int → Int → List Int → γ) (s : St) : γ := f (rInts (rowV (oneA (vT (nx tund s.tmps 1))))) (intS (oneA (vT (nx tund s.tmps 9)))) (intS (oneA (vT (nx tund s.tmps 54)))) (intS (oneA (vT (nx tund s.tmps 55)))) (rInts (rowV (oneA (vT (nx tund s.tmps 59))))) (intS (oneA (vT (nx tund s.tmps 60)))) (intS (oneA (vT (nx tund s.tmps 61)))) (intS (nx .und (cellsB (nx .dead s.blks 0)) 0)) (intS (nx .und (cellsB (nx .dead s.blks 0)) 1)) (rInts (rowB_ (nx .dead s.blks 1)))
theorem fl150_2_0 (s : St) : refSt (h150_2_0 [] 0 0 0 [] 0 0 0 0 []) s = p150_2_0 h150_2_0 s := by kernel_rfl
def VLS150_5 (N : Nat) (G : Nat) : LSpec β := fun s K => cond (shpSt (h150_2_0 [] 0 0 0 [] 0 0 0 0 []) s) ((fun (v0 : List Int) (v1 : Int) (v2 : Int) (v3 : Int) (v4 : List Int) (v5 : Int) (v6 : Int) (v7 : Int) (v8 : Int) (v9 : List Int) => zq163 (zq167 G) N v0 v1 v2 v3 v4 v5 v6 v7 v8 v9 (fun y0 => K .ret (x150_2_0_k0 y0)) (fun y0 y1 y2 y3 y4 y5 => K (.exit 5) (x150_2_0_k1 y0 y1 y2 y3 y4 y5))) (rInts (rowV (oneA (vT (nx tund s.tmps 1))))) (intS (oneA (vT (nx tund s.tmps 9)))) (intS (oneA (vT (nx tund s.tmps 54)))) (intS (oneA (vT (nx tund s.tmps 55)))) (rInts (rowV (oneA (vT (nx tund s.tmps 59))))) (intS (oneA (vT (nx tund s.tmps 60)))) (intS (oneA (vT (nx tund s.tmps 61)))) (intS (nx .und (cellsB (nx .dead s.blks 0)) 0)) (intS (nx .und (cellsB (nx .dead s.blks 0)) 1)) (rInts (rowB_ (nx .dead s.blks 1)))) (none)
def LS150_5 (N : Nat) (G : Nat) : LSpec β := VLS150_5 (zj163 N) (zj167 N) N G
def p150_3_0 {γ : Type} (f : List Int → Int → Int → Int → Int → Int → List Int → Int → Int → List Int → Int → Int → Int → Int → List Int → γ) (s : St) : γ := f (rInts (rowV (oneA (vT (nx tund s.tmps 1))))) (intS (oneA (vT (nx tund s.tmps 9)))) (intS (oneA (vT (nx tund s.tmps 10)))) (intS (oneA (vT (nx tund s.tmps 11)))) (intS (oneA (vT (nx tund s.tmps 54)))) (intS (oneA (vT (nx tund s.tmps 55)))) (rInts (rowV (oneA (vT (nx tund s.tmps 59))))) (intS (oneA (vT (nx tund s.tmps 60)))) (intS (oneA (vT (nx tund s.tmps 61)))) (rInts (rowV (oneA (vT (nx tund s.tmps 77))))) (intS (oneA (vT (nx tund s.tmps 78)))) (intS (oneA (vT (nx tund s.tmps 79)))) (intS (nx .und (cellsB (nx .dead s.blks 0)) 0)) (intS (nx .und (cellsB (nx .dead s.blks 0)) 1)) (rInts (rowB_ (nx .dead s.blks 1)))
theorem fl150_3_0 (s : St) : refSt (h150_3_0 [] 0 0 0 0 0 [] 0 0 [] 0 0 0 0 []) s = p150_3_0 h150_3_0 s := by kernel_rfl
def VLS150_7 (N : Nat) (G : Nat) : LSpec β := fun s K => cond (shpSt (h150_3_0 [] 0 0 0 0 0 [] 0 0 [] 0 0 0 0 []) s) ((fun (v0 : List Int) (v1 : Int) (v2 : Int) (v3 : Int) (v4 : Int) (v5 : Int) (v6 : List Int) (v7 : Int) (v8 : Int) (v9 : List Int) (v10 : Int) (v11 : Int) (v12 : Int) (v13 : Int) (v14 : List Int) => zq161 (zq167 G) N v0 v1 v2 v3 v4 v5 v6 v7 v8 v9 v10 v11 v12 v13 v14 (fun y0 => K .ret (x150_3_0_k0 y0)) (fun y0 y1 y2 y3 y4 y5 y6 y7 y8 y9 => K (.exit 7) (x150_3_0_k1 y0 y1 y2 y3 y4 y5 y6 y7 y8 y9))) (rInts (rowV (oneA (vT (nx tund s.tmps 1))))) (intS (oneA (vT (nx tund s.tmps 9)))) (intS (oneA (vT (nx tund s.tmps 10)))) (intS (oneA (vT (nx tund s.tmps 11)))) (intS (oneA (vT (nx tund s.tmps 54)))) (intS (oneA (vT (nx tund s.tmps 55)))) (rInts (rowV (oneA (vT (nx tund s.tmps 59))))) (intS (oneA (vT (nx tund s.tmps 60)))) (intS (oneA (vT (nx tund s.tmps 61)))) (rInts (rowV (oneA (vT (nx tund s.tmps 77))))) (intS (oneA (vT (nx tund s.tmps 78)))) (intS (oneA (vT (nx tund s.tmps 79)))) (intS (nx .und (cellsB (nx .dead s.blks 0)) 0)) (intS (nx .und (cellsB (nx .dead s.blks 0)) 1)) (rInts (rowB_ (nx .dead s.blks 1)))) (none)
def LS150_7 (N : Nat) (G : Nat) : LSpec β := VLS150_7 (zj161 N) (zj167 N) N G
def VE150 (N : Nat) (G : Nat) : Env β := ⟨[(211, VS211 zq157 N), (103, VS103 zq2 N), (41, VS41 zq141 N), (212, VS212 zq16 N), (174, VS174 zq156 N), (150, VSF150 zq167 N G)], [], [(0, VLS150_0 zq159 N G), (3, VLS150_3 zq165 zq167 N G), (5, VLS150_5 zq163 zq167 N G), (7, VLS150_7 zq161 zq167 N G)], [], ⟨[], [], [], []⟩⟩
def E150 (N : Nat) (G : Nat) : Env β := VE150 (zj2 N) (zj16 N) (zj141 N) (zj156 N) (zj157 N) (zj159 N) (zj161 N) (zj163 N) (zj165 N) (zj167 N) N G
theorem vst150_0_0 (N : Nat) (G : Nat) (v0 : List Int) (v1 : Int) (v2 : Int) (v3 : Int) (v4 : Int) (rec_ : St → O β) (K : Exit → St → O β) :
    stB lay (VE150 zq2 zq16 zq141 zq156 zq157 zq159 zq161 zq163 zq165 zq167 N G) Tryz.f150 0 (h150_0_0 v0 v1 v2 v3 v4) rec_ K = zb158 zq16 zq156 N v0 v1 v2 v3 v4 (fun v0 v1 v2 v3 v4 => rec_ (h150_0_0 v0 v1 v2 v3 v4)) (fun y0 => K .ret (x150_0_0_k0 y0)) (fun y0 y1 y2 => K (.exit 0) (x150_0_0_k1 y0 y1 y2)) := by kernel_rfl
theorem ro150_0_0 (N : Nat) (G : Nat) (K : Exit → St → O β) : ∀ (F : Nat) (v0 : List Int) (v1 : Int) (v2 : Int) (v3 : Int) (v4 : Int), (lp Tryz.f150 0).rounds lay (E150 N G) (retMask Tryz.f150) F (h150_0_0 v0 v1 v2 v3 v4) K = zj159 N F v0 v1 v2 v3 v4 (fun y0 => K .ret (x150_0_0_k0 y0)) (fun y0 y1 y2 => K (.exit 0) (x150_0_0_k1 y0 y1 y2)) := by
  intro F
  induction F with
  | zero => intros; rfl
  | succ F ih =>
    intros
    rw [rounds_next]
    refine (vst150_0_0 (zj2 N) (zj16 N) (zj141 N) (zj156 N) (zj157 N) (zj159 N) (zj161 N) (zj163 N) (zj165 N) (zj167 N) N G _ _ _ _ _ (fun s => (lp Tryz.f150 0).rounds lay (E150 N G) (retMask Tryz.f150) F s K) K).trans ?_
    simp only [ih]
    rfl
theorem lk150_0 (N : Nat) (G : Nat) : lookL (E150 (β := β) N G).loops (lp Tryz.f150 0).id = LS150_0 N G := by kernel_rfl
theorem rk150_0 (N : Nat) (G : Nat) : RoundsOK lay (E150 (β := β) N G) (retMask Tryz.f150) (lp Tryz.f150 0) := by
  intro s K r h
  rw [lk150_0] at h
  unfold LS150_0 VLS150_0 at h
  cases hb : shpSt (h150_0_0 [] 0 0 0 0) s with
  | true =>
    rw [hb, cond_true] at h
    exact ⟨N, by rw [← shpSt_ref hb, fl150_0_0 s]; unfold p150_0_0 at h ⊢; exact (ro150_0_0 N _ K N _ _ _ _ _).trans h⟩
  | false =>
  rw [hb, cond_false] at h
  clear hb
  cases h
theorem vst150_1_0 (N : Nat) (G : Nat) (v0 : List Int) (v1 : Int) (v2 : Int) (v3 : Int) (v4 : Int) (v5 : List Int) (rec_ : St → O β) (K : Exit → St → O β) :
    stB lay (VE150 zq2 zq16 zq141 zq156 zq157 zq159 zq161 zq163 zq165 zq167 N G) Tryz.f150 1 (h150_1_0 v0 v1 v2 v3 v4 v5) rec_ K = zb164 zq163 N (zq167 G) v0 v1 v2 v3 v4 v5 (fun v0 v1 v2 v3 v4 v5 => rec_ (h150_1_0 v0 v1 v2 v3 v4 v5)) (fun y0 => K .ret (x150_1_0_k0 y0)) (K (.exit 3) (x150_1_0_k1 )) := by kernel_rfl
theorem ro150_1_0 (N : Nat) (G : Nat) (K : Exit → St → O β) : ∀ (F : Nat) (v0 : List Int) (v1 : Int) (v2 : Int) (v3 : Int) (v4 : Int) (v5 : List Int), (lp Tryz.f150 1).rounds lay (E150 N G) (retMask Tryz.f150) F (h150_1_0 v0 v1 v2 v3 v4 v5) K = zj165 N (zj167 N G) F v0 v1 v2 v3 v4 v5 (fun y0 => K .ret (x150_1_0_k0 y0)) (K (.exit 3) (x150_1_0_k1 )) := by
  intro F
  induction F with
  | zero => intros; rfl
  | succ F ih =>
    intros
    rw [rounds_next]
    refine (vst150_1_0 (zj2 N) (zj16 N) (zj141 N) (zj156 N) (zj157 N) (zj159 N) (zj161 N) (zj163 N) (zj165 N) (zj167 N) N G _ _ _ _ _ _ (fun s => (lp Tryz.f150 1).rounds lay (E150 N G) (retMask Tryz.f150) F s K) K).trans ?_
    simp only [ih]
    rfl
theorem lk150_3 (N : Nat) (G : Nat) : lookL (E150 (β := β) N G).loops (lp Tryz.f150 1).id = LS150_3 N G := by kernel_rfl
theorem rk150_3 (N : Nat) (G : Nat) : RoundsOK lay (E150 (β := β) N G) (retMask Tryz.f150) (lp Tryz.f150 1) := by
  intro s K r h
  rw [lk150_3] at h
  unfold LS150_3 VLS150_3 at h
  cases hb : shpSt (h150_1_0 [] 0 0 0 0 []) s with
  | true =>
    rw [hb, cond_true] at h
    exact ⟨N, by rw [← shpSt_ref hb, fl150_1_0 s]; exact (ro150_1_0 N G K N (rInts (rowV (oneA (vT (nx tund s.tmps 1))))) (intS (oneA (vT (nx tund s.tmps 54)))) (intS (oneA (vT (nx tund s.tmps 55)))) (intS (nx .und (cellsB (nx .dead s.blks 0)) 0)) (intS (nx .und (cellsB (nx .dead s.blks 0)) 1)) (rInts (rowB_ (nx .dead s.blks 1)))).trans h⟩
  | false =>
  rw [hb, cond_false] at h
  clear hb
  cases h
theorem vst150_2_0 (N : Nat) (G : Nat) (v0 : List Int) (v1 : Int) (v2 : Int) (v3 : Int) (v4 : List Int) (v5 : Int) (v6 : Int) (v7 : Int) (v8 : Int) (v9 : List Int) (rec_ : St → O β) (K : Exit → St → O β) :
    stB lay (VE150 zq2 zq16 zq141 zq156 zq157 zq159 zq161 zq163 zq165 zq167 N G) Tryz.f150 2 (h150_2_0 v0 v1 v2 v3 v4 v5 v6 v7 v8 v9) rec_ K = zb162 zq161 N (zq167 G) v0 v1 v2 v3 v4 v5 v6 v7 v8 v9 (fun v0 v1 v2 v3 v4 v5 v6 v7 v8 v9 => rec_ (h150_2_0 v0 v1 v2 v3 v4 v5 v6 v7 v8 v9)) (fun y0 => K .ret (x150_2_0_k0 y0)) (fun y0 y1 y2 y3 y4 y5 => K (.exit 5) (x150_2_0_k1 y0 y1 y2 y3 y4 y5)) := by kernel_rfl
theorem ro150_2_0 (N : Nat) (G : Nat) (K : Exit → St → O β) : ∀ (F : Nat) (v0 : List Int) (v1 : Int) (v2 : Int) (v3 : Int) (v4 : List Int) (v5 : Int) (v6 : Int) (v7 : Int) (v8 : Int) (v9 : List Int), (lp Tryz.f150 2).rounds lay (E150 N G) (retMask Tryz.f150) F (h150_2_0 v0 v1 v2 v3 v4 v5 v6 v7 v8 v9) K = zj163 N (zj167 N G) F v0 v1 v2 v3 v4 v5 v6 v7 v8 v9 (fun y0 => K .ret (x150_2_0_k0 y0)) (fun y0 y1 y2 y3 y4 y5 => K (.exit 5) (x150_2_0_k1 y0 y1 y2 y3 y4 y5)) := by
  intro F
  induction F with
  | zero => intros; rfl
  | succ F ih =>
    intros
    rw [rounds_next]
    refine (vst150_2_0 (zj2 N) (zj16 N) (zj141 N) (zj156 N) (zj157 N) (zj159 N) (zj161 N) (zj163 N) (zj165 N) (zj167 N) N G _ _ _ _ _ _ _ _ _ _ (fun s => (lp Tryz.f150 2).rounds lay (E150 N G) (retMask Tryz.f150) F s K) K).trans ?_
    simp only [ih]
    rfl
theorem lk150_5 (N : Nat) (G : Nat) : lookL (E150 (β := β) N G).loops (lp Tryz.f150 2).id = LS150_5 N G := by kernel_rfl
theorem rk150_5 (N : Nat) (G : Nat) : RoundsOK lay (E150 (β := β) N G) (retMask Tryz.f150) (lp Tryz.f150 2) := by
  intro s K r h
  rw [lk150_5] at h
  unfold LS150_5 VLS150_5 at h
  cases hb : shpSt (h150_2_0 [] 0 0 0 [] 0 0 0 0 []) s with
  | true =>
    rw [hb, cond_true] at h
    exact ⟨N, by rw [← shpSt_ref hb, fl150_2_0 s]; exact (ro150_2_0 N G K N (rInts (rowV (oneA (vT (nx tund s.tmps 1))))) (intS (oneA (vT (nx tund s.tmps 9)))) (intS (oneA (vT (nx tund s.tmps 54)))) (intS (oneA (vT (nx tund s.tmps 55)))) (rInts (rowV (oneA (vT (nx tund s.tmps 59))))) (intS (oneA (vT (nx tund s.tmps 60)))) (intS (oneA (vT (nx tund s.tmps 61)))) (intS (nx .und (cellsB (nx .dead s.blks 0)) 0)) (intS (nx .und (cellsB (nx .dead s.blks 0)) 1)) (rInts (rowB_ (nx .dead s.blks 1)))).trans h⟩
  | false =>
  rw [hb, cond_false] at h
  clear hb
  cases h
theorem vst150_3_0 (N : Nat) (G : Nat) (v0 : List Int) (v1 : Int) (v2 : Int) (v3 : Int) (v4 : Int) (v5 : Int) (v6 : List Int) (v7 : Int) (v8 : Int) (v9 : List Int) (v10 : Int) (v11 : Int) (v12 : Int) (v13 : Int) (v14 : List Int) (rec_ : St → O β) (K : Exit → St → O β) :
    stB lay (VE150 zq2 zq16 zq141 zq156 zq157 zq159 zq161 zq163 zq165 zq167 N G) Tryz.f150 3 (h150_3_0 v0 v1 v2 v3 v4 v5 v6 v7 v8 v9 v10 v11 v12 v13 v14) rec_ K = zb160 N (zq167 G) v0 v1 v2 v3 v4 v5 v6 v7 v8 v9 v10 v11 v12 v13 v14 (fun v0 v1 v2 v3 v4 v5 v6 v7 v8 v9 v10 v11 v12 v13 v14 => rec_ (h150_3_0 v0 v1 v2 v3 v4 v5 v6 v7 v8 v9 v10 v11 v12 v13 v14)) (fun y0 => K .ret (x150_3_0_k0 y0)) (fun y0 y1 y2 y3 y4 y5 y6 y7 y8 y9 => K (.exit 7) (x150_3_0_k1 y0 y1 y2 y3 y4 y5 y6 y7 y8 y9)) := by kernel_rfl
theorem ro150_3_0 (N : Nat) (G : Nat) (K : Exit → St → O β) : ∀ (F : Nat) (v0 : List Int) (v1 : Int) (v2 : Int) (v3 : Int) (v4 : Int) (v5 : Int) (v6 : List Int) (v7 : Int) (v8 : Int) (v9 : List Int) (v10 : Int) (v11 : Int) (v12 : Int) (v13 : Int) (v14 : List Int), (lp Tryz.f150 3).rounds lay (E150 N G) (retMask Tryz.f150) F (h150_3_0 v0 v1 v2 v3 v4 v5 v6 v7 v8 v9 v10 v11 v12 v13 v14) K = zj161 N (zj167 N G) F v0 v1 v2 v3 v4 v5 v6 v7 v8 v9 v10 v11 v12 v13 v14 (fun y0 => K .ret (x150_3_0_k0 y0)) (fun y0 y1 y2 y3 y4 y5 y6 y7 y8 y9 => K (.exit 7) (x150_3_0_k1 y0 y1 y2 y3 y4 y5 y6 y7 y8 y9)) := by
  intro F
  induction F with
  | zero => intros; rfl
  | succ F ih =>
    intros
    rw [rounds_next]
    refine (vst150_3_0 (zj2 N) (zj16 N) (zj141 N) (zj156 N) (zj157 N) (zj159 N) (zj161 N) (zj163 N) (zj165 N) (zj167 N) N G _ _ _ _ _ _ _ _ _ _ _ _ _ _ _ (fun s => (lp Tryz.f150 3).rounds lay (E150 N G) (retMask Tryz.f150) F s K) K).trans ?_
    simp only [ih]
    rfl
theorem lk150_7 (N : Nat) (G : Nat) : lookL (E150 (β := β) N G).loops (lp Tryz.f150 3).id = LS150_7 N G := by kernel_rfl
theorem rk150_7 (N : Nat) (G : Nat) : RoundsOK lay (E150 (β := β) N G) (retMask Tryz.f150) (lp Tryz.f150 3) := by
  intro s K r h
  rw [lk150_7] at h
  unfold LS150_7 VLS150_7 at h
  cases hb : shpSt (h150_3_0 [] 0 0 0 0 0 [] 0 0 [] 0 0 0 0 []) s with
  | true =>
    rw [hb, cond_true] at h
    exact ⟨N, by rw [← shpSt_ref hb, fl150_3_0 s]; exact (ro150_3_0 N G K N (rInts (rowV (oneA (vT (nx tund s.tmps 1))))) (intS (oneA (vT (nx tund s.tmps 9)))) (intS (oneA (vT (nx tund s.tmps 10)))) (intS (oneA (vT (nx tund s.tmps 11)))) (intS (oneA (vT (nx tund s.tmps 54)))) (intS (oneA (vT (nx tund s.tmps 55)))) (rInts (rowV (oneA (vT (nx tund s.tmps 59))))) (intS (oneA (vT (nx tund s.tmps 60)))) (intS (oneA (vT (nx tund s.tmps 61)))) (rInts (rowV (oneA (vT (nx tund s.tmps 77))))) (intS (oneA (vT (nx tund s.tmps 78)))) (intS (oneA (vT (nx tund s.tmps 79)))) (intS (nx .und (cellsB (nx .dead s.blks 0)) 0)) (intS (nx .und (cellsB (nx .dead s.blks 0)) 1)) (rInts (rowB_ (nx .dead s.blks 1)))).trans h⟩
  | false =>
  rw [hb, cond_false] at h
  clear hb
  cases h
theorem ve150_0 (N : Nat) (G : Nat) (a0 : Int) (a1 : Int) (a2 : List Int) (K : TV → O β) : evFn lay (VE150 zq2 zq16 zq141 zq156 zq157 zq159 zq161 zq163 zq165 zq167 N G) Tryz.f150 [.v (.agg [.int .i64 a0, .int .i64 a1]), .v (.one (.sl 3 (.ints .i64 a2)))] K = zb166 zq2 zq141 zq157 zq159 zq165 N (zq167 G) a0 a1 a2 (fun z3 => K (.v (.one (.str z3)))) := by kernel_rfl
theorem z150 (N : Nat) : ∀ args K r, SF150 (β := β) N 0 args K = some r → (none : O β) = some r := by
  intro args K r h
  unfold SF150 VSF150 at h
  split at h <;> exact h
theorem of150 (N : Nat) : ∀ G, SpecOK (β := β) inv Tryz.prog 150 (SF150 N G) := by
  intro G
  induction G with
  | zero => exact s_zero Tryz.func150 (by kernel_rfl) (z150 N)
  | succ G ih =>
    refine spec_of lay_ok mixed (E := E150 N G) (specs_loops (specs_cons (o211 N) (specs_cons (o103 N) (specs_cons (o41 N) (specs_cons (o212 N) (specs_cons (o174 N) (specs_cons ih specs_nil))))))) muts_nil gs_nil Tryz.func150 (by kernel_rfl) 4 (by kernel_rfl) ⟨⟨⟨⟨trivial, rk150_0 N G⟩, rk150_3 N G⟩, rk150_5 N G⟩, rk150_7 N G⟩ fun args K r h => ?_
    unfold SF150 VSF150 at h
    split at h
    · exact (ve150_0 (zj2 N) (zj16 N) (zj141 N) (zj156 N) (zj157 N) (zj159 N) (zj161 N) (zj163 N) (zj165 N) (zj167 N) N G _ _ _ _).trans h
    · cases h
theorem o150 (N : Nat) : SpecOK (β := β) inv Tryz.prog 150 (S150 N) := of150 N N
end Go.Proofs.YtemihnclhcobnaaGreatDoor
