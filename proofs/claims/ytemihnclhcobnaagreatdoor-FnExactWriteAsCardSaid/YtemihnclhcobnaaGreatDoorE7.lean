/- The functions that the claims reach answer as their texts do. -/
import Derived.Test.YtemihnclhcobnaaGreatDoorE6
namespace Go.Proofs.YtemihnclhcobnaaGreatDoor
open Go.Rv
set_option maxRecDepth 100000
set_option maxHeartbeats 2000000
set_option linter.unusedVariables false
variable {β : Type}
variable (zq110 : Y53 β) (zq116 : Y36 β) (zq125 : Y25 β) (zq126 : Y60 β) (zq130 : Y61 β) (zq133 : Y63 β) (zq135 : Y65 β) (zq137 : Y64 β) (zq138 : Y25 β) (zq139 : Y34 β) (zq140 : Y67 β) (zq141 : Y68 β) (zq142 : Y69 β) (zq144 : Y71 β) (zq146 : Y70 β)
def VS77 (N : Nat) : Rv.Spec β := fun args K => match args with
  | [.v (.agg [.int .i64 a0, .int .i64 a1])] => zq138 a0 a1 (fun z2 => K (.v (.one (.sl 93 (.pairs z2)))))
  | _ => none
def S77 (N : Nat) : Rv.Spec β := VS77 (zj138 N) N
def h77_0_0 (v0 : Int) (v1 : Int) (v2 : Int) (v3 : Int) (v4 : List (Int × Int)) (v5 : List Int) : St := ⟨tund :: .v (.one (.ptr 0 0)) :: tund :: .v (.one (.row 1)) :: .v (.one (.row 2)) :: tn 13 (.v (.one (.row 1)) :: .v (.one (.int .i64 v0)) :: .v (.one (.int .i64 v1)) :: tn 45 []), [.cells 25 [.int .i64 v2, .int .i64 v3], .row 93 (.pairs v4), .row 3 (.ints .i64 v5)]⟩
def x77_0_0_k0 (y0 : Int) (y1 : Int) (y2 : List (Int × Int)) (y3 : List Int) : St := ⟨tund :: .v (.one (.ptr 0 0)) :: tund :: .v (.one (.row 1)) :: .v (.one (.row 2)) :: tn 61 [], [.cells 25 [.int .i64 y0, .int .i64 y1], .row 93 (.pairs y2), .row 3 (.ints .i64 y3)]⟩
def h77_1_0 (v0 : Int) (v1 : Int) (v2 : Int) (v3 : Int) (v4 : List (Int × Int)) (v5 : List Int) : St := ⟨tund :: .v (.one (.ptr 0 0)) :: tund :: .v (.one (.row 1)) :: .v (.one (.row 2)) :: tn 32 (.v (.one (.int .i64 v0)) :: .v (.one (.int .i64 v1)) :: tn 27 []), [.cells 25 [.int .i64 v2, .int .i64 v3], .row 93 (.pairs v4), .row 3 (.ints .i64 v5)]⟩
def x77_1_0_k0 (y0 : List (Int × Int)) : St := ⟨tund :: tund :: .v (.one (.row 0)) :: tn 63 [], [.row 93 (.pairs y0)]⟩
def x77_1_0_k1 : St := ⟨tn 66 [], []⟩
def h77_2_0 (v0 : Int) (v1 : Int) (v2 : List (Int × Int)) (v3 : List (Int × Int)) (v4 : List Int) : St := ⟨tn 3 (.v (.one (.row 0)) :: tn 6 (.v (.one (.row 1)) :: tn 39 (.v (.one (.row 2)) :: .v (.one (.int .i64 v0)) :: .v (.one (.int .i64 v1)) :: tn 13 []))), [.row 93 (.pairs v2), .row 93 (.pairs v3), .row 3 (.ints .i64 v4)]⟩
def x77_2_0_k0 (y0 : List (Int × Int)) : St := ⟨tn 10 (.v (.one (.row 0)) :: tn 55 []), [.row 93 (.pairs y0)]⟩
def p77_0_0 {γ : Type} (f : Int → Int → Int → Int → (List (Int × Int)) → List Int → γ) (s : St) : γ := f (intS (oneA (vT (nx tund s.tmps 19)))) (intS (oneA (vT (nx tund s.tmps 20)))) (intS (nx .und (cellsB (nx .dead s.blks 0)) 0)) (intS (nx .und (cellsB (nx .dead s.blks 0)) 1)) (rPairs (rowB_ (nx .dead s.blks 1))) (rInts (rowB_ (nx .dead s.blks 2)))
theorem fl77_0_0 (s : St) : refSt (h77_0_0 0 0 0 0 [] []) s = p77_0_0 h77_0_0 s := by kernel_rfl
def VLS77_0 (N : Nat) : LSpec β := fun s K => cond (shpSt (h77_0_0 0 0 0 0 [] []) s) (p77_0_0 (fun v0 v1 v2 v3 v4 v5 => zq133 N v0 v1 v2 v3 v4 v5 (fun y0 y1 y2 y3 => K (.exit 0) (x77_0_0_k0 y0 y1 y2 y3))) s) (none)
def LS77_0 (N : Nat) : LSpec β := VLS77_0 (zj133 N) N
def p77_1_0 {γ : Type} (f : Int → Int → Int → Int → (List (Int × Int)) → List Int → γ) (s : St) : γ := f (intS (oneA (vT (nx tund s.tmps 37)))) (intS (oneA (vT (nx tund s.tmps 38)))) (intS (nx .und (cellsB (nx .dead s.blks 0)) 0)) (intS (nx .und (cellsB (nx .dead s.blks 0)) 1)) (rPairs (rowB_ (nx .dead s.blks 1))) (rInts (rowB_ (nx .dead s.blks 2)))
theorem fl77_1_0 (s : St) : refSt (h77_1_0 0 0 0 0 [] []) s = p77_1_0 h77_1_0 s := by kernel_rfl
def VLS77_2 (N : Nat) : LSpec β := fun s K => cond (shpSt (h77_1_0 0 0 0 0 [] []) s) ((fun (v0 : Int) (v1 : Int) (v2 : Int) (v3 : Int) (v4 : List (Int × Int)) (v5 : List Int) => zq137 N v0 v1 v2 v3 v4 v5 (fun y0 => K .ret (x77_1_0_k0 y0)) (K (.exit 2) (x77_1_0_k1 ))) (intS (oneA (vT (nx tund s.tmps 37)))) (intS (oneA (vT (nx tund s.tmps 38)))) (intS (nx .und (cellsB (nx .dead s.blks 0)) 0)) (intS (nx .und (cellsB (nx .dead s.blks 0)) 1)) (rPairs (rowB_ (nx .dead s.blks 1))) (rInts (rowB_ (nx .dead s.blks 2)))) (none)
def LS77_2 (N : Nat) : LSpec β := VLS77_2 (zj137 N) N
def p77_2_0 {γ : Type} (f : Int → Int → (List (Int × Int)) → (List (Int × Int)) → List Int → γ) (s : St) : γ := f (intS (oneA (vT (nx tund s.tmps 51)))) (intS (oneA (vT (nx tund s.tmps 52)))) (rPairs (rowB_ (nx .dead s.blks 0))) (rPairs (rowB_ (nx .dead s.blks 1))) (rInts (rowB_ (nx .dead s.blks 2)))
theorem fl77_2_0 (s : St) : refSt (h77_2_0 0 0 [] [] []) s = p77_2_0 h77_2_0 s := by kernel_rfl
def VLS77_4 (N : Nat) : LSpec β := fun s K => cond (shpSt (h77_2_0 0 0 [] [] []) s) ((fun (v0 : Int) (v1 : Int) (v2 : List (Int × Int)) (v3 : List (Int × Int)) (v4 : List Int) => zq135 N v0 v1 v2 v3 v4 (fun y0 => K (.exit 4) (x77_2_0_k0 y0))) (intS (oneA (vT (nx tund s.tmps 51)))) (intS (oneA (vT (nx tund s.tmps 52)))) (rPairs (rowB_ (nx .dead s.blks 0))) (rPairs (rowB_ (nx .dead s.blks 1))) (rInts (rowB_ (nx .dead s.blks 2)))) (none)
def LS77_4 (N : Nat) : LSpec β := VLS77_4 (zj135 N) N
def VE77 (N : Nat) : Env β := ⟨[(86, VS86 zq125 N), (136, VS136 zq126 N), (147, VS147 zq130 N)], [], [(0, VLS77_0 zq133 N), (2, VLS77_2 zq137 N), (4, VLS77_4 zq135 N)], [], ⟨[], [], [], []⟩⟩
def E77 (N : Nat) : Env β := VE77 (zj125 N) (zj126 N) (zj130 N) (zj133 N) (zj135 N) (zj137 N) N
theorem vst77_0_0 (N : Nat) (v0 : Int) (v1 : Int) (v2 : Int) (v3 : Int) (v4 : List (Int × Int)) (v5 : List Int) (rec_ : St → O β) (K : Exit → St → O β) :
    stB lay (VE77 zq125 zq126 zq130 zq133 zq135 zq137 N) Tryz.f77 0 (h77_0_0 v0 v1 v2 v3 v4 v5) rec_ K = zb132 zq126 N v0 v1 v2 v3 v4 v5 (fun v0 v1 v2 v3 v4 v5 => rec_ (h77_0_0 v0 v1 v2 v3 v4 v5)) (fun y0 y1 y2 y3 => K (.exit 0) (x77_0_0_k0 y0 y1 y2 y3)) := by kernel_rfl
theorem ro77_0_0 (N : Nat) (K : Exit → St → O β) : ∀ (F : Nat) (v0 : Int) (v1 : Int) (v2 : Int) (v3 : Int) (v4 : List (Int × Int)) (v5 : List Int), (lp Tryz.f77 0).rounds lay (E77 N) (retMask Tryz.f77) F (h77_0_0 v0 v1 v2 v3 v4 v5) K = zj133 N F v0 v1 v2 v3 v4 v5 (fun y0 y1 y2 y3 => K (.exit 0) (x77_0_0_k0 y0 y1 y2 y3)) := by
  intro F
  induction F with
  | zero => intros; rfl
  | succ F ih =>
    intros
    rw [rounds_next]
    refine (vst77_0_0 (zj125 N) (zj126 N) (zj130 N) (zj133 N) (zj135 N) (zj137 N) N _ _ _ _ _ _ (fun s => (lp Tryz.f77 0).rounds lay (E77 N) (retMask Tryz.f77) F s K) K).trans ?_
    simp only [ih]
    rfl
theorem lk77_0 (N : Nat) : lookL (E77 (β := β) N).loops (lp Tryz.f77 0).id = LS77_0 N := by kernel_rfl
theorem rk77_0 (N : Nat) : RoundsOK lay (E77 (β := β) N) (retMask Tryz.f77) (lp Tryz.f77 0) := by
  intro s K r h
  rw [lk77_0] at h
  unfold LS77_0 VLS77_0 at h
  cases hb : shpSt (h77_0_0 0 0 0 0 [] []) s with
  | true =>
    rw [hb, cond_true] at h
    exact ⟨N, by rw [← shpSt_ref hb, fl77_0_0 s]; unfold p77_0_0 at h ⊢; exact (ro77_0_0 N K N _ _ _ _ _ _).trans h⟩
  | false =>
  rw [hb, cond_false] at h
  clear hb
  cases h
theorem vst77_1_0 (N : Nat) (v0 : Int) (v1 : Int) (v2 : Int) (v3 : Int) (v4 : List (Int × Int)) (v5 : List Int) (rec_ : St → O β) (K : Exit → St → O β) :
    stB lay (VE77 zq125 zq126 zq130 zq133 zq135 zq137 N) Tryz.f77 1 (h77_1_0 v0 v1 v2 v3 v4 v5) rec_ K = zb136 (zq130 N) zq135 N v0 v1 v2 v3 v4 v5 (fun v0 v1 v2 v3 v4 v5 => rec_ (h77_1_0 v0 v1 v2 v3 v4 v5)) (fun y0 => K .ret (x77_1_0_k0 y0)) (K (.exit 2) (x77_1_0_k1 )) := by kernel_rfl
theorem ro77_1_0 (N : Nat) (K : Exit → St → O β) : ∀ (F : Nat) (v0 : Int) (v1 : Int) (v2 : Int) (v3 : Int) (v4 : List (Int × Int)) (v5 : List Int), (lp Tryz.f77 1).rounds lay (E77 N) (retMask Tryz.f77) F (h77_1_0 v0 v1 v2 v3 v4 v5) K = zj137 N F v0 v1 v2 v3 v4 v5 (fun y0 => K .ret (x77_1_0_k0 y0)) (K (.exit 2) (x77_1_0_k1 )) := by
  intro F
  induction F with
  | zero => intros; rfl
  | succ F ih =>
    intros
    rw [rounds_next]
    refine (vst77_1_0 (zj125 N) (zj126 N) (zj130 N) (zj133 N) (zj135 N) (zj137 N) N _ _ _ _ _ _ (fun s => (lp Tryz.f77 1).rounds lay (E77 N) (retMask Tryz.f77) F s K) K).trans ?_
    simp only [ih]
    rfl
theorem lk77_2 (N : Nat) : lookL (E77 (β := β) N).loops (lp Tryz.f77 1).id = LS77_2 N := by kernel_rfl
theorem rk77_2 (N : Nat) : RoundsOK lay (E77 (β := β) N) (retMask Tryz.f77) (lp Tryz.f77 1) := by
  intro s K r h
  rw [lk77_2] at h
  unfold LS77_2 VLS77_2 at h
  cases hb : shpSt (h77_1_0 0 0 0 0 [] []) s with
  | true =>
    rw [hb, cond_true] at h
    exact ⟨N, by rw [← shpSt_ref hb, fl77_1_0 s]; exact (ro77_1_0 N K N (intS (oneA (vT (nx tund s.tmps 37)))) (intS (oneA (vT (nx tund s.tmps 38)))) (intS (nx .und (cellsB (nx .dead s.blks 0)) 0)) (intS (nx .und (cellsB (nx .dead s.blks 0)) 1)) (rPairs (rowB_ (nx .dead s.blks 1))) (rInts (rowB_ (nx .dead s.blks 2)))).trans h⟩
  | false =>
  rw [hb, cond_false] at h
  clear hb
  cases h
theorem vst77_2_0 (N : Nat) (v0 : Int) (v1 : Int) (v2 : List (Int × Int)) (v3 : List (Int × Int)) (v4 : List Int) (rec_ : St → O β) (K : Exit → St → O β) :
    stB lay (VE77 zq125 zq126 zq130 zq133 zq135 zq137 N) Tryz.f77 2 (h77_2_0 v0 v1 v2 v3 v4) rec_ K = zb134 N v0 v1 v2 v3 v4 (fun v0 v1 v2 v3 v4 => rec_ (h77_2_0 v0 v1 v2 v3 v4)) (fun y0 => K (.exit 4) (x77_2_0_k0 y0)) := by kernel_rfl
theorem ro77_2_0 (N : Nat) (K : Exit → St → O β) : ∀ (F : Nat) (v0 : Int) (v1 : Int) (v2 : List (Int × Int)) (v3 : List (Int × Int)) (v4 : List Int), (lp Tryz.f77 2).rounds lay (E77 N) (retMask Tryz.f77) F (h77_2_0 v0 v1 v2 v3 v4) K = zj135 N F v0 v1 v2 v3 v4 (fun y0 => K (.exit 4) (x77_2_0_k0 y0)) := by
  intro F
  induction F with
  | zero => intros; rfl
  | succ F ih =>
    intros
    rw [rounds_next]
    refine (vst77_2_0 (zj125 N) (zj126 N) (zj130 N) (zj133 N) (zj135 N) (zj137 N) N _ _ _ _ _ (fun s => (lp Tryz.f77 2).rounds lay (E77 N) (retMask Tryz.f77) F s K) K).trans ?_
    simp only [ih]
    rfl
theorem lk77_4 (N : Nat) : lookL (E77 (β := β) N).loops (lp Tryz.f77 2).id = LS77_4 N := by kernel_rfl
theorem rk77_4 (N : Nat) : RoundsOK lay (E77 (β := β) N) (retMask Tryz.f77) (lp Tryz.f77 2) := by
  intro s K r h
  rw [lk77_4] at h
  unfold LS77_4 VLS77_4 at h
  cases hb : shpSt (h77_2_0 0 0 [] [] []) s with
  | true =>
    rw [hb, cond_true] at h
    exact ⟨N, by rw [← shpSt_ref hb, fl77_2_0 s]; exact (ro77_2_0 N K N (intS (oneA (vT (nx tund s.tmps 51)))) (intS (oneA (vT (nx tund s.tmps 52)))) (rPairs (rowB_ (nx .dead s.blks 0))) (rPairs (rowB_ (nx .dead s.blks 1))) (rInts (rowB_ (nx .dead s.blks 2)))).trans h⟩
  | false =>
  rw [hb, cond_false] at h
  clear hb
  cases h
theorem ve77_0 (N : Nat) (a0 : Int) (a1 : Int) (K : TV → O β) : evFn lay (VE77 zq125 zq126 zq130 zq133 zq135 zq137 N) Tryz.f77 [.v (.agg [.int .i64 a0, .int .i64 a1])] K = zb138 zq125 zq133 zq137 N a0 a1 (fun z2 => K (.v (.one (.sl 93 (.pairs z2))))) := by kernel_rfl
theorem o77 (N : Nat) : SpecOK (β := β) inv Tryz.prog 77 (S77 N) := by
  refine spec_of lay_ok mixed (E := E77 N) (specs_loops (specs_cons (o86 N) (specs_cons (o136 N) (specs_cons (o147 N) specs_nil)))) muts_nil gs_nil Tryz.func77 (by kernel_rfl) 3 (by kernel_rfl) ⟨⟨⟨trivial, rk77_0 N⟩, rk77_2 N⟩, rk77_4 N⟩ fun args K r h => ?_
  unfold S77 VS77 at h
  split at h
  · exact (ve77_0 (zj125 N) (zj126 N) (zj130 N) (zj133 N) (zj135 N) (zj137 N) N _ _ _).trans h
  · cases h
def VS76 (N : Nat) : Rv.Spec β := fun args K => match args with
  | [.v (.one (.int .i64 a0)), .v (.one (.sl 93 (.pairs a1)))] => zq139 a0 a1 (fun z2 => K (.v (.one (.str z2))))
  | _ => none
def S76 (N : Nat) : Rv.Spec β := VS76 (zj139 N) N
def VE76 (N : Nat) : Env β := ⟨[(146, VS146 zq110 N)], [], [], [], ⟨[], [], [], []⟩⟩
def E76 (N : Nat) : Env β := VE76 (zj110 N) N
theorem ve76_0 (N : Nat) (a0 : Int) (a1 : List (Int × Int)) (K : TV → O β) : evFn lay (VE76 zq110 N) Tryz.f76 [.v (.one (.int .i64 a0)), .v (.one (.sl 93 (.pairs a1)))] K = zb139 zq110 N a0 a1 (fun z2 => K (.v (.one (.str z2)))) := by kernel_rfl
theorem o76 (N : Nat) : SpecOK (β := β) inv Tryz.prog 76 (S76 N) := by
  refine spec_of lay_ok mixed (E := E76 N) (specs_loops (specs_cons (o146 N) specs_nil)) muts_nil gs_nil Tryz.func76 (by kernel_rfl) 0 (by kernel_rfl) trivial fun args K r h => ?_
  unfold S76 VS76 at h
  split at h
  · exact (ve76_0 (zj110 N) N _ _ _).trans h
  · cases h
def VS148 (N : Nat) : GSpec β := fun args bl K => match args, bl with
  | [.v (.agg [.int .i64 a0, .int .i64 a1])], [] => zq140 a0 a1 (fun y0 y1 y2 y3 => K (.v (.one (.ptr 0 0))) [.cells 173 [.int .i64 y0, .int .i64 y1, .mp 1, .mp 2], .mp ⟨true, false⟩ y2, .mp ⟨true, false⟩ y3])
  | _, _ => none
def S148 (N : Nat) : GSpec β := VS148 (zj140 N) N
def VE148 (N : Nat) : Env β := ⟨[], [], [], [], ⟨[], [], [], []⟩⟩
def E148 (N : Nat) : Env β := VE148 N
theorem ve148_0 (N : Nat) (a0 : Int) (a1 : Int) (K : TV → List Blk → O β) : evFnG lay (VE148 N) Tryz.f148 [.v (.agg [.int .i64 a0, .int .i64 a1])] [] K = zb140 N a0 a1 (fun y0 y1 y2 y3 => K (.v (.one (.ptr 0 0))) [.cells 173 [.int .i64 y0, .int .i64 y1, .mp 1, .mp 2], .mp ⟨true, false⟩ y2, .mp ⟨true, false⟩ y3]) := by kernel_rfl
theorem o148 (N : Nat) : GOK (β := β) inv Tryz.prog 148 (S148 N) := by
  refine g_of lay_ok mixed (E := E148 N) (specs_loops specs_nil) muts_nil gs_nil Tryz.func148 (by kernel_rfl) 0 (by kernel_rfl) trivial fun args bl K r h => ?_
  unfold S148 VS148 at h
  split at h
  · exact (ve148_0 N _ _ _).trans h
  · cases h
def VS41 (N : Nat) : Rv.Spec β := fun args K => match args with
  | [.v (.one (.int .i64 a0))] => zq141 a0 (fun z1 => K (.v (.one (.str z1))))
  | _ => none
def S41 (N : Nat) : Rv.Spec β := VS41 (zj141 N) N
def VE41 (N : Nat) : Env β := ⟨[(104, S104 N)], [], [], [], ⟨[], [], [], []⟩⟩
def E41 (N : Nat) : Env β := VE41 N
theorem ve41_0 (N : Nat) (a0 : Int) (K : TV → O β) : evFn lay (VE41 N) Tryz.f41 [.v (.one (.int .i64 a0))] K = zb141 N a0 (fun z1 => K (.v (.one (.str z1)))) := by kernel_rfl
theorem o41 (N : Nat) : SpecOK (β := β) inv Tryz.prog 41 (S41 N) := by
  refine spec_of lay_ok mixed (E := E41 N) (specs_loops (specs_cons (o104 N) specs_nil)) muts_nil gs_nil Tryz.func41 (by kernel_rfl) 0 (by kernel_rfl) trivial fun args K r h => ?_
  unfold S41 VS41 at h
  split at h
  · exact (ve41_0 N _ _).trans h
  · cases h
def VS210 (N : Nat) : Rv.Spec β := fun args K => match args with
  | [.v (.agg [.int .i64 a0, .int .i64 a1]), .v (.one (.int .i64 a2)), .v (.one (.int .i64 a3))] => zq142 a0 a1 a2 a3 (fun z4 z5 => K (.v (.agg [.int .i64 z4, .int .i64 z5])))
  | _ => none
def S210 (N : Nat) : Rv.Spec β := VS210 (zj142 N) N
def VE210 (N : Nat) : Env β := ⟨[], [], [], [], ⟨[], [], [], []⟩⟩
def E210 (N : Nat) : Env β := VE210 N
theorem ve210_0 (N : Nat) (a0 : Int) (a1 : Int) (a2 : Int) (a3 : Int) (K : TV → O β) : evFn lay (VE210 N) Tryz.f210 [.v (.agg [.int .i64 a0, .int .i64 a1]), .v (.one (.int .i64 a2)), .v (.one (.int .i64 a3))] K = zb142 N a0 a1 a2 a3 (fun z4 z5 => K (.v (.agg [.int .i64 z4, .int .i64 z5]))) := by kernel_rfl
theorem o210 (N : Nat) : SpecOK (β := β) inv Tryz.prog 210 (S210 N) := by
  refine spec_of lay_ok mixed (E := E210 N) (specs_loops specs_nil) muts_nil gs_nil Tryz.func210 (by kernel_rfl) 0 (by kernel_rfl) trivial fun args K r h => ?_
  unfold S210 VS210 at h
  split at h
  · exact (ve210_0 N _ _ _ _ _).trans h
  · cases h
def VSF237 (N : Nat) (G : Nat) : GSpec β := fun args bl K => match args, bl with
  | [.v (.one (.ptr 0 0)), .v (.agg [.int .i64 a0, .int .i64 a1])], [.pcells 0 173 [.int .i64 a2, .int .i64 a3, .mp 1, .mp 2], .pmp 1 ⟨true, false⟩ a4, .pmp 2 ⟨true, false⟩ a5] => zq146 G a0 a1 a2 a3 a4 a5 (fun y0 y1 y2 y3 y4 => K (.v (.one (.int .i64 y0))) [.pcells 0 173 [.int .i64 y1, .int .i64 y2, .mp 1, .mp 2], .pmp 1 ⟨true, false⟩ y3, .pmp 2 ⟨true, false⟩ y4])
  | _, _ => none
def SF237 (N : Nat) (G : Nat) : GSpec β := VSF237 (zj146 N) N G
def VS237 (N : Nat) : GSpec β := VSF237 zq146 N N
def S237 (N : Nat) : GSpec β := SF237 N N
def h237_0_0 (v0 : Int) (v1 : Int) (v2 : Int) (v3 : Int) (v4 : Int) (v5 : Mp) (v6 : Mp) (v7 : Int) (v8 : Int) : St := ⟨.v (.one (.ptr 0 0)) :: tund :: tund :: .v (.one (.ptr 3 0)) :: tn 3 (.v (.one (.int .i64 v0)) :: tn 31 (.v (.one (.int .i64 v1)) :: .v (.one (.int .i64 v2)) :: tn 30 [])), [.pcells 0 173 [.int .i64 v3, .int .i64 v4, .mp 1, .mp 2], .pmp 1 ⟨true, false⟩ v5, .pmp 2 ⟨true, false⟩ v6, .cells 123 [.int .i64 v7, .int .i64 v8]]⟩
def x237_0_0_k0 (y0 : Int) (y1 : Int) (y2 : Int) (y3 : Mp) (y4 : Mp) (y5 : Int) (y6 : Int) : St := ⟨.v (.one (.ptr 0 0)) :: tund :: tund :: .v (.one (.ptr 3 0)) :: tn 3 (.v (.one (.int .i64 y0)) :: tn 63 []), [.pcells 0 173 [.int .i64 y1, .int .i64 y2, .mp 1, .mp 2], .pmp 1 ⟨true, false⟩ y3, .pmp 2 ⟨true, false⟩ y4, .cells 123 [.int .i64 y5, .int .i64 y6]]⟩
def p237_0_0 {γ : Type} (f : Int → Int → Int → Int → Int → Mp → Mp → Int → Int → γ) (s : St) : γ := f (intS (oneA (vT (nx tund s.tmps 7)))) (intS (oneA (vT (nx tund s.tmps 39)))) (intS (oneA (vT (nx tund s.tmps 40)))) (intS (nx .und (cellsB (nx .dead s.blks 0)) 0)) (intS (nx .und (cellsB (nx .dead s.blks 0)) 1)) (mpB (nx .dead s.blks 1)) (mpB (nx .dead s.blks 2)) (intS (nx .und (cellsB (nx .dead s.blks 3)) 0)) (intS (nx .und (cellsB (nx .dead s.blks 3)) 1))
theorem fl237_0_0 (s : St) : refSt (h237_0_0 0 0 0 0 0 [] [] 0 0) s = p237_0_0 h237_0_0 s := by kernel_rfl
def VLS237_0 (N : Nat) (G : Nat) : LSpec β := fun s K => cond (shpSt (h237_0_0 0 0 0 0 0 [] [] 0 0) s) (p237_0_0 (fun v0 v1 v2 v3 v4 v5 v6 v7 v8 => zq144 (zq146 G) N v0 v1 v2 v3 v4 v5 v6 v7 v8 (fun y0 y1 y2 y3 y4 y5 y6 => K (.exit 0) (x237_0_0_k0 y0 y1 y2 y3 y4 y5 y6))) s) (none)
def LS237_0 (N : Nat) (G : Nat) : LSpec β := VLS237_0 (zj144 N) (zj146 N) N G
def VE237 (N : Nat) (G : Nat) : Env β := ⟨[(209, VS209 zq116 N), (210, VS210 zq142 N)], [], [(0, VLS237_0 zq144 zq146 N G)], [(237, VSF237 zq146 N G)], ⟨[], [], [], []⟩⟩
def E237 (N : Nat) (G : Nat) : Env β := VE237 (zj116 N) (zj142 N) (zj144 N) (zj146 N) N G
theorem vst237_0_0 (N : Nat) (G : Nat) (v0 : Int) (v1 : Int) (v2 : Int) (v3 : Int) (v4 : Int) (v5 : Mp) (v6 : Mp) (v7 : Int) (v8 : Int) (rec_ : St → O β) (K : Exit → St → O β) :
    stB lay (VE237 zq116 zq142 zq144 zq146 N G) Tryz.f237 0 (h237_0_0 v0 v1 v2 v3 v4 v5 v6 v7 v8) rec_ K = zb143 zq142 N (zq146 G) v0 v1 v2 v3 v4 v5 v6 v7 v8 (fun v0 v1 v2 v3 v4 v5 v6 v7 v8 => rec_ (h237_0_0 v0 v1 v2 v3 v4 v5 v6 v7 v8)) (fun y0 y1 y2 y3 y4 y5 y6 => K (.exit 0) (x237_0_0_k0 y0 y1 y2 y3 y4 y5 y6)) := by kernel_rfl
theorem ro237_0_0 (N : Nat) (G : Nat) (K : Exit → St → O β) : ∀ (F : Nat) (v0 : Int) (v1 : Int) (v2 : Int) (v3 : Int) (v4 : Int) (v5 : Mp) (v6 : Mp) (v7 : Int) (v8 : Int), (lp Tryz.f237 0).rounds lay (E237 N G) (retMask Tryz.f237) F (h237_0_0 v0 v1 v2 v3 v4 v5 v6 v7 v8) K = zj144 N (zj146 N G) F v0 v1 v2 v3 v4 v5 v6 v7 v8 (fun y0 y1 y2 y3 y4 y5 y6 => K (.exit 0) (x237_0_0_k0 y0 y1 y2 y3 y4 y5 y6)) := by
  intro F
  induction F with
  | zero => intros; rfl
  | succ F ih =>
    intros
    rw [rounds_next]
    refine (vst237_0_0 (zj116 N) (zj142 N) (zj144 N) (zj146 N) N G _ _ _ _ _ _ _ _ _ (fun s => (lp Tryz.f237 0).rounds lay (E237 N G) (retMask Tryz.f237) F s K) K).trans ?_
    simp only [ih]
    rfl
theorem lk237_0 (N : Nat) (G : Nat) : lookL (E237 (β := β) N G).loops (lp Tryz.f237 0).id = LS237_0 N G := by kernel_rfl
theorem rk237_0 (N : Nat) (G : Nat) : RoundsOK lay (E237 (β := β) N G) (retMask Tryz.f237) (lp Tryz.f237 0) := by
  intro s K r h
  rw [lk237_0] at h
  unfold LS237_0 VLS237_0 at h
  cases hb : shpSt (h237_0_0 0 0 0 0 0 [] [] 0 0) s with
  | true =>
    rw [hb, cond_true] at h
    exact ⟨N, by rw [← shpSt_ref hb, fl237_0_0 s]; unfold p237_0_0 at h ⊢; exact (ro237_0_0 N _ K N _ _ _ _ _ _ _ _ _).trans h⟩
  | false =>
  rw [hb, cond_false] at h
  clear hb
  cases h
theorem ve237_0 (N : Nat) (G : Nat) (a0 : Int) (a1 : Int) (a2 : Int) (a3 : Int) (a4 : Mp) (a5 : Mp) (K : TV → List Blk → O β) : evFnG lay (VE237 zq116 zq142 zq144 zq146 N G) Tryz.f237 [.v (.one (.ptr 0 0)), .v (.agg [.int .i64 a0, .int .i64 a1])] [.pcells 0 173 [.int .i64 a2, .int .i64 a3, .mp 1, .mp 2], .pmp 1 ⟨true, false⟩ a4, .pmp 2 ⟨true, false⟩ a5] K = zb145 zq116 zq144 N (zq146 G) a0 a1 a2 a3 a4 a5 (fun y0 y1 y2 y3 y4 => K (.v (.one (.int .i64 y0))) [.pcells 0 173 [.int .i64 y1, .int .i64 y2, .mp 1, .mp 2], .pmp 1 ⟨true, false⟩ y3, .pmp 2 ⟨true, false⟩ y4]) := by kernel_rfl
theorem z237 (N : Nat) : ∀ args bl K r, SF237 (β := β) N 0 args bl K = some r → (none : O β) = some r := by
  intro args bl K r h
  unfold SF237 VSF237 at h
  split at h <;> exact h
theorem of237 (N : Nat) : ∀ G, GOK (β := β) inv Tryz.prog 237 (SF237 N G) := by
  intro G
  induction G with
  | zero => exact g_zero Tryz.func237 (by kernel_rfl) (z237 N)
  | succ G ih =>
    refine g_of lay_ok mixed (E := E237 N G) (specs_loops (specs_cons (o209 N) (specs_cons (o210 N) specs_nil))) muts_nil (gs_cons ih gs_nil) Tryz.func237 (by kernel_rfl) 1 (by kernel_rfl) ⟨trivial, rk237_0 N G⟩ fun args bl K r h => ?_
    unfold SF237 VSF237 at h
    split at h
    · exact (ve237_0 (zj116 N) (zj142 N) (zj144 N) (zj146 N) N G _ _ _ _ _ _ _).trans h
    · cases h
theorem o237 (N : Nat) : GOK (β := β) inv Tryz.prog 237 (S237 N) := of237 N N
end Go.Proofs.YtemihnclhcobnaaGreatDoor
