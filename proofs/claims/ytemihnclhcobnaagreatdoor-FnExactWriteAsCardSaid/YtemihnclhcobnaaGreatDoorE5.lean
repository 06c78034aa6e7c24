/- The functions that the claims reach answer as their texts do. -/
import Derived.Test.YtemihnclhcobnaaGreatDoorE4
namespace Go.Proofs.YtemihnclhcobnaaGreatDoor
open Go.Rv
set_option maxRecDepth 100000
set_option maxHeartbeats 2000000
set_option linter.unusedVariables false
variable {β : Type}
variable (zq0 : Y0 β) (zq1 : Y1 β) (zq2 : Y2 β) (zq5 : Y3 β) (zq12 : Y8 β) (zq15 : Y9 β) (zq26 : Y0 β) (zq29 : Y16 β) (zq41 : Y16 β) (zq61 : Y30 β) (zq67 : Y34 β) (zq81 : Y41 β) (zq94 : Y41 β) (zq95 : Y50 β) (zq96 : Y51 β) (zq97 : Y0 β) (zq98 : Y3 β) (zq100 : Y52 β) (zq101 : Y16 β) (zq102 : Y11 β) (zq103 : Y0 β) (zq104 : Y3 β) (zq106 : Y52 β) (zq107 : Y19 β) (zq109 : Y54 β) (zq110 : Y53 β) (zq112 : Y55 β) (zq113 : Y16 β)
def VS14 (N : Nat) : Rv.Spec β := fun args K => match args with
  | [.v (.one (.str a0)), .v (.agg [.int .i64 a1, .int .i64 a2])] => zq95 a0 a1 a2 (fun z3 z4 => K (.tup [.one (.str z3), .one (.bool z4)]))
  | _ => none
def S14 (N : Nat) : Rv.Spec β := VS14 (zj95 N) N
def VE14 (N : Nat) : Env β := ⟨[(20, VS20 zq26 N), (22, VS22 zq29 N), (70, VS70 zq41 N), (71, VS71 zq61 N), (72, VS72 zq67 N), (73, VS73 zq81 N), (74, VS74 zq94 N)], [], [], [], ⟨[], [], [], []⟩⟩
def E14 (N : Nat) : Env β := VE14 (zj26 N) (zj29 N) (zj41 N) (zj61 N) (zj67 N) (zj81 N) (zj94 N) N
theorem ve14_0 (N : Nat) (a0 : ByteArray) (a1 : Int) (a2 : Int) (K : TV → O β) : evFn lay (VE14 zq26 zq29 zq41 zq61 zq67 zq81 zq94 N) Tryz.f14 [.v (.one (.str a0)), .v (.agg [.int .i64 a1, .int .i64 a2])] K = zb95 zq26 zq29 zq41 zq61 zq67 zq81 zq94 N a0 a1 a2 (fun z3 z4 => K (.tup [.one (.str z3), .one (.bool z4)])) := by kernel_rfl
theorem o14 (N : Nat) : SpecOK (β := β) inv Tryz.prog 14 (S14 N) := by
  refine spec_of lay_ok mixed (E := E14 N) (specs_loops (specs_cons (o20 N) (specs_cons (o22 N) (specs_cons (o70 N) (specs_cons (o71 N) (specs_cons (o72 N) (specs_cons (o73 N) (specs_cons (o74 N) specs_nil)))))))) muts_nil gs_nil Tryz.func14 (by kernel_rfl) 0 (by kernel_rfl) trivial fun args K r h => ?_
  unfold S14 VS14 at h
  split at h
  · exact (ve14_0 (zj26 N) (zj29 N) (zj41 N) (zj61 N) (zj67 N) (zj81 N) (zj94 N) N _ _ _ _).trans h
  · cases h
def VS99 (N : Nat) : Rv.Spec β := fun args K => match args with
  | [.v (.one (.int .i64 a0))] => zq96 a0 (fun z1 => K (.v (.one (.bool z1))))
  | _ => none
def S99 (N : Nat) : Rv.Spec β := VS99 (zj96 N) N
def VE99 (N : Nat) : Env β := ⟨[], [], [], [], ⟨[], [], [], []⟩⟩
def E99 (N : Nat) : Env β := VE99 N
theorem ve99_0 (N : Nat) (a0 : Int) (K : TV → O β) : evFn lay (VE99 N) Tryz.f99 [.v (.one (.int .i64 a0))] K = zb96 N a0 (fun z1 => K (.v (.one (.bool z1)))) := by kernel_rfl
theorem o99 (N : Nat) : SpecOK (β := β) inv Tryz.prog 99 (S99 N) := by
  refine spec_of lay_ok mixed (E := E99 N) (specs_loops specs_nil) muts_nil gs_nil Tryz.func99 (by kernel_rfl) 0 (by kernel_rfl) trivial fun args K r h => ?_
  unfold S99 VS99 at h
  split at h
  · exact (ve99_0 N _ _).trans h
  · cases h
def VS37 (N : Nat) : Rv.Spec β := fun args K => match args with
  | [.v (.agg [.int .i64 a0, .int .i64 a1])] => zq97 a0 a1 (fun z2 => K (.v (.one (.bool z2))))
  | _ => none
def S37 (N : Nat) : Rv.Spec β := VS37 (zj97 N) N
def VE37 (N : Nat) : Env β := ⟨[(99, VS99 zq96 N), (100, VS100 zq1 N)], [], [], [], ⟨[], [], [], []⟩⟩
def E37 (N : Nat) : Env β := VE37 (zj1 N) (zj96 N) N
theorem ve37_0 (N : Nat) (a0 : Int) (a1 : Int) (K : TV → O β) : evFn lay (VE37 zq1 zq96 N) Tryz.f37 [.v (.agg [.int .i64 a0, .int .i64 a1])] K = zb97 zq1 zq96 N a0 a1 (fun z2 => K (.v (.one (.bool z2)))) := by kernel_rfl
theorem o37 (N : Nat) : SpecOK (β := β) inv Tryz.prog 37 (S37 N) := by
  refine spec_of lay_ok mixed (E := E37 N) (specs_loops (specs_cons (o99 N) (specs_cons (o100 N) specs_nil))) muts_nil gs_nil Tryz.func37 (by kernel_rfl) 0 (by kernel_rfl) trivial fun args K r h => ?_
  unfold S37 VS37 at h
  split at h
  · exact (ve37_0 (zj1 N) (zj96 N) N _ _ _).trans h
  · cases h
def VS45 (N : Nat) : Rv.Spec β := fun args K => match args with
  | [.v (.agg [.int .i64 a0, .int .i64 a1]), .v (.one (.int .i64 a2))] => zq98 a0 a1 a2 (fun z3 => K (.v (.one (.bool z3))))
  | _ => none
def S45 (N : Nat) : Rv.Spec β := VS45 (zj98 N) N
def VE45 (N : Nat) : Env β := ⟨[(37, VS37 zq97 N)], [], [], [], ⟨[], [], [], []⟩⟩
def E45 (N : Nat) : Env β := VE45 (zj97 N) N
theorem ve45_0 (N : Nat) (a0 : Int) (a1 : Int) (a2 : Int) (K : TV → O β) : evFn lay (VE45 zq97 N) Tryz.f45 [.v (.agg [.int .i64 a0, .int .i64 a1]), .v (.one (.int .i64 a2))] K = zb98 zq97 N a0 a1 a2 (fun z3 => K (.v (.one (.bool z3)))) := by kernel_rfl
theorem o45 (N : Nat) : SpecOK (β := β) inv Tryz.prog 45 (S45 N) := by
  refine spec_of lay_ok mixed (E := E45 N) (specs_loops (specs_cons (o37 N) specs_nil)) muts_nil gs_nil Tryz.func45 (by kernel_rfl) 0 (by kernel_rfl) trivial fun args K r h => ?_
  unfold S45 VS45 at h
  split at h
  · exact (ve45_0 (zj97 N) N _ _ _ _).trans h
  · cases h
def VS40 (N : Nat) : Rv.Spec β := fun args K => match args with
  | [.v (.agg [.int .i64 a0, .int .i64 a1])] => zq101 a0 a1 (fun z2 => K (.v (.one (.str z2))))
  | _ => none
def S40 (N : Nat) : Rv.Spec β := VS40 (zj101 N) N
def h40_0_0 (v0 : Int) (v1 : Int) (v2 : Int) (v3 : Int) (v4 : List Int) : St := ⟨tund :: .v (.one (.ptr 0 0)) :: tund :: .v (.one (.row 1)) :: tn 8 (.v (.one (.int .i64 v0)) :: .v (.one (.int .i64 v1)) :: tn 13 []), [.cells 25 [.int .i64 v2, .int .i64 v3], .row 5 (.ints .u8 v4)]⟩
def x40_0_0_k0 (y0 : List Int) : St := ⟨tn 3 (.v (.one (.row 0)) :: tn 23 []), [.row 5 (.ints .u8 y0)]⟩
def p40_0_0 {γ : Type} (f : Int → Int → Int → Int → List Int → γ) (s : St) : γ := f (intS (oneA (vT (nx tund s.tmps 12)))) (intS (oneA (vT (nx tund s.tmps 13)))) (intS (nx .und (cellsB (nx .dead s.blks 0)) 0)) (intS (nx .und (cellsB (nx .dead s.blks 0)) 1)) (rInts (rowB_ (nx .dead s.blks 1)))
theorem fl40_0_0 (s : St) : refSt (h40_0_0 0 0 0 0 []) s = p40_0_0 h40_0_0 s := by kernel_rfl
def VLS40_0 (N : Nat) : LSpec β := fun s K => cond (shpSt (h40_0_0 0 0 0 0 []) s) (p40_0_0 (fun v0 v1 v2 v3 v4 => zq100 N v0 v1 v2 v3 v4 (fun y0 => K (.exit 0) (x40_0_0_k0 y0))) s) (none)
def LS40_0 (N : Nat) : LSpec β := VLS40_0 (zj100 N) N
def VE40 (N : Nat) : Env β := ⟨[(37, VS37 zq97 N), (100, VS100 zq1 N), (103, VS103 zq2 N)], [], [(0, VLS40_0 zq100 N)], [], ⟨[], [], [], []⟩⟩
def E40 (N : Nat) : Env β := VE40 (zj1 N) (zj2 N) (zj97 N) (zj100 N) N
theorem vst40_0_0 (N : Nat) (v0 : Int) (v1 : Int) (v2 : Int) (v3 : Int) (v4 : List Int) (rec_ : St → O β) (K : Exit → St → O β) :
    stB lay (VE40 zq1 zq2 zq97 zq100 N) Tryz.f40 0 (h40_0_0 v0 v1 v2 v3 v4) rec_ K = zb99 zq2 N v0 v1 v2 v3 v4 (fun v0 v1 v2 v3 v4 => rec_ (h40_0_0 v0 v1 v2 v3 v4)) (fun y0 => K (.exit 0) (x40_0_0_k0 y0)) := by kernel_rfl
theorem ro40_0_0 (N : Nat) (K : Exit → St → O β) : ∀ (F : Nat) (v0 : Int) (v1 : Int) (v2 : Int) (v3 : Int) (v4 : List Int), (lp Tryz.f40 0).rounds lay (E40 N) (retMask Tryz.f40) F (h40_0_0 v0 v1 v2 v3 v4) K = zj100 N F v0 v1 v2 v3 v4 (fun y0 => K (.exit 0) (x40_0_0_k0 y0)) := by
  intro F
  induction F with
  | zero => intros; rfl
  | succ F ih =>
    intros
    rw [rounds_next]
    refine (vst40_0_0 (zj1 N) (zj2 N) (zj97 N) (zj100 N) N _ _ _ _ _ (fun s => (lp Tryz.f40 0).rounds lay (E40 N) (retMask Tryz.f40) F s K) K).trans ?_
    simp only [ih]
    rfl
theorem lk40_0 (N : Nat) : lookL (E40 (β := β) N).loops (lp Tryz.f40 0).id = LS40_0 N := by kernel_rfl
theorem rk40_0 (N : Nat) : RoundsOK lay (E40 (β := β) N) (retMask Tryz.f40) (lp Tryz.f40 0) := by
  intro s K r h
  rw [lk40_0] at h
  unfold LS40_0 VLS40_0 at h
  cases hb : shpSt (h40_0_0 0 0 0 0 []) s with
  | true =>
    rw [hb, cond_true] at h
    exact ⟨N, by rw [← shpSt_ref hb, fl40_0_0 s]; unfold p40_0_0 at h ⊢; exact (ro40_0_0 N K N _ _ _ _ _).trans h⟩
  | false =>
  rw [hb, cond_false] at h
  clear hb
  cases h
theorem ve40_0 (N : Nat) (a0 : Int) (a1 : Int) (K : TV → O β) : evFn lay (VE40 zq1 zq2 zq97 zq100 N) Tryz.f40 [.v (.agg [.int .i64 a0, .int .i64 a1])] K = zb101 zq1 zq97 zq100 N a0 a1 (fun z2 => K (.v (.one (.str z2)))) := by kernel_rfl
theorem o40 (N : Nat) : SpecOK (β := β) inv Tryz.prog 40 (S40 N) := by
  refine spec_of lay_ok mixed (E := E40 N) (specs_loops (specs_cons (o37 N) (specs_cons (o100 N) (specs_cons (o103 N) specs_nil)))) muts_nil gs_nil Tryz.func40 (by kernel_rfl) 1 (by kernel_rfl) ⟨trivial, rk40_0 N⟩ fun args K r h => ?_
  unfold S40 VS40 at h
  split at h
  · exact (ve40_0 (zj1 N) (zj2 N) (zj97 N) (zj100 N) N _ _ _).trans h
  · cases h
def VS133 (N : Nat) : Rv.Spec β := fun args K => match args with
  | [.v (.agg [.int .i64 a0, .int .i64 a1])] => zq102 a0 a1 (fun z2 z3 => K (.v (.agg [.int .i64 z2, .int .i64 z3])))
  | _ => none
def S133 (N : Nat) : Rv.Spec β := VS133 (zj102 N) N
def VE133 (N : Nat) : Env β := ⟨[(129, VS129 zq0 zq5 zq12 zq15 N), (189, VS189 zq5 N)], [], [], [], ⟨[], [], [], []⟩⟩
def E133 (N : Nat) : Env β := VE133 (zj0 N) (zj5 N) (zj12 N) (zj15 N) N
theorem ve133_0 (N : Nat) (a0 : Int) (a1 : Int) (K : TV → O β) : evFn lay (VE133 zq0 zq5 zq12 zq15 N) Tryz.f133 [.v (.agg [.int .i64 a0, .int .i64 a1])] K = zb102 zq5 zq15 N a0 a1 (fun z2 z3 => K (.v (.agg [.int .i64 z2, .int .i64 z3]))) := by kernel_rfl
theorem o133 (N : Nat) : SpecOK (β := β) inv Tryz.prog 133 (S133 N) := by
  refine spec_of lay_ok mixed (E := E133 N) (specs_loops (specs_cons (o129 N) (specs_cons (o189 N) specs_nil))) muts_nil gs_nil Tryz.func133 (by kernel_rfl) 0 (by kernel_rfl) trivial fun args K r h => ?_
  unfold S133 VS133 at h
  split at h
  · exact (ve133_0 (zj0 N) (zj5 N) (zj12 N) (zj15 N) N _ _ _).trans h
  · cases h
def VS233 (N : Nat) : Rv.Spec β := fun args K => match args with
  | [.v (.one (.int .i64 a0)), .v (.one (.int .i64 a1))] => zq103 a0 a1 (fun z2 => K (.v (.one (.bool z2))))
  | _ => none
def S233 (N : Nat) : Rv.Spec β := VS233 (zj103 N) N
def VE233 (N : Nat) : Env β := ⟨[], [], [], [], ⟨[], [], [], []⟩⟩
def E233 (N : Nat) : Env β := VE233 N
theorem ve233_0 (N : Nat) (a0 : Int) (a1 : Int) (K : TV → O β) : evFn lay (VE233 N) Tryz.f233 [.v (.one (.int .i64 a0)), .v (.one (.int .i64 a1))] K = zb103 N a0 a1 (fun z2 => K (.v (.one (.bool z2)))) := by kernel_rfl
theorem o233 (N : Nat) : SpecOK (β := β) inv Tryz.prog 233 (S233 N) := by
  refine spec_of lay_ok mixed (E := E233 N) (specs_loops specs_nil) muts_nil gs_nil Tryz.func233 (by kernel_rfl) 0 (by kernel_rfl) trivial fun args K r h => ?_
  unfold S233 VS233 at h
  split at h
  · exact (ve233_0 N _ _ _).trans h
  · cases h
def VS192 (N : Nat) : Rv.Spec β := fun args K => match args with
  | [.v (.one (.int .i64 a0)), .v (.agg [.int .i64 a1, .int .i64 a2])] => zq104 a0 a1 a2 (fun z3 => K (.v (.one (.bool z3))))
  | _ => none
def S192 (N : Nat) : Rv.Spec β := VS192 (zj104 N) N
def VE192 (N : Nat) : Env β := ⟨[(99, VS99 zq96 N), (233, VS233 zq103 N)], [], [], [], ⟨[], [], [], []⟩⟩
def E192 (N : Nat) : Env β := VE192 (zj96 N) (zj103 N) N
theorem ve192_0 (N : Nat) (a0 : Int) (a1 : Int) (a2 : Int) (K : TV → O β) : evFn lay (VE192 zq96 zq103 N) Tryz.f192 [.v (.one (.int .i64 a0)), .v (.agg [.int .i64 a1, .int .i64 a2])] K = zb104 zq96 zq103 N a0 a1 a2 (fun z3 => K (.v (.one (.bool z3)))) := by kernel_rfl
theorem o192 (N : Nat) : SpecOK (β := β) inv Tryz.prog 192 (S192 N) := by
  refine spec_of lay_ok mixed (E := E192 N) (specs_loops (specs_cons (o99 N) (specs_cons (o233 N) specs_nil))) muts_nil gs_nil Tryz.func192 (by kernel_rfl) 0 (by kernel_rfl) trivial fun args K r h => ?_
  unfold S192 VS192 at h
  split at h
  · exact (ve192_0 (zj96 N) (zj103 N) N _ _ _ _).trans h
  · cases h
def VS188 (N : Nat) : Rv.Spec β := fun args K => match args with
  | [.v (.one (.int .i64 a0)), .v (.agg [.int .i64 a1, .int .i64 a2])] => zq107 a0 a1 a2 (fun z3 => K (.v (.one (.str z3))))
  | _ => none
def S188 (N : Nat) : Rv.Spec β := VS188 (zj107 N) N
def h188_0_0 (v0 : Int) (v1 : Int) (v2 : Int) (v3 : Int) (v4 : List Int) : St := ⟨tn 3 (.v (.one (.ptr 0 0)) :: tund :: .v (.one (.row 1)) :: tn 5 (.v (.one (.int .i64 v0)) :: .v (.one (.int .i64 v1)) :: tn 29 [])), [.cells 93 [.int .i64 v2, .int .i64 v3], .row 5 (.ints .u8 v4)]⟩
def x188_0_0_k0 (y0 : List Int) : St := ⟨tn 5 (.v (.one (.row 0)) :: tn 36 []), [.row 5 (.ints .u8 y0)]⟩
def p188_0_0 {γ : Type} (f : Int → Int → Int → Int → List Int → γ) (s : St) : γ := f (intS (oneA (vT (nx tund s.tmps 11)))) (intS (oneA (vT (nx tund s.tmps 12)))) (intS (nx .und (cellsB (nx .dead s.blks 0)) 0)) (intS (nx .und (cellsB (nx .dead s.blks 0)) 1)) (rInts (rowB_ (nx .dead s.blks 1)))
theorem fl188_0_0 (s : St) : refSt (h188_0_0 0 0 0 0 []) s = p188_0_0 h188_0_0 s := by kernel_rfl
def VLS188_0 (N : Nat) : LSpec β := fun s K => cond (shpSt (h188_0_0 0 0 0 0 []) s) (p188_0_0 (fun v0 v1 v2 v3 v4 => zq106 N v0 v1 v2 v3 v4 (fun y0 => K (.exit 0) (x188_0_0_k0 y0))) s) (none)
def LS188_0 (N : Nat) : LSpec β := VLS188_0 (zj106 N) N
def VE188 (N : Nat) : Env β := ⟨[(192, VS192 zq104 N)], [], [(0, VLS188_0 zq106 N)], [], ⟨[], [], [], []⟩⟩
def E188 (N : Nat) : Env β := VE188 (zj104 N) (zj106 N) N
theorem vst188_0_0 (N : Nat) (v0 : Int) (v1 : Int) (v2 : Int) (v3 : Int) (v4 : List Int) (rec_ : St → O β) (K : Exit → St → O β) :
    stB lay (VE188 zq104 zq106 N) Tryz.f188 0 (h188_0_0 v0 v1 v2 v3 v4) rec_ K = zb105 N v0 v1 v2 v3 v4 (fun v0 v1 v2 v3 v4 => rec_ (h188_0_0 v0 v1 v2 v3 v4)) (fun y0 => K (.exit 0) (x188_0_0_k0 y0)) := by kernel_rfl
theorem ro188_0_0 (N : Nat) (K : Exit → St → O β) : ∀ (F : Nat) (v0 : Int) (v1 : Int) (v2 : Int) (v3 : Int) (v4 : List Int), (lp Tryz.f188 0).rounds lay (E188 N) (retMask Tryz.f188) F (h188_0_0 v0 v1 v2 v3 v4) K = zj106 N F v0 v1 v2 v3 v4 (fun y0 => K (.exit 0) (x188_0_0_k0 y0)) := by
  intro F
  induction F with
  | zero => intros; rfl
  | succ F ih =>
    intros
    rw [rounds_next]
    refine (vst188_0_0 (zj104 N) (zj106 N) N _ _ _ _ _ (fun s => (lp Tryz.f188 0).rounds lay (E188 N) (retMask Tryz.f188) F s K) K).trans ?_
    simp only [ih]
    rfl
theorem lk188_0 (N : Nat) : lookL (E188 (β := β) N).loops (lp Tryz.f188 0).id = LS188_0 N := by kernel_rfl
theorem rk188_0 (N : Nat) : RoundsOK lay (E188 (β := β) N) (retMask Tryz.f188) (lp Tryz.f188 0) := by
  intro s K r h
  rw [lk188_0] at h
  unfold LS188_0 VLS188_0 at h
  cases hb : shpSt (h188_0_0 0 0 0 0 []) s with
  | true =>
    rw [hb, cond_true] at h
    exact ⟨N, by rw [← shpSt_ref hb, fl188_0_0 s]; unfold p188_0_0 at h ⊢; exact (ro188_0_0 N K N _ _ _ _ _).trans h⟩
  | false =>
  rw [hb, cond_false] at h
  clear hb
  cases h
theorem ve188_0 (N : Nat) (a0 : Int) (a1 : Int) (a2 : Int) (K : TV → O β) : evFn lay (VE188 zq104 zq106 N) Tryz.f188 [.v (.one (.int .i64 a0)), .v (.agg [.int .i64 a1, .int .i64 a2])] K = zb107 zq104 zq106 N a0 a1 a2 (fun z3 => K (.v (.one (.str z3)))) := by kernel_rfl
theorem o188 (N : Nat) : SpecOK (β := β) inv Tryz.prog 188 (S188 N) := by
  refine spec_of lay_ok mixed (E := E188 N) (specs_loops (specs_cons (o192 N) specs_nil)) muts_nil gs_nil Tryz.func188 (by kernel_rfl) 1 (by kernel_rfl) ⟨trivial, rk188_0 N⟩ fun args K r h => ?_
  unfold S188 VS188 at h
  split at h
  · exact (ve188_0 (zj104 N) (zj106 N) N _ _ _ _).trans h
  · cases h
def VS146 (N : Nat) : Rv.Spec β := fun args K => match args with
  | [.v (.one (.int .i64 a0)), .v (.one (.sl 93 (.pairs a1))), .v (.one (.str a2))] => zq110 a0 a1 a2 (fun z3 => K (.v (.one (.str z3))))
  | _ => none
def S146 (N : Nat) : Rv.Spec β := VS146 (zj110 N) N
def h146_0_0 (v0 : Int) (v1 : ByteArray) (v2 : List (Int × Int)) (v3 : Int) (v4 : Int) (v5 : List ByteArray) : St := ⟨.v (.one (.int .i64 v0)) :: tund :: .v (.one (.str v1)) :: tn 4 (.v (.one (.row 0)) :: tn 5 (.v (.one (.sl 93 (.pairs v2))) :: .v (.one (.int .i64 v3)) :: .v (.one (.int .i64 v4)) :: tn 14 [])), [.row 9 (.strs v5)]⟩
def x146_0_0_k0 (y0 : ByteArray) (y1 : List ByteArray) : St := ⟨tund :: tund :: .v (.one (.str y0)) :: tn 4 (.v (.one (.row 0)) :: tn 22 []), [.row 9 (.strs y1)]⟩
def p146_0_0 {γ : Type} (f : Int → ByteArray → (List (Int × Int)) → Int → Int → List ByteArray → γ) (s : St) : γ := f (intS (oneA (vT (nx tund s.tmps 0)))) (strS (oneA (vT (nx tund s.tmps 2)))) (rPairs (rowV (oneA (vT (nx tund s.tmps 13))))) (intS (oneA (vT (nx tund s.tmps 14)))) (intS (oneA (vT (nx tund s.tmps 15)))) (rStrs (rowB_ (nx .dead s.blks 0)))
theorem fl146_0_0 (s : St) : refSt (h146_0_0 0 ByteArray.empty [] 0 0 []) s = p146_0_0 h146_0_0 s := by kernel_rfl
def VLS146_0 (N : Nat) : LSpec β := fun s K => cond (shpSt (h146_0_0 0 ByteArray.empty [] 0 0 []) s) (p146_0_0 (fun v0 v1 v2 v3 v4 v5 => zq109 N v0 v1 v2 v3 v4 v5 (fun y0 y1 => K (.exit 0) (x146_0_0_k0 y0 y1))) s) (none)
def LS146_0 (N : Nat) : LSpec β := VLS146_0 (zj109 N) N
def VE146 (N : Nat) : Env β := ⟨[(188, VS188 zq107 N), (106, S106 N)], [], [(0, VLS146_0 zq109 N)], [], ⟨[], [], [], []⟩⟩
def E146 (N : Nat) : Env β := VE146 (zj107 N) (zj109 N) N
theorem vst146_0_0 (N : Nat) (v0 : Int) (v1 : ByteArray) (v2 : List (Int × Int)) (v3 : Int) (v4 : Int) (v5 : List ByteArray) (rec_ : St → O β) (K : Exit → St → O β) :
    stB lay (VE146 zq107 zq109 N) Tryz.f146 0 (h146_0_0 v0 v1 v2 v3 v4 v5) rec_ K = zb108 zq107 N v0 v1 v2 v3 v4 v5 (fun v0 v1 v2 v3 v4 v5 => rec_ (h146_0_0 v0 v1 v2 v3 v4 v5)) (fun y0 y1 => K (.exit 0) (x146_0_0_k0 y0 y1)) := by kernel_rfl
theorem ro146_0_0 (N : Nat) (K : Exit → St → O β) : ∀ (F : Nat) (v0 : Int) (v1 : ByteArray) (v2 : List (Int × Int)) (v3 : Int) (v4 : Int) (v5 : List ByteArray), (lp Tryz.f146 0).rounds lay (E146 N) (retMask Tryz.f146) F (h146_0_0 v0 v1 v2 v3 v4 v5) K = zj109 N F v0 v1 v2 v3 v4 v5 (fun y0 y1 => K (.exit 0) (x146_0_0_k0 y0 y1)) := by
  intro F
  induction F with
  | zero => intros; rfl
  | succ F ih =>
    intros
    rw [rounds_next]
    refine (vst146_0_0 (zj107 N) (zj109 N) N _ _ _ _ _ _ (fun s => (lp Tryz.f146 0).rounds lay (E146 N) (retMask Tryz.f146) F s K) K).trans ?_
    simp only [ih]
    rfl
theorem lk146_0 (N : Nat) : lookL (E146 (β := β) N).loops (lp Tryz.f146 0).id = LS146_0 N := by kernel_rfl
theorem rk146_0 (N : Nat) : RoundsOK lay (E146 (β := β) N) (retMask Tryz.f146) (lp Tryz.f146 0) := by
  intro s K r h
  rw [lk146_0] at h
  unfold LS146_0 VLS146_0 at h
  cases hb : shpSt (h146_0_0 0 ByteArray.empty [] 0 0 []) s with
  | true =>
    rw [hb, cond_true] at h
    exact ⟨N, by rw [← shpSt_ref hb, fl146_0_0 s]; unfold p146_0_0 at h ⊢; exact (ro146_0_0 N K N _ _ _ _ _ _).trans h⟩
  | false =>
  rw [hb, cond_false] at h
  clear hb
  cases h
theorem ve146_0 (N : Nat) (a0 : Int) (a1 : List (Int × Int)) (a2 : ByteArray) (K : TV → O β) : evFn lay (VE146 zq107 zq109 N) Tryz.f146 [.v (.one (.int .i64 a0)), .v (.one (.sl 93 (.pairs a1))), .v (.one (.str a2))] K = zb110 zq109 N a0 a1 a2 (fun z3 => K (.v (.one (.str z3)))) := by kernel_rfl
theorem o146 (N : Nat) : SpecOK (β := β) inv Tryz.prog 146 (S146 N) := by
  refine spec_of lay_ok mixed (E := E146 N) (specs_loops (specs_cons (o188 N) (specs_cons (o106 N) specs_nil))) muts_nil gs_nil Tryz.func146 (by kernel_rfl) 1 (by kernel_rfl) ⟨trivial, rk146_0 N⟩ fun args K r h => ?_
  unfold S146 VS146 at h
  split at h
  · exact (ve146_0 (zj107 N) (zj109 N) N _ _ _ _).trans h
  · cases h
def VS75 (N : Nat) : Rv.Spec β := fun args K => match args with
  | [.v (.agg [.int .i64 a0, .int .i64 a1])] => zq113 a0 a1 (fun z2 => K (.v (.one (.str z2))))
  | _ => none
def S75 (N : Nat) : Rv.Spec β := VS75 (zj113 N) N
def h75_0_0 (v0 : Int) (v1 : Int) (v2 : Int) (v3 : Int) (v4 : Int) (v5 : Int) (v6 : List (Int × Int)) : St := ⟨tund :: .v (.one (.ptr 0 0)) :: tund :: .v (.one (.ptr 1 0)) :: .v (.one (.row 2)) :: tn 7 (.v (.one (.int .i64 v0)) :: .v (.one (.int .i64 v1)) :: tn 20 []), [.cells 25 [.int .i64 v2, .int .i64 v3], .cells 25 [.int .i64 v4, .int .i64 v5], .row 93 (.pairs v6)]⟩
def x75_0_0_k0 (y0 : Int) (y1 : Int) (y2 : List (Int × Int)) : St := ⟨tund :: .v (.one (.ptr 0 0)) :: tund :: tund :: .v (.one (.row 1)) :: tn 29 [], [.cells 25 [.int .i64 y0, .int .i64 y1], .row 93 (.pairs y2)]⟩
def p75_0_0 {γ : Type} (f : Int → Int → Int → Int → Int → Int → (List (Int × Int)) → γ) (s : St) : γ := f (intS (oneA (vT (nx tund s.tmps 12)))) (intS (oneA (vT (nx tund s.tmps 13)))) (intS (nx .und (cellsB (nx .dead s.blks 0)) 0)) (intS (nx .und (cellsB (nx .dead s.blks 0)) 1)) (intS (nx .und (cellsB (nx .dead s.blks 1)) 0)) (intS (nx .und (cellsB (nx .dead s.blks 1)) 1)) (rPairs (rowB_ (nx .dead s.blks 2)))
theorem fl75_0_0 (s : St) : refSt (h75_0_0 0 0 0 0 0 0 []) s = p75_0_0 h75_0_0 s := by kernel_rfl
def VLS75_0 (N : Nat) : LSpec β := fun s K => cond (shpSt (h75_0_0 0 0 0 0 0 0 []) s) (p75_0_0 (fun v0 v1 v2 v3 v4 v5 v6 => zq112 N v0 v1 v2 v3 v4 v5 v6 (fun y0 y1 y2 => K (.exit 0) (x75_0_0_k0 y0 y1 y2))) s) (none)
def LS75_0 (N : Nat) : LSpec β := VLS75_0 (zj112 N) N
def VE75 (N : Nat) : Env β := ⟨[(37, VS37 zq97 N), (133, VS133 zq102 N), (100, VS100 zq1 N), (103, VS103 zq2 N), (146, VS146 zq110 N)], [], [(0, VLS75_0 zq112 N)], [], ⟨[], [], [], []⟩⟩
def E75 (N : Nat) : Env β := VE75 (zj1 N) (zj2 N) (zj97 N) (zj102 N) (zj110 N) (zj112 N) N
theorem vst75_0_0 (N : Nat) (v0 : Int) (v1 : Int) (v2 : Int) (v3 : Int) (v4 : Int) (v5 : Int) (v6 : List (Int × Int)) (rec_ : St → O β) (K : Exit → St → O β) :
    stB lay (VE75 zq1 zq2 zq97 zq102 zq110 zq112 N) Tryz.f75 0 (h75_0_0 v0 v1 v2 v3 v4 v5 v6) rec_ K = zb111 zq2 N v0 v1 v2 v3 v4 v5 v6 (fun v0 v1 v2 v3 v4 v5 v6 => rec_ (h75_0_0 v0 v1 v2 v3 v4 v5 v6)) (fun y0 y1 y2 => K (.exit 0) (x75_0_0_k0 y0 y1 y2)) := by kernel_rfl
theorem ro75_0_0 (N : Nat) (K : Exit → St → O β) : ∀ (F : Nat) (v0 : Int) (v1 : Int) (v2 : Int) (v3 : Int) (v4 : Int) (v5 : Int) (v6 : List (Int × Int)), (lp Tryz.f75 0).rounds lay (E75 N) (retMask Tryz.f75) F (h75_0_0 v0 v1 v2 v3 v4 v5 v6) K = zj112 N F v0 v1 v2 v3 v4 v5 v6 (fun y0 y1 y2 => K (.exit 0) (x75_0_0_k0 y0 y1 y2)) := by
  intro F
  induction F with
  | zero => intros; rfl
  | succ F ih =>
    intros
    rw [rounds_next]
    refine (vst75_0_0 (zj1 N) (zj2 N) (zj97 N) (zj102 N) (zj110 N) (zj112 N) N _ _ _ _ _ _ _ (fun s => (lp Tryz.f75 0).rounds lay (E75 N) (retMask Tryz.f75) F s K) K).trans ?_
    simp only [ih]
    rfl
theorem lk75_0 (N : Nat) : lookL (E75 (β := β) N).loops (lp Tryz.f75 0).id = LS75_0 N := by kernel_rfl
theorem rk75_0 (N : Nat) : RoundsOK lay (E75 (β := β) N) (retMask Tryz.f75) (lp Tryz.f75 0) := by
  intro s K r h
  rw [lk75_0] at h
  unfold LS75_0 VLS75_0 at h
  cases hb : shpSt (h75_0_0 0 0 0 0 0 0 []) s with
  | true =>
    rw [hb, cond_true] at h
    exact ⟨N, by rw [← shpSt_ref hb, fl75_0_0 s]; unfold p75_0_0 at h ⊢; exact (ro75_0_0 N K N _ _ _ _ _ _ _).trans h⟩
  | false =>
  rw [hb, cond_false] at h
  clear hb
  cases h
theorem ve75_0 (N : Nat) (a0 : Int) (a1 : Int) (K : TV → O β) : evFn lay (VE75 zq1 zq2 zq97 zq102 zq110 zq112 N) Tryz.f75 [.v (.agg [.int .i64 a0, .int .i64 a1])] K = zb113 zq1 zq97 zq102 zq110 zq112 N a0 a1 (fun z2 => K (.v (.one (.str z2)))) := by kernel_rfl
theorem o75 (N : Nat) : SpecOK (β := β) inv Tryz.prog 75 (S75 N) := by
  refine spec_of lay_ok mixed (E := E75 N) (specs_loops (specs_cons (o37 N) (specs_cons (o133 N) (specs_cons (o100 N) (specs_cons (o103 N) (specs_cons (o146 N) specs_nil)))))) muts_nil gs_nil Tryz.func75 (by kernel_rfl) 1 (by kernel_rfl) ⟨trivial, rk75_0 N⟩ fun args K r h => ?_
  unfold S75 VS75 at h
  split at h
  · exact (ve75_0 (zj1 N) (zj2 N) (zj97 N) (zj102 N) (zj110 N) (zj112 N) N _ _ _).trans h
  · cases h
end Go.Proofs.YtemihnclhcobnaaGreatDoor
