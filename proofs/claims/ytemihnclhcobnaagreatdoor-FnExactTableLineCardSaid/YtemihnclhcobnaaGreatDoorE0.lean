/- The functions that the claims reach answer as their texts do. -/
import Derived.Test.YtemihnclhcobnaaGreatDoorT0
import Derived.Test.YtemihnclhcobnaaGreatDoorProg
import Derived.KernelRfl
import Derived.Test.YtemihnclhcobnaaGreatDoorShelf
import Derived.Test.YtemihnclhcobnaaGreatDoorRep
namespace Go.Proofs.YtemihnclhcobnaaGreatDoor
open Go.Rv
set_option maxRecDepth 100000
set_option maxHeartbeats 2000000
set_option linter.unusedVariables false
variable {β : Type}
variable (zq0 : Y0 β) (zq1 : Y1 β) (zq2 : Y2 β) (zq3 : Y3 β) (zq5 : Y5 β) (zq6 : Y4 β) (zq7 : Y1 β) (zq9 : Y7 β) (zq10 : Y6 β) (zq12 : Y9 β) (zq13 : Y8 β) (zq15 : Y11 β) (zq16 : Y10 β) (zq18 : Y13 β) (zq19 : Y12 β) (zq21 : Y15 β) (zq22 : Y14 β)
def lay : Lay := [(1, .func),
  (2, .int .i64),
  (3, .int .i64),
  (4, .bool),
  (5, .int .u8),
  (9, .string),
  (12, .int .u64),
  (21, .int .i32),
  (22, .struct [⟨0, 1, false⟩, ⟨1, 1, false⟩] [3, 3] 16 true),
  (23, .struct [⟨0, 1, false⟩, ⟨1, 1, false⟩] [3, 3] 16 true),
  (25, .struct [⟨0, 1, false⟩, ⟨1, 1, false⟩] [3, 3] 16 true),
  (40, .slice 3),
  (44, .slice 9),
  (45, .struct [⟨0, 1, false⟩] [44] 24 false),
  (46, .struct [⟨0, 1, false⟩] [44] 24 false),
  (55, .slice 93),
  (66, .int .u64),
  (68, .slice 5),
  (80, .pointer 46),
  (84, .map 3 4),
  (92, .struct [⟨0, 1, false⟩, ⟨1, 1, false⟩] [3, 3] 16 true),
  (93, .struct [⟨0, 1, false⟩, ⟨1, 1, false⟩] [3, 3] 16 true),
  (104, .pointer 193),
  (107, .pointer 166),
  (119, .pointer 173),
  (122, .struct [⟨0, 1, false⟩, ⟨1, 1, false⟩] [3, 3] 16 true),
  (123, .struct [⟨0, 1, false⟩, ⟨1, 1, false⟩] [3, 3] 16 true),
  (124, .slice 40),
  (136, .int .u64),
  (137, .pointer 139),
  (138, .struct [⟨0, 1, false⟩, ⟨1, 1, false⟩] [137, 68] 32 false),
  (139, .struct [⟨0, 1, false⟩, ⟨1, 1, false⟩] [137, 68] 32 false),
  (165, .struct [⟨0, 1, false⟩, ⟨1, 1, false⟩, ⟨2, 1, false⟩] [5, 107, 107] 24 false),
  (166, .struct [⟨0, 1, false⟩, ⟨1, 1, false⟩, ⟨2, 1, false⟩] [5, 107, 107] 24 false),
  (171, .map 123 3),
  (172, .struct [⟨0, 2, true⟩, ⟨2, 1, false⟩, ⟨3, 1, false⟩] [3, 3, 171, 171] 32 false),
  (173, .struct [⟨0, 2, true⟩, ⟨2, 1, false⟩, ⟨3, 1, false⟩] [3, 3, 171, 171] 32 false),
  (181, .pointer 5),
  (182, .slice 4),
  (192, .struct [⟨0, 1, false⟩, ⟨1, 1, false⟩, ⟨2, 1, false⟩] [5, 104, 104] 24 false),
  (193, .struct [⟨0, 1, false⟩, ⟨1, 1, false⟩, ⟨2, 1, false⟩] [5, 104, 104] 24 false),
  (194, .array 2 4),
  (202, .int .u32),
  (217, .struct [⟨0, 1, false⟩, ⟨1, 1, false⟩] [5, 5] 2 true),
  (218, .struct [⟨0, 1, false⟩, ⟨1, 1, false⟩] [5, 5] 2 true)]

theorem lay_ok : LayOK Tryz.prog lay := layOK_of (by decide +kernel)
theorem mixed : Tryz.prog.follows .mixedOrders = true := by kernel_rfl
def inv : World → Prop := tabInv Tryz.prog
def S104 (N : Nat) : Rv.Spec β := itoaSpec N
theorem o104 (N : Nat) : SpecOK (β := β) inv Tryz.prog 104 (S104 N) := itoa_ok Tryz.func104 (by kernel_rfl) Tryz.strconv_Itoa N
def S106 (N : Nat) : Rv.Spec β := joinSpec N
theorem o106 (N : Nat) : SpecOK (β := β) inv Tryz.prog 106 (S106 N) := join_ok Tryz.func106 (by kernel_rfl) Tryz.strings_Join_none Tryz.strings_Join N
def S179 (N : Nat) : Rv.Spec β := repeatSpec 3 N
theorem o179 (N : Nat) : SpecOK (β := β) inv Tryz.prog 179 (S179 N) := repeat_ok Tryz.func179 (by kernel_rfl) repeat_told N
def S182 (N : Nat) : Rv.Spec β := cloneSpec 3 N
theorem o182 (N : Nat) : SpecOK (β := β) inv Tryz.prog 182 (S182 N) := clone_ok Tryz.func182 (by kernel_rfl) Tryz.slices_Clone_int_nil Tryz.slices_Clone_int_zero Tryz.slices_Clone_int N
def VS9 (N : Nat) : Rv.Spec β := fun args K => match args with
  | [.v (.agg [.int .i64 a0, .int .i64 a1])] => zq0 a0 a1 (fun z2 z3 => K (.v (.agg [.int .i64 z2, .int .i64 z3])))
  | _ => none
def S9 (N : Nat) : Rv.Spec β := VS9 (zj0 N) N
def VE9 (N : Nat) : Env β := ⟨[], [], [], [], ⟨[], [], [157], [222]⟩⟩
def E9 (N : Nat) : Env β := VE9 N
theorem ve9_0 (N : Nat) (a0 : Int) (a1 : Int) (K : TV → O β) : evFn lay (VE9 N) Tryz.f9 [.v (.agg [.int .i64 a0, .int .i64 a1])] K = zb0 N a0 a1 (fun z2 z3 => K (.v (.agg [.int .i64 z2, .int .i64 z3]))) := by kernel_rfl
theorem o9 (N : Nat) : SpecOK (β := β) inv Tryz.prog 9 (S9 N) := by
  refine spec_of lay_ok mixed (E := E9 N) (specs_loops specs_nil) muts_nil gs_nil Tryz.func9 (by kernel_rfl) 0 (by kernel_rfl) trivial fun args K r h => ?_
  unfold S9 VS9 at h
  split at h
  · exact (ve9_0 N _ _ _).trans h
  · cases h
def VS57 (N : Nat) : Rv.Spec β := fun args K => match args with
  | [.v (.one (.int .i64 a0)), .v (.one (.int .i64 a1)), .v (.one (.int .i64 a2))] => zq1 a0 a1 a2 (fun z3 => K (.v (.one (.bool z3))))
  | _ => none
def S57 (N : Nat) : Rv.Spec β := VS57 (zj1 N) N
def VE57 (N : Nat) : Env β := ⟨[], [], [], [], ⟨[], [], [157], [222]⟩⟩
def E57 (N : Nat) : Env β := VE57 N
theorem ve57_0 (N : Nat) (a0 : Int) (a1 : Int) (a2 : Int) (K : TV → O β) : evFn lay (VE57 N) Tryz.f57 [.v (.one (.int .i64 a0)), .v (.one (.int .i64 a1)), .v (.one (.int .i64 a2))] K = zb1 N a0 a1 a2 (fun z3 => K (.v (.one (.bool z3)))) := by kernel_rfl
theorem o57 (N : Nat) : SpecOK (β := β) inv Tryz.prog 57 (S57 N) := by
  refine spec_of lay_ok mixed (E := E57 N) (specs_loops specs_nil) muts_nil gs_nil Tryz.func57 (by kernel_rfl) 0 (by kernel_rfl) trivial fun args K r h => ?_
  unfold S57 VS57 at h
  split at h
  · exact (ve57_0 N _ _ _ _).trans h
  · cases h
def VS20 (N : Nat) : Rv.Spec β := fun args K => match args with
  | [.v (.agg [.int .i64 a0, .int .i64 a1])] => zq2 a0 a1 (fun z2 => K (.v (.one (.bool z2))))
  | _ => none
def S20 (N : Nat) : Rv.Spec β := VS20 (zj2 N) N
def VE20 (N : Nat) : Env β := ⟨[(57, VS57 zq1 N)], [], [], [], ⟨[], [], [157], [222]⟩⟩
def E20 (N : Nat) : Env β := VE20 (zj1 N) N
theorem ve20_0 (N : Nat) (a0 : Int) (a1 : Int) (K : TV → O β) : evFn lay (VE20 zq1 N) Tryz.f20 [.v (.agg [.int .i64 a0, .int .i64 a1])] K = zb2 zq1 N a0 a1 (fun z2 => K (.v (.one (.bool z2)))) := by kernel_rfl
theorem o20 (N : Nat) : SpecOK (β := β) inv Tryz.prog 20 (S20 N) := by
  refine spec_of lay_ok mixed (E := E20 N) (specs_loops (specs_cons (o57 N) specs_nil)) muts_nil gs_nil Tryz.func20 (by kernel_rfl) 0 (by kernel_rfl) trivial fun args K r h => ?_
  unfold S20 VS20 at h
  split at h
  · exact (ve20_0 (zj1 N) N _ _ _).trans h
  · cases h
def VS156 (N : Nat) : Rv.Spec β := fun args K => match args with
  | [.v (.one (.int .i64 a0)), .v (.one (.int .i64 a1)), .v (.one (.int .i64 a2))] => zq3 a0 a1 a2 (fun z3 => K (.v (.one (.int .i64 z3))))
  | _ => none
def S156 (N : Nat) : Rv.Spec β := VS156 (zj3 N) N
def VE156 (N : Nat) : Env β := ⟨[], [], [], [], ⟨[], [], [157], [222]⟩⟩
def E156 (N : Nat) : Env β := VE156 N
theorem ve156_0 (N : Nat) (a0 : Int) (a1 : Int) (a2 : Int) (K : TV → O β) : evFn lay (VE156 N) Tryz.f156 [.v (.one (.int .i64 a0)), .v (.one (.int .i64 a1)), .v (.one (.int .i64 a2))] K = zb3 N a0 a1 a2 (fun z3 => K (.v (.one (.int .i64 z3)))) := by kernel_rfl
theorem o156 (N : Nat) : SpecOK (β := β) inv Tryz.prog 156 (S156 N) := by
  refine spec_of lay_ok mixed (E := E156 N) (specs_loops specs_nil) muts_nil gs_nil Tryz.func156 (by kernel_rfl) 0 (by kernel_rfl) trivial fun args K r h => ?_
  unfold S156 VS156 at h
  split at h
  · exact (ve156_0 N _ _ _ _).trans h
  · cases h
def VS89 (N : Nat) : Rv.Spec β := fun args K => match args with
  | [.v (.agg [.int .i64 a0, .int .i64 a1]), .v (.one (.int .i64 a2)), .v (.one (.int .i64 a3))] => zq6 a0 a1 a2 a3 (fun z4 z5 => K (.v (.agg [.int .i64 z4, .int .i64 z5])))
  | _ => none
def S89 (N : Nat) : Rv.Spec β := VS89 (zj6 N) N
def h89_0_0 (v0 : Int) (v1 : Int) (v2 : Int) (v3 : Int) (v4 : Int) (v5 : Int) (v6 : Int) (v7 : Int) : St := ⟨tund :: .v (.one (.int .i64 v0)) :: .v (.one (.int .i64 v1)) :: .v (.one (.ptr 0 0)) :: tund :: tund :: .v (.one (.ptr 1 0)) :: .v (.one (.int .i64 v2)) :: .v (.one (.int .i64 v3)) :: tn 25 [], [.cells 25 [.int .i64 v4, .int .i64 v5], .cells 25 [.int .i64 v6, .int .i64 v7]]⟩
def x89_0_0_k0 (y0 : Int) (y1 : Int) (y2 : Int) (y3 : Int) (y4 : Int) : St := ⟨tn 3 (.v (.one (.ptr 0 0)) :: tund :: tund :: .v (.one (.ptr 1 0)) :: .v (.one (.int .i64 y0)) :: tn 26 []), [.cells 25 [.int .i64 y1, .int .i64 y2], .cells 25 [.int .i64 y3, .int .i64 y4]]⟩
def p89_0_0 {γ : Type} (f : Int → Int → Int → Int → Int → Int → Int → Int → γ) (s : St) : γ := f (intS (oneA (vT (nx tund s.tmps 1)))) (intS (oneA (vT (nx tund s.tmps 2)))) (intS (oneA (vT (nx tund s.tmps 7)))) (intS (oneA (vT (nx tund s.tmps 8)))) (intS (nx .und (cellsB (nx .dead s.blks 0)) 0)) (intS (nx .und (cellsB (nx .dead s.blks 0)) 1)) (intS (nx .und (cellsB (nx .dead s.blks 1)) 0)) (intS (nx .und (cellsB (nx .dead s.blks 1)) 1))
theorem fl89_0_0 (s : St) : refSt (h89_0_0 0 0 0 0 0 0 0 0) s = p89_0_0 h89_0_0 s := by kernel_rfl
def VLS89_0 (N : Nat) : LSpec β := fun s K => cond (shpSt (h89_0_0 0 0 0 0 0 0 0 0) s) (p89_0_0 (fun v0 v1 v2 v3 v4 v5 v6 v7 => zq5 N v0 v1 v2 v3 v4 v5 v6 v7 (fun y0 y1 y2 y3 y4 => K (.exit 0) (x89_0_0_k0 y0 y1 y2 y3 y4))) s) (none)
def LS89_0 (N : Nat) : LSpec β := VLS89_0 (zj5 N) N
def VE89 (N : Nat) : Env β := ⟨[(156, VS156 zq3 N)], [], [(0, VLS89_0 zq5 N)], [], ⟨[], [], [157], [222]⟩⟩
def E89 (N : Nat) : Env β := VE89 (zj3 N) (zj5 N) N
theorem vst89_0_0 (N : Nat) (v0 : Int) (v1 : Int) (v2 : Int) (v3 : Int) (v4 : Int) (v5 : Int) (v6 : Int) (v7 : Int) (rec_ : St → O β) (K : Exit → St → O β) :
    stB lay (VE89 zq3 zq5 N) Tryz.f89 0 (h89_0_0 v0 v1 v2 v3 v4 v5 v6 v7) rec_ K = zb4 zq3 N v0 v1 v2 v3 v4 v5 v6 v7 (fun v0 v1 v2 v3 v4 v5 v6 v7 => rec_ (h89_0_0 v0 v1 v2 v3 v4 v5 v6 v7)) (fun y0 y1 y2 y3 y4 => K (.exit 0) (x89_0_0_k0 y0 y1 y2 y3 y4)) := by kernel_rfl
theorem ro89_0_0 (N : Nat) (K : Exit → St → O β) : ∀ (F : Nat) (v0 : Int) (v1 : Int) (v2 : Int) (v3 : Int) (v4 : Int) (v5 : Int) (v6 : Int) (v7 : Int), (lp Tryz.f89 0).rounds lay (E89 N) (retMask Tryz.f89) F (h89_0_0 v0 v1 v2 v3 v4 v5 v6 v7) K = zj5 N F v0 v1 v2 v3 v4 v5 v6 v7 (fun y0 y1 y2 y3 y4 => K (.exit 0) (x89_0_0_k0 y0 y1 y2 y3 y4)) := by
  intro F
  induction F with
  | zero => intros; rfl
  | succ F ih =>
    intros
    rw [rounds_next]
    refine (vst89_0_0 (zj3 N) (zj5 N) N _ _ _ _ _ _ _ _ (fun s => (lp Tryz.f89 0).rounds lay (E89 N) (retMask Tryz.f89) F s K) K).trans ?_
    simp only [ih]
    rfl
theorem lk89_0 (N : Nat) : lookL (E89 (β := β) N).loops (lp Tryz.f89 0).id = LS89_0 N := by kernel_rfl
theorem rk89_0 (N : Nat) : RoundsOK lay (E89 (β := β) N) (retMask Tryz.f89) (lp Tryz.f89 0) := by
  intro s K r h
  rw [lk89_0] at h
  unfold LS89_0 VLS89_0 at h
  cases hb : shpSt (h89_0_0 0 0 0 0 0 0 0 0) s with
  | true =>
    rw [hb, cond_true] at h
    exact ⟨N, by rw [← shpSt_ref hb, fl89_0_0 s]; unfold p89_0_0 at h ⊢; exact (ro89_0_0 N K N _ _ _ _ _ _ _ _).trans h⟩
  | false =>
  rw [hb, cond_false] at h
  clear hb
  cases h
theorem ve89_0 (N : Nat) (a0 : Int) (a1 : Int) (a2 : Int) (a3 : Int) (K : TV → O β) : evFn lay (VE89 zq3 zq5 N) Tryz.f89 [.v (.agg [.int .i64 a0, .int .i64 a1]), .v (.one (.int .i64 a2)), .v (.one (.int .i64 a3))] K = zb6 zq5 N a0 a1 a2 a3 (fun z4 z5 => K (.v (.agg [.int .i64 z4, .int .i64 z5]))) := by kernel_rfl
theorem o89 (N : Nat) : SpecOK (β := β) inv Tryz.prog 89 (S89 N) := by
  refine spec_of lay_ok mixed (E := E89 N) (specs_loops (specs_cons (o156 N) specs_nil)) muts_nil gs_nil Tryz.func89 (by kernel_rfl) 1 (by kernel_rfl) ⟨trivial, rk89_0 N⟩ fun args K r h => ?_
  unfold S89 VS89 at h
  split at h
  · exact (ve89_0 (zj3 N) (zj5 N) N _ _ _ _ _).trans h
  · cases h
def VS88 (N : Nat) : Rv.Spec β := fun args K => match args with
  | [.v (.agg [.int .i64 a0, .int .i64 a1]), .v (.one (.int .i64 a2))] => zq7 a0 a1 a2 (fun z3 => K (.v (.one (.bool z3))))
  | _ => none
def S88 (N : Nat) : Rv.Spec β := VS88 (zj7 N) N
def VE88 (N : Nat) : Env β := ⟨[(89, VS89 zq6 N)], [], [], [], ⟨[], [], [157], [222]⟩⟩
def E88 (N : Nat) : Env β := VE88 (zj6 N) N
theorem ve88_0 (N : Nat) (a0 : Int) (a1 : Int) (a2 : Int) (K : TV → O β) : evFn lay (VE88 zq6 N) Tryz.f88 [.v (.agg [.int .i64 a0, .int .i64 a1]), .v (.one (.int .i64 a2))] K = zb7 zq6 N a0 a1 a2 (fun z3 => K (.v (.one (.bool z3)))) := by kernel_rfl
theorem o88 (N : Nat) : SpecOK (β := β) inv Tryz.prog 88 (S88 N) := by
  refine spec_of lay_ok mixed (E := E88 N) (specs_loops (specs_cons (o89 N) specs_nil)) muts_nil gs_nil Tryz.func88 (by kernel_rfl) 0 (by kernel_rfl) trivial fun args K r h => ?_
  unfold S88 VS88 at h
  split at h
  · exact (ve88_0 (zj6 N) N _ _ _ _).trans h
  · cases h
def VS21 (N : Nat) : Rv.Spec β := fun args K => match args with
  | [.v (.agg [.int .i64 a0, .int .i64 a1])] => zq10 a0 a1 (fun z2 z3 z4 => K (.tup [.agg [.int .i64 z2, .int .i64 z3], .one (.bool z4)]))
  | _ => none
def S21 (N : Nat) : Rv.Spec β := VS21 (zj10 N) N
def h21_0_0 (v0 : Int) (v1 : Int) (v2 : Int) (v3 : Int) (v4 : Int) : St := ⟨tund :: .v (.one (.ptr 0 0)) :: .v (.one (.ptr 1 0)) :: tund :: .v (.one (.int .i64 v0)) :: tn 19 [], [.cells 25 [.int .i64 v1, .int .i64 v2], .cells 25 [.int .i64 v3, .int .i64 v4]]⟩
def x21_0_0_k0 (y0 : Int) (y1 : Int) (y2 : Int) (y3 : Int) : St := ⟨tund :: .v (.one (.ptr 0 0)) :: .v (.one (.ptr 1 0)) :: tn 21 [], [.cells 25 [.int .i64 y0, .int .i64 y1], .cells 25 [.int .i64 y2, .int .i64 y3]]⟩
def p21_0_0 {γ : Type} (f : Int → Int → Int → Int → Int → γ) (s : St) : γ := f (intS (oneA (vT (nx tund s.tmps 4)))) (intS (nx .und (cellsB (nx .dead s.blks 0)) 0)) (intS (nx .und (cellsB (nx .dead s.blks 0)) 1)) (intS (nx .und (cellsB (nx .dead s.blks 1)) 0)) (intS (nx .und (cellsB (nx .dead s.blks 1)) 1))
theorem fl21_0_0 (s : St) : refSt (h21_0_0 0 0 0 0 0) s = p21_0_0 h21_0_0 s := by kernel_rfl
def VLS21_0 (N : Nat) : LSpec β := fun s K => cond (shpSt (h21_0_0 0 0 0 0 0) s) (p21_0_0 (fun v0 v1 v2 v3 v4 => zq9 N v0 v1 v2 v3 v4 (fun y0 y1 y2 y3 => K (.exit 0) (x21_0_0_k0 y0 y1 y2 y3))) s) (none)
def LS21_0 (N : Nat) : LSpec β := VLS21_0 (zj9 N) N
def VE21 (N : Nat) : Env β := ⟨[(20, VS20 zq2 N), (88, VS88 zq7 N), (89, VS89 zq6 N)], [], [(0, VLS21_0 zq9 N)], [], ⟨[], [], [157], [222]⟩⟩
def E21 (N : Nat) : Env β := VE21 (zj2 N) (zj6 N) (zj7 N) (zj9 N) N
theorem vst21_0_0 (N : Nat) (v0 : Int) (v1 : Int) (v2 : Int) (v3 : Int) (v4 : Int) (rec_ : St → O β) (K : Exit → St → O β) :
    stB lay (VE21 zq2 zq6 zq7 zq9 N) Tryz.f21 0 (h21_0_0 v0 v1 v2 v3 v4) rec_ K = zb8 zq6 zq7 N v0 v1 v2 v3 v4 (fun v0 v1 v2 v3 v4 => rec_ (h21_0_0 v0 v1 v2 v3 v4)) (fun y0 y1 y2 y3 => K (.exit 0) (x21_0_0_k0 y0 y1 y2 y3)) := by kernel_rfl
theorem ro21_0_0 (N : Nat) (K : Exit → St → O β) : ∀ (F : Nat) (v0 : Int) (v1 : Int) (v2 : Int) (v3 : Int) (v4 : Int), (lp Tryz.f21 0).rounds lay (E21 N) (retMask Tryz.f21) F (h21_0_0 v0 v1 v2 v3 v4) K = zj9 N F v0 v1 v2 v3 v4 (fun y0 y1 y2 y3 => K (.exit 0) (x21_0_0_k0 y0 y1 y2 y3)) := by
  intro F
  induction F with
  | zero => intros; rfl
  | succ F ih =>
    intros
    rw [rounds_next]
    refine (vst21_0_0 (zj2 N) (zj6 N) (zj7 N) (zj9 N) N _ _ _ _ _ (fun s => (lp Tryz.f21 0).rounds lay (E21 N) (retMask Tryz.f21) F s K) K).trans ?_
    simp only [ih]
    rfl
theorem lk21_0 (N : Nat) : lookL (E21 (β := β) N).loops (lp Tryz.f21 0).id = LS21_0 N := by kernel_rfl
theorem rk21_0 (N : Nat) : RoundsOK lay (E21 (β := β) N) (retMask Tryz.f21) (lp Tryz.f21 0) := by
  intro s K r h
  rw [lk21_0] at h
  unfold LS21_0 VLS21_0 at h
  cases hb : shpSt (h21_0_0 0 0 0 0 0) s with
  | true =>
    rw [hb, cond_true] at h
    exact ⟨N, by rw [← shpSt_ref hb, fl21_0_0 s]; unfold p21_0_0 at h ⊢; exact (ro21_0_0 N K N _ _ _ _ _).trans h⟩
  | false =>
  rw [hb, cond_false] at h
  clear hb
  cases h
theorem ve21_0 (N : Nat) (a0 : Int) (a1 : Int) (K : TV → O β) : evFn lay (VE21 zq2 zq6 zq7 zq9 N) Tryz.f21 [.v (.agg [.int .i64 a0, .int .i64 a1])] K = zb10 zq2 zq9 N a0 a1 (fun z2 z3 z4 => K (.tup [.agg [.int .i64 z2, .int .i64 z3], .one (.bool z4)])) := by kernel_rfl
theorem o21 (N : Nat) : SpecOK (β := β) inv Tryz.prog 21 (S21 N) := by
  refine spec_of lay_ok mixed (E := E21 N) (specs_loops (specs_cons (o20 N) (specs_cons (o88 N) (specs_cons (o89 N) specs_nil)))) muts_nil gs_nil Tryz.func21 (by kernel_rfl) 1 (by kernel_rfl) ⟨trivial, rk21_0 N⟩ fun args K r h => ?_
  unfold S21 VS21 at h
  split at h
  · exact (ve21_0 (zj2 N) (zj6 N) (zj7 N) (zj9 N) N _ _ _).trans h
  · cases h
def VS22 (N : Nat) : Rv.Spec β := fun args K => match args with
  | [.v (.agg [.int .i64 a0, .int .i64 a1])] => zq13 a0 a1 (fun z2 => K (.v (.one (.str z2))))
  | _ => none
def S22 (N : Nat) : Rv.Spec β := VS22 (zj13 N) N
def h22_0_0 (v0 : ByteArray) (v1 : Int) (v2 : Int) (v3 : Int) : St := ⟨tund :: .v (.one (.ptr 0 0)) :: tund :: .v (.one (.str v0)) :: .v (.one (.int .i64 v1)) :: tn 22 [], [.cells 25 [.int .i64 v2, .int .i64 v3]]⟩
def x22_0_0_k0 (y0 : ByteArray) : St := ⟨tn 3 (.v (.one (.str y0)) :: tn 23 []), []⟩
def p22_0_0 {γ : Type} (f : ByteArray → Int → Int → Int → γ) (s : St) : γ := f (strS (oneA (vT (nx tund s.tmps 3)))) (intS (oneA (vT (nx tund s.tmps 4)))) (intS (nx .und (cellsB (nx .dead s.blks 0)) 0)) (intS (nx .und (cellsB (nx .dead s.blks 0)) 1))
theorem fl22_0_0 (s : St) : refSt (h22_0_0 ByteArray.empty 0 0 0) s = p22_0_0 h22_0_0 s := by kernel_rfl
def VLS22_0 (N : Nat) : LSpec β := fun s K => cond (shpSt (h22_0_0 ByteArray.empty 0 0 0) s) (p22_0_0 (fun v0 v1 v2 v3 => zq12 N v0 v1 v2 v3 (fun y0 => K (.exit 0) (x22_0_0_k0 y0))) s) (none)
def LS22_0 (N : Nat) : LSpec β := VLS22_0 (zj12 N) N
def VE22 (N : Nat) : Env β := ⟨[(20, VS20 zq2 N)], [], [(0, VLS22_0 zq12 N)], [], ⟨[], [], [157], [222]⟩⟩
def E22 (N : Nat) : Env β := VE22 (zj2 N) (zj12 N) N
theorem vst22_0_0 (N : Nat) (v0 : ByteArray) (v1 : Int) (v2 : Int) (v3 : Int) (rec_ : St → O β) (K : Exit → St → O β) :
    stB lay (VE22 zq2 zq12 N) Tryz.f22 0 (h22_0_0 v0 v1 v2 v3) rec_ K = zb11 zq2 N v0 v1 v2 v3 (fun v0 v1 v2 v3 => rec_ (h22_0_0 v0 v1 v2 v3)) (fun y0 => K (.exit 0) (x22_0_0_k0 y0)) := by kernel_rfl
theorem ro22_0_0 (N : Nat) (K : Exit → St → O β) : ∀ (F : Nat) (v0 : ByteArray) (v1 : Int) (v2 : Int) (v3 : Int), (lp Tryz.f22 0).rounds lay (E22 N) (retMask Tryz.f22) F (h22_0_0 v0 v1 v2 v3) K = zj12 N F v0 v1 v2 v3 (fun y0 => K (.exit 0) (x22_0_0_k0 y0)) := by
  intro F
  induction F with
  | zero => intros; rfl
  | succ F ih =>
    intros
    rw [rounds_next]
    refine (vst22_0_0 (zj2 N) (zj12 N) N _ _ _ _ (fun s => (lp Tryz.f22 0).rounds lay (E22 N) (retMask Tryz.f22) F s K) K).trans ?_
    simp only [ih]
    rfl
theorem lk22_0 (N : Nat) : lookL (E22 (β := β) N).loops (lp Tryz.f22 0).id = LS22_0 N := by kernel_rfl
theorem rk22_0 (N : Nat) : RoundsOK lay (E22 (β := β) N) (retMask Tryz.f22) (lp Tryz.f22 0) := by
  intro s K r h
  rw [lk22_0] at h
  unfold LS22_0 VLS22_0 at h
  cases hb : shpSt (h22_0_0 ByteArray.empty 0 0 0) s with
  | true =>
    rw [hb, cond_true] at h
    exact ⟨N, by rw [← shpSt_ref hb, fl22_0_0 s]; unfold p22_0_0 at h ⊢; exact (ro22_0_0 N K N _ _ _ _).trans h⟩
  | false =>
  rw [hb, cond_false] at h
  clear hb
  cases h
theorem ve22_0 (N : Nat) (a0 : Int) (a1 : Int) (K : TV → O β) : evFn lay (VE22 zq2 zq12 N) Tryz.f22 [.v (.agg [.int .i64 a0, .int .i64 a1])] K = zb13 zq12 N a0 a1 (fun z2 => K (.v (.one (.str z2)))) := by kernel_rfl
theorem o22 (N : Nat) : SpecOK (β := β) inv Tryz.prog 22 (S22 N) := by
  refine spec_of lay_ok mixed (E := E22 N) (specs_loops (specs_cons (o20 N) specs_nil)) muts_nil gs_nil Tryz.func22 (by kernel_rfl) 1 (by kernel_rfl) ⟨trivial, rk22_0 N⟩ fun args K r h => ?_
  unfold S22 VS22 at h
  split at h
  · exact (ve22_0 (zj2 N) (zj12 N) N _ _ _).trans h
  · cases h
def VS24 (N : Nat) : Rv.Spec β := fun args K => match args with
  | [.v (.one (.int .i64 a0))] => zq16 a0 (fun z1 => K (.v (.one (.int .i64 z1))))
  | _ => none
def S24 (N : Nat) : Rv.Spec β := VS24 (zj16 N) N
def h24_0_0 (v0 : Int) (v1 : Int) : St := ⟨tn 3 (.v (.one (.int .i64 v0)) :: .v (.one (.int .i64 v1)) :: tn 10 []), []⟩
def x24_0_0_k0 (y0 : Int) : St := ⟨tn 3 (.v (.one (.int .i64 y0)) :: tn 11 []), []⟩
def p24_0_0 {γ : Type} (f : Int → Int → γ) (s : St) : γ := f (intS (oneA (vT (nx tund s.tmps 3)))) (intS (oneA (vT (nx tund s.tmps 4))))
theorem fl24_0_0 (s : St) : refSt (h24_0_0 0 0) s = p24_0_0 h24_0_0 s := by kernel_rfl
def VLS24_0 (N : Nat) : LSpec β := fun s K => cond (shpSt (h24_0_0 0 0) s) (p24_0_0 (fun v0 v1 => zq15 N v0 v1 (fun y0 => K (.exit 0) (x24_0_0_k0 y0))) s) (none)
def LS24_0 (N : Nat) : LSpec β := VLS24_0 (zj15 N) N
def VE24 (N : Nat) : Env β := ⟨[], [], [(0, VLS24_0 zq15 N)], [], ⟨[], [], [157], [222]⟩⟩
def E24 (N : Nat) : Env β := VE24 (zj15 N) N
theorem vst24_0_0 (N : Nat) (v0 : Int) (v1 : Int) (rec_ : St → O β) (K : Exit → St → O β) :
    stB lay (VE24 zq15 N) Tryz.f24 0 (h24_0_0 v0 v1) rec_ K = zb14 N v0 v1 (fun v0 v1 => rec_ (h24_0_0 v0 v1)) (fun y0 => K (.exit 0) (x24_0_0_k0 y0)) := by kernel_rfl
theorem ro24_0_0 (N : Nat) (K : Exit → St → O β) : ∀ (F : Nat) (v0 : Int) (v1 : Int), (lp Tryz.f24 0).rounds lay (E24 N) (retMask Tryz.f24) F (h24_0_0 v0 v1) K = zj15 N F v0 v1 (fun y0 => K (.exit 0) (x24_0_0_k0 y0)) := by
  intro F
  induction F with
  | zero => intros; rfl
  | succ F ih =>
    intros
    rw [rounds_next]
    refine (vst24_0_0 (zj15 N) N _ _ (fun s => (lp Tryz.f24 0).rounds lay (E24 N) (retMask Tryz.f24) F s K) K).trans ?_
    simp only [ih]
    rfl
theorem lk24_0 (N : Nat) : lookL (E24 (β := β) N).loops (lp Tryz.f24 0).id = LS24_0 N := by kernel_rfl
theorem rk24_0 (N : Nat) : RoundsOK lay (E24 (β := β) N) (retMask Tryz.f24) (lp Tryz.f24 0) := by
  intro s K r h
  rw [lk24_0] at h
  unfold LS24_0 VLS24_0 at h
  cases hb : shpSt (h24_0_0 0 0) s with
  | true =>
    rw [hb, cond_true] at h
    exact ⟨N, by rw [← shpSt_ref hb, fl24_0_0 s]; unfold p24_0_0 at h ⊢; exact (ro24_0_0 N K N _ _).trans h⟩
  | false =>
  rw [hb, cond_false] at h
  clear hb
  cases h
theorem ve24_0 (N : Nat) (a0 : Int) (K : TV → O β) : evFn lay (VE24 zq15 N) Tryz.f24 [.v (.one (.int .i64 a0))] K = zb16 zq15 N a0 (fun z1 => K (.v (.one (.int .i64 z1)))) := by kernel_rfl
theorem o24 (N : Nat) : SpecOK (β := β) inv Tryz.prog 24 (S24 N) := by
  refine spec_of lay_ok mixed (E := E24 N) (specs_loops specs_nil) muts_nil gs_nil Tryz.func24 (by kernel_rfl) 1 (by kernel_rfl) ⟨trivial, rk24_0 N⟩ fun args K r h => ?_
  unfold S24 VS24 at h
  split at h
  · exact (ve24_0 (zj15 N) N _ _).trans h
  · cases h
def VS23 (N : Nat) : Rv.Spec β := fun args K => match args with
  | [.v (.one (.int .i64 a0))] => zq19 a0 (fun z1 => K (.v (.one (.str z1))))
  | _ => none
def S23 (N : Nat) : Rv.Spec β := VS23 (zj19 N) N
def h23_0_0 (v0 : Int) (v1 : ByteArray) (v2 : Bool) : St := ⟨.v (.one (.int .i64 v0)) :: tund :: tund :: .v (.one (.str v1)) :: .v (.one (.bool v2)) :: tn 26 [], []⟩
def x23_0_0_k0 (y0 : ByteArray) (y1 : Bool) : St := ⟨tn 3 (.v (.one (.str y0)) :: .v (.one (.bool y1)) :: tn 26 []), []⟩
def p23_0_0 {γ : Type} (f : Int → ByteArray → Bool → γ) (s : St) : γ := f (intS (oneA (vT (nx tund s.tmps 0)))) (strS (oneA (vT (nx tund s.tmps 3)))) (boolS (oneA (vT (nx tund s.tmps 4))))
theorem fl23_0_0 (s : St) : refSt (h23_0_0 0 ByteArray.empty false) s = p23_0_0 h23_0_0 s := by kernel_rfl
def VLS23_0 (N : Nat) : LSpec β := fun s K => cond (shpSt (h23_0_0 0 ByteArray.empty false) s) (p23_0_0 (fun v0 v1 v2 => zq18 N v0 v1 v2 (fun y0 y1 => K (.exit 0) (x23_0_0_k0 y0 y1))) s) (none)
def LS23_0 (N : Nat) : LSpec β := VLS23_0 (zj18 N) N
def VE23 (N : Nat) : Env β := ⟨[], [], [(0, VLS23_0 zq18 N)], [], ⟨[], [], [157], [222]⟩⟩
def E23 (N : Nat) : Env β := VE23 (zj18 N) N
theorem vst23_0_0 (N : Nat) (v0 : Int) (v1 : ByteArray) (v2 : Bool) (rec_ : St → O β) (K : Exit → St → O β) :
    stB lay (VE23 zq18 N) Tryz.f23 0 (h23_0_0 v0 v1 v2) rec_ K = zb17 N v0 v1 v2 (fun v0 v1 v2 => rec_ (h23_0_0 v0 v1 v2)) (fun y0 y1 => K (.exit 0) (x23_0_0_k0 y0 y1)) := by kernel_rfl
theorem ro23_0_0 (N : Nat) (K : Exit → St → O β) : ∀ (F : Nat) (v0 : Int) (v1 : ByteArray) (v2 : Bool), (lp Tryz.f23 0).rounds lay (E23 N) (retMask Tryz.f23) F (h23_0_0 v0 v1 v2) K = zj18 N F v0 v1 v2 (fun y0 y1 => K (.exit 0) (x23_0_0_k0 y0 y1)) := by
  intro F
  induction F with
  | zero => intros; rfl
  | succ F ih =>
    intros
    rw [rounds_next]
    refine (vst23_0_0 (zj18 N) N _ _ _ (fun s => (lp Tryz.f23 0).rounds lay (E23 N) (retMask Tryz.f23) F s K) K).trans ?_
    simp only [ih]
    rfl
theorem lk23_0 (N : Nat) : lookL (E23 (β := β) N).loops (lp Tryz.f23 0).id = LS23_0 N := by kernel_rfl
theorem rk23_0 (N : Nat) : RoundsOK lay (E23 (β := β) N) (retMask Tryz.f23) (lp Tryz.f23 0) := by
  intro s K r h
  rw [lk23_0] at h
  unfold LS23_0 VLS23_0 at h
  cases hb : shpSt (h23_0_0 0 ByteArray.empty false) s with
  | true =>
    rw [hb, cond_true] at h
    exact ⟨N, by rw [← shpSt_ref hb, fl23_0_0 s]; unfold p23_0_0 at h ⊢; exact (ro23_0_0 N K N _ _ _).trans h⟩
  | false =>
  rw [hb, cond_false] at h
  clear hb
  cases h
theorem ve23_0 (N : Nat) (a0 : Int) (K : TV → O β) : evFn lay (VE23 zq18 N) Tryz.f23 [.v (.one (.int .i64 a0))] K = zb19 zq18 N a0 (fun z1 => K (.v (.one (.str z1)))) := by kernel_rfl
theorem o23 (N : Nat) : SpecOK (β := β) inv Tryz.prog 23 (S23 N) := by
  refine spec_of lay_ok mixed (E := E23 N) (specs_loops specs_nil) muts_nil gs_nil Tryz.func23 (by kernel_rfl) 1 (by kernel_rfl) ⟨trivial, rk23_0 N⟩ fun args K r h => ?_
  unfold S23 VS23 at h
  split at h
  · exact (ve23_0 (zj18 N) N _ _).trans h
  · cases h
def VS26 (N : Nat) : Rv.Spec β := fun args K => match args with
  | [.v (.agg [.int .i64 a0, .int .i64 a1])] => zq22 a0 a1 (fun z2 => K (.v (.one (.sl 3 (.ints .i64 z2)))))
  | _ => none
def S26 (N : Nat) : Rv.Spec β := VS26 (zj22 N) N
def h26_0_0 (v0 : Int) (v1 : Int) (v2 : Int) (v3 : List Int) : St := ⟨tund :: .v (.one (.ptr 0 0)) :: tund :: .v (.one (.row 1)) :: .v (.one (.int .i64 v0)) :: tn 19 [], [.cells 25 [.int .i64 v1, .int .i64 v2], .row 3 (.ints .i64 v3)]⟩
def x26_0_0_k0 (y0 : List Int) : St := ⟨tn 3 (.v (.one (.row 0)) :: tn 20 []), [.row 3 (.ints .i64 y0)]⟩
def p26_0_0 {γ : Type} (f : Int → Int → Int → List Int → γ) (s : St) : γ := f (intS (oneA (vT (nx tund s.tmps 4)))) (intS (nx .und (cellsB (nx .dead s.blks 0)) 0)) (intS (nx .und (cellsB (nx .dead s.blks 0)) 1)) (rInts (rowB_ (nx .dead s.blks 1)))
theorem fl26_0_0 (s : St) : refSt (h26_0_0 0 0 0 []) s = p26_0_0 h26_0_0 s := by kernel_rfl
def VLS26_0 (N : Nat) : LSpec β := fun s K => cond (shpSt (h26_0_0 0 0 0 []) s) (p26_0_0 (fun v0 v1 v2 v3 => zq21 N v0 v1 v2 v3 (fun y0 => K (.exit 0) (x26_0_0_k0 y0))) s) (none)
def LS26_0 (N : Nat) : LSpec β := VLS26_0 (zj21 N) N
def VE26 (N : Nat) : Env β := ⟨[(20, VS20 zq2 N), (88, VS88 zq7 N)], [], [(0, VLS26_0 zq21 N)], [], ⟨[], [], [157], [222]⟩⟩
def E26 (N : Nat) : Env β := VE26 (zj2 N) (zj7 N) (zj21 N) N
theorem vst26_0_0 (N : Nat) (v0 : Int) (v1 : Int) (v2 : Int) (v3 : List Int) (rec_ : St → O β) (K : Exit → St → O β) :
    stB lay (VE26 zq2 zq7 zq21 N) Tryz.f26 0 (h26_0_0 v0 v1 v2 v3) rec_ K = zb20 zq2 zq7 N v0 v1 v2 v3 (fun v0 v1 v2 v3 => rec_ (h26_0_0 v0 v1 v2 v3)) (fun y0 => K (.exit 0) (x26_0_0_k0 y0)) := by kernel_rfl
theorem ro26_0_0 (N : Nat) (K : Exit → St → O β) : ∀ (F : Nat) (v0 : Int) (v1 : Int) (v2 : Int) (v3 : List Int), (lp Tryz.f26 0).rounds lay (E26 N) (retMask Tryz.f26) F (h26_0_0 v0 v1 v2 v3) K = zj21 N F v0 v1 v2 v3 (fun y0 => K (.exit 0) (x26_0_0_k0 y0)) := by
  intro F
  induction F with
  | zero => intros; rfl
  | succ F ih =>
    intros
    rw [rounds_next]
    refine (vst26_0_0 (zj2 N) (zj7 N) (zj21 N) N _ _ _ _ (fun s => (lp Tryz.f26 0).rounds lay (E26 N) (retMask Tryz.f26) F s K) K).trans ?_
    simp only [ih]
    rfl
theorem lk26_0 (N : Nat) : lookL (E26 (β := β) N).loops (lp Tryz.f26 0).id = LS26_0 N := by kernel_rfl
theorem rk26_0 (N : Nat) : RoundsOK lay (E26 (β := β) N) (retMask Tryz.f26) (lp Tryz.f26 0) := by
  intro s K r h
  rw [lk26_0] at h
  unfold LS26_0 VLS26_0 at h
  cases hb : shpSt (h26_0_0 0 0 0 []) s with
  | true =>
    rw [hb, cond_true] at h
    exact ⟨N, by rw [← shpSt_ref hb, fl26_0_0 s]; unfold p26_0_0 at h ⊢; exact (ro26_0_0 N K N _ _ _ _).trans h⟩
  | false =>
  rw [hb, cond_false] at h
  clear hb
  cases h
theorem ve26_0 (N : Nat) (a0 : Int) (a1 : Int) (K : TV → O β) : evFn lay (VE26 zq2 zq7 zq21 N) Tryz.f26 [.v (.agg [.int .i64 a0, .int .i64 a1])] K = zb22 zq21 N a0 a1 (fun z2 => K (.v (.one (.sl 3 (.ints .i64 z2))))) := by kernel_rfl
theorem o26 (N : Nat) : SpecOK (β := β) inv Tryz.prog 26 (S26 N) := by
  refine spec_of lay_ok mixed (E := E26 N) (specs_loops (specs_cons (o20 N) (specs_cons (o88 N) specs_nil))) muts_nil gs_nil Tryz.func26 (by kernel_rfl) 1 (by kernel_rfl) ⟨trivial, rk26_0 N⟩ fun args K r h => ?_
  unfold S26 VS26 at h
  split at h
  · exact (ve26_0 (zj2 N) (zj7 N) (zj21 N) N _ _ _).trans h
  · cases h
end Go.Proofs.YtemihnclhcobnaaGreatDoor
