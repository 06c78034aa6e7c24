/- The functions that the claims reach answer as their texts do. -/
import Derived.Test.YtdkjnadhgdneaaaE2
namespace Go.Proofs.Ytdkjnadhgdneaaa
open Go.Rv
set_option maxRecDepth 100000
set_option maxHeartbeats 2000000
set_option linter.unusedVariables false
def VS66 {β : Type} (N : Nat) (q_spec_l1PickInt_g0 : (a0 : List Int) → (a1 : Int) → (a2 : Int) → (a3 : List Int) → (k0 : Int → List Int → Int → Int → List Int → Option β) → Option β) : GSpec β := fun args bl K => match args, bl with
  | [.v (.one (.ptr 0 0)), .v (.one (.row 1))], [.pcells 0 96 [.sl 5 (.ints .u8 a0), .int .i64 a1, .int .i64 a2], .prow 1 3 (.ints .i64 a3)] => q_spec_l1PickInt_g0 a0 a1 a2 a3 (fun y0 y1 y2 y3 y4 => K (.v (.one (.int .i64 y0))) [.pcells 0 96 [.sl 5 (.ints .u8 y1), .int .i64 y2, .int .i64 y3], .prow 1 3 (.ints .i64 y4)])
  | _, _ => none
def S66 {β : Type} (N : Nat) : GSpec β := VS66 N (spec_l1PickInt_g0 N)
def VE66 {β : Type} (N : Nat) (q_spec_l1Below_g0 : (a0 : Int) → (a1 : List Int) → (a2 : Int) → (a3 : Int) → (k0 : Int → List Int → Int → Int → Option β) → Option β) : Env β := ⟨[], [], [], [(57, VS57 N q_spec_l1Below_g0)]⟩
def E66 {β : Type} (N : Nat) : Env β := VE66 N (spec_l1Below_g0 N)
def BV_spec_l1PickInt_g0 {β : Type} (N : Nat) (q_spec_l1Below_g0 : (a0 : Int) → (a1 : List Int) → (a2 : Int) → (a3 : Int) → (k0 : Int → List Int → Int → Int → Option β) → Option β) (a0 : List Int) (a1 : Int) (a2 : Int) (a3 : List Int) (k0 : Int → List Int → Int → Int → List Int → Option β) : Option β :=
q_spec_l1Below_g0 ((a3.length : Int)) a0 a1 a2 (fun r95_0 r95_1 r95_2 r95_3 =>
(gd ((decide (0 ≤ r95_0)))
((gd ((decide (r95_0 < (a3.length : Int))))
(k0 ((rd 0 a3 r95_0)) r95_1 r95_2 r95_3 a3)))))
theorem t_spec_l1PickInt_g0 {β : Type} (N : Nat) (a0 : List Int) (a1 : Int) (a2 : Int) (a3 : List Int) (k0 : Int → List Int → Int → Int → List Int → Option β) : spec_l1PickInt_g0 N a0 a1 a2 a3 k0 = BV_spec_l1PickInt_g0 N (spec_l1Below_g0 N) a0 a1 a2 a3 k0 := by
  unfold spec_l1PickInt_g0 BV_spec_l1PickInt_g0
  rfl
theorem ve66_0 {β : Type} (N : Nat) (q_spec_l1Below_g0 : (a0 : Int) → (a1 : List Int) → (a2 : Int) → (a3 : Int) → (k0 : Int → List Int → Int → Int → Option β) → Option β) (a0 : List Int) (a1 : Int) (a2 : Int) (a3 : List Int) (K : TV → List Blk → Option β) : evFnG lay (VE66 N q_spec_l1Below_g0) Try.f66 [.v (.one (.ptr 0 0)), .v (.one (.row 1))] [.pcells 0 96 [.sl 5 (.ints .u8 a0), .int .i64 a1, .int .i64 a2], .prow 1 3 (.ints .i64 a3)] K = BV_spec_l1PickInt_g0 N q_spec_l1Below_g0 a0 a1 a2 a3 (fun y0 y1 y2 y3 y4 => K (.v (.one (.int .i64 y0))) [.pcells 0 96 [.sl 5 (.ints .u8 y1), .int .i64 y2, .int .i64 y3], .prow 1 3 (.ints .i64 y4)]) := by kernel_rfl
theorem e66_0 {β : Type} (N : Nat) (a0 : List Int) (a1 : Int) (a2 : Int) (a3 : List Int) (K : TV → List Blk → Option β) : evFnG lay (E66 N) Try.f66 [.v (.one (.ptr 0 0)), .v (.one (.row 1))] [.pcells 0 96 [.sl 5 (.ints .u8 a0), .int .i64 a1, .int .i64 a2], .prow 1 3 (.ints .i64 a3)] K = spec_l1PickInt_g0 N a0 a1 a2 a3 (fun y0 y1 y2 y3 y4 => K (.v (.one (.int .i64 y0))) [.pcells 0 96 [.sl 5 (.ints .u8 y1), .int .i64 y2, .int .i64 y3], .prow 1 3 (.ints .i64 y4)]) := (ve66_0 N (spec_l1Below_g0 N) a0 a1 a2 a3 K).trans (t_spec_l1PickInt_g0 N a0 a1 a2 a3 (fun y0 y1 y2 y3 y4 => K (.v (.one (.int .i64 y0))) [.pcells 0 96 [.sl 5 (.ints .u8 y1), .int .i64 y2, .int .i64 y3], .prow 1 3 (.ints .i64 y4)])).symm
theorem o66 {β : Type} (N : Nat) : GOK (β := β) Try.prog 66 (S66 N) := by
  refine g_of lay_ok mixed (E := E66 N) (specs_loops specs_nil) muts_nil (gs_cons (o57 N) gs_nil) Try.func66 (by kernel_rfl) 0 (by kernel_rfl) trivial fun args bl K r h => ?_
  unfold S66 VS66 at h
  split at h
  · exact (e66_0 N _ _ _ _ _).trans h
  · cases h
def VS68 {β : Type} (N : Nat) (q_spec_l2Any_g0 : (a0 : List Int) → (a1 : Int) → (a2 : Int) → (k0 : Int → Int → List Int → Int → Int → Option β) → Option β) : GSpec β := fun args bl K => match args, bl with
  | [.v (.one (.ptr 0 0))], [.pcells 0 96 [.sl 5 (.ints .u8 a0), .int .i64 a1, .int .i64 a2]] => q_spec_l2Any_g0 a0 a1 a2 (fun y0 y1 y2 y3 y4 => K (.v (.agg [.int .i64 y0, .int .i64 y1])) [.pcells 0 96 [.sl 5 (.ints .u8 y2), .int .i64 y3, .int .i64 y4]])
  | _, _ => none
def S68 {β : Type} (N : Nat) : GSpec β := VS68 N (spec_l2Any_g0 N)
def VE68 {β : Type} (N : Nat) (q_spec_l1Below_g0 : (a0 : Int) → (a1 : List Int) → (a2 : Int) → (a3 : Int) → (k0 : Int → List Int → Int → Int → Option β) → Option β) (q_spec_l2Draw_g0 : (a0 : Int) → (a1 : List Int) → (a2 : Int) → (a3 : Int) → (k0 : Int → Int → List Int → Int → Int → Option β) → Option β) (q_spec_l1PickInt_g0 : (a0 : List Int) → (a1 : Int) → (a2 : Int) → (a3 : List Int) → (k0 : Int → List Int → Int → Int → List Int → Option β) → Option β) : Env β := ⟨[], [], [], [(57, VS57 N q_spec_l1Below_g0), (113, VS113 N q_spec_l2Draw_g0), (66, VS66 N q_spec_l1PickInt_g0)]⟩
def E68 {β : Type} (N : Nat) : Env β := VE68 N (spec_l1Below_g0 N) (spec_l2Draw_g0 N) (spec_l1PickInt_g0 N)
def BV_spec_l2Any_g0 {β : Type} (N : Nat) (q_spec_l1Below_g0 : (a0 : Int) → (a1 : List Int) → (a2 : Int) → (a3 : Int) → (k0 : Int → List Int → Int → Int → Option β) → Option β) (q_spec_l2Draw_g0 : (a0 : Int) → (a1 : List Int) → (a2 : Int) → (a3 : Int) → (k0 : Int → Int → List Int → Int → Int → Option β) → Option β) (q_spec_l1PickInt_g0 : (a0 : List Int) → (a1 : Int) → (a2 : Int) → (a3 : List Int) → (k0 : Int → List Int → Int → Int → List Int → Option β) → Option β) (a0 : List Int) (a1 : Int) (a2 : Int) (k0 : Int → Int → List Int → Int → Int → Option β) : Option β :=
q_spec_l1Below_g0 5 a0 a1 a2 (fun r71_0 r71_1 r71_2 r71_3 =>
q_spec_l2Draw_g0 r71_0 r71_1 r71_2 r71_3 (fun r93_0 r93_1 r93_2 r93_3 r93_4 =>
q_spec_l1Below_g0 14 r93_2 r93_3 r93_4 (fun r94_0 r94_1 r94_2 r94_3 =>
(cond ((r94_0 == 0))
(q_spec_l1PickInt_g0 r94_1 r94_2 r94_3 ((((((([] : List Int) ++ [(-1)]) ++ [6]) ++ [5]) ++ [0]) ++ [9223372036854775807])) (fun r96_0 r96_1 r96_2 r96_3 r96_4 =>
k0 r96_0 r93_1 r96_1 r96_2 r96_3))
((cond ((r94_0 == 1))
(q_spec_l1PickInt_g0 r94_1 r94_2 r94_3 ((((((([] : List Int) ++ [(-1)]) ++ [0]) ++ [1]) ++ [65536]) ++ [9223372036854775807])) (fun r97_0 r97_1 r97_2 r97_3 r97_4 =>
k0 r93_0 r97_0 r97_1 r97_2 r97_3))
(k0 r93_0 r93_1 r94_1 r94_2 r94_3)))))))
theorem t_spec_l2Any_g0 {β : Type} (N : Nat) (a0 : List Int) (a1 : Int) (a2 : Int) (k0 : Int → Int → List Int → Int → Int → Option β) : spec_l2Any_g0 N a0 a1 a2 k0 = BV_spec_l2Any_g0 N (spec_l1Below_g0 N) (spec_l2Draw_g0 N) (spec_l1PickInt_g0 N) a0 a1 a2 k0 := by
  unfold spec_l2Any_g0 BV_spec_l2Any_g0
  rfl
theorem ve68_0 {β : Type} (N : Nat) (q_spec_l1Below_g0 : (a0 : Int) → (a1 : List Int) → (a2 : Int) → (a3 : Int) → (k0 : Int → List Int → Int → Int → Option β) → Option β) (q_spec_l2Draw_g0 : (a0 : Int) → (a1 : List Int) → (a2 : Int) → (a3 : Int) → (k0 : Int → Int → List Int → Int → Int → Option β) → Option β) (q_spec_l1PickInt_g0 : (a0 : List Int) → (a1 : Int) → (a2 : Int) → (a3 : List Int) → (k0 : Int → List Int → Int → Int → List Int → Option β) → Option β) (a0 : List Int) (a1 : Int) (a2 : Int) (K : TV → List Blk → Option β) : evFnG lay (VE68 N q_spec_l1Below_g0 q_spec_l2Draw_g0 q_spec_l1PickInt_g0) Try.f68 [.v (.one (.ptr 0 0))] [.pcells 0 96 [.sl 5 (.ints .u8 a0), .int .i64 a1, .int .i64 a2]] K = BV_spec_l2Any_g0 N q_spec_l1Below_g0 q_spec_l2Draw_g0 q_spec_l1PickInt_g0 a0 a1 a2 (fun y0 y1 y2 y3 y4 => K (.v (.agg [.int .i64 y0, .int .i64 y1])) [.pcells 0 96 [.sl 5 (.ints .u8 y2), .int .i64 y3, .int .i64 y4]]) := by kernel_rfl
theorem e68_0 {β : Type} (N : Nat) (a0 : List Int) (a1 : Int) (a2 : Int) (K : TV → List Blk → Option β) : evFnG lay (E68 N) Try.f68 [.v (.one (.ptr 0 0))] [.pcells 0 96 [.sl 5 (.ints .u8 a0), .int .i64 a1, .int .i64 a2]] K = spec_l2Any_g0 N a0 a1 a2 (fun y0 y1 y2 y3 y4 => K (.v (.agg [.int .i64 y0, .int .i64 y1])) [.pcells 0 96 [.sl 5 (.ints .u8 y2), .int .i64 y3, .int .i64 y4]]) := (ve68_0 N (spec_l1Below_g0 N) (spec_l2Draw_g0 N) (spec_l1PickInt_g0 N) a0 a1 a2 K).trans (t_spec_l2Any_g0 N a0 a1 a2 (fun y0 y1 y2 y3 y4 => K (.v (.agg [.int .i64 y0, .int .i64 y1])) [.pcells 0 96 [.sl 5 (.ints .u8 y2), .int .i64 y3, .int .i64 y4]])).symm
theorem o68 {β : Type} (N : Nat) : GOK (β := β) Try.prog 68 (S68 N) := by
  refine g_of lay_ok mixed (E := E68 N) (specs_loops specs_nil) muts_nil (gs_cons (o57 N) (gs_cons (o113 N) (gs_cons (o66 N) gs_nil))) Try.func68 (by kernel_rfl) 0 (by kernel_rfl) trivial fun args bl K r h => ?_
  unfold S68 VS68 at h
  split at h
  · exact (e68_0 N _ _ _ _).trans h
  · cases h
def VS56 {β : Type} (N : Nat) (q_spec_l30Draw_g0 : (a0 : List Int) → (a1 : Int) → (a2 : Int) → (k0 : Int → Int → Int → List Int → Int → Int → List Int → Option β) → Option β) : GSpec β := fun args bl K => match args, bl with
  | [.v (.one (.ptr 0 0))], [.pcells 0 96 [.sl 5 (.ints .u8 a0), .int .i64 a1, .int .i64 a2]] => q_spec_l30Draw_g0 a0 a1 a2 (fun y0 y1 y2 y3 y4 y5 y6 => K (.v (.agg [.int .i64 y0, .int .i64 y1, .int .i64 y2, .row 1])) [.pcells 0 96 [.sl 5 (.ints .u8 y3), .int .i64 y4, .int .i64 y5], .row 3 (.ints .i64 y6)])
  | _, _ => none
def S56 {β : Type} (N : Nat) : GSpec β := VS56 N (spec_l30Draw_g0 N)
def VE56 {β : Type} (N : Nat) (q_spec_NewKept : (a0 : Int) → (a1 : Int) → (k : Int → Int → Int → List Int → Bool → Option β) → Option β) (q_spec_l2Any_g0 : (a0 : List Int) → (a1 : Int) → (a2 : Int) → (k0 : Int → Int → List Int → Int → Int → Option β) → Option β) (q_spec_l1Below_g0 : (a0 : Int) → (a1 : List Int) → (a2 : Int) → (a3 : Int) → (k0 : Int → List Int → Int → Int → Option β) → Option β) (q_spec_l1PickInt_g0 : (a0 : List Int) → (a1 : Int) → (a2 : Int) → (a3 : List Int) → (k0 : Int → List Int → Int → Int → List Int → Option β) → Option β) : Env β := ⟨[(21, VS21 N q_spec_NewKept)], [], [], [(68, VS68 N q_spec_l2Any_g0), (57, VS57 N q_spec_l1Below_g0), (66, VS66 N q_spec_l1PickInt_g0)]⟩
def E56 {β : Type} (N : Nat) : Env β := VE56 N (spec_NewKept N) (spec_l2Any_g0 N) (spec_l1Below_g0 N) (spec_l1PickInt_g0 N)
def BV_spec_l30Draw_g0 {β : Type} (N : Nat) (q_spec_l2Any_g0 : (a0 : List Int) → (a1 : Int) → (a2 : Int) → (k0 : Int → Int → List Int → Int → Int → Option β) → Option β) (q_spec_NewKept : (a0 : Int) → (a1 : Int) → (k : Int → Int → Int → List Int → Bool → Option β) → Option β) (q_spec_l1Below_g0 : (a0 : Int) → (a1 : List Int) → (a2 : Int) → (a3 : Int) → (k0 : Int → List Int → Int → Int → Option β) → Option β) (q_spec_l1PickInt_g0 : (a0 : List Int) → (a1 : Int) → (a2 : Int) → (a3 : List Int) → (k0 : Int → List Int → Int → Int → List Int → Option β) → Option β) (a0 : List Int) (a1 : Int) (a2 : Int) (k0 : Int → Int → Int → List Int → Int → Int → List Int → Option β) : Option β :=
q_spec_l2Any_g0 a0 a1 a2 (fun r98_0 r98_1 r98_2 r98_3 r98_4 =>
q_spec_NewKept r98_0 r98_1 fun r99 r100 r101 r102 r103 =>
q_spec_l1Below_g0 12 r98_2 r98_3 r98_4 (fun r104_0 r104_1 r104_2 r104_3 =>
(cond ((r104_0 == 0))
(q_spec_l1PickInt_g0 r104_1 r104_2 r104_3 (((((([] : List Int) ++ [0]) ++ [1]) ++ [(-1)]) ++ [17])) (fun r105_0 r105_1 r105_2 r105_3 r105_4 =>
k0 r99 r100 r105_0 r105_1 r105_2 r105_3 r102))
((cond ((r104_0 == 1))
((cond ((decide ((r102.length : Int) > 0)))
(q_spec_l1PickInt_g0 r104_1 r104_2 r104_3 ((((([] : List Int) ++ [0]) ++ [2]) ++ [(-2)])) (fun r106_0 r106_1 r106_2 r106_3 r106_4 =>
(gd ((decide (0 < (r102.length : Int))))
(k0 r99 r100 r101 r106_1 r106_2 r106_3 ((wr r102 0 r106_0))))))
(k0 r99 r100 r101 r104_1 r104_2 r104_3 r102)))
(k0 r99 r100 r101 r104_1 r104_2 r104_3 r102))))))
theorem t_spec_l30Draw_g0 {β : Type} (N : Nat) (a0 : List Int) (a1 : Int) (a2 : Int) (k0 : Int → Int → Int → List Int → Int → Int → List Int → Option β) : spec_l30Draw_g0 N a0 a1 a2 k0 = BV_spec_l30Draw_g0 N (spec_l2Any_g0 N) (spec_NewKept N) (spec_l1Below_g0 N) (spec_l1PickInt_g0 N) a0 a1 a2 k0 := by
  unfold spec_l30Draw_g0 BV_spec_l30Draw_g0
  rfl
theorem ve56_0 {β : Type} (N : Nat) (q_spec_NewKept : (a0 : Int) → (a1 : Int) → (k : Int → Int → Int → List Int → Bool → Option β) → Option β) (q_spec_l2Any_g0 : (a0 : List Int) → (a1 : Int) → (a2 : Int) → (k0 : Int → Int → List Int → Int → Int → Option β) → Option β) (q_spec_l1Below_g0 : (a0 : Int) → (a1 : List Int) → (a2 : Int) → (a3 : Int) → (k0 : Int → List Int → Int → Int → Option β) → Option β) (q_spec_l1PickInt_g0 : (a0 : List Int) → (a1 : Int) → (a2 : Int) → (a3 : List Int) → (k0 : Int → List Int → Int → Int → List Int → Option β) → Option β) (a0 : List Int) (a1 : Int) (a2 : Int) (K : TV → List Blk → Option β) : evFnG lay (VE56 N q_spec_NewKept q_spec_l2Any_g0 q_spec_l1Below_g0 q_spec_l1PickInt_g0) Try.f56 [.v (.one (.ptr 0 0))] [.pcells 0 96 [.sl 5 (.ints .u8 a0), .int .i64 a1, .int .i64 a2]] K = BV_spec_l30Draw_g0 N q_spec_l2Any_g0 q_spec_NewKept q_spec_l1Below_g0 q_spec_l1PickInt_g0 a0 a1 a2 (fun y0 y1 y2 y3 y4 y5 y6 => K (.v (.agg [.int .i64 y0, .int .i64 y1, .int .i64 y2, .row 1])) [.pcells 0 96 [.sl 5 (.ints .u8 y3), .int .i64 y4, .int .i64 y5], .row 3 (.ints .i64 y6)]) := by kernel_rfl
theorem e56_0 {β : Type} (N : Nat) (a0 : List Int) (a1 : Int) (a2 : Int) (K : TV → List Blk → Option β) : evFnG lay (E56 N) Try.f56 [.v (.one (.ptr 0 0))] [.pcells 0 96 [.sl 5 (.ints .u8 a0), .int .i64 a1, .int .i64 a2]] K = spec_l30Draw_g0 N a0 a1 a2 (fun y0 y1 y2 y3 y4 y5 y6 => K (.v (.agg [.int .i64 y0, .int .i64 y1, .int .i64 y2, .row 1])) [.pcells 0 96 [.sl 5 (.ints .u8 y3), .int .i64 y4, .int .i64 y5], .row 3 (.ints .i64 y6)]) := (ve56_0 N (spec_NewKept N) (spec_l2Any_g0 N) (spec_l1Below_g0 N) (spec_l1PickInt_g0 N) a0 a1 a2 K).trans (t_spec_l30Draw_g0 N a0 a1 a2 (fun y0 y1 y2 y3 y4 y5 y6 => K (.v (.agg [.int .i64 y0, .int .i64 y1, .int .i64 y2, .row 1])) [.pcells 0 96 [.sl 5 (.ints .u8 y3), .int .i64 y4, .int .i64 y5], .row 3 (.ints .i64 y6)])).symm
theorem o56 {β : Type} (N : Nat) : GOK (β := β) Try.prog 56 (S56 N) := by
  refine g_of lay_ok mixed (E := E56 N) (specs_loops (specs_cons (o21 N) specs_nil)) muts_nil (gs_cons (o68 N) (gs_cons (o57 N) (gs_cons (o66 N) gs_nil))) Try.func56 (by kernel_rfl) 0 (by kernel_rfl) trivial fun args bl K r h => ?_
  unfold S56 VS56 at h
  split at h
  · exact (e56_0 N _ _ _ _).trans h
  · cases h
def VS9 {β : Type} (N : Nat) (q_spec_DrawFlipAt : (a0 : List Int) → (k : Int → Int → Int → List Int → Int → Option β) → Option β) : Rv.Spec β := fun args K => match args with
  | [.v (.one (.sl 5 (.ints .u8 a0)))] => q_spec_DrawFlipAt a0 (fun z1 z2 z3 z4 z5 => K (.tup [.agg [.int .i64 z1, .int .i64 z2, .int .i64 z3, .sl 3 (.ints .i64 z4)], .one (.int .i64 z5)]))
  | _ => none
def S9 {β : Type} (N : Nat) : Rv.Spec β := VS9 N (spec_DrawFlipAt N)
def VE9 {β : Type} (N : Nat) (q_spec_l1New_g0 : (a0 : List Int) → (k0 : List Int → Int → Int → Option β) → Option β) (q_spec_l30Draw_g0 : (a0 : List Int) → (a1 : Int) → (a2 : Int) → (k0 : Int → Int → Int → List Int → Int → Int → List Int → Option β) → Option β) (q_spec_l1Below_g0 : (a0 : Int) → (a1 : List Int) → (a2 : Int) → (a3 : Int) → (k0 : Int → List Int → Int → Int → Option β) → Option β) : Env β := ⟨[], [], [], [(55, VS55 N q_spec_l1New_g0), (56, VS56 N q_spec_l30Draw_g0), (57, VS57 N q_spec_l1Below_g0)]⟩
def E9 {β : Type} (N : Nat) : Env β := VE9 N (spec_l1New_g0 N) (spec_l30Draw_g0 N) (spec_l1Below_g0 N)
def BV_spec_DrawFlipAt {β : Type} (N : Nat) (q_spec_l1New_g0 : (a0 : List Int) → (k0 : List Int → Int → Int → Option β) → Option β) (q_spec_l30Draw_g0 : (a0 : List Int) → (a1 : Int) → (a2 : Int) → (k0 : Int → Int → Int → List Int → Int → Int → List Int → Option β) → Option β) (q_spec_l1Below_g0 : (a0 : Int) → (a1 : List Int) → (a2 : Int) → (a3 : Int) → (k0 : Int → List Int → Int → Int → Option β) → Option β) (a0 : List Int) (k : Int → Int → Int → List Int → Int → Option β) : Option β :=
q_spec_l1New_g0 a0 (fun r6_0 r6_1 r6_2 =>
q_spec_l30Draw_g0 r6_0 r6_1 r6_2 (fun r7_0 r7_1 r7_2 r7_3 r7_4 r7_5 r7_6 =>
q_spec_l1Below_g0 18 r7_3 r7_4 r7_5 (fun r8_0 r8_1 r8_2 r8_3 =>
k r7_0 r7_1 r7_2 r7_6 ((w64 (r8_0 - 1))))))
theorem t_spec_DrawFlipAt {β : Type} (N : Nat) (a0 : List Int) (k : Int → Int → Int → List Int → Int → Option β) : spec_DrawFlipAt N a0 k = BV_spec_DrawFlipAt N (spec_l1New_g0 N) (spec_l30Draw_g0 N) (spec_l1Below_g0 N) a0 k := by
  unfold spec_DrawFlipAt BV_spec_DrawFlipAt
  rfl
theorem ve9_0 {β : Type} (N : Nat) (q_spec_l1New_g0 : (a0 : List Int) → (k0 : List Int → Int → Int → Option β) → Option β) (q_spec_l30Draw_g0 : (a0 : List Int) → (a1 : Int) → (a2 : Int) → (k0 : Int → Int → Int → List Int → Int → Int → List Int → Option β) → Option β) (q_spec_l1Below_g0 : (a0 : Int) → (a1 : List Int) → (a2 : Int) → (a3 : Int) → (k0 : Int → List Int → Int → Int → Option β) → Option β)  (a0 : List Int) (K : TV → Option β) : evFn lay (VE9 N q_spec_l1New_g0 q_spec_l30Draw_g0 q_spec_l1Below_g0) Try.f9 [.v (.one (.sl 5 (.ints .u8 a0)))] K = BV_spec_DrawFlipAt N q_spec_l1New_g0 q_spec_l30Draw_g0 q_spec_l1Below_g0 a0 (fun z1 z2 z3 z4 z5 => K (.tup [.agg [.int .i64 z1, .int .i64 z2, .int .i64 z3, .sl 3 (.ints .i64 z4)], .one (.int .i64 z5)])) := by kernel_rfl
theorem e9_0 {β : Type} (N : Nat)  (a0 : List Int) (K : TV → Option β) : evFn lay (E9 N) Try.f9 [.v (.one (.sl 5 (.ints .u8 a0)))] K = spec_DrawFlipAt N a0 (fun z1 z2 z3 z4 z5 => K (.tup [.agg [.int .i64 z1, .int .i64 z2, .int .i64 z3, .sl 3 (.ints .i64 z4)], .one (.int .i64 z5)])) := (ve9_0 N (spec_l1New_g0 N) (spec_l30Draw_g0 N) (spec_l1Below_g0 N) a0 K).trans (t_spec_DrawFlipAt N a0 (fun z1 z2 z3 z4 z5 => K (.tup [.agg [.int .i64 z1, .int .i64 z2, .int .i64 z3, .sl 3 (.ints .i64 z4)], .one (.int .i64 z5)]))).symm
theorem o9 {β : Type} (N : Nat) : SpecOK (β := β) Try.prog 9 (S9 N) := by
  refine spec_of lay_ok mixed (E := E9 N) (specs_loops specs_nil) muts_nil (gs_cons (o55 N) (gs_cons (o56 N) (gs_cons (o57 N) gs_nil))) Try.func9 (by kernel_rfl) 0 (by kernel_rfl) trivial fun args K r h => ?_
  unfold S9 VS9 at h
  split at h
  · exact (e9_0 N _ _).trans h
  · cases h
def VS110 {β : Type} (N : Nat) (q_impl_isBits : (a0 : Int) → (k : Bool → Option β) → Option β) : Rv.Spec β := fun args K => match args with
  | [.v (.one (.int .i64 a0))] => q_impl_isBits a0 (fun z1 => K (.v (.one (.bool z1))))
  | _ => none
def S110 {β : Type} (N : Nat) : Rv.Spec β := VS110 N (impl_isBits N)
def VE110 {β : Type} (N : Nat) : Env β := ⟨[], [], [], []⟩
def E110 {β : Type} (N : Nat) : Env β := VE110 N
def BV_impl_isBits {β : Type} (N : Nat) (a0 : Int) (k : Bool → Option β) : Option β :=
(cond ((decide (a0 ≥ 0)))
(k ((decide (a0 ≤ 5))))
(k false))
theorem t_impl_isBits {β : Type} (N : Nat) (a0 : Int) (k : Bool → Option β) : impl_isBits N a0 k = BV_impl_isBits N a0 k := by
  unfold impl_isBits BV_impl_isBits
  rfl
theorem ve110_0 {β : Type} (N : Nat)  (a0 : Int) (K : TV → Option β) : evFn lay (VE110 N) Try.f110 [.v (.one (.int .i64 a0))] K = BV_impl_isBits N a0 (fun z1 => K (.v (.one (.bool z1)))) := by kernel_rfl
theorem e110_0 {β : Type} (N : Nat)  (a0 : Int) (K : TV → Option β) : evFn lay (E110 N) Try.f110 [.v (.one (.int .i64 a0))] K = impl_isBits N a0 (fun z1 => K (.v (.one (.bool z1)))) := (ve110_0 N a0 K).trans (t_impl_isBits N a0 (fun z1 => K (.v (.one (.bool z1))))).symm
theorem o110 {β : Type} (N : Nat) : SpecOK (β := β) Try.prog 110 (S110 N) := by
  refine spec_of lay_ok mixed (E := E110 N) (specs_loops specs_nil) muts_nil gs_nil Try.func110 (by kernel_rfl) 0 (by kernel_rfl) trivial fun args K r h => ?_
  unfold S110 VS110 at h
  split at h
  · exact (e110_0 N _ _).trans h
  · cases h
def VS82 {β : Type} (N : Nat) (q_impl_Table_size : (a0 : Int) → (a1 : Int) → (k : Int → Option β) → Option β) : Rv.Spec β := fun args K => match args with
  | [.v (.agg [.int .i64 a0, .int .i64 a1])] => q_impl_Table_size a0 a1 (fun z2 => K (.v (.one (.int .i64 z2))))
  | _ => none
def S82 {β : Type} (N : Nat) : Rv.Spec β := VS82 N (impl_Table_size N)
def VE82 {β : Type} (N : Nat) : Env β := ⟨[], [], [], []⟩
def E82 {β : Type} (N : Nat) : Env β := VE82 N
def BV_impl_Table_size {β : Type} (N : Nat) (a0 : Int) (a1 : Int) (k : Int → Option β) : Option β :=
(gd ((decide (0 ≤ a0)))
(k ((shlI .i64 1 a0))))
theorem t_impl_Table_size {β : Type} (N : Nat) (a0 : Int) (a1 : Int) (k : Int → Option β) : impl_Table_size N a0 a1 k = BV_impl_Table_size N a0 a1 k := by
  unfold impl_Table_size BV_impl_Table_size
  rfl
theorem ve82_0 {β : Type} (N : Nat)  (a0 : Int) (a1 : Int) (K : TV → Option β) : evFn lay (VE82 N) Try.f82 [.v (.agg [.int .i64 a0, .int .i64 a1])] K = BV_impl_Table_size N a0 a1 (fun z2 => K (.v (.one (.int .i64 z2)))) := by kernel_rfl
theorem e82_0 {β : Type} (N : Nat)  (a0 : Int) (a1 : Int) (K : TV → Option β) : evFn lay (E82 N) Try.f82 [.v (.agg [.int .i64 a0, .int .i64 a1])] K = impl_Table_size N a0 a1 (fun z2 => K (.v (.one (.int .i64 z2)))) := (ve82_0 N a0 a1 K).trans (t_impl_Table_size N a0 a1 (fun z2 => K (.v (.one (.int .i64 z2))))).symm
theorem o82 {β : Type} (N : Nat) : SpecOK (β := β) Try.prog 82 (S82 N) := by
  refine spec_of lay_ok mixed (E := E82 N) (specs_loops specs_nil) muts_nil gs_nil Try.func82 (by kernel_rfl) 0 (by kernel_rfl) trivial fun args K r h => ?_
  unfold S82 VS82 at h
  split at h
  · exact (e82_0 N _ _ _).trans h
  · cases h
def VS61 {β : Type} (N : Nat) (q_impl_IsTable : (a0 : Int) → (a1 : Int) → (k : Bool → Option β) → Option β) : Rv.Spec β := fun args K => match args with
  | [.v (.agg [.int .i64 a0, .int .i64 a1])] => q_impl_IsTable a0 a1 (fun z2 => K (.v (.one (.bool z2))))
  | _ => none
def S61 {β : Type} (N : Nat) : Rv.Spec β := VS61 N (impl_IsTable N)
def VE61 {β : Type} (N : Nat) (q_impl_isBits : (a0 : Int) → (k : Bool → Option β) → Option β) (q_impl_Table_size : (a0 : Int) → (a1 : Int) → (k : Int → Option β) → Option β) : Env β := ⟨[(110, VS110 N q_impl_isBits), (82, VS82 N q_impl_Table_size)], [], [], []⟩
def E61 {β : Type} (N : Nat) : Env β := VE61 N (impl_isBits N) (impl_Table_size N)
def BV_impl_IsTable {β : Type} (N : Nat) (q_impl_isBits : (a0 : Int) → (k : Bool → Option β) → Option β) (q_impl_Table_size : (a0 : Int) → (a1 : Int) → (k : Int → Option β) → Option β) (a0 : Int) (a1 : Int) (k : Bool → Option β) : Option β :=
q_impl_isBits a0 fun r3 =>
(cond r3
((cond ((decide (a1 ≥ 0)))
(q_impl_Table_size a0 a1 fun r4 =>
(gd ((decide (0 ≤ r4)))
(k (((shrI .i64 a1 r4) == 0)))))
(k false)))
(k false))
theorem t_impl_IsTable {β : Type} (N : Nat) (a0 : Int) (a1 : Int) (k : Bool → Option β) : impl_IsTable N a0 a1 k = BV_impl_IsTable N (impl_isBits N) (impl_Table_size N) a0 a1 k := by
  unfold impl_IsTable BV_impl_IsTable
  rfl
theorem ve61_0 {β : Type} (N : Nat) (q_impl_isBits : (a0 : Int) → (k : Bool → Option β) → Option β) (q_impl_Table_size : (a0 : Int) → (a1 : Int) → (k : Int → Option β) → Option β)  (a0 : Int) (a1 : Int) (K : TV → Option β) : evFn lay (VE61 N q_impl_isBits q_impl_Table_size) Try.f61 [.v (.agg [.int .i64 a0, .int .i64 a1])] K = BV_impl_IsTable N q_impl_isBits q_impl_Table_size a0 a1 (fun z2 => K (.v (.one (.bool z2)))) := by kernel_rfl
theorem e61_0 {β : Type} (N : Nat)  (a0 : Int) (a1 : Int) (K : TV → Option β) : evFn lay (E61 N) Try.f61 [.v (.agg [.int .i64 a0, .int .i64 a1])] K = impl_IsTable N a0 a1 (fun z2 => K (.v (.one (.bool z2)))) := (ve61_0 N (impl_isBits N) (impl_Table_size N) a0 a1 K).trans (t_impl_IsTable N a0 a1 (fun z2 => K (.v (.one (.bool z2))))).symm
theorem o61 {β : Type} (N : Nat) : SpecOK (β := β) Try.prog 61 (S61 N) := by
  refine spec_of lay_ok mixed (E := E61 N) (specs_loops (specs_cons (o110 N) (specs_cons (o82 N) specs_nil))) muts_nil gs_nil Try.func61 (by kernel_rfl) 0 (by kernel_rfl) trivial fun args K r h => ?_
  unfold S61 VS61 at h
  split at h
  · exact (e61_0 N _ _ _).trans h
  · cases h
def VS112 {β : Type} (N : Nat) (q_math_bits_OnesCount64 : (a0 : Int) → (k : Int → Option β) → Option β) : Rv.Spec β := fun args K => match args with
  | [.v (.one (.int .u64 a0))] => q_math_bits_OnesCount64 a0 (fun z1 => K (.v (.one (.int .i64 z1))))
  | _ => none
def S112 {β : Type} (N : Nat) : Rv.Spec β := VS112 N (math_bits_OnesCount64 N)
def VE112 {β : Type} (N : Nat) : Env β := ⟨[], [], [], []⟩
def E112 {β : Type} (N : Nat) : Env β := VE112 N
def BV_math_bits_OnesCount64 {β : Type} (N : Nat) (a0 : Int) (k : Int → Option β) : Option β :=
k ((bits .and .i64 (w64 ((wu64 ((wu64 ((wu64 ((bits .and .u64 (wu64 ((shrI .u64 (wu64 ((bits .and .u64 (shrI .u64 (wu64 ((bits .and .u64 (shrI .u64 a0 1) 6148914691236517205) + (bits .and .u64 a0 6148914691236517205))) 2) 3689348814741910323) + (bits .and .u64 (wu64 ((bits .and .u64 (shrI .u64 a0 1) 6148914691236517205) + (bits .and .u64 a0 6148914691236517205))) 3689348814741910323))) 4) + (wu64 ((bits .and .u64 (shrI .u64 (wu64 ((bits .and .u64 (shrI .u64 a0 1) 6148914691236517205) + (bits .and .u64 a0 6148914691236517205))) 2) 3689348814741910323) + (bits .and .u64 (wu64 ((bits .and .u64 (shrI .u64 a0 1) 6148914691236517205) + (bits .and .u64 a0 6148914691236517205))) 3689348814741910323))))) 1085102592571150095) + (shrI .u64 (bits .and .u64 (wu64 ((shrI .u64 (wu64 ((bits .and .u64 (shrI .u64 (wu64 ((bits .and .u64 (shrI .u64 a0 1) 6148914691236517205) + (bits .and .u64 a0 6148914691236517205))) 2) 3689348814741910323) + (bits .and .u64 (wu64 ((bits .and .u64 (shrI .u64 a0 1) 6148914691236517205) + (bits .and .u64 a0 6148914691236517205))) 3689348814741910323))) 4) + (wu64 ((bits .and .u64 (shrI .u64 (wu64 ((bits .and .u64 (shrI .u64 a0 1) 6148914691236517205) + (bits .and .u64 a0 6148914691236517205))) 2) 3689348814741910323) + (bits .and .u64 (wu64 ((bits .and .u64 (shrI .u64 a0 1) 6148914691236517205) + (bits .and .u64 a0 6148914691236517205))) 3689348814741910323))))) 1085102592571150095) 8))) + (shrI .u64 (wu64 ((bits .and .u64 (wu64 ((shrI .u64 (wu64 ((bits .and .u64 (shrI .u64 (wu64 ((bits .and .u64 (shrI .u64 a0 1) 6148914691236517205) + (bits .and .u64 a0 6148914691236517205))) 2) 3689348814741910323) + (bits .and .u64 (wu64 ((bits .and .u64 (shrI .u64 a0 1) 6148914691236517205) + (bits .and .u64 a0 6148914691236517205))) 3689348814741910323))) 4) + (wu64 ((bits .and .u64 (shrI .u64 (wu64 ((bits .and .u64 (shrI .u64 a0 1) 6148914691236517205) + (bits .and .u64 a0 6148914691236517205))) 2) 3689348814741910323) + (bits .and .u64 (wu64 ((bits .and .u64 (shrI .u64 a0 1) 6148914691236517205) + (bits .and .u64 a0 6148914691236517205))) 3689348814741910323))))) 1085102592571150095) + (shrI .u64 (bits .and .u64 (wu64 ((shrI .u64 (wu64 ((bits .and .u64 (shrI .u64 (wu64 ((bits .and .u64 (shrI .u64 a0 1) 6148914691236517205) + (bits .and .u64 a0 6148914691236517205))) 2) 3689348814741910323) + (bits .and .u64 (wu64 ((bits .and .u64 (shrI .u64 a0 1) 6148914691236517205) + (bits .and .u64 a0 6148914691236517205))) 3689348814741910323))) 4) + (wu64 ((bits .and .u64 (shrI .u64 (wu64 ((bits .and .u64 (shrI .u64 a0 1) 6148914691236517205) + (bits .and .u64 a0 6148914691236517205))) 2) 3689348814741910323) + (bits .and .u64 (wu64 ((bits .and .u64 (shrI .u64 a0 1) 6148914691236517205) + (bits .and .u64 a0 6148914691236517205))) 3689348814741910323))))) 1085102592571150095) 8))) 16))) + (shrI .u64 (wu64 ((wu64 ((bits .and .u64 (wu64 ((shrI .u64 (wu64 ((bits .and .u64 (shrI .u64 (wu64 ((bits .and .u64 (shrI .u64 a0 1) 6148914691236517205) + (bits .and .u64 a0 6148914691236517205))) 2) 3689348814741910323) + (bits .and .u64 (wu64 ((bits .and .u64 (shrI .u64 a0 1) 6148914691236517205) + (bits .and .u64 a0 6148914691236517205))) 3689348814741910323))) 4) + (wu64 ((bits .and .u64 (shrI .u64 (wu64 ((bits .and .u64 (shrI .u64 a0 1) 6148914691236517205) + (bits .and .u64 a0 6148914691236517205))) 2) 3689348814741910323) + (bits .and .u64 (wu64 ((bits .and .u64 (shrI .u64 a0 1) 6148914691236517205) + (bits .and .u64 a0 6148914691236517205))) 3689348814741910323))))) 1085102592571150095) + (shrI .u64 (bits .and .u64 (wu64 ((shrI .u64 (wu64 ((bits .and .u64 (shrI .u64 (wu64 ((bits .and .u64 (shrI .u64 a0 1) 6148914691236517205) + (bits .and .u64 a0 6148914691236517205))) 2) 3689348814741910323) + (bits .and .u64 (wu64 ((bits .and .u64 (shrI .u64 a0 1) 6148914691236517205) + (bits .and .u64 a0 6148914691236517205))) 3689348814741910323))) 4) + (wu64 ((bits .and .u64 (shrI .u64 (wu64 ((bits .and .u64 (shrI .u64 a0 1) 6148914691236517205) + (bits .and .u64 a0 6148914691236517205))) 2) 3689348814741910323) + (bits .and .u64 (wu64 ((bits .and .u64 (shrI .u64 a0 1) 6148914691236517205) + (bits .and .u64 a0 6148914691236517205))) 3689348814741910323))))) 1085102592571150095) 8))) + (shrI .u64 (wu64 ((bits .and .u64 (wu64 ((shrI .u64 (wu64 ((bits .and .u64 (shrI .u64 (wu64 ((bits .and .u64 (shrI .u64 a0 1) 6148914691236517205) + (bits .and .u64 a0 6148914691236517205))) 2) 3689348814741910323) + (bits .and .u64 (wu64 ((bits .and .u64 (shrI .u64 a0 1) 6148914691236517205) + (bits .and .u64 a0 6148914691236517205))) 3689348814741910323))) 4) + (wu64 ((bits .and .u64 (shrI .u64 (wu64 ((bits .and .u64 (shrI .u64 a0 1) 6148914691236517205) + (bits .and .u64 a0 6148914691236517205))) 2) 3689348814741910323) + (bits .and .u64 (wu64 ((bits .and .u64 (shrI .u64 a0 1) 6148914691236517205) + (bits .and .u64 a0 6148914691236517205))) 3689348814741910323))))) 1085102592571150095) + (shrI .u64 (bits .and .u64 (wu64 ((shrI .u64 (wu64 ((bits .and .u64 (shrI .u64 (wu64 ((bits .and .u64 (shrI .u64 a0 1) 6148914691236517205) + (bits .and .u64 a0 6148914691236517205))) 2) 3689348814741910323) + (bits .and .u64 (wu64 ((bits .and .u64 (shrI .u64 a0 1) 6148914691236517205) + (bits .and .u64 a0 6148914691236517205))) 3689348814741910323))) 4) + (wu64 ((bits .and .u64 (shrI .u64 (wu64 ((bits .and .u64 (shrI .u64 a0 1) 6148914691236517205) + (bits .and .u64 a0 6148914691236517205))) 2) 3689348814741910323) + (bits .and .u64 (wu64 ((bits .and .u64 (shrI .u64 a0 1) 6148914691236517205) + (bits .and .u64 a0 6148914691236517205))) 3689348814741910323))))) 1085102592571150095) 8))) 16))) 32))))) 127))
theorem t_math_bits_OnesCount64 {β : Type} (N : Nat) (a0 : Int) (k : Int → Option β) : math_bits_OnesCount64 N a0 k = BV_math_bits_OnesCount64 N a0 k := by
  unfold math_bits_OnesCount64 BV_math_bits_OnesCount64
  rfl
theorem ve112_0 {β : Type} (N : Nat)  (a0 : Int) (K : TV → Option β) : evFn lay (VE112 N) Try.f112 [.v (.one (.int .u64 a0))] K = BV_math_bits_OnesCount64 N a0 (fun z1 => K (.v (.one (.int .i64 z1)))) := by kernel_rfl
theorem e112_0 {β : Type} (N : Nat)  (a0 : Int) (K : TV → Option β) : evFn lay (E112 N) Try.f112 [.v (.one (.int .u64 a0))] K = math_bits_OnesCount64 N a0 (fun z1 => K (.v (.one (.int .i64 z1)))) := (ve112_0 N a0 K).trans (t_math_bits_OnesCount64 N a0 (fun z1 => K (.v (.one (.int .i64 z1))))).symm
theorem o112 {β : Type} (N : Nat) : SpecOK (β := β) Try.prog 112 (S112 N) := by
  refine spec_of lay_ok mixed (E := E112 N) (specs_loops specs_nil) muts_nil gs_nil Try.func112 (by kernel_rfl) 0 (by kernel_rfl) trivial fun args K r h => ?_
  unfold S112 VS112 at h
  split at h
  · exact (e112_0 N _ _).trans h
  · cases h
def VS64 {β : Type} (N : Nat) (q_impl_ones : (a0 : Int) → (k : Int → Option β) → Option β) : Rv.Spec β := fun args K => match args with
  | [.v (.one (.int .i64 a0))] => q_impl_ones a0 (fun z1 => K (.v (.one (.int .i64 z1))))
  | _ => none
def S64 {β : Type} (N : Nat) : Rv.Spec β := VS64 N (impl_ones N)
def VE64 {β : Type} (N : Nat) (q_math_bits_OnesCount64 : (a0 : Int) → (k : Int → Option β) → Option β) : Env β := ⟨[(112, VS112 N q_math_bits_OnesCount64)], [], [], []⟩
def E64 {β : Type} (N : Nat) : Env β := VE64 N (math_bits_OnesCount64 N)
def BV_impl_ones {β : Type} (N : Nat) (q_math_bits_OnesCount64 : (a0 : Int) → (k : Int → Option β) → Option β) (a0 : Int) (k : Int → Option β) : Option β :=
q_math_bits_OnesCount64 ((wu64 (a0))) fun r2 =>
k r2
theorem t_impl_ones {β : Type} (N : Nat) (a0 : Int) (k : Int → Option β) : impl_ones N a0 k = BV_impl_ones N (math_bits_OnesCount64 N) a0 k := by
  unfold impl_ones BV_impl_ones
  rfl
theorem ve64_0 {β : Type} (N : Nat) (q_math_bits_OnesCount64 : (a0 : Int) → (k : Int → Option β) → Option β)  (a0 : Int) (K : TV → Option β) : evFn lay (VE64 N q_math_bits_OnesCount64) Try.f64 [.v (.one (.int .i64 a0))] K = BV_impl_ones N q_math_bits_OnesCount64 a0 (fun z1 => K (.v (.one (.int .i64 z1)))) := by kernel_rfl
theorem e64_0 {β : Type} (N : Nat)  (a0 : Int) (K : TV → Option β) : evFn lay (E64 N) Try.f64 [.v (.one (.int .i64 a0))] K = impl_ones N a0 (fun z1 => K (.v (.one (.int .i64 z1)))) := (ve64_0 N (math_bits_OnesCount64 N) a0 K).trans (t_impl_ones N a0 (fun z1 => K (.v (.one (.int .i64 z1))))).symm
theorem o64 {β : Type} (N : Nat) : SpecOK (β := β) Try.prog 64 (S64 N) := by
  refine spec_of lay_ok mixed (E := E64 N) (specs_loops (specs_cons (o112 N) specs_nil)) muts_nil gs_nil Try.func64 (by kernel_rfl) 0 (by kernel_rfl) trivial fun args K r h => ?_
  unfold S64 VS64 at h
  split at h
  · exact (e64_0 N _ _).trans h
  · cases h
def VS120 {β : Type} (N : Nat) (q_impl_Table_at : (a0 : Int) → (a1 : Int) → (a2 : Int) → (k : Int → Option β) → Option β) : Rv.Spec β := fun args K => match args with
  | [.v (.agg [.int .i64 a0, .int .i64 a1]), .v (.one (.int .i64 a2))] => q_impl_Table_at a0 a1 a2 (fun z3 => K (.v (.one (.int .i64 z3))))
  | _ => none
def S120 {β : Type} (N : Nat) : Rv.Spec β := VS120 N (impl_Table_at N)
def VE120 {β : Type} (N : Nat) : Env β := ⟨[], [], [], []⟩
def E120 {β : Type} (N : Nat) : Env β := VE120 N
def BV_impl_Table_at {β : Type} (N : Nat) (a0 : Int) (a1 : Int) (a2 : Int) (k : Int → Option β) : Option β :=
(gd ((decide (0 ≤ a2)))
(k ((bits .and .i64 (shrI .i64 a1 a2) 1))))
theorem t_impl_Table_at {β : Type} (N : Nat) (a0 : Int) (a1 : Int) (a2 : Int) (k : Int → Option β) : impl_Table_at N a0 a1 a2 k = BV_impl_Table_at N a0 a1 a2 k := by
  unfold impl_Table_at BV_impl_Table_at
  rfl
theorem ve120_0 {β : Type} (N : Nat)  (a0 : Int) (a1 : Int) (a2 : Int) (K : TV → Option β) : evFn lay (VE120 N) Try.f120 [.v (.agg [.int .i64 a0, .int .i64 a1]), .v (.one (.int .i64 a2))] K = BV_impl_Table_at N a0 a1 a2 (fun z3 => K (.v (.one (.int .i64 z3)))) := by kernel_rfl
theorem e120_0 {β : Type} (N : Nat)  (a0 : Int) (a1 : Int) (a2 : Int) (K : TV → Option β) : evFn lay (E120 N) Try.f120 [.v (.agg [.int .i64 a0, .int .i64 a1]), .v (.one (.int .i64 a2))] K = impl_Table_at N a0 a1 a2 (fun z3 => K (.v (.one (.int .i64 z3)))) := (ve120_0 N a0 a1 a2 K).trans (t_impl_Table_at N a0 a1 a2 (fun z3 => K (.v (.one (.int .i64 z3))))).symm
theorem o120 {β : Type} (N : Nat) : SpecOK (β := β) Try.prog 120 (S120 N) := by
  refine spec_of lay_ok mixed (E := E120 N) (specs_loops specs_nil) muts_nil gs_nil Try.func120 (by kernel_rfl) 0 (by kernel_rfl) trivial fun args K r h => ?_
  unfold S120 VS120 at h
  split at h
  · exact (e120_0 N _ _ _ _).trans h
  · cases h
def VS115 {β : Type} (N : Nat) (q_impl_Table_changes : (a0 : Int) → (a1 : Int) → (a2 : Int) → (a3 : Int) → (k : Bool → Option β) → Option β) : Rv.Spec β := fun args K => match args with
  | [.v (.agg [.int .i64 a0, .int .i64 a1]), .v (.one (.int .i64 a2)), .v (.one (.int .i64 a3))] => q_impl_Table_changes a0 a1 a2 a3 (fun z4 => K (.v (.one (.bool z4))))
  | _ => none
def S115 {β : Type} (N : Nat) : Rv.Spec β := VS115 N (impl_Table_changes N)
def VE115 {β : Type} (N : Nat) (q_impl_Table_at : (a0 : Int) → (a1 : Int) → (a2 : Int) → (k : Int → Option β) → Option β) : Env β := ⟨[(120, VS120 N q_impl_Table_at)], [], [], []⟩
def E115 {β : Type} (N : Nat) : Env β := VE115 N (impl_Table_at N)
def BV_impl_Table_changes {β : Type} (N : Nat) (q_impl_Table_at : (a0 : Int) → (a1 : Int) → (a2 : Int) → (k : Int → Option β) → Option β) (a0 : Int) (a1 : Int) (a2 : Int) (a3 : Int) (k : Bool → Option β) : Option β :=
q_impl_Table_at a0 a1 a2 fun r5 =>
q_impl_Table_at a0 a1 ((bits .xor .i64 a2 a3)) fun r6 =>
k ((r5 != r6))
theorem t_impl_Table_changes {β : Type} (N : Nat) (a0 : Int) (a1 : Int) (a2 : Int) (a3 : Int) (k : Bool → Option β) : impl_Table_changes N a0 a1 a2 a3 k = BV_impl_Table_changes N (impl_Table_at N) a0 a1 a2 a3 k := by
  unfold impl_Table_changes BV_impl_Table_changes
  rfl
theorem ve115_0 {β : Type} (N : Nat) (q_impl_Table_at : (a0 : Int) → (a1 : Int) → (a2 : Int) → (k : Int → Option β) → Option β)  (a0 : Int) (a1 : Int) (a2 : Int) (a3 : Int) (K : TV → Option β) : evFn lay (VE115 N q_impl_Table_at) Try.f115 [.v (.agg [.int .i64 a0, .int .i64 a1]), .v (.one (.int .i64 a2)), .v (.one (.int .i64 a3))] K = BV_impl_Table_changes N q_impl_Table_at a0 a1 a2 a3 (fun z4 => K (.v (.one (.bool z4)))) := by kernel_rfl
theorem e115_0 {β : Type} (N : Nat)  (a0 : Int) (a1 : Int) (a2 : Int) (a3 : Int) (K : TV → Option β) : evFn lay (E115 N) Try.f115 [.v (.agg [.int .i64 a0, .int .i64 a1]), .v (.one (.int .i64 a2)), .v (.one (.int .i64 a3))] K = impl_Table_changes N a0 a1 a2 a3 (fun z4 => K (.v (.one (.bool z4)))) := (ve115_0 N (impl_Table_at N) a0 a1 a2 a3 K).trans (t_impl_Table_changes N a0 a1 a2 a3 (fun z4 => K (.v (.one (.bool z4))))).symm
theorem o115 {β : Type} (N : Nat) : SpecOK (β := β) Try.prog 115 (S115 N) := by
  refine spec_of lay_ok mixed (E := E115 N) (specs_loops (specs_cons (o120 N) specs_nil)) muts_nil gs_nil Try.func115 (by kernel_rfl) 0 (by kernel_rfl) trivial fun args K r h => ?_
  unfold S115 VS115 at h
  split at h
  · exact (e115_0 N _ _ _ _ _).trans h
  · cases h
end Go.Proofs.Ytdkjnadhgdneaaa
