/- The functions that the claims reach answer as their texts do. -/
import Derived.Test.YtdkjnadhgdneaaaE3
namespace Go.Proofs.Ytdkjnadhgdneaaa
open Go.Rv
set_option maxRecDepth 100000
set_option maxHeartbeats 2000000
set_option linter.unusedVariables false
def VS80 {β : Type} (N : Nat) (q_spec_l22Small_g0 : (a0 : List Int) → (a1 : Int) → (a2 : Int) → (k0 : Int → Int → List Int → Int → Int → Option β) → Option β) : GSpec β := fun args bl K => match args, bl with
  | [.v (.one (.ptr 0 0))], [.pcells 0 96 [.sl 5 (.ints .u8 a0), .int .i64 a1, .int .i64 a2]] => q_spec_l22Small_g0 a0 a1 a2 (fun y0 y1 y2 y3 y4 => K (.v (.agg [.int .i64 y0, .int .i64 y1])) [.pcells 0 96 [.sl 5 (.ints .u8 y2), .int .i64 y3, .int .i64 y4]])
  | _, _ => none
def S80 {β : Type} (N : Nat) : GSpec β := VS80 N (spec_l22Small_g0 N)
def VE80 {β : Type} (N : Nat) (q_spec_l1Once_g0 : (a0 : Int) → (a1 : List Int) → (a2 : Int) → (a3 : Int) → (k0 : Bool → List Int → Int → Int → Option β) → Option β) (q_spec_l2Any_g0 : (a0 : List Int) → (a1 : Int) → (a2 : Int) → (k0 : Int → Int → List Int → Int → Int → Option β) → Option β) (q_spec_l1Below_g0 : (a0 : Int) → (a1 : List Int) → (a2 : Int) → (a3 : Int) → (k0 : Int → List Int → Int → Int → Option β) → Option β) (q_spec_l2Draw_g0 : (a0 : Int) → (a1 : List Int) → (a2 : Int) → (a3 : Int) → (k0 : Int → Int → List Int → Int → Int → Option β) → Option β) : Env β := ⟨[], [], [], [(65, VS65 N q_spec_l1Once_g0), (68, VS68 N q_spec_l2Any_g0), (57, VS57 N q_spec_l1Below_g0), (113, VS113 N q_spec_l2Draw_g0)]⟩
def E80 {β : Type} (N : Nat) : Env β := VE80 N (spec_l1Once_g0 N) (spec_l2Any_g0 N) (spec_l1Below_g0 N) (spec_l2Draw_g0 N)
def BV_spec_l22Small_g0 {β : Type} (N : Nat) (q_spec_l1Once_g0 : (a0 : Int) → (a1 : List Int) → (a2 : Int) → (a3 : Int) → (k0 : Bool → List Int → Int → Int → Option β) → Option β) (q_spec_l2Any_g0 : (a0 : List Int) → (a1 : Int) → (a2 : Int) → (k0 : Int → Int → List Int → Int → Int → Option β) → Option β) (q_spec_l1Below_g0 : (a0 : Int) → (a1 : List Int) → (a2 : Int) → (a3 : Int) → (k0 : Int → List Int → Int → Int → Option β) → Option β) (q_spec_l2Draw_g0 : (a0 : Int) → (a1 : List Int) → (a2 : Int) → (a3 : Int) → (k0 : Int → Int → List Int → Int → Int → Option β) → Option β) (a0 : List Int) (a1 : Int) (a2 : Int) (k0 : Int → Int → List Int → Int → Int → Option β) : Option β :=
q_spec_l1Once_g0 8 a0 a1 a2 (fun r5_0 r5_1 r5_2 r5_3 =>
(cond r5_0
(q_spec_l2Any_g0 r5_1 r5_2 r5_3 (fun r6_0 r6_1 r6_2 r6_3 r6_4 =>
k0 r6_0 r6_1 r6_2 r6_3 r6_4))
(q_spec_l1Below_g0 4 r5_1 r5_2 r5_3 (fun r7_0 r7_1 r7_2 r7_3 =>
q_spec_l2Draw_g0 r7_0 r7_1 r7_2 r7_3 (fun r8_0 r8_1 r8_2 r8_3 r8_4 =>
k0 r8_0 r8_1 r8_2 r8_3 r8_4)))))
theorem t_spec_l22Small_g0 {β : Type} (N : Nat) (a0 : List Int) (a1 : Int) (a2 : Int) (k0 : Int → Int → List Int → Int → Int → Option β) : spec_l22Small_g0 N a0 a1 a2 k0 = BV_spec_l22Small_g0 N (spec_l1Once_g0 N) (spec_l2Any_g0 N) (spec_l1Below_g0 N) (spec_l2Draw_g0 N) a0 a1 a2 k0 := by
  unfold spec_l22Small_g0 BV_spec_l22Small_g0
  rfl
theorem ve80_0 {β : Type} (N : Nat) (q_spec_l1Once_g0 : (a0 : Int) → (a1 : List Int) → (a2 : Int) → (a3 : Int) → (k0 : Bool → List Int → Int → Int → Option β) → Option β) (q_spec_l2Any_g0 : (a0 : List Int) → (a1 : Int) → (a2 : Int) → (k0 : Int → Int → List Int → Int → Int → Option β) → Option β) (q_spec_l1Below_g0 : (a0 : Int) → (a1 : List Int) → (a2 : Int) → (a3 : Int) → (k0 : Int → List Int → Int → Int → Option β) → Option β) (q_spec_l2Draw_g0 : (a0 : Int) → (a1 : List Int) → (a2 : Int) → (a3 : Int) → (k0 : Int → Int → List Int → Int → Int → Option β) → Option β) (a0 : List Int) (a1 : Int) (a2 : Int) (K : TV → List Blk → Option β) : evFnG lay (VE80 N q_spec_l1Once_g0 q_spec_l2Any_g0 q_spec_l1Below_g0 q_spec_l2Draw_g0) Try.f80 [.v (.one (.ptr 0 0))] [.pcells 0 96 [.sl 5 (.ints .u8 a0), .int .i64 a1, .int .i64 a2]] K = BV_spec_l22Small_g0 N q_spec_l1Once_g0 q_spec_l2Any_g0 q_spec_l1Below_g0 q_spec_l2Draw_g0 a0 a1 a2 (fun y0 y1 y2 y3 y4 => K (.v (.agg [.int .i64 y0, .int .i64 y1])) [.pcells 0 96 [.sl 5 (.ints .u8 y2), .int .i64 y3, .int .i64 y4]]) := by kernel_rfl
theorem e80_0 {β : Type} (N : Nat) (a0 : List Int) (a1 : Int) (a2 : Int) (K : TV → List Blk → Option β) : evFnG lay (E80 N) Try.f80 [.v (.one (.ptr 0 0))] [.pcells 0 96 [.sl 5 (.ints .u8 a0), .int .i64 a1, .int .i64 a2]] K = spec_l22Small_g0 N a0 a1 a2 (fun y0 y1 y2 y3 y4 => K (.v (.agg [.int .i64 y0, .int .i64 y1])) [.pcells 0 96 [.sl 5 (.ints .u8 y2), .int .i64 y3, .int .i64 y4]]) := (ve80_0 N (spec_l1Once_g0 N) (spec_l2Any_g0 N) (spec_l1Below_g0 N) (spec_l2Draw_g0 N) a0 a1 a2 K).trans (t_spec_l22Small_g0 N a0 a1 a2 (fun y0 y1 y2 y3 y4 => K (.v (.agg [.int .i64 y0, .int .i64 y1])) [.pcells 0 96 [.sl 5 (.ints .u8 y2), .int .i64 y3, .int .i64 y4]])).symm
theorem o80 {β : Type} (N : Nat) : GOK (β := β) Try.prog 80 (S80 N) := by
  refine g_of lay_ok mixed (E := E80 N) (specs_loops specs_nil) muts_nil (gs_cons (o65 N) (gs_cons (o68 N) (gs_cons (o57 N) (gs_cons (o113 N) gs_nil)))) Try.func80 (by kernel_rfl) 0 (by kernel_rfl) trivial fun args bl K r h => ?_
  unfold S80 VS80 at h
  split at h
  · exact (e80_0 N _ _ _ _).trans h
  · cases h
def VS32 {β : Type} (N : Nat) (q_spec_DrawLeastTestSet : (a0 : List Int) → (k : Int → Int → Option β) → Option β) : Rv.Spec β := fun args K => match args with
  | [.v (.one (.sl 5 (.ints .u8 a0)))] => q_spec_DrawLeastTestSet a0 (fun z1 z2 => K (.v (.agg [.int .i64 z1, .int .i64 z2])))
  | _ => none
def S32 {β : Type} (N : Nat) : Rv.Spec β := VS32 N (spec_DrawLeastTestSet N)
def VE32 {β : Type} (N : Nat) (q_spec_l1New_g0 : (a0 : List Int) → (k0 : List Int → Int → Int → Option β) → Option β) (q_spec_l22Small_g0 : (a0 : List Int) → (a1 : Int) → (a2 : Int) → (k0 : Int → Int → List Int → Int → Int → Option β) → Option β) : Env β := ⟨[], [], [], [(55, VS55 N q_spec_l1New_g0), (80, VS80 N q_spec_l22Small_g0)]⟩
def E32 {β : Type} (N : Nat) : Env β := VE32 N (spec_l1New_g0 N) (spec_l22Small_g0 N)
def BV_spec_DrawLeastTestSet {β : Type} (N : Nat) (q_spec_l1New_g0 : (a0 : List Int) → (k0 : List Int → Int → Int → Option β) → Option β) (q_spec_l22Small_g0 : (a0 : List Int) → (a1 : Int) → (a2 : Int) → (k0 : Int → Int → List Int → Int → Int → Option β) → Option β) (a0 : List Int) (k : Int → Int → Option β) : Option β :=
q_spec_l1New_g0 a0 (fun r3_0 r3_1 r3_2 =>
q_spec_l22Small_g0 r3_0 r3_1 r3_2 (fun r4_0 r4_1 r4_2 r4_3 r4_4 =>
k r4_0 r4_1))
theorem t_spec_DrawLeastTestSet {β : Type} (N : Nat) (a0 : List Int) (k : Int → Int → Option β) : spec_DrawLeastTestSet N a0 k = BV_spec_DrawLeastTestSet N (spec_l1New_g0 N) (spec_l22Small_g0 N) a0 k := by
  unfold spec_DrawLeastTestSet BV_spec_DrawLeastTestSet
  rfl
theorem ve32_0 {β : Type} (N : Nat) (q_spec_l1New_g0 : (a0 : List Int) → (k0 : List Int → Int → Int → Option β) → Option β) (q_spec_l22Small_g0 : (a0 : List Int) → (a1 : Int) → (a2 : Int) → (k0 : Int → Int → List Int → Int → Int → Option β) → Option β)  (a0 : List Int) (K : TV → Option β) : evFn lay (VE32 N q_spec_l1New_g0 q_spec_l22Small_g0) Try.f32 [.v (.one (.sl 5 (.ints .u8 a0)))] K = BV_spec_DrawLeastTestSet N q_spec_l1New_g0 q_spec_l22Small_g0 a0 (fun z1 z2 => K (.v (.agg [.int .i64 z1, .int .i64 z2]))) := by kernel_rfl
theorem e32_0 {β : Type} (N : Nat)  (a0 : List Int) (K : TV → Option β) : evFn lay (E32 N) Try.f32 [.v (.one (.sl 5 (.ints .u8 a0)))] K = spec_DrawLeastTestSet N a0 (fun z1 z2 => K (.v (.agg [.int .i64 z1, .int .i64 z2]))) := (ve32_0 N (spec_l1New_g0 N) (spec_l22Small_g0 N) a0 K).trans (t_spec_DrawLeastTestSet N a0 (fun z1 z2 => K (.v (.agg [.int .i64 z1, .int .i64 z2])))).symm
theorem o32 {β : Type} (N : Nat) : SpecOK (β := β) Try.prog 32 (S32 N) := by
  refine spec_of lay_ok mixed (E := E32 N) (specs_loops specs_nil) muts_nil (gs_cons (o55 N) (gs_cons (o80 N) gs_nil)) Try.func32 (by kernel_rfl) 0 (by kernel_rfl) trivial fun args K r h => ?_
  unfold S32 VS32 at h
  split at h
  · exact (e32_0 N _ _).trans h
  · cases h
def VS81 {β : Type} (N : Nat) (q_impl_isSmall : (a0 : Int) → (a1 : Int) → (a2 : Int) → (k : Bool → Option β) → Option β) : Rv.Spec β := fun args K => match args with
  | [.v (.agg [.int .i64 a0, .int .i64 a1]), .v (.one (.int .i64 a2))] => q_impl_isSmall a0 a1 a2 (fun z3 => K (.v (.one (.bool z3))))
  | _ => none
def S81 {β : Type} (N : Nat) : Rv.Spec β := VS81 N (impl_isSmall N)
def VE81 {β : Type} (N : Nat) (q_impl_IsTable : (a0 : Int) → (a1 : Int) → (k : Bool → Option β) → Option β) : Env β := ⟨[(61, VS61 N q_impl_IsTable)], [], [], []⟩
def E81 {β : Type} (N : Nat) : Env β := VE81 N (impl_IsTable N)
def BV_impl_isSmall {β : Type} (N : Nat) (q_impl_IsTable : (a0 : Int) → (a1 : Int) → (k : Bool → Option β) → Option β) (a0 : Int) (a1 : Int) (a2 : Int) (k : Bool → Option β) : Option β :=
q_impl_IsTable a0 a1 fun r4 =>
(cond r4
(k ((decide (a0 ≤ a2))))
(k false))
theorem t_impl_isSmall {β : Type} (N : Nat) (a0 : Int) (a1 : Int) (a2 : Int) (k : Bool → Option β) : impl_isSmall N a0 a1 a2 k = BV_impl_isSmall N (impl_IsTable N) a0 a1 a2 k := by
  unfold impl_isSmall BV_impl_isSmall
  rfl
theorem ve81_0 {β : Type} (N : Nat) (q_impl_IsTable : (a0 : Int) → (a1 : Int) → (k : Bool → Option β) → Option β)  (a0 : Int) (a1 : Int) (a2 : Int) (K : TV → Option β) : evFn lay (VE81 N q_impl_IsTable) Try.f81 [.v (.agg [.int .i64 a0, .int .i64 a1]), .v (.one (.int .i64 a2))] K = BV_impl_isSmall N q_impl_IsTable a0 a1 a2 (fun z3 => K (.v (.one (.bool z3)))) := by kernel_rfl
theorem e81_0 {β : Type} (N : Nat)  (a0 : Int) (a1 : Int) (a2 : Int) (K : TV → Option β) : evFn lay (E81 N) Try.f81 [.v (.agg [.int .i64 a0, .int .i64 a1]), .v (.one (.int .i64 a2))] K = impl_isSmall N a0 a1 a2 (fun z3 => K (.v (.one (.bool z3)))) := (ve81_0 N (impl_IsTable N) a0 a1 a2 K).trans (t_impl_isSmall N a0 a1 a2 (fun z3 => K (.v (.one (.bool z3))))).symm
theorem o81 {β : Type} (N : Nat) : SpecOK (β := β) Try.prog 81 (S81 N) := by
  refine spec_of lay_ok mixed (E := E81 N) (specs_loops (specs_cons (o61 N) specs_nil)) muts_nil gs_nil Try.func81 (by kernel_rfl) 0 (by kernel_rfl) trivial fun args K r h => ?_
  unfold S81 VS81 at h
  split at h
  · exact (e81_0 N _ _ _ _).trans h
  · cases h
def VS112 {β : Type} (N : Nat) (q_math_bits_OnesCount64 : (a0 : Int) → (k : Int → Option β) → Option β) : Rv.Spec β := fun args K => match args with
  | [.v (.one (.int .u64 a0))] => q_math_bits_OnesCount64 a0 (fun z1 => K (.v (.one (.int .i64 z1))))
  | _ => none
def S112 {β : Type} (N : Nat) : Rv.Spec β := VS112 N (math_bits_OnesCount64 N)
def VE112 {β : Type} (N : Nat) : Env β := ⟨[], [], [], []⟩
def E112 {β : Type} (N : Nat) : Env β := VE112 N
def BV_math_bits_OnesCount64 {β : Type} (N : Nat) (a0 : Int) (k : Int → Option β) : Option β :=
k ((bits .and .i64 (w64 ((wu64 ((wu64 ((wu64 ((bits .and .u64 (wu64 ((shrI .u64 (wu64 ((bits .and .u64 (shrI .u64 (wu64 ((bits .and .u64 (shrI .u64 a0 1) 6148914691236517205) + (bits .and .u64 a0 6148914691236517205))) 2) 3689348814741910323) + (bits .and .u64 (wu64 ((bits .and .u64 (shrI .u64 a0 1) 6148914691236517205) + (bits .and .u64 a0 6148914691236517205))) 3689348814741910323))) 4) + (wu64 ((bits .and .u64 (shrI .u64 (wu64 ((bits .and .u64 (shrI .u64 a0 1) 6148914691236517205) + (bits .and .u64 a0 6148914691236517205))) 2) 3689348814741910323) + (bits .and .u64 (wu64 ((bits .and .u64 (shrI .u64 a0 1) 6148914691236517205) + (bits .and .u64 a0 6148914691236517205))) 3689348814741910323))))) 1085102592571150095) + (shrI .u64 (bits .and .u64 (wu64 ((shrI .u64 (wu64 ((bits .and .u64 (shrI .u64 (wu64 ((bits .and .u64 (shrI .u64 a0 1) 6148914691236517205) + (bits .and .u64 a0 6148914691236517205))) 2) 3689348814741910323) + (bits .and .u64 (wu64 ((bits .and .u64 (shrI .u64 a0 1) 6148914691236517205) + (bits .and .u64 a0 6148914691236517205))) 3689348814741910323))) 4) + (wu64 ((bits .and .u64 (shrI .u64 (wu64 ((bits .and .u64 (shrI .u64 a0 1) 6148914691236517205) + (bits .and .u64 a0 6148914691236517205))) 2) 3689348814741910323) + (bits .and .u64 (wu64 ((bits .and .u64 (shrI .u64 a0 1) 6148914691236517205) + (bits .and .u64 a0 6148914691236517205))) 3689348814741910323))))) 1085102592571150095) 8))) + (shrI .u64 (wu64 ((bits .and .u64 (wu64 ((shrI .u64 (wu64 ((bits .and .u64 (shrI .u64 (wu64 ((bits .and .u64 (shrI .u64 a0 1) 6148914691236517205) + (bits .and .u64 a0 6148914691236517205))) 2) 3689348814741910323) + (bits .and .u64 (wu64 ((bits .and .u64 (shrI .u64 a0 1) 6148914691236517205) + (bits .and .u64 a0 6148914691236517205))) 3689348814741910323))) 4) + (wu64 ((bits .and .u64 (shrI .u64 (wu64 ((bits .and .u64 (shrI .u64 a0 1) 6148914691236517205) + (bits .and .u64 a0 6148914691236517205))) 2) 3689348814741910323) + (bits .and .u64 (wu64 ((bits .and .u64 (shrI .u64 a0 1) 6148914691236517205) + (bits .and .u64 a0 6148914691236517205))) 3689348814741910323))))) 1085102592571150095) + (shrI .u64 (bits .and .u64 (wu64 ((shrI .u64 (wu64 ((bits .and .u64 (shrI .u64 (wu64 ((bits .and .u64 (shrI .u64 a0 1) 6148914691236517205) + (bits .and .u64 a0 6148914691236517205))) 2) 3689348814741910323) + (bits .and .u64 (wu64 ((bits .and .u64 (shrI .u64 a0 1) 6148914691236517205) + (bits .and .u64 a0 6148914691236517205))) 3689348814741910323))) 4) + (wu64 ((bits .and .u64 (shrI .u64 (wu64 ((bits .and .u64 (shrI .u64 a0 1) 6148914691236517205) + (bits .and .u64 a0 6148914691236517205))) 2) 3689348814741910323) + (bits .and .u64 (wu64 ((bits .and .u64 (shrI .u64 a0 1) 6148914691236517205) + (bits .and .u64 a0 6148914691236517205))) 3689348814741910323))))) 1085102592571150095) 8))) 16))) + (shrI .u64 (wu64 ((wu64 ((bits .and .u64 (wu64 ((shrI .u64 (wu64 ((bits .and .u64 (shrI .u64 (wu64 ((bits .and .u64 (shrI .u64 a0 1) 6148914691236517205) + (bits .and .u64 a0 6148914691236517205))) 2) 3689348814741910323) + (bits .and .u64 (wu64 ((bits .and .u64 (shrI .u64 a0 1) 6148914691236517205) + (bits .and .u64 a0 6148914691236517205))) 3689348814741910323))) 4) + (wu64 ((bits .and .u64 (shrI .u64 (wu64 ((bits .and .u64 (shrI .u64 a0 1) 6148914691236517205) + (bits .and .u64 a0 6148914691236517205))) 2) 3689348814741910323) + (bits .and .u64 (wu64 ((bits .and .u64 (shrI .u64 a0 1) 6148914691236517205) + (bits .and .u64 a0 6148914691236517205))) 3689348814741910323))))) 1085102592571150095) + (shrI .u64 (bits .and .u64 (wu64 ((shrI .u64 (wu64 ((bits .and .u64 (shrI .u64 (wu64 ((bits .and .u64 (shrI .u64 a0 1) 6148914691236517205) + (bits .and .u64 a0 6148914691236517205))) 2) 3689348814741910323) + (bits .and .u64 (wu64 ((bits .and .u64 (shrI .u64 a0 1) 6148914691236517205) + (bits .and .u64 a0 6148914691236517205))) 3689348814741910323))) 4) + (wu64 ((bits .and .u64 (shrI .u64 (wu64 ((bits .and .u64 (shrI .u64 a0 1) 6148914691236517205) + (bits .and .u64 a0 6148914691236517205))) 2) 3689348814741910323) + (bits .and .u64 (wu64 ((bits .and .u64 (shrI .u64 a0 1) 6148914691236517205) + (bits .and .u64 a0 6148914691236517205))) 3689348814741910323))))) 1085102592571150095) 8))) + (shrI .u64 (wu64 ((bits .and .u64 (wu64 ((shrI .u64 (wu64 ((bits .and .u64 (shrI .u64 (wu64 ((bits .and .u64 (shrI .u64 a0 1) 6148914691236517205) + (bits .and .u64 a0 6148914691236517205))) 2) 3689348814741910323) + (bits .and .u64 (wu64 ((bits .and .u64 (shrI .u64 a0 1) 6148914691236517205) + (bits .and .u64 a0 6148914691236517205))) 3689348814741910323))) 4) + (wu64 ((bits .and .u64 (shrI .u64 (wu64 ((bits .and .u64 (shrI .u64 a0 1) 6148914691236517205) + (bits .and .u64 a0 6148914691236517205))) 2) 3689348814741910323) + (bits .and .u64 (wu64 ((bits .and .u64 (shrI .u64 a0 1) 6148914691236517205) + (bits .and .u64 a0 6148914691236517205))) 3689348814741910323))))) 1085102592571150095) + (shrI .u64 (bits .and .u64 (wu64 ((shrI .u64 (wu64 ((bits .and .u64 (shrI .u64 (wu64 ((bits .and .u64 (shrI .u64 a0 1) 6148914691236517205) + (bits .and .u64 a0 6148914691236517205))) 2) 3689348814741910323) + (bits .and .u64 (wu64 ((bits .and .u64 (shrI .u64 a0 1) 6148914691236517205) + (bits .and .u64 a0 6148914691236517205))) 3689348814741910323))) 4) + (wu64 ((bits .and .u64 (shrI .u64 (wu64 ((bits .and .u64 (shrI .u64 a0 1) 6148914691236517205) + (bits .and .u64 a0 6148914691236517205))) 2) 3689348814741910323) + (bits .and .u64 (wu64 ((bits .and .u64 (shrI .u64 a0 1) 6148914691236517205) + (bits .and .u64 a0 6148914691236517205))) 3689348814741910323))))) 1085102592571150095) 8))) 16))) 32))))) 127))
theorem t_math_bits_OnesCount64 {β : Type} (N : Nat) (a0 : Int) (k : Int → Option β) : math_bits_OnesCount64 N a0 k = BV_math_bits_OnesCount64 N a0 k := by
  unfold math_bits_OnesCount64 BV_math_bits_OnesCount64
  rfl
theorem ve112_0 {β : Type} (N : Nat)  (a0 : Int) (K : TV → Option β) : evFn lay (VE112 N) Try.f112 [.v (.one (.int .u64 a0))] K = BV_math_bits_OnesCount64 N a0 (fun z1 => K (.v (.one (.int .i64 z1)))) := by kernel_rfl
theorem e112_0 {β : Type} (N : Nat)  (a0 : Int) (K : TV → Option β) : evFn lay (E112 N) Try.f112 [.v (.one (.int .u64 a0))] K = math_bits_OnesCount64 N a0 (fun z1 => K (.v (.one (.int .i64 z1)))) := (ve112_0 N a0 K).trans (t_math_bits_OnesCount64 N a0 (fun z1 => K (.v (.one (.int .i64 z1))))).symm
theorem o112 {β : Type} (N : Nat) : SpecOK (β := β) Try.prog 112 (S112 N) := by
  refine spec_of lay_ok mixed (E := E112 N) (specs_loops specs_nil) muts_nil gs_nil Try.func112 (by kernel_rfl) 0 (by kernel_rfl) trivial fun args K r h => ?_
  unfold S112 VS112 at h
  split at h
  · exact (e112_0 N _ _).trans h
  · cases h
def VS64 {β : Type} (N : Nat) (q_impl_ones : (a0 : Int) → (k : Int → Option β) → Option β) : Rv.Spec β := fun args K => match args with
  | [.v (.one (.int .i64 a0))] => q_impl_ones a0 (fun z1 => K (.v (.one (.int .i64 z1))))
  | _ => none
def S64 {β : Type} (N : Nat) : Rv.Spec β := VS64 N (impl_ones N)
def VE64 {β : Type} (N : Nat) (q_math_bits_OnesCount64 : (a0 : Int) → (k : Int → Option β) → Option β) : Env β := ⟨[(112, VS112 N q_math_bits_OnesCount64)], [], [], []⟩
def E64 {β : Type} (N : Nat) : Env β := VE64 N (math_bits_OnesCount64 N)
def BV_impl_ones {β : Type} (N : Nat) (q_math_bits_OnesCount64 : (a0 : Int) → (k : Int → Option β) → Option β) (a0 : Int) (k : Int → Option β) : Option β :=
q_math_bits_OnesCount64 ((wu64 (a0))) fun r2 =>
k r2
theorem t_impl_ones {β : Type} (N : Nat) (a0 : Int) (k : Int → Option β) : impl_ones N a0 k = BV_impl_ones N (math_bits_OnesCount64 N) a0 k := by
  unfold impl_ones BV_impl_ones
  rfl
theorem ve64_0 {β : Type} (N : Nat) (q_math_bits_OnesCount64 : (a0 : Int) → (k : Int → Option β) → Option β)  (a0 : Int) (K : TV → Option β) : evFn lay (VE64 N q_math_bits_OnesCount64) Try.f64 [.v (.one (.int .i64 a0))] K = BV_impl_ones N q_math_bits_OnesCount64 a0 (fun z1 => K (.v (.one (.int .i64 z1)))) := by kernel_rfl
theorem e64_0 {β : Type} (N : Nat)  (a0 : Int) (K : TV → Option β) : evFn lay (E64 N) Try.f64 [.v (.one (.int .i64 a0))] K = impl_ones N a0 (fun z1 => K (.v (.one (.int .i64 z1)))) := (ve64_0 N (math_bits_OnesCount64 N) a0 K).trans (t_impl_ones N a0 (fun z1 => K (.v (.one (.int .i64 z1))))).symm
theorem o64 {β : Type} (N : Nat) : SpecOK (β := β) Try.prog 64 (S64 N) := by
  refine spec_of lay_ok mixed (E := E64 N) (specs_loops (specs_cons (o112 N) specs_nil)) muts_nil gs_nil Try.func64 (by kernel_rfl) 0 (by kernel_rfl) trivial fun args K r h => ?_
  unfold S64 VS64 at h
  split at h
  · exact (e64_0 N _ _).trans h
  · cases h
def VS83 {β : Type} (N : Nat) (q_impl_Table_tests : (a0 : Int) → (a1 : Int) → (a2 : Int) → (k : Bool → Option β) → Option β) : Rv.Spec β := fun args K => match args with
  | [.v (.agg [.int .i64 a0, .int .i64 a1]), .v (.one (.int .i64 a2))] => q_impl_Table_tests a0 a1 a2 (fun z3 => K (.v (.one (.bool z3))))
  | _ => none
def S83 {β : Type} (N : Nat) : Rv.Spec β := VS83 N (impl_Table_tests N)
def h83_0_0  (v0 : Int) (v1 : Int) (v2 : Int) (v3 : Int) (v4 : Int) : St := ⟨.v (.one .und) :: .v (.one (.int .i64 v0)) :: .v (.one (.ptr 0 0)) :: .v (.one .und) :: .v (.one .und) :: .v (.one .und) :: .v (.one .und) :: .v (.one .und) :: .v (.one .und) :: .v (.one (.int .i64 v1)) :: .v (.one (.int .i64 v2)) :: .v (.one .und) :: .v (.one .und) :: .v (.one .und) :: .v (.one .und) :: .v (.one .und) :: .v (.one .und) :: .v (.one .und) :: .v (.one .und) :: .v (.one .und) :: .v (.one .und) :: .v (.one .und) :: .v (.one .und) :: .v (.one .und) :: .v (.one .und) :: .v (.one .und) :: .v (.one .und) :: .v (.one .und) :: .v (.one .und) :: .v (.one .und) :: [], [.cells 25 [.int .i64 v3, .int .i64 v4]]⟩
def x83_0_0_k0  (y0 : Bool) : St := ⟨.v (.one .und) :: .v (.one .und) :: .v (.one .und) :: .v (.one .und) :: .v (.one (.bool y0)) :: .v (.one .und) :: .v (.one .und) :: .v (.one .und) :: .v (.one .und) :: .v (.one .und) :: .v (.one .und) :: .v (.one .und) :: .v (.one .und) :: .v (.one .und) :: .v (.one .und) :: .v (.one .und) :: .v (.one .und) :: .v (.one .und) :: .v (.one .und) :: .v (.one .und) :: .v (.one .und) :: .v (.one .und) :: .v (.one .und) :: .v (.one .und) :: .v (.one .und) :: .v (.one .und) :: .v (.one .und) :: .v (.one .und) :: .v (.one .und) :: .v (.one .und) :: [], []⟩
def x83_0_0_k1   : St := ⟨.v (.one .und) :: .v (.one .und) :: .v (.one .und) :: .v (.one .und) :: .v (.one .und) :: .v (.one .und) :: .v (.one .und) :: .v (.one .und) :: .v (.one .und) :: .v (.one .und) :: .v (.one .und) :: .v (.one .und) :: .v (.one .und) :: .v (.one .und) :: .v (.one .und) :: .v (.one .und) :: .v (.one .und) :: .v (.one .und) :: .v (.one .und) :: .v (.one .und) :: .v (.one .und) :: .v (.one .und) :: .v (.one .und) :: .v (.one .und) :: .v (.one .und) :: .v (.one .und) :: .v (.one .und) :: .v (.one .und) :: .v (.one .und) :: .v (.one .und) :: [], []⟩
def h83_1_0  (v0 : Int) (v1 : Int) (v2 : Int) (v3 : Int) (v4 : Int) (v5 : Int) (v6 : Int) : St := ⟨.v (.one .und) :: .v (.one (.int .i64 v0)) :: .v (.one (.ptr 0 0)) :: .v (.one .und) :: .v (.one .und) :: .v (.one (.int .i64 v1)) :: .v (.one .und) :: .v (.one .und) :: .v (.one .und) :: .v (.one (.int .i64 v2)) :: .v (.one (.int .i64 v3)) :: .v (.one .und) :: .v (.one .und) :: .v (.one (.int .i64 v4)) :: .v (.one .und) :: .v (.one .und) :: .v (.one .und) :: .v (.one .und) :: .v (.one .und) :: .v (.one .und) :: .v (.one .und) :: .v (.one .und) :: .v (.one .und) :: .v (.one .und) :: .v (.one .und) :: .v (.one .und) :: .v (.one .und) :: .v (.one .und) :: .v (.one .und) :: .v (.one .und) :: [], [.cells 25 [.int .i64 v5, .int .i64 v6]]⟩
def x83_1_0_k0  (y0 : Bool) : St := ⟨.v (.one .und) :: .v (.one .und) :: .v (.one .und) :: .v (.one .und) :: .v (.one (.bool y0)) :: .v (.one .und) :: .v (.one .und) :: .v (.one .und) :: .v (.one .und) :: .v (.one .und) :: .v (.one .und) :: .v (.one .und) :: .v (.one .und) :: .v (.one .und) :: .v (.one .und) :: .v (.one .und) :: .v (.one .und) :: .v (.one .und) :: .v (.one .und) :: .v (.one .und) :: .v (.one .und) :: .v (.one .und) :: .v (.one .und) :: .v (.one .und) :: .v (.one .und) :: .v (.one .und) :: .v (.one .und) :: .v (.one .und) :: .v (.one .und) :: .v (.one .und) :: [], []⟩
def x83_1_0_k1  (y0 : Int) (y1 : Int) (y2 : Int) (y3 : Int) (y4 : Int) : St := ⟨.v (.one .und) :: .v (.one (.int .i64 y0)) :: .v (.one (.ptr 0 0)) :: .v (.one .und) :: .v (.one .und) :: .v (.one .und) :: .v (.one .und) :: .v (.one .und) :: .v (.one .und) :: .v (.one (.int .i64 y1)) :: .v (.one (.int .i64 y2)) :: .v (.one .und) :: .v (.one .und) :: .v (.one .und) :: .v (.one .und) :: .v (.one .und) :: .v (.one .und) :: .v (.one .und) :: .v (.one .und) :: .v (.one .und) :: .v (.one .und) :: .v (.one .und) :: .v (.one .und) :: .v (.one .und) :: .v (.one .und) :: .v (.one .und) :: .v (.one .und) :: .v (.one .und) :: .v (.one .und) :: .v (.one .und) :: [], [.cells 25 [.int .i64 y3, .int .i64 y4]]⟩
theorem fl83_0_0 (s : St) : refSt (h83_0_0 0 0 0 0 0) s = h83_0_0 (intS (oneA (vT (nx tund s.tmps 1)))) (intS (oneA (vT (nx tund s.tmps 9)))) (intS (oneA (vT (nx tund s.tmps 10)))) (intS (nx .und (cellsB (nx .dead s.blks 0)) 0)) (intS (nx .und (cellsB (nx .dead s.blks 0)) 1)) := by kernel_rfl
def VLS83_0 {β : Type} (N : Nat) (q_impl_Table_tests_l0 : Nat → Int → Int → Int → Int → Int → (Bool → Option β) → (Option β) → Option β) : LSpec β := fun s K => cond (shpSt (h83_0_0 0 0 0 0 0) s) ((fun (v0 : Int) (v1 : Int) (v2 : Int) (v3 : Int) (v4 : Int) => q_impl_Table_tests_l0  N v0 v1 v2 v3 v4 (fun y0 => K .ret (x83_0_0_k0  y0)) (K (.exit 0) (x83_0_0_k1  ))) (intS (oneA (vT (nx tund s.tmps 1)))) (intS (oneA (vT (nx tund s.tmps 9)))) (intS (oneA (vT (nx tund s.tmps 10)))) (intS (nx .und (cellsB (nx .dead s.blks 0)) 0)) (intS (nx .und (cellsB (nx .dead s.blks 0)) 1))) (none)
def LS83_0 {β : Type} (N : Nat) : LSpec β := VLS83_0 N (impl_Table_tests_l0 N)
theorem fl83_1_0 (s : St) : refSt (h83_1_0 0 0 0 0 0 0 0) s = h83_1_0 (intS (oneA (vT (nx tund s.tmps 1)))) (intS (oneA (vT (nx tund s.tmps 5)))) (intS (oneA (vT (nx tund s.tmps 9)))) (intS (oneA (vT (nx tund s.tmps 10)))) (intS (oneA (vT (nx tund s.tmps 13)))) (intS (nx .und (cellsB (nx .dead s.blks 0)) 0)) (intS (nx .und (cellsB (nx .dead s.blks 0)) 1)) := by kernel_rfl
def VLS83_2 {β : Type} (N : Nat) (q_impl_Table_tests_l2 : Nat → Int → Int → Int → Int → Int → Int → Int → (Bool → Option β) → (Int → Int → Int → Int → Int → Option β) → Option β) : LSpec β := fun s K => cond (shpSt (h83_1_0 0 0 0 0 0 0 0) s) ((fun (v0 : Int) (v1 : Int) (v2 : Int) (v3 : Int) (v4 : Int) (v5 : Int) (v6 : Int) => q_impl_Table_tests_l2  N v0 v1 v2 v3 v4 v5 v6 (fun y0 => K .ret (x83_1_0_k0  y0)) (fun y0 y1 y2 y3 y4 => K (.exit 2) (x83_1_0_k1  y0 y1 y2 y3 y4))) (intS (oneA (vT (nx tund s.tmps 1)))) (intS (oneA (vT (nx tund s.tmps 5)))) (intS (oneA (vT (nx tund s.tmps 9)))) (intS (oneA (vT (nx tund s.tmps 10)))) (intS (oneA (vT (nx tund s.tmps 13)))) (intS (nx .und (cellsB (nx .dead s.blks 0)) 0)) (intS (nx .und (cellsB (nx .dead s.blks 0)) 1))) (none)
def LS83_2 {β : Type} (N : Nat) : LSpec β := VLS83_2 N (impl_Table_tests_l2 N)
def VE83 {β : Type} (N : Nat) (q_impl_Table_detecting : (a0 : Int) → (a1 : Int) → (a2 : Int) → (a3 : Int) → (k : Int → Option β) → Option β) (q_impl_Table_tests_l0 : Nat → Int → Int → Int → Int → Int → (Bool → Option β) → (Option β) → Option β) (q_impl_Table_tests_l2 : Nat → Int → Int → Int → Int → Int → Int → Int → (Bool → Option β) → (Int → Int → Int → Int → Int → Option β) → Option β) : Env β := ⟨[(77, VS77 N q_impl_Table_detecting)], [], [(0, VLS83_0 N q_impl_Table_tests_l0), (2, VLS83_2 N q_impl_Table_tests_l2)], []⟩
def E83 {β : Type} (N : Nat) : Env β := VE83 N (impl_Table_detecting N) (impl_Table_tests_l0 N) (impl_Table_tests_l2 N)
def BV_impl_Table_tests_l0b {β : Type} (N : Nat) (q_impl_Table_tests_l2 : Nat → Int → Int → Int → Int → Int → Int → Int → (Bool → Option β) → (Int → Int → Int → Int → Int → Option β) → Option β)  (v0 : Int) (v1 : Int) (v2 : Int) (v3 : Int) (v4 : Int) (rec_ : Int → Int → Int → Int → Int → Option β) (k0 : Bool → Option β) (k1 : Option β) : Option β :=
(cond ((decide (v2 < v1)))
(q_impl_Table_tests_l2  N v0 v2 v1 v2 0 v3 v4 (fun e5_0 =>
k0 e5_0) (fun e6_0 e6_1 e6_2 e6_3 e6_4 =>
rec_ e6_0 e6_1 ((w64 (e6_2 + 1))) e6_3 e6_4))
(k1 ))
theorem t_impl_Table_tests_l0b {β : Type} (N : Nat)  (v0 : Int) (v1 : Int) (v2 : Int) (v3 : Int) (v4 : Int) (rec_ : Int → Int → Int → Int → Int → Option β) (k0 : Bool → Option β) (k1 : Option β) : impl_Table_tests_l0b N v0 v1 v2 v3 v4 rec_ k0 k1 = BV_impl_Table_tests_l0b N (impl_Table_tests_l2 N) v0 v1 v2 v3 v4 rec_ k0 k1 := by
  unfold impl_Table_tests_l0b BV_impl_Table_tests_l0b
  rfl
theorem vst83_0_0 {β : Type} (N : Nat) (q_impl_Table_detecting : (a0 : Int) → (a1 : Int) → (a2 : Int) → (a3 : Int) → (k : Int → Option β) → Option β) (q_impl_Table_tests_l0 : Nat → Int → Int → Int → Int → Int → (Bool → Option β) → (Option β) → Option β) (q_impl_Table_tests_l2 : Nat → Int → Int → Int → Int → Int → Int → Int → (Bool → Option β) → (Int → Int → Int → Int → Int → Option β) → Option β)  (v0 : Int) (v1 : Int) (v2 : Int) (v3 : Int) (v4 : Int) (rec_ : St → Option β) (K : Exit → St → Option β) :
    ev lay (VE83 N q_impl_Table_detecting q_impl_Table_tests_l0 q_impl_Table_tests_l2) (retMask Try.f83) (lp Try.f83 0).body (lp Try.f83 0).ex ((lp Try.f83 0).lv (retMask Try.f83)) (h83_0_0  v0 v1 v2 v3 v4) (nextR (fun s' => rec_ (s'.tidy ((lp Try.f83 0).lv (retMask Try.f83)))) K) = BV_impl_Table_tests_l0b N q_impl_Table_tests_l2  v0 v1 v2 v3 v4 (fun v0 v1 v2 v3 v4 => rec_ (h83_0_0  v0 v1 v2 v3 v4)) (fun y0 => K .ret (x83_0_0_k0  y0)) (K (.exit 0) (x83_0_0_k1  )) := by kernel_rfl
theorem st83_0_0 {β : Type} (N : Nat)  (v0 : Int) (v1 : Int) (v2 : Int) (v3 : Int) (v4 : Int) (rec_ : St → Option β) (K : Exit → St → Option β) :
    ev lay (E83 N) (retMask Try.f83) (lp Try.f83 0).body (lp Try.f83 0).ex ((lp Try.f83 0).lv (retMask Try.f83)) (h83_0_0  v0 v1 v2 v3 v4) (nextR (fun s' => rec_ (s'.tidy ((lp Try.f83 0).lv (retMask Try.f83)))) K) = impl_Table_tests_l0b N  v0 v1 v2 v3 v4 (fun v0 v1 v2 v3 v4 => rec_ (h83_0_0  v0 v1 v2 v3 v4)) (fun y0 => K .ret (x83_0_0_k0  y0)) (K (.exit 0) (x83_0_0_k1  )) := (vst83_0_0 N (impl_Table_detecting N) (impl_Table_tests_l0 N) (impl_Table_tests_l2 N) v0 v1 v2 v3 v4 rec_ K).trans (t_impl_Table_tests_l0b N  v0 v1 v2 v3 v4 (fun v0 v1 v2 v3 v4 => rec_ (h83_0_0  v0 v1 v2 v3 v4)) (fun y0 => K .ret (x83_0_0_k0  y0)) (K (.exit 0) (x83_0_0_k1  ))).symm
theorem ro83_0_0 {β : Type} (N : Nat)  (K : Exit → St → Option β) : ∀ (F : Nat) (v0 : Int) (v1 : Int) (v2 : Int) (v3 : Int) (v4 : Int), (lp Try.f83 0).rounds lay (E83 N) (retMask Try.f83) F (h83_0_0  v0 v1 v2 v3 v4) K = impl_Table_tests_l0 N  F v0 v1 v2 v3 v4 (fun y0 => K .ret (x83_0_0_k0  y0)) (K (.exit 0) (x83_0_0_k1  )) := by
  intro F
  induction F with
  | zero => intros; rfl
  | succ F ih =>
    intros
    rw [rounds_next]
    refine (st83_0_0 N  _ _ _ _ _ (fun s => (lp Try.f83 0).rounds lay (E83 N) (retMask Try.f83) F s K) K).trans ?_
    simp only [ih]
    rfl
theorem lk83_0 {β : Type} (N : Nat) : lookL (E83 (β := β) N).loops (lp Try.f83 0).id = LS83_0 N := by kernel_rfl
theorem rk83_0 {β : Type} (N : Nat) : RoundsOK lay (E83 (β := β) N) (retMask Try.f83) (lp Try.f83 0) := by
  intro s K r h
  rw [lk83_0] at h
  unfold LS83_0 VLS83_0 at h
  cases hb : shpSt (h83_0_0 0 0 0 0 0) s with
  | true =>
    rw [hb, cond_true] at h
    exact ⟨N, by rw [← shpSt_ref hb, fl83_0_0 s]; exact (ro83_0_0 N  K N (intS (oneA (vT (nx tund s.tmps 1)))) (intS (oneA (vT (nx tund s.tmps 9)))) (intS (oneA (vT (nx tund s.tmps 10)))) (intS (nx .und (cellsB (nx .dead s.blks 0)) 0)) (intS (nx .und (cellsB (nx .dead s.blks 0)) 1))).trans h⟩
  | false =>
  rw [hb, cond_false] at h
  clear hb
  cases h
def BV_impl_Table_tests_l2b {β : Type} (N : Nat) (q_impl_Table_detecting : (a0 : Int) → (a1 : Int) → (a2 : Int) → (a3 : Int) → (k : Int → Option β) → Option β)  (v0 : Int) (v1 : Int) (v2 : Int) (v3 : Int) (v4 : Int) (v5 : Int) (v6 : Int) (rec_ : Int → Int → Int → Int → Int → Int → Int → Option β) (k0 : Bool → Option β) (k1 : Int → Int → Int → Int → Int → Option β) : Option β :=
(cond ((decide (v4 < 2)))
(q_impl_Table_detecting v5 v6 v1 v4 fun r4 =>
(cond ((r4 != 0))
((cond (((bits .and .i64 r4 v0) == 0))
(k0 false)
(rec_ v0 v1 v2 v3 ((w64 (v4 + 1))) v5 v6)))
(rec_ v0 v1 v2 v3 ((w64 (v4 + 1))) v5 v6)))
(k1 v0 v2 v3 v5 v6))
theorem t_impl_Table_tests_l2b {β : Type} (N : Nat)  (v0 : Int) (v1 : Int) (v2 : Int) (v3 : Int) (v4 : Int) (v5 : Int) (v6 : Int) (rec_ : Int → Int → Int → Int → Int → Int → Int → Option β) (k0 : Bool → Option β) (k1 : Int → Int → Int → Int → Int → Option β) : impl_Table_tests_l2b N v0 v1 v2 v3 v4 v5 v6 rec_ k0 k1 = BV_impl_Table_tests_l2b N (impl_Table_detecting N) v0 v1 v2 v3 v4 v5 v6 rec_ k0 k1 := by
  unfold impl_Table_tests_l2b BV_impl_Table_tests_l2b
  rfl
theorem vst83_1_0 {β : Type} (N : Nat) (q_impl_Table_detecting : (a0 : Int) → (a1 : Int) → (a2 : Int) → (a3 : Int) → (k : Int → Option β) → Option β) (q_impl_Table_tests_l0 : Nat → Int → Int → Int → Int → Int → (Bool → Option β) → (Option β) → Option β) (q_impl_Table_tests_l2 : Nat → Int → Int → Int → Int → Int → Int → Int → (Bool → Option β) → (Int → Int → Int → Int → Int → Option β) → Option β)  (v0 : Int) (v1 : Int) (v2 : Int) (v3 : Int) (v4 : Int) (v5 : Int) (v6 : Int) (rec_ : St → Option β) (K : Exit → St → Option β) :
    ev lay (VE83 N q_impl_Table_detecting q_impl_Table_tests_l0 q_impl_Table_tests_l2) (retMask Try.f83) (lp Try.f83 1).body (lp Try.f83 1).ex ((lp Try.f83 1).lv (retMask Try.f83)) (h83_1_0  v0 v1 v2 v3 v4 v5 v6) (nextR (fun s' => rec_ (s'.tidy ((lp Try.f83 1).lv (retMask Try.f83)))) K) = BV_impl_Table_tests_l2b N q_impl_Table_detecting  v0 v1 v2 v3 v4 v5 v6 (fun v0 v1 v2 v3 v4 v5 v6 => rec_ (h83_1_0  v0 v1 v2 v3 v4 v5 v6)) (fun y0 => K .ret (x83_1_0_k0  y0)) (fun y0 y1 y2 y3 y4 => K (.exit 2) (x83_1_0_k1  y0 y1 y2 y3 y4)) := by kernel_rfl
theorem st83_1_0 {β : Type} (N : Nat)  (v0 : Int) (v1 : Int) (v2 : Int) (v3 : Int) (v4 : Int) (v5 : Int) (v6 : Int) (rec_ : St → Option β) (K : Exit → St → Option β) :
    ev lay (E83 N) (retMask Try.f83) (lp Try.f83 1).body (lp Try.f83 1).ex ((lp Try.f83 1).lv (retMask Try.f83)) (h83_1_0  v0 v1 v2 v3 v4 v5 v6) (nextR (fun s' => rec_ (s'.tidy ((lp Try.f83 1).lv (retMask Try.f83)))) K) = impl_Table_tests_l2b N  v0 v1 v2 v3 v4 v5 v6 (fun v0 v1 v2 v3 v4 v5 v6 => rec_ (h83_1_0  v0 v1 v2 v3 v4 v5 v6)) (fun y0 => K .ret (x83_1_0_k0  y0)) (fun y0 y1 y2 y3 y4 => K (.exit 2) (x83_1_0_k1  y0 y1 y2 y3 y4)) := (vst83_1_0 N (impl_Table_detecting N) (impl_Table_tests_l0 N) (impl_Table_tests_l2 N) v0 v1 v2 v3 v4 v5 v6 rec_ K).trans (t_impl_Table_tests_l2b N  v0 v1 v2 v3 v4 v5 v6 (fun v0 v1 v2 v3 v4 v5 v6 => rec_ (h83_1_0  v0 v1 v2 v3 v4 v5 v6)) (fun y0 => K .ret (x83_1_0_k0  y0)) (fun y0 y1 y2 y3 y4 => K (.exit 2) (x83_1_0_k1  y0 y1 y2 y3 y4))).symm
theorem ro83_1_0 {β : Type} (N : Nat)  (K : Exit → St → Option β) : ∀ (F : Nat) (v0 : Int) (v1 : Int) (v2 : Int) (v3 : Int) (v4 : Int) (v5 : Int) (v6 : Int), (lp Try.f83 1).rounds lay (E83 N) (retMask Try.f83) F (h83_1_0  v0 v1 v2 v3 v4 v5 v6) K = impl_Table_tests_l2 N  F v0 v1 v2 v3 v4 v5 v6 (fun y0 => K .ret (x83_1_0_k0  y0)) (fun y0 y1 y2 y3 y4 => K (.exit 2) (x83_1_0_k1  y0 y1 y2 y3 y4)) := by
  intro F
  induction F with
  | zero => intros; rfl
  | succ F ih =>
    intros
    rw [rounds_next]
    refine (st83_1_0 N  _ _ _ _ _ _ _ (fun s => (lp Try.f83 1).rounds lay (E83 N) (retMask Try.f83) F s K) K).trans ?_
    simp only [ih]
    rfl
theorem lk83_2 {β : Type} (N : Nat) : lookL (E83 (β := β) N).loops (lp Try.f83 1).id = LS83_2 N := by kernel_rfl
theorem rk83_2 {β : Type} (N : Nat) : RoundsOK lay (E83 (β := β) N) (retMask Try.f83) (lp Try.f83 1) := by
  intro s K r h
  rw [lk83_2] at h
  unfold LS83_2 VLS83_2 at h
  cases hb : shpSt (h83_1_0 0 0 0 0 0 0 0) s with
  | true =>
    rw [hb, cond_true] at h
    exact ⟨N, by rw [← shpSt_ref hb, fl83_1_0 s]; exact (ro83_1_0 N  K N (intS (oneA (vT (nx tund s.tmps 1)))) (intS (oneA (vT (nx tund s.tmps 5)))) (intS (oneA (vT (nx tund s.tmps 9)))) (intS (oneA (vT (nx tund s.tmps 10)))) (intS (oneA (vT (nx tund s.tmps 13)))) (intS (nx .und (cellsB (nx .dead s.blks 0)) 0)) (intS (nx .und (cellsB (nx .dead s.blks 0)) 1))).trans h⟩
  | false =>
  rw [hb, cond_false] at h
  clear hb
  cases h
def BV_impl_Table_tests {β : Type} (N : Nat) (q_impl_Table_tests_l0 : Nat → Int → Int → Int → Int → Int → (Bool → Option β) → (Option β) → Option β) (a0 : Int) (a1 : Int) (a2 : Int) (k : Bool → Option β) : Option β :=
q_impl_Table_tests_l0  N a2 a0 0 a0 a1 (fun e7_0 =>
k e7_0) (k true)
theorem t_impl_Table_tests {β : Type} (N : Nat) (a0 : Int) (a1 : Int) (a2 : Int) (k : Bool → Option β) : impl_Table_tests N a0 a1 a2 k = BV_impl_Table_tests N (impl_Table_tests_l0 N) a0 a1 a2 k := by
  unfold impl_Table_tests BV_impl_Table_tests
  rfl
theorem ve83_0 {β : Type} (N : Nat) (q_impl_Table_detecting : (a0 : Int) → (a1 : Int) → (a2 : Int) → (a3 : Int) → (k : Int → Option β) → Option β) (q_impl_Table_tests_l0 : Nat → Int → Int → Int → Int → Int → (Bool → Option β) → (Option β) → Option β) (q_impl_Table_tests_l2 : Nat → Int → Int → Int → Int → Int → Int → Int → (Bool → Option β) → (Int → Int → Int → Int → Int → Option β) → Option β)  (a0 : Int) (a1 : Int) (a2 : Int) (K : TV → Option β) : evFn lay (VE83 N q_impl_Table_detecting q_impl_Table_tests_l0 q_impl_Table_tests_l2) Try.f83 [.v (.agg [.int .i64 a0, .int .i64 a1]), .v (.one (.int .i64 a2))] K = BV_impl_Table_tests N q_impl_Table_tests_l0 a0 a1 a2 (fun z3 => K (.v (.one (.bool z3)))) := by kernel_rfl
theorem e83_0 {β : Type} (N : Nat)  (a0 : Int) (a1 : Int) (a2 : Int) (K : TV → Option β) : evFn lay (E83 N) Try.f83 [.v (.agg [.int .i64 a0, .int .i64 a1]), .v (.one (.int .i64 a2))] K = impl_Table_tests N a0 a1 a2 (fun z3 => K (.v (.one (.bool z3)))) := (ve83_0 N (impl_Table_detecting N) (impl_Table_tests_l0 N) (impl_Table_tests_l2 N) a0 a1 a2 K).trans (t_impl_Table_tests N a0 a1 a2 (fun z3 => K (.v (.one (.bool z3))))).symm
theorem o83 {β : Type} (N : Nat) : SpecOK (β := β) Try.prog 83 (S83 N) := by
  refine spec_of lay_ok mixed (E := E83 N) (specs_loops (specs_cons (o77 N) specs_nil)) muts_nil gs_nil Try.func83 (by kernel_rfl) 2 (by kernel_rfl) ⟨⟨trivial, rk83_0 N⟩, rk83_2 N⟩ fun args K r h => ?_
  unfold S83 VS83 at h
  split at h
  · exact (e83_0 N _ _ _ _).trans h
  · cases h
def VS33 {β : Type} (N : Nat) (q_impl_LeastTestSet : (a0 : Int) → (a1 : Int) → (k : List Int → Bool → Option β) → Option β) : Rv.Spec β := fun args K => match args with
  | [.v (.agg [.int .i64 a0, .int .i64 a1])] => q_impl_LeastTestSet a0 a1 (fun z2 z3 => K (.tup [.one (.sl 3 (.ints .i64 z2)), .one (.bool z3)]))
  | _ => none
def S33 {β : Type} (N : Nat) : Rv.Spec β := VS33 N (impl_LeastTestSet N)
def h33_0_0  (v0 : Int) (v1 : Int) (v2 : Int) (v3 : Int) (v4 : Int) : St := ⟨.v (.one .und) :: .v (.one (.ptr 0 0)) :: .v (.one .und) :: .v (.one .und) :: .v (.one (.int .i64 v0)) :: .v (.one .und) :: .v (.one .und) :: .v (.one .und) :: .v (.one .und) :: .v (.one .und) :: .v (.one .und) :: .v (.one .und) :: .v (.one .und) :: .v (.one (.int .i64 v1)) :: .v (.one (.int .i64 v2)) :: .v (.one .und) :: .v (.one .und) :: .v (.one .und) :: .v (.one .und) :: .v (.one .und) :: .v (.one .und) :: .v (.one .und) :: .v (.one .und) :: .v (.one .und) :: .v (.one .und) :: .v (.one .und) :: .v (.one .und) :: .v (.one .und) :: .v (.one .und) :: .v (.one .und) :: .v (.one .und) :: [], [.cells 25 [.int .i64 v3, .int .i64 v4]]⟩
def x33_0_0_k0  (y0 : Int) : St := ⟨.v (.one .und) :: .v (.one .und) :: .v (.one .und) :: .v (.one .und) :: .v (.one (.int .i64 y0)) :: .v (.one .und) :: .v (.one .und) :: .v (.one .und) :: .v (.one .und) :: .v (.one .und) :: .v (.one .und) :: .v (.one .und) :: .v (.one .und) :: .v (.one .und) :: .v (.one .und) :: .v (.one .und) :: .v (.one .und) :: .v (.one .und) :: .v (.one .und) :: .v (.one .und) :: .v (.one .und) :: .v (.one .und) :: .v (.one .und) :: .v (.one .und) :: .v (.one .und) :: .v (.one .und) :: .v (.one .und) :: .v (.one .und) :: .v (.one .und) :: .v (.one .und) :: .v (.one .und) :: [], []⟩
theorem fl33_0_0 (s : St) : refSt (h33_0_0 0 0 0 0 0) s = h33_0_0 (intS (oneA (vT (nx tund s.tmps 4)))) (intS (oneA (vT (nx tund s.tmps 13)))) (intS (oneA (vT (nx tund s.tmps 14)))) (intS (nx .und (cellsB (nx .dead s.blks 0)) 0)) (intS (nx .und (cellsB (nx .dead s.blks 0)) 1)) := by kernel_rfl
def VLS33_0 {β : Type} (N : Nat) (q_impl_LeastTestSet_l0 : Nat → Int → Int → Int → Int → Int → (Int → Option β) → Option β) : LSpec β := fun s K => cond (shpSt (h33_0_0 0 0 0 0 0) s) ((fun (v0 : Int) (v1 : Int) (v2 : Int) (v3 : Int) (v4 : Int) => q_impl_LeastTestSet_l0  N v0 v1 v2 v3 v4 (fun y0 => K (.exit 0) (x33_0_0_k0  y0))) (intS (oneA (vT (nx tund s.tmps 4)))) (intS (oneA (vT (nx tund s.tmps 13)))) (intS (oneA (vT (nx tund s.tmps 14)))) (intS (nx .und (cellsB (nx .dead s.blks 0)) 0)) (intS (nx .und (cellsB (nx .dead s.blks 0)) 1))) (none)
def LS33_0 {β : Type} (N : Nat) : LSpec β := VLS33_0 N (impl_LeastTestSet_l0 N)
def VE33 {β : Type} (N : Nat) (q_impl_isSmall : (a0 : Int) → (a1 : Int) → (a2 : Int) → (k : Bool → Option β) → Option β) (q_impl_Table_size : (a0 : Int) → (a1 : Int) → (k : Int → Option β) → Option β) (q_impl_ones : (a0 : Int) → (k : Int → Option β) → Option β) (q_impl_Table_tests : (a0 : Int) → (a1 : Int) → (a2 : Int) → (k : Bool → Option β) → Option β) (q_impl_elements : (a0 : Int) → (k : List Int → Option β) → Option β) (q_impl_LeastTestSet_l0 : Nat → Int → Int → Int → Int → Int → (Int → Option β) → Option β) : Env β := ⟨[(81, VS81 N q_impl_isSmall), (82, VS82 N q_impl_Table_size), (64, VS64 N q_impl_ones), (83, VS83 N q_impl_Table_tests), (76, VS76 N q_impl_elements)], [], [(0, VLS33_0 N q_impl_LeastTestSet_l0)], []⟩
def E33 {β : Type} (N : Nat) : Env β := VE33 N (impl_isSmall N) (impl_Table_size N) (impl_ones N) (impl_Table_tests N) (impl_elements N) (impl_LeastTestSet_l0 N)
def BV_impl_LeastTestSet_l0b {β : Type} (N : Nat) (q_impl_ones : (a0 : Int) → (k : Int → Option β) → Option β) (q_impl_Table_tests : (a0 : Int) → (a1 : Int) → (a2 : Int) → (k : Bool → Option β) → Option β)  (v0 : Int) (v1 : Int) (v2 : Int) (v3 : Int) (v4 : Int) (rec_ : Int → Int → Int → Int → Int → Option β) (k0 : Int → Option β) : Option β :=
(cond ((decide (v2 < v1)))
(q_impl_ones v2 fun r6 =>
q_impl_ones v0 fun r7 =>
(cond ((decide (r6 < r7)))
(q_impl_Table_tests v3 v4 v2 fun r8 =>
(cond r8
(rec_ v2 v1 ((w64 (v2 + 1))) v3 v4)
(rec_ v0 v1 ((w64 (v2 + 1))) v3 v4)))
(rec_ v0 v1 ((w64 (v2 + 1))) v3 v4)))
(k0 v0))
theorem t_impl_LeastTestSet_l0b {β : Type} (N : Nat)  (v0 : Int) (v1 : Int) (v2 : Int) (v3 : Int) (v4 : Int) (rec_ : Int → Int → Int → Int → Int → Option β) (k0 : Int → Option β) : impl_LeastTestSet_l0b N v0 v1 v2 v3 v4 rec_ k0 = BV_impl_LeastTestSet_l0b N (impl_ones N) (impl_Table_tests N) v0 v1 v2 v3 v4 rec_ k0 := by
  unfold impl_LeastTestSet_l0b BV_impl_LeastTestSet_l0b
  rfl
theorem vst33_0_0 {β : Type} (N : Nat) (q_impl_isSmall : (a0 : Int) → (a1 : Int) → (a2 : Int) → (k : Bool → Option β) → Option β) (q_impl_Table_size : (a0 : Int) → (a1 : Int) → (k : Int → Option β) → Option β) (q_impl_ones : (a0 : Int) → (k : Int → Option β) → Option β) (q_impl_Table_tests : (a0 : Int) → (a1 : Int) → (a2 : Int) → (k : Bool → Option β) → Option β) (q_impl_elements : (a0 : Int) → (k : List Int → Option β) → Option β) (q_impl_LeastTestSet_l0 : Nat → Int → Int → Int → Int → Int → (Int → Option β) → Option β)  (v0 : Int) (v1 : Int) (v2 : Int) (v3 : Int) (v4 : Int) (rec_ : St → Option β) (K : Exit → St → Option β) :
    ev lay (VE33 N q_impl_isSmall q_impl_Table_size q_impl_ones q_impl_Table_tests q_impl_elements q_impl_LeastTestSet_l0) (retMask Try.f33) (lp Try.f33 0).body (lp Try.f33 0).ex ((lp Try.f33 0).lv (retMask Try.f33)) (h33_0_0  v0 v1 v2 v3 v4) (nextR (fun s' => rec_ (s'.tidy ((lp Try.f33 0).lv (retMask Try.f33)))) K) = BV_impl_LeastTestSet_l0b N q_impl_ones q_impl_Table_tests  v0 v1 v2 v3 v4 (fun v0 v1 v2 v3 v4 => rec_ (h33_0_0  v0 v1 v2 v3 v4)) (fun y0 => K (.exit 0) (x33_0_0_k0  y0)) := by kernel_rfl
theorem st33_0_0 {β : Type} (N : Nat)  (v0 : Int) (v1 : Int) (v2 : Int) (v3 : Int) (v4 : Int) (rec_ : St → Option β) (K : Exit → St → Option β) :
    ev lay (E33 N) (retMask Try.f33) (lp Try.f33 0).body (lp Try.f33 0).ex ((lp Try.f33 0).lv (retMask Try.f33)) (h33_0_0  v0 v1 v2 v3 v4) (nextR (fun s' => rec_ (s'.tidy ((lp Try.f33 0).lv (retMask Try.f33)))) K) = impl_LeastTestSet_l0b N  v0 v1 v2 v3 v4 (fun v0 v1 v2 v3 v4 => rec_ (h33_0_0  v0 v1 v2 v3 v4)) (fun y0 => K (.exit 0) (x33_0_0_k0  y0)) := (vst33_0_0 N (impl_isSmall N) (impl_Table_size N) (impl_ones N) (impl_Table_tests N) (impl_elements N) (impl_LeastTestSet_l0 N) v0 v1 v2 v3 v4 rec_ K).trans (t_impl_LeastTestSet_l0b N  v0 v1 v2 v3 v4 (fun v0 v1 v2 v3 v4 => rec_ (h33_0_0  v0 v1 v2 v3 v4)) (fun y0 => K (.exit 0) (x33_0_0_k0  y0))).symm
theorem ro33_0_0 {β : Type} (N : Nat)  (K : Exit → St → Option β) : ∀ (F : Nat) (v0 : Int) (v1 : Int) (v2 : Int) (v3 : Int) (v4 : Int), (lp Try.f33 0).rounds lay (E33 N) (retMask Try.f33) F (h33_0_0  v0 v1 v2 v3 v4) K = impl_LeastTestSet_l0 N  F v0 v1 v2 v3 v4 (fun y0 => K (.exit 0) (x33_0_0_k0  y0)) := by
  intro F
  induction F with
  | zero => intros; rfl
  | succ F ih =>
    intros
    rw [rounds_next]
    refine (st33_0_0 N  _ _ _ _ _ (fun s => (lp Try.f33 0).rounds lay (E33 N) (retMask Try.f33) F s K) K).trans ?_
    simp only [ih]
    rfl
theorem lk33_0 {β : Type} (N : Nat) : lookL (E33 (β := β) N).loops (lp Try.f33 0).id = LS33_0 N := by kernel_rfl
theorem rk33_0 {β : Type} (N : Nat) : RoundsOK lay (E33 (β := β) N) (retMask Try.f33) (lp Try.f33 0) := by
  intro s K r h
  rw [lk33_0] at h
  unfold LS33_0 VLS33_0 at h
  cases hb : shpSt (h33_0_0 0 0 0 0 0) s with
  | true =>
    rw [hb, cond_true] at h
    exact ⟨N, by rw [← shpSt_ref hb, fl33_0_0 s]; exact (ro33_0_0 N  K N (intS (oneA (vT (nx tund s.tmps 4)))) (intS (oneA (vT (nx tund s.tmps 13)))) (intS (oneA (vT (nx tund s.tmps 14)))) (intS (nx .und (cellsB (nx .dead s.blks 0)) 0)) (intS (nx .und (cellsB (nx .dead s.blks 0)) 1))).trans h⟩
  | false =>
  rw [hb, cond_false] at h
  clear hb
  cases h
def BV_impl_LeastTestSet {β : Type} (N : Nat) (q_impl_isSmall : (a0 : Int) → (a1 : Int) → (a2 : Int) → (k : Bool → Option β) → Option β) (q_impl_Table_size : (a0 : Int) → (a1 : Int) → (k : Int → Option β) → Option β) (q_impl_LeastTestSet_l0 : Nat → Int → Int → Int → Int → Int → (Int → Option β) → Option β) (q_impl_elements : (a0 : Int) → (k : List Int → Option β) → Option β) (a0 : Int) (a1 : Int) (k : List Int → Bool → Option β) : Option β :=
q_impl_isSmall a0 a1 3 fun r4 =>
(cond (!r4)
(k (([] : List Int)) false)
(q_impl_Table_size a0 a1 fun r5 =>
(gd ((decide (0 ≤ r5)))
(q_impl_LeastTestSet_l0  N ((w64 ((shlI .i64 1 r5) - 1))) ((w64 ((shlI .i64 1 r5) - 1))) 0 a0 a1 (fun e9_0 =>
q_impl_elements e9_0 fun r10 =>
k r10 true)))))
theorem t_impl_LeastTestSet {β : Type} (N : Nat) (a0 : Int) (a1 : Int) (k : List Int → Bool → Option β) : impl_LeastTestSet N a0 a1 k = BV_impl_LeastTestSet N (impl_isSmall N) (impl_Table_size N) (impl_LeastTestSet_l0 N) (impl_elements N) a0 a1 k := by
  unfold impl_LeastTestSet BV_impl_LeastTestSet
  rfl
theorem ve33_0 {β : Type} (N : Nat) (q_impl_isSmall : (a0 : Int) → (a1 : Int) → (a2 : Int) → (k : Bool → Option β) → Option β) (q_impl_Table_size : (a0 : Int) → (a1 : Int) → (k : Int → Option β) → Option β) (q_impl_ones : (a0 : Int) → (k : Int → Option β) → Option β) (q_impl_Table_tests : (a0 : Int) → (a1 : Int) → (a2 : Int) → (k : Bool → Option β) → Option β) (q_impl_elements : (a0 : Int) → (k : List Int → Option β) → Option β) (q_impl_LeastTestSet_l0 : Nat → Int → Int → Int → Int → Int → (Int → Option β) → Option β)  (a0 : Int) (a1 : Int) (K : TV → Option β) : evFn lay (VE33 N q_impl_isSmall q_impl_Table_size q_impl_ones q_impl_Table_tests q_impl_elements q_impl_LeastTestSet_l0) Try.f33 [.v (.agg [.int .i64 a0, .int .i64 a1])] K = BV_impl_LeastTestSet N q_impl_isSmall q_impl_Table_size q_impl_LeastTestSet_l0 q_impl_elements a0 a1 (fun z2 z3 => K (.tup [.one (.sl 3 (.ints .i64 z2)), .one (.bool z3)])) := by kernel_rfl
theorem e33_0 {β : Type} (N : Nat)  (a0 : Int) (a1 : Int) (K : TV → Option β) : evFn lay (E33 N) Try.f33 [.v (.agg [.int .i64 a0, .int .i64 a1])] K = impl_LeastTestSet N a0 a1 (fun z2 z3 => K (.tup [.one (.sl 3 (.ints .i64 z2)), .one (.bool z3)])) := (ve33_0 N (impl_isSmall N) (impl_Table_size N) (impl_ones N) (impl_Table_tests N) (impl_elements N) (impl_LeastTestSet_l0 N) a0 a1 K).trans (t_impl_LeastTestSet N a0 a1 (fun z2 z3 => K (.tup [.one (.sl 3 (.ints .i64 z2)), .one (.bool z3)]))).symm
theorem o33 {β : Type} (N : Nat) : SpecOK (β := β) Try.prog 33 (S33 N) := by
  refine spec_of lay_ok mixed (E := E33 N) (specs_loops (specs_cons (o81 N) (specs_cons (o82 N) (specs_cons (o64 N) (specs_cons (o83 N) (specs_cons (o76 N) specs_nil)))))) muts_nil gs_nil Try.func33 (by kernel_rfl) 1 (by kernel_rfl) ⟨trivial, rk33_0 N⟩ fun args K r h => ?_
  unfold S33 VS33 at h
  split at h
  · exact (e33_0 N _ _ _).trans h
  · cases h
def VS85 {β : Type} (N : Nat) (q_spec_l29Shows : (a0 : Int) → (a1 : Int) → (a2 : Int) → (k : Bool → Option β) → Option β) : Rv.Spec β := fun args K => match args with
  | [.v (.agg [.int .i64 a0, .int .i64 a1]), .v (.one (.int .i64 a2))] => q_spec_l29Shows a0 a1 a2 (fun z3 => K (.v (.one (.bool z3))))
  | _ => none
def S85 {β : Type} (N : Nat) : Rv.Spec β := VS85 N (spec_l29Shows N)
def h85_0_0  (v0 : Int) (v1 : Int) (v2 : Int) (v3 : Int) : St := ⟨.v (.one .und) :: .v (.one (.int .i64 v0)) :: .v (.one (.ptr 0 0)) :: .v (.one .und) :: .v (.one .und) :: .v (.one (.int .i64 v1)) :: .v (.one .und) :: .v (.one .und) :: .v (.one .und) :: .v (.one .und) :: .v (.one .und) :: .v (.one .und) :: .v (.one .und) :: .v (.one .und) :: .v (.one .und) :: .v (.one .und) :: .v (.one .und) :: .v (.one .und) :: .v (.one .und) :: .v (.one .und) :: .v (.one .und) :: .v (.one .und) :: .v (.one .und) :: .v (.one .und) :: .v (.one .und) :: .v (.one .und) :: .v (.one .und) :: .v (.one .und) :: .v (.one .und) :: .v (.one .und) :: .v (.one .und) :: .v (.one .und) :: .v (.one .und) :: .v (.one .und) :: [], [.cells 25 [.int .i64 v2, .int .i64 v3]]⟩
def x85_0_0_k0  (y0 : Bool) : St := ⟨.v (.one .und) :: .v (.one .und) :: .v (.one .und) :: .v (.one .und) :: .v (.one (.bool y0)) :: .v (.one .und) :: .v (.one .und) :: .v (.one .und) :: .v (.one .und) :: .v (.one .und) :: .v (.one .und) :: .v (.one .und) :: .v (.one .und) :: .v (.one .und) :: .v (.one .und) :: .v (.one .und) :: .v (.one .und) :: .v (.one .und) :: .v (.one .und) :: .v (.one .und) :: .v (.one .und) :: .v (.one .und) :: .v (.one .und) :: .v (.one .und) :: .v (.one .und) :: .v (.one .und) :: .v (.one .und) :: .v (.one .und) :: .v (.one .und) :: .v (.one .und) :: .v (.one .und) :: .v (.one .und) :: .v (.one .und) :: .v (.one .und) :: [], []⟩
def x85_0_0_k1   : St := ⟨.v (.one .und) :: .v (.one .und) :: .v (.one .und) :: .v (.one .und) :: .v (.one .und) :: .v (.one .und) :: .v (.one .und) :: .v (.one .und) :: .v (.one .und) :: .v (.one .und) :: .v (.one .und) :: .v (.one .und) :: .v (.one .und) :: .v (.one .und) :: .v (.one .und) :: .v (.one .und) :: .v (.one .und) :: .v (.one .und) :: .v (.one .und) :: .v (.one .und) :: .v (.one .und) :: .v (.one .und) :: .v (.one .und) :: .v (.one .und) :: .v (.one .und) :: .v (.one .und) :: .v (.one .und) :: .v (.one .und) :: .v (.one .und) :: .v (.one .und) :: .v (.one .und) :: .v (.one .und) :: .v (.one .und) :: .v (.one .und) :: [], []⟩
def h85_1_0  (v0 : Int) (v1 : Int) (v2 : Int) (v3 : Int) (v4 : Int) : St := ⟨.v (.one .und) :: .v (.one (.int .i64 v0)) :: .v (.one (.ptr 0 0)) :: .v (.one .und) :: .v (.one .und) :: .v (.one (.int .i64 v1)) :: .v (.one (.int .i64 v2)) :: .v (.one .und) :: .v (.one .und) :: .v (.one .und) :: .v (.one .und) :: .v (.one .und) :: .v (.one .und) :: .v (.one .und) :: .v (.one .und) :: .v (.one .und) :: .v (.one .und) :: .v (.one .und) :: .v (.one .und) :: .v (.one .und) :: .v (.one .und) :: .v (.one .und) :: .v (.one .und) :: .v (.one .und) :: .v (.one .und) :: .v (.one .und) :: .v (.one .und) :: .v (.one .und) :: .v (.one .und) :: .v (.one .und) :: .v (.one .und) :: .v (.one .und) :: .v (.one .und) :: .v (.one .und) :: [], [.cells 25 [.int .i64 v3, .int .i64 v4]]⟩
def x85_1_0_k0  (y0 : Bool) : St := ⟨.v (.one .und) :: .v (.one .und) :: .v (.one .und) :: .v (.one .und) :: .v (.one (.bool y0)) :: .v (.one .und) :: .v (.one .und) :: .v (.one .und) :: .v (.one .und) :: .v (.one .und) :: .v (.one .und) :: .v (.one .und) :: .v (.one .und) :: .v (.one .und) :: .v (.one .und) :: .v (.one .und) :: .v (.one .und) :: .v (.one .und) :: .v (.one .und) :: .v (.one .und) :: .v (.one .und) :: .v (.one .und) :: .v (.one .und) :: .v (.one .und) :: .v (.one .und) :: .v (.one .und) :: .v (.one .und) :: .v (.one .und) :: .v (.one .und) :: .v (.one .und) :: .v (.one .und) :: .v (.one .und) :: .v (.one .und) :: .v (.one .und) :: [], []⟩
def x85_1_0_k1  (y0 : Int) (y1 : Int) (y2 : Int) (y3 : Int) : St := ⟨.v (.one .und) :: .v (.one (.int .i64 y0)) :: .v (.one (.ptr 0 0)) :: .v (.one .und) :: .v (.one .und) :: .v (.one (.int .i64 y1)) :: .v (.one .und) :: .v (.one .und) :: .v (.one .und) :: .v (.one .und) :: .v (.one .und) :: .v (.one .und) :: .v (.one .und) :: .v (.one .und) :: .v (.one .und) :: .v (.one .und) :: .v (.one .und) :: .v (.one .und) :: .v (.one .und) :: .v (.one .und) :: .v (.one .und) :: .v (.one .und) :: .v (.one .und) :: .v (.one .und) :: .v (.one .und) :: .v (.one .und) :: .v (.one .und) :: .v (.one .und) :: .v (.one .und) :: .v (.one .und) :: .v (.one .und) :: .v (.one .und) :: .v (.one .und) :: .v (.one .und) :: [], [.cells 25 [.int .i64 y2, .int .i64 y3]]⟩
theorem fl85_0_0 (s : St) : refSt (h85_0_0 0 0 0 0) s = h85_0_0 (intS (oneA (vT (nx tund s.tmps 1)))) (intS (oneA (vT (nx tund s.tmps 5)))) (intS (nx .und (cellsB (nx .dead s.blks 0)) 0)) (intS (nx .und (cellsB (nx .dead s.blks 0)) 1)) := by kernel_rfl
def VLS85_0 {β : Type} (N : Nat) (q_spec_l29Shows_l0 : Nat → Int → Int → Int → Int → (Bool → Option β) → (Option β) → Option β) : LSpec β := fun s K => cond (shpSt (h85_0_0 0 0 0 0) s) ((fun (v0 : Int) (v1 : Int) (v2 : Int) (v3 : Int) => q_spec_l29Shows_l0  N v0 v1 v2 v3 (fun y0 => K .ret (x85_0_0_k0  y0)) (K (.exit 0) (x85_0_0_k1  ))) (intS (oneA (vT (nx tund s.tmps 1)))) (intS (oneA (vT (nx tund s.tmps 5)))) (intS (nx .und (cellsB (nx .dead s.blks 0)) 0)) (intS (nx .und (cellsB (nx .dead s.blks 0)) 1))) (none)
def LS85_0 {β : Type} (N : Nat) : LSpec β := VLS85_0 N (spec_l29Shows_l0 N)
theorem fl85_1_0 (s : St) : refSt (h85_1_0 0 0 0 0 0) s = h85_1_0 (intS (oneA (vT (nx tund s.tmps 1)))) (intS (oneA (vT (nx tund s.tmps 5)))) (intS (oneA (vT (nx tund s.tmps 6)))) (intS (nx .und (cellsB (nx .dead s.blks 0)) 0)) (intS (nx .und (cellsB (nx .dead s.blks 0)) 1)) := by kernel_rfl
def VLS85_2 {β : Type} (N : Nat) (q_spec_l29Shows_l2 : Nat → Int → Int → Int → Int → Int → (Bool → Option β) → (Int → Int → Int → Int → Option β) → Option β) : LSpec β := fun s K => cond (shpSt (h85_1_0 0 0 0 0 0) s) ((fun (v0 : Int) (v1 : Int) (v2 : Int) (v3 : Int) (v4 : Int) => q_spec_l29Shows_l2  N v0 v1 v2 v3 v4 (fun y0 => K .ret (x85_1_0_k0  y0)) (fun y0 y1 y2 y3 => K (.exit 2) (x85_1_0_k1  y0 y1 y2 y3))) (intS (oneA (vT (nx tund s.tmps 1)))) (intS (oneA (vT (nx tund s.tmps 5)))) (intS (oneA (vT (nx tund s.tmps 6)))) (intS (nx .und (cellsB (nx .dead s.blks 0)) 0)) (intS (nx .und (cellsB (nx .dead s.blks 0)) 1))) (none)
def LS85_2 {β : Type} (N : Nat) : LSpec β := VLS85_2 N (spec_l29Shows_l2 N)
def VE85 {β : Type} (N : Nat) (q_spec_l29Stuck : (a0 : Int) → (a1 : Int) → (a2 : Int) → (a3 : Int) → (k : Int → Int → Option β) → Option β) (q_spec_l29Shows_l0 : Nat → Int → Int → Int → Int → (Bool → Option β) → (Option β) → Option β) (q_spec_l29Shows_l2 : Nat → Int → Int → Int → Int → Int → (Bool → Option β) → (Int → Int → Int → Int → Option β) → Option β) : Env β := ⟨[(90, VS90 N q_spec_l29Stuck)], [], [(0, VLS85_0 N q_spec_l29Shows_l0), (2, VLS85_2 N q_spec_l29Shows_l2)], []⟩
def E85 {β : Type} (N : Nat) : Env β := VE85 N (spec_l29Stuck N) (spec_l29Shows_l0 N) (spec_l29Shows_l2 N)
def BV_spec_l29Shows_l0b {β : Type} (N : Nat) (q_spec_l29Shows_l2 : Nat → Int → Int → Int → Int → Int → (Bool → Option β) → (Int → Int → Int → Int → Option β) → Option β)  (v0 : Int) (v1 : Int) (v2 : Int) (v3 : Int) (rec_ : Int → Int → Int → Int → Option β) (k0 : Bool → Option β) (k1 : Option β) : Option β :=
(cond ((decide (v1 < v2)))
(q_spec_l29Shows_l2  N v0 v1 0 v2 v3 (fun e6_0 =>
k0 e6_0) (fun e7_0 e7_1 e7_2 e7_3 =>
rec_ e7_0 ((w64 (e7_1 + 1))) e7_2 e7_3))
(k1 ))
theorem t_spec_l29Shows_l0b {β : Type} (N : Nat)  (v0 : Int) (v1 : Int) (v2 : Int) (v3 : Int) (rec_ : Int → Int → Int → Int → Option β) (k0 : Bool → Option β) (k1 : Option β) : spec_l29Shows_l0b N v0 v1 v2 v3 rec_ k0 k1 = BV_spec_l29Shows_l0b N (spec_l29Shows_l2 N) v0 v1 v2 v3 rec_ k0 k1 := by
  unfold spec_l29Shows_l0b BV_spec_l29Shows_l0b
  rfl
theorem vst85_0_0 {β : Type} (N : Nat) (q_spec_l29Stuck : (a0 : Int) → (a1 : Int) → (a2 : Int) → (a3 : Int) → (k : Int → Int → Option β) → Option β) (q_spec_l29Shows_l0 : Nat → Int → Int → Int → Int → (Bool → Option β) → (Option β) → Option β) (q_spec_l29Shows_l2 : Nat → Int → Int → Int → Int → Int → (Bool → Option β) → (Int → Int → Int → Int → Option β) → Option β)  (v0 : Int) (v1 : Int) (v2 : Int) (v3 : Int) (rec_ : St → Option β) (K : Exit → St → Option β) :
    ev lay (VE85 N q_spec_l29Stuck q_spec_l29Shows_l0 q_spec_l29Shows_l2) (retMask Try.f85) (lp Try.f85 0).body (lp Try.f85 0).ex ((lp Try.f85 0).lv (retMask Try.f85)) (h85_0_0  v0 v1 v2 v3) (nextR (fun s' => rec_ (s'.tidy ((lp Try.f85 0).lv (retMask Try.f85)))) K) = BV_spec_l29Shows_l0b N q_spec_l29Shows_l2  v0 v1 v2 v3 (fun v0 v1 v2 v3 => rec_ (h85_0_0  v0 v1 v2 v3)) (fun y0 => K .ret (x85_0_0_k0  y0)) (K (.exit 0) (x85_0_0_k1  )) := by kernel_rfl
theorem st85_0_0 {β : Type} (N : Nat)  (v0 : Int) (v1 : Int) (v2 : Int) (v3 : Int) (rec_ : St → Option β) (K : Exit → St → Option β) :
    ev lay (E85 N) (retMask Try.f85) (lp Try.f85 0).body (lp Try.f85 0).ex ((lp Try.f85 0).lv (retMask Try.f85)) (h85_0_0  v0 v1 v2 v3) (nextR (fun s' => rec_ (s'.tidy ((lp Try.f85 0).lv (retMask Try.f85)))) K) = spec_l29Shows_l0b N  v0 v1 v2 v3 (fun v0 v1 v2 v3 => rec_ (h85_0_0  v0 v1 v2 v3)) (fun y0 => K .ret (x85_0_0_k0  y0)) (K (.exit 0) (x85_0_0_k1  )) := (vst85_0_0 N (spec_l29Stuck N) (spec_l29Shows_l0 N) (spec_l29Shows_l2 N) v0 v1 v2 v3 rec_ K).trans (t_spec_l29Shows_l0b N  v0 v1 v2 v3 (fun v0 v1 v2 v3 => rec_ (h85_0_0  v0 v1 v2 v3)) (fun y0 => K .ret (x85_0_0_k0  y0)) (K (.exit 0) (x85_0_0_k1  ))).symm
theorem ro85_0_0 {β : Type} (N : Nat)  (K : Exit → St → Option β) : ∀ (F : Nat) (v0 : Int) (v1 : Int) (v2 : Int) (v3 : Int), (lp Try.f85 0).rounds lay (E85 N) (retMask Try.f85) F (h85_0_0  v0 v1 v2 v3) K = spec_l29Shows_l0 N  F v0 v1 v2 v3 (fun y0 => K .ret (x85_0_0_k0  y0)) (K (.exit 0) (x85_0_0_k1  )) := by
  intro F
  induction F with
  | zero => intros; rfl
  | succ F ih =>
    intros
    rw [rounds_next]
    refine (st85_0_0 N  _ _ _ _ (fun s => (lp Try.f85 0).rounds lay (E85 N) (retMask Try.f85) F s K) K).trans ?_
    simp only [ih]
    rfl
theorem lk85_0 {β : Type} (N : Nat) : lookL (E85 (β := β) N).loops (lp Try.f85 0).id = LS85_0 N := by kernel_rfl
theorem rk85_0 {β : Type} (N : Nat) : RoundsOK lay (E85 (β := β) N) (retMask Try.f85) (lp Try.f85 0) := by
  intro s K r h
  rw [lk85_0] at h
  unfold LS85_0 VLS85_0 at h
  cases hb : shpSt (h85_0_0 0 0 0 0) s with
  | true =>
    rw [hb, cond_true] at h
    exact ⟨N, by rw [← shpSt_ref hb, fl85_0_0 s]; exact (ro85_0_0 N  K N (intS (oneA (vT (nx tund s.tmps 1)))) (intS (oneA (vT (nx tund s.tmps 5)))) (intS (nx .und (cellsB (nx .dead s.blks 0)) 0)) (intS (nx .und (cellsB (nx .dead s.blks 0)) 1))).trans h⟩
  | false =>
  rw [hb, cond_false] at h
  clear hb
  cases h
def BV_spec_l29Shows_l2b {β : Type} (N : Nat) (q_spec_l29Stuck : (a0 : Int) → (a1 : Int) → (a2 : Int) → (a3 : Int) → (k : Int → Int → Option β) → Option β)  (v0 : Int) (v1 : Int) (v2 : Int) (v3 : Int) (v4 : Int) (rec_ : Int → Int → Int → Int → Int → Option β) (k0 : Bool → Option β) (k1 : Int → Int → Int → Int → Option β) : Option β :=
(cond ((decide (v2 < 2)))
(q_spec_l29Stuck v3 v4 v1 v2 fun r4 r5 =>
(cond (((bits .xor .i64 v4 r5) != 0))
((cond (((bits .and .i64 (bits .xor .i64 v4 r5) v0) == 0))
(k0 false)
(rec_ v0 v1 ((w64 (v2 + 1))) v3 v4)))
(rec_ v0 v1 ((w64 (v2 + 1))) v3 v4)))
(k1 v0 v1 v3 v4))
theorem t_spec_l29Shows_l2b {β : Type} (N : Nat)  (v0 : Int) (v1 : Int) (v2 : Int) (v3 : Int) (v4 : Int) (rec_ : Int → Int → Int → Int → Int → Option β) (k0 : Bool → Option β) (k1 : Int → Int → Int → Int → Option β) : spec_l29Shows_l2b N v0 v1 v2 v3 v4 rec_ k0 k1 = BV_spec_l29Shows_l2b N (spec_l29Stuck N) v0 v1 v2 v3 v4 rec_ k0 k1 := by
  unfold spec_l29Shows_l2b BV_spec_l29Shows_l2b
  rfl
theorem vst85_1_0 {β : Type} (N : Nat) (q_spec_l29Stuck : (a0 : Int) → (a1 : Int) → (a2 : Int) → (a3 : Int) → (k : Int → Int → Option β) → Option β) (q_spec_l29Shows_l0 : Nat → Int → Int → Int → Int → (Bool → Option β) → (Option β) → Option β) (q_spec_l29Shows_l2 : Nat → Int → Int → Int → Int → Int → (Bool → Option β) → (Int → Int → Int → Int → Option β) → Option β)  (v0 : Int) (v1 : Int) (v2 : Int) (v3 : Int) (v4 : Int) (rec_ : St → Option β) (K : Exit → St → Option β) :
    ev lay (VE85 N q_spec_l29Stuck q_spec_l29Shows_l0 q_spec_l29Shows_l2) (retMask Try.f85) (lp Try.f85 1).body (lp Try.f85 1).ex ((lp Try.f85 1).lv (retMask Try.f85)) (h85_1_0  v0 v1 v2 v3 v4) (nextR (fun s' => rec_ (s'.tidy ((lp Try.f85 1).lv (retMask Try.f85)))) K) = BV_spec_l29Shows_l2b N q_spec_l29Stuck  v0 v1 v2 v3 v4 (fun v0 v1 v2 v3 v4 => rec_ (h85_1_0  v0 v1 v2 v3 v4)) (fun y0 => K .ret (x85_1_0_k0  y0)) (fun y0 y1 y2 y3 => K (.exit 2) (x85_1_0_k1  y0 y1 y2 y3)) := by kernel_rfl
theorem st85_1_0 {β : Type} (N : Nat)  (v0 : Int) (v1 : Int) (v2 : Int) (v3 : Int) (v4 : Int) (rec_ : St → Option β) (K : Exit → St → Option β) :
    ev lay (E85 N) (retMask Try.f85) (lp Try.f85 1).body (lp Try.f85 1).ex ((lp Try.f85 1).lv (retMask Try.f85)) (h85_1_0  v0 v1 v2 v3 v4) (nextR (fun s' => rec_ (s'.tidy ((lp Try.f85 1).lv (retMask Try.f85)))) K) = spec_l29Shows_l2b N  v0 v1 v2 v3 v4 (fun v0 v1 v2 v3 v4 => rec_ (h85_1_0  v0 v1 v2 v3 v4)) (fun y0 => K .ret (x85_1_0_k0  y0)) (fun y0 y1 y2 y3 => K (.exit 2) (x85_1_0_k1  y0 y1 y2 y3)) := (vst85_1_0 N (spec_l29Stuck N) (spec_l29Shows_l0 N) (spec_l29Shows_l2 N) v0 v1 v2 v3 v4 rec_ K).trans (t_spec_l29Shows_l2b N  v0 v1 v2 v3 v4 (fun v0 v1 v2 v3 v4 => rec_ (h85_1_0  v0 v1 v2 v3 v4)) (fun y0 => K .ret (x85_1_0_k0  y0)) (fun y0 y1 y2 y3 => K (.exit 2) (x85_1_0_k1  y0 y1 y2 y3))).symm
theorem ro85_1_0 {β : Type} (N : Nat)  (K : Exit → St → Option β) : ∀ (F : Nat) (v0 : Int) (v1 : Int) (v2 : Int) (v3 : Int) (v4 : Int), (lp Try.f85 1).rounds lay (E85 N) (retMask Try.f85) F (h85_1_0  v0 v1 v2 v3 v4) K = spec_l29Shows_l2 N  F v0 v1 v2 v3 v4 (fun y0 => K .ret (x85_1_0_k0  y0)) (fun y0 y1 y2 y3 => K (.exit 2) (x85_1_0_k1  y0 y1 y2 y3)) := by
  intro F
  induction F with
  | zero => intros; rfl
  | succ F ih =>
    intros
    rw [rounds_next]
    refine (st85_1_0 N  _ _ _ _ _ (fun s => (lp Try.f85 1).rounds lay (E85 N) (retMask Try.f85) F s K) K).trans ?_
    simp only [ih]
    rfl
theorem lk85_2 {β : Type} (N : Nat) : lookL (E85 (β := β) N).loops (lp Try.f85 1).id = LS85_2 N := by kernel_rfl
theorem rk85_2 {β : Type} (N : Nat) : RoundsOK lay (E85 (β := β) N) (retMask Try.f85) (lp Try.f85 1) := by
  intro s K r h
  rw [lk85_2] at h
  unfold LS85_2 VLS85_2 at h
  cases hb : shpSt (h85_1_0 0 0 0 0 0) s with
  | true =>
    rw [hb, cond_true] at h
    exact ⟨N, by rw [← shpSt_ref hb, fl85_1_0 s]; exact (ro85_1_0 N  K N (intS (oneA (vT (nx tund s.tmps 1)))) (intS (oneA (vT (nx tund s.tmps 5)))) (intS (oneA (vT (nx tund s.tmps 6)))) (intS (nx .und (cellsB (nx .dead s.blks 0)) 0)) (intS (nx .und (cellsB (nx .dead s.blks 0)) 1))).trans h⟩
  | false =>
  rw [hb, cond_false] at h
  clear hb
  cases h
def BV_spec_l29Shows {β : Type} (N : Nat) (q_spec_l29Shows_l0 : Nat → Int → Int → Int → Int → (Bool → Option β) → (Option β) → Option β) (a0 : Int) (a1 : Int) (a2 : Int) (k : Bool → Option β) : Option β :=
q_spec_l29Shows_l0  N a2 0 a0 a1 (fun e8_0 =>
k e8_0) (k true)
theorem t_spec_l29Shows {β : Type} (N : Nat) (a0 : Int) (a1 : Int) (a2 : Int) (k : Bool → Option β) : spec_l29Shows N a0 a1 a2 k = BV_spec_l29Shows N (spec_l29Shows_l0 N) a0 a1 a2 k := by
  unfold spec_l29Shows BV_spec_l29Shows
  rfl
theorem ve85_0 {β : Type} (N : Nat) (q_spec_l29Stuck : (a0 : Int) → (a1 : Int) → (a2 : Int) → (a3 : Int) → (k : Int → Int → Option β) → Option β) (q_spec_l29Shows_l0 : Nat → Int → Int → Int → Int → (Bool → Option β) → (Option β) → Option β) (q_spec_l29Shows_l2 : Nat → Int → Int → Int → Int → Int → (Bool → Option β) → (Int → Int → Int → Int → Option β) → Option β)  (a0 : Int) (a1 : Int) (a2 : Int) (K : TV → Option β) : evFn lay (VE85 N q_spec_l29Stuck q_spec_l29Shows_l0 q_spec_l29Shows_l2) Try.f85 [.v (.agg [.int .i64 a0, .int .i64 a1]), .v (.one (.int .i64 a2))] K = BV_spec_l29Shows N q_spec_l29Shows_l0 a0 a1 a2 (fun z3 => K (.v (.one (.bool z3)))) := by kernel_rfl
theorem e85_0 {β : Type} (N : Nat)  (a0 : Int) (a1 : Int) (a2 : Int) (K : TV → Option β) : evFn lay (E85 N) Try.f85 [.v (.agg [.int .i64 a0, .int .i64 a1]), .v (.one (.int .i64 a2))] K = spec_l29Shows N a0 a1 a2 (fun z3 => K (.v (.one (.bool z3)))) := (ve85_0 N (spec_l29Stuck N) (spec_l29Shows_l0 N) (spec_l29Shows_l2 N) a0 a1 a2 K).trans (t_spec_l29Shows N a0 a1 a2 (fun z3 => K (.v (.one (.bool z3))))).symm
theorem o85 {β : Type} (N : Nat) : SpecOK (β := β) Try.prog 85 (S85 N) := by
  refine spec_of lay_ok mixed (E := E85 N) (specs_loops (specs_cons (o90 N) specs_nil)) muts_nil gs_nil Try.func85 (by kernel_rfl) 2 (by kernel_rfl) ⟨⟨trivial, rk85_0 N⟩, rk85_2 N⟩ fun args K r h => ?_
  unfold S85 VS85 at h
  split at h
  · exact (e85_0 N _ _ _ _).trans h
  · cases h
end Go.Proofs.Ytdkjnadhgdneaaa
