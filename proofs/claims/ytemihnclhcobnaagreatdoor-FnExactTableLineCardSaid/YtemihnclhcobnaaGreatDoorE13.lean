/- The functions that the claims reach answer as their texts do. -/
import Derived.Test.YtemihnclhcobnaaGreatDoorE12
namespace Go.Proofs.YtemihnclhcobnaaGreatDoor
open Go.Rv
set_option maxRecDepth 100000
set_option maxHeartbeats 2000000
set_option linter.unusedVariables false
variable {β : Type}
variable (zq0 : Y0 β) (zq101 : Y8 β) (zq104 : Y2 β) (zq119 : Y6 β) (zq122 : Y8 β) (zq123 : Y29 β) (zq124 : Y12 β) (zq127 : Y14 β) (zq130 : Y16 β) (zq131 : Y1 β) (zq158 : Y0 β) (zq159 : Y29 β) (zq163 : Y2 β) (zq169 : Y2 β) (zq175 : Y2 β) (zq182 : Y2 β) (zq184 : Y2 β) (zq197 : Y2 β) (zq212 : Y2 β) (zq213 : Y86 β) (zq214 : Y87 β) (zq215 : Y88 β) (zq216 : Y8 β) (q_laws_FnExactTableLine : Y2 β)
def VS10 (N : Nat) : Rv.Spec β := fun args K => match args with
  | [.v (.agg [.int .i64 a0, .int .i64 a1])] => zq216 a0 a1 (fun z2 => K (.v (.one (.str z2))))
  | _ => none
def S10 (N : Nat) : Rv.Spec β := VS10 (zj216 N) N
def VE10 (N : Nat) : Env β := ⟨[(37, VS37 zq104 N), (38, VS38 zq119 N), (40, VS40 zq122 N), (42, VS42 zq123 N), (41, VS41 zq124 N), (44, VS44 zq127 N), (43, VS43 zq130 N), (45, VS45 zq131 N), (46, VS46 zq158 N), (47, VS47 zq159 N), (49, VS49 zq163 N), (50, VS50 zq169 N), (51, VS51 zq175 N), (52, VS52 zq182 N), (53, VS53 zq184 N), (54, VS54 zq197 N), (55, VS55 zq212 N)], [], [], [(39, VS39 zq213 N), (48, VS48 zq214 N), (56, VS56 zq215 N)], ⟨[], [], [157], [222]⟩⟩
def E10 (N : Nat) : Env β := VE10 (zj104 N) (zj119 N) (zj122 N) (zj123 N) (zj124 N) (zj127 N) (zj130 N) (zj131 N) (zj158 N) (zj159 N) (zj163 N) (zj169 N) (zj175 N) (zj182 N) (zj184 N) (zj197 N) (zj212 N) (zj213 N) (zj214 N) (zj215 N) N
theorem ve10_0 (N : Nat) (a0 : Int) (a1 : Int) (K : TV → O β) : evFn lay (VE10 zq104 zq119 zq122 zq123 zq124 zq127 zq130 zq131 zq158 zq159 zq163 zq169 zq175 zq182 zq184 zq197 zq212 zq213 zq214 zq215 N) Tryz.f10 [.v (.agg [.int .i64 a0, .int .i64 a1])] K = zb216 zq104 zq119 zq122 zq123 zq124 zq127 zq130 zq131 zq158 zq159 zq163 zq169 zq175 zq182 zq184 zq197 zq212 zq213 zq214 zq215 N a0 a1 (fun z2 => K (.v (.one (.str z2)))) := by kernel_rfl
theorem o10 (N : Nat) : SpecOK (β := β) inv Tryz.prog 10 (S10 N) := by
  refine spec_of lay_ok mixed (E := E10 N) (specs_loops (specs_cons (o37 N) (specs_cons (o38 N) (specs_cons (o40 N) (specs_cons (o42 N) (specs_cons (o41 N) (specs_cons (o44 N) (specs_cons (o43 N) (specs_cons (o45 N) (specs_cons (o46 N) (specs_cons (o47 N) (specs_cons (o49 N) (specs_cons (o50 N) (specs_cons (o51 N) (specs_cons (o52 N) (specs_cons (o53 N) (specs_cons (o54 N) (specs_cons (o55 N) specs_nil)))))))))))))))))) muts_nil (gs_cons (o39 N) (gs_cons (o48 N) (gs_cons (o56 N) gs_nil))) Tryz.func10 (by kernel_rfl) 0 (by kernel_rfl) trivial fun args K r h => ?_
  unfold S10 VS10 at h
  split at h
  · exact (ve10_0 (zj104 N) (zj119 N) (zj122 N) (zj123 N) (zj124 N) (zj127 N) (zj130 N) (zj131 N) (zj158 N) (zj159 N) (zj163 N) (zj169 N) (zj175 N) (zj182 N) (zj184 N) (zj197 N) (zj212 N) (zj213 N) (zj214 N) (zj215 N) N _ _ _).trans h
  · cases h
def VS3 (N : Nat) : Rv.Spec β := fun args K => match args with
  | [.v (.agg [.int .i64 a0, .int .i64 a1])] => q_laws_FnExactTableLine a0 a1 (fun z2 => K (.v (.one (.bool z2))))
  | _ => none
def S3 (N : Nat) : Rv.Spec β := VS3 (laws_FnExactTableLine N) N
def VE3 (N : Nat) : Env β := ⟨[(9, VS9 zq0 N), (8, VS8 zq101 N), (10, VS10 zq216 N)], [], [], [], ⟨[], [], [157], [222]⟩⟩
def E3 (N : Nat) : Env β := VE3 (zj0 N) (zj101 N) (zj216 N) N
theorem ve3_0 (N : Nat) (a0 : Int) (a1 : Int) (K : TV → O β) : evFn lay (VE3 zq0 zq101 zq216 N) Tryz.f3 [.v (.agg [.int .i64 a0, .int .i64 a1])] K = BV_laws_FnExactTableLine zq0 zq101 zq216 N a0 a1 (fun z2 => K (.v (.one (.bool z2)))) := by kernel_rfl
theorem o3 (N : Nat) : SpecOK (β := β) inv Tryz.prog 3 (S3 N) := by
  refine spec_of lay_ok mixed (E := E3 N) (specs_loops (specs_cons (o9 N) (specs_cons (o8 N) (specs_cons (o10 N) specs_nil)))) muts_nil gs_nil Tryz.func3 (by kernel_rfl) 0 (by kernel_rfl) trivial fun args K r h => ?_
  unfold S3 VS3 at h
  split at h
  · exact (ve3_0 (zj0 N) (zj101 N) (zj216 N) N _ _ _).trans h
  · cases h
end Go.Proofs.YtemihnclhcobnaaGreatDoor
