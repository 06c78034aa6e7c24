/- The functions that the claims reach answer as their texts do. -/
import Derived.Test.YtemihnclhcobnaaGreatDoorE9
namespace Go.Proofs.YtemihnclhcobnaaGreatDoor
open Go.Rv
set_option maxRecDepth 100000
set_option maxHeartbeats 2000000
set_option linter.unusedVariables false
variable {β : Type}
variable (zq24 : Y11 β) (zq95 : Y50 β) (zq98 : Y3 β) (zq101 : Y16 β) (zq113 : Y16 β) (zq138 : Y25 β) (zq139 : Y34 β) (zq155 : Y41 β) (zq167 : Y76 β) (zq169 : Y41 β) (zq170 : Y50 β) (q_laws_FnExactWriteAs : Y82 β)
def VS79 (N : Nat) : Rv.Spec β := fun args K => match args with
  | [.v (.agg [.int .i64 a0, .int .i64 a1])] => zq169 a0 a1 (fun z2 z3 => K (.tup [.one (.str z2), .one (.bool z3)]))
  | _ => none
def S79 (N : Nat) : Rv.Spec β := VS79 (zj169 N) N
def VE79 (N : Nat) : Env β := ⟨[(45, VS45 zq98 N), (151, S151 N), (150, VS150 zq167 N)], [], [], [], ⟨[], [], [], []⟩⟩
def E79 (N : Nat) : Env β := VE79 (zj98 N) (zj167 N) N
theorem ve79_0 (N : Nat) (a0 : Int) (a1 : Int) (K : TV → O β) : evFn lay (VE79 zq98 zq167 N) Tryz.f79 [.v (.agg [.int .i64 a0, .int .i64 a1])] K = zb169 zq98 (zq167 N) N a0 a1 (fun z2 z3 => K (.tup [.one (.str z2), .one (.bool z3)])) := by kernel_rfl
theorem o79 (N : Nat) : SpecOK (β := β) inv Tryz.prog 79 (S79 N) := by
  refine spec_of lay_ok mixed (E := E79 N) (specs_loops (specs_cons (o45 N) (specs_cons (o151 N) (specs_cons (o150 N) specs_nil)))) muts_nil gs_nil Tryz.func79 (by kernel_rfl) 0 (by kernel_rfl) trivial fun args K r h => ?_
  unfold S79 VS79 at h
  split at h
  · exact (ve79_0 (zj98 N) (zj167 N) N _ _ _).trans h
  · cases h
def VS15 (N : Nat) : Rv.Spec β := fun args K => match args with
  | [.v (.one (.str a0)), .v (.agg [.int .i64 a1, .int .i64 a2])] => zq170 a0 a1 a2 (fun z3 z4 => K (.tup [.one (.str z3), .one (.bool z4)]))
  | _ => none
def S15 (N : Nat) : Rv.Spec β := VS15 (zj170 N) N
def VE15 (N : Nat) : Env β := ⟨[(45, VS45 zq98 N), (40, VS40 zq101 N), (75, VS75 zq113 N), (77, VS77 zq138 N), (76, VS76 zq139 N), (78, VS78 zq155 N), (79, VS79 zq169 N)], [], [], [], ⟨[], [], [], []⟩⟩
def E15 (N : Nat) : Env β := VE15 (zj98 N) (zj101 N) (zj113 N) (zj138 N) (zj139 N) (zj155 N) (zj169 N) N
theorem ve15_0 (N : Nat) (a0 : ByteArray) (a1 : Int) (a2 : Int) (K : TV → O β) : evFn lay (VE15 zq98 zq101 zq113 zq138 zq139 zq155 zq169 N) Tryz.f15 [.v (.one (.str a0)), .v (.agg [.int .i64 a1, .int .i64 a2])] K = zb170 zq98 zq101 zq113 zq138 zq139 zq155 zq169 N a0 a1 a2 (fun z3 z4 => K (.tup [.one (.str z3), .one (.bool z4)])) := by kernel_rfl
theorem o15 (N : Nat) : SpecOK (β := β) inv Tryz.prog 15 (S15 N) := by
  refine spec_of lay_ok mixed (E := E15 N) (specs_loops (specs_cons (o45 N) (specs_cons (o40 N) (specs_cons (o75 N) (specs_cons (o77 N) (specs_cons (o76 N) (specs_cons (o78 N) (specs_cons (o79 N) specs_nil)))))))) muts_nil gs_nil Tryz.func15 (by kernel_rfl) 0 (by kernel_rfl) trivial fun args K r h => ?_
  unfold S15 VS15 at h
  split at h
  · exact (ve15_0 (zj98 N) (zj101 N) (zj113 N) (zj138 N) (zj139 N) (zj155 N) (zj169 N) N _ _ _ _).trans h
  · cases h
def VS5 (N : Nat) : Rv.Spec β := fun args K => match args with
  | [.v (.one (.str a0)), .v (.agg [.int .i64 a1, .int .i64 a2])] => q_laws_FnExactWriteAs a0 a1 a2 (fun z3 => K (.v (.one (.bool z3))))
  | _ => none
def S5 (N : Nat) : Rv.Spec β := VS5 (laws_FnExactWriteAs N) N
def VE5 (N : Nat) : Env β := ⟨[(9, VS9 zq24 N), (14, VS14 zq95 N), (15, VS15 zq170 N)], [], [], [], ⟨[], [], [], []⟩⟩
def E5 (N : Nat) : Env β := VE5 (zj24 N) (zj95 N) (zj170 N) N
theorem ve5_0 (N : Nat) (a0 : ByteArray) (a1 : Int) (a2 : Int) (K : TV → O β) : evFn lay (VE5 zq24 zq95 zq170 N) Tryz.f5 [.v (.one (.str a0)), .v (.agg [.int .i64 a1, .int .i64 a2])] K = BV_laws_FnExactWriteAs zq24 zq95 zq170 N a0 a1 a2 (fun z3 => K (.v (.one (.bool z3)))) := by kernel_rfl
theorem o5 (N : Nat) : SpecOK (β := β) inv Tryz.prog 5 (S5 N) := by
  refine spec_of lay_ok mixed (E := E5 N) (specs_loops (specs_cons (o9 N) (specs_cons (o14 N) (specs_cons (o15 N) specs_nil)))) muts_nil gs_nil Tryz.func5 (by kernel_rfl) 0 (by kernel_rfl) trivial fun args K r h => ?_
  unfold S5 VS5 at h
  split at h
  · exact (ve5_0 (zj24 N) (zj95 N) (zj170 N) N _ _ _ _).trans h
  · cases h
end Go.Proofs.YtemihnclhcobnaaGreatDoor
