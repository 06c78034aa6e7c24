/- The functions that the claims cZ bz as their texts do. -/
import Derived.Test.YtmhlcbibbhelkaaGreatDoorE14
namespace Go.Proofs.YtmhlcbibbhelkaaGreatDoor
set_option linter.unusedSimpArgs false
open Go.Rv
set_option maxRecDepth 100000
set_option maxHeartbeats 2000000
set_option linter.unusedVariables false
variable {β : Type}
variable (afH : Y81 β) (aeE aeA : Y31 β) (afV : Y52 β) (ael : Y4 β) (af0 : Y56 β) (af1 : Y64 β) (af5 : Y71 β) (aeb : abD β) (agz : Y71 β) (agA : Y80 β) (agB : Y81 β) (q_laws_FnExactConvertText : adb β)
def Vg (N : Nat) : Rv.Spec β := fun args K => match args with
 | [.v (.agg [.int .i64 a0, .int .i64 a1])] => agz a0 a1 (fun z2 z3 => K (.tup [.one (.str z2), .one (.bool z3)]))
 | _ => none
def S36 (N : Nat) : Rv.Spec β := Vg (xy N) N
def aaM (N : Nat) : Env β := ⟨[(30, Ko ael N), (73, S73 N), (72, acZ aeb N)], [], [], [], ⟨[], [], [], []⟩⟩
def E36 (N : Nat) : Env β := aaM (gj N) (c7 N) N
theorem Yw (N : Nat) (a0 a1 : Int) (K : TV → O β) : aL lay (aaM ael aeb N) Tryz.f36 [.v (.agg [.int .i64 a0, .int .i64 a1])] K = O5 ael (aeb N) N a0 a1 (fun z2 z3 => K (.tup [.one (.str z2), .one (.bool z3)])) := by kernel_rfl
theorem o36 (N : Nat) : ao (β := β) inv Tryz.prog 36 (S36 N) := by
 refine ap au mixed (E := E36 N) (ae (aa (o30 N) (aa (o73 N) (aa (o72 N) ag)))) ak av Tryz.func36 (by kernel_rfl) 0 (by kernel_rfl) trivial fun args K r h => ?_
 unfold S36 Vg at h
 split at h
 ·exact (Yw (gj N) (c7 N) N _ _ _).trans h
 ·cases h
def VS9 (N : Nat) : Rv.Spec β := fun args K => match args with
 | [.v (.one (.str a0)), .v (.agg [.int .i64 a1, .int .i64 a2])] => agA a0 a1 a2 (fun z3 z4 => K (.tup [.one (.str z3), .one (.bool z4)]))
 | _ => none
def S9 (N : Nat) : Rv.Spec β := VS9 (xz N) N
def VE9 (N : Nat) : Env β := ⟨[(30, Ko ael N), (31, P7 aeE N), (32, P8 aeA N), (34, Ve af0 N), (33, Vd af1 N), (35, Vf af5 N), (36, Vg agz N)], [], [], [], ⟨[], [], [], []⟩⟩
def E9 (N : Nat) : Env β := VE9 (mj N) (io N) (gj N) (xu N) (xv N) (xx N) (xy N) N
theorem aco (N : Nat) (a0 : ByteArray) (a1 a2 : Int) (K : TV → O β) : aL lay (VE9 aeE aeA ael af0 af1 af5 agz N) Tryz.f9 [.v (.one (.str a0)), .v (.agg [.int .i64 a1, .int .i64 a2])] K = O6 aeE aeA ael af0 af1 af5 agz N a0 a1 a2 (fun z3 z4 => K (.tup [.one (.str z3), .one (.bool z4)])) := by kernel_rfl
theorem o9 (N : Nat) : ao (β := β) inv Tryz.prog 9 (S9 N) := by
 refine ap au mixed (E := E9 N) (ae (aa (o30 N) (aa (o31 N) (aa (o32 N) (aa (o34 N) (aa (o33 N) (aa (o35 N) (aa (o36 N) ag)))))))) ak av Tryz.func9 (by kernel_rfl) 0 (by kernel_rfl) trivial fun args K r h => ?_
 unfold S9 VS9 at h
 split at h
 ·exact (aco (mj N) (io N) (gj N) (xu N) (xv N) (xx N) (xy N) N _ _ _ _).trans h
 ·cases h
def VS5 (N : Nat) : Rv.Spec β := fun args K => match args with
 | [.v (.one (.str a0)), .v (.one (.str a1)), .v (.one (.int .i64 a2)), .v (.one (.str a3))] => agB a0 a1 a2 a3 (fun z4 z5 => K (.tup [.one (.str z4), .one (.bool z5)]))
 | _ => none
def S5 (N : Nat) : Rv.Spec β := VS5 (xA N) N
def VE5 (N : Nat) : Env β := ⟨[(8, VS8 afV N), (9, VS9 agA N)], [], [], [], ⟨[], [], [], []⟩⟩
def E5 (N : Nat) : Env β := VE5 (uN N) (xz N) N
theorem ack (N : Nat) (a0 a1 : ByteArray) (a2 : Int) (a3 : ByteArray) (K : TV → O β) : aL lay (VE5 afV agA N) Tryz.f5 [.v (.one (.str a0)), .v (.one (.str a1)), (Z' a2), .v (.one (.str a3))] K = O7 afV agA N a0 a1 a2 a3 (fun z4 z5 => K (.tup [.one (.str z4), .one (.bool z5)])) := by kernel_rfl
theorem o5 (N : Nat) : ao (β := β) inv Tryz.prog 5 (S5 N) := by
 refine ap au mixed (E := E5 N) (ae (aa (o8 N) (aa (o9 N) ag))) ak av Tryz.func5 (by kernel_rfl) 0 (by kernel_rfl) trivial fun args K r h => ?_
 unfold S5 VS5 at h
 split at h
 ·exact (ack (uN N) (xz N) N _ _ _ _ _).trans h
 ·cases h
def VS3 (N : Nat) : Rv.Spec β := fun args K => match args with
 | [.v (.one (.str a0)), .v (.one (.str a1)), .v (.one (.int .i64 a2)), .v (.one (.str a3))] => q_laws_FnExactConvertText a0 a1 a2 a3 (fun z4 => K (.v (.one (.bool z4))))
 | _ => none
def S3 (N : Nat) : Rv.Spec β := VS3 (cm N) N
def VE3 (N : Nat) : Env β := ⟨[(4, VS4 afH N), (5, VS5 agB N)], [], [], [], ⟨[], [], [], []⟩⟩
def E3 (N : Nat) : Env β := VE3 (xt N) (xA N) N
theorem aci (N : Nat) (a0 a1 : ByteArray) (a2 : Int) (a3 : ByteArray) (K : TV → O β) : aL lay (VE3 afH agB N) Tryz.f3 [.v (.one (.str a0)), .v (.one (.str a1)), (Z' a2), .v (.one (.str a3))] K = bU afH agB N a0 a1 a2 a3 (fun z4 => K (.v (.one (.bool z4)))) := by kernel_rfl
theorem o3 (N : Nat) : ao (β := β) inv Tryz.prog 3 (S3 N) := by
 refine ap au mixed (E := E3 N) (ae (aa (o4 N) (aa (o5 N) ag))) ak av Tryz.func3 (by kernel_rfl) 0 (by kernel_rfl) trivial fun args K r h => ?_
 unfold S3 VS3 at h
 split at h
 ·exact (aci (xt N) (xA N) N _ _ _ _ _).trans h
 ·cases h
end Go.Proofs.YtmhlcbibbhelkaaGreatDoor
