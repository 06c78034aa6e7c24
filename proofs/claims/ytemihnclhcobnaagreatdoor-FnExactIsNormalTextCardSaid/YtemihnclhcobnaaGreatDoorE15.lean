/- The functions that the claims cY bz as their texts do. -/
import Derived.Test.YtemihnclhcobnaaGreatDoorE14
namespace Go.Proofs.YtemihnclhcobnaaGreatDoor
set_option linter.unusedSimpArgs false
open Go.Rv
set_option maxRecDepth 100000
set_option maxHeartbeats 2000000
set_option linter.unusedVariables false
variable {β : Type}
variable (aiH : Y82 β) (ahE ahA : Y31 β) (aiV : Y52 β) (ahl : Y4 β) (ai0 : Y56 β) (ai1 : Y64 β) (ai5 : Y71 β) (ahb : adc β) (ajz : Y71 β) (ajA : Y80 β) (ajB : Y81 β) (ajC q_laws_FnExactIsNormalText : Y82 β)
variable (N : Nat)
def Ym (N : Nat) : Rv.Spec β := fun args K => match args with
 | [.v (.agg [.int .i64 a0, .int .i64 a1])] => ajz a0 a1 (fun z2 z3 => K (.tup [.one (.str z2), .one (.bool z3)]))
 | _ => none
def S79 : Rv.Spec β := Ym (yw N) N
def acF : Env β := ⟨[(45, Mq ahl N), (151, abQ N), (150, acQ ahb N)], [], [], [], ⟨[], [], [], []⟩⟩
def E79 : Env β := acF (gu N) (cZ N) N
theorem aaI (a0 a1 : Int) (K : TV -> O β) : aL lay (acF ahl ahb N) Tryz.f79 [.v (.agg [.int .i64 a0, .int .i64 a1])] K = P0 ahl (ahb N) N a0 a1 (fun z2 z3 => K (.tup [.one (.str z2), .one (.bool z3)])) := by kernel_rfl
theorem o79 : ao (β := β) inv Tryz.prog 79 (S79 N) := by
 refine ap au mixed (E := E79 N) (ae (aa (o45 N) (aa (af7 N) (aa (af6 N) ag)))) aj av Tryz.func79 (by kernel_rfl) 0 (by kernel_rfl) trivial fun args K r h => ?_
 unfold S79 Ym at h
 split at h
 ·exact (aaI (gu N) (cZ N) N _ _ _).trans h
 ·cases h
def XV (N : Nat) : Rv.Spec β := fun args K => match args with
 | [.v (.one (.str a0)), .v (.agg [.int .i64 a1, .int .i64 a2])] => ajA a0 a1 a2 (fun z3 z4 => K (.tup [.one (.str z3), .one (.bool z4)]))
 | _ => none
def S15 : Rv.Spec β := XV (yx N) N
def acq : Env β := ⟨[(45, Mq ahl N), (40, RE ahE N), (75, RH ahA N), (77, Yk ai0 N), (76, Yj ai1 N), (78, Yl ai5 N), (79, Ym ajz N)], [], [], [], ⟨[], [], [], []⟩⟩
def E15 : Env β := acq (na N) (iW N) (gu N) (yr N) (yt N) (yv N) (yw N) N
theorem aad (a0 : ByteArray) (a1 a2 : Int) (K : TV -> O β) : aL lay (acq ahE ahA ahl ai0 ai1 ai5 ajz N) Tryz.f15 [.v (.one (.str a0)), .v (.agg [.int .i64 a1, .int .i64 a2])] K = P1 ahE ahA ahl ai0 ai1 ai5 ajz N a0 a1 a2 (fun z3 z4 => K (.tup [.one (.str z3), .one (.bool z4)])) := by kernel_rfl
theorem o15 : ao (β := β) inv Tryz.prog 15 (S15 N) := by
 refine ap au mixed (E := E15 N) (ae (aa (o45 N) (aa (o40 N) (aa (o75 N) (aa (o77 N) (aa (o76 N) (aa (o78 N) (aa (o79 N) ag)))))))) aj av Tryz.func15 (by kernel_rfl) 0 (by kernel_rfl) trivial fun args K r h => ?_
 unfold S15 XV at h
 split at h
 ·exact (aad (na N) (iW N) (gu N) (yr N) (yt N) (yv N) (yw N) N _ _ _ _).trans h
 ·cases h
def Yo (N : Nat) : Rv.Spec β := fun args K => match args with
 | [.v (.one (.str a0)), .v (.one (.str a1)), .v (.one (.int .i64 a2)), .v (.one (.str a3))] => ajB a0 a1 a2 a3 (fun z4 z5 => K (.tup [.one (.str z4), .one (.bool z5)]))
 | _ => none
def S81 : Rv.Spec β := Yo (yy N) N
def acH : Env β := ⟨[(12, XT aiV N), (15, XV ajA N)], [], [], [], ⟨[], [], [], []⟩⟩
def E81 : Env β := acH (vM N) (yx N) N
theorem aaK (a0 a1 : ByteArray) (a2 : Int) (a3 : ByteArray) (K : TV -> O β) : aL lay (acH aiV ajA N) Tryz.f81 [.v (.one (.str a0)), .v (.one (.str a1)), (Z' a2), .v (.one (.str a3))] K = P2 aiV ajA N a0 a1 a2 a3 (fun z4 z5 => K (.tup [.one (.str z4), .one (.bool z5)])) := by kernel_rfl
theorem o81 : ao (β := β) inv Tryz.prog 81 (S81 N) := by
 refine ap au mixed (E := E81 N) (ae (aa (o12 N) (aa (o15 N) ag))) aj av Tryz.func81 (by kernel_rfl) 0 (by kernel_rfl) trivial fun args K r h => ?_
 unfold S81 Yo at h
 split at h
 ·exact (aaK (vM N) (yx N) N _ _ _ _ _).trans h
 ·cases h
def XX (N : Nat) : Rv.Spec β := fun args K => match args with
 | [.v (.one (.str a0)), .v (.one (.int .i64 a1)), .v (.one (.str a2))] => ajC a0 a1 a2 (fun z3 => K (.v (.one (.bool z3))))
 | _ => none
def S17 : Rv.Spec β := XX (DJ N) N
def acs : Env β := ⟨[(81, Yo ajB N)], [], [], [], ⟨[], [], [], []⟩⟩
def E17 : Env β := acs (yy N) N
theorem aaf (a0 : ByteArray) (a1 : Int) (a2 : ByteArray) (K : TV -> O β) : aL lay (acs ajB N) Tryz.f17 [.v (.one (.str a0)), (Z' a1), .v (.one (.str a2))] K = P3 ajB N a0 a1 a2 (fun z3 => K (.v (.one (.bool z3)))) := by kernel_rfl
theorem o17 : ao (β := β) inv Tryz.prog 17 (S17 N) := by
 refine ap au mixed (E := E17 N) (ae (aa (o81 N) ag)) aj av Tryz.func17 (by kernel_rfl) 0 (by kernel_rfl) trivial fun args K r h => ?_
 unfold S17 XX at h
 split at h
 ·exact (aaf (yy N) N _ _ _ _).trans h
 ·cases h
def VS6 (N : Nat) : Rv.Spec β := fun args K => match args with
 | [.v (.one (.str a0)), .v (.one (.int .i64 a1)), .v (.one (.str a2))] => q_laws_FnExactIsNormalText a0 a1 a2 (fun z3 => K (.v (.one (.bool z3))))
 | _ => none
def S6 : Rv.Spec β := VS6 (b9 N) N
def VE6 : Env β := ⟨[(16, XW aiH N), (17, XX ajC N)], [], [], [], ⟨[], [], [], []⟩⟩
def E6 : Env β := VE6 (DA N) (DJ N) N
theorem aeo (a0 : ByteArray) (a1 : Int) (a2 : ByteArray) (K : TV -> O β) : aL lay (VE6 aiH ajC N) Tryz.f6 [.v (.one (.str a0)), (Z' a1), .v (.one (.str a2))] K = bQ aiH ajC N a0 a1 a2 (fun z3 => K (.v (.one (.bool z3)))) := by kernel_rfl
theorem o6 : ao (β := β) inv Tryz.prog 6 (S6 N) := by
 refine ap au mixed (E := E6 N) (ae (aa (o16 N) (aa (o17 N) ag))) aj av Tryz.func6 (by kernel_rfl) 0 (by kernel_rfl) trivial fun args K r h => ?_
 unfold S6 VS6 at h
 split at h
 ·exact (aeo (DA N) (DJ N) N _ _ _ _).trans h
 ·cases h
end Go.Proofs.YtemihnclhcobnaaGreatDoor
