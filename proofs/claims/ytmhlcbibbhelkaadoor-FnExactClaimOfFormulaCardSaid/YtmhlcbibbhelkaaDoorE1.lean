/- The functions that the claims reach answer as their texts do. -/
import Derived.Test.YtmhlcbibbhelkaaDoorSizU
namespace Go.Proofs.YtmhlcbibbhelkaaDoor
open Go.Rv
set_option maxRecDepth 100000
set_option maxHeartbeats 2000000
set_option linter.unusedVariables false
variable {β : Type}
def VS5 (N : Nat) (zq12 : (a0 : Int) → (a1 : Int) → (k : Int → Int → O β) → O β) : Rv.Spec β := fun args K => match args with
  | [.v (.agg [.int .i64 a0, .int .i64 a1])] => zq12 a0 a1 (fun z2 z3 => K (.v (.agg [.int .i64 z2, .int .i64 z3])))
  | _ => none
def S5 (N : Nat) : Rv.Spec β := VS5 N (zj12 N)
def VE5 (N : Nat) : Env β := ⟨[], [], [], [], ⟨[], [], [], []⟩⟩
def E5 (N : Nat) : Env β := VE5 N
def zb12 (N : Nat) (a0 : Int) (a1 : Int) (k : Int → Int → O β) : O β :=
k a0 a1
theorem zt12 (N : Nat) (a0 : Int) (a1 : Int) (k : Int → Int → O β) : zj12 N a0 a1 k = zb12 N a0 a1 k := by
  unfold zj12 zb12
  rfl
theorem ve5_0 (N : Nat)  (a0 : Int) (a1 : Int) (K : TV → O β) : evFn lay (VE5 N) Tryd.f5 [.v (.agg [.int .i64 a0, .int .i64 a1])] K = zb12 N a0 a1 (fun z2 z3 => K (.v (.agg [.int .i64 z2, .int .i64 z3]))) := by kernel_rfl
theorem e5_0 (N : Nat)  (a0 : Int) (a1 : Int) (K : TV → O β) : evFn lay (E5 N) Tryd.f5 [.v (.agg [.int .i64 a0, .int .i64 a1])] K = zj12 N a0 a1 (fun z2 z3 => K (.v (.agg [.int .i64 z2, .int .i64 z3]))) := (ve5_0 N a0 a1 K).trans (zt12 N a0 a1 (fun z2 z3 => K (.v (.agg [.int .i64 z2, .int .i64 z3])))).symm
theorem o5 (N : Nat) : SpecOK (β := β) inv Tryd.prog 5 (S5 N) := by
  refine spec_of lay_ok mixed (E := E5 N) (specs_loops specs_nil) muts_nil gs_nil Tryd.func5 (by kernel_rfl) 0 (by kernel_rfl) trivial fun args K r h => ?_
  unfold S5 VS5 at h
  split at h
  · exact (e5_0 N _ _ _).trans h
  · cases h
def VS24 (N : Nat) (zq13 : (a0 : Int) → (a1 : Int) → (a2 : Int) → (k : Bool → O β) → O β) : Rv.Spec β := fun args K => match args with
  | [.v (.one (.int .i64 a0)), .v (.one (.int .i64 a1)), .v (.one (.int .i64 a2))] => zq13 a0 a1 a2 (fun z3 => K (.v (.one (.bool z3))))
  | _ => none
def S24 (N : Nat) : Rv.Spec β := VS24 N (zj13 N)
def VE24 (N : Nat) : Env β := ⟨[], [], [], [], ⟨[], [], [], []⟩⟩
def E24 (N : Nat) : Env β := VE24 N
def zb13 (N : Nat) (a0 : Int) (a1 : Int) (a2 : Int) (k : Bool → O β) : O β :=
(cond ((decide (a0 ≥ a1)))
(k ((decide (a0 ≤ a2))))
(k false))
theorem zt13 (N : Nat) (a0 : Int) (a1 : Int) (a2 : Int) (k : Bool → O β) : zj13 N a0 a1 a2 k = zb13 N a0 a1 a2 k := by
  unfold zj13 zb13
  rfl
theorem ve24_0 (N : Nat)  (a0 : Int) (a1 : Int) (a2 : Int) (K : TV → O β) : evFn lay (VE24 N) Tryd.f24 [.v (.one (.int .i64 a0)), .v (.one (.int .i64 a1)), .v (.one (.int .i64 a2))] K = zb13 N a0 a1 a2 (fun z3 => K (.v (.one (.bool z3)))) := by kernel_rfl
theorem e24_0 (N : Nat)  (a0 : Int) (a1 : Int) (a2 : Int) (K : TV → O β) : evFn lay (E24 N) Tryd.f24 [.v (.one (.int .i64 a0)), .v (.one (.int .i64 a1)), .v (.one (.int .i64 a2))] K = zj13 N a0 a1 a2 (fun z3 => K (.v (.one (.bool z3)))) := (ve24_0 N a0 a1 a2 K).trans (zt13 N a0 a1 a2 (fun z3 => K (.v (.one (.bool z3))))).symm
theorem o24 (N : Nat) : SpecOK (β := β) inv Tryd.prog 24 (S24 N) := by
  refine spec_of lay_ok mixed (E := E24 N) (specs_loops specs_nil) muts_nil gs_nil Tryd.func24 (by kernel_rfl) 0 (by kernel_rfl) trivial fun args K r h => ?_
  unfold S24 VS24 at h
  split at h
  · exact (e24_0 N _ _ _ _).trans h
  · cases h
def VS18 (N : Nat) (zq14 : (a0 : Int) → (a1 : Int) → (k : Bool → O β) → O β) : Rv.Spec β := fun args K => match args with
  | [.v (.agg [.int .i64 a0, .int .i64 a1])] => zq14 a0 a1 (fun z2 => K (.v (.one (.bool z2))))
  | _ => none
def S18 (N : Nat) : Rv.Spec β := VS18 N (zj14 N)
def VE18 (N : Nat) (zq13 : (a0 : Int) → (a1 : Int) → (a2 : Int) → (k : Bool → O β) → O β) : Env β := ⟨[(24, VS24 N zq13)], [], [], [], ⟨[], [], [], []⟩⟩
def E18 (N : Nat) : Env β := VE18 N (zj13 N)
def zb14 (N : Nat) (zq13 : (a0 : Int) → (a1 : Int) → (a2 : Int) → (k : Bool → O β) → O β) (a0 : Int) (a1 : Int) (k : Bool → O β) : O β :=
zq13 a0 0 5 fun r3 =>
(cond r3
((gd ((decide (0 ≤ a0)))
((gd ((decide (0 ≤ (shlI .u64 1 a0))))
(zq13 a1 0 ((w64 ((shlI .i64 1 (shlI .u64 1 a0)) - 1))) fun r4 =>
k r4)))))
(k false))
theorem zt14 (N : Nat) (a0 : Int) (a1 : Int) (k : Bool → O β) : zj14 N a0 a1 k = zb14 N (zj13 N) a0 a1 k := by
  unfold zj14 zb14
  rfl
theorem ve18_0 (N : Nat) (zq13 : (a0 : Int) → (a1 : Int) → (a2 : Int) → (k : Bool → O β) → O β)  (a0 : Int) (a1 : Int) (K : TV → O β) : evFn lay (VE18 N zq13) Tryd.f18 [.v (.agg [.int .i64 a0, .int .i64 a1])] K = zb14 N zq13 a0 a1 (fun z2 => K (.v (.one (.bool z2)))) := by kernel_rfl
theorem e18_0 (N : Nat)  (a0 : Int) (a1 : Int) (K : TV → O β) : evFn lay (E18 N) Tryd.f18 [.v (.agg [.int .i64 a0, .int .i64 a1])] K = zj14 N a0 a1 (fun z2 => K (.v (.one (.bool z2)))) := (ve18_0 N (zj13 N) a0 a1 K).trans (zt14 N a0 a1 (fun z2 => K (.v (.one (.bool z2))))).symm
theorem o18 (N : Nat) : SpecOK (β := β) inv Tryd.prog 18 (S18 N) := by
  refine spec_of lay_ok mixed (E := E18 N) (specs_loops (specs_cons (o24 N) specs_nil)) muts_nil gs_nil Tryd.func18 (by kernel_rfl) 0 (by kernel_rfl) trivial fun args K r h => ?_
  unfold S18 VS18 at h
  split at h
  · exact (e18_0 N _ _ _).trans h
  · cases h
def VS25 (N : Nat) (zq15 : (a0 : Int) → (k : Int → O β) → O β) : Rv.Spec β := fun args K => match args with
  | [.v (.one (.int .i64 a0))] => zq15 a0 (fun z1 => K (.v (.one (.int .i64 z1))))
  | _ => none
def S25 (N : Nat) : Rv.Spec β := VS25 N (zj15 N)
def VE25 (N : Nat) : Env β := ⟨[], [], [], [], ⟨[], [], [], []⟩⟩
def E25 (N : Nat) : Env β := VE25 N
def zb15 (N : Nat) (a0 : Int) (k : Int → O β) : O β :=
(gd ((decide (0 ≤ a0)))
((gd ((decide (0 ≤ (shlI .u64 1 a0))))
(k ((w64 ((shlI .i64 1 (shlI .u64 1 a0)) - 1)))))))
theorem zt15 (N : Nat) (a0 : Int) (k : Int → O β) : zj15 N a0 k = zb15 N a0 k := by
  unfold zj15 zb15
  rfl
theorem ve25_0 (N : Nat)  (a0 : Int) (K : TV → O β) : evFn lay (VE25 N) Tryd.f25 [.v (.one (.int .i64 a0))] K = zb15 N a0 (fun z1 => K (.v (.one (.int .i64 z1)))) := by kernel_rfl
theorem e25_0 (N : Nat)  (a0 : Int) (K : TV → O β) : evFn lay (E25 N) Tryd.f25 [.v (.one (.int .i64 a0))] K = zj15 N a0 (fun z1 => K (.v (.one (.int .i64 z1)))) := (ve25_0 N a0 K).trans (zt15 N a0 (fun z1 => K (.v (.one (.int .i64 z1))))).symm
theorem o25 (N : Nat) : SpecOK (β := β) inv Tryd.prog 25 (S25 N) := by
  refine spec_of lay_ok mixed (E := E25 N) (specs_loops specs_nil) muts_nil gs_nil Tryd.func25 (by kernel_rfl) 0 (by kernel_rfl) trivial fun args K r h => ?_
  unfold S25 VS25 at h
  split at h
  · exact (e25_0 N _ _).trans h
  · cases h
end Go.Proofs.YtmhlcbibbhelkaaDoor
