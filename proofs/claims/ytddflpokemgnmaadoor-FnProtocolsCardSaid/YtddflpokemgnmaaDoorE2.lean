/- The functions that the claims reach answer as their texts do. -/
import Derived.Test.YtddflpokemgnmaaDoorE1
namespace Go.Proofs.YtddflpokemgnmaaDoor
open Go.Rv
set_option maxRecDepth 100000
set_option maxHeartbeats 2000000
set_option linter.unusedVariables false
variable {β : Type}
def VS53 (N : Nat) (zq25 : (a0 : List Int) → (k : Int → Int → Int → O β) → O β) : Rv.Spec β := fun args K => match args with
  | [.v (.one (.sl 5 (.ints .u8 a0)))] => zq25 a0 (fun z1 z2 z3 => K (.tup [.agg [.int .i64 z1, .int .i64 z2], .one (.int .i64 z3)]))
  | _ => none
def S53 (N : Nat) : Rv.Spec β := VS53 N (zj25 N)
def VE53 (N : Nat) (zq3 : (a0 : List Int) → (k0 : List Int → Int → Int → O β) → O β) (zq23 : (a0 : List Int) → (a1 : Int) → (a2 : Int) → (k0 : Int → Int → List Int → Int → Int → O β) → O β) (zq24 : (a0 : Int) → (a1 : List Int) → (a2 : Int) → (a3 : Int) → (k0 : Bool → List Int → Int → Int → O β) → O β) (zq22 : (a0 : List Int) → (a1 : Int) → (a2 : Int) → (a3 : List Int) → (k0 : Int → List Int → Int → Int → List Int → O β) → O β) (zq5 : (a0 : Int) → (a1 : List Int) → (a2 : Int) → (a3 : Int) → (k0 : Int → List Int → Int → Int → O β) → O β) : Env β := ⟨[], [], [], [(51, VS51 N zq3), (71, VS71 N zq23), (52, VS52 N zq24), (54, VS54 N zq22), (70, VS70 N zq5)], ⟨[], [], [], []⟩⟩
def E53 (N : Nat) : Env β := VE53 N (zj3 N) (zj23 N) (zj24 N) (zj22 N) (zj5 N)
def zb25 (N : Nat) (zq3 : (a0 : List Int) → (k0 : List Int → Int → Int → O β) → O β) (zq23 : (a0 : List Int) → (a1 : Int) → (a2 : Int) → (k0 : Int → Int → List Int → Int → Int → O β) → O β) (zq24 : (a0 : Int) → (a1 : List Int) → (a2 : Int) → (a3 : Int) → (k0 : Bool → List Int → Int → Int → O β) → O β) (zq22 : (a0 : List Int) → (a1 : Int) → (a2 : Int) → (a3 : List Int) → (k0 : Int → List Int → Int → Int → List Int → O β) → O β) (zq5 : (a0 : Int) → (a1 : List Int) → (a2 : Int) → (a3 : Int) → (k0 : Int → List Int → Int → Int → O β) → O β) (a0 : List Int) (k : Int → Int → Int → O β) : O β :=
zq3 a0 (fun r4_0 r4_1 r4_2 =>
zq23 r4_0 r4_1 r4_2 (fun r5_0 r5_1 r5_2 r5_3 r5_4 =>
zq24 8 r5_2 r5_3 r5_4 (fun r6_0 r6_1 r6_2 r6_3 =>
(cond r6_0
(zq22 r6_1 r6_2 r6_3 ((((([] : List Int) ++ [(-1)]) ++ [5]) ++ [6])) (fun r7_0 r7_1 r7_2 r7_3 r7_4 =>
k r5_0 r5_1 r7_0))
(zq5 ((mxI 1 (mnI 5 (w64 (r5_0 + 1))))) r6_1 r6_2 r6_3 (fun r8_0 r8_1 r8_2 r8_3 =>
k r5_0 r5_1 r8_0))))))
theorem zt25 (N : Nat) (a0 : List Int) (k : Int → Int → Int → O β) : zj25 N a0 k = zb25 N (zj3 N) (zj23 N) (zj24 N) (zj22 N) (zj5 N) a0 k := by
  unfold zj25 zb25
  rfl
theorem ve53_0 (N : Nat) (zq3 : (a0 : List Int) → (k0 : List Int → Int → Int → O β) → O β) (zq23 : (a0 : List Int) → (a1 : Int) → (a2 : Int) → (k0 : Int → Int → List Int → Int → Int → O β) → O β) (zq24 : (a0 : Int) → (a1 : List Int) → (a2 : Int) → (a3 : Int) → (k0 : Bool → List Int → Int → Int → O β) → O β) (zq22 : (a0 : List Int) → (a1 : Int) → (a2 : Int) → (a3 : List Int) → (k0 : Int → List Int → Int → Int → List Int → O β) → O β) (zq5 : (a0 : Int) → (a1 : List Int) → (a2 : Int) → (a3 : Int) → (k0 : Int → List Int → Int → Int → O β) → O β)  (a0 : List Int) (K : TV → O β) : evFn lay (VE53 N zq3 zq23 zq24 zq22 zq5) Tryd.f53 [.v (.one (.sl 5 (.ints .u8 a0)))] K = zb25 N zq3 zq23 zq24 zq22 zq5 a0 (fun z1 z2 z3 => K (.tup [.agg [.int .i64 z1, .int .i64 z2], .one (.int .i64 z3)])) := by kernel_rfl
theorem e53_0 (N : Nat)  (a0 : List Int) (K : TV → O β) : evFn lay (E53 N) Tryd.f53 [.v (.one (.sl 5 (.ints .u8 a0)))] K = zj25 N a0 (fun z1 z2 z3 => K (.tup [.agg [.int .i64 z1, .int .i64 z2], .one (.int .i64 z3)])) := (ve53_0 N (zj3 N) (zj23 N) (zj24 N) (zj22 N) (zj5 N) a0 K).trans (zt25 N a0 (fun z1 z2 z3 => K (.tup [.agg [.int .i64 z1, .int .i64 z2], .one (.int .i64 z3)]))).symm
theorem o53 (N : Nat) : SpecOK (β := β) inv Tryd.prog 53 (S53 N) := by
  refine spec_of lay_ok mixed (E := E53 N) (specs_loops specs_nil) muts_nil (gs_cons (o51 N) (gs_cons (o71 N) (gs_cons (o52 N) (gs_cons (o54 N) (gs_cons (o70 N) gs_nil))))) Tryd.func53 (by kernel_rfl) 0 (by kernel_rfl) trivial fun args K r h => ?_
  unfold S53 VS53 at h
  split at h
  · exact (e53_0 N _ _).trans h
  · cases h
def VS24 (N : Nat) (zq26 : (a0 : List Int) → (k : Int → Int → Int → O β) → O β) : Rv.Spec β := fun args K => match args with
  | [.v (.one (.sl 5 (.ints .u8 a0)))] => zq26 a0 (fun z1 z2 z3 => K (.tup [.agg [.int .i64 z1, .int .i64 z2], .one (.int .i64 z3)]))
  | _ => none
def S24 (N : Nat) : Rv.Spec β := VS24 N (zj26 N)
def VE24 (N : Nat) (zq25 : (a0 : List Int) → (k : Int → Int → Int → O β) → O β) (zq3 : (a0 : List Int) → (k0 : List Int → Int → Int → O β) → O β) (zq24 : (a0 : Int) → (a1 : List Int) → (a2 : Int) → (a3 : Int) → (k0 : Bool → List Int → Int → Int → O β) → O β) (zq22 : (a0 : List Int) → (a1 : Int) → (a2 : Int) → (a3 : List Int) → (k0 : Int → List Int → Int → Int → List Int → O β) → O β) (zq21 : (a0 : Int) → (a1 : List Int) → (a2 : Int) → (a3 : Int) → (k0 : Int → Int → List Int → Int → Int → O β) → O β) : Env β := ⟨[(53, VS53 N zq25)], [], [], [(51, VS51 N zq3), (52, VS52 N zq24), (54, VS54 N zq22), (55, VS55 N zq21)], ⟨[], [], [], []⟩⟩
def E24 (N : Nat) : Env β := VE24 N (zj25 N) (zj3 N) (zj24 N) (zj22 N) (zj21 N)
def zb26 (N : Nat) (zq3 : (a0 : List Int) → (k0 : List Int → Int → Int → O β) → O β) (zq24 : (a0 : Int) → (a1 : List Int) → (a2 : Int) → (a3 : Int) → (k0 : Bool → List Int → Int → Int → O β) → O β) (zq25 : (a0 : List Int) → (k : Int → Int → Int → O β) → O β) (zq22 : (a0 : List Int) → (a1 : Int) → (a2 : Int) → (a3 : List Int) → (k0 : Int → List Int → Int → Int → List Int → O β) → O β) (zq21 : (a0 : Int) → (a1 : List Int) → (a2 : Int) → (a3 : Int) → (k0 : Int → Int → List Int → Int → Int → O β) → O β) (a0 : List Int) (k : Int → Int → Int → O β) : O β :=
zq3 a0 (fun r4_0 r4_1 r4_2 =>
zq24 8 r4_0 r4_1 r4_2 (fun r5_0 r5_1 r5_2 r5_3 =>
(cond r5_0
(zq25 a0 fun r6 r7 r8 =>
k r6 r7 r8)
(zq22 r5_1 r5_2 r5_3 (((((((([] : List Int) ++ [4]) ++ [3]) ++ [2]) ++ [4]) ++ [1]) ++ [0])) (fun r9_0 r9_1 r9_2 r9_3 r9_4 =>
zq22 r9_1 r9_2 r9_3 ((((([] : List Int) ++ [2]) ++ [1]) ++ [2])) (fun r10_0 r10_1 r10_2 r10_3 r10_4 =>
zq21 r9_0 r10_1 r10_2 r10_3 (fun r11_0 r11_1 r11_2 r11_3 r11_4 =>
k r11_0 r11_1 ((mxI (w64 (r9_0 - 2)) (mnI r9_0 r10_0))))))))))
theorem zt26 (N : Nat) (a0 : List Int) (k : Int → Int → Int → O β) : zj26 N a0 k = zb26 N (zj3 N) (zj24 N) (zj25 N) (zj22 N) (zj21 N) a0 k := by
  unfold zj26 zb26
  rfl
theorem ve24_0 (N : Nat) (zq25 : (a0 : List Int) → (k : Int → Int → Int → O β) → O β) (zq3 : (a0 : List Int) → (k0 : List Int → Int → Int → O β) → O β) (zq24 : (a0 : Int) → (a1 : List Int) → (a2 : Int) → (a3 : Int) → (k0 : Bool → List Int → Int → Int → O β) → O β) (zq22 : (a0 : List Int) → (a1 : Int) → (a2 : Int) → (a3 : List Int) → (k0 : Int → List Int → Int → Int → List Int → O β) → O β) (zq21 : (a0 : Int) → (a1 : List Int) → (a2 : Int) → (a3 : Int) → (k0 : Int → Int → List Int → Int → Int → O β) → O β)  (a0 : List Int) (K : TV → O β) : evFn lay (VE24 N zq25 zq3 zq24 zq22 zq21) Tryd.f24 [.v (.one (.sl 5 (.ints .u8 a0)))] K = zb26 N zq3 zq24 zq25 zq22 zq21 a0 (fun z1 z2 z3 => K (.tup [.agg [.int .i64 z1, .int .i64 z2], .one (.int .i64 z3)])) := by kernel_rfl
theorem e24_0 (N : Nat)  (a0 : List Int) (K : TV → O β) : evFn lay (E24 N) Tryd.f24 [.v (.one (.sl 5 (.ints .u8 a0)))] K = zj26 N a0 (fun z1 z2 z3 => K (.tup [.agg [.int .i64 z1, .int .i64 z2], .one (.int .i64 z3)])) := (ve24_0 N (zj25 N) (zj3 N) (zj24 N) (zj22 N) (zj21 N) a0 K).trans (zt26 N a0 (fun z1 z2 z3 => K (.tup [.agg [.int .i64 z1, .int .i64 z2], .one (.int .i64 z3)]))).symm
theorem o24 (N : Nat) : SpecOK (β := β) inv Tryd.prog 24 (S24 N) := by
  refine spec_of lay_ok mixed (E := E24 N) (specs_loops (specs_cons (o53 N) specs_nil)) muts_nil (gs_cons (o51 N) (gs_cons (o52 N) (gs_cons (o54 N) (gs_cons (o55 N) gs_nil)))) Tryd.func24 (by kernel_rfl) 0 (by kernel_rfl) trivial fun args K r h => ?_
  unfold S24 VS24 at h
  split at h
  · exact (e24_0 N _ _).trans h
  · cases h
def VS5 (N : Nat) (zq27 : (a0 : List Int) → (k : Int → Int → Int → O β) → O β) : Rv.Spec β := fun args K => match args with
  | [.v (.one (.sl 5 (.ints .u8 a0)))] => zq27 a0 (fun z1 z2 z3 => K (.tup [.agg [.int .i64 z1, .int .i64 z2], .one (.int .i64 z3)]))
  | _ => none
def S5 (N : Nat) : Rv.Spec β := VS5 N (zj27 N)
def VE5 (N : Nat) (zq26 : (a0 : List Int) → (k : Int → Int → Int → O β) → O β) : Env β := ⟨[(24, VS24 N zq26)], [], [], [], ⟨[], [], [], []⟩⟩
def E5 (N : Nat) : Env β := VE5 N (zj26 N)
def zb27 (N : Nat) (zq26 : (a0 : List Int) → (k : Int → Int → Int → O β) → O β) (a0 : List Int) (k : Int → Int → Int → O β) : O β :=
zq26 a0 fun r4 r5 r6 =>
k r4 r5 r6
theorem zt27 (N : Nat) (a0 : List Int) (k : Int → Int → Int → O β) : zj27 N a0 k = zb27 N (zj26 N) a0 k := by
  unfold zj27 zb27
  rfl
theorem ve5_0 (N : Nat) (zq26 : (a0 : List Int) → (k : Int → Int → Int → O β) → O β)  (a0 : List Int) (K : TV → O β) : evFn lay (VE5 N zq26) Tryd.f5 [.v (.one (.sl 5 (.ints .u8 a0)))] K = zb27 N zq26 a0 (fun z1 z2 z3 => K (.tup [.agg [.int .i64 z1, .int .i64 z2], .one (.int .i64 z3)])) := by kernel_rfl
theorem e5_0 (N : Nat)  (a0 : List Int) (K : TV → O β) : evFn lay (E5 N) Tryd.f5 [.v (.one (.sl 5 (.ints .u8 a0)))] K = zj27 N a0 (fun z1 z2 z3 => K (.tup [.agg [.int .i64 z1, .int .i64 z2], .one (.int .i64 z3)])) := (ve5_0 N (zj26 N) a0 K).trans (zt27 N a0 (fun z1 z2 z3 => K (.tup [.agg [.int .i64 z1, .int .i64 z2], .one (.int .i64 z3)]))).symm
theorem o5 (N : Nat) : SpecOK (β := β) inv Tryd.prog 5 (S5 N) := by
  refine spec_of lay_ok mixed (E := E5 N) (specs_loops (specs_cons (o24 N) specs_nil)) muts_nil gs_nil Tryd.func5 (by kernel_rfl) 0 (by kernel_rfl) trivial fun args K r h => ?_
  unfold S5 VS5 at h
  split at h
  · exact (e5_0 N _ _).trans h
  · cases h
def VS77 (N : Nat) (zq28 : (a0 : Int) → (k : Bool → O β) → O β) : Rv.Spec β := fun args K => match args with
  | [.v (.one (.int .i64 a0))] => zq28 a0 (fun z1 => K (.v (.one (.bool z1))))
  | _ => none
def S77 (N : Nat) : Rv.Spec β := VS77 N (zj28 N)
def VE77 (N : Nat) : Env β := ⟨[], [], [], [], ⟨[], [], [], []⟩⟩
def E77 (N : Nat) : Env β := VE77 N
def zb28 (N : Nat) (a0 : Int) (k : Bool → O β) : O β :=
(cond ((decide (a0 ≥ 0)))
(k ((decide (a0 ≤ 5))))
(k false))
theorem zt28 (N : Nat) (a0 : Int) (k : Bool → O β) : zj28 N a0 k = zb28 N a0 k := by
  unfold zj28 zb28
  rfl
theorem ve77_0 (N : Nat)  (a0 : Int) (K : TV → O β) : evFn lay (VE77 N) Tryd.f77 [.v (.one (.int .i64 a0))] K = zb28 N a0 (fun z1 => K (.v (.one (.bool z1)))) := by kernel_rfl
theorem e77_0 (N : Nat)  (a0 : Int) (K : TV → O β) : evFn lay (E77 N) Tryd.f77 [.v (.one (.int .i64 a0))] K = zj28 N a0 (fun z1 => K (.v (.one (.bool z1)))) := (ve77_0 N a0 K).trans (zt28 N a0 (fun z1 => K (.v (.one (.bool z1))))).symm
theorem o77 (N : Nat) : SpecOK (β := β) inv Tryd.prog 77 (S77 N) := by
  refine spec_of lay_ok mixed (E := E77 N) (specs_loops specs_nil) muts_nil gs_nil Tryd.func77 (by kernel_rfl) 0 (by kernel_rfl) trivial fun args K r h => ?_
  unfold S77 VS77 at h
  split at h
  · exact (e77_0 N _ _).trans h
  · cases h
def VS64 (N : Nat) (zq29 : (a0 : Int) → (a1 : Int) → (k : Int → O β) → O β) : Rv.Spec β := fun args K => match args with
  | [.v (.agg [.int .i64 a0, .int .i64 a1])] => zq29 a0 a1 (fun z2 => K (.v (.one (.int .i64 z2))))
  | _ => none
def S64 (N : Nat) : Rv.Spec β := VS64 N (zj29 N)
def VE64 (N : Nat) : Env β := ⟨[], [], [], [], ⟨[], [], [], []⟩⟩
def E64 (N : Nat) : Env β := VE64 N
def zb29 (N : Nat) (a0 : Int) (a1 : Int) (k : Int → O β) : O β :=
(gd ((decide (0 ≤ a0)))
(k ((shlI .i64 1 a0))))
theorem zt29 (N : Nat) (a0 : Int) (a1 : Int) (k : Int → O β) : zj29 N a0 a1 k = zb29 N a0 a1 k := by
  unfold zj29 zb29
  rfl
theorem ve64_0 (N : Nat)  (a0 : Int) (a1 : Int) (K : TV → O β) : evFn lay (VE64 N) Tryd.f64 [.v (.agg [.int .i64 a0, .int .i64 a1])] K = zb29 N a0 a1 (fun z2 => K (.v (.one (.int .i64 z2)))) := by kernel_rfl
theorem e64_0 (N : Nat)  (a0 : Int) (a1 : Int) (K : TV → O β) : evFn lay (E64 N) Tryd.f64 [.v (.agg [.int .i64 a0, .int .i64 a1])] K = zj29 N a0 a1 (fun z2 => K (.v (.one (.int .i64 z2)))) := (ve64_0 N a0 a1 K).trans (zt29 N a0 a1 (fun z2 => K (.v (.one (.int .i64 z2))))).symm
theorem o64 (N : Nat) : SpecOK (β := β) inv Tryd.prog 64 (S64 N) := by
  refine spec_of lay_ok mixed (E := E64 N) (specs_loops specs_nil) muts_nil gs_nil Tryd.func64 (by kernel_rfl) 0 (by kernel_rfl) trivial fun args K r h => ?_
  unfold S64 VS64 at h
  split at h
  · exact (e64_0 N _ _ _).trans h
  · cases h
def VS63 (N : Nat) (zq30 : (a0 : Int) → (a1 : Int) → (k : Bool → O β) → O β) : Rv.Spec β := fun args K => match args with
  | [.v (.agg [.int .i64 a0, .int .i64 a1])] => zq30 a0 a1 (fun z2 => K (.v (.one (.bool z2))))
  | _ => none
def S63 (N : Nat) : Rv.Spec β := VS63 N (zj30 N)
def VE63 (N : Nat) (zq28 : (a0 : Int) → (k : Bool → O β) → O β) (zq29 : (a0 : Int) → (a1 : Int) → (k : Int → O β) → O β) : Env β := ⟨[(77, VS77 N zq28), (64, VS64 N zq29)], [], [], [], ⟨[], [], [], []⟩⟩
def E63 (N : Nat) : Env β := VE63 N (zj28 N) (zj29 N)
def zb30 (N : Nat) (zq28 : (a0 : Int) → (k : Bool → O β) → O β) (zq29 : (a0 : Int) → (a1 : Int) → (k : Int → O β) → O β) (a0 : Int) (a1 : Int) (k : Bool → O β) : O β :=
zq28 a0 fun r3 =>
(cond r3
((cond ((decide (a1 ≥ 0)))
(zq29 a0 a1 fun r4 =>
(gd ((decide (0 ≤ r4)))
(k (((shrI .i64 a1 r4) == 0)))))
(k false)))
(k false))
theorem zt30 (N : Nat) (a0 : Int) (a1 : Int) (k : Bool → O β) : zj30 N a0 a1 k = zb30 N (zj28 N) (zj29 N) a0 a1 k := by
  unfold zj30 zb30
  rfl
theorem ve63_0 (N : Nat) (zq28 : (a0 : Int) → (k : Bool → O β) → O β) (zq29 : (a0 : Int) → (a1 : Int) → (k : Int → O β) → O β)  (a0 : Int) (a1 : Int) (K : TV → O β) : evFn lay (VE63 N zq28 zq29) Tryd.f63 [.v (.agg [.int .i64 a0, .int .i64 a1])] K = zb30 N zq28 zq29 a0 a1 (fun z2 => K (.v (.one (.bool z2)))) := by kernel_rfl
theorem e63_0 (N : Nat)  (a0 : Int) (a1 : Int) (K : TV → O β) : evFn lay (E63 N) Tryd.f63 [.v (.agg [.int .i64 a0, .int .i64 a1])] K = zj30 N a0 a1 (fun z2 => K (.v (.one (.bool z2)))) := (ve63_0 N (zj28 N) (zj29 N) a0 a1 K).trans (zt30 N a0 a1 (fun z2 => K (.v (.one (.bool z2))))).symm
theorem o63 (N : Nat) : SpecOK (β := β) inv Tryd.prog 63 (S63 N) := by
  refine spec_of lay_ok mixed (E := E63 N) (specs_loops (specs_cons (o77 N) (specs_cons (o64 N) specs_nil))) muts_nil gs_nil Tryd.func63 (by kernel_rfl) 0 (by kernel_rfl) trivial fun args K r h => ?_
  unfold S63 VS63 at h
  split at h
  · exact (e63_0 N _ _ _).trans h
  · cases h
def VS36 (N : Nat) (zq31 : (a0 : Int) → (a1 : Int) → (a2 : Int) → (k : Bool → O β) → O β) : Rv.Spec β := fun args K => match args with
  | [.v (.agg [.int .i64 a0, .int .i64 a1]), .v (.one (.int .i64 a2))] => zq31 a0 a1 a2 (fun z3 => K (.v (.one (.bool z3))))
  | _ => none
def S36 (N : Nat) : Rv.Spec β := VS36 N (zj31 N)
def VE36 (N : Nat) (zq30 : (a0 : Int) → (a1 : Int) → (k : Bool → O β) → O β) : Env β := ⟨[(63, VS63 N zq30)], [], [], [], ⟨[], [], [], []⟩⟩
def E36 (N : Nat) : Env β := VE36 N (zj30 N)
def zb31 (N : Nat) (zq30 : (a0 : Int) → (a1 : Int) → (k : Bool → O β) → O β) (a0 : Int) (a1 : Int) (a2 : Int) (k : Bool → O β) : O β :=
zq30 a0 a1 fun r4 =>
(cond r4
((cond ((decide (a2 ≥ 0)))
(k ((decide (a2 ≤ a0))))
(k false)))
(k false))
theorem zt31 (N : Nat) (a0 : Int) (a1 : Int) (a2 : Int) (k : Bool → O β) : zj31 N a0 a1 a2 k = zb31 N (zj30 N) a0 a1 a2 k := by
  unfold zj31 zb31
  rfl
theorem ve36_0 (N : Nat) (zq30 : (a0 : Int) → (a1 : Int) → (k : Bool → O β) → O β)  (a0 : Int) (a1 : Int) (a2 : Int) (K : TV → O β) : evFn lay (VE36 N zq30) Tryd.f36 [.v (.agg [.int .i64 a0, .int .i64 a1]), .v (.one (.int .i64 a2))] K = zb31 N zq30 a0 a1 a2 (fun z3 => K (.v (.one (.bool z3)))) := by kernel_rfl
theorem e36_0 (N : Nat)  (a0 : Int) (a1 : Int) (a2 : Int) (K : TV → O β) : evFn lay (E36 N) Tryd.f36 [.v (.agg [.int .i64 a0, .int .i64 a1]), .v (.one (.int .i64 a2))] K = zj31 N a0 a1 a2 (fun z3 => K (.v (.one (.bool z3)))) := (ve36_0 N (zj30 N) a0 a1 a2 K).trans (zt31 N a0 a1 a2 (fun z3 => K (.v (.one (.bool z3))))).symm
theorem o36 (N : Nat) : SpecOK (β := β) inv Tryd.prog 36 (S36 N) := by
  refine spec_of lay_ok mixed (E := E36 N) (specs_loops (specs_cons (o63 N) specs_nil)) muts_nil gs_nil Tryd.func36 (by kernel_rfl) 0 (by kernel_rfl) trivial fun args K r h => ?_
  unfold S36 VS36 at h
  split at h
  · exact (e36_0 N _ _ _ _).trans h
  · cases h
def VS25 (N : Nat) (zq32 : (a0 : Int) → (a1 : Int) → (a2 : Int) → (k0 : Int → Int → O β) → (k1 : Int → Int → Int → Int → Int → Mp → O β) → O β) : GSpec β := fun args bl K => match args, bl with
  | [.v (.agg [.int .i64 a0, .int .i64 a1]), .v (.one (.int .i64 a2))], [] => zq32 a0 a1 a2 (fun y0 y1 => K (.tup [.one (.nilp), .agg [.int .i64 y0, .int .i64 y1], .one (.bool false)]) []) (fun y0 y1 y3 y4 y5 y6 => K (.tup [.one (.ptr 0 0), .agg [.int .i64 y0, .int .i64 y1], .one (.bool true)]) [.cells 83 [.int .i64 y3, .int .i64 y4, .int .i64 y5, .mp 1], .mp ⟨true, false⟩ y6])
  | _, _ => none
def S25 (N : Nat) : GSpec β := VS25 N (zj32 N)
def VE25 (N : Nat) (zq31 : (a0 : Int) → (a1 : Int) → (a2 : Int) → (k : Bool → O β) → O β) : Env β := ⟨[(36, VS36 N zq31)], [], [], [], ⟨[], [], [], []⟩⟩
def E25 (N : Nat) : Env β := VE25 N (zj31 N)
def zb32 (N : Nat) (zq31 : (a0 : Int) → (a1 : Int) → (a2 : Int) → (k : Bool → O β) → O β) (a0 : Int) (a1 : Int) (a2 : Int) (k0 : Int → Int → O β) (k1 : Int → Int → Int → Int → Int → Mp → O β) : O β :=
zq31 a0 a1 a2 fun r5 =>
(cond (!r5)
(k0 0 0)
((cond ((decide (a2 > 2)))
(k0 0 0)
((cond ((decide ((w64 (a0 - a2)) > 2)))
(k0 0 0)
((gd ((decide (0 ≤ a2)))
((gd ((decide (0 ≤ (shlI .u64 1 a2))))
((gd ((decide (0 ≤ (w64 (a0 - a2)))))
((gd ((decide (0 ≤ (shlI .u64 1 (w64 (a0 - a2))))))
(k1 ((w64 ((shlI .i64 1 (shlI .u64 1 a2)) - 1))) ((w64 ((shlI .i64 1 (shlI .u64 1 (w64 (a0 - a2)))) - 1))) a0 a1 a2 (([] : Mp))))))))))))))))
theorem zt32 (N : Nat) (a0 : Int) (a1 : Int) (a2 : Int) (k0 : Int → Int → O β) (k1 : Int → Int → Int → Int → Int → Mp → O β) : zj32 N a0 a1 a2 k0 k1 = zb32 N (zj31 N) a0 a1 a2 k0 k1 := by
  unfold zj32 zb32
  rfl
theorem ve25_0 (N : Nat) (zq31 : (a0 : Int) → (a1 : Int) → (a2 : Int) → (k : Bool → O β) → O β) (a0 : Int) (a1 : Int) (a2 : Int) (K : TV → List Blk → O β) : evFnG lay (VE25 N zq31) Tryd.f25 [.v (.agg [.int .i64 a0, .int .i64 a1]), .v (.one (.int .i64 a2))] [] K = zb32 N zq31 a0 a1 a2 (fun y0 y1 => K (.tup [.one (.nilp), .agg [.int .i64 y0, .int .i64 y1], .one (.bool false)]) []) (fun y0 y1 y3 y4 y5 y6 => K (.tup [.one (.ptr 0 0), .agg [.int .i64 y0, .int .i64 y1], .one (.bool true)]) [.cells 83 [.int .i64 y3, .int .i64 y4, .int .i64 y5, .mp 1], .mp ⟨true, false⟩ y6]) := by kernel_rfl
theorem e25_0 (N : Nat) (a0 : Int) (a1 : Int) (a2 : Int) (K : TV → List Blk → O β) : evFnG lay (E25 N) Tryd.f25 [.v (.agg [.int .i64 a0, .int .i64 a1]), .v (.one (.int .i64 a2))] [] K = zj32 N a0 a1 a2 (fun y0 y1 => K (.tup [.one (.nilp), .agg [.int .i64 y0, .int .i64 y1], .one (.bool false)]) []) (fun y0 y1 y3 y4 y5 y6 => K (.tup [.one (.ptr 0 0), .agg [.int .i64 y0, .int .i64 y1], .one (.bool true)]) [.cells 83 [.int .i64 y3, .int .i64 y4, .int .i64 y5, .mp 1], .mp ⟨true, false⟩ y6]) := (ve25_0 N (zj31 N) a0 a1 a2 K).trans (zt32 N a0 a1 a2 (fun y0 y1 => K (.tup [.one (.nilp), .agg [.int .i64 y0, .int .i64 y1], .one (.bool false)]) []) (fun y0 y1 y3 y4 y5 y6 => K (.tup [.one (.ptr 0 0), .agg [.int .i64 y0, .int .i64 y1], .one (.bool true)]) [.cells 83 [.int .i64 y3, .int .i64 y4, .int .i64 y5, .mp 1], .mp ⟨true, false⟩ y6])).symm
theorem o25 (N : Nat) : GOK (β := β) inv Tryd.prog 25 (S25 N) := by
  refine g_of lay_ok mixed (E := E25 N) (specs_loops (specs_cons (o36 N) specs_nil)) muts_nil gs_nil Tryd.func25 (by kernel_rfl) 0 (by kernel_rfl) trivial fun args bl K r h => ?_
  unfold S25 VS25 at h
  split at h
  · exact (e25_0 N _ _ _ _).trans h
  · cases h
def VS57 (N : Nat) (zq33 : (a0 : Int) → (k : ByteArray → O β) → O β) : Rv.Spec β := fun args K => match args with
  | [.v (.one (.int .i64 a0))] => zq33 a0 (fun z1 => K (.v (.one (.str z1))))
  | _ => none
def S57 (N : Nat) : Rv.Spec β := VS57 N (zj33 N)
def VE57 (N : Nat) : Env β := ⟨[(75, S75 N)], [], [], [], ⟨[], [], [], []⟩⟩
def E57 (N : Nat) : Env β := VE57 N
def zb33 (N : Nat) (a0 : Int) (k : ByteArray → O β) : O β :=
strconv_Itoa N a0 fun r2 =>
k r2
theorem zt33 (N : Nat) (a0 : Int) (k : ByteArray → O β) : zj33 N a0 k = zb33 N a0 k := by
  unfold zj33 zb33
  rfl
theorem ve57_0 (N : Nat)  (a0 : Int) (K : TV → O β) : evFn lay (VE57 N) Tryd.f57 [.v (.one (.int .i64 a0))] K = zb33 N a0 (fun z1 => K (.v (.one (.str z1)))) := by kernel_rfl
theorem e57_0 (N : Nat)  (a0 : Int) (K : TV → O β) : evFn lay (E57 N) Tryd.f57 [.v (.one (.int .i64 a0))] K = zj33 N a0 (fun z1 => K (.v (.one (.str z1)))) := (ve57_0 N a0 K).trans (zt33 N a0 (fun z1 => K (.v (.one (.str z1))))).symm
theorem o57 (N : Nat) : SpecOK (β := β) inv Tryd.prog 57 (S57 N) := by
  refine spec_of lay_ok mixed (E := E57 N) (specs_loops (specs_cons (o75 N) specs_nil)) muts_nil gs_nil Tryd.func57 (by kernel_rfl) 0 (by kernel_rfl) trivial fun args K r h => ?_
  unfold S57 VS57 at h
  split at h
  · exact (e57_0 N _ _).trans h
  · cases h
def VS58 (N : Nat) (zq37 : (a0 : Int) → (a1 : Int) → (a2 : Int) → (a3 : Int) → (k : Int → Int → Int → Int → Bool → O β) → O β) : Rv.Spec β := fun args K => match args with
  | [.v (.agg [.int .i64 a0, .int .i64 a1]), .v (.one (.int .u8 a2)), .v (.one (.int .i64 a3))] => zq37 a0 a1 a2 a3 (fun z4 z5 z6 z7 z8 => K (.tup [.agg [.int .i64 z4, .int .i64 z5], .agg [.int .i64 z6, .int .i64 z7], .one (.bool z8)]))
  | _ => none
def S58 (N : Nat) : Rv.Spec β := VS58 N (zj37 N)
def VE58 (N : Nat) : Env β := ⟨[], [], [], [], ⟨[], [], [], []⟩⟩
def E58 (N : Nat) : Env β := VE58 N
def zb37 (N : Nat) (a0 : Int) (a1 : Int) (a2 : Int) (a3 : Int) (k : Int → Int → Int → Int → Bool → O β) : O β :=
(cond ((a2 == 66))
((cond ((a3 == 0))
((zj34 false a0 a1 a0 a1
(k a0 a1 a0 a1 false)))
((cond ((a3 == a1))
((zj34 false a0 a1 a0 a1
(k a0 a1 a0 a1 false)))
((cond (((bits .andNot .i64 a3 a1) != 0))
((zj34 false a0 a1 a0 a1
(k a0 a1 a0 a1 false)))
((zj35 a2 a3 a1 0 0 0 0 a0 a1 a0 a1
((zj35 a2 a3 a1 0 0 0 0 a0 a1 a0 a1
((zj35 a2 a3 a1 0 0 0 0 a0 a1 a0 a1
((zj35 a2 a3 a1 0 0 0 0 a0 a1 a0 a1
((zj35 a2 a3 a1 0 0 0 0 a0 a1 a0 a1
((zj35 a2 a3 a1 0 0 0 0 a0 a1 a0 a1
((zj35 a2 a3 a1 0 0 0 0 a0 a1 a0 a1
((cond ((a2 == 65))
((zj36 true ((bits .andNot .i64 a1 a3)) a1 a3 a1
(k ((bits .andNot .i64 a1 a3)) a1 a3 a1 true)))
((zj36 true a0 ((bits .andNot .i64 a1 a3)) a0 a3
(k a0 ((bits .andNot .i64 a1 a3)) a0 a3 true)))))))))))))))))))))))))
((cond ((a3 == 0))
((zj34 false a0 a1 a0 a1
(k a0 a1 a0 a1 false)))
((cond ((a3 == a0))
((zj34 false a0 a1 a0 a1
(k a0 a1 a0 a1 false)))
((cond (((bits .andNot .i64 a3 a0) != 0))
((zj34 false a0 a1 a0 a1
(k a0 a1 a0 a1 false)))
((zj35 a2 a3 a0 0 0 0 0 a0 a1 a0 a1
((zj35 a2 a3 a0 0 0 0 0 a0 a1 a0 a1
((zj35 a2 a3 a0 0 0 0 0 a0 a1 a0 a1
((zj35 a2 a3 a0 0 0 0 0 a0 a1 a0 a1
((zj35 a2 a3 a0 0 0 0 0 a0 a1 a0 a1
((zj35 a2 a3 a0 0 0 0 0 a0 a1 a0 a1
((zj35 a2 a3 a0 0 0 0 0 a0 a1 a0 a1
((cond ((a2 == 65))
((zj36 true ((bits .andNot .i64 a0 a3)) a1 a3 a1
(k ((bits .andNot .i64 a0 a3)) a1 a3 a1 true)))
((zj36 true a0 ((bits .andNot .i64 a0 a3)) a0 a3
(k a0 ((bits .andNot .i64 a0 a3)) a0 a3 true))))))))))))))))))))))))))
theorem zt37 (N : Nat) (a0 : Int) (a1 : Int) (a2 : Int) (a3 : Int) (k : Int → Int → Int → Int → Bool → O β) : zj37 N a0 a1 a2 a3 k = zb37 N a0 a1 a2 a3 k := by
  unfold zj37 zb37
  rfl
theorem ve58_0 (N : Nat)  (a0 : Int) (a1 : Int) (a2 : Int) (a3 : Int) (K : TV → O β) : evFn lay (VE58 N) Tryd.f58 [.v (.agg [.int .i64 a0, .int .i64 a1]), .v (.one (.int .u8 a2)), .v (.one (.int .i64 a3))] K = zb37 N a0 a1 a2 a3 (fun z4 z5 z6 z7 z8 => K (.tup [.agg [.int .i64 z4, .int .i64 z5], .agg [.int .i64 z6, .int .i64 z7], .one (.bool z8)])) := by kernel_rfl
theorem e58_0 (N : Nat)  (a0 : Int) (a1 : Int) (a2 : Int) (a3 : Int) (K : TV → O β) : evFn lay (E58 N) Tryd.f58 [.v (.agg [.int .i64 a0, .int .i64 a1]), .v (.one (.int .u8 a2)), .v (.one (.int .i64 a3))] K = zj37 N a0 a1 a2 a3 (fun z4 z5 z6 z7 z8 => K (.tup [.agg [.int .i64 z4, .int .i64 z5], .agg [.int .i64 z6, .int .i64 z7], .one (.bool z8)])) := (ve58_0 N a0 a1 a2 a3 K).trans (zt37 N a0 a1 a2 a3 (fun z4 z5 z6 z7 z8 => K (.tup [.agg [.int .i64 z4, .int .i64 z5], .agg [.int .i64 z6, .int .i64 z7], .one (.bool z8)]))).symm
theorem o58 (N : Nat) : SpecOK (β := β) inv Tryd.prog 58 (S58 N) := by
  refine spec_of lay_ok mixed (E := E58 N) (specs_loops specs_nil) muts_nil gs_nil Tryd.func58 (by kernel_rfl) 0 (by kernel_rfl) trivial fun args K r h => ?_
  unfold S58 VS58 at h
  split at h
  · exact (e58_0 N _ _ _ _ _).trans h
  · cases h
def VS35 (N : Nat) (zq38 : (a0 : Int) → (a1 : Int) → (a2 : Int) → (k : Int → O β) → O β) : Rv.Spec β := fun args K => match args with
  | [.v (.agg [.int .i64 a0, .int .i64 a1]), .v (.one (.int .i64 a2))] => zq38 a0 a1 a2 (fun z3 => K (.v (.one (.int .i64 z3))))
  | _ => none
def S35 (N : Nat) : Rv.Spec β := VS35 N (zj38 N)
def VE35 (N : Nat) : Env β := ⟨[], [], [], [], ⟨[], [], [], []⟩⟩
def E35 (N : Nat) : Env β := VE35 N
def zb38 (N : Nat) (a0 : Int) (a1 : Int) (a2 : Int) (k : Int → O β) : O β :=
(gd ((decide (0 ≤ a2)))
(k ((bits .and .i64 (shrI .i64 a1 a2) 1))))
theorem zt38 (N : Nat) (a0 : Int) (a1 : Int) (a2 : Int) (k : Int → O β) : zj38 N a0 a1 a2 k = zb38 N a0 a1 a2 k := by
  unfold zj38 zb38
  rfl
theorem ve35_0 (N : Nat)  (a0 : Int) (a1 : Int) (a2 : Int) (K : TV → O β) : evFn lay (VE35 N) Tryd.f35 [.v (.agg [.int .i64 a0, .int .i64 a1]), .v (.one (.int .i64 a2))] K = zb38 N a0 a1 a2 (fun z3 => K (.v (.one (.int .i64 z3)))) := by kernel_rfl
theorem e35_0 (N : Nat)  (a0 : Int) (a1 : Int) (a2 : Int) (K : TV → O β) : evFn lay (E35 N) Tryd.f35 [.v (.agg [.int .i64 a0, .int .i64 a1]), .v (.one (.int .i64 a2))] K = zj38 N a0 a1 a2 (fun z3 => K (.v (.one (.int .i64 z3)))) := (ve35_0 N a0 a1 a2 K).trans (zt38 N a0 a1 a2 (fun z3 => K (.v (.one (.int .i64 z3))))).symm
theorem o35 (N : Nat) : SpecOK (β := β) inv Tryd.prog 35 (S35 N) := by
  refine spec_of lay_ok mixed (E := E35 N) (specs_loops specs_nil) muts_nil gs_nil Tryd.func35 (by kernel_rfl) 0 (by kernel_rfl) trivial fun args K r h => ?_
  unfold S35 VS35 at h
  split at h
  · exact (e35_0 N _ _ _ _).trans h
  · cases h
def VS56 (N : Nat) (zq41 : (a0 : Int) → (a1 : Int) → (a2 : Int) → (a3 : Int) → (a4 : Int) → (a5 : Mp) → (k0 : Int → Int → Int → Int → Mp → O β) → O β) : GSpec β := fun args bl K => match args, bl with
  | [.v (.one (.ptr 0 0)), .v (.agg [.int .i64 a0, .int .i64 a1])], [.pcells 0 83 [.int .i64 a2, .int .i64 a3, .int .i64 a4, .mp 1], .pmp 1 ⟨true, false⟩ a5] => zq41 a0 a1 a2 a3 a4 a5 (fun y0 y1 y2 y3 y4 => K (.v (.one (.int .i64 y0))) [.pcells 0 83 [.int .i64 y1, .int .i64 y2, .int .i64 y3, .mp 1], .pmp 1 ⟨true, false⟩ y4])
  | _, _ => none
def S56 (N : Nat) : GSpec β := VS56 N (zj41 N)
def h56_0_0  (v0 : Int) (v1 : Int) (v2 : Int) (v3 : Int) (v4 : Int) (v5 : Int) (v6 : Mp) (v7 : Int) (v8 : Int) : St := ⟨.v (.one (.ptr 0 0)) :: tund :: tund :: .v (.one (.ptr 2 0)) :: tund :: .v (.one (.int .i64 v0)) :: tund :: tund :: tund :: tund :: tund :: .v (.one (.int .i64 v1)) :: .v (.one (.int .i64 v2)) :: tund :: tund :: tund :: tund :: tund :: tund :: tund :: tund :: tund :: tund :: tund :: tund :: tund :: tund :: tund :: tund :: tund :: tund :: tund :: tund :: tund :: tund :: tund :: tund :: tund :: tund :: tund :: tund :: tund :: tund :: tund :: tund :: tund :: tund :: tund :: tund :: tund :: tund :: tund :: tund :: tund :: tund :: tund :: tund :: tund :: tund :: tund :: tund :: [], [.pcells 0 83 [.int .i64 v3, .int .i64 v4, .int .i64 v5, .mp 1], .pmp 1 ⟨true, false⟩ v6, .cells 45 [.int .i64 v7, .int .i64 v8]]⟩
def x56_0_0_k0  (y0 : Int) (y1 : Int) (y2 : Int) (y3 : Int) (y4 : Mp) : St := ⟨tund :: tund :: tund :: tund :: .v (.one (.int .i64 y0)) :: tund :: tund :: tund :: tund :: tund :: tund :: tund :: tund :: tund :: tund :: tund :: tund :: tund :: tund :: tund :: tund :: tund :: tund :: tund :: tund :: tund :: tund :: tund :: tund :: tund :: tund :: tund :: tund :: tund :: tund :: tund :: tund :: tund :: tund :: tund :: tund :: tund :: tund :: tund :: tund :: tund :: tund :: tund :: tund :: tund :: tund :: tund :: tund :: tund :: tund :: tund :: tund :: tund :: tund :: tund :: tund :: [], [.pcells 0 83 [.int .i64 y1, .int .i64 y2, .int .i64 y3, .mp 1], .pmp 1 ⟨true, false⟩ y4]⟩
def x56_0_0_k1  (y0 : Int) (y1 : Int) (y2 : Int) (y3 : Int) (y4 : Mp) : St := ⟨tund :: tund :: tund :: tund :: tund :: .v (.one (.int .i64 y0)) :: tund :: tund :: tund :: tund :: tund :: tund :: tund :: tund :: tund :: tund :: tund :: tund :: tund :: tund :: tund :: tund :: tund :: tund :: tund :: tund :: tund :: tund :: tund :: tund :: tund :: tund :: tund :: tund :: tund :: tund :: tund :: tund :: tund :: tund :: tund :: tund :: tund :: tund :: tund :: tund :: tund :: tund :: tund :: tund :: tund :: tund :: tund :: tund :: tund :: tund :: tund :: tund :: tund :: tund :: tund :: [], [.pcells 0 83 [.int .i64 y1, .int .i64 y2, .int .i64 y3, .mp 1], .pmp 1 ⟨true, false⟩ y4]⟩
theorem fl56_0_0 (s : St) : refSt (h56_0_0 0 0 0 0 0 0 [] 0 0) s = h56_0_0 (intS (oneA (vT (nx tund s.tmps 5)))) (intS (oneA (vT (nx tund s.tmps 11)))) (intS (oneA (vT (nx tund s.tmps 12)))) (intS (nx .und (cellsB (nx .dead s.blks 0)) 0)) (intS (nx .und (cellsB (nx .dead s.blks 0)) 1)) (intS (nx .und (cellsB (nx .dead s.blks 0)) 2)) (mpB (nx .dead s.blks 1)) (intS (nx .und (cellsB (nx .dead s.blks 2)) 0)) (intS (nx .und (cellsB (nx .dead s.blks 2)) 1)) := by kernel_rfl
def VLS56_0 (N : Nat) (zq40 : Nat → Int → Int → Int → Int → Int → Int → Mp → Int → Int → (Int → Int → Int → Int → Mp → O β) → (Int → Int → Int → Int → Mp → O β) → O β) : LSpec β := fun s K => cond (shpSt (h56_0_0 0 0 0 0 0 0 [] 0 0) s) ((fun (v0 : Int) (v1 : Int) (v2 : Int) (v3 : Int) (v4 : Int) (v5 : Int) (v6 : Mp) (v7 : Int) (v8 : Int) => zq40  N v0 v1 v2 v3 v4 v5 v6 v7 v8 (fun y0 y1 y2 y3 y4 => K .ret (x56_0_0_k0  y0 y1 y2 y3 y4)) (fun y0 y1 y2 y3 y4 => K (.exit 0) (x56_0_0_k1  y0 y1 y2 y3 y4))) (intS (oneA (vT (nx tund s.tmps 5)))) (intS (oneA (vT (nx tund s.tmps 11)))) (intS (oneA (vT (nx tund s.tmps 12)))) (intS (nx .und (cellsB (nx .dead s.blks 0)) 0)) (intS (nx .und (cellsB (nx .dead s.blks 0)) 1)) (intS (nx .und (cellsB (nx .dead s.blks 0)) 2)) (mpB (nx .dead s.blks 1)) (intS (nx .und (cellsB (nx .dead s.blks 2)) 0)) (intS (nx .und (cellsB (nx .dead s.blks 2)) 1))) (none)
def LS56_0 (N : Nat) : LSpec β := VLS56_0 N (zj40 N)
def VE56 (N : Nat) (zq29 : (a0 : Int) → (a1 : Int) → (k : Int → O β) → O β) (zq38 : (a0 : Int) → (a1 : Int) → (a2 : Int) → (k : Int → O β) → O β) (zq40 : Nat → Int → Int → Int → Int → Int → Int → Mp → Int → Int → (Int → Int → Int → Int → Mp → O β) → (Int → Int → Int → Int → Mp → O β) → O β) : Env β := ⟨[(64, VS64 N zq29), (35, VS35 N zq38)], [], [(0, VLS56_0 N zq40)], [], ⟨[], [], [], []⟩⟩
def E56 (N : Nat) : Env β := VE56 N (zj29 N) (zj38 N) (zj40 N)
def zb39 (N : Nat) (zq38 : (a0 : Int) → (a1 : Int) → (a2 : Int) → (k : Int → O β) → O β)  (v0 : Int) (v1 : Int) (v2 : Int) (v3 : Int) (v4 : Int) (v5 : Int) (v6 : Mp) (v7 : Int) (v8 : Int) (rec_ : Int → Int → Int → Int → Int → Int → Mp → Int → Int → O β) (k0 : Int → Int → Int → Int → Mp → O β) (k1 : Int → Int → Int → Int → Mp → O β) : O β :=
(cond ((decide (v2 < v1)))
((gd ((decide (0 ≤ v5)))
((gd ((decide (0 ≤ (bits .and .i64 v2 (w64 ((shlI .i64 1 v5) - 1))))))
((cond (((bits .and .i64 (shrI .i64 v7 (bits .and .i64 v2 (w64 ((shlI .i64 1 v5) - 1)))) 1) == 0))
(rec_ v0 v1 ((w64 (v2 + 1))) v3 v4 v5 v6 v7 v8)
((gd ((decide (0 ≤ v5)))
((gd ((decide (0 ≤ (shrI .i64 v2 v5))))
((cond (((bits .and .i64 (shrI .i64 v8 (shrI .i64 v2 v5)) 1) == 0))
(rec_ v0 v1 ((w64 (v2 + 1))) v3 v4 v5 v6 v7 v8)
((cond ((decide (v0 ≥ 0)))
(zq38 v3 v4 v2 fun r9 =>
(cond ((r9 != v0))
(k0 (-1) v3 v4 v5 v6)
(zq38 v3 v4 v2 fun r10 =>
rec_ r10 v1 ((w64 (v2 + 1))) v3 v4 v5 v6 v7 v8)))
(zq38 v3 v4 v2 fun r11 =>
rec_ r11 v1 ((w64 (v2 + 1))) v3 v4 v5 v6 v7 v8)))))))))))))))
(k1 v0 v3 v4 v5 v6))
theorem zt39 (N : Nat)  (v0 : Int) (v1 : Int) (v2 : Int) (v3 : Int) (v4 : Int) (v5 : Int) (v6 : Mp) (v7 : Int) (v8 : Int) (rec_ : Int → Int → Int → Int → Int → Int → Mp → Int → Int → O β) (k0 : Int → Int → Int → Int → Mp → O β) (k1 : Int → Int → Int → Int → Mp → O β) : zj39 N v0 v1 v2 v3 v4 v5 v6 v7 v8 rec_ k0 k1 = zb39 N (zj38 N) v0 v1 v2 v3 v4 v5 v6 v7 v8 rec_ k0 k1 := by
  unfold zj39 zb39
  rfl
theorem vst56_0_0 (N : Nat) (zq29 : (a0 : Int) → (a1 : Int) → (k : Int → O β) → O β) (zq38 : (a0 : Int) → (a1 : Int) → (a2 : Int) → (k : Int → O β) → O β) (zq40 : Nat → Int → Int → Int → Int → Int → Int → Mp → Int → Int → (Int → Int → Int → Int → Mp → O β) → (Int → Int → Int → Int → Mp → O β) → O β)  (v0 : Int) (v1 : Int) (v2 : Int) (v3 : Int) (v4 : Int) (v5 : Int) (v6 : Mp) (v7 : Int) (v8 : Int) (rec_ : St → O β) (K : Exit → St → O β) :
    ev lay (VE56 N zq29 zq38 zq40) (retMask Tryd.f56) (lp Tryd.f56 0).body (lp Tryd.f56 0).ex ((lp Tryd.f56 0).lv (retMask Tryd.f56)) (h56_0_0  v0 v1 v2 v3 v4 v5 v6 v7 v8) (nextR (fun s' => rec_ (s'.tidy ((lp Tryd.f56 0).lv (retMask Tryd.f56)))) K) = zb39 N zq38  v0 v1 v2 v3 v4 v5 v6 v7 v8 (fun v0 v1 v2 v3 v4 v5 v6 v7 v8 => rec_ (h56_0_0  v0 v1 v2 v3 v4 v5 v6 v7 v8)) (fun y0 y1 y2 y3 y4 => K .ret (x56_0_0_k0  y0 y1 y2 y3 y4)) (fun y0 y1 y2 y3 y4 => K (.exit 0) (x56_0_0_k1  y0 y1 y2 y3 y4)) := by kernel_rfl
theorem st56_0_0 (N : Nat)  (v0 : Int) (v1 : Int) (v2 : Int) (v3 : Int) (v4 : Int) (v5 : Int) (v6 : Mp) (v7 : Int) (v8 : Int) (rec_ : St → O β) (K : Exit → St → O β) :
    ev lay (E56 N) (retMask Tryd.f56) (lp Tryd.f56 0).body (lp Tryd.f56 0).ex ((lp Tryd.f56 0).lv (retMask Tryd.f56)) (h56_0_0  v0 v1 v2 v3 v4 v5 v6 v7 v8) (nextR (fun s' => rec_ (s'.tidy ((lp Tryd.f56 0).lv (retMask Tryd.f56)))) K) = zj39 N  v0 v1 v2 v3 v4 v5 v6 v7 v8 (fun v0 v1 v2 v3 v4 v5 v6 v7 v8 => rec_ (h56_0_0  v0 v1 v2 v3 v4 v5 v6 v7 v8)) (fun y0 y1 y2 y3 y4 => K .ret (x56_0_0_k0  y0 y1 y2 y3 y4)) (fun y0 y1 y2 y3 y4 => K (.exit 0) (x56_0_0_k1  y0 y1 y2 y3 y4)) := (vst56_0_0 N (zj29 N) (zj38 N) (zj40 N) v0 v1 v2 v3 v4 v5 v6 v7 v8 rec_ K).trans (zt39 N  v0 v1 v2 v3 v4 v5 v6 v7 v8 (fun v0 v1 v2 v3 v4 v5 v6 v7 v8 => rec_ (h56_0_0  v0 v1 v2 v3 v4 v5 v6 v7 v8)) (fun y0 y1 y2 y3 y4 => K .ret (x56_0_0_k0  y0 y1 y2 y3 y4)) (fun y0 y1 y2 y3 y4 => K (.exit 0) (x56_0_0_k1  y0 y1 y2 y3 y4))).symm
theorem ro56_0_0 (N : Nat)  (K : Exit → St → O β) : ∀ (F : Nat) (v0 : Int) (v1 : Int) (v2 : Int) (v3 : Int) (v4 : Int) (v5 : Int) (v6 : Mp) (v7 : Int) (v8 : Int), (lp Tryd.f56 0).rounds lay (E56 N) (retMask Tryd.f56) F (h56_0_0  v0 v1 v2 v3 v4 v5 v6 v7 v8) K = zj40 N  F v0 v1 v2 v3 v4 v5 v6 v7 v8 (fun y0 y1 y2 y3 y4 => K .ret (x56_0_0_k0  y0 y1 y2 y3 y4)) (fun y0 y1 y2 y3 y4 => K (.exit 0) (x56_0_0_k1  y0 y1 y2 y3 y4)) := by
  intro F
  induction F with
  | zero => intros; rfl
  | succ F ih =>
    intros
    rw [rounds_next]
    refine (st56_0_0 N  _ _ _ _ _ _ _ _ _ (fun s => (lp Tryd.f56 0).rounds lay (E56 N) (retMask Tryd.f56) F s K) K).trans ?_
    simp only [ih]
    rfl
theorem lk56_0 (N : Nat) : lookL (E56 (β := β) N).loops (lp Tryd.f56 0).id = LS56_0 N := by kernel_rfl
theorem rk56_0 (N : Nat) : RoundsOK lay (E56 (β := β) N) (retMask Tryd.f56) (lp Tryd.f56 0) := by
  intro s K r h
  rw [lk56_0] at h
  unfold LS56_0 VLS56_0 at h
  cases hb : shpSt (h56_0_0 0 0 0 0 0 0 [] 0 0) s with
  | true =>
    rw [hb, cond_true] at h
    exact ⟨N, by rw [← shpSt_ref hb, fl56_0_0 s]; exact (ro56_0_0 N  K N (intS (oneA (vT (nx tund s.tmps 5)))) (intS (oneA (vT (nx tund s.tmps 11)))) (intS (oneA (vT (nx tund s.tmps 12)))) (intS (nx .und (cellsB (nx .dead s.blks 0)) 0)) (intS (nx .und (cellsB (nx .dead s.blks 0)) 1)) (intS (nx .und (cellsB (nx .dead s.blks 0)) 2)) (mpB (nx .dead s.blks 1)) (intS (nx .und (cellsB (nx .dead s.blks 2)) 0)) (intS (nx .und (cellsB (nx .dead s.blks 2)) 1))).trans h⟩
  | false =>
  rw [hb, cond_false] at h
  clear hb
  cases h
def zb41 (N : Nat) (zq29 : (a0 : Int) → (a1 : Int) → (k : Int → O β) → O β) (zq40 : Nat → Int → Int → Int → Int → Int → Int → Mp → Int → Int → (Int → Int → Int → Int → Mp → O β) → (Int → Int → Int → Int → Mp → O β) → O β) (a0 : Int) (a1 : Int) (a2 : Int) (a3 : Int) (a4 : Int) (a5 : Mp) (k0 : Int → Int → Int → Int → Mp → O β) : O β :=
zq29 a2 a3 fun r8 =>
zq40  N (-1) r8 0 a2 a3 a4 a5 a0 a1 (fun e12_0 e12_1 e12_2 e12_3 e12_4 =>
k0 e12_0 e12_1 e12_2 e12_3 e12_4) (fun e13_0 e13_1 e13_2 e13_3 e13_4 =>
k0 e13_0 e13_1 e13_2 e13_3 e13_4)
theorem zt41 (N : Nat) (a0 : Int) (a1 : Int) (a2 : Int) (a3 : Int) (a4 : Int) (a5 : Mp) (k0 : Int → Int → Int → Int → Mp → O β) : zj41 N a0 a1 a2 a3 a4 a5 k0 = zb41 N (zj29 N) (zj40 N) a0 a1 a2 a3 a4 a5 k0 := by
  unfold zj41 zb41
  rfl
theorem ve56_0 (N : Nat) (zq29 : (a0 : Int) → (a1 : Int) → (k : Int → O β) → O β) (zq38 : (a0 : Int) → (a1 : Int) → (a2 : Int) → (k : Int → O β) → O β) (zq40 : Nat → Int → Int → Int → Int → Int → Int → Mp → Int → Int → (Int → Int → Int → Int → Mp → O β) → (Int → Int → Int → Int → Mp → O β) → O β) (a0 : Int) (a1 : Int) (a2 : Int) (a3 : Int) (a4 : Int) (a5 : Mp) (K : TV → List Blk → O β) : evFnG lay (VE56 N zq29 zq38 zq40) Tryd.f56 [.v (.one (.ptr 0 0)), .v (.agg [.int .i64 a0, .int .i64 a1])] [.pcells 0 83 [.int .i64 a2, .int .i64 a3, .int .i64 a4, .mp 1], .pmp 1 ⟨true, false⟩ a5] K = zb41 N zq29 zq40 a0 a1 a2 a3 a4 a5 (fun y0 y1 y2 y3 y4 => K (.v (.one (.int .i64 y0))) [.pcells 0 83 [.int .i64 y1, .int .i64 y2, .int .i64 y3, .mp 1], .pmp 1 ⟨true, false⟩ y4]) := by kernel_rfl
theorem e56_0 (N : Nat) (a0 : Int) (a1 : Int) (a2 : Int) (a3 : Int) (a4 : Int) (a5 : Mp) (K : TV → List Blk → O β) : evFnG lay (E56 N) Tryd.f56 [.v (.one (.ptr 0 0)), .v (.agg [.int .i64 a0, .int .i64 a1])] [.pcells 0 83 [.int .i64 a2, .int .i64 a3, .int .i64 a4, .mp 1], .pmp 1 ⟨true, false⟩ a5] K = zj41 N a0 a1 a2 a3 a4 a5 (fun y0 y1 y2 y3 y4 => K (.v (.one (.int .i64 y0))) [.pcells 0 83 [.int .i64 y1, .int .i64 y2, .int .i64 y3, .mp 1], .pmp 1 ⟨true, false⟩ y4]) := (ve56_0 N (zj29 N) (zj38 N) (zj40 N) a0 a1 a2 a3 a4 a5 K).trans (zt41 N a0 a1 a2 a3 a4 a5 (fun y0 y1 y2 y3 y4 => K (.v (.one (.int .i64 y0))) [.pcells 0 83 [.int .i64 y1, .int .i64 y2, .int .i64 y3, .mp 1], .pmp 1 ⟨true, false⟩ y4])).symm
theorem o56 (N : Nat) : GOK (β := β) inv Tryd.prog 56 (S56 N) := by
  refine g_of lay_ok mixed (E := E56 N) (specs_loops (specs_cons (o64 N) (specs_cons (o35 N) specs_nil))) muts_nil gs_nil Tryd.func56 (by kernel_rfl) 1 (by kernel_rfl) ⟨trivial, rk56_0 N⟩ fun args bl K r h => ?_
  unfold S56 VS56 at h
  split at h
  · exact (e56_0 N _ _ _ _ _ _ _).trans h
  · cases h
end Go.Proofs.YtddflpokemgnmaaDoor
