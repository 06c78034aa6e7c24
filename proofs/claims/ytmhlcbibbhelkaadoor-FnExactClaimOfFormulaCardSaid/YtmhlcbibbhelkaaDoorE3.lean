/- The functions that the claims reach answer as their texts do. -/
import Derived.Test.YtmhlcbibbhelkaaDoorE2
namespace Go.Proofs.YtmhlcbibbhelkaaDoor
open Go.Rv
set_option maxRecDepth 100000
set_option maxHeartbeats 2000000
set_option linter.unusedVariables false
variable {β : Type}
def VS11 (N : Nat) (zq28 : (a0 : Int) → (a1 : Int) → (k : Int → O β) → O β) : Rv.Spec β := fun args K => match args with
  | [.v (.agg [.int .i64 a0, .int .i64 a1])] => zq28 a0 a1 (fun z2 => K (.v (.one (.int .i64 z2))))
  | _ => none
def S11 (N : Nat) : Rv.Spec β := VS11 N (zj28 N)
def VE11 (N : Nat) (zq14 : (a0 : Int) → (a1 : Int) → (k : Bool → O β) → O β) : Env β := ⟨[(18, VS18 N zq14), (20, S20 N)], [], [], [], ⟨[], [], [], []⟩⟩
def E11 (N : Nat) : Env β := VE11 N (zj14 N)
def zb28 (N : Nat) (zq14 : (a0 : Int) → (a1 : Int) → (k : Bool → O β) → O β) (a0 : Int) (a1 : Int) (k : Int → O β) : O β :=
zq14 a0 a1 fun r3 =>
(cond (!r3)
(k (-1))
((cond ((decide (a0 > 3)))
(k (-1))
(spec_l22Sizes N a0 fun r4 =>
(gd ((decide (0 ≤ a1)))
((gd ((decide (a1 < (r4.length : Int))))
(k ((rd 0 r4 a1))))))))))
theorem zt28 (N : Nat) (a0 : Int) (a1 : Int) (k : Int → O β) : zj28 N a0 a1 k = zb28 N (zj14 N) a0 a1 k := by
  unfold zj28 zb28
  rfl
theorem ve11_0 (N : Nat) (zq14 : (a0 : Int) → (a1 : Int) → (k : Bool → O β) → O β)  (a0 : Int) (a1 : Int) (K : TV → O β) : evFn lay (VE11 N zq14) Tryd.f11 [.v (.agg [.int .i64 a0, .int .i64 a1])] K = zb28 N zq14 a0 a1 (fun z2 => K (.v (.one (.int .i64 z2)))) := by kernel_rfl
theorem e11_0 (N : Nat)  (a0 : Int) (a1 : Int) (K : TV → O β) : evFn lay (E11 N) Tryd.f11 [.v (.agg [.int .i64 a0, .int .i64 a1])] K = zj28 N a0 a1 (fun z2 => K (.v (.one (.int .i64 z2)))) := (ve11_0 N (zj14 N) a0 a1 K).trans (zt28 N a0 a1 (fun z2 => K (.v (.one (.int .i64 z2))))).symm
theorem o11 (N : Nat) : SpecOK (β := β) inv Tryd.prog 11 (S11 N) := by
  refine spec_of lay_ok mixed (E := E11 N) (specs_loops (specs_cons (o18 N) (specs_cons (o20 N) specs_nil))) muts_nil gs_nil Tryd.func11 (by kernel_rfl) 0 (by kernel_rfl) trivial fun args K r h => ?_
  unfold S11 VS11 at h
  split at h
  · exact (e11_0 N _ _ _).trans h
  · cases h
def VS4 (N : Nat) (zq29 : (a0 : Int) → (a1 : Int) → (k : Int → Int → Int → Int → Int → ByteArray → List Int → Bool → O β) → O β) : Rv.Spec β := fun args K => match args with
  | [.v (.agg [.int .i64 a0, .int .i64 a1])] => zq29 a0 a1 (fun z2 z3 z4 z5 z6 z7 z8 z9 => K (.tup [.agg [.int .i64 z2, .int .i64 z3, .int .i64 z4, .int .i64 z5, .int .i64 z6, .str z7, .sl 3 (.ints .i64 z8)], .one (.bool z9)]))
  | _ => none
def S4 (N : Nat) : Rv.Spec β := VS4 N (zj29 N)
def VE4 (N : Nat) (zq27 : (a0 : Int) → (a1 : Int) → (k : ByteArray → Bool → O β) → O β) (zq28 : (a0 : Int) → (a1 : Int) → (k : Int → O β) → O β) : Env β := ⟨[(10, VS10 N zq27), (11, VS11 N zq28)], [], [], [], ⟨[], [], [], []⟩⟩
def E4 (N : Nat) : Env β := VE4 N (zj27 N) (zj28 N)
def zb29 (N : Nat) (zq27 : (a0 : Int) → (a1 : Int) → (k : ByteArray → Bool → O β) → O β) (zq28 : (a0 : Int) → (a1 : Int) → (k : Int → O β) → O β) (a0 : Int) (a1 : Int) (k : Int → Int → Int → Int → Int → ByteArray → List Int → Bool → O β) : O β :=
zq27 a0 a1 fun r10 r11 =>
(cond (!r11)
(k 0 0 0 0 0 ByteArray.empty (([] : List Int)) false)
(zq28 a0 a1 fun r12 =>
k 4 a0 a1 r12 0 r10 (([] : List Int)) true))
theorem zt29 (N : Nat) (a0 : Int) (a1 : Int) (k : Int → Int → Int → Int → Int → ByteArray → List Int → Bool → O β) : zj29 N a0 a1 k = zb29 N (zj27 N) (zj28 N) a0 a1 k := by
  unfold zj29 zb29
  rfl
theorem ve4_0 (N : Nat) (zq27 : (a0 : Int) → (a1 : Int) → (k : ByteArray → Bool → O β) → O β) (zq28 : (a0 : Int) → (a1 : Int) → (k : Int → O β) → O β)  (a0 : Int) (a1 : Int) (K : TV → O β) : evFn lay (VE4 N zq27 zq28) Tryd.f4 [.v (.agg [.int .i64 a0, .int .i64 a1])] K = zb29 N zq27 zq28 a0 a1 (fun z2 z3 z4 z5 z6 z7 z8 z9 => K (.tup [.agg [.int .i64 z2, .int .i64 z3, .int .i64 z4, .int .i64 z5, .int .i64 z6, .str z7, .sl 3 (.ints .i64 z8)], .one (.bool z9)])) := by kernel_rfl
theorem e4_0 (N : Nat)  (a0 : Int) (a1 : Int) (K : TV → O β) : evFn lay (E4 N) Tryd.f4 [.v (.agg [.int .i64 a0, .int .i64 a1])] K = zj29 N a0 a1 (fun z2 z3 z4 z5 z6 z7 z8 z9 => K (.tup [.agg [.int .i64 z2, .int .i64 z3, .int .i64 z4, .int .i64 z5, .int .i64 z6, .str z7, .sl 3 (.ints .i64 z8)], .one (.bool z9)])) := (ve4_0 N (zj27 N) (zj28 N) a0 a1 K).trans (zt29 N a0 a1 (fun z2 z3 z4 z5 z6 z7 z8 z9 => K (.tup [.agg [.int .i64 z2, .int .i64 z3, .int .i64 z4, .int .i64 z5, .int .i64 z6, .str z7, .sl 3 (.ints .i64 z8)], .one (.bool z9)]))).symm
theorem o4 (N : Nat) : SpecOK (β := β) inv Tryd.prog 4 (S4 N) := by
  refine spec_of lay_ok mixed (E := E4 N) (specs_loops (specs_cons (o10 N) (specs_cons (o11 N) specs_nil))) muts_nil gs_nil Tryd.func4 (by kernel_rfl) 0 (by kernel_rfl) trivial fun args K r h => ?_
  unfold S4 VS4 at h
  split at h
  · exact (e4_0 N _ _ _).trans h
  · cases h
def VS36 (N : Nat) (zq30 : (a0 : Int) → (k : Bool → O β) → O β) : Rv.Spec β := fun args K => match args with
  | [.v (.one (.int .i64 a0))] => zq30 a0 (fun z1 => K (.v (.one (.bool z1))))
  | _ => none
def S36 (N : Nat) : Rv.Spec β := VS36 N (zj30 N)
def VE36 (N : Nat) : Env β := ⟨[], [], [], [], ⟨[], [], [], []⟩⟩
def E36 (N : Nat) : Env β := VE36 N
def zb30 (N : Nat) (a0 : Int) (k : Bool → O β) : O β :=
(cond ((decide (a0 ≥ 0)))
(k ((decide (a0 ≤ 5))))
(k false))
theorem zt30 (N : Nat) (a0 : Int) (k : Bool → O β) : zj30 N a0 k = zb30 N a0 k := by
  unfold zj30 zb30
  rfl
theorem ve36_0 (N : Nat)  (a0 : Int) (K : TV → O β) : evFn lay (VE36 N) Tryd.f36 [.v (.one (.int .i64 a0))] K = zb30 N a0 (fun z1 => K (.v (.one (.bool z1)))) := by kernel_rfl
theorem e36_0 (N : Nat)  (a0 : Int) (K : TV → O β) : evFn lay (E36 N) Tryd.f36 [.v (.one (.int .i64 a0))] K = zj30 N a0 (fun z1 => K (.v (.one (.bool z1)))) := (ve36_0 N a0 K).trans (zt30 N a0 (fun z1 => K (.v (.one (.bool z1))))).symm
theorem o36 (N : Nat) : SpecOK (β := β) inv Tryd.prog 36 (S36 N) := by
  refine spec_of lay_ok mixed (E := E36 N) (specs_loops specs_nil) muts_nil gs_nil Tryd.func36 (by kernel_rfl) 0 (by kernel_rfl) trivial fun args K r h => ?_
  unfold S36 VS36 at h
  split at h
  · exact (e36_0 N _ _).trans h
  · cases h
def VS37 (N : Nat) (zq31 : (a0 : Int) → (a1 : Int) → (k : Int → O β) → O β) : Rv.Spec β := fun args K => match args with
  | [.v (.agg [.int .i64 a0, .int .i64 a1])] => zq31 a0 a1 (fun z2 => K (.v (.one (.int .i64 z2))))
  | _ => none
def S37 (N : Nat) : Rv.Spec β := VS37 N (zj31 N)
def VE37 (N : Nat) : Env β := ⟨[], [], [], [], ⟨[], [], [], []⟩⟩
def E37 (N : Nat) : Env β := VE37 N
def zb31 (N : Nat) (a0 : Int) (a1 : Int) (k : Int → O β) : O β :=
(gd ((decide (0 ≤ a0)))
(k ((shlI .i64 1 a0))))
theorem zt31 (N : Nat) (a0 : Int) (a1 : Int) (k : Int → O β) : zj31 N a0 a1 k = zb31 N a0 a1 k := by
  unfold zj31 zb31
  rfl
theorem ve37_0 (N : Nat)  (a0 : Int) (a1 : Int) (K : TV → O β) : evFn lay (VE37 N) Tryd.f37 [.v (.agg [.int .i64 a0, .int .i64 a1])] K = zb31 N a0 a1 (fun z2 => K (.v (.one (.int .i64 z2)))) := by kernel_rfl
theorem e37_0 (N : Nat)  (a0 : Int) (a1 : Int) (K : TV → O β) : evFn lay (E37 N) Tryd.f37 [.v (.agg [.int .i64 a0, .int .i64 a1])] K = zj31 N a0 a1 (fun z2 => K (.v (.one (.int .i64 z2)))) := (ve37_0 N a0 a1 K).trans (zt31 N a0 a1 (fun z2 => K (.v (.one (.int .i64 z2))))).symm
theorem o37 (N : Nat) : SpecOK (β := β) inv Tryd.prog 37 (S37 N) := by
  refine spec_of lay_ok mixed (E := E37 N) (specs_loops specs_nil) muts_nil gs_nil Tryd.func37 (by kernel_rfl) 0 (by kernel_rfl) trivial fun args K r h => ?_
  unfold S37 VS37 at h
  split at h
  · exact (e37_0 N _ _ _).trans h
  · cases h
def VS27 (N : Nat) (zq32 : (a0 : Int) → (a1 : Int) → (k : Bool → O β) → O β) : Rv.Spec β := fun args K => match args with
  | [.v (.agg [.int .i64 a0, .int .i64 a1])] => zq32 a0 a1 (fun z2 => K (.v (.one (.bool z2))))
  | _ => none
def S27 (N : Nat) : Rv.Spec β := VS27 N (zj32 N)
def VE27 (N : Nat) (zq30 : (a0 : Int) → (k : Bool → O β) → O β) (zq31 : (a0 : Int) → (a1 : Int) → (k : Int → O β) → O β) : Env β := ⟨[(36, VS36 N zq30), (37, VS37 N zq31)], [], [], [], ⟨[], [], [], []⟩⟩
def E27 (N : Nat) : Env β := VE27 N (zj30 N) (zj31 N)
def zb32 (N : Nat) (zq30 : (a0 : Int) → (k : Bool → O β) → O β) (zq31 : (a0 : Int) → (a1 : Int) → (k : Int → O β) → O β) (a0 : Int) (a1 : Int) (k : Bool → O β) : O β :=
zq30 a0 fun r3 =>
(cond r3
((cond ((decide (a1 ≥ 0)))
(zq31 a0 a1 fun r4 =>
(gd ((decide (0 ≤ r4)))
(k (((shrI .i64 a1 r4) == 0)))))
(k false)))
(k false))
theorem zt32 (N : Nat) (a0 : Int) (a1 : Int) (k : Bool → O β) : zj32 N a0 a1 k = zb32 N (zj30 N) (zj31 N) a0 a1 k := by
  unfold zj32 zb32
  rfl
theorem ve27_0 (N : Nat) (zq30 : (a0 : Int) → (k : Bool → O β) → O β) (zq31 : (a0 : Int) → (a1 : Int) → (k : Int → O β) → O β)  (a0 : Int) (a1 : Int) (K : TV → O β) : evFn lay (VE27 N zq30 zq31) Tryd.f27 [.v (.agg [.int .i64 a0, .int .i64 a1])] K = zb32 N zq30 zq31 a0 a1 (fun z2 => K (.v (.one (.bool z2)))) := by kernel_rfl
theorem e27_0 (N : Nat)  (a0 : Int) (a1 : Int) (K : TV → O β) : evFn lay (E27 N) Tryd.f27 [.v (.agg [.int .i64 a0, .int .i64 a1])] K = zj32 N a0 a1 (fun z2 => K (.v (.one (.bool z2)))) := (ve27_0 N (zj30 N) (zj31 N) a0 a1 K).trans (zt32 N a0 a1 (fun z2 => K (.v (.one (.bool z2))))).symm
theorem o27 (N : Nat) : SpecOK (β := β) inv Tryd.prog 27 (S27 N) := by
  refine spec_of lay_ok mixed (E := E27 N) (specs_loops (specs_cons (o36 N) (specs_cons (o37 N) specs_nil))) muts_nil gs_nil Tryd.func27 (by kernel_rfl) 0 (by kernel_rfl) trivial fun args K r h => ?_
  unfold S27 VS27 at h
  split at h
  · exact (e27_0 N _ _ _).trans h
  · cases h
def VS21 (N : Nat) (zq33 : (a0 : Int) → (a1 : Int) → (a2 : Int) → (k : Bool → O β) → O β) : Rv.Spec β := fun args K => match args with
  | [.v (.agg [.int .i64 a0, .int .i64 a1]), .v (.one (.int .i64 a2))] => zq33 a0 a1 a2 (fun z3 => K (.v (.one (.bool z3))))
  | _ => none
def S21 (N : Nat) : Rv.Spec β := VS21 N (zj33 N)
def VE21 (N : Nat) (zq32 : (a0 : Int) → (a1 : Int) → (k : Bool → O β) → O β) : Env β := ⟨[(27, VS27 N zq32)], [], [], [], ⟨[], [], [], []⟩⟩
def E21 (N : Nat) : Env β := VE21 N (zj32 N)
def zb33 (N : Nat) (zq32 : (a0 : Int) → (a1 : Int) → (k : Bool → O β) → O β) (a0 : Int) (a1 : Int) (a2 : Int) (k : Bool → O β) : O β :=
zq32 a0 a1 fun r4 =>
(cond r4
(k ((decide (a0 ≤ a2))))
(k false))
theorem zt33 (N : Nat) (a0 : Int) (a1 : Int) (a2 : Int) (k : Bool → O β) : zj33 N a0 a1 a2 k = zb33 N (zj32 N) a0 a1 a2 k := by
  unfold zj33 zb33
  rfl
theorem ve21_0 (N : Nat) (zq32 : (a0 : Int) → (a1 : Int) → (k : Bool → O β) → O β)  (a0 : Int) (a1 : Int) (a2 : Int) (K : TV → O β) : evFn lay (VE21 N zq32) Tryd.f21 [.v (.agg [.int .i64 a0, .int .i64 a1]), .v (.one (.int .i64 a2))] K = zb33 N zq32 a0 a1 a2 (fun z3 => K (.v (.one (.bool z3)))) := by kernel_rfl
theorem e21_0 (N : Nat)  (a0 : Int) (a1 : Int) (a2 : Int) (K : TV → O β) : evFn lay (E21 N) Tryd.f21 [.v (.agg [.int .i64 a0, .int .i64 a1]), .v (.one (.int .i64 a2))] K = zj33 N a0 a1 a2 (fun z3 => K (.v (.one (.bool z3)))) := (ve21_0 N (zj32 N) a0 a1 a2 K).trans (zt33 N a0 a1 a2 (fun z3 => K (.v (.one (.bool z3))))).symm
theorem o21 (N : Nat) : SpecOK (β := β) inv Tryd.prog 21 (S21 N) := by
  refine spec_of lay_ok mixed (E := E21 N) (specs_loops (specs_cons (o27 N) specs_nil)) muts_nil gs_nil Tryd.func21 (by kernel_rfl) 0 (by kernel_rfl) trivial fun args K r h => ?_
  unfold S21 VS21 at h
  split at h
  · exact (e21_0 N _ _ _ _).trans h
  · cases h
def VS32 (N : Nat) (zq34 : (a0 : Int) → (a1 : Int) → (k : Int → Int → O β) → O β) : Rv.Spec β := fun args K => match args with
  | [.v (.agg [.int .i64 a0, .int .i64 a1])] => zq34 a0 a1 (fun z2 z3 => K (.v (.agg [.int .i64 z2, .int .i64 z3])))
  | _ => none
def S32 (N : Nat) : Rv.Spec β := VS32 N (zj34 N)
def VE32 (N : Nat) (zq31 : (a0 : Int) → (a1 : Int) → (k : Int → O β) → O β) : Env β := ⟨[(37, VS37 N zq31)], [], [], [], ⟨[], [], [], []⟩⟩
def E32 (N : Nat) : Env β := VE32 N (zj31 N)
def zb34 (N : Nat) (zq31 : (a0 : Int) → (a1 : Int) → (k : Int → O β) → O β) (a0 : Int) (a1 : Int) (k : Int → Int → O β) : O β :=
zq31 a0 a1 fun r4 =>
(gd ((decide (0 ≤ r4)))
(k a0 ((bits .xor .i64 a1 (w64 ((shlI .i64 1 r4) - 1))))))
theorem zt34 (N : Nat) (a0 : Int) (a1 : Int) (k : Int → Int → O β) : zj34 N a0 a1 k = zb34 N (zj31 N) a0 a1 k := by
  unfold zj34 zb34
  rfl
theorem ve32_0 (N : Nat) (zq31 : (a0 : Int) → (a1 : Int) → (k : Int → O β) → O β)  (a0 : Int) (a1 : Int) (K : TV → O β) : evFn lay (VE32 N zq31) Tryd.f32 [.v (.agg [.int .i64 a0, .int .i64 a1])] K = zb34 N zq31 a0 a1 (fun z2 z3 => K (.v (.agg [.int .i64 z2, .int .i64 z3]))) := by kernel_rfl
theorem e32_0 (N : Nat)  (a0 : Int) (a1 : Int) (K : TV → O β) : evFn lay (E32 N) Tryd.f32 [.v (.agg [.int .i64 a0, .int .i64 a1])] K = zj34 N a0 a1 (fun z2 z3 => K (.v (.agg [.int .i64 z2, .int .i64 z3]))) := (ve32_0 N (zj31 N) a0 a1 K).trans (zt34 N a0 a1 (fun z2 z3 => K (.v (.agg [.int .i64 z2, .int .i64 z3])))).symm
theorem o32 (N : Nat) : SpecOK (β := β) inv Tryd.prog 32 (S32 N) := by
  refine spec_of lay_ok mixed (E := E32 N) (specs_loops (specs_cons (o37 N) specs_nil)) muts_nil gs_nil Tryd.func32 (by kernel_rfl) 0 (by kernel_rfl) trivial fun args K r h => ?_
  unfold S32 VS32 at h
  split at h
  · exact (e32_0 N _ _ _).trans h
  · cases h
def VS28 (N : Nat) (zq35 : (a0 : Int) → (a1 : Int) → (k : Bool → O β) → O β) : Rv.Spec β := fun args K => match args with
  | [.v (.agg [.int .i64 a0, .int .i64 a1])] => zq35 a0 a1 (fun z2 => K (.v (.one (.bool z2))))
  | _ => none
def S28 (N : Nat) : Rv.Spec β := VS28 N (zj35 N)
def VE28 (N : Nat) (zq34 : (a0 : Int) → (a1 : Int) → (k : Int → Int → O β) → O β) : Env β := ⟨[(32, VS32 N zq34)], [], [], [], ⟨[], [], [], []⟩⟩
def E28 (N : Nat) : Env β := VE28 N (zj34 N)
def zb35 (N : Nat) (zq34 : (a0 : Int) → (a1 : Int) → (k : Int → Int → O β) → O β) (a0 : Int) (a1 : Int) (k : Bool → O β) : O β :=
(cond ((a1 == 0))
(k true)
(zq34 a0 a1 fun r3 r4 =>
k ((r4 == 0))))
theorem zt35 (N : Nat) (a0 : Int) (a1 : Int) (k : Bool → O β) : zj35 N a0 a1 k = zb35 N (zj34 N) a0 a1 k := by
  unfold zj35 zb35
  rfl
theorem ve28_0 (N : Nat) (zq34 : (a0 : Int) → (a1 : Int) → (k : Int → Int → O β) → O β)  (a0 : Int) (a1 : Int) (K : TV → O β) : evFn lay (VE28 N zq34) Tryd.f28 [.v (.agg [.int .i64 a0, .int .i64 a1])] K = zb35 N zq34 a0 a1 (fun z2 => K (.v (.one (.bool z2)))) := by kernel_rfl
theorem e28_0 (N : Nat)  (a0 : Int) (a1 : Int) (K : TV → O β) : evFn lay (E28 N) Tryd.f28 [.v (.agg [.int .i64 a0, .int .i64 a1])] K = zj35 N a0 a1 (fun z2 => K (.v (.one (.bool z2)))) := (ve28_0 N (zj34 N) a0 a1 K).trans (zt35 N a0 a1 (fun z2 => K (.v (.one (.bool z2))))).symm
theorem o28 (N : Nat) : SpecOK (β := β) inv Tryd.prog 28 (S28 N) := by
  refine spec_of lay_ok mixed (E := E28 N) (specs_loops (specs_cons (o32 N) specs_nil)) muts_nil gs_nil Tryd.func28 (by kernel_rfl) 0 (by kernel_rfl) trivial fun args K r h => ?_
  unfold S28 VS28 at h
  split at h
  · exact (e28_0 N _ _ _).trans h
  · cases h
def VS30 (N : Nat) (zq36 : (a0 : Int) → (a1 : Int) → (a2 : Int) → (k : Int → O β) → O β) : Rv.Spec β := fun args K => match args with
  | [.v (.agg [.int .i64 a0, .int .i64 a1]), .v (.one (.int .i64 a2))] => zq36 a0 a1 a2 (fun z3 => K (.v (.one (.int .i64 z3))))
  | _ => none
def S30 (N : Nat) : Rv.Spec β := VS30 N (zj36 N)
def VE30 (N : Nat) : Env β := ⟨[], [], [], [], ⟨[], [], [], []⟩⟩
def E30 (N : Nat) : Env β := VE30 N
def zb36 (N : Nat) (a0 : Int) (a1 : Int) (a2 : Int) (k : Int → O β) : O β :=
(gd ((decide (0 ≤ a2)))
(k ((bits .and .i64 (shrI .i64 a1 a2) 1))))
theorem zt36 (N : Nat) (a0 : Int) (a1 : Int) (a2 : Int) (k : Int → O β) : zj36 N a0 a1 a2 k = zb36 N a0 a1 a2 k := by
  unfold zj36 zb36
  rfl
theorem ve30_0 (N : Nat)  (a0 : Int) (a1 : Int) (a2 : Int) (K : TV → O β) : evFn lay (VE30 N) Tryd.f30 [.v (.agg [.int .i64 a0, .int .i64 a1]), .v (.one (.int .i64 a2))] K = zb36 N a0 a1 a2 (fun z3 => K (.v (.one (.int .i64 z3)))) := by kernel_rfl
theorem e30_0 (N : Nat)  (a0 : Int) (a1 : Int) (a2 : Int) (K : TV → O β) : evFn lay (E30 N) Tryd.f30 [.v (.agg [.int .i64 a0, .int .i64 a1]), .v (.one (.int .i64 a2))] K = zj36 N a0 a1 a2 (fun z3 => K (.v (.one (.int .i64 z3)))) := (ve30_0 N a0 a1 a2 K).trans (zt36 N a0 a1 a2 (fun z3 => K (.v (.one (.int .i64 z3))))).symm
theorem o30 (N : Nat) : SpecOK (β := β) inv Tryd.prog 30 (S30 N) := by
  refine spec_of lay_ok mixed (E := E30 N) (specs_loops specs_nil) muts_nil gs_nil Tryd.func30 (by kernel_rfl) 0 (by kernel_rfl) trivial fun args K r h => ?_
  unfold S30 VS30 at h
  split at h
  · exact (e30_0 N _ _ _ _).trans h
  · cases h
def VS29 (N : Nat) (zq37 : (a0 : Int) → (k : ByteArray → O β) → O β) : Rv.Spec β := fun args K => match args with
  | [.v (.one (.int .i64 a0))] => zq37 a0 (fun z1 => K (.v (.one (.str z1))))
  | _ => none
def S29 (N : Nat) : Rv.Spec β := VS29 N (zj37 N)
def VE29 (N : Nat) : Env β := ⟨[(38, S38 N)], [], [], [], ⟨[], [], [], []⟩⟩
def E29 (N : Nat) : Env β := VE29 N
def zb37 (N : Nat) (a0 : Int) (k : ByteArray → O β) : O β :=
strconv_Itoa N a0 fun r2 =>
k r2
theorem zt37 (N : Nat) (a0 : Int) (k : ByteArray → O β) : zj37 N a0 k = zb37 N a0 k := by
  unfold zj37 zb37
  rfl
theorem ve29_0 (N : Nat)  (a0 : Int) (K : TV → O β) : evFn lay (VE29 N) Tryd.f29 [.v (.one (.int .i64 a0))] K = zb37 N a0 (fun z1 => K (.v (.one (.str z1)))) := by kernel_rfl
theorem e29_0 (N : Nat)  (a0 : Int) (K : TV → O β) : evFn lay (E29 N) Tryd.f29 [.v (.one (.int .i64 a0))] K = zj37 N a0 (fun z1 => K (.v (.one (.str z1)))) := (ve29_0 N a0 K).trans (zt37 N a0 (fun z1 => K (.v (.one (.str z1))))).symm
theorem o29 (N : Nat) : SpecOK (β := β) inv Tryd.prog 29 (S29 N) := by
  refine spec_of lay_ok mixed (E := E29 N) (specs_loops (specs_cons (o38 N) specs_nil)) muts_nil gs_nil Tryd.func29 (by kernel_rfl) 0 (by kernel_rfl) trivial fun args K r h => ?_
  unfold S29 VS29 at h
  split at h
  · exact (e29_0 N _ _).trans h
  · cases h
end Go.Proofs.YtmhlcbibbhelkaaDoor
