/- The functions that the claims reach answer as their texts do. -/
import Derived.Test.YtddflpokemgnmaaE0
namespace Go.Proofs.Ytddflpokemgnmaa
open Go.Rv
set_option maxRecDepth 100000
set_option maxHeartbeats 2000000
set_option linter.unusedVariables false
def VS31 {β : Type} (N : Nat) (q_impl_readFormula : (a0 : ByteArray) → (k : Tr → Bool → Option β) → Option β) : Rv.Spec β := fun args K => match args with
  | [.v (.one (.str a0))] => q_impl_readFormula a0 (fun z1 z2 => K (.tup [.one (.tr false z1), .one (.bool z2)]))
  | _ => none
def S31 {β : Type} (N : Nat) : Rv.Spec β := VS31 N (impl_readFormula N)
def VE31 {β : Type} (N : Nat) (q_impl_readPart_f : Nat → ByteArray → (Tr → ByteArray → Option β) → Option β) : Env β := ⟨[(57, VS57 N q_impl_readPart_f)], [], [], [], ⟨[], [], [], []⟩⟩
def E31 {β : Type} (N : Nat) : Env β := VE31 N (impl_readPart_f N)
def BV_impl_readFormula {β : Type} (N : Nat) (q_impl_readPart_f : Nat → ByteArray → (Tr → ByteArray → Option β) → Option β) (a0 : ByteArray) (k : Tr → Bool → Option β) : Option β :=
(cond ((decide ((a0.size : Int) > 60)))
(k Tr.nil false)
(q_impl_readPart_f N a0 fun r3 r4 =>
(cond ((!(Tr.isNil r3)))
(k r3 ((r4.toList == ByteArray.empty.toList)))
(k r3 false))))
theorem t_impl_readFormula {β : Type} (N : Nat) (a0 : ByteArray) (k : Tr → Bool → Option β) : impl_readFormula N a0 k = BV_impl_readFormula N (impl_readPart_f N) a0 k := by
  unfold impl_readFormula BV_impl_readFormula
  rfl
theorem ve31_0 {β : Type} (N : Nat) (q_impl_readPart_f : Nat → ByteArray → (Tr → ByteArray → Option β) → Option β)  (a0 : ByteArray) (K : TV → Option β) : evFn lay (VE31 N q_impl_readPart_f) Try.f31 [.v (.one (.str a0))] K = BV_impl_readFormula N q_impl_readPart_f a0 (fun z1 z2 => K (.tup [.one (.tr false z1), .one (.bool z2)])) := by kernel_rfl
theorem e31_0 {β : Type} (N : Nat)  (a0 : ByteArray) (K : TV → Option β) : evFn lay (E31 N) Try.f31 [.v (.one (.str a0))] K = impl_readFormula N a0 (fun z1 z2 => K (.tup [.one (.tr false z1), .one (.bool z2)])) := (ve31_0 N (impl_readPart_f N) a0 K).trans (t_impl_readFormula N a0 (fun z1 z2 => K (.tup [.one (.tr false z1), .one (.bool z2)]))).symm
theorem o31 {β : Type} (N : Nat) : SpecOK (β := β) inv Try.prog 31 (S31 N) := by
  refine spec_of lay_ok mixed (E := E31 N) (specs_loops (specs_cons (o57 N) specs_nil)) muts_nil gs_nil Try.func31 (by kernel_rfl) 0 (by kernel_rfl) trivial fun args K r h => ?_
  unfold S31 VS31 at h
  split at h
  · exact (e31_0 N _ _).trans h
  · cases h
def VS32 {β : Type} (N : Nat) (q_impl_isBits : (a0 : Int) → (k : Bool → Option β) → Option β) : Rv.Spec β := fun args K => match args with
  | [.v (.one (.int .i64 a0))] => q_impl_isBits a0 (fun z1 => K (.v (.one (.bool z1))))
  | _ => none
def S32 {β : Type} (N : Nat) : Rv.Spec β := VS32 N (impl_isBits N)
def VE32 {β : Type} (N : Nat) : Env β := ⟨[], [], [], [], ⟨[], [], [], []⟩⟩
def E32 {β : Type} (N : Nat) : Env β := VE32 N
def BV_impl_isBits {β : Type} (N : Nat) (a0 : Int) (k : Bool → Option β) : Option β :=
(cond ((decide (a0 ≥ 0)))
(k ((decide (a0 ≤ 5))))
(k false))
theorem t_impl_isBits {β : Type} (N : Nat) (a0 : Int) (k : Bool → Option β) : impl_isBits N a0 k = BV_impl_isBits N a0 k := by
  unfold impl_isBits BV_impl_isBits
  rfl
theorem ve32_0 {β : Type} (N : Nat)  (a0 : Int) (K : TV → Option β) : evFn lay (VE32 N) Try.f32 [.v (.one (.int .i64 a0))] K = BV_impl_isBits N a0 (fun z1 => K (.v (.one (.bool z1)))) := by kernel_rfl
theorem e32_0 {β : Type} (N : Nat)  (a0 : Int) (K : TV → Option β) : evFn lay (E32 N) Try.f32 [.v (.one (.int .i64 a0))] K = impl_isBits N a0 (fun z1 => K (.v (.one (.bool z1)))) := (ve32_0 N a0 K).trans (t_impl_isBits N a0 (fun z1 => K (.v (.one (.bool z1))))).symm
theorem o32 {β : Type} (N : Nat) : SpecOK (β := β) inv Try.prog 32 (S32 N) := by
  refine spec_of lay_ok mixed (E := E32 N) (specs_loops specs_nil) muts_nil gs_nil Try.func32 (by kernel_rfl) 0 (by kernel_rfl) trivial fun args K r h => ?_
  unfold S32 VS32 at h
  split at h
  · exact (e32_0 N _ _).trans h
  · cases h
def VS58 {β : Type} (N : Nat) (q_impl_part_isLeaf : (a0 : Tr) → (k : Bool → Option β) → Option β) : Rv.Spec β := fun args K => match args with
  | [.v (.one (.tr false a0))] => q_impl_part_isLeaf a0 (fun z1 => K (.v (.one (.bool z1))))
  | _ => none
def S58 {β : Type} (N : Nat) : Rv.Spec β := VS58 N (impl_part_isLeaf N)
def VE58 {β : Type} (N : Nat) : Env β := ⟨[], [], [], [], ⟨[], [], [], []⟩⟩
def E58 {β : Type} (N : Nat) : Env β := VE58 N
def BV_impl_part_isLeaf {β : Type} (N : Nat) (a0 : Tr) (k : Bool → Option β) : Option β :=
(gd ((!(Tr.isNil a0)))
((gd ((!(Tr.isNil a0)))
((gd ((!(Tr.isNil a0)))
(k ((Tr.isNil ((Tr.l a0))))))))))
theorem t_impl_part_isLeaf {β : Type} (N : Nat) (a0 : Tr) (k : Bool → Option β) : impl_part_isLeaf N a0 k = BV_impl_part_isLeaf N a0 k := by
  unfold impl_part_isLeaf BV_impl_part_isLeaf
  rfl
theorem ve58_0 {β : Type} (N : Nat)  (a0 : Tr) (K : TV → Option β) : evFn lay (VE58 N) Try.f58 [.v (.one (.tr false a0))] K = BV_impl_part_isLeaf N a0 (fun z1 => K (.v (.one (.bool z1)))) := by kernel_rfl
theorem e58_0 {β : Type} (N : Nat)  (a0 : Tr) (K : TV → Option β) : evFn lay (E58 N) Try.f58 [.v (.one (.tr false a0))] K = impl_part_isLeaf N a0 (fun z1 => K (.v (.one (.bool z1)))) := (ve58_0 N a0 K).trans (t_impl_part_isLeaf N a0 (fun z1 => K (.v (.one (.bool z1))))).symm
theorem o58 {β : Type} (N : Nat) : SpecOK (β := β) inv Try.prog 58 (S58 N) := by
  refine spec_of lay_ok mixed (E := E58 N) (specs_loops specs_nil) muts_nil gs_nil Try.func58 (by kernel_rfl) 0 (by kernel_rfl) trivial fun args K r h => ?_
  unfold S58 VS58 at h
  split at h
  · exact (e58_0 N _ _).trans h
  · cases h
def VS62 {β : Type} (N : Nat) (q_impl_part_table_1 : (a0 : Int) → (c0 : Tr) → (k : Bool → Option β) → Option β) : Rv.Spec β := fun args K => match args with
  | [.v (.one (.int .i64 a0)), .v (.one (.cref [.tr false c0] 0))] => q_impl_part_table_1 a0 c0 (fun z1 => K (.v (.one (.bool z1))))
  | _ => none
def S62 {β : Type} (N : Nat) : Rv.Spec β := VS62 N (impl_part_table_1 N)
def VE62 {β : Type} (N : Nat) : Env β := ⟨[], [], [], [], ⟨[], [], [], []⟩⟩
def E62 {β : Type} (N : Nat) : Env β := VE62 N
def BV_impl_part_table_1 {β : Type} (N : Nat) (a0 : Int) (c0 : Tr) (k : Bool → Option β) : Option β :=
(gd ((!(Tr.isNil c0)))
((gd ((!(Tr.isNil c0)))
((gd ((!(Tr.isNil c0)))
(k (((Tr.a c0) == 49))))))))
theorem t_impl_part_table_1 {β : Type} (N : Nat) (a0 : Int) (c0 : Tr) (k : Bool → Option β) : impl_part_table_1 N a0 c0 k = BV_impl_part_table_1 N a0 c0 k := by
  unfold impl_part_table_1 BV_impl_part_table_1
  rfl
theorem ve62_0 {β : Type} (N : Nat)  (a0 : Int) (c0 : Tr) (K : TV → Option β) : evFn lay (VE62 N) Try.f62 [.v (.one (.int .i64 a0)), .v (.one (.cref [.tr false c0] 0))] K = BV_impl_part_table_1 N a0 c0 (fun z1 => K (.v (.one (.bool z1)))) := by kernel_rfl
theorem e62_0 {β : Type} (N : Nat)  (a0 : Int) (c0 : Tr) (K : TV → Option β) : evFn lay (E62 N) Try.f62 [.v (.one (.int .i64 a0)), .v (.one (.cref [.tr false c0] 0))] K = impl_part_table_1 N a0 c0 (fun z1 => K (.v (.one (.bool z1)))) := (ve62_0 N a0 c0 K).trans (t_impl_part_table_1 N a0 c0 (fun z1 => K (.v (.one (.bool z1))))).symm
theorem o62 {β : Type} (N : Nat) : SpecOK (β := β) inv Try.prog 62 (S62 N) := by
  refine spec_of lay_ok mixed (E := E62 N) (specs_loops specs_nil) muts_nil gs_nil Try.func62 (by kernel_rfl) 0 (by kernel_rfl) trivial fun args K r h => ?_
  unfold S62 VS62 at h
  split at h
  · exact (e62_0 N _ _ _).trans h
  · cases h
def VS82 {β : Type} (N : Nat) (q_impl_variable_1 : (a0 : Int) → (c0 : Int) → (k : Bool → Option β) → Option β) : Rv.Spec β := fun args K => match args with
  | [.v (.one (.int .i64 a0)), .v (.one (.cref [.int .i64 c0] 0))] => q_impl_variable_1 a0 c0 (fun z1 => K (.v (.one (.bool z1))))
  | _ => none
def S82 {β : Type} (N : Nat) : Rv.Spec β := VS82 N (impl_variable_1 N)
def VE82 {β : Type} (N : Nat) : Env β := ⟨[], [], [], [], ⟨[], [], [], []⟩⟩
def E82 {β : Type} (N : Nat) : Env β := VE82 N
def BV_impl_variable_1 {β : Type} (N : Nat) (a0 : Int) (c0 : Int) (k : Bool → Option β) : Option β :=
(gd ((decide (0 ≤ c0)))
(k (((bits .and .i64 (shrI .i64 a0 c0) 1) == 1))))
theorem t_impl_variable_1 {β : Type} (N : Nat) (a0 : Int) (c0 : Int) (k : Bool → Option β) : impl_variable_1 N a0 c0 k = BV_impl_variable_1 N a0 c0 k := by
  unfold impl_variable_1 BV_impl_variable_1
  rfl
theorem ve82_0 {β : Type} (N : Nat)  (a0 : Int) (c0 : Int) (K : TV → Option β) : evFn lay (VE82 N) Try.f82 [.v (.one (.int .i64 a0)), .v (.one (.cref [.int .i64 c0] 0))] K = BV_impl_variable_1 N a0 c0 (fun z1 => K (.v (.one (.bool z1)))) := by kernel_rfl
theorem e82_0 {β : Type} (N : Nat)  (a0 : Int) (c0 : Int) (K : TV → Option β) : evFn lay (E82 N) Try.f82 [.v (.one (.int .i64 a0)), .v (.one (.cref [.int .i64 c0] 0))] K = impl_variable_1 N a0 c0 (fun z1 => K (.v (.one (.bool z1)))) := (ve82_0 N a0 c0 K).trans (t_impl_variable_1 N a0 c0 (fun z1 => K (.v (.one (.bool z1))))).symm
theorem o82 {β : Type} (N : Nat) : SpecOK (β := β) inv Try.prog 82 (S82 N) := by
  refine spec_of lay_ok mixed (E := E82 N) (specs_loops specs_nil) muts_nil gs_nil Try.func82 (by kernel_rfl) 0 (by kernel_rfl) trivial fun args K r h => ?_
  unfold S82 VS82 at h
  split at h
  · exact (e82_0 N _ _ _).trans h
  · cases h
def VS81 {β : Type} (N : Nat) (q_impl_spread : (a0 : Int) → (a1 : Int) → (a2 : Int) → (k : Int → Option β) → Option β) : Rv.Spec β := fun args K => match args with
  | [.v (.one (.int .i64 a0)), .v (.one (.int .i64 a1)), .v (.one (.int .i64 a2))] => q_impl_spread a0 a1 a2 (fun z3 => K (.v (.one (.int .i64 z3))))
  | _ => none
def S81 {β : Type} (N : Nat) : Rv.Spec β := VS81 N (impl_spread N)
def VE81 {β : Type} (N : Nat) : Env β := ⟨[], [], [], [], ⟨[], [], [], []⟩⟩
def E81 {β : Type} (N : Nat) : Env β := VE81 N
def BV_impl_spread {β : Type} (N : Nat) (a0 : Int) (a1 : Int) (a2 : Int) (k : Int → Option β) : Option β :=
(gd ((decide (0 ≤ a1)))
((gd ((decide (0 ≤ a1)))
(k ((bits .or .i64 (bits .or .i64 (shlI .i64 (w64 (a0 - (bits .and .i64 a0 (w64 ((shlI .i64 1 a1) - 1))))) 1) (shlI .i64 a2 a1)) (bits .and .i64 a0 (w64 ((shlI .i64 1 a1) - 1)))))))))
theorem t_impl_spread {β : Type} (N : Nat) (a0 : Int) (a1 : Int) (a2 : Int) (k : Int → Option β) : impl_spread N a0 a1 a2 k = BV_impl_spread N a0 a1 a2 k := by
  unfold impl_spread BV_impl_spread
  rfl
theorem ve81_0 {β : Type} (N : Nat)  (a0 : Int) (a1 : Int) (a2 : Int) (K : TV → Option β) : evFn lay (VE81 N) Try.f81 [.v (.one (.int .i64 a0)), .v (.one (.int .i64 a1)), .v (.one (.int .i64 a2))] K = BV_impl_spread N a0 a1 a2 (fun z3 => K (.v (.one (.int .i64 z3)))) := by kernel_rfl
theorem e81_0 {β : Type} (N : Nat)  (a0 : Int) (a1 : Int) (a2 : Int) (K : TV → Option β) : evFn lay (E81 N) Try.f81 [.v (.one (.int .i64 a0)), .v (.one (.int .i64 a1)), .v (.one (.int .i64 a2))] K = impl_spread N a0 a1 a2 (fun z3 => K (.v (.one (.int .i64 z3)))) := (ve81_0 N a0 a1 a2 K).trans (t_impl_spread N a0 a1 a2 (fun z3 => K (.v (.one (.int .i64 z3))))).symm
theorem o81 {β : Type} (N : Nat) : SpecOK (β := β) inv Try.prog 81 (S81 N) := by
  refine spec_of lay_ok mixed (E := E81 N) (specs_loops specs_nil) muts_nil gs_nil Try.func81 (by kernel_rfl) 0 (by kernel_rfl) trivial fun args K r h => ?_
  unfold S81 VS81 at h
  split at h
  · exact (e81_0 N _ _ _ _).trans h
  · cases h
def VS80 {β : Type} (N : Nat) (q_impl_Table_at : (a0 : Int) → (a1 : Int) → (a2 : Int) → (k : Int → Option β) → Option β) : Rv.Spec β := fun args K => match args with
  | [.v (.agg [.int .i64 a0, .int .i64 a1]), .v (.one (.int .i64 a2))] => q_impl_Table_at a0 a1 a2 (fun z3 => K (.v (.one (.int .i64 z3))))
  | _ => none
def S80 {β : Type} (N : Nat) : Rv.Spec β := VS80 N (impl_Table_at N)
def VE80 {β : Type} (N : Nat) : Env β := ⟨[], [], [], [], ⟨[], [], [], []⟩⟩
def E80 {β : Type} (N : Nat) : Env β := VE80 N
def BV_impl_Table_at {β : Type} (N : Nat) (a0 : Int) (a1 : Int) (a2 : Int) (k : Int → Option β) : Option β :=
(gd ((decide (0 ≤ a2)))
(k ((bits .and .i64 (shrI .i64 a1 a2) 1))))
theorem t_impl_Table_at {β : Type} (N : Nat) (a0 : Int) (a1 : Int) (a2 : Int) (k : Int → Option β) : impl_Table_at N a0 a1 a2 k = BV_impl_Table_at N a0 a1 a2 k := by
  unfold impl_Table_at BV_impl_Table_at
  rfl
theorem ve80_0 {β : Type} (N : Nat)  (a0 : Int) (a1 : Int) (a2 : Int) (K : TV → Option β) : evFn lay (VE80 N) Try.f80 [.v (.agg [.int .i64 a0, .int .i64 a1]), .v (.one (.int .i64 a2))] K = BV_impl_Table_at N a0 a1 a2 (fun z3 => K (.v (.one (.int .i64 z3)))) := by kernel_rfl
theorem e80_0 {β : Type} (N : Nat)  (a0 : Int) (a1 : Int) (a2 : Int) (K : TV → Option β) : evFn lay (E80 N) Try.f80 [.v (.agg [.int .i64 a0, .int .i64 a1]), .v (.one (.int .i64 a2))] K = impl_Table_at N a0 a1 a2 (fun z3 => K (.v (.one (.int .i64 z3)))) := (ve80_0 N a0 a1 a2 K).trans (t_impl_Table_at N a0 a1 a2 (fun z3 => K (.v (.one (.int .i64 z3))))).symm
theorem o80 {β : Type} (N : Nat) : SpecOK (β := β) inv Try.prog 80 (S80 N) := by
  refine spec_of lay_ok mixed (E := E80 N) (specs_loops specs_nil) muts_nil gs_nil Try.func80 (by kernel_rfl) 0 (by kernel_rfl) trivial fun args K r h => ?_
  unfold S80 VS80 at h
  split at h
  · exact (e80_0 N _ _ _ _).trans h
  · cases h
def VS79 {β : Type} (N : Nat) (q_impl_Table_restrict_1 : (a0 : Int) → (c0 : Int) → (c1 : Int) → (c2 : Int) → (c3 : Int) → (k : Bool → Option β) → Option β) : Rv.Spec β := fun args K => match args with
  | [.v (.one (.int .i64 a0)), .v (.one (.cref [.int .i64 c0, .int .i64 c1] 0)), .v (.one (.cref [.int .i64 c2] 0)), .v (.one (.cref [.int .i64 c3] 0))] => q_impl_Table_restrict_1 a0 c0 c1 c2 c3 (fun z1 => K (.v (.one (.bool z1))))
  | _ => none
def S79 {β : Type} (N : Nat) : Rv.Spec β := VS79 N (impl_Table_restrict_1 N)
def VE79 {β : Type} (N : Nat) (q_impl_spread : (a0 : Int) → (a1 : Int) → (a2 : Int) → (k : Int → Option β) → Option β) (q_impl_Table_at : (a0 : Int) → (a1 : Int) → (a2 : Int) → (k : Int → Option β) → Option β) : Env β := ⟨[(81, VS81 N q_impl_spread), (80, VS80 N q_impl_Table_at)], [], [], [], ⟨[], [], [], []⟩⟩
def E79 {β : Type} (N : Nat) : Env β := VE79 N (impl_spread N) (impl_Table_at N)
def BV_impl_Table_restrict_1 {β : Type} (N : Nat) (q_impl_spread : (a0 : Int) → (a1 : Int) → (a2 : Int) → (k : Int → Option β) → Option β) (q_impl_Table_at : (a0 : Int) → (a1 : Int) → (a2 : Int) → (k : Int → Option β) → Option β) (a0 : Int) (c0 : Int) (c1 : Int) (c2 : Int) (c3 : Int) (k : Bool → Option β) : Option β :=
q_impl_spread a0 c2 c3 fun r2 =>
q_impl_Table_at c0 c1 r2 fun r3 =>
k ((r3 == 1))
theorem t_impl_Table_restrict_1 {β : Type} (N : Nat) (a0 : Int) (c0 : Int) (c1 : Int) (c2 : Int) (c3 : Int) (k : Bool → Option β) : impl_Table_restrict_1 N a0 c0 c1 c2 c3 k = BV_impl_Table_restrict_1 N (impl_spread N) (impl_Table_at N) a0 c0 c1 c2 c3 k := by
  unfold impl_Table_restrict_1 BV_impl_Table_restrict_1
  rfl
theorem ve79_0 {β : Type} (N : Nat) (q_impl_spread : (a0 : Int) → (a1 : Int) → (a2 : Int) → (k : Int → Option β) → Option β) (q_impl_Table_at : (a0 : Int) → (a1 : Int) → (a2 : Int) → (k : Int → Option β) → Option β)  (a0 : Int) (c0 : Int) (c1 : Int) (c2 : Int) (c3 : Int) (K : TV → Option β) : evFn lay (VE79 N q_impl_spread q_impl_Table_at) Try.f79 [.v (.one (.int .i64 a0)), .v (.one (.cref [.int .i64 c0, .int .i64 c1] 0)), .v (.one (.cref [.int .i64 c2] 0)), .v (.one (.cref [.int .i64 c3] 0))] K = BV_impl_Table_restrict_1 N q_impl_spread q_impl_Table_at a0 c0 c1 c2 c3 (fun z1 => K (.v (.one (.bool z1)))) := by kernel_rfl
theorem e79_0 {β : Type} (N : Nat)  (a0 : Int) (c0 : Int) (c1 : Int) (c2 : Int) (c3 : Int) (K : TV → Option β) : evFn lay (E79 N) Try.f79 [.v (.one (.int .i64 a0)), .v (.one (.cref [.int .i64 c0, .int .i64 c1] 0)), .v (.one (.cref [.int .i64 c2] 0)), .v (.one (.cref [.int .i64 c3] 0))] K = impl_Table_restrict_1 N a0 c0 c1 c2 c3 (fun z1 => K (.v (.one (.bool z1)))) := (ve79_0 N (impl_spread N) (impl_Table_at N) a0 c0 c1 c2 c3 K).trans (t_impl_Table_restrict_1 N a0 c0 c1 c2 c3 (fun z1 => K (.v (.one (.bool z1))))).symm
theorem o79 {β : Type} (N : Nat) : SpecOK (β := β) inv Try.prog 79 (S79 N) := by
  refine spec_of lay_ok mixed (E := E79 N) (specs_loops (specs_cons (o81 N) (specs_cons (o80 N) specs_nil))) muts_nil gs_nil Try.func79 (by kernel_rfl) 0 (by kernel_rfl) trivial fun args K r h => ?_
  unfold S79 VS79 at h
  split at h
  · exact (e79_0 N _ _ _ _ _ _).trans h
  · cases h
def VS61 {β : Type} (N : Nat) (q_impl_makeTable : (a0 : Int) → (a1 : (Int → (Bool → Option β) → Option β)) → (k : Int → Int → Option β) → Option β) (q_impl_part_table_1 : (a0 : Int) → (c0 : Tr) → (k : Bool → Option β) → Option β) (q_impl_variable_1 : (a0 : Int) → (c0 : Int) → (k : Bool → Option β) → Option β) (q_impl_Table_restrict_1 : (a0 : Int) → (c0 : Int) → (c1 : Int) → (c2 : Int) → (c3 : Int) → (k : Bool → Option β) → Option β) : Rv.Spec β := fun args K => match args with
  | [.v (.one (.int .i64 a0)), .v (.one (.dfn 62 [([.tr false q0], 0)]))] => q_impl_makeTable a0 (fun x0 k => q_impl_part_table_1 x0 q0 k) (fun z2 z3 => K (.v (.agg [.int .i64 z2, .int .i64 z3])))
  | [.v (.one (.int .i64 a0)), .v (.one (.dfn 82 [([.int .i64 q0], 0)]))] => q_impl_makeTable a0 (fun x0 k => q_impl_variable_1 x0 q0 k) (fun z2 z3 => K (.v (.agg [.int .i64 z2, .int .i64 z3])))
  | [.v (.one (.int .i64 a0)), .v (.one (.dfn 79 [([.int .i64 q0, .int .i64 q1], 0), ([.int .i64 q2], 0), ([.int .i64 q3], 0)]))] => q_impl_makeTable a0 (fun x0 k => q_impl_Table_restrict_1 x0 q0 q1 q2 q3 k) (fun z2 z3 => K (.v (.agg [.int .i64 z2, .int .i64 z3])))
  | _ => none
def S61 {β : Type} (N : Nat) : Rv.Spec β := VS61 N (impl_makeTable N) (impl_part_table_1 N) (impl_variable_1 N) (impl_Table_restrict_1 N)
def h61_0_0 (q0 : Tr) (v0 : Int) (v1 : Int) (v2 : Int) (v3 : Int) (v4 : Int) (v5 : Int) : St := ⟨.v (.one .und) :: .v (.one (.dfn 62 [([.tr false q0], 0)])) :: .v (.one .und) :: .v (.one .und) :: .v (.one (.ptr 0 0)) :: .v (.one (.ptr 1 0)) :: .v (.one .und) :: .v (.one .und) :: .v (.one .und) :: .v (.one .und) :: .v (.one (.int .i64 v0)) :: .v (.one (.int .i64 v1)) :: .v (.one .und) :: .v (.one .und) :: .v (.one .und) :: .v (.one .und) :: .v (.one .und) :: .v (.one .und) :: .v (.one .und) :: .v (.one .und) :: .v (.one .und) :: .v (.one .und) :: .v (.one .und) :: .v (.one .und) :: .v (.one .und) :: [], [.cells 27 [.int .i64 v2, .int .i64 v3], .cells 27 [.int .i64 v4, .int .i64 v5]]⟩
def x61_0_0_k0 (q0 : Tr) (y0 : Int) (y1 : Int) (y2 : Int) (y3 : Int) : St := ⟨.v (.one .und) :: .v (.one .und) :: .v (.one .und) :: .v (.one .und) :: .v (.one (.ptr 0 0)) :: .v (.one (.ptr 1 0)) :: .v (.one .und) :: .v (.one .und) :: .v (.one .und) :: .v (.one .und) :: .v (.one .und) :: .v (.one .und) :: .v (.one .und) :: .v (.one .und) :: .v (.one .und) :: .v (.one .und) :: .v (.one .und) :: .v (.one .und) :: .v (.one .und) :: .v (.one .und) :: .v (.one .und) :: .v (.one .und) :: .v (.one .und) :: .v (.one .und) :: .v (.one .und) :: [], [.cells 27 [.int .i64 y0, .int .i64 y1], .cells 27 [.int .i64 y2, .int .i64 y3]]⟩
def h61_0_1 (q0 : Int) (v0 : Int) (v1 : Int) (v2 : Int) (v3 : Int) (v4 : Int) (v5 : Int) : St := ⟨.v (.one .und) :: .v (.one (.dfn 82 [([.int .i64 q0], 0)])) :: .v (.one .und) :: .v (.one .und) :: .v (.one (.ptr 0 0)) :: .v (.one (.ptr 1 0)) :: .v (.one .und) :: .v (.one .und) :: .v (.one .und) :: .v (.one .und) :: .v (.one (.int .i64 v0)) :: .v (.one (.int .i64 v1)) :: .v (.one .und) :: .v (.one .und) :: .v (.one .und) :: .v (.one .und) :: .v (.one .und) :: .v (.one .und) :: .v (.one .und) :: .v (.one .und) :: .v (.one .und) :: .v (.one .und) :: .v (.one .und) :: .v (.one .und) :: .v (.one .und) :: [], [.cells 27 [.int .i64 v2, .int .i64 v3], .cells 27 [.int .i64 v4, .int .i64 v5]]⟩
def x61_0_1_k0 (q0 : Int) (y0 : Int) (y1 : Int) (y2 : Int) (y3 : Int) : St := ⟨.v (.one .und) :: .v (.one .und) :: .v (.one .und) :: .v (.one .und) :: .v (.one (.ptr 0 0)) :: .v (.one (.ptr 1 0)) :: .v (.one .und) :: .v (.one .und) :: .v (.one .und) :: .v (.one .und) :: .v (.one .und) :: .v (.one .und) :: .v (.one .und) :: .v (.one .und) :: .v (.one .und) :: .v (.one .und) :: .v (.one .und) :: .v (.one .und) :: .v (.one .und) :: .v (.one .und) :: .v (.one .und) :: .v (.one .und) :: .v (.one .und) :: .v (.one .und) :: .v (.one .und) :: [], [.cells 27 [.int .i64 y0, .int .i64 y1], .cells 27 [.int .i64 y2, .int .i64 y3]]⟩
def h61_0_2 (q0 : Int) (q1 : Int) (q2 : Int) (q3 : Int) (v0 : Int) (v1 : Int) (v2 : Int) (v3 : Int) (v4 : Int) (v5 : Int) : St := ⟨.v (.one .und) :: .v (.one (.dfn 79 [([.int .i64 q0, .int .i64 q1], 0), ([.int .i64 q2], 0), ([.int .i64 q3], 0)])) :: .v (.one .und) :: .v (.one .und) :: .v (.one (.ptr 0 0)) :: .v (.one (.ptr 1 0)) :: .v (.one .und) :: .v (.one .und) :: .v (.one .und) :: .v (.one .und) :: .v (.one (.int .i64 v0)) :: .v (.one (.int .i64 v1)) :: .v (.one .und) :: .v (.one .und) :: .v (.one .und) :: .v (.one .und) :: .v (.one .und) :: .v (.one .und) :: .v (.one .und) :: .v (.one .und) :: .v (.one .und) :: .v (.one .und) :: .v (.one .und) :: .v (.one .und) :: .v (.one .und) :: [], [.cells 27 [.int .i64 v2, .int .i64 v3], .cells 27 [.int .i64 v4, .int .i64 v5]]⟩
def x61_0_2_k0 (q0 : Int) (q1 : Int) (q2 : Int) (q3 : Int) (y0 : Int) (y1 : Int) (y2 : Int) (y3 : Int) : St := ⟨.v (.one .und) :: .v (.one .und) :: .v (.one .und) :: .v (.one .und) :: .v (.one (.ptr 0 0)) :: .v (.one (.ptr 1 0)) :: .v (.one .und) :: .v (.one .und) :: .v (.one .und) :: .v (.one .und) :: .v (.one .und) :: .v (.one .und) :: .v (.one .und) :: .v (.one .und) :: .v (.one .und) :: .v (.one .und) :: .v (.one .und) :: .v (.one .und) :: .v (.one .und) :: .v (.one .und) :: .v (.one .und) :: .v (.one .und) :: .v (.one .und) :: .v (.one .und) :: .v (.one .und) :: [], [.cells 27 [.int .i64 y0, .int .i64 y1], .cells 27 [.int .i64 y2, .int .i64 y3]]⟩
theorem fl61_0_0 (s : St) : refSt (h61_0_0 Tr.nil 0 0 0 0 0 0) s = h61_0_0 (trF (nx .no (nx ([], 0) (dfnS (oneA (vT (nx tund s.tmps 1)))) 0).1 0)) (intS (oneA (vT (nx tund s.tmps 10)))) (intS (oneA (vT (nx tund s.tmps 11)))) (intS (nx .und (cellsB (nx .dead s.blks 0)) 0)) (intS (nx .und (cellsB (nx .dead s.blks 0)) 1)) (intS (nx .und (cellsB (nx .dead s.blks 1)) 0)) (intS (nx .und (cellsB (nx .dead s.blks 1)) 1)) := by kernel_rfl
theorem fl61_0_1 (s : St) : refSt (h61_0_1 0 0 0 0 0 0 0) s = h61_0_1 (intF (nx .no (nx ([], 0) (dfnS (oneA (vT (nx tund s.tmps 1)))) 0).1 0)) (intS (oneA (vT (nx tund s.tmps 10)))) (intS (oneA (vT (nx tund s.tmps 11)))) (intS (nx .und (cellsB (nx .dead s.blks 0)) 0)) (intS (nx .und (cellsB (nx .dead s.blks 0)) 1)) (intS (nx .und (cellsB (nx .dead s.blks 1)) 0)) (intS (nx .und (cellsB (nx .dead s.blks 1)) 1)) := by kernel_rfl
theorem fl61_0_2 (s : St) : refSt (h61_0_2 0 0 0 0 0 0 0 0 0 0) s = h61_0_2 (intF (nx .no (nx ([], 0) (dfnS (oneA (vT (nx tund s.tmps 1)))) 0).1 0)) (intF (nx .no (nx ([], 0) (dfnS (oneA (vT (nx tund s.tmps 1)))) 0).1 1)) (intF (nx .no (nx ([], 0) (dfnS (oneA (vT (nx tund s.tmps 1)))) 1).1 0)) (intF (nx .no (nx ([], 0) (dfnS (oneA (vT (nx tund s.tmps 1)))) 2).1 0)) (intS (oneA (vT (nx tund s.tmps 10)))) (intS (oneA (vT (nx tund s.tmps 11)))) (intS (nx .und (cellsB (nx .dead s.blks 0)) 0)) (intS (nx .und (cellsB (nx .dead s.blks 0)) 1)) (intS (nx .und (cellsB (nx .dead s.blks 1)) 0)) (intS (nx .und (cellsB (nx .dead s.blks 1)) 1)) := by kernel_rfl
def VLS61_0 {β : Type} (N : Nat) (q_impl_makeTable_l0 : (a1 : (Int → (Bool → Option β) → Option β)) → Nat → Int → Int → Int → Int → Int → Int → (Int → Int → Int → Int → Option β) → Option β) (q_impl_part_table_1 : (a0 : Int) → (c0 : Tr) → (k : Bool → Option β) → Option β) (q_impl_variable_1 : (a0 : Int) → (c0 : Int) → (k : Bool → Option β) → Option β) (q_impl_Table_restrict_1 : (a0 : Int) → (c0 : Int) → (c1 : Int) → (c2 : Int) → (c3 : Int) → (k : Bool → Option β) → Option β) : LSpec β := fun s K => cond (shpSt (h61_0_0 Tr.nil 0 0 0 0 0 0) s) ((fun (q0 : Tr) (v0 : Int) (v1 : Int) (v2 : Int) (v3 : Int) (v4 : Int) (v5 : Int) => q_impl_makeTable_l0 (fun x0 k => q_impl_part_table_1 x0 q0 k) N v0 v1 v2 v3 v4 v5 (fun y0 y1 y2 y3 => K (.exit 0) (x61_0_0_k0 q0 y0 y1 y2 y3))) (trF (nx .no (nx ([], 0) (dfnS (oneA (vT (nx tund s.tmps 1)))) 0).1 0)) (intS (oneA (vT (nx tund s.tmps 10)))) (intS (oneA (vT (nx tund s.tmps 11)))) (intS (nx .und (cellsB (nx .dead s.blks 0)) 0)) (intS (nx .und (cellsB (nx .dead s.blks 0)) 1)) (intS (nx .und (cellsB (nx .dead s.blks 1)) 0)) (intS (nx .und (cellsB (nx .dead s.blks 1)) 1))) (cond (shpSt (h61_0_1 0 0 0 0 0 0 0) s) ((fun (q0 : Int) (v0 : Int) (v1 : Int) (v2 : Int) (v3 : Int) (v4 : Int) (v5 : Int) => q_impl_makeTable_l0 (fun x0 k => q_impl_variable_1 x0 q0 k) N v0 v1 v2 v3 v4 v5 (fun y0 y1 y2 y3 => K (.exit 0) (x61_0_1_k0 q0 y0 y1 y2 y3))) (intF (nx .no (nx ([], 0) (dfnS (oneA (vT (nx tund s.tmps 1)))) 0).1 0)) (intS (oneA (vT (nx tund s.tmps 10)))) (intS (oneA (vT (nx tund s.tmps 11)))) (intS (nx .und (cellsB (nx .dead s.blks 0)) 0)) (intS (nx .und (cellsB (nx .dead s.blks 0)) 1)) (intS (nx .und (cellsB (nx .dead s.blks 1)) 0)) (intS (nx .und (cellsB (nx .dead s.blks 1)) 1))) (cond (shpSt (h61_0_2 0 0 0 0 0 0 0 0 0 0) s) ((fun (q0 : Int) (q1 : Int) (q2 : Int) (q3 : Int) (v0 : Int) (v1 : Int) (v2 : Int) (v3 : Int) (v4 : Int) (v5 : Int) => q_impl_makeTable_l0 (fun x0 k => q_impl_Table_restrict_1 x0 q0 q1 q2 q3 k) N v0 v1 v2 v3 v4 v5 (fun y0 y1 y2 y3 => K (.exit 0) (x61_0_2_k0 q0 q1 q2 q3 y0 y1 y2 y3))) (intF (nx .no (nx ([], 0) (dfnS (oneA (vT (nx tund s.tmps 1)))) 0).1 0)) (intF (nx .no (nx ([], 0) (dfnS (oneA (vT (nx tund s.tmps 1)))) 0).1 1)) (intF (nx .no (nx ([], 0) (dfnS (oneA (vT (nx tund s.tmps 1)))) 1).1 0)) (intF (nx .no (nx ([], 0) (dfnS (oneA (vT (nx tund s.tmps 1)))) 2).1 0)) (intS (oneA (vT (nx tund s.tmps 10)))) (intS (oneA (vT (nx tund s.tmps 11)))) (intS (nx .und (cellsB (nx .dead s.blks 0)) 0)) (intS (nx .und (cellsB (nx .dead s.blks 0)) 1)) (intS (nx .und (cellsB (nx .dead s.blks 1)) 0)) (intS (nx .und (cellsB (nx .dead s.blks 1)) 1))) (none)))
def LS61_0 {β : Type} (N : Nat) : LSpec β := VLS61_0 N (impl_makeTable_l0 N) (impl_part_table_1 N) (impl_variable_1 N) (impl_Table_restrict_1 N)
def VE61 {β : Type} (N : Nat) (q_impl_part_table_1 : (a0 : Int) → (c0 : Tr) → (k : Bool → Option β) → Option β) (q_impl_variable_1 : (a0 : Int) → (c0 : Int) → (k : Bool → Option β) → Option β) (q_impl_Table_restrict_1 : (a0 : Int) → (c0 : Int) → (c1 : Int) → (c2 : Int) → (c3 : Int) → (k : Bool → Option β) → Option β) (q_impl_makeTable_l0 : (a1 : (Int → (Bool → Option β) → Option β)) → Nat → Int → Int → Int → Int → Int → Int → (Int → Int → Int → Int → Option β) → Option β) : Env β := ⟨[(62, VS62 N q_impl_part_table_1), (82, VS82 N q_impl_variable_1), (79, VS79 N q_impl_Table_restrict_1)], [], [(0, VLS61_0 N q_impl_makeTable_l0 q_impl_part_table_1 q_impl_variable_1 q_impl_Table_restrict_1)], [], ⟨[], [], [], []⟩⟩
def E61 {β : Type} (N : Nat) : Env β := VE61 N (impl_part_table_1 N) (impl_variable_1 N) (impl_Table_restrict_1 N) (impl_makeTable_l0 N)
def BV_impl_makeTable_l0b {β : Type} (N : Nat) (a1 : (Int → (Bool → Option β) → Option β)) (v0 : Int) (v1 : Int) (v2 : Int) (v3 : Int) (v4 : Int) (v5 : Int) (rec_ : Int → Int → Int → Int → Int → Int → Option β) (k0 : Int → Int → Int → Int → Option β) : Option β :=
(cond ((decide (v1 < v0)))
(a1 v1 fun r4 =>
(cond r4
((gd ((decide (0 ≤ v1)))
(rec_ v0 ((w64 (v1 + 1))) v2 v3 v4 ((bits .or .i64 v5 (shlI .i64 1 v1))))))
(rec_ v0 ((w64 (v1 + 1))) v2 v3 v4 v5)))
(k0 v2 v3 v4 v5))
theorem t_impl_makeTable_l0b {β : Type} (N : Nat) (a1 : (Int → (Bool → Option β) → Option β)) (v0 : Int) (v1 : Int) (v2 : Int) (v3 : Int) (v4 : Int) (v5 : Int) (rec_ : Int → Int → Int → Int → Int → Int → Option β) (k0 : Int → Int → Int → Int → Option β) : impl_makeTable_l0b N a1 v0 v1 v2 v3 v4 v5 rec_ k0 = BV_impl_makeTable_l0b N a1 v0 v1 v2 v3 v4 v5 rec_ k0 := by
  unfold impl_makeTable_l0b BV_impl_makeTable_l0b
  rfl
theorem vst61_0_0 {β : Type} (N : Nat) (q_impl_part_table_1 : (a0 : Int) → (c0 : Tr) → (k : Bool → Option β) → Option β) (q_impl_variable_1 : (a0 : Int) → (c0 : Int) → (k : Bool → Option β) → Option β) (q_impl_Table_restrict_1 : (a0 : Int) → (c0 : Int) → (c1 : Int) → (c2 : Int) → (c3 : Int) → (k : Bool → Option β) → Option β) (q_impl_makeTable_l0 : (a1 : (Int → (Bool → Option β) → Option β)) → Nat → Int → Int → Int → Int → Int → Int → (Int → Int → Int → Int → Option β) → Option β) (q0 : Tr) (v0 : Int) (v1 : Int) (v2 : Int) (v3 : Int) (v4 : Int) (v5 : Int) (rec_ : St → Option β) (K : Exit → St → Option β) :
    ev lay (VE61 N q_impl_part_table_1 q_impl_variable_1 q_impl_Table_restrict_1 q_impl_makeTable_l0) (retMask Try.f61) (lp Try.f61 0).body (lp Try.f61 0).ex ((lp Try.f61 0).lv (retMask Try.f61)) (h61_0_0 q0 v0 v1 v2 v3 v4 v5) (nextR (fun s' => rec_ (s'.tidy ((lp Try.f61 0).lv (retMask Try.f61)))) K) = BV_impl_makeTable_l0b N (fun x0 k => q_impl_part_table_1 x0 q0 k) v0 v1 v2 v3 v4 v5 (fun v0 v1 v2 v3 v4 v5 => rec_ (h61_0_0 q0 v0 v1 v2 v3 v4 v5)) (fun y0 y1 y2 y3 => K (.exit 0) (x61_0_0_k0 q0 y0 y1 y2 y3)) := by kernel_rfl
theorem st61_0_0 {β : Type} (N : Nat) (q0 : Tr) (v0 : Int) (v1 : Int) (v2 : Int) (v3 : Int) (v4 : Int) (v5 : Int) (rec_ : St → Option β) (K : Exit → St → Option β) :
    ev lay (E61 N) (retMask Try.f61) (lp Try.f61 0).body (lp Try.f61 0).ex ((lp Try.f61 0).lv (retMask Try.f61)) (h61_0_0 q0 v0 v1 v2 v3 v4 v5) (nextR (fun s' => rec_ (s'.tidy ((lp Try.f61 0).lv (retMask Try.f61)))) K) = impl_makeTable_l0b N (fun x0 k => impl_part_table_1 N x0 q0 k) v0 v1 v2 v3 v4 v5 (fun v0 v1 v2 v3 v4 v5 => rec_ (h61_0_0 q0 v0 v1 v2 v3 v4 v5)) (fun y0 y1 y2 y3 => K (.exit 0) (x61_0_0_k0 q0 y0 y1 y2 y3)) := (vst61_0_0 N (impl_part_table_1 N) (impl_variable_1 N) (impl_Table_restrict_1 N) (impl_makeTable_l0 N) q0 v0 v1 v2 v3 v4 v5 rec_ K).trans (t_impl_makeTable_l0b N (fun x0 k => impl_part_table_1 N x0 q0 k) v0 v1 v2 v3 v4 v5 (fun v0 v1 v2 v3 v4 v5 => rec_ (h61_0_0 q0 v0 v1 v2 v3 v4 v5)) (fun y0 y1 y2 y3 => K (.exit 0) (x61_0_0_k0 q0 y0 y1 y2 y3))).symm
theorem ro61_0_0 {β : Type} (N : Nat) (q0 : Tr) (K : Exit → St → Option β) : ∀ (F : Nat) (v0 : Int) (v1 : Int) (v2 : Int) (v3 : Int) (v4 : Int) (v5 : Int), (lp Try.f61 0).rounds lay (E61 N) (retMask Try.f61) F (h61_0_0 q0 v0 v1 v2 v3 v4 v5) K = impl_makeTable_l0 N (fun x0 k => impl_part_table_1 N x0 q0 k) F v0 v1 v2 v3 v4 v5 (fun y0 y1 y2 y3 => K (.exit 0) (x61_0_0_k0 q0 y0 y1 y2 y3)) := by
  intro F
  induction F with
  | zero => intros; rfl
  | succ F ih =>
    intros
    rw [rounds_next]
    refine (st61_0_0 N q0 _ _ _ _ _ _ (fun s => (lp Try.f61 0).rounds lay (E61 N) (retMask Try.f61) F s K) K).trans ?_
    simp only [ih]
    rfl
theorem vst61_0_1 {β : Type} (N : Nat) (q_impl_part_table_1 : (a0 : Int) → (c0 : Tr) → (k : Bool → Option β) → Option β) (q_impl_variable_1 : (a0 : Int) → (c0 : Int) → (k : Bool → Option β) → Option β) (q_impl_Table_restrict_1 : (a0 : Int) → (c0 : Int) → (c1 : Int) → (c2 : Int) → (c3 : Int) → (k : Bool → Option β) → Option β) (q_impl_makeTable_l0 : (a1 : (Int → (Bool → Option β) → Option β)) → Nat → Int → Int → Int → Int → Int → Int → (Int → Int → Int → Int → Option β) → Option β) (q0 : Int) (v0 : Int) (v1 : Int) (v2 : Int) (v3 : Int) (v4 : Int) (v5 : Int) (rec_ : St → Option β) (K : Exit → St → Option β) :
    ev lay (VE61 N q_impl_part_table_1 q_impl_variable_1 q_impl_Table_restrict_1 q_impl_makeTable_l0) (retMask Try.f61) (lp Try.f61 0).body (lp Try.f61 0).ex ((lp Try.f61 0).lv (retMask Try.f61)) (h61_0_1 q0 v0 v1 v2 v3 v4 v5) (nextR (fun s' => rec_ (s'.tidy ((lp Try.f61 0).lv (retMask Try.f61)))) K) = BV_impl_makeTable_l0b N (fun x0 k => q_impl_variable_1 x0 q0 k) v0 v1 v2 v3 v4 v5 (fun v0 v1 v2 v3 v4 v5 => rec_ (h61_0_1 q0 v0 v1 v2 v3 v4 v5)) (fun y0 y1 y2 y3 => K (.exit 0) (x61_0_1_k0 q0 y0 y1 y2 y3)) := by kernel_rfl
theorem st61_0_1 {β : Type} (N : Nat) (q0 : Int) (v0 : Int) (v1 : Int) (v2 : Int) (v3 : Int) (v4 : Int) (v5 : Int) (rec_ : St → Option β) (K : Exit → St → Option β) :
    ev lay (E61 N) (retMask Try.f61) (lp Try.f61 0).body (lp Try.f61 0).ex ((lp Try.f61 0).lv (retMask Try.f61)) (h61_0_1 q0 v0 v1 v2 v3 v4 v5) (nextR (fun s' => rec_ (s'.tidy ((lp Try.f61 0).lv (retMask Try.f61)))) K) = impl_makeTable_l0b N (fun x0 k => impl_variable_1 N x0 q0 k) v0 v1 v2 v3 v4 v5 (fun v0 v1 v2 v3 v4 v5 => rec_ (h61_0_1 q0 v0 v1 v2 v3 v4 v5)) (fun y0 y1 y2 y3 => K (.exit 0) (x61_0_1_k0 q0 y0 y1 y2 y3)) := (vst61_0_1 N (impl_part_table_1 N) (impl_variable_1 N) (impl_Table_restrict_1 N) (impl_makeTable_l0 N) q0 v0 v1 v2 v3 v4 v5 rec_ K).trans (t_impl_makeTable_l0b N (fun x0 k => impl_variable_1 N x0 q0 k) v0 v1 v2 v3 v4 v5 (fun v0 v1 v2 v3 v4 v5 => rec_ (h61_0_1 q0 v0 v1 v2 v3 v4 v5)) (fun y0 y1 y2 y3 => K (.exit 0) (x61_0_1_k0 q0 y0 y1 y2 y3))).symm
theorem ro61_0_1 {β : Type} (N : Nat) (q0 : Int) (K : Exit → St → Option β) : ∀ (F : Nat) (v0 : Int) (v1 : Int) (v2 : Int) (v3 : Int) (v4 : Int) (v5 : Int), (lp Try.f61 0).rounds lay (E61 N) (retMask Try.f61) F (h61_0_1 q0 v0 v1 v2 v3 v4 v5) K = impl_makeTable_l0 N (fun x0 k => impl_variable_1 N x0 q0 k) F v0 v1 v2 v3 v4 v5 (fun y0 y1 y2 y3 => K (.exit 0) (x61_0_1_k0 q0 y0 y1 y2 y3)) := by
  intro F
  induction F with
  | zero => intros; rfl
  | succ F ih =>
    intros
    rw [rounds_next]
    refine (st61_0_1 N q0 _ _ _ _ _ _ (fun s => (lp Try.f61 0).rounds lay (E61 N) (retMask Try.f61) F s K) K).trans ?_
    simp only [ih]
    rfl
theorem vst61_0_2 {β : Type} (N : Nat) (q_impl_part_table_1 : (a0 : Int) → (c0 : Tr) → (k : Bool → Option β) → Option β) (q_impl_variable_1 : (a0 : Int) → (c0 : Int) → (k : Bool → Option β) → Option β) (q_impl_Table_restrict_1 : (a0 : Int) → (c0 : Int) → (c1 : Int) → (c2 : Int) → (c3 : Int) → (k : Bool → Option β) → Option β) (q_impl_makeTable_l0 : (a1 : (Int → (Bool → Option β) → Option β)) → Nat → Int → Int → Int → Int → Int → Int → (Int → Int → Int → Int → Option β) → Option β) (q0 : Int) (q1 : Int) (q2 : Int) (q3 : Int) (v0 : Int) (v1 : Int) (v2 : Int) (v3 : Int) (v4 : Int) (v5 : Int) (rec_ : St → Option β) (K : Exit → St → Option β) :
    ev lay (VE61 N q_impl_part_table_1 q_impl_variable_1 q_impl_Table_restrict_1 q_impl_makeTable_l0) (retMask Try.f61) (lp Try.f61 0).body (lp Try.f61 0).ex ((lp Try.f61 0).lv (retMask Try.f61)) (h61_0_2 q0 q1 q2 q3 v0 v1 v2 v3 v4 v5) (nextR (fun s' => rec_ (s'.tidy ((lp Try.f61 0).lv (retMask Try.f61)))) K) = BV_impl_makeTable_l0b N (fun x0 k => q_impl_Table_restrict_1 x0 q0 q1 q2 q3 k) v0 v1 v2 v3 v4 v5 (fun v0 v1 v2 v3 v4 v5 => rec_ (h61_0_2 q0 q1 q2 q3 v0 v1 v2 v3 v4 v5)) (fun y0 y1 y2 y3 => K (.exit 0) (x61_0_2_k0 q0 q1 q2 q3 y0 y1 y2 y3)) := by kernel_rfl
theorem st61_0_2 {β : Type} (N : Nat) (q0 : Int) (q1 : Int) (q2 : Int) (q3 : Int) (v0 : Int) (v1 : Int) (v2 : Int) (v3 : Int) (v4 : Int) (v5 : Int) (rec_ : St → Option β) (K : Exit → St → Option β) :
    ev lay (E61 N) (retMask Try.f61) (lp Try.f61 0).body (lp Try.f61 0).ex ((lp Try.f61 0).lv (retMask Try.f61)) (h61_0_2 q0 q1 q2 q3 v0 v1 v2 v3 v4 v5) (nextR (fun s' => rec_ (s'.tidy ((lp Try.f61 0).lv (retMask Try.f61)))) K) = impl_makeTable_l0b N (fun x0 k => impl_Table_restrict_1 N x0 q0 q1 q2 q3 k) v0 v1 v2 v3 v4 v5 (fun v0 v1 v2 v3 v4 v5 => rec_ (h61_0_2 q0 q1 q2 q3 v0 v1 v2 v3 v4 v5)) (fun y0 y1 y2 y3 => K (.exit 0) (x61_0_2_k0 q0 q1 q2 q3 y0 y1 y2 y3)) := (vst61_0_2 N (impl_part_table_1 N) (impl_variable_1 N) (impl_Table_restrict_1 N) (impl_makeTable_l0 N) q0 q1 q2 q3 v0 v1 v2 v3 v4 v5 rec_ K).trans (t_impl_makeTable_l0b N (fun x0 k => impl_Table_restrict_1 N x0 q0 q1 q2 q3 k) v0 v1 v2 v3 v4 v5 (fun v0 v1 v2 v3 v4 v5 => rec_ (h61_0_2 q0 q1 q2 q3 v0 v1 v2 v3 v4 v5)) (fun y0 y1 y2 y3 => K (.exit 0) (x61_0_2_k0 q0 q1 q2 q3 y0 y1 y2 y3))).symm
theorem ro61_0_2 {β : Type} (N : Nat) (q0 : Int) (q1 : Int) (q2 : Int) (q3 : Int) (K : Exit → St → Option β) : ∀ (F : Nat) (v0 : Int) (v1 : Int) (v2 : Int) (v3 : Int) (v4 : Int) (v5 : Int), (lp Try.f61 0).rounds lay (E61 N) (retMask Try.f61) F (h61_0_2 q0 q1 q2 q3 v0 v1 v2 v3 v4 v5) K = impl_makeTable_l0 N (fun x0 k => impl_Table_restrict_1 N x0 q0 q1 q2 q3 k) F v0 v1 v2 v3 v4 v5 (fun y0 y1 y2 y3 => K (.exit 0) (x61_0_2_k0 q0 q1 q2 q3 y0 y1 y2 y3)) := by
  intro F
  induction F with
  | zero => intros; rfl
  | succ F ih =>
    intros
    rw [rounds_next]
    refine (st61_0_2 N q0 q1 q2 q3 _ _ _ _ _ _ (fun s => (lp Try.f61 0).rounds lay (E61 N) (retMask Try.f61) F s K) K).trans ?_
    simp only [ih]
    rfl
theorem lk61_0 {β : Type} (N : Nat) : lookL (E61 (β := β) N).loops (lp Try.f61 0).id = LS61_0 N := by kernel_rfl
theorem rk61_0 {β : Type} (N : Nat) : RoundsOK lay (E61 (β := β) N) (retMask Try.f61) (lp Try.f61 0) := by
  intro s K r h
  rw [lk61_0] at h
  unfold LS61_0 VLS61_0 at h
  cases hb : shpSt (h61_0_0 Tr.nil 0 0 0 0 0 0) s with
  | true =>
    rw [hb, cond_true] at h
    exact ⟨N, by rw [← shpSt_ref hb, fl61_0_0 s]; exact (ro61_0_0 N (trF (nx .no (nx ([], 0) (dfnS (oneA (vT (nx tund s.tmps 1)))) 0).1 0)) K N (intS (oneA (vT (nx tund s.tmps 10)))) (intS (oneA (vT (nx tund s.tmps 11)))) (intS (nx .und (cellsB (nx .dead s.blks 0)) 0)) (intS (nx .und (cellsB (nx .dead s.blks 0)) 1)) (intS (nx .und (cellsB (nx .dead s.blks 1)) 0)) (intS (nx .und (cellsB (nx .dead s.blks 1)) 1))).trans h⟩
  | false =>
  rw [hb, cond_false] at h
  clear hb
  cases hb : shpSt (h61_0_1 0 0 0 0 0 0 0) s with
  | true =>
    rw [hb, cond_true] at h
    exact ⟨N, by rw [← shpSt_ref hb, fl61_0_1 s]; exact (ro61_0_1 N (intF (nx .no (nx ([], 0) (dfnS (oneA (vT (nx tund s.tmps 1)))) 0).1 0)) K N (intS (oneA (vT (nx tund s.tmps 10)))) (intS (oneA (vT (nx tund s.tmps 11)))) (intS (nx .und (cellsB (nx .dead s.blks 0)) 0)) (intS (nx .und (cellsB (nx .dead s.blks 0)) 1)) (intS (nx .und (cellsB (nx .dead s.blks 1)) 0)) (intS (nx .und (cellsB (nx .dead s.blks 1)) 1))).trans h⟩
  | false =>
  rw [hb, cond_false] at h
  clear hb
  cases hb : shpSt (h61_0_2 0 0 0 0 0 0 0 0 0 0) s with
  | true =>
    rw [hb, cond_true] at h
    exact ⟨N, by rw [← shpSt_ref hb, fl61_0_2 s]; exact (ro61_0_2 N (intF (nx .no (nx ([], 0) (dfnS (oneA (vT (nx tund s.tmps 1)))) 0).1 0)) (intF (nx .no (nx ([], 0) (dfnS (oneA (vT (nx tund s.tmps 1)))) 0).1 1)) (intF (nx .no (nx ([], 0) (dfnS (oneA (vT (nx tund s.tmps 1)))) 1).1 0)) (intF (nx .no (nx ([], 0) (dfnS (oneA (vT (nx tund s.tmps 1)))) 2).1 0)) K N (intS (oneA (vT (nx tund s.tmps 10)))) (intS (oneA (vT (nx tund s.tmps 11)))) (intS (nx .und (cellsB (nx .dead s.blks 0)) 0)) (intS (nx .und (cellsB (nx .dead s.blks 0)) 1)) (intS (nx .und (cellsB (nx .dead s.blks 1)) 0)) (intS (nx .und (cellsB (nx .dead s.blks 1)) 1))).trans h⟩
  | false =>
  rw [hb, cond_false] at h
  clear hb
  cases h
def BV_impl_makeTable {β : Type} (N : Nat) (q_impl_makeTable_l0 : (a1 : (Int → (Bool → Option β) → Option β)) → Nat → Int → Int → Int → Int → Int → Int → (Int → Int → Int → Int → Option β) → Option β) (a0 : Int) (a1 : (Int → (Bool → Option β) → Option β)) (k : Int → Int → Option β) : Option β :=
(gd ((decide (0 ≤ a0)))
(q_impl_makeTable_l0 a1 N ((shlI .i64 1 a0)) 0 0 0 a0 0 (fun e5_0 e5_1 e5_2 e5_3 =>
k e5_2 e5_3)))
theorem t_impl_makeTable {β : Type} (N : Nat) (a0 : Int) (a1 : (Int → (Bool → Option β) → Option β)) (k : Int → Int → Option β) : impl_makeTable N a0 a1 k = BV_impl_makeTable N (impl_makeTable_l0 N) a0 a1 k := by
  unfold impl_makeTable BV_impl_makeTable
  rfl
theorem ve61_0 {β : Type} (N : Nat) (q_impl_part_table_1 : (a0 : Int) → (c0 : Tr) → (k : Bool → Option β) → Option β) (q_impl_variable_1 : (a0 : Int) → (c0 : Int) → (k : Bool → Option β) → Option β) (q_impl_Table_restrict_1 : (a0 : Int) → (c0 : Int) → (c1 : Int) → (c2 : Int) → (c3 : Int) → (k : Bool → Option β) → Option β) (q_impl_makeTable_l0 : (a1 : (Int → (Bool → Option β) → Option β)) → Nat → Int → Int → Int → Int → Int → Int → (Int → Int → Int → Int → Option β) → Option β) (q0 : Tr) (a0 : Int) (K : TV → Option β) : evFn lay (VE61 N q_impl_part_table_1 q_impl_variable_1 q_impl_Table_restrict_1 q_impl_makeTable_l0) Try.f61 [.v (.one (.int .i64 a0)), .v (.one (.dfn 62 [([.tr false q0], 0)]))] K = BV_impl_makeTable N q_impl_makeTable_l0 a0 (fun x0 k => q_impl_part_table_1 x0 q0 k) (fun z2 z3 => K (.v (.agg [.int .i64 z2, .int .i64 z3]))) := by kernel_rfl
theorem e61_0 {β : Type} (N : Nat) (q0 : Tr) (a0 : Int) (K : TV → Option β) : evFn lay (E61 N) Try.f61 [.v (.one (.int .i64 a0)), .v (.one (.dfn 62 [([.tr false q0], 0)]))] K = impl_makeTable N a0 (fun x0 k => impl_part_table_1 N x0 q0 k) (fun z2 z3 => K (.v (.agg [.int .i64 z2, .int .i64 z3]))) := (ve61_0 N (impl_part_table_1 N) (impl_variable_1 N) (impl_Table_restrict_1 N) (impl_makeTable_l0 N) q0 a0 K).trans (t_impl_makeTable N a0 (fun x0 k => impl_part_table_1 N x0 q0 k) (fun z2 z3 => K (.v (.agg [.int .i64 z2, .int .i64 z3])))).symm
theorem ve61_1 {β : Type} (N : Nat) (q_impl_part_table_1 : (a0 : Int) → (c0 : Tr) → (k : Bool → Option β) → Option β) (q_impl_variable_1 : (a0 : Int) → (c0 : Int) → (k : Bool → Option β) → Option β) (q_impl_Table_restrict_1 : (a0 : Int) → (c0 : Int) → (c1 : Int) → (c2 : Int) → (c3 : Int) → (k : Bool → Option β) → Option β) (q_impl_makeTable_l0 : (a1 : (Int → (Bool → Option β) → Option β)) → Nat → Int → Int → Int → Int → Int → Int → (Int → Int → Int → Int → Option β) → Option β) (q0 : Int) (a0 : Int) (K : TV → Option β) : evFn lay (VE61 N q_impl_part_table_1 q_impl_variable_1 q_impl_Table_restrict_1 q_impl_makeTable_l0) Try.f61 [.v (.one (.int .i64 a0)), .v (.one (.dfn 82 [([.int .i64 q0], 0)]))] K = BV_impl_makeTable N q_impl_makeTable_l0 a0 (fun x0 k => q_impl_variable_1 x0 q0 k) (fun z2 z3 => K (.v (.agg [.int .i64 z2, .int .i64 z3]))) := by kernel_rfl
theorem e61_1 {β : Type} (N : Nat) (q0 : Int) (a0 : Int) (K : TV → Option β) : evFn lay (E61 N) Try.f61 [.v (.one (.int .i64 a0)), .v (.one (.dfn 82 [([.int .i64 q0], 0)]))] K = impl_makeTable N a0 (fun x0 k => impl_variable_1 N x0 q0 k) (fun z2 z3 => K (.v (.agg [.int .i64 z2, .int .i64 z3]))) := (ve61_1 N (impl_part_table_1 N) (impl_variable_1 N) (impl_Table_restrict_1 N) (impl_makeTable_l0 N) q0 a0 K).trans (t_impl_makeTable N a0 (fun x0 k => impl_variable_1 N x0 q0 k) (fun z2 z3 => K (.v (.agg [.int .i64 z2, .int .i64 z3])))).symm
theorem ve61_2 {β : Type} (N : Nat) (q_impl_part_table_1 : (a0 : Int) → (c0 : Tr) → (k : Bool → Option β) → Option β) (q_impl_variable_1 : (a0 : Int) → (c0 : Int) → (k : Bool → Option β) → Option β) (q_impl_Table_restrict_1 : (a0 : Int) → (c0 : Int) → (c1 : Int) → (c2 : Int) → (c3 : Int) → (k : Bool → Option β) → Option β) (q_impl_makeTable_l0 : (a1 : (Int → (Bool → Option β) → Option β)) → Nat → Int → Int → Int → Int → Int → Int → (Int → Int → Int → Int → Option β) → Option β) (q0 : Int) (q1 : Int) (q2 : Int) (q3 : Int) (a0 : Int) (K : TV → Option β) : evFn lay (VE61 N q_impl_part_table_1 q_impl_variable_1 q_impl_Table_restrict_1 q_impl_makeTable_l0) Try.f61 [.v (.one (.int .i64 a0)), .v (.one (.dfn 79 [([.int .i64 q0, .int .i64 q1], 0), ([.int .i64 q2], 0), ([.int .i64 q3], 0)]))] K = BV_impl_makeTable N q_impl_makeTable_l0 a0 (fun x0 k => q_impl_Table_restrict_1 x0 q0 q1 q2 q3 k) (fun z2 z3 => K (.v (.agg [.int .i64 z2, .int .i64 z3]))) := by kernel_rfl
theorem e61_2 {β : Type} (N : Nat) (q0 : Int) (q1 : Int) (q2 : Int) (q3 : Int) (a0 : Int) (K : TV → Option β) : evFn lay (E61 N) Try.f61 [.v (.one (.int .i64 a0)), .v (.one (.dfn 79 [([.int .i64 q0, .int .i64 q1], 0), ([.int .i64 q2], 0), ([.int .i64 q3], 0)]))] K = impl_makeTable N a0 (fun x0 k => impl_Table_restrict_1 N x0 q0 q1 q2 q3 k) (fun z2 z3 => K (.v (.agg [.int .i64 z2, .int .i64 z3]))) := (ve61_2 N (impl_part_table_1 N) (impl_variable_1 N) (impl_Table_restrict_1 N) (impl_makeTable_l0 N) q0 q1 q2 q3 a0 K).trans (t_impl_makeTable N a0 (fun x0 k => impl_Table_restrict_1 N x0 q0 q1 q2 q3 k) (fun z2 z3 => K (.v (.agg [.int .i64 z2, .int .i64 z3])))).symm
theorem o61 {β : Type} (N : Nat) : SpecOK (β := β) inv Try.prog 61 (S61 N) := by
  refine spec_of lay_ok mixed (E := E61 N) (specs_loops (specs_cons (o62 N) (specs_cons (o82 N) (specs_cons (o79 N) specs_nil)))) muts_nil gs_nil Try.func61 (by kernel_rfl) 1 (by kernel_rfl) ⟨trivial, rk61_0 N⟩ fun args K r h => ?_
  unfold S61 VS61 at h
  split at h
  · exact (e61_0 N _ _ _).trans h
  · exact (e61_1 N _ _ _).trans h
  · exact (e61_2 N _ _ _ _ _ _).trans h
  · cases h
def VS73 {β : Type} (N : Nat) (q_impl_variable : (a0 : Int) → (a1 : Int) → (k : Int → Int → Option β) → Option β) : Rv.Spec β := fun args K => match args with
  | [.v (.one (.int .i64 a0)), .v (.one (.int .i64 a1))] => q_impl_variable a0 a1 (fun z2 z3 => K (.v (.agg [.int .i64 z2, .int .i64 z3])))
  | _ => none
def S73 {β : Type} (N : Nat) : Rv.Spec β := VS73 N (impl_variable N)
def VE73 {β : Type} (N : Nat) (q_impl_makeTable : (a0 : Int) → (a1 : (Int → (Bool → Option β) → Option β)) → (k : Int → Int → Option β) → Option β) (q_impl_part_table_1 : (a0 : Int) → (c0 : Tr) → (k : Bool → Option β) → Option β) (q_impl_variable_1 : (a0 : Int) → (c0 : Int) → (k : Bool → Option β) → Option β) (q_impl_Table_restrict_1 : (a0 : Int) → (c0 : Int) → (c1 : Int) → (c2 : Int) → (c3 : Int) → (k : Bool → Option β) → Option β) : Env β := ⟨[(61, VS61 N q_impl_makeTable q_impl_part_table_1 q_impl_variable_1 q_impl_Table_restrict_1), (82, VS82 N q_impl_variable_1)], [], [], [], ⟨[], [], [], []⟩⟩
def E73 {β : Type} (N : Nat) : Env β := VE73 N (impl_makeTable N) (impl_part_table_1 N) (impl_variable_1 N) (impl_Table_restrict_1 N)
def BV_impl_variable {β : Type} (N : Nat) (q_impl_makeTable : (a0 : Int) → (a1 : (Int → (Bool → Option β) → Option β)) → (k : Int → Int → Option β) → Option β) (q_impl_variable_1 : (a0 : Int) → (c0 : Int) → (k : Bool → Option β) → Option β) (a0 : Int) (a1 : Int) (k : Int → Int → Option β) : Option β :=
q_impl_makeTable a0 (fun x0 k => q_impl_variable_1 x0 a1 k) fun r4 r5 =>
k r4 r5
theorem t_impl_variable {β : Type} (N : Nat) (a0 : Int) (a1 : Int) (k : Int → Int → Option β) : impl_variable N a0 a1 k = BV_impl_variable N (impl_makeTable N) (impl_variable_1 N) a0 a1 k := by
  unfold impl_variable BV_impl_variable
  rfl
theorem ve73_0 {β : Type} (N : Nat) (q_impl_makeTable : (a0 : Int) → (a1 : (Int → (Bool → Option β) → Option β)) → (k : Int → Int → Option β) → Option β) (q_impl_part_table_1 : (a0 : Int) → (c0 : Tr) → (k : Bool → Option β) → Option β) (q_impl_variable_1 : (a0 : Int) → (c0 : Int) → (k : Bool → Option β) → Option β) (q_impl_Table_restrict_1 : (a0 : Int) → (c0 : Int) → (c1 : Int) → (c2 : Int) → (c3 : Int) → (k : Bool → Option β) → Option β)  (a0 : Int) (a1 : Int) (K : TV → Option β) : evFn lay (VE73 N q_impl_makeTable q_impl_part_table_1 q_impl_variable_1 q_impl_Table_restrict_1) Try.f73 [.v (.one (.int .i64 a0)), .v (.one (.int .i64 a1))] K = BV_impl_variable N q_impl_makeTable q_impl_variable_1 a0 a1 (fun z2 z3 => K (.v (.agg [.int .i64 z2, .int .i64 z3]))) := by kernel_rfl
theorem e73_0 {β : Type} (N : Nat)  (a0 : Int) (a1 : Int) (K : TV → Option β) : evFn lay (E73 N) Try.f73 [.v (.one (.int .i64 a0)), .v (.one (.int .i64 a1))] K = impl_variable N a0 a1 (fun z2 z3 => K (.v (.agg [.int .i64 z2, .int .i64 z3]))) := (ve73_0 N (impl_makeTable N) (impl_part_table_1 N) (impl_variable_1 N) (impl_Table_restrict_1 N) a0 a1 K).trans (t_impl_variable N a0 a1 (fun z2 z3 => K (.v (.agg [.int .i64 z2, .int .i64 z3])))).symm
theorem o73 {β : Type} (N : Nat) : SpecOK (β := β) inv Try.prog 73 (S73 N) := by
  refine spec_of lay_ok mixed (E := E73 N) (specs_loops (specs_cons (o61 N) (specs_cons (o82 N) specs_nil))) muts_nil gs_nil Try.func73 (by kernel_rfl) 0 (by kernel_rfl) trivial fun args K r h => ?_
  unfold S73 VS73 at h
  split at h
  · exact (e73_0 N _ _ _).trans h
  · cases h
def VS60 {β : Type} (N : Nat) (q_impl_VariableTable : (a0 : Int) → (a1 : Int) → (k : Int → Int → Bool → Option β) → Option β) : Rv.Spec β := fun args K => match args with
  | [.v (.one (.int .i64 a0)), .v (.one (.int .i64 a1))] => q_impl_VariableTable a0 a1 (fun z2 z3 z4 => K (.tup [.agg [.int .i64 z2, .int .i64 z3], .one (.bool z4)]))
  | _ => none
def S60 {β : Type} (N : Nat) : Rv.Spec β := VS60 N (impl_VariableTable N)
def VE60 {β : Type} (N : Nat) (q_impl_isBits : (a0 : Int) → (k : Bool → Option β) → Option β) (q_impl_variable : (a0 : Int) → (a1 : Int) → (k : Int → Int → Option β) → Option β) : Env β := ⟨[(32, VS32 N q_impl_isBits), (73, VS73 N q_impl_variable)], [], [], [], ⟨[], [], [], []⟩⟩
def E60 {β : Type} (N : Nat) : Env β := VE60 N (impl_isBits N) (impl_variable N)
def BV_impl_VariableTable {β : Type} (N : Nat) (q_impl_isBits : (a0 : Int) → (k : Bool → Option β) → Option β) (q_impl_variable : (a0 : Int) → (a1 : Int) → (k : Int → Int → Option β) → Option β) (a0 : Int) (a1 : Int) (k : Int → Int → Bool → Option β) : Option β :=
q_impl_isBits a0 fun r5 =>
(cond (!r5)
(k 0 0 false)
((cond ((decide (a1 < 0)))
(k 0 0 false)
((cond ((decide (a1 ≥ a0)))
(k 0 0 false)
(q_impl_variable a0 a1 fun r6 r7 =>
k r6 r7 true))))))
theorem t_impl_VariableTable {β : Type} (N : Nat) (a0 : Int) (a1 : Int) (k : Int → Int → Bool → Option β) : impl_VariableTable N a0 a1 k = BV_impl_VariableTable N (impl_isBits N) (impl_variable N) a0 a1 k := by
  unfold impl_VariableTable BV_impl_VariableTable
  rfl
theorem ve60_0 {β : Type} (N : Nat) (q_impl_isBits : (a0 : Int) → (k : Bool → Option β) → Option β) (q_impl_variable : (a0 : Int) → (a1 : Int) → (k : Int → Int → Option β) → Option β)  (a0 : Int) (a1 : Int) (K : TV → Option β) : evFn lay (VE60 N q_impl_isBits q_impl_variable) Try.f60 [.v (.one (.int .i64 a0)), .v (.one (.int .i64 a1))] K = BV_impl_VariableTable N q_impl_isBits q_impl_variable a0 a1 (fun z2 z3 z4 => K (.tup [.agg [.int .i64 z2, .int .i64 z3], .one (.bool z4)])) := by kernel_rfl
theorem e60_0 {β : Type} (N : Nat)  (a0 : Int) (a1 : Int) (K : TV → Option β) : evFn lay (E60 N) Try.f60 [.v (.one (.int .i64 a0)), .v (.one (.int .i64 a1))] K = impl_VariableTable N a0 a1 (fun z2 z3 z4 => K (.tup [.agg [.int .i64 z2, .int .i64 z3], .one (.bool z4)])) := (ve60_0 N (impl_isBits N) (impl_variable N) a0 a1 K).trans (t_impl_VariableTable N a0 a1 (fun z2 z3 z4 => K (.tup [.agg [.int .i64 z2, .int .i64 z3], .one (.bool z4)]))).symm
theorem o60 {β : Type} (N : Nat) : SpecOK (β := β) inv Try.prog 60 (S60 N) := by
  refine spec_of lay_ok mixed (E := E60 N) (specs_loops (specs_cons (o32 N) (specs_cons (o73 N) specs_nil))) muts_nil gs_nil Try.func60 (by kernel_rfl) 0 (by kernel_rfl) trivial fun args K r h => ?_
  unfold S60 VS60 at h
  split at h
  · exact (e60_0 N _ _ _).trans h
  · cases h
def VS66 {β : Type} (N : Nat) (q_impl_Table_size : (a0 : Int) → (a1 : Int) → (k : Int → Option β) → Option β) : Rv.Spec β := fun args K => match args with
  | [.v (.agg [.int .i64 a0, .int .i64 a1])] => q_impl_Table_size a0 a1 (fun z2 => K (.v (.one (.int .i64 z2))))
  | _ => none
def S66 {β : Type} (N : Nat) : Rv.Spec β := VS66 N (impl_Table_size N)
def VE66 {β : Type} (N : Nat) : Env β := ⟨[], [], [], [], ⟨[], [], [], []⟩⟩
def E66 {β : Type} (N : Nat) : Env β := VE66 N
def BV_impl_Table_size {β : Type} (N : Nat) (a0 : Int) (a1 : Int) (k : Int → Option β) : Option β :=
(gd ((decide (0 ≤ a0)))
(k ((shlI .i64 1 a0))))
theorem t_impl_Table_size {β : Type} (N : Nat) (a0 : Int) (a1 : Int) (k : Int → Option β) : impl_Table_size N a0 a1 k = BV_impl_Table_size N a0 a1 k := by
  unfold impl_Table_size BV_impl_Table_size
  rfl
theorem ve66_0 {β : Type} (N : Nat)  (a0 : Int) (a1 : Int) (K : TV → Option β) : evFn lay (VE66 N) Try.f66 [.v (.agg [.int .i64 a0, .int .i64 a1])] K = BV_impl_Table_size N a0 a1 (fun z2 => K (.v (.one (.int .i64 z2)))) := by kernel_rfl
theorem e66_0 {β : Type} (N : Nat)  (a0 : Int) (a1 : Int) (K : TV → Option β) : evFn lay (E66 N) Try.f66 [.v (.agg [.int .i64 a0, .int .i64 a1])] K = impl_Table_size N a0 a1 (fun z2 => K (.v (.one (.int .i64 z2)))) := (ve66_0 N a0 a1 K).trans (t_impl_Table_size N a0 a1 (fun z2 => K (.v (.one (.int .i64 z2))))).symm
theorem o66 {β : Type} (N : Nat) : SpecOK (β := β) inv Try.prog 66 (S66 N) := by
  refine spec_of lay_ok mixed (E := E66 N) (specs_loops specs_nil) muts_nil gs_nil Try.func66 (by kernel_rfl) 0 (by kernel_rfl) trivial fun args K r h => ?_
  unfold S66 VS66 at h
  split at h
  · exact (e66_0 N _ _ _).trans h
  · cases h
def VS63 {β : Type} (N : Nat) (q_impl_Table_not : (a0 : Int) → (a1 : Int) → (k : Int → Int → Option β) → Option β) : Rv.Spec β := fun args K => match args with
  | [.v (.agg [.int .i64 a0, .int .i64 a1])] => q_impl_Table_not a0 a1 (fun z2 z3 => K (.v (.agg [.int .i64 z2, .int .i64 z3])))
  | _ => none
def S63 {β : Type} (N : Nat) : Rv.Spec β := VS63 N (impl_Table_not N)
def VE63 {β : Type} (N : Nat) (q_impl_Table_size : (a0 : Int) → (a1 : Int) → (k : Int → Option β) → Option β) : Env β := ⟨[(66, VS66 N q_impl_Table_size)], [], [], [], ⟨[], [], [], []⟩⟩
def E63 {β : Type} (N : Nat) : Env β := VE63 N (impl_Table_size N)
def BV_impl_Table_not {β : Type} (N : Nat) (q_impl_Table_size : (a0 : Int) → (a1 : Int) → (k : Int → Option β) → Option β) (a0 : Int) (a1 : Int) (k : Int → Int → Option β) : Option β :=
q_impl_Table_size a0 a1 fun r4 =>
(gd ((decide (0 ≤ r4)))
(k a0 ((bits .xor .i64 a1 (w64 ((shlI .i64 1 r4) - 1))))))
theorem t_impl_Table_not {β : Type} (N : Nat) (a0 : Int) (a1 : Int) (k : Int → Int → Option β) : impl_Table_not N a0 a1 k = BV_impl_Table_not N (impl_Table_size N) a0 a1 k := by
  unfold impl_Table_not BV_impl_Table_not
  rfl
theorem ve63_0 {β : Type} (N : Nat) (q_impl_Table_size : (a0 : Int) → (a1 : Int) → (k : Int → Option β) → Option β)  (a0 : Int) (a1 : Int) (K : TV → Option β) : evFn lay (VE63 N q_impl_Table_size) Try.f63 [.v (.agg [.int .i64 a0, .int .i64 a1])] K = BV_impl_Table_not N q_impl_Table_size a0 a1 (fun z2 z3 => K (.v (.agg [.int .i64 z2, .int .i64 z3]))) := by kernel_rfl
theorem e63_0 {β : Type} (N : Nat)  (a0 : Int) (a1 : Int) (K : TV → Option β) : evFn lay (E63 N) Try.f63 [.v (.agg [.int .i64 a0, .int .i64 a1])] K = impl_Table_not N a0 a1 (fun z2 z3 => K (.v (.agg [.int .i64 z2, .int .i64 z3]))) := (ve63_0 N (impl_Table_size N) a0 a1 K).trans (t_impl_Table_not N a0 a1 (fun z2 z3 => K (.v (.agg [.int .i64 z2, .int .i64 z3])))).symm
theorem o63 {β : Type} (N : Nat) : SpecOK (β := β) inv Try.prog 63 (S63 N) := by
  refine spec_of lay_ok mixed (E := E63 N) (specs_loops (specs_cons (o66 N) specs_nil)) muts_nil gs_nil Try.func63 (by kernel_rfl) 0 (by kernel_rfl) trivial fun args K r h => ?_
  unfold S63 VS63 at h
  split at h
  · exact (e63_0 N _ _ _).trans h
  · cases h
def VSF33 {β : Type} (N : Nat) (q_impl_part_table_f : Nat → Tr → Int → (Int → Int → Bool → Option β) → Option β) (G : Nat) : Rv.Spec β := fun args K => match args with
  | [.v (.one (.tr false a0)), .v (.one (.int .i64 a1))] => q_impl_part_table_f G a0 a1 (fun z2 z3 z4 => K (.tup [.agg [.int .i64 z2, .int .i64 z3], .one (.bool z4)]))
  | _ => none
def SF33 {β : Type} (N : Nat) (G : Nat) : Rv.Spec β := VSF33 N (impl_part_table_f N) G
def VS33 {β : Type} (N : Nat) (q_impl_part_table_f : Nat → Tr → Int → (Int → Int → Bool → Option β) → Option β) : Rv.Spec β := VSF33 N q_impl_part_table_f N
def S33 {β : Type} (N : Nat) : Rv.Spec β := SF33 N N
def VE33 {β : Type} (N : Nat) (q_impl_part_isLeaf : (a0 : Tr) → (k : Bool → Option β) → Option β) (q_impl_isLetter : (a0 : Int) → (k : Bool → Option β) → Option β) (q_impl_VariableTable : (a0 : Int) → (a1 : Int) → (k : Int → Int → Bool → Option β) → Option β) (q_impl_makeTable : (a0 : Int) → (a1 : (Int → (Bool → Option β) → Option β)) → (k : Int → Int → Option β) → Option β) (q_impl_part_table_1 : (a0 : Int) → (c0 : Tr) → (k : Bool → Option β) → Option β) (q_impl_variable_1 : (a0 : Int) → (c0 : Int) → (k : Bool → Option β) → Option β) (q_impl_Table_restrict_1 : (a0 : Int) → (c0 : Int) → (c1 : Int) → (c2 : Int) → (c3 : Int) → (k : Bool → Option β) → Option β) (q_impl_Table_not : (a0 : Int) → (a1 : Int) → (k : Int → Int → Option β) → Option β) (q_impl_part_table_f : Nat → Tr → Int → (Int → Int → Bool → Option β) → Option β) (G : Nat) : Env β := ⟨[(58, VS58 N q_impl_part_isLeaf), (59, VS59 N q_impl_isLetter), (60, VS60 N q_impl_VariableTable), (61, VS61 N q_impl_makeTable q_impl_part_table_1 q_impl_variable_1 q_impl_Table_restrict_1), (62, VS62 N q_impl_part_table_1), (63, VS63 N q_impl_Table_not), (33, VSF33 N q_impl_part_table_f G)], [], [], [], ⟨[], [], [], []⟩⟩
def E33 {β : Type} (N : Nat) (G : Nat) : Env β := VE33 N (impl_part_isLeaf N) (impl_isLetter N) (impl_VariableTable N) (impl_makeTable N) (impl_part_table_1 N) (impl_variable_1 N) (impl_Table_restrict_1 N) (impl_Table_not N) (impl_part_table_f N) G
def BV_impl_part_table_b {β : Type} (N : Nat) (q_impl_part_isLeaf : (a0 : Tr) → (k : Bool → Option β) → Option β) (q_impl_isLetter : (a0 : Int) → (k : Bool → Option β) → Option β) (q_impl_VariableTable : (a0 : Int) → (a1 : Int) → (k : Int → Int → Bool → Option β) → Option β) (q_impl_makeTable : (a0 : Int) → (a1 : (Int → (Bool → Option β) → Option β)) → (k : Int → Int → Option β) → Option β) (q_impl_part_table_1 : (a0 : Int) → (c0 : Tr) → (k : Bool → Option β) → Option β) (q_impl_Table_not : (a0 : Int) → (a1 : Int) → (k : Int → Int → Option β) → Option β) (self : Tr → Int → (Int → Int → Bool → Option β) → Option β) (a0 : Tr) (a1 : Int) (k : Int → Int → Bool → Option β) : Option β :=
q_impl_part_isLeaf a0 fun r5 =>
(cond r5
((gd ((!(Tr.isNil a0)))
((gd ((!(Tr.isNil a0)))
((gd ((!(Tr.isNil a0)))
(q_impl_isLetter ((Tr.a a0)) fun r6 =>
(cond r6
((gd ((!(Tr.isNil a0)))
((gd ((!(Tr.isNil a0)))
((gd ((!(Tr.isNil a0)))
(q_impl_VariableTable a1 ((w64 ((w8 ((Tr.a a0) - 97))))) fun r7 r8 r9 =>
k r7 r8 r9)))))))
(q_impl_makeTable a1 (fun x0 k => q_impl_part_table_1 x0 a0 k) fun r10 r11 =>
k r10 r11 true)))))))))
((gd ((!(Tr.isNil a0)))
((gd ((!(Tr.isNil a0)))
((gd ((!(Tr.isNil a0)))
(self ((Tr.l a0)) a1 fun r12 r13 r14 =>
(cond (!r14)
(k 0 0 false)
((gd ((!(Tr.isNil a0)))
((gd ((!(Tr.isNil a0)))
((gd ((!(Tr.isNil a0)))
((cond (((Tr.a a0) == 33))
(q_impl_Table_not r12 r13 fun r15 r16 =>
k r15 r16 true)
((gd ((!(Tr.isNil a0)))
((gd ((!(Tr.isNil a0)))
((gd ((!(Tr.isNil a0)))
(self ((Tr.r a0)) a1 fun r17 r18 r19 =>
(cond (!r19)
(k 0 0 false)
((gd ((!(Tr.isNil a0)))
((gd ((!(Tr.isNil a0)))
((gd ((!(Tr.isNil a0)))
((cond (((Tr.a a0) == 38))
(k r12 ((bits .and .i64 r13 r18)) true)
((cond (((Tr.a a0) == 124))
(k r12 ((bits .or .i64 r13 r18)) true)
(k r12 ((bits .xor .i64 r13 r18)) true))))))))))))))))))))))))))))))))))))
theorem t_impl_part_table_b {β : Type} (N : Nat) (self : Tr → Int → (Int → Int → Bool → Option β) → Option β) (a0 : Tr) (a1 : Int) (k : Int → Int → Bool → Option β) : impl_part_table_b N self a0 a1 k = BV_impl_part_table_b N (impl_part_isLeaf N) (impl_isLetter N) (impl_VariableTable N) (impl_makeTable N) (impl_part_table_1 N) (impl_Table_not N) self a0 a1 k := by
  unfold impl_part_table_b BV_impl_part_table_b
  rfl
theorem ve33_0 {β : Type} (N : Nat) (q_impl_part_isLeaf : (a0 : Tr) → (k : Bool → Option β) → Option β) (q_impl_isLetter : (a0 : Int) → (k : Bool → Option β) → Option β) (q_impl_VariableTable : (a0 : Int) → (a1 : Int) → (k : Int → Int → Bool → Option β) → Option β) (q_impl_makeTable : (a0 : Int) → (a1 : (Int → (Bool → Option β) → Option β)) → (k : Int → Int → Option β) → Option β) (q_impl_part_table_1 : (a0 : Int) → (c0 : Tr) → (k : Bool → Option β) → Option β) (q_impl_variable_1 : (a0 : Int) → (c0 : Int) → (k : Bool → Option β) → Option β) (q_impl_Table_restrict_1 : (a0 : Int) → (c0 : Int) → (c1 : Int) → (c2 : Int) → (c3 : Int) → (k : Bool → Option β) → Option β) (q_impl_Table_not : (a0 : Int) → (a1 : Int) → (k : Int → Int → Option β) → Option β) (q_impl_part_table_f : Nat → Tr → Int → (Int → Int → Bool → Option β) → Option β) (G : Nat)  (a0 : Tr) (a1 : Int) (K : TV → Option β) : evFn lay (VE33 N q_impl_part_isLeaf q_impl_isLetter q_impl_VariableTable q_impl_makeTable q_impl_part_table_1 q_impl_variable_1 q_impl_Table_restrict_1 q_impl_Table_not q_impl_part_table_f G) Try.f33 [.v (.one (.tr false a0)), .v (.one (.int .i64 a1))] K = BV_impl_part_table_b N q_impl_part_isLeaf q_impl_isLetter q_impl_VariableTable q_impl_makeTable q_impl_part_table_1 q_impl_Table_not (q_impl_part_table_f G) a0 a1 (fun z2 z3 z4 => K (.tup [.agg [.int .i64 z2, .int .i64 z3], .one (.bool z4)])) := by kernel_rfl
theorem e33_0 {β : Type} (N : Nat) (G : Nat)  (a0 : Tr) (a1 : Int) (K : TV → Option β) : evFn lay (E33 N G) Try.f33 [.v (.one (.tr false a0)), .v (.one (.int .i64 a1))] K = impl_part_table_f N (G + 1) a0 a1 (fun z2 z3 z4 => K (.tup [.agg [.int .i64 z2, .int .i64 z3], .one (.bool z4)])) := (ve33_0 N (impl_part_isLeaf N) (impl_isLetter N) (impl_VariableTable N) (impl_makeTable N) (impl_part_table_1 N) (impl_variable_1 N) (impl_Table_restrict_1 N) (impl_Table_not N) (impl_part_table_f N) G a0 a1 K).trans (t_impl_part_table_b N (impl_part_table_f N G) a0 a1 (fun z2 z3 z4 => K (.tup [.agg [.int .i64 z2, .int .i64 z3], .one (.bool z4)]))).symm
theorem z33 {β : Type} (N : Nat) : ∀ args K r, SF33 (β := β) N 0 args K = some r → (none : Option β) = some r := by
  intro args K r h
  unfold SF33 VSF33 at h
  split at h <;> exact h
theorem of33 {β : Type} (N : Nat) : ∀ G, SpecOK (β := β) inv Try.prog 33 (SF33 N G) := by
  intro G
  induction G with
  | zero => exact s_zero Try.func33 (by kernel_rfl) (z33 N)
  | succ G ih =>
    refine spec_of lay_ok mixed (E := E33 N G) (specs_loops (specs_cons (o58 N) (specs_cons (o59 N) (specs_cons (o60 N) (specs_cons (o61 N) (specs_cons (o62 N) (specs_cons (o63 N) (specs_cons ih specs_nil)))))))) muts_nil gs_nil Try.func33 (by kernel_rfl) 0 (by kernel_rfl) trivial fun args K r h => ?_
    unfold SF33 VSF33 at h
    split at h
    · exact (e33_0 N G _ _ _).trans h
    · cases h
theorem o33 {β : Type} (N : Nat) : SpecOK (β := β) inv Try.prog 33 (S33 N) := of33 N N
def VS6 {β : Type} (N : Nat) (q_impl_TableOfFormula : (a0 : ByteArray) → (a1 : Int) → (k : Int → Int → Bool → Option β) → Option β) : Rv.Spec β := fun args K => match args with
  | [.v (.one (.str a0)), .v (.one (.int .i64 a1))] => q_impl_TableOfFormula a0 a1 (fun z2 z3 z4 => K (.tup [.agg [.int .i64 z2, .int .i64 z3], .one (.bool z4)]))
  | _ => none
def S6 {β : Type} (N : Nat) : Rv.Spec β := VS6 N (impl_TableOfFormula N)
def VE6 {β : Type} (N : Nat) (q_impl_readFormula : (a0 : ByteArray) → (k : Tr → Bool → Option β) → Option β) (q_impl_isBits : (a0 : Int) → (k : Bool → Option β) → Option β) (q_impl_part_table_f : Nat → Tr → Int → (Int → Int → Bool → Option β) → Option β) : Env β := ⟨[(31, VS31 N q_impl_readFormula), (32, VS32 N q_impl_isBits), (33, VS33 N q_impl_part_table_f)], [], [], [], ⟨[], [], [], []⟩⟩
def E6 {β : Type} (N : Nat) : Env β := VE6 N (impl_readFormula N) (impl_isBits N) (impl_part_table_f N)
def BV_impl_TableOfFormula {β : Type} (N : Nat) (q_impl_readFormula : (a0 : ByteArray) → (k : Tr → Bool → Option β) → Option β) (q_impl_isBits : (a0 : Int) → (k : Bool → Option β) → Option β) (q_impl_part_table_f : Nat → Tr → Int → (Int → Int → Bool → Option β) → Option β) (a0 : ByteArray) (a1 : Int) (k : Int → Int → Bool → Option β) : Option β :=
q_impl_readFormula a0 fun r5 r6 =>
(cond (!r6)
(k 0 0 false)
(q_impl_isBits a1 fun r7 =>
(cond (!r7)
(k 0 0 false)
(q_impl_part_table_f N r5 a1 fun r8 r9 r10 =>
k r8 r9 r10))))
theorem t_impl_TableOfFormula {β : Type} (N : Nat) (a0 : ByteArray) (a1 : Int) (k : Int → Int → Bool → Option β) : impl_TableOfFormula N a0 a1 k = BV_impl_TableOfFormula N (impl_readFormula N) (impl_isBits N) (impl_part_table_f N) a0 a1 k := by
  unfold impl_TableOfFormula BV_impl_TableOfFormula
  rfl
theorem ve6_0 {β : Type} (N : Nat) (q_impl_readFormula : (a0 : ByteArray) → (k : Tr → Bool → Option β) → Option β) (q_impl_isBits : (a0 : Int) → (k : Bool → Option β) → Option β) (q_impl_part_table_f : Nat → Tr → Int → (Int → Int → Bool → Option β) → Option β)  (a0 : ByteArray) (a1 : Int) (K : TV → Option β) : evFn lay (VE6 N q_impl_readFormula q_impl_isBits q_impl_part_table_f) Try.f6 [.v (.one (.str a0)), .v (.one (.int .i64 a1))] K = BV_impl_TableOfFormula N q_impl_readFormula q_impl_isBits q_impl_part_table_f a0 a1 (fun z2 z3 z4 => K (.tup [.agg [.int .i64 z2, .int .i64 z3], .one (.bool z4)])) := by kernel_rfl
theorem e6_0 {β : Type} (N : Nat)  (a0 : ByteArray) (a1 : Int) (K : TV → Option β) : evFn lay (E6 N) Try.f6 [.v (.one (.str a0)), .v (.one (.int .i64 a1))] K = impl_TableOfFormula N a0 a1 (fun z2 z3 z4 => K (.tup [.agg [.int .i64 z2, .int .i64 z3], .one (.bool z4)])) := (ve6_0 N (impl_readFormula N) (impl_isBits N) (impl_part_table_f N) a0 a1 K).trans (t_impl_TableOfFormula N a0 a1 (fun z2 z3 z4 => K (.tup [.agg [.int .i64 z2, .int .i64 z3], .one (.bool z4)]))).symm
theorem o6 {β : Type} (N : Nat) : SpecOK (β := β) inv Try.prog 6 (S6 N) := by
  refine spec_of lay_ok mixed (E := E6 N) (specs_loops (specs_cons (o31 N) (specs_cons (o32 N) (specs_cons (o33 N) specs_nil)))) muts_nil gs_nil Try.func6 (by kernel_rfl) 0 (by kernel_rfl) trivial fun args K r h => ?_
  unfold S6 VS6 at h
  split at h
  · exact (e6_0 N _ _ _).trans h
  · cases h
end Go.Proofs.Ytddflpokemgnmaa
