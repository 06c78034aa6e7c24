/- The functions that the claims reach answer as their texts do. -/
import Derived.Test.YtdkjnadhgdneaaaE1
namespace Go.Proofs.Ytdkjnadhgdneaaa
open Go.Rv
set_option maxRecDepth 100000
set_option maxHeartbeats 2000000
set_option linter.unusedVariables false
def VS73 {β : Type} (N : Nat) (q_spec_DrawRestrictTable : (a0 : List Int) → (k : Int → Int → Int → Int → Option β) → Option β) : Rv.Spec β := fun args K => match args with
  | [.v (.one (.sl 5 (.ints .u8 a0)))] => q_spec_DrawRestrictTable a0 (fun z1 z2 z3 z4 => K (.tup [.agg [.int .i64 z1, .int .i64 z2], .one (.int .i64 z3), .one (.int .i64 z4)]))
  | _ => none
def S73 {β : Type} (N : Nat) : Rv.Spec β := VS73 N (spec_DrawRestrictTable N)
def VE73 {β : Type} (N : Nat) (q_spec_l3Var : (a0 : List Int) → (k : Int → Int → Int → Option β) → Option β) : Env β := ⟨[(114, VS114 N q_spec_l3Var)], [], [], []⟩
def E73 {β : Type} (N : Nat) : Env β := VE73 N (spec_l3Var N)
def BV_spec_DrawRestrictTable {β : Type} (N : Nat) (q_spec_l3Var : (a0 : List Int) → (k : Int → Int → Int → Option β) → Option β) (a0 : List Int) (k : Int → Int → Int → Int → Option β) : Option β :=
q_spec_l3Var a0 fun r5 r6 r7 =>
(gd ((decide (0 ≤ (remI (a0.length : Int) 6))))
((gd ((decide ((remI (a0.length : Int) 6) < ((((((((([] : List Int) ++ [0]) ++ [1]) ++ [0]) ++ [1]) ++ [2]) ++ [(-1)])).length : Int))))
((spec_DrawRestrictTable_s2 r7 ((rd 0 (((((((([] : List Int) ++ [0]) ++ [1]) ++ [0]) ++ [1]) ++ [2]) ++ [(-1)])) (remI (a0.length : Int) 6))) r5 r6
((gd ((decide (0 ≤ (remI (a0.length : Int) 6))))
((gd ((decide ((remI (a0.length : Int) 6) < ((((((((([] : List Int) ++ [0]) ++ [1]) ++ [0]) ++ [1]) ++ [2]) ++ [(-1)])).length : Int))))
((spec_DrawRestrictTable_s2 r7 ((rd 0 (((((((([] : List Int) ++ [0]) ++ [1]) ++ [0]) ++ [1]) ++ [2]) ++ [(-1)])) (remI (a0.length : Int) 6))) r5 r6
((gd ((decide (0 ≤ (remI (a0.length : Int) 6))))
((gd ((decide ((remI (a0.length : Int) 6) < ((((((((([] : List Int) ++ [0]) ++ [1]) ++ [0]) ++ [1]) ++ [2]) ++ [(-1)])).length : Int))))
((spec_DrawRestrictTable_s2 r7 ((rd 0 (((((((([] : List Int) ++ [0]) ++ [1]) ++ [0]) ++ [1]) ++ [2]) ++ [(-1)])) (remI (a0.length : Int) 6))) r5 r6
((gd ((decide (0 ≤ (remI (a0.length : Int) 6))))
((gd ((decide ((remI (a0.length : Int) 6) < ((((((((([] : List Int) ++ [0]) ++ [1]) ++ [0]) ++ [1]) ++ [2]) ++ [(-1)])).length : Int))))
((spec_DrawRestrictTable_s2 r7 ((rd 0 (((((((([] : List Int) ++ [0]) ++ [1]) ++ [0]) ++ [1]) ++ [2]) ++ [(-1)])) (remI (a0.length : Int) 6))) r5 r6
((gd ((decide (0 ≤ (remI (a0.length : Int) 6))))
((gd ((decide ((remI (a0.length : Int) 6) < ((((((((([] : List Int) ++ [0]) ++ [1]) ++ [0]) ++ [1]) ++ [2]) ++ [(-1)])).length : Int))))
((spec_DrawRestrictTable_s2 r7 ((rd 0 (((((((([] : List Int) ++ [0]) ++ [1]) ++ [0]) ++ [1]) ++ [2]) ++ [(-1)])) (remI (a0.length : Int) 6))) r5 r6
((gd ((decide (0 ≤ (remI (a0.length : Int) 6))))
((gd ((decide ((remI (a0.length : Int) 6) < ((((((((([] : List Int) ++ [0]) ++ [1]) ++ [0]) ++ [1]) ++ [2]) ++ [(-1)])).length : Int))))
((spec_DrawRestrictTable_s2 r7 ((rd 0 (((((((([] : List Int) ++ [0]) ++ [1]) ++ [0]) ++ [1]) ++ [2]) ++ [(-1)])) (remI (a0.length : Int) 6))) r5 r6
((gd ((decide (0 ≤ (remI (a0.length : Int) 6))))
((gd ((decide ((remI (a0.length : Int) 6) < ((((((((([] : List Int) ++ [0]) ++ [1]) ++ [0]) ++ [1]) ++ [2]) ++ [(-1)])).length : Int))))
((spec_DrawRestrictTable_s2 r7 ((rd 0 (((((((([] : List Int) ++ [0]) ++ [1]) ++ [0]) ++ [1]) ++ [2]) ++ [(-1)])) (remI (a0.length : Int) 6))) r5 r6
((spec_DrawRestrictTable_s2 r7 ((rd 0 (((((((([] : List Int) ++ [0]) ++ [1]) ++ [0]) ++ [1]) ++ [2]) ++ [(-1)])) (remI (a0.length : Int) 6))) r5 r6
(k r5 r6 r7 ((rd 0 (((((((([] : List Int) ++ [0]) ++ [1]) ++ [0]) ++ [1]) ++ [2]) ++ [(-1)])) (remI (a0.length : Int) 6)))))))))))))))))))))))))))))))))))))))))))))))
theorem t_spec_DrawRestrictTable {β : Type} (N : Nat) (a0 : List Int) (k : Int → Int → Int → Int → Option β) : spec_DrawRestrictTable N a0 k = BV_spec_DrawRestrictTable N (spec_l3Var N) a0 k := by
  unfold spec_DrawRestrictTable BV_spec_DrawRestrictTable
  rfl
theorem ve73_0 {β : Type} (N : Nat) (q_spec_l3Var : (a0 : List Int) → (k : Int → Int → Int → Option β) → Option β)  (a0 : List Int) (K : TV → Option β) : evFn lay (VE73 N q_spec_l3Var) Try.f73 [.v (.one (.sl 5 (.ints .u8 a0)))] K = BV_spec_DrawRestrictTable N q_spec_l3Var a0 (fun z1 z2 z3 z4 => K (.tup [.agg [.int .i64 z1, .int .i64 z2], .one (.int .i64 z3), .one (.int .i64 z4)])) := by kernel_rfl
theorem e73_0 {β : Type} (N : Nat)  (a0 : List Int) (K : TV → Option β) : evFn lay (E73 N) Try.f73 [.v (.one (.sl 5 (.ints .u8 a0)))] K = spec_DrawRestrictTable N a0 (fun z1 z2 z3 z4 => K (.tup [.agg [.int .i64 z1, .int .i64 z2], .one (.int .i64 z3), .one (.int .i64 z4)])) := (ve73_0 N (spec_l3Var N) a0 K).trans (t_spec_DrawRestrictTable N a0 (fun z1 z2 z3 z4 => K (.tup [.agg [.int .i64 z1, .int .i64 z2], .one (.int .i64 z3), .one (.int .i64 z4)]))).symm
theorem o73 {β : Type} (N : Nat) : SpecOK (β := β) Try.prog 73 (S73 N) := by
  refine spec_of lay_ok mixed (E := E73 N) (specs_loops (specs_cons (o114 N) specs_nil)) muts_nil gs_nil Try.func73 (by kernel_rfl) 0 (by kernel_rfl) trivial fun args K r h => ?_
  unfold S73 VS73 at h
  split at h
  · exact (e73_0 N _ _).trans h
  · cases h
def VS25 {β : Type} (N : Nat) (q_spec_DrawDetectingInputs : (a0 : List Int) → (k : Int → Int → Int → Int → Option β) → Option β) : Rv.Spec β := fun args K => match args with
  | [.v (.one (.sl 5 (.ints .u8 a0)))] => q_spec_DrawDetectingInputs a0 (fun z1 z2 z3 z4 => K (.tup [.agg [.int .i64 z1, .int .i64 z2], .one (.int .i64 z3), .one (.int .i64 z4)]))
  | _ => none
def S25 {β : Type} (N : Nat) : Rv.Spec β := VS25 N (spec_DrawDetectingInputs N)
def VE25 {β : Type} (N : Nat) (q_spec_DrawRestrictTable : (a0 : List Int) → (k : Int → Int → Int → Int → Option β) → Option β) : Env β := ⟨[(73, VS73 N q_spec_DrawRestrictTable)], [], [], []⟩
def E25 {β : Type} (N : Nat) : Env β := VE25 N (spec_DrawRestrictTable N)
def BV_spec_DrawDetectingInputs {β : Type} (N : Nat) (q_spec_DrawRestrictTable : (a0 : List Int) → (k : Int → Int → Int → Int → Option β) → Option β) (a0 : List Int) (k : Int → Int → Int → Int → Option β) : Option β :=
q_spec_DrawRestrictTable a0 fun r5 r6 r7 r8 =>
k r5 r6 r7 r8
theorem t_spec_DrawDetectingInputs {β : Type} (N : Nat) (a0 : List Int) (k : Int → Int → Int → Int → Option β) : spec_DrawDetectingInputs N a0 k = BV_spec_DrawDetectingInputs N (spec_DrawRestrictTable N) a0 k := by
  unfold spec_DrawDetectingInputs BV_spec_DrawDetectingInputs
  rfl
theorem ve25_0 {β : Type} (N : Nat) (q_spec_DrawRestrictTable : (a0 : List Int) → (k : Int → Int → Int → Int → Option β) → Option β)  (a0 : List Int) (K : TV → Option β) : evFn lay (VE25 N q_spec_DrawRestrictTable) Try.f25 [.v (.one (.sl 5 (.ints .u8 a0)))] K = BV_spec_DrawDetectingInputs N q_spec_DrawRestrictTable a0 (fun z1 z2 z3 z4 => K (.tup [.agg [.int .i64 z1, .int .i64 z2], .one (.int .i64 z3), .one (.int .i64 z4)])) := by kernel_rfl
theorem e25_0 {β : Type} (N : Nat)  (a0 : List Int) (K : TV → Option β) : evFn lay (E25 N) Try.f25 [.v (.one (.sl 5 (.ints .u8 a0)))] K = spec_DrawDetectingInputs N a0 (fun z1 z2 z3 z4 => K (.tup [.agg [.int .i64 z1, .int .i64 z2], .one (.int .i64 z3), .one (.int .i64 z4)])) := (ve25_0 N (spec_DrawRestrictTable N) a0 K).trans (t_spec_DrawDetectingInputs N a0 (fun z1 z2 z3 z4 => K (.tup [.agg [.int .i64 z1, .int .i64 z2], .one (.int .i64 z3), .one (.int .i64 z4)]))).symm
theorem o25 {β : Type} (N : Nat) : SpecOK (β := β) Try.prog 25 (S25 N) := by
  refine spec_of lay_ok mixed (E := E25 N) (specs_loops (specs_cons (o73 N) specs_nil)) muts_nil gs_nil Try.func25 (by kernel_rfl) 0 (by kernel_rfl) trivial fun args K r h => ?_
  unfold S25 VS25 at h
  split at h
  · exact (e25_0 N _ _).trans h
  · cases h
def VS110 {β : Type} (N : Nat) (q_impl_isBits : (a0 : Int) → (k : Bool → Option β) → Option β) : Rv.Spec β := fun args K => match args with
  | [.v (.one (.int .i64 a0))] => q_impl_isBits a0 (fun z1 => K (.v (.one (.bool z1))))
  | _ => none
def S110 {β : Type} (N : Nat) : Rv.Spec β := VS110 N (impl_isBits N)
def VE110 {β : Type} (N : Nat) : Env β := ⟨[], [], [], []⟩
def E110 {β : Type} (N : Nat) : Env β := VE110 N
def BV_impl_isBits {β : Type} (N : Nat) (a0 : Int) (k : Bool → Option β) : Option β :=
(cond ((decide (a0 ≥ 0)))
(k ((decide (a0 ≤ 5))))
(k false))
theorem t_impl_isBits {β : Type} (N : Nat) (a0 : Int) (k : Bool → Option β) : impl_isBits N a0 k = BV_impl_isBits N a0 k := by
  unfold impl_isBits BV_impl_isBits
  rfl
theorem ve110_0 {β : Type} (N : Nat)  (a0 : Int) (K : TV → Option β) : evFn lay (VE110 N) Try.f110 [.v (.one (.int .i64 a0))] K = BV_impl_isBits N a0 (fun z1 => K (.v (.one (.bool z1)))) := by kernel_rfl
theorem e110_0 {β : Type} (N : Nat)  (a0 : Int) (K : TV → Option β) : evFn lay (E110 N) Try.f110 [.v (.one (.int .i64 a0))] K = impl_isBits N a0 (fun z1 => K (.v (.one (.bool z1)))) := (ve110_0 N a0 K).trans (t_impl_isBits N a0 (fun z1 => K (.v (.one (.bool z1))))).symm
theorem o110 {β : Type} (N : Nat) : SpecOK (β := β) Try.prog 110 (S110 N) := by
  refine spec_of lay_ok mixed (E := E110 N) (specs_loops specs_nil) muts_nil gs_nil Try.func110 (by kernel_rfl) 0 (by kernel_rfl) trivial fun args K r h => ?_
  unfold S110 VS110 at h
  split at h
  · exact (e110_0 N _ _).trans h
  · cases h
def VS82 {β : Type} (N : Nat) (q_impl_Table_size : (a0 : Int) → (a1 : Int) → (k : Int → Option β) → Option β) : Rv.Spec β := fun args K => match args with
  | [.v (.agg [.int .i64 a0, .int .i64 a1])] => q_impl_Table_size a0 a1 (fun z2 => K (.v (.one (.int .i64 z2))))
  | _ => none
def S82 {β : Type} (N : Nat) : Rv.Spec β := VS82 N (impl_Table_size N)
def VE82 {β : Type} (N : Nat) : Env β := ⟨[], [], [], []⟩
def E82 {β : Type} (N : Nat) : Env β := VE82 N
def BV_impl_Table_size {β : Type} (N : Nat) (a0 : Int) (a1 : Int) (k : Int → Option β) : Option β :=
(gd ((decide (0 ≤ a0)))
(k ((shlI .i64 1 a0))))
theorem t_impl_Table_size {β : Type} (N : Nat) (a0 : Int) (a1 : Int) (k : Int → Option β) : impl_Table_size N a0 a1 k = BV_impl_Table_size N a0 a1 k := by
  unfold impl_Table_size BV_impl_Table_size
  rfl
theorem ve82_0 {β : Type} (N : Nat)  (a0 : Int) (a1 : Int) (K : TV → Option β) : evFn lay (VE82 N) Try.f82 [.v (.agg [.int .i64 a0, .int .i64 a1])] K = BV_impl_Table_size N a0 a1 (fun z2 => K (.v (.one (.int .i64 z2)))) := by kernel_rfl
theorem e82_0 {β : Type} (N : Nat)  (a0 : Int) (a1 : Int) (K : TV → Option β) : evFn lay (E82 N) Try.f82 [.v (.agg [.int .i64 a0, .int .i64 a1])] K = impl_Table_size N a0 a1 (fun z2 => K (.v (.one (.int .i64 z2)))) := (ve82_0 N a0 a1 K).trans (t_impl_Table_size N a0 a1 (fun z2 => K (.v (.one (.int .i64 z2))))).symm
theorem o82 {β : Type} (N : Nat) : SpecOK (β := β) Try.prog 82 (S82 N) := by
  refine spec_of lay_ok mixed (E := E82 N) (specs_loops specs_nil) muts_nil gs_nil Try.func82 (by kernel_rfl) 0 (by kernel_rfl) trivial fun args K r h => ?_
  unfold S82 VS82 at h
  split at h
  · exact (e82_0 N _ _ _).trans h
  · cases h
def VS61 {β : Type} (N : Nat) (q_impl_IsTable : (a0 : Int) → (a1 : Int) → (k : Bool → Option β) → Option β) : Rv.Spec β := fun args K => match args with
  | [.v (.agg [.int .i64 a0, .int .i64 a1])] => q_impl_IsTable a0 a1 (fun z2 => K (.v (.one (.bool z2))))
  | _ => none
def S61 {β : Type} (N : Nat) : Rv.Spec β := VS61 N (impl_IsTable N)
def VE61 {β : Type} (N : Nat) (q_impl_isBits : (a0 : Int) → (k : Bool → Option β) → Option β) (q_impl_Table_size : (a0 : Int) → (a1 : Int) → (k : Int → Option β) → Option β) : Env β := ⟨[(110, VS110 N q_impl_isBits), (82, VS82 N q_impl_Table_size)], [], [], []⟩
def E61 {β : Type} (N : Nat) : Env β := VE61 N (impl_isBits N) (impl_Table_size N)
def BV_impl_IsTable {β : Type} (N : Nat) (q_impl_isBits : (a0 : Int) → (k : Bool → Option β) → Option β) (q_impl_Table_size : (a0 : Int) → (a1 : Int) → (k : Int → Option β) → Option β) (a0 : Int) (a1 : Int) (k : Bool → Option β) : Option β :=
q_impl_isBits a0 fun r3 =>
(cond r3
((cond ((decide (a1 ≥ 0)))
(q_impl_Table_size a0 a1 fun r4 =>
(gd ((decide (0 ≤ r4)))
(k (((shrI .i64 a1 r4) == 0)))))
(k false)))
(k false))
theorem t_impl_IsTable {β : Type} (N : Nat) (a0 : Int) (a1 : Int) (k : Bool → Option β) : impl_IsTable N a0 a1 k = BV_impl_IsTable N (impl_isBits N) (impl_Table_size N) a0 a1 k := by
  unfold impl_IsTable BV_impl_IsTable
  rfl
theorem ve61_0 {β : Type} (N : Nat) (q_impl_isBits : (a0 : Int) → (k : Bool → Option β) → Option β) (q_impl_Table_size : (a0 : Int) → (a1 : Int) → (k : Int → Option β) → Option β)  (a0 : Int) (a1 : Int) (K : TV → Option β) : evFn lay (VE61 N q_impl_isBits q_impl_Table_size) Try.f61 [.v (.agg [.int .i64 a0, .int .i64 a1])] K = BV_impl_IsTable N q_impl_isBits q_impl_Table_size a0 a1 (fun z2 => K (.v (.one (.bool z2)))) := by kernel_rfl
theorem e61_0 {β : Type} (N : Nat)  (a0 : Int) (a1 : Int) (K : TV → Option β) : evFn lay (E61 N) Try.f61 [.v (.agg [.int .i64 a0, .int .i64 a1])] K = impl_IsTable N a0 a1 (fun z2 => K (.v (.one (.bool z2)))) := (ve61_0 N (impl_isBits N) (impl_Table_size N) a0 a1 K).trans (t_impl_IsTable N a0 a1 (fun z2 => K (.v (.one (.bool z2))))).symm
theorem o61 {β : Type} (N : Nat) : SpecOK (β := β) Try.prog 61 (S61 N) := by
  refine spec_of lay_ok mixed (E := E61 N) (specs_loops (specs_cons (o110 N) (specs_cons (o82 N) specs_nil))) muts_nil gs_nil Try.func61 (by kernel_rfl) 0 (by kernel_rfl) trivial fun args K r h => ?_
  unfold S61 VS61 at h
  split at h
  · exact (e61_0 N _ _ _).trans h
  · cases h
def VS74 {β : Type} (N : Nat) (q_impl_hasVariable : (a0 : Int) → (a1 : Int) → (a2 : Int) → (k : Bool → Option β) → Option β) : Rv.Spec β := fun args K => match args with
  | [.v (.agg [.int .i64 a0, .int .i64 a1]), .v (.one (.int .i64 a2))] => q_impl_hasVariable a0 a1 a2 (fun z3 => K (.v (.one (.bool z3))))
  | _ => none
def S74 {β : Type} (N : Nat) : Rv.Spec β := VS74 N (impl_hasVariable N)
def VE74 {β : Type} (N : Nat) (q_impl_IsTable : (a0 : Int) → (a1 : Int) → (k : Bool → Option β) → Option β) : Env β := ⟨[(61, VS61 N q_impl_IsTable)], [], [], []⟩
def E74 {β : Type} (N : Nat) : Env β := VE74 N (impl_IsTable N)
def BV_impl_hasVariable {β : Type} (N : Nat) (q_impl_IsTable : (a0 : Int) → (a1 : Int) → (k : Bool → Option β) → Option β) (a0 : Int) (a1 : Int) (a2 : Int) (k : Bool → Option β) : Option β :=
q_impl_IsTable a0 a1 fun r4 =>
(cond r4
((cond ((decide (a2 ≥ 0)))
(k ((decide (a2 < a0))))
(k false)))
(k false))
theorem t_impl_hasVariable {β : Type} (N : Nat) (a0 : Int) (a1 : Int) (a2 : Int) (k : Bool → Option β) : impl_hasVariable N a0 a1 a2 k = BV_impl_hasVariable N (impl_IsTable N) a0 a1 a2 k := by
  unfold impl_hasVariable BV_impl_hasVariable
  rfl
theorem ve74_0 {β : Type} (N : Nat) (q_impl_IsTable : (a0 : Int) → (a1 : Int) → (k : Bool → Option β) → Option β)  (a0 : Int) (a1 : Int) (a2 : Int) (K : TV → Option β) : evFn lay (VE74 N q_impl_IsTable) Try.f74 [.v (.agg [.int .i64 a0, .int .i64 a1]), .v (.one (.int .i64 a2))] K = BV_impl_hasVariable N q_impl_IsTable a0 a1 a2 (fun z3 => K (.v (.one (.bool z3)))) := by kernel_rfl
theorem e74_0 {β : Type} (N : Nat)  (a0 : Int) (a1 : Int) (a2 : Int) (K : TV → Option β) : evFn lay (E74 N) Try.f74 [.v (.agg [.int .i64 a0, .int .i64 a1]), .v (.one (.int .i64 a2))] K = impl_hasVariable N a0 a1 a2 (fun z3 => K (.v (.one (.bool z3)))) := (ve74_0 N (impl_IsTable N) a0 a1 a2 K).trans (t_impl_hasVariable N a0 a1 a2 (fun z3 => K (.v (.one (.bool z3))))).symm
theorem o74 {β : Type} (N : Nat) : SpecOK (β := β) Try.prog 74 (S74 N) := by
  refine spec_of lay_ok mixed (E := E74 N) (specs_loops (specs_cons (o61 N) specs_nil)) muts_nil gs_nil Try.func74 (by kernel_rfl) 0 (by kernel_rfl) trivial fun args K r h => ?_
  unfold S74 VS74 at h
  split at h
  · exact (e74_0 N _ _ _ _).trans h
  · cases h
def VS75 {β : Type} (N : Nat) (q_impl_isBit : (a0 : Int) → (k : Bool → Option β) → Option β) : Rv.Spec β := fun args K => match args with
  | [.v (.one (.int .i64 a0))] => q_impl_isBit a0 (fun z1 => K (.v (.one (.bool z1))))
  | _ => none
def S75 {β : Type} (N : Nat) : Rv.Spec β := VS75 N (impl_isBit N)
def VE75 {β : Type} (N : Nat) : Env β := ⟨[], [], [], []⟩
def E75 {β : Type} (N : Nat) : Env β := VE75 N
def BV_impl_isBit {β : Type} (N : Nat) (a0 : Int) (k : Bool → Option β) : Option β :=
(cond ((a0 == 0))
(k true)
(k ((a0 == 1))))
theorem t_impl_isBit {β : Type} (N : Nat) (a0 : Int) (k : Bool → Option β) : impl_isBit N a0 k = BV_impl_isBit N a0 k := by
  unfold impl_isBit BV_impl_isBit
  rfl
theorem ve75_0 {β : Type} (N : Nat)  (a0 : Int) (K : TV → Option β) : evFn lay (VE75 N) Try.f75 [.v (.one (.int .i64 a0))] K = BV_impl_isBit N a0 (fun z1 => K (.v (.one (.bool z1)))) := by kernel_rfl
theorem e75_0 {β : Type} (N : Nat)  (a0 : Int) (K : TV → Option β) : evFn lay (E75 N) Try.f75 [.v (.one (.int .i64 a0))] K = impl_isBit N a0 (fun z1 => K (.v (.one (.bool z1)))) := (ve75_0 N a0 K).trans (t_impl_isBit N a0 (fun z1 => K (.v (.one (.bool z1))))).symm
theorem o75 {β : Type} (N : Nat) : SpecOK (β := β) Try.prog 75 (S75 N) := by
  refine spec_of lay_ok mixed (E := E75 N) (specs_loops specs_nil) muts_nil gs_nil Try.func75 (by kernel_rfl) 0 (by kernel_rfl) trivial fun args K r h => ?_
  unfold S75 VS75 at h
  split at h
  · exact (e75_0 N _ _).trans h
  · cases h
def VS120 {β : Type} (N : Nat) (q_impl_Table_at : (a0 : Int) → (a1 : Int) → (a2 : Int) → (k : Int → Option β) → Option β) : Rv.Spec β := fun args K => match args with
  | [.v (.agg [.int .i64 a0, .int .i64 a1]), .v (.one (.int .i64 a2))] => q_impl_Table_at a0 a1 a2 (fun z3 => K (.v (.one (.int .i64 z3))))
  | _ => none
def S120 {β : Type} (N : Nat) : Rv.Spec β := VS120 N (impl_Table_at N)
def VE120 {β : Type} (N : Nat) : Env β := ⟨[], [], [], []⟩
def E120 {β : Type} (N : Nat) : Env β := VE120 N
def BV_impl_Table_at {β : Type} (N : Nat) (a0 : Int) (a1 : Int) (a2 : Int) (k : Int → Option β) : Option β :=
(gd ((decide (0 ≤ a2)))
(k ((bits .and .i64 (shrI .i64 a1 a2) 1))))
theorem t_impl_Table_at {β : Type} (N : Nat) (a0 : Int) (a1 : Int) (a2 : Int) (k : Int → Option β) : impl_Table_at N a0 a1 a2 k = BV_impl_Table_at N a0 a1 a2 k := by
  unfold impl_Table_at BV_impl_Table_at
  rfl
theorem ve120_0 {β : Type} (N : Nat)  (a0 : Int) (a1 : Int) (a2 : Int) (K : TV → Option β) : evFn lay (VE120 N) Try.f120 [.v (.agg [.int .i64 a0, .int .i64 a1]), .v (.one (.int .i64 a2))] K = BV_impl_Table_at N a0 a1 a2 (fun z3 => K (.v (.one (.int .i64 z3)))) := by kernel_rfl
theorem e120_0 {β : Type} (N : Nat)  (a0 : Int) (a1 : Int) (a2 : Int) (K : TV → Option β) : evFn lay (E120 N) Try.f120 [.v (.agg [.int .i64 a0, .int .i64 a1]), .v (.one (.int .i64 a2))] K = impl_Table_at N a0 a1 a2 (fun z3 => K (.v (.one (.int .i64 z3)))) := (ve120_0 N a0 a1 a2 K).trans (t_impl_Table_at N a0 a1 a2 (fun z3 => K (.v (.one (.int .i64 z3))))).symm
theorem o120 {β : Type} (N : Nat) : SpecOK (β := β) Try.prog 120 (S120 N) := by
  refine spec_of lay_ok mixed (E := E120 N) (specs_loops specs_nil) muts_nil gs_nil Try.func120 (by kernel_rfl) 0 (by kernel_rfl) trivial fun args K r h => ?_
  unfold S120 VS120 at h
  split at h
  · exact (e120_0 N _ _ _ _).trans h
  · cases h
def VS119 {β : Type} (N : Nat) (q_impl_Table_stuck_1 : (a0 : Int) → (c0 : Int) → (c1 : Int) → (c2 : Int) → (c3 : Int) → (k : Bool → Option β) → Option β) : Rv.Spec β := fun args K => match args with
  | [.v (.one (.int .i64 a0)), .v (.one (.cref [.int .i64 c0, .int .i64 c1] 0)), .v (.one (.cref [.int .i64 c2] 0)), .v (.one (.cref [.int .i64 c3] 0))] => q_impl_Table_stuck_1 a0 c0 c1 c2 c3 (fun z1 => K (.v (.one (.bool z1))))
  | _ => none
def S119 {β : Type} (N : Nat) : Rv.Spec β := VS119 N (impl_Table_stuck_1 N)
def VE119 {β : Type} (N : Nat) (q_impl_Table_at : (a0 : Int) → (a1 : Int) → (a2 : Int) → (k : Int → Option β) → Option β) : Env β := ⟨[(120, VS120 N q_impl_Table_at)], [], [], []⟩
def E119 {β : Type} (N : Nat) : Env β := VE119 N (impl_Table_at N)
def BV_impl_Table_stuck_1 {β : Type} (N : Nat) (q_impl_Table_at : (a0 : Int) → (a1 : Int) → (a2 : Int) → (k : Int → Option β) → Option β) (a0 : Int) (c0 : Int) (c1 : Int) (c2 : Int) (c3 : Int) (k : Bool → Option β) : Option β :=
(gd ((decide (0 ≤ c2)))
((gd ((decide (0 ≤ c2)))
(q_impl_Table_at c0 c1 ((bits .or .i64 (bits .andNot .i64 a0 (shlI .i64 1 c2)) (shlI .i64 c3 c2))) fun r2 =>
k ((r2 == 1))))))
theorem t_impl_Table_stuck_1 {β : Type} (N : Nat) (a0 : Int) (c0 : Int) (c1 : Int) (c2 : Int) (c3 : Int) (k : Bool → Option β) : impl_Table_stuck_1 N a0 c0 c1 c2 c3 k = BV_impl_Table_stuck_1 N (impl_Table_at N) a0 c0 c1 c2 c3 k := by
  unfold impl_Table_stuck_1 BV_impl_Table_stuck_1
  rfl
theorem ve119_0 {β : Type} (N : Nat) (q_impl_Table_at : (a0 : Int) → (a1 : Int) → (a2 : Int) → (k : Int → Option β) → Option β)  (a0 : Int) (c0 : Int) (c1 : Int) (c2 : Int) (c3 : Int) (K : TV → Option β) : evFn lay (VE119 N q_impl_Table_at) Try.f119 [.v (.one (.int .i64 a0)), .v (.one (.cref [.int .i64 c0, .int .i64 c1] 0)), .v (.one (.cref [.int .i64 c2] 0)), .v (.one (.cref [.int .i64 c3] 0))] K = BV_impl_Table_stuck_1 N q_impl_Table_at a0 c0 c1 c2 c3 (fun z1 => K (.v (.one (.bool z1)))) := by kernel_rfl
theorem e119_0 {β : Type} (N : Nat)  (a0 : Int) (c0 : Int) (c1 : Int) (c2 : Int) (c3 : Int) (K : TV → Option β) : evFn lay (E119 N) Try.f119 [.v (.one (.int .i64 a0)), .v (.one (.cref [.int .i64 c0, .int .i64 c1] 0)), .v (.one (.cref [.int .i64 c2] 0)), .v (.one (.cref [.int .i64 c3] 0))] K = impl_Table_stuck_1 N a0 c0 c1 c2 c3 (fun z1 => K (.v (.one (.bool z1)))) := (ve119_0 N (impl_Table_at N) a0 c0 c1 c2 c3 K).trans (t_impl_Table_stuck_1 N a0 c0 c1 c2 c3 (fun z1 => K (.v (.one (.bool z1))))).symm
theorem o119 {β : Type} (N : Nat) : SpecOK (β := β) Try.prog 119 (S119 N) := by
  refine spec_of lay_ok mixed (E := E119 N) (specs_loops (specs_cons (o120 N) specs_nil)) muts_nil gs_nil Try.func119 (by kernel_rfl) 0 (by kernel_rfl) trivial fun args K r h => ?_
  unfold S119 VS119 at h
  split at h
  · exact (e119_0 N _ _ _ _ _ _).trans h
  · cases h
def VS118 {β : Type} (N : Nat) (q_impl_makeTable : (a0 : Int) → (a1 : (Int → (Bool → Option β) → Option β)) → (k : Int → Int → Option β) → Option β) (q_impl_Table_stuck_1 : (a0 : Int) → (c0 : Int) → (c1 : Int) → (c2 : Int) → (c3 : Int) → (k : Bool → Option β) → Option β) : Rv.Spec β := fun args K => match args with
  | [.v (.one (.int .i64 a0)), .v (.one (.dfn 119 [([.int .i64 q0, .int .i64 q1], 0), ([.int .i64 q2], 0), ([.int .i64 q3], 0)]))] => q_impl_makeTable a0 (fun x0 k => q_impl_Table_stuck_1 x0 q0 q1 q2 q3 k) (fun z2 z3 => K (.v (.agg [.int .i64 z2, .int .i64 z3])))
  | _ => none
def S118 {β : Type} (N : Nat) : Rv.Spec β := VS118 N (impl_makeTable N) (impl_Table_stuck_1 N)
def h118_0_0 (q0 : Int) (q1 : Int) (q2 : Int) (q3 : Int) (v0 : Int) (v1 : Int) (v2 : Int) (v3 : Int) (v4 : Int) (v5 : Int) : St := ⟨.v (.one .und) :: .v (.one (.dfn 119 [([.int .i64 q0, .int .i64 q1], 0), ([.int .i64 q2], 0), ([.int .i64 q3], 0)])) :: .v (.one .und) :: .v (.one .und) :: .v (.one (.ptr 0 0)) :: .v (.one (.ptr 1 0)) :: .v (.one .und) :: .v (.one .und) :: .v (.one .und) :: .v (.one .und) :: .v (.one (.int .i64 v0)) :: .v (.one (.int .i64 v1)) :: .v (.one .und) :: .v (.one .und) :: .v (.one .und) :: .v (.one .und) :: .v (.one .und) :: .v (.one .und) :: .v (.one .und) :: .v (.one .und) :: .v (.one .und) :: .v (.one .und) :: .v (.one .und) :: .v (.one .und) :: .v (.one .und) :: [], [.cells 25 [.int .i64 v2, .int .i64 v3], .cells 25 [.int .i64 v4, .int .i64 v5]]⟩
def x118_0_0_k0 (q0 : Int) (q1 : Int) (q2 : Int) (q3 : Int) (y0 : Int) (y1 : Int) (y2 : Int) (y3 : Int) : St := ⟨.v (.one .und) :: .v (.one .und) :: .v (.one .und) :: .v (.one .und) :: .v (.one (.ptr 0 0)) :: .v (.one (.ptr 1 0)) :: .v (.one .und) :: .v (.one .und) :: .v (.one .und) :: .v (.one .und) :: .v (.one .und) :: .v (.one .und) :: .v (.one .und) :: .v (.one .und) :: .v (.one .und) :: .v (.one .und) :: .v (.one .und) :: .v (.one .und) :: .v (.one .und) :: .v (.one .und) :: .v (.one .und) :: .v (.one .und) :: .v (.one .und) :: .v (.one .und) :: .v (.one .und) :: [], [.cells 25 [.int .i64 y0, .int .i64 y1], .cells 25 [.int .i64 y2, .int .i64 y3]]⟩
theorem fl118_0_0 (s : St) : refSt (h118_0_0 0 0 0 0 0 0 0 0 0 0) s = h118_0_0 (intF (nx .no (nx ([], 0) (dfnS (oneA (vT (nx tund s.tmps 1)))) 0).1 0)) (intF (nx .no (nx ([], 0) (dfnS (oneA (vT (nx tund s.tmps 1)))) 0).1 1)) (intF (nx .no (nx ([], 0) (dfnS (oneA (vT (nx tund s.tmps 1)))) 1).1 0)) (intF (nx .no (nx ([], 0) (dfnS (oneA (vT (nx tund s.tmps 1)))) 2).1 0)) (intS (oneA (vT (nx tund s.tmps 10)))) (intS (oneA (vT (nx tund s.tmps 11)))) (intS (nx .und (cellsB (nx .dead s.blks 0)) 0)) (intS (nx .und (cellsB (nx .dead s.blks 0)) 1)) (intS (nx .und (cellsB (nx .dead s.blks 1)) 0)) (intS (nx .und (cellsB (nx .dead s.blks 1)) 1)) := by kernel_rfl
def VLS118_0 {β : Type} (N : Nat) (q_impl_makeTable_l0 : (a1 : (Int → (Bool → Option β) → Option β)) → Nat → Int → Int → Int → Int → Int → Int → (Int → Int → Int → Int → Option β) → Option β) (q_impl_Table_stuck_1 : (a0 : Int) → (c0 : Int) → (c1 : Int) → (c2 : Int) → (c3 : Int) → (k : Bool → Option β) → Option β) : LSpec β := fun s K => cond (shpSt (h118_0_0 0 0 0 0 0 0 0 0 0 0) s) ((fun (q0 : Int) (q1 : Int) (q2 : Int) (q3 : Int) (v0 : Int) (v1 : Int) (v2 : Int) (v3 : Int) (v4 : Int) (v5 : Int) => q_impl_makeTable_l0 (fun x0 k => q_impl_Table_stuck_1 x0 q0 q1 q2 q3 k) N v0 v1 v2 v3 v4 v5 (fun y0 y1 y2 y3 => K (.exit 0) (x118_0_0_k0 q0 q1 q2 q3 y0 y1 y2 y3))) (intF (nx .no (nx ([], 0) (dfnS (oneA (vT (nx tund s.tmps 1)))) 0).1 0)) (intF (nx .no (nx ([], 0) (dfnS (oneA (vT (nx tund s.tmps 1)))) 0).1 1)) (intF (nx .no (nx ([], 0) (dfnS (oneA (vT (nx tund s.tmps 1)))) 1).1 0)) (intF (nx .no (nx ([], 0) (dfnS (oneA (vT (nx tund s.tmps 1)))) 2).1 0)) (intS (oneA (vT (nx tund s.tmps 10)))) (intS (oneA (vT (nx tund s.tmps 11)))) (intS (nx .und (cellsB (nx .dead s.blks 0)) 0)) (intS (nx .und (cellsB (nx .dead s.blks 0)) 1)) (intS (nx .und (cellsB (nx .dead s.blks 1)) 0)) (intS (nx .und (cellsB (nx .dead s.blks 1)) 1))) (none)
def LS118_0 {β : Type} (N : Nat) : LSpec β := VLS118_0 N (impl_makeTable_l0 N) (impl_Table_stuck_1 N)
def VE118 {β : Type} (N : Nat) (q_impl_Table_stuck_1 : (a0 : Int) → (c0 : Int) → (c1 : Int) → (c2 : Int) → (c3 : Int) → (k : Bool → Option β) → Option β) (q_impl_makeTable_l0 : (a1 : (Int → (Bool → Option β) → Option β)) → Nat → Int → Int → Int → Int → Int → Int → (Int → Int → Int → Int → Option β) → Option β) : Env β := ⟨[(119, VS119 N q_impl_Table_stuck_1)], [], [(0, VLS118_0 N q_impl_makeTable_l0 q_impl_Table_stuck_1)], []⟩
def E118 {β : Type} (N : Nat) : Env β := VE118 N (impl_Table_stuck_1 N) (impl_makeTable_l0 N)
def BV_impl_makeTable_l0b {β : Type} (N : Nat) (a1 : (Int → (Bool → Option β) → Option β)) (v0 : Int) (v1 : Int) (v2 : Int) (v3 : Int) (v4 : Int) (v5 : Int) (rec_ : Int → Int → Int → Int → Int → Int → Option β) (k0 : Int → Int → Int → Int → Option β) : Option β :=
(cond ((decide (v1 < v0)))
(a1 v1 fun r4 =>
(cond r4
((gd ((decide (0 ≤ v1)))
(rec_ v0 ((w64 (v1 + 1))) v2 v3 v4 ((bits .or .i64 v5 (shlI .i64 1 v1))))))
(rec_ v0 ((w64 (v1 + 1))) v2 v3 v4 v5)))
(k0 v2 v3 v4 v5))
theorem t_impl_makeTable_l0b {β : Type} (N : Nat) (a1 : (Int → (Bool → Option β) → Option β)) (v0 : Int) (v1 : Int) (v2 : Int) (v3 : Int) (v4 : Int) (v5 : Int) (rec_ : Int → Int → Int → Int → Int → Int → Option β) (k0 : Int → Int → Int → Int → Option β) : impl_makeTable_l0b N a1 v0 v1 v2 v3 v4 v5 rec_ k0 = BV_impl_makeTable_l0b N a1 v0 v1 v2 v3 v4 v5 rec_ k0 := by
  unfold impl_makeTable_l0b BV_impl_makeTable_l0b
  rfl
theorem vst118_0_0 {β : Type} (N : Nat) (q_impl_Table_stuck_1 : (a0 : Int) → (c0 : Int) → (c1 : Int) → (c2 : Int) → (c3 : Int) → (k : Bool → Option β) → Option β) (q_impl_makeTable_l0 : (a1 : (Int → (Bool → Option β) → Option β)) → Nat → Int → Int → Int → Int → Int → Int → (Int → Int → Int → Int → Option β) → Option β) (q0 : Int) (q1 : Int) (q2 : Int) (q3 : Int) (v0 : Int) (v1 : Int) (v2 : Int) (v3 : Int) (v4 : Int) (v5 : Int) (rec_ : St → Option β) (K : Exit → St → Option β) :
    ev lay (VE118 N q_impl_Table_stuck_1 q_impl_makeTable_l0) (retMask Try.f118) (lp Try.f118 0).body (lp Try.f118 0).ex ((lp Try.f118 0).lv (retMask Try.f118)) (h118_0_0 q0 q1 q2 q3 v0 v1 v2 v3 v4 v5) (nextR (fun s' => rec_ (s'.tidy ((lp Try.f118 0).lv (retMask Try.f118)))) K) = BV_impl_makeTable_l0b N (fun x0 k => q_impl_Table_stuck_1 x0 q0 q1 q2 q3 k) v0 v1 v2 v3 v4 v5 (fun v0 v1 v2 v3 v4 v5 => rec_ (h118_0_0 q0 q1 q2 q3 v0 v1 v2 v3 v4 v5)) (fun y0 y1 y2 y3 => K (.exit 0) (x118_0_0_k0 q0 q1 q2 q3 y0 y1 y2 y3)) := by kernel_rfl
theorem st118_0_0 {β : Type} (N : Nat) (q0 : Int) (q1 : Int) (q2 : Int) (q3 : Int) (v0 : Int) (v1 : Int) (v2 : Int) (v3 : Int) (v4 : Int) (v5 : Int) (rec_ : St → Option β) (K : Exit → St → Option β) :
    ev lay (E118 N) (retMask Try.f118) (lp Try.f118 0).body (lp Try.f118 0).ex ((lp Try.f118 0).lv (retMask Try.f118)) (h118_0_0 q0 q1 q2 q3 v0 v1 v2 v3 v4 v5) (nextR (fun s' => rec_ (s'.tidy ((lp Try.f118 0).lv (retMask Try.f118)))) K) = impl_makeTable_l0b N (fun x0 k => impl_Table_stuck_1 N x0 q0 q1 q2 q3 k) v0 v1 v2 v3 v4 v5 (fun v0 v1 v2 v3 v4 v5 => rec_ (h118_0_0 q0 q1 q2 q3 v0 v1 v2 v3 v4 v5)) (fun y0 y1 y2 y3 => K (.exit 0) (x118_0_0_k0 q0 q1 q2 q3 y0 y1 y2 y3)) := (vst118_0_0 N (impl_Table_stuck_1 N) (impl_makeTable_l0 N) q0 q1 q2 q3 v0 v1 v2 v3 v4 v5 rec_ K).trans (t_impl_makeTable_l0b N (fun x0 k => impl_Table_stuck_1 N x0 q0 q1 q2 q3 k) v0 v1 v2 v3 v4 v5 (fun v0 v1 v2 v3 v4 v5 => rec_ (h118_0_0 q0 q1 q2 q3 v0 v1 v2 v3 v4 v5)) (fun y0 y1 y2 y3 => K (.exit 0) (x118_0_0_k0 q0 q1 q2 q3 y0 y1 y2 y3))).symm
theorem ro118_0_0 {β : Type} (N : Nat) (q0 : Int) (q1 : Int) (q2 : Int) (q3 : Int) (K : Exit → St → Option β) : ∀ (F : Nat) (v0 : Int) (v1 : Int) (v2 : Int) (v3 : Int) (v4 : Int) (v5 : Int), (lp Try.f118 0).rounds lay (E118 N) (retMask Try.f118) F (h118_0_0 q0 q1 q2 q3 v0 v1 v2 v3 v4 v5) K = impl_makeTable_l0 N (fun x0 k => impl_Table_stuck_1 N x0 q0 q1 q2 q3 k) F v0 v1 v2 v3 v4 v5 (fun y0 y1 y2 y3 => K (.exit 0) (x118_0_0_k0 q0 q1 q2 q3 y0 y1 y2 y3)) := by
  intro F
  induction F with
  | zero => intros; rfl
  | succ F ih =>
    intros
    rw [rounds_next]
    refine (st118_0_0 N q0 q1 q2 q3 _ _ _ _ _ _ (fun s => (lp Try.f118 0).rounds lay (E118 N) (retMask Try.f118) F s K) K).trans ?_
    simp only [ih]
    rfl
theorem lk118_0 {β : Type} (N : Nat) : lookL (E118 (β := β) N).loops (lp Try.f118 0).id = LS118_0 N := by kernel_rfl
theorem rk118_0 {β : Type} (N : Nat) : RoundsOK lay (E118 (β := β) N) (retMask Try.f118) (lp Try.f118 0) := by
  intro s K r h
  rw [lk118_0] at h
  unfold LS118_0 VLS118_0 at h
  cases hb : shpSt (h118_0_0 0 0 0 0 0 0 0 0 0 0) s with
  | true =>
    rw [hb, cond_true] at h
    exact ⟨N, by rw [← shpSt_ref hb, fl118_0_0 s]; exact (ro118_0_0 N (intF (nx .no (nx ([], 0) (dfnS (oneA (vT (nx tund s.tmps 1)))) 0).1 0)) (intF (nx .no (nx ([], 0) (dfnS (oneA (vT (nx tund s.tmps 1)))) 0).1 1)) (intF (nx .no (nx ([], 0) (dfnS (oneA (vT (nx tund s.tmps 1)))) 1).1 0)) (intF (nx .no (nx ([], 0) (dfnS (oneA (vT (nx tund s.tmps 1)))) 2).1 0)) K N (intS (oneA (vT (nx tund s.tmps 10)))) (intS (oneA (vT (nx tund s.tmps 11)))) (intS (nx .und (cellsB (nx .dead s.blks 0)) 0)) (intS (nx .und (cellsB (nx .dead s.blks 0)) 1)) (intS (nx .und (cellsB (nx .dead s.blks 1)) 0)) (intS (nx .und (cellsB (nx .dead s.blks 1)) 1))).trans h⟩
  | false =>
  rw [hb, cond_false] at h
  clear hb
  cases h
def BV_impl_makeTable {β : Type} (N : Nat) (q_impl_makeTable_l0 : (a1 : (Int → (Bool → Option β) → Option β)) → Nat → Int → Int → Int → Int → Int → Int → (Int → Int → Int → Int → Option β) → Option β) (a0 : Int) (a1 : (Int → (Bool → Option β) → Option β)) (k : Int → Int → Option β) : Option β :=
(gd ((decide (0 ≤ a0)))
(q_impl_makeTable_l0 a1 N ((shlI .i64 1 a0)) 0 0 0 a0 0 (fun e5_0 e5_1 e5_2 e5_3 =>
k e5_2 e5_3)))
theorem t_impl_makeTable {β : Type} (N : Nat) (a0 : Int) (a1 : (Int → (Bool → Option β) → Option β)) (k : Int → Int → Option β) : impl_makeTable N a0 a1 k = BV_impl_makeTable N (impl_makeTable_l0 N) a0 a1 k := by
  unfold impl_makeTable BV_impl_makeTable
  rfl
theorem ve118_0 {β : Type} (N : Nat) (q_impl_Table_stuck_1 : (a0 : Int) → (c0 : Int) → (c1 : Int) → (c2 : Int) → (c3 : Int) → (k : Bool → Option β) → Option β) (q_impl_makeTable_l0 : (a1 : (Int → (Bool → Option β) → Option β)) → Nat → Int → Int → Int → Int → Int → Int → (Int → Int → Int → Int → Option β) → Option β) (q0 : Int) (q1 : Int) (q2 : Int) (q3 : Int) (a0 : Int) (K : TV → Option β) : evFn lay (VE118 N q_impl_Table_stuck_1 q_impl_makeTable_l0) Try.f118 [.v (.one (.int .i64 a0)), .v (.one (.dfn 119 [([.int .i64 q0, .int .i64 q1], 0), ([.int .i64 q2], 0), ([.int .i64 q3], 0)]))] K = BV_impl_makeTable N q_impl_makeTable_l0 a0 (fun x0 k => q_impl_Table_stuck_1 x0 q0 q1 q2 q3 k) (fun z2 z3 => K (.v (.agg [.int .i64 z2, .int .i64 z3]))) := by kernel_rfl
theorem e118_0 {β : Type} (N : Nat) (q0 : Int) (q1 : Int) (q2 : Int) (q3 : Int) (a0 : Int) (K : TV → Option β) : evFn lay (E118 N) Try.f118 [.v (.one (.int .i64 a0)), .v (.one (.dfn 119 [([.int .i64 q0, .int .i64 q1], 0), ([.int .i64 q2], 0), ([.int .i64 q3], 0)]))] K = impl_makeTable N a0 (fun x0 k => impl_Table_stuck_1 N x0 q0 q1 q2 q3 k) (fun z2 z3 => K (.v (.agg [.int .i64 z2, .int .i64 z3]))) := (ve118_0 N (impl_Table_stuck_1 N) (impl_makeTable_l0 N) q0 q1 q2 q3 a0 K).trans (t_impl_makeTable N a0 (fun x0 k => impl_Table_stuck_1 N x0 q0 q1 q2 q3 k) (fun z2 z3 => K (.v (.agg [.int .i64 z2, .int .i64 z3])))).symm
theorem o118 {β : Type} (N : Nat) : SpecOK (β := β) Try.prog 118 (S118 N) := by
  refine spec_of lay_ok mixed (E := E118 N) (specs_loops (specs_cons (o119 N) specs_nil)) muts_nil gs_nil Try.func118 (by kernel_rfl) 1 (by kernel_rfl) ⟨trivial, rk118_0 N⟩ fun args K r h => ?_
  unfold S118 VS118 at h
  split at h
  · exact (e118_0 N _ _ _ _ _ _).trans h
  · cases h
def VS92 {β : Type} (N : Nat) (q_impl_Table_stuck : (a0 : Int) → (a1 : Int) → (a2 : Int) → (a3 : Int) → (k : Int → Int → Option β) → Option β) : Rv.Spec β := fun args K => match args with
  | [.v (.agg [.int .i64 a0, .int .i64 a1]), .v (.one (.int .i64 a2)), .v (.one (.int .i64 a3))] => q_impl_Table_stuck a0 a1 a2 a3 (fun z4 z5 => K (.v (.agg [.int .i64 z4, .int .i64 z5])))
  | _ => none
def S92 {β : Type} (N : Nat) : Rv.Spec β := VS92 N (impl_Table_stuck N)
def VE92 {β : Type} (N : Nat) (q_impl_makeTable : (a0 : Int) → (a1 : (Int → (Bool → Option β) → Option β)) → (k : Int → Int → Option β) → Option β) (q_impl_Table_stuck_1 : (a0 : Int) → (c0 : Int) → (c1 : Int) → (c2 : Int) → (c3 : Int) → (k : Bool → Option β) → Option β) : Env β := ⟨[(118, VS118 N q_impl_makeTable q_impl_Table_stuck_1), (119, VS119 N q_impl_Table_stuck_1)], [], [], []⟩
def E92 {β : Type} (N : Nat) : Env β := VE92 N (impl_makeTable N) (impl_Table_stuck_1 N)
def BV_impl_Table_stuck {β : Type} (N : Nat) (q_impl_makeTable : (a0 : Int) → (a1 : (Int → (Bool → Option β) → Option β)) → (k : Int → Int → Option β) → Option β) (q_impl_Table_stuck_1 : (a0 : Int) → (c0 : Int) → (c1 : Int) → (c2 : Int) → (c3 : Int) → (k : Bool → Option β) → Option β) (a0 : Int) (a1 : Int) (a2 : Int) (a3 : Int) (k : Int → Int → Option β) : Option β :=
q_impl_makeTable a0 (fun x0 k => q_impl_Table_stuck_1 x0 a0 a1 a2 a3 k) fun r6 r7 =>
k r6 r7
theorem t_impl_Table_stuck {β : Type} (N : Nat) (a0 : Int) (a1 : Int) (a2 : Int) (a3 : Int) (k : Int → Int → Option β) : impl_Table_stuck N a0 a1 a2 a3 k = BV_impl_Table_stuck N (impl_makeTable N) (impl_Table_stuck_1 N) a0 a1 a2 a3 k := by
  unfold impl_Table_stuck BV_impl_Table_stuck
  rfl
theorem ve92_0 {β : Type} (N : Nat) (q_impl_makeTable : (a0 : Int) → (a1 : (Int → (Bool → Option β) → Option β)) → (k : Int → Int → Option β) → Option β) (q_impl_Table_stuck_1 : (a0 : Int) → (c0 : Int) → (c1 : Int) → (c2 : Int) → (c3 : Int) → (k : Bool → Option β) → Option β)  (a0 : Int) (a1 : Int) (a2 : Int) (a3 : Int) (K : TV → Option β) : evFn lay (VE92 N q_impl_makeTable q_impl_Table_stuck_1) Try.f92 [.v (.agg [.int .i64 a0, .int .i64 a1]), .v (.one (.int .i64 a2)), .v (.one (.int .i64 a3))] K = BV_impl_Table_stuck N q_impl_makeTable q_impl_Table_stuck_1 a0 a1 a2 a3 (fun z4 z5 => K (.v (.agg [.int .i64 z4, .int .i64 z5]))) := by kernel_rfl
theorem e92_0 {β : Type} (N : Nat)  (a0 : Int) (a1 : Int) (a2 : Int) (a3 : Int) (K : TV → Option β) : evFn lay (E92 N) Try.f92 [.v (.agg [.int .i64 a0, .int .i64 a1]), .v (.one (.int .i64 a2)), .v (.one (.int .i64 a3))] K = impl_Table_stuck N a0 a1 a2 a3 (fun z4 z5 => K (.v (.agg [.int .i64 z4, .int .i64 z5]))) := (ve92_0 N (impl_makeTable N) (impl_Table_stuck_1 N) a0 a1 a2 a3 K).trans (t_impl_Table_stuck N a0 a1 a2 a3 (fun z4 z5 => K (.v (.agg [.int .i64 z4, .int .i64 z5])))).symm
theorem o92 {β : Type} (N : Nat) : SpecOK (β := β) Try.prog 92 (S92 N) := by
  refine spec_of lay_ok mixed (E := E92 N) (specs_loops (specs_cons (o118 N) (specs_cons (o119 N) specs_nil))) muts_nil gs_nil Try.func92 (by kernel_rfl) 0 (by kernel_rfl) trivial fun args K r h => ?_
  unfold S92 VS92 at h
  split at h
  · exact (e92_0 N _ _ _ _ _).trans h
  · cases h
def VS77 {β : Type} (N : Nat) (q_impl_Table_detecting : (a0 : Int) → (a1 : Int) → (a2 : Int) → (a3 : Int) → (k : Int → Option β) → Option β) : Rv.Spec β := fun args K => match args with
  | [.v (.agg [.int .i64 a0, .int .i64 a1]), .v (.one (.int .i64 a2)), .v (.one (.int .i64 a3))] => q_impl_Table_detecting a0 a1 a2 a3 (fun z4 => K (.v (.one (.int .i64 z4))))
  | _ => none
def S77 {β : Type} (N : Nat) : Rv.Spec β := VS77 N (impl_Table_detecting N)
def VE77 {β : Type} (N : Nat) (q_impl_Table_stuck : (a0 : Int) → (a1 : Int) → (a2 : Int) → (a3 : Int) → (k : Int → Int → Option β) → Option β) : Env β := ⟨[(92, VS92 N q_impl_Table_stuck)], [], [], []⟩
def E77 {β : Type} (N : Nat) : Env β := VE77 N (impl_Table_stuck N)
def BV_impl_Table_detecting {β : Type} (N : Nat) (q_impl_Table_stuck : (a0 : Int) → (a1 : Int) → (a2 : Int) → (a3 : Int) → (k : Int → Int → Option β) → Option β) (a0 : Int) (a1 : Int) (a2 : Int) (a3 : Int) (k : Int → Option β) : Option β :=
q_impl_Table_stuck a0 a1 a2 a3 fun r5 r6 =>
k ((bits .xor .i64 a1 r6))
theorem t_impl_Table_detecting {β : Type} (N : Nat) (a0 : Int) (a1 : Int) (a2 : Int) (a3 : Int) (k : Int → Option β) : impl_Table_detecting N a0 a1 a2 a3 k = BV_impl_Table_detecting N (impl_Table_stuck N) a0 a1 a2 a3 k := by
  unfold impl_Table_detecting BV_impl_Table_detecting
  rfl
theorem ve77_0 {β : Type} (N : Nat) (q_impl_Table_stuck : (a0 : Int) → (a1 : Int) → (a2 : Int) → (a3 : Int) → (k : Int → Int → Option β) → Option β)  (a0 : Int) (a1 : Int) (a2 : Int) (a3 : Int) (K : TV → Option β) : evFn lay (VE77 N q_impl_Table_stuck) Try.f77 [.v (.agg [.int .i64 a0, .int .i64 a1]), .v (.one (.int .i64 a2)), .v (.one (.int .i64 a3))] K = BV_impl_Table_detecting N q_impl_Table_stuck a0 a1 a2 a3 (fun z4 => K (.v (.one (.int .i64 z4)))) := by kernel_rfl
theorem e77_0 {β : Type} (N : Nat)  (a0 : Int) (a1 : Int) (a2 : Int) (a3 : Int) (K : TV → Option β) : evFn lay (E77 N) Try.f77 [.v (.agg [.int .i64 a0, .int .i64 a1]), .v (.one (.int .i64 a2)), .v (.one (.int .i64 a3))] K = impl_Table_detecting N a0 a1 a2 a3 (fun z4 => K (.v (.one (.int .i64 z4)))) := (ve77_0 N (impl_Table_stuck N) a0 a1 a2 a3 K).trans (t_impl_Table_detecting N a0 a1 a2 a3 (fun z4 => K (.v (.one (.int .i64 z4))))).symm
theorem o77 {β : Type} (N : Nat) : SpecOK (β := β) Try.prog 77 (S77 N) := by
  refine spec_of lay_ok mixed (E := E77 N) (specs_loops (specs_cons (o92 N) specs_nil)) muts_nil gs_nil Try.func77 (by kernel_rfl) 0 (by kernel_rfl) trivial fun args K r h => ?_
  unfold S77 VS77 at h
  split at h
  · exact (e77_0 N _ _ _ _ _).trans h
  · cases h
def VS76 {β : Type} (N : Nat) (q_impl_elements : (a0 : Int) → (k : List Int → Option β) → Option β) : Rv.Spec β := fun args K => match args with
  | [.v (.one (.int .i64 a0))] => q_impl_elements a0 (fun z1 => K (.v (.one (.sl 3 (.ints .i64 z1)))))
  | _ => none
def S76 {β : Type} (N : Nat) : Rv.Spec β := VS76 N (impl_elements N)
def h76_0_0  (v0 : Int) (v1 : Int) (v2 : List Int) : St := ⟨.v (.one (.int .i64 v0)) :: .v (.one .und) :: .v (.one .und) :: .v (.one (.row 0)) :: .v (.one .und) :: .v (.one (.int .i64 v1)) :: .v (.one .und) :: .v (.one .und) :: .v (.one .und) :: .v (.one .und) :: .v (.one .und) :: .v (.one .und) :: .v (.one .und) :: .v (.one .und) :: .v (.one .und) :: .v (.one .und) :: .v (.one .und) :: .v (.one .und) :: .v (.one .und) :: [], [.row 3 (.ints .i64 v2)]⟩
def x76_0_0_k0  (y0 : List Int) : St := ⟨.v (.one .und) :: .v (.one .und) :: .v (.one .und) :: .v (.one (.row 0)) :: .v (.one .und) :: .v (.one .und) :: .v (.one .und) :: .v (.one .und) :: .v (.one .und) :: .v (.one .und) :: .v (.one .und) :: .v (.one .und) :: .v (.one .und) :: .v (.one .und) :: .v (.one .und) :: .v (.one .und) :: .v (.one .und) :: .v (.one .und) :: .v (.one .und) :: [], [.row 3 (.ints .i64 y0)]⟩
theorem fl76_0_0 (s : St) : refSt (h76_0_0 0 0 []) s = h76_0_0 (intS (oneA (vT (nx tund s.tmps 0)))) (intS (oneA (vT (nx tund s.tmps 5)))) (rInts (rowB_ (nx .dead s.blks 0))) := by kernel_rfl
def VLS76_0 {β : Type} (N : Nat) (q_impl_elements_l0 : Nat → Int → Int → List Int → (List Int → Option β) → Option β) : LSpec β := fun s K => cond (shpSt (h76_0_0 0 0 []) s) ((fun (v0 : Int) (v1 : Int) (v2 : List Int) => q_impl_elements_l0  N v0 v1 v2 (fun y0 => K (.exit 0) (x76_0_0_k0  y0))) (intS (oneA (vT (nx tund s.tmps 0)))) (intS (oneA (vT (nx tund s.tmps 5)))) (rInts (rowB_ (nx .dead s.blks 0)))) (none)
def LS76_0 {β : Type} (N : Nat) : LSpec β := VLS76_0 N (impl_elements_l0 N)
def VE76 {β : Type} (N : Nat) (q_impl_elements_l0 : Nat → Int → Int → List Int → (List Int → Option β) → Option β) : Env β := ⟨[], [], [(0, VLS76_0 N q_impl_elements_l0)], []⟩
def E76 {β : Type} (N : Nat) : Env β := VE76 N (impl_elements_l0 N)
def BV_impl_elements_l0b {β : Type} (N : Nat)  (v0 : Int) (v1 : Int) (v2 : List Int) (rec_ : Int → Int → List Int → Option β) (k0 : List Int → Option β) : Option β :=
(cond ((decide (v1 < 32)))
((gd ((decide (0 ≤ v1)))
((cond (((bits .and .i64 (shrI .i64 v0 v1) 1) == 1))
((gd ((decide ((v2.length + ((([] : List Int) ++ [v1])).length) * 8 ≤ 140737488355328)))
(rec_ v0 ((w64 (v1 + 1))) ((v2 ++ (([] : List Int) ++ [v1]))))))
(rec_ v0 ((w64 (v1 + 1))) v2)))))
(k0 v2))
theorem t_impl_elements_l0b {β : Type} (N : Nat)  (v0 : Int) (v1 : Int) (v2 : List Int) (rec_ : Int → Int → List Int → Option β) (k0 : List Int → Option β) : impl_elements_l0b N v0 v1 v2 rec_ k0 = BV_impl_elements_l0b N v0 v1 v2 rec_ k0 := by
  unfold impl_elements_l0b BV_impl_elements_l0b
  rfl
theorem vst76_0_0 {β : Type} (N : Nat) (q_impl_elements_l0 : Nat → Int → Int → List Int → (List Int → Option β) → Option β)  (v0 : Int) (v1 : Int) (v2 : List Int) (rec_ : St → Option β) (K : Exit → St → Option β) :
    ev lay (VE76 N q_impl_elements_l0) (retMask Try.f76) (lp Try.f76 0).body (lp Try.f76 0).ex ((lp Try.f76 0).lv (retMask Try.f76)) (h76_0_0  v0 v1 v2) (nextR (fun s' => rec_ (s'.tidy ((lp Try.f76 0).lv (retMask Try.f76)))) K) = BV_impl_elements_l0b N  v0 v1 v2 (fun v0 v1 v2 => rec_ (h76_0_0  v0 v1 v2)) (fun y0 => K (.exit 0) (x76_0_0_k0  y0)) := by kernel_rfl
theorem st76_0_0 {β : Type} (N : Nat)  (v0 : Int) (v1 : Int) (v2 : List Int) (rec_ : St → Option β) (K : Exit → St → Option β) :
    ev lay (E76 N) (retMask Try.f76) (lp Try.f76 0).body (lp Try.f76 0).ex ((lp Try.f76 0).lv (retMask Try.f76)) (h76_0_0  v0 v1 v2) (nextR (fun s' => rec_ (s'.tidy ((lp Try.f76 0).lv (retMask Try.f76)))) K) = impl_elements_l0b N  v0 v1 v2 (fun v0 v1 v2 => rec_ (h76_0_0  v0 v1 v2)) (fun y0 => K (.exit 0) (x76_0_0_k0  y0)) := (vst76_0_0 N (impl_elements_l0 N) v0 v1 v2 rec_ K).trans (t_impl_elements_l0b N  v0 v1 v2 (fun v0 v1 v2 => rec_ (h76_0_0  v0 v1 v2)) (fun y0 => K (.exit 0) (x76_0_0_k0  y0))).symm
theorem ro76_0_0 {β : Type} (N : Nat)  (K : Exit → St → Option β) : ∀ (F : Nat) (v0 : Int) (v1 : Int) (v2 : List Int), (lp Try.f76 0).rounds lay (E76 N) (retMask Try.f76) F (h76_0_0  v0 v1 v2) K = impl_elements_l0 N  F v0 v1 v2 (fun y0 => K (.exit 0) (x76_0_0_k0  y0)) := by
  intro F
  induction F with
  | zero => intros; rfl
  | succ F ih =>
    intros
    rw [rounds_next]
    refine (st76_0_0 N  _ _ _ (fun s => (lp Try.f76 0).rounds lay (E76 N) (retMask Try.f76) F s K) K).trans ?_
    simp only [ih]
    rfl
theorem lk76_0 {β : Type} (N : Nat) : lookL (E76 (β := β) N).loops (lp Try.f76 0).id = LS76_0 N := by kernel_rfl
theorem rk76_0 {β : Type} (N : Nat) : RoundsOK lay (E76 (β := β) N) (retMask Try.f76) (lp Try.f76 0) := by
  intro s K r h
  rw [lk76_0] at h
  unfold LS76_0 VLS76_0 at h
  cases hb : shpSt (h76_0_0 0 0 []) s with
  | true =>
    rw [hb, cond_true] at h
    exact ⟨N, by rw [← shpSt_ref hb, fl76_0_0 s]; exact (ro76_0_0 N  K N (intS (oneA (vT (nx tund s.tmps 0)))) (intS (oneA (vT (nx tund s.tmps 5)))) (rInts (rowB_ (nx .dead s.blks 0)))).trans h⟩
  | false =>
  rw [hb, cond_false] at h
  clear hb
  cases h
def BV_impl_elements {β : Type} (N : Nat) (q_impl_elements_l0 : Nat → Int → Int → List Int → (List Int → Option β) → Option β) (a0 : Int) (k : List Int → Option β) : Option β :=
q_impl_elements_l0  N a0 0 (([] : List Int)) (fun e2_0 =>
k e2_0)
theorem t_impl_elements {β : Type} (N : Nat) (a0 : Int) (k : List Int → Option β) : impl_elements N a0 k = BV_impl_elements N (impl_elements_l0 N) a0 k := by
  unfold impl_elements BV_impl_elements
  rfl
theorem ve76_0 {β : Type} (N : Nat) (q_impl_elements_l0 : Nat → Int → Int → List Int → (List Int → Option β) → Option β)  (a0 : Int) (K : TV → Option β) : evFn lay (VE76 N q_impl_elements_l0) Try.f76 [.v (.one (.int .i64 a0))] K = BV_impl_elements N q_impl_elements_l0 a0 (fun z1 => K (.v (.one (.sl 3 (.ints .i64 z1))))) := by kernel_rfl
theorem e76_0 {β : Type} (N : Nat)  (a0 : Int) (K : TV → Option β) : evFn lay (E76 N) Try.f76 [.v (.one (.int .i64 a0))] K = impl_elements N a0 (fun z1 => K (.v (.one (.sl 3 (.ints .i64 z1))))) := (ve76_0 N (impl_elements_l0 N) a0 K).trans (t_impl_elements N a0 (fun z1 => K (.v (.one (.sl 3 (.ints .i64 z1)))))).symm
theorem o76 {β : Type} (N : Nat) : SpecOK (β := β) Try.prog 76 (S76 N) := by
  refine spec_of lay_ok mixed (E := E76 N) (specs_loops specs_nil) muts_nil gs_nil Try.func76 (by kernel_rfl) 1 (by kernel_rfl) ⟨trivial, rk76_0 N⟩ fun args K r h => ?_
  unfold S76 VS76 at h
  split at h
  · exact (e76_0 N _ _).trans h
  · cases h
def VS26 {β : Type} (N : Nat) (q_impl_DetectingInputs : (a0 : Int) → (a1 : Int) → (a2 : Int) → (a3 : Int) → (k : List Int → Bool → Option β) → Option β) : Rv.Spec β := fun args K => match args with
  | [.v (.agg [.int .i64 a0, .int .i64 a1]), .v (.one (.int .i64 a2)), .v (.one (.int .i64 a3))] => q_impl_DetectingInputs a0 a1 a2 a3 (fun z4 z5 => K (.tup [.one (.sl 3 (.ints .i64 z4)), .one (.bool z5)]))
  | _ => none
def S26 {β : Type} (N : Nat) : Rv.Spec β := VS26 N (impl_DetectingInputs N)
def VE26 {β : Type} (N : Nat) (q_impl_hasVariable : (a0 : Int) → (a1 : Int) → (a2 : Int) → (k : Bool → Option β) → Option β) (q_impl_isBit : (a0 : Int) → (k : Bool → Option β) → Option β) (q_impl_Table_detecting : (a0 : Int) → (a1 : Int) → (a2 : Int) → (a3 : Int) → (k : Int → Option β) → Option β) (q_impl_elements : (a0 : Int) → (k : List Int → Option β) → Option β) : Env β := ⟨[(74, VS74 N q_impl_hasVariable), (75, VS75 N q_impl_isBit), (77, VS77 N q_impl_Table_detecting), (76, VS76 N q_impl_elements)], [], [], []⟩
def E26 {β : Type} (N : Nat) : Env β := VE26 N (impl_hasVariable N) (impl_isBit N) (impl_Table_detecting N) (impl_elements N)
def BV_impl_DetectingInputs {β : Type} (N : Nat) (q_impl_hasVariable : (a0 : Int) → (a1 : Int) → (a2 : Int) → (k : Bool → Option β) → Option β) (q_impl_isBit : (a0 : Int) → (k : Bool → Option β) → Option β) (q_impl_Table_detecting : (a0 : Int) → (a1 : Int) → (a2 : Int) → (a3 : Int) → (k : Int → Option β) → Option β) (q_impl_elements : (a0 : Int) → (k : List Int → Option β) → Option β) (a0 : Int) (a1 : Int) (a2 : Int) (a3 : Int) (k : List Int → Bool → Option β) : Option β :=
q_impl_hasVariable a0 a1 a2 fun r6 =>
(cond (!r6)
(k (([] : List Int)) false)
(q_impl_isBit a3 fun r7 =>
(cond (!r7)
(k (([] : List Int)) false)
(q_impl_Table_detecting a0 a1 a2 a3 fun r8 =>
q_impl_elements r8 fun r9 =>
k r9 true))))
theorem t_impl_DetectingInputs {β : Type} (N : Nat) (a0 : Int) (a1 : Int) (a2 : Int) (a3 : Int) (k : List Int → Bool → Option β) : impl_DetectingInputs N a0 a1 a2 a3 k = BV_impl_DetectingInputs N (impl_hasVariable N) (impl_isBit N) (impl_Table_detecting N) (impl_elements N) a0 a1 a2 a3 k := by
  unfold impl_DetectingInputs BV_impl_DetectingInputs
  rfl
theorem ve26_0 {β : Type} (N : Nat) (q_impl_hasVariable : (a0 : Int) → (a1 : Int) → (a2 : Int) → (k : Bool → Option β) → Option β) (q_impl_isBit : (a0 : Int) → (k : Bool → Option β) → Option β) (q_impl_Table_detecting : (a0 : Int) → (a1 : Int) → (a2 : Int) → (a3 : Int) → (k : Int → Option β) → Option β) (q_impl_elements : (a0 : Int) → (k : List Int → Option β) → Option β)  (a0 : Int) (a1 : Int) (a2 : Int) (a3 : Int) (K : TV → Option β) : evFn lay (VE26 N q_impl_hasVariable q_impl_isBit q_impl_Table_detecting q_impl_elements) Try.f26 [.v (.agg [.int .i64 a0, .int .i64 a1]), .v (.one (.int .i64 a2)), .v (.one (.int .i64 a3))] K = BV_impl_DetectingInputs N q_impl_hasVariable q_impl_isBit q_impl_Table_detecting q_impl_elements a0 a1 a2 a3 (fun z4 z5 => K (.tup [.one (.sl 3 (.ints .i64 z4)), .one (.bool z5)])) := by kernel_rfl
theorem e26_0 {β : Type} (N : Nat)  (a0 : Int) (a1 : Int) (a2 : Int) (a3 : Int) (K : TV → Option β) : evFn lay (E26 N) Try.f26 [.v (.agg [.int .i64 a0, .int .i64 a1]), .v (.one (.int .i64 a2)), .v (.one (.int .i64 a3))] K = impl_DetectingInputs N a0 a1 a2 a3 (fun z4 z5 => K (.tup [.one (.sl 3 (.ints .i64 z4)), .one (.bool z5)])) := (ve26_0 N (impl_hasVariable N) (impl_isBit N) (impl_Table_detecting N) (impl_elements N) a0 a1 a2 a3 K).trans (t_impl_DetectingInputs N a0 a1 a2 a3 (fun z4 z5 => K (.tup [.one (.sl 3 (.ints .i64 z4)), .one (.bool z5)]))).symm
theorem o26 {β : Type} (N : Nat) : SpecOK (β := β) Try.prog 26 (S26 N) := by
  refine spec_of lay_ok mixed (E := E26 N) (specs_loops (specs_cons (o74 N) (specs_cons (o75 N) (specs_cons (o77 N) (specs_cons (o76 N) specs_nil))))) muts_nil gs_nil Try.func26 (by kernel_rfl) 0 (by kernel_rfl) trivial fun args K r h => ?_
  unfold S26 VS26 at h
  split at h
  · exact (e26_0 N _ _ _ _ _).trans h
  · cases h
def VS93 {β : Type} (N : Nat) (q_spec_l1In : (a0 : Int) → (a1 : Int) → (a2 : Int) → (k : Bool → Option β) → Option β) : Rv.Spec β := fun args K => match args with
  | [.v (.one (.int .i64 a0)), .v (.one (.int .i64 a1)), .v (.one (.int .i64 a2))] => q_spec_l1In a0 a1 a2 (fun z3 => K (.v (.one (.bool z3))))
  | _ => none
def S93 {β : Type} (N : Nat) : Rv.Spec β := VS93 N (spec_l1In N)
def VE93 {β : Type} (N : Nat) : Env β := ⟨[], [], [], []⟩
def E93 {β : Type} (N : Nat) : Env β := VE93 N
def BV_spec_l1In {β : Type} (N : Nat) (a0 : Int) (a1 : Int) (a2 : Int) (k : Bool → Option β) : Option β :=
(cond ((decide (a0 ≥ a1)))
(k ((decide (a0 ≤ a2))))
(k false))
theorem t_spec_l1In {β : Type} (N : Nat) (a0 : Int) (a1 : Int) (a2 : Int) (k : Bool → Option β) : spec_l1In N a0 a1 a2 k = BV_spec_l1In N a0 a1 a2 k := by
  unfold spec_l1In BV_spec_l1In
  rfl
theorem ve93_0 {β : Type} (N : Nat)  (a0 : Int) (a1 : Int) (a2 : Int) (K : TV → Option β) : evFn lay (VE93 N) Try.f93 [.v (.one (.int .i64 a0)), .v (.one (.int .i64 a1)), .v (.one (.int .i64 a2))] K = BV_spec_l1In N a0 a1 a2 (fun z3 => K (.v (.one (.bool z3)))) := by kernel_rfl
theorem e93_0 {β : Type} (N : Nat)  (a0 : Int) (a1 : Int) (a2 : Int) (K : TV → Option β) : evFn lay (E93 N) Try.f93 [.v (.one (.int .i64 a0)), .v (.one (.int .i64 a1)), .v (.one (.int .i64 a2))] K = spec_l1In N a0 a1 a2 (fun z3 => K (.v (.one (.bool z3)))) := (ve93_0 N a0 a1 a2 K).trans (t_spec_l1In N a0 a1 a2 (fun z3 => K (.v (.one (.bool z3))))).symm
theorem o93 {β : Type} (N : Nat) : SpecOK (β := β) Try.prog 93 (S93 N) := by
  refine spec_of lay_ok mixed (E := E93 N) (specs_loops specs_nil) muts_nil gs_nil Try.func93 (by kernel_rfl) 0 (by kernel_rfl) trivial fun args K r h => ?_
  unfold S93 VS93 at h
  split at h
  · exact (e93_0 N _ _ _ _).trans h
  · cases h
def VS69 {β : Type} (N : Nat) (q_spec_IsTable : (a0 : Int) → (a1 : Int) → (k : Bool → Option β) → Option β) : Rv.Spec β := fun args K => match args with
  | [.v (.agg [.int .i64 a0, .int .i64 a1])] => q_spec_IsTable a0 a1 (fun z2 => K (.v (.one (.bool z2))))
  | _ => none
def S69 {β : Type} (N : Nat) : Rv.Spec β := VS69 N (spec_IsTable N)
def VE69 {β : Type} (N : Nat) (q_spec_l1In : (a0 : Int) → (a1 : Int) → (a2 : Int) → (k : Bool → Option β) → Option β) : Env β := ⟨[(93, VS93 N q_spec_l1In)], [], [], []⟩
def E69 {β : Type} (N : Nat) : Env β := VE69 N (spec_l1In N)
def BV_spec_IsTable {β : Type} (N : Nat) (q_spec_l1In : (a0 : Int) → (a1 : Int) → (a2 : Int) → (k : Bool → Option β) → Option β) (a0 : Int) (a1 : Int) (k : Bool → Option β) : Option β :=
q_spec_l1In a0 0 5 fun r3 =>
(cond r3
((gd ((decide (0 ≤ a0)))
((gd ((decide (0 ≤ (shlI .u64 1 a0))))
(q_spec_l1In a1 0 ((w64 ((shlI .i64 1 (shlI .u64 1 a0)) - 1))) fun r4 =>
k r4)))))
(k false))
theorem t_spec_IsTable {β : Type} (N : Nat) (a0 : Int) (a1 : Int) (k : Bool → Option β) : spec_IsTable N a0 a1 k = BV_spec_IsTable N (spec_l1In N) a0 a1 k := by
  unfold spec_IsTable BV_spec_IsTable
  rfl
theorem ve69_0 {β : Type} (N : Nat) (q_spec_l1In : (a0 : Int) → (a1 : Int) → (a2 : Int) → (k : Bool → Option β) → Option β)  (a0 : Int) (a1 : Int) (K : TV → Option β) : evFn lay (VE69 N q_spec_l1In) Try.f69 [.v (.agg [.int .i64 a0, .int .i64 a1])] K = BV_spec_IsTable N q_spec_l1In a0 a1 (fun z2 => K (.v (.one (.bool z2)))) := by kernel_rfl
theorem e69_0 {β : Type} (N : Nat)  (a0 : Int) (a1 : Int) (K : TV → Option β) : evFn lay (E69 N) Try.f69 [.v (.agg [.int .i64 a0, .int .i64 a1])] K = spec_IsTable N a0 a1 (fun z2 => K (.v (.one (.bool z2)))) := (ve69_0 N (spec_l1In N) a0 a1 K).trans (t_spec_IsTable N a0 a1 (fun z2 => K (.v (.one (.bool z2))))).symm
theorem o69 {β : Type} (N : Nat) : SpecOK (β := β) Try.prog 69 (S69 N) := by
  refine spec_of lay_ok mixed (E := E69 N) (specs_loops (specs_cons (o93 N) specs_nil)) muts_nil gs_nil Try.func69 (by kernel_rfl) 0 (by kernel_rfl) trivial fun args K r h => ?_
  unfold S69 VS69 at h
  split at h
  · exact (e69_0 N _ _ _).trans h
  · cases h
def VS90 {β : Type} (N : Nat) (q_spec_l29Stuck : (a0 : Int) → (a1 : Int) → (a2 : Int) → (a3 : Int) → (k : Int → Int → Option β) → Option β) : Rv.Spec β := fun args K => match args with
  | [.v (.agg [.int .i64 a0, .int .i64 a1]), .v (.one (.int .i64 a2)), .v (.one (.int .i64 a3))] => q_spec_l29Stuck a0 a1 a2 a3 (fun z4 z5 => K (.v (.agg [.int .i64 z4, .int .i64 z5])))
  | _ => none
def S90 {β : Type} (N : Nat) : Rv.Spec β := VS90 N (spec_l29Stuck N)
def h90_0_0  (v0 : Int) (v1 : Int) (v2 : Int) (v3 : Int) (v4 : Int) (v5 : Int) (v6 : Int) (v7 : Int) : St := ⟨.v (.one .und) :: .v (.one (.int .i64 v0)) :: .v (.one (.int .i64 v1)) :: .v (.one (.ptr 0 0)) :: .v (.one .und) :: .v (.one .und) :: .v (.one (.ptr 1 0)) :: .v (.one (.int .i64 v2)) :: .v (.one (.int .i64 v3)) :: .v (.one .und) :: .v (.one .und) :: .v (.one .und) :: .v (.one .und) :: .v (.one .und) :: .v (.one .und) :: .v (.one .und) :: .v (.one .und) :: .v (.one .und) :: .v (.one .und) :: .v (.one .und) :: .v (.one .und) :: .v (.one .und) :: .v (.one .und) :: .v (.one .und) :: .v (.one .und) :: .v (.one .und) :: .v (.one .und) :: .v (.one .und) :: .v (.one .und) :: .v (.one .und) :: .v (.one .und) :: .v (.one .und) :: .v (.one .und) :: .v (.one .und) :: .v (.one .und) :: .v (.one .und) :: .v (.one .und) :: .v (.one .und) :: .v (.one .und) :: .v (.one .und) :: [], [.cells 25 [.int .i64 v4, .int .i64 v5], .cells 25 [.int .i64 v6, .int .i64 v7]]⟩
def x90_0_0_k0  (y0 : Int) (y1 : Int) (y2 : Int) (y3 : Int) (y4 : Int) : St := ⟨.v (.one .und) :: .v (.one .und) :: .v (.one .und) :: .v (.one (.ptr 0 0)) :: .v (.one .und) :: .v (.one .und) :: .v (.one (.ptr 1 0)) :: .v (.one (.int .i64 y0)) :: .v (.one .und) :: .v (.one .und) :: .v (.one .und) :: .v (.one .und) :: .v (.one .und) :: .v (.one .und) :: .v (.one .und) :: .v (.one .und) :: .v (.one .und) :: .v (.one .und) :: .v (.one .und) :: .v (.one .und) :: .v (.one .und) :: .v (.one .und) :: .v (.one .und) :: .v (.one .und) :: .v (.one .und) :: .v (.one .und) :: .v (.one .und) :: .v (.one .und) :: .v (.one .und) :: .v (.one .und) :: .v (.one .und) :: .v (.one .und) :: .v (.one .und) :: .v (.one .und) :: .v (.one .und) :: .v (.one .und) :: .v (.one .und) :: .v (.one .und) :: .v (.one .und) :: .v (.one .und) :: [], [.cells 25 [.int .i64 y1, .int .i64 y2], .cells 25 [.int .i64 y3, .int .i64 y4]]⟩
theorem fl90_0_0 (s : St) : refSt (h90_0_0 0 0 0 0 0 0 0 0) s = h90_0_0 (intS (oneA (vT (nx tund s.tmps 1)))) (intS (oneA (vT (nx tund s.tmps 2)))) (intS (oneA (vT (nx tund s.tmps 7)))) (intS (oneA (vT (nx tund s.tmps 8)))) (intS (nx .und (cellsB (nx .dead s.blks 0)) 0)) (intS (nx .und (cellsB (nx .dead s.blks 0)) 1)) (intS (nx .und (cellsB (nx .dead s.blks 1)) 0)) (intS (nx .und (cellsB (nx .dead s.blks 1)) 1)) := by kernel_rfl
def VLS90_0 {β : Type} (N : Nat) (q_spec_l29Stuck_l0 : Nat → Int → Int → Int → Int → Int → Int → Int → Int → (Int → Int → Int → Int → Int → Option β) → Option β) : LSpec β := fun s K => cond (shpSt (h90_0_0 0 0 0 0 0 0 0 0) s) ((fun (v0 : Int) (v1 : Int) (v2 : Int) (v3 : Int) (v4 : Int) (v5 : Int) (v6 : Int) (v7 : Int) => q_spec_l29Stuck_l0  N v0 v1 v2 v3 v4 v5 v6 v7 (fun y0 y1 y2 y3 y4 => K (.exit 0) (x90_0_0_k0  y0 y1 y2 y3 y4))) (intS (oneA (vT (nx tund s.tmps 1)))) (intS (oneA (vT (nx tund s.tmps 2)))) (intS (oneA (vT (nx tund s.tmps 7)))) (intS (oneA (vT (nx tund s.tmps 8)))) (intS (nx .und (cellsB (nx .dead s.blks 0)) 0)) (intS (nx .und (cellsB (nx .dead s.blks 0)) 1)) (intS (nx .und (cellsB (nx .dead s.blks 1)) 0)) (intS (nx .und (cellsB (nx .dead s.blks 1)) 1))) (none)
def LS90_0 {β : Type} (N : Nat) : LSpec β := VLS90_0 N (spec_l29Stuck_l0 N)
def VE90 {β : Type} (N : Nat) (q_spec_l29Stuck_l0 : Nat → Int → Int → Int → Int → Int → Int → Int → Int → (Int → Int → Int → Int → Int → Option β) → Option β) : Env β := ⟨[], [], [(0, VLS90_0 N q_spec_l29Stuck_l0)], []⟩
def E90 {β : Type} (N : Nat) : Env β := VE90 N (spec_l29Stuck_l0 N)
def BV_spec_l29Stuck_l0b {β : Type} (N : Nat)  (v0 : Int) (v1 : Int) (v2 : Int) (v3 : Int) (v4 : Int) (v5 : Int) (v6 : Int) (v7 : Int) (rec_ : Int → Int → Int → Int → Int → Int → Int → Int → Option β) (k0 : Int → Int → Int → Int → Int → Option β) : Option β :=
(gd ((decide (0 ≤ v4)))
((cond ((decide (v3 < (shlI .i64 1 v4))))
((gd ((decide (0 ≤ v0)))
((gd ((decide (0 ≤ v0)))
((gd ((decide (0 ≤ (w64 ((w64 (v3 - (bits .and .i64 v3 (shlI .i64 1 v0)))) + (shlI .i64 v1 v0))))))
((gd ((decide (0 ≤ v3)))
(rec_ v0 v1 ((bits .or .i64 v2 (shlI .i64 (bits .and .i64 (shrI .i64 v5 (w64 ((w64 (v3 - (bits .and .i64 v3 (shlI .i64 1 v0)))) + (shlI .i64 v1 v0)))) 1) v3))) ((w64 (v3 + 1))) v4 v5 v6 v7)))))))))
(k0 v2 v4 v5 v6 v7))))
theorem t_spec_l29Stuck_l0b {β : Type} (N : Nat)  (v0 : Int) (v1 : Int) (v2 : Int) (v3 : Int) (v4 : Int) (v5 : Int) (v6 : Int) (v7 : Int) (rec_ : Int → Int → Int → Int → Int → Int → Int → Int → Option β) (k0 : Int → Int → Int → Int → Int → Option β) : spec_l29Stuck_l0b N v0 v1 v2 v3 v4 v5 v6 v7 rec_ k0 = BV_spec_l29Stuck_l0b N v0 v1 v2 v3 v4 v5 v6 v7 rec_ k0 := by
  unfold spec_l29Stuck_l0b BV_spec_l29Stuck_l0b
  rfl
theorem vst90_0_0 {β : Type} (N : Nat) (q_spec_l29Stuck_l0 : Nat → Int → Int → Int → Int → Int → Int → Int → Int → (Int → Int → Int → Int → Int → Option β) → Option β)  (v0 : Int) (v1 : Int) (v2 : Int) (v3 : Int) (v4 : Int) (v5 : Int) (v6 : Int) (v7 : Int) (rec_ : St → Option β) (K : Exit → St → Option β) :
    ev lay (VE90 N q_spec_l29Stuck_l0) (retMask Try.f90) (lp Try.f90 0).body (lp Try.f90 0).ex ((lp Try.f90 0).lv (retMask Try.f90)) (h90_0_0  v0 v1 v2 v3 v4 v5 v6 v7) (nextR (fun s' => rec_ (s'.tidy ((lp Try.f90 0).lv (retMask Try.f90)))) K) = BV_spec_l29Stuck_l0b N  v0 v1 v2 v3 v4 v5 v6 v7 (fun v0 v1 v2 v3 v4 v5 v6 v7 => rec_ (h90_0_0  v0 v1 v2 v3 v4 v5 v6 v7)) (fun y0 y1 y2 y3 y4 => K (.exit 0) (x90_0_0_k0  y0 y1 y2 y3 y4)) := by kernel_rfl
theorem st90_0_0 {β : Type} (N : Nat)  (v0 : Int) (v1 : Int) (v2 : Int) (v3 : Int) (v4 : Int) (v5 : Int) (v6 : Int) (v7 : Int) (rec_ : St → Option β) (K : Exit → St → Option β) :
    ev lay (E90 N) (retMask Try.f90) (lp Try.f90 0).body (lp Try.f90 0).ex ((lp Try.f90 0).lv (retMask Try.f90)) (h90_0_0  v0 v1 v2 v3 v4 v5 v6 v7) (nextR (fun s' => rec_ (s'.tidy ((lp Try.f90 0).lv (retMask Try.f90)))) K) = spec_l29Stuck_l0b N  v0 v1 v2 v3 v4 v5 v6 v7 (fun v0 v1 v2 v3 v4 v5 v6 v7 => rec_ (h90_0_0  v0 v1 v2 v3 v4 v5 v6 v7)) (fun y0 y1 y2 y3 y4 => K (.exit 0) (x90_0_0_k0  y0 y1 y2 y3 y4)) := (vst90_0_0 N (spec_l29Stuck_l0 N) v0 v1 v2 v3 v4 v5 v6 v7 rec_ K).trans (t_spec_l29Stuck_l0b N  v0 v1 v2 v3 v4 v5 v6 v7 (fun v0 v1 v2 v3 v4 v5 v6 v7 => rec_ (h90_0_0  v0 v1 v2 v3 v4 v5 v6 v7)) (fun y0 y1 y2 y3 y4 => K (.exit 0) (x90_0_0_k0  y0 y1 y2 y3 y4))).symm
theorem ro90_0_0 {β : Type} (N : Nat)  (K : Exit → St → Option β) : ∀ (F : Nat) (v0 : Int) (v1 : Int) (v2 : Int) (v3 : Int) (v4 : Int) (v5 : Int) (v6 : Int) (v7 : Int), (lp Try.f90 0).rounds lay (E90 N) (retMask Try.f90) F (h90_0_0  v0 v1 v2 v3 v4 v5 v6 v7) K = spec_l29Stuck_l0 N  F v0 v1 v2 v3 v4 v5 v6 v7 (fun y0 y1 y2 y3 y4 => K (.exit 0) (x90_0_0_k0  y0 y1 y2 y3 y4)) := by
  intro F
  induction F with
  | zero => intros; rfl
  | succ F ih =>
    intros
    rw [rounds_next]
    refine (st90_0_0 N  _ _ _ _ _ _ _ _ (fun s => (lp Try.f90 0).rounds lay (E90 N) (retMask Try.f90) F s K) K).trans ?_
    simp only [ih]
    rfl
theorem lk90_0 {β : Type} (N : Nat) : lookL (E90 (β := β) N).loops (lp Try.f90 0).id = LS90_0 N := by kernel_rfl
theorem rk90_0 {β : Type} (N : Nat) : RoundsOK lay (E90 (β := β) N) (retMask Try.f90) (lp Try.f90 0) := by
  intro s K r h
  rw [lk90_0] at h
  unfold LS90_0 VLS90_0 at h
  cases hb : shpSt (h90_0_0 0 0 0 0 0 0 0 0) s with
  | true =>
    rw [hb, cond_true] at h
    exact ⟨N, by rw [← shpSt_ref hb, fl90_0_0 s]; exact (ro90_0_0 N  K N (intS (oneA (vT (nx tund s.tmps 1)))) (intS (oneA (vT (nx tund s.tmps 2)))) (intS (oneA (vT (nx tund s.tmps 7)))) (intS (oneA (vT (nx tund s.tmps 8)))) (intS (nx .und (cellsB (nx .dead s.blks 0)) 0)) (intS (nx .und (cellsB (nx .dead s.blks 0)) 1)) (intS (nx .und (cellsB (nx .dead s.blks 1)) 0)) (intS (nx .und (cellsB (nx .dead s.blks 1)) 1))).trans h⟩
  | false =>
  rw [hb, cond_false] at h
  clear hb
  cases h
def BV_spec_l29Stuck {β : Type} (N : Nat) (q_spec_l29Stuck_l0 : Nat → Int → Int → Int → Int → Int → Int → Int → Int → (Int → Int → Int → Int → Int → Option β) → Option β) (a0 : Int) (a1 : Int) (a2 : Int) (a3 : Int) (k : Int → Int → Option β) : Option β :=
q_spec_l29Stuck_l0  N a2 a3 0 0 a0 a1 0 0 (fun e6_0 e6_1 e6_2 e6_3 e6_4 =>
k e6_1 e6_0)
theorem t_spec_l29Stuck {β : Type} (N : Nat) (a0 : Int) (a1 : Int) (a2 : Int) (a3 : Int) (k : Int → Int → Option β) : spec_l29Stuck N a0 a1 a2 a3 k = BV_spec_l29Stuck N (spec_l29Stuck_l0 N) a0 a1 a2 a3 k := by
  unfold spec_l29Stuck BV_spec_l29Stuck
  rfl
theorem ve90_0 {β : Type} (N : Nat) (q_spec_l29Stuck_l0 : Nat → Int → Int → Int → Int → Int → Int → Int → Int → (Int → Int → Int → Int → Int → Option β) → Option β)  (a0 : Int) (a1 : Int) (a2 : Int) (a3 : Int) (K : TV → Option β) : evFn lay (VE90 N q_spec_l29Stuck_l0) Try.f90 [.v (.agg [.int .i64 a0, .int .i64 a1]), .v (.one (.int .i64 a2)), .v (.one (.int .i64 a3))] K = BV_spec_l29Stuck N q_spec_l29Stuck_l0 a0 a1 a2 a3 (fun z4 z5 => K (.v (.agg [.int .i64 z4, .int .i64 z5]))) := by kernel_rfl
theorem e90_0 {β : Type} (N : Nat)  (a0 : Int) (a1 : Int) (a2 : Int) (a3 : Int) (K : TV → Option β) : evFn lay (E90 N) Try.f90 [.v (.agg [.int .i64 a0, .int .i64 a1]), .v (.one (.int .i64 a2)), .v (.one (.int .i64 a3))] K = spec_l29Stuck N a0 a1 a2 a3 (fun z4 z5 => K (.v (.agg [.int .i64 z4, .int .i64 z5]))) := (ve90_0 N (spec_l29Stuck_l0 N) a0 a1 a2 a3 K).trans (t_spec_l29Stuck N a0 a1 a2 a3 (fun z4 z5 => K (.v (.agg [.int .i64 z4, .int .i64 z5])))).symm
theorem o90 {β : Type} (N : Nat) : SpecOK (β := β) Try.prog 90 (S90 N) := by
  refine spec_of lay_ok mixed (E := E90 N) (specs_loops specs_nil) muts_nil gs_nil Try.func90 (by kernel_rfl) 1 (by kernel_rfl) ⟨trivial, rk90_0 N⟩ fun args K r h => ?_
  unfold S90 VS90 at h
  split at h
  · exact (e90_0 N _ _ _ _ _).trans h
  · cases h
def VS44 {β : Type} (N : Nat) (q_spec_StuckTable : (a0 : Int) → (a1 : Int) → (a2 : Int) → (a3 : Int) → (k : Int → Int → Bool → Option β) → Option β) : Rv.Spec β := fun args K => match args with
  | [.v (.agg [.int .i64 a0, .int .i64 a1]), .v (.one (.int .i64 a2)), .v (.one (.int .i64 a3))] => q_spec_StuckTable a0 a1 a2 a3 (fun z4 z5 z6 => K (.tup [.agg [.int .i64 z4, .int .i64 z5], .one (.bool z6)]))
  | _ => none
def S44 {β : Type} (N : Nat) : Rv.Spec β := VS44 N (spec_StuckTable N)
def VE44 {β : Type} (N : Nat) (q_spec_IsTable : (a0 : Int) → (a1 : Int) → (k : Bool → Option β) → Option β) (q_spec_l1In : (a0 : Int) → (a1 : Int) → (a2 : Int) → (k : Bool → Option β) → Option β) (q_spec_l29Stuck : (a0 : Int) → (a1 : Int) → (a2 : Int) → (a3 : Int) → (k : Int → Int → Option β) → Option β) : Env β := ⟨[(69, VS69 N q_spec_IsTable), (93, VS93 N q_spec_l1In), (90, VS90 N q_spec_l29Stuck)], [], [], []⟩
def E44 {β : Type} (N : Nat) : Env β := VE44 N (spec_IsTable N) (spec_l1In N) (spec_l29Stuck N)
def BV_spec_StuckTable {β : Type} (N : Nat) (q_spec_IsTable : (a0 : Int) → (a1 : Int) → (k : Bool → Option β) → Option β) (q_spec_l1In : (a0 : Int) → (a1 : Int) → (a2 : Int) → (k : Bool → Option β) → Option β) (q_spec_l29Stuck : (a0 : Int) → (a1 : Int) → (a2 : Int) → (a3 : Int) → (k : Int → Int → Option β) → Option β) (a0 : Int) (a1 : Int) (a2 : Int) (a3 : Int) (k : Int → Int → Bool → Option β) : Option β :=
q_spec_IsTable a0 a1 fun r7 =>
(cond (!r7)
(k 0 0 false)
(q_spec_l1In a2 0 ((w64 (a0 - 1))) fun r8 =>
(cond (!r8)
(k 0 0 false)
(q_spec_l1In a3 0 1 fun r9 =>
(cond (!r9)
(k 0 0 false)
(q_spec_l29Stuck a0 a1 a2 a3 fun r10 r11 =>
k r10 r11 true))))))
theorem t_spec_StuckTable {β : Type} (N : Nat) (a0 : Int) (a1 : Int) (a2 : Int) (a3 : Int) (k : Int → Int → Bool → Option β) : spec_StuckTable N a0 a1 a2 a3 k = BV_spec_StuckTable N (spec_IsTable N) (spec_l1In N) (spec_l29Stuck N) a0 a1 a2 a3 k := by
  unfold spec_StuckTable BV_spec_StuckTable
  rfl
theorem ve44_0 {β : Type} (N : Nat) (q_spec_IsTable : (a0 : Int) → (a1 : Int) → (k : Bool → Option β) → Option β) (q_spec_l1In : (a0 : Int) → (a1 : Int) → (a2 : Int) → (k : Bool → Option β) → Option β) (q_spec_l29Stuck : (a0 : Int) → (a1 : Int) → (a2 : Int) → (a3 : Int) → (k : Int → Int → Option β) → Option β)  (a0 : Int) (a1 : Int) (a2 : Int) (a3 : Int) (K : TV → Option β) : evFn lay (VE44 N q_spec_IsTable q_spec_l1In q_spec_l29Stuck) Try.f44 [.v (.agg [.int .i64 a0, .int .i64 a1]), .v (.one (.int .i64 a2)), .v (.one (.int .i64 a3))] K = BV_spec_StuckTable N q_spec_IsTable q_spec_l1In q_spec_l29Stuck a0 a1 a2 a3 (fun z4 z5 z6 => K (.tup [.agg [.int .i64 z4, .int .i64 z5], .one (.bool z6)])) := by kernel_rfl
theorem e44_0 {β : Type} (N : Nat)  (a0 : Int) (a1 : Int) (a2 : Int) (a3 : Int) (K : TV → Option β) : evFn lay (E44 N) Try.f44 [.v (.agg [.int .i64 a0, .int .i64 a1]), .v (.one (.int .i64 a2)), .v (.one (.int .i64 a3))] K = spec_StuckTable N a0 a1 a2 a3 (fun z4 z5 z6 => K (.tup [.agg [.int .i64 z4, .int .i64 z5], .one (.bool z6)])) := (ve44_0 N (spec_IsTable N) (spec_l1In N) (spec_l29Stuck N) a0 a1 a2 a3 K).trans (t_spec_StuckTable N a0 a1 a2 a3 (fun z4 z5 z6 => K (.tup [.agg [.int .i64 z4, .int .i64 z5], .one (.bool z6)]))).symm
theorem o44 {β : Type} (N : Nat) : SpecOK (β := β) Try.prog 44 (S44 N) := by
  refine spec_of lay_ok mixed (E := E44 N) (specs_loops (specs_cons (o69 N) (specs_cons (o93 N) (specs_cons (o90 N) specs_nil)))) muts_nil gs_nil Try.func44 (by kernel_rfl) 0 (by kernel_rfl) trivial fun args K r h => ?_
  unfold S44 VS44 at h
  split at h
  · exact (e44_0 N _ _ _ _ _).trans h
  · cases h
end Go.Proofs.Ytdkjnadhgdneaaa
