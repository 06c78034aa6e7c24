/- The functions that the claims reach answer as their texts do. -/
import Derived.Test.YtdkjnadhgdneaaaE2
namespace Go.Proofs.Ytdkjnadhgdneaaa
open Go.Rv
set_option maxRecDepth 100000
set_option maxHeartbeats 2000000
set_option linter.unusedVariables false
def VS48 {β : Type} (N : Nat) (q_spec_MeasureOf : (a0 : ByteArray) → (a1 : Int) → (a2 : Int) → (k : Int → Option β) → Option β) : Rv.Spec β := fun args K => match args with
  | [.v (.one (.str a0)), .v (.agg [.int .i64 a1, .int .i64 a2])] => q_spec_MeasureOf a0 a1 a2 (fun z3 => K (.v (.one (.int .i64 z3))))
  | _ => none
def S48 {β : Type} (N : Nat) : Rv.Spec β := VS48 N (spec_MeasureOf N)
def VE48 {β : Type} (N : Nat) (q_spec_IsTable : (a0 : Int) → (a1 : Int) → (k : Bool → Option β) → Option β) (q_spec_SensitivityOf : (a0 : Int) → (a1 : Int) → (k : Int → Option β) → Option β) (q_spec_BlockSensitivityOf : (a0 : Int) → (a1 : Int) → (k : Int → Option β) → Option β) (q_spec_CertificateOf : (a0 : Int) → (a1 : Int) → (a2 : Int) → (k : Int → Option β) → Option β) (q_spec_LeastDepth : (a0 : Int) → (a1 : Int) → (k : Int → Option β) → Option β) (q_spec_RealDegree : (a0 : Int) → (a1 : Int) → (k : Int → Option β) → Option β) (q_spec_DegreeMod2 : (a0 : Int) → (a1 : Int) → (k : Int → Option β) → Option β) (q_spec_CountOnes : (a0 : Int) → (a1 : Int) → (k : Int → Option β) → Option β) (q_spec_TotalInfluence : (a0 : Int) → (a1 : Int) → (k : Int → Option β) → Option β) : Env β := ⟨[(69, VS69 N q_spec_IsTable), (95, VS95 N q_spec_SensitivityOf), (96, VS96 N q_spec_BlockSensitivityOf), (97, VS97 N q_spec_CertificateOf), (98, VS98 N q_spec_LeastDepth), (99, VS99 N q_spec_RealDegree), (100, VS100 N q_spec_DegreeMod2), (101, VS101 N q_spec_CountOnes), (102, VS102 N q_spec_TotalInfluence)], [], [], []⟩
def E48 {β : Type} (N : Nat) : Env β := VE48 N (spec_IsTable N) (spec_SensitivityOf N) (spec_BlockSensitivityOf N) (spec_CertificateOf N) (spec_LeastDepth N) (spec_RealDegree N) (spec_DegreeMod2 N) (spec_CountOnes N) (spec_TotalInfluence N)
def BV_spec_MeasureOf {β : Type} (N : Nat) (q_spec_IsTable : (a0 : Int) → (a1 : Int) → (k : Bool → Option β) → Option β) (q_spec_SensitivityOf : (a0 : Int) → (a1 : Int) → (k : Int → Option β) → Option β) (q_spec_BlockSensitivityOf : (a0 : Int) → (a1 : Int) → (k : Int → Option β) → Option β) (q_spec_CertificateOf : (a0 : Int) → (a1 : Int) → (a2 : Int) → (k : Int → Option β) → Option β) (q_spec_LeastDepth : (a0 : Int) → (a1 : Int) → (k : Int → Option β) → Option β) (q_spec_RealDegree : (a0 : Int) → (a1 : Int) → (k : Int → Option β) → Option β) (q_spec_DegreeMod2 : (a0 : Int) → (a1 : Int) → (k : Int → Option β) → Option β) (q_spec_CountOnes : (a0 : Int) → (a1 : Int) → (k : Int → Option β) → Option β) (q_spec_TotalInfluence : (a0 : Int) → (a1 : Int) → (k : Int → Option β) → Option β) (a0 : ByteArray) (a1 : Int) (a2 : Int) (k : Int → Option β) : Option β :=
q_spec_IsTable a1 a2 fun r4 =>
(cond (!r4)
(k (-1))
((cond ((decide (a1 > 4)))
(k (-1))
((cond ((a0.toList == ((strOf [115, 101, 110, 115, 105, 116, 105, 118, 105, 116, 121])).toList))
(q_spec_SensitivityOf a1 a2 fun r5 =>
k r5)
((cond ((a0.toList == ((strOf [98, 108, 111, 99, 107, 115])).toList))
(q_spec_BlockSensitivityOf a1 a2 fun r6 =>
k r6)
((cond ((a0.toList == ((strOf [99, 101, 114, 116, 105, 102, 105, 99, 97, 116, 101])).toList))
(q_spec_CertificateOf a1 a2 0 fun r7 =>
q_spec_CertificateOf a1 a2 1 fun r8 =>
k ((mxI r7 r8)))
((cond ((a0.toList == ((strOf [100, 101, 112, 116, 104])).toList))
(q_spec_LeastDepth a1 a2 fun r9 =>
k r9)
((cond ((a0.toList == ((strOf [100, 101, 103, 114, 101, 101])).toList))
(q_spec_RealDegree a1 a2 fun r10 =>
k ((mxI 0 r10)))
((cond ((a0.toList == ((strOf [100, 101, 103, 114, 101, 101, 50])).toList))
(q_spec_DegreeMod2 a1 a2 fun r11 =>
k ((mxI 0 r11)))
((cond ((a0.toList == ((strOf [111, 110, 101, 115])).toList))
(q_spec_CountOnes a1 a2 fun r12 =>
k r12)
((cond ((a0.toList == ((strOf [105, 110, 102, 108, 117, 101, 110, 99, 101])).toList))
(q_spec_TotalInfluence a1 a2 fun r13 =>
k r13)
(k (-1)))))))))))))))))))))
theorem t_spec_MeasureOf {β : Type} (N : Nat) (a0 : ByteArray) (a1 : Int) (a2 : Int) (k : Int → Option β) : spec_MeasureOf N a0 a1 a2 k = BV_spec_MeasureOf N (spec_IsTable N) (spec_SensitivityOf N) (spec_BlockSensitivityOf N) (spec_CertificateOf N) (spec_LeastDepth N) (spec_RealDegree N) (spec_DegreeMod2 N) (spec_CountOnes N) (spec_TotalInfluence N) a0 a1 a2 k := by
  unfold spec_MeasureOf BV_spec_MeasureOf
  rfl
theorem ve48_0 {β : Type} (N : Nat) (q_spec_IsTable : (a0 : Int) → (a1 : Int) → (k : Bool → Option β) → Option β) (q_spec_SensitivityOf : (a0 : Int) → (a1 : Int) → (k : Int → Option β) → Option β) (q_spec_BlockSensitivityOf : (a0 : Int) → (a1 : Int) → (k : Int → Option β) → Option β) (q_spec_CertificateOf : (a0 : Int) → (a1 : Int) → (a2 : Int) → (k : Int → Option β) → Option β) (q_spec_LeastDepth : (a0 : Int) → (a1 : Int) → (k : Int → Option β) → Option β) (q_spec_RealDegree : (a0 : Int) → (a1 : Int) → (k : Int → Option β) → Option β) (q_spec_DegreeMod2 : (a0 : Int) → (a1 : Int) → (k : Int → Option β) → Option β) (q_spec_CountOnes : (a0 : Int) → (a1 : Int) → (k : Int → Option β) → Option β) (q_spec_TotalInfluence : (a0 : Int) → (a1 : Int) → (k : Int → Option β) → Option β)  (a0 : ByteArray) (a1 : Int) (a2 : Int) (K : TV → Option β) : evFn lay (VE48 N q_spec_IsTable q_spec_SensitivityOf q_spec_BlockSensitivityOf q_spec_CertificateOf q_spec_LeastDepth q_spec_RealDegree q_spec_DegreeMod2 q_spec_CountOnes q_spec_TotalInfluence) Try.f48 [.v (.one (.str a0)), .v (.agg [.int .i64 a1, .int .i64 a2])] K = BV_spec_MeasureOf N q_spec_IsTable q_spec_SensitivityOf q_spec_BlockSensitivityOf q_spec_CertificateOf q_spec_LeastDepth q_spec_RealDegree q_spec_DegreeMod2 q_spec_CountOnes q_spec_TotalInfluence a0 a1 a2 (fun z3 => K (.v (.one (.int .i64 z3)))) := by kernel_rfl
theorem e48_0 {β : Type} (N : Nat)  (a0 : ByteArray) (a1 : Int) (a2 : Int) (K : TV → Option β) : evFn lay (E48 N) Try.f48 [.v (.one (.str a0)), .v (.agg [.int .i64 a1, .int .i64 a2])] K = spec_MeasureOf N a0 a1 a2 (fun z3 => K (.v (.one (.int .i64 z3)))) := (ve48_0 N (spec_IsTable N) (spec_SensitivityOf N) (spec_BlockSensitivityOf N) (spec_CertificateOf N) (spec_LeastDepth N) (spec_RealDegree N) (spec_DegreeMod2 N) (spec_CountOnes N) (spec_TotalInfluence N) a0 a1 a2 K).trans (t_spec_MeasureOf N a0 a1 a2 (fun z3 => K (.v (.one (.int .i64 z3))))).symm
theorem o48 {β : Type} (N : Nat) : SpecOK (β := β) Try.prog 48 (S48 N) := by
  refine spec_of lay_ok mixed (E := E48 N) (specs_loops (specs_cons (o69 N) (specs_cons (o95 N) (specs_cons (o96 N) (specs_cons (o97 N) (specs_cons (o98 N) (specs_cons (o99 N) (specs_cons (o100 N) (specs_cons (o101 N) (specs_cons (o102 N) specs_nil)))))))))) muts_nil gs_nil Try.func48 (by kernel_rfl) 0 (by kernel_rfl) trivial fun args K r h => ?_
  unfold S48 VS48 at h
  split at h
  · exact (e48_0 N _ _ _ _).trans h
  · cases h
def VS110 {β : Type} (N : Nat) (q_impl_isBits : (a0 : Int) → (k : Bool → Option β) → Option β) : Rv.Spec β := fun args K => match args with
  | [.v (.one (.int .i64 a0))] => q_impl_isBits a0 (fun z1 => K (.v (.one (.bool z1))))
  | _ => none
def S110 {β : Type} (N : Nat) : Rv.Spec β := VS110 N (impl_isBits N)
def VE110 {β : Type} (N : Nat) : Env β := ⟨[], [], [], []⟩
def E110 {β : Type} (N : Nat) : Env β := VE110 N
def BV_impl_isBits {β : Type} (N : Nat) (a0 : Int) (k : Bool → Option β) : Option β :=
(cond ((decide (a0 ≥ 0)))
(k ((decide (a0 ≤ 5))))
(k false))
theorem t_impl_isBits {β : Type} (N : Nat) (a0 : Int) (k : Bool → Option β) : impl_isBits N a0 k = BV_impl_isBits N a0 k := by
  unfold impl_isBits BV_impl_isBits
  rfl
theorem ve110_0 {β : Type} (N : Nat)  (a0 : Int) (K : TV → Option β) : evFn lay (VE110 N) Try.f110 [.v (.one (.int .i64 a0))] K = BV_impl_isBits N a0 (fun z1 => K (.v (.one (.bool z1)))) := by kernel_rfl
theorem e110_0 {β : Type} (N : Nat)  (a0 : Int) (K : TV → Option β) : evFn lay (E110 N) Try.f110 [.v (.one (.int .i64 a0))] K = impl_isBits N a0 (fun z1 => K (.v (.one (.bool z1)))) := (ve110_0 N a0 K).trans (t_impl_isBits N a0 (fun z1 => K (.v (.one (.bool z1))))).symm
theorem o110 {β : Type} (N : Nat) : SpecOK (β := β) Try.prog 110 (S110 N) := by
  refine spec_of lay_ok mixed (E := E110 N) (specs_loops specs_nil) muts_nil gs_nil Try.func110 (by kernel_rfl) 0 (by kernel_rfl) trivial fun args K r h => ?_
  unfold S110 VS110 at h
  split at h
  · exact (e110_0 N _ _).trans h
  · cases h
def VS82 {β : Type} (N : Nat) (q_impl_Table_size : (a0 : Int) → (a1 : Int) → (k : Int → Option β) → Option β) : Rv.Spec β := fun args K => match args with
  | [.v (.agg [.int .i64 a0, .int .i64 a1])] => q_impl_Table_size a0 a1 (fun z2 => K (.v (.one (.int .i64 z2))))
  | _ => none
def S82 {β : Type} (N : Nat) : Rv.Spec β := VS82 N (impl_Table_size N)
def VE82 {β : Type} (N : Nat) : Env β := ⟨[], [], [], []⟩
def E82 {β : Type} (N : Nat) : Env β := VE82 N
def BV_impl_Table_size {β : Type} (N : Nat) (a0 : Int) (a1 : Int) (k : Int → Option β) : Option β :=
(gd ((decide (0 ≤ a0)))
(k ((shlI .i64 1 a0))))
theorem t_impl_Table_size {β : Type} (N : Nat) (a0 : Int) (a1 : Int) (k : Int → Option β) : impl_Table_size N a0 a1 k = BV_impl_Table_size N a0 a1 k := by
  unfold impl_Table_size BV_impl_Table_size
  rfl
theorem ve82_0 {β : Type} (N : Nat)  (a0 : Int) (a1 : Int) (K : TV → Option β) : evFn lay (VE82 N) Try.f82 [.v (.agg [.int .i64 a0, .int .i64 a1])] K = BV_impl_Table_size N a0 a1 (fun z2 => K (.v (.one (.int .i64 z2)))) := by kernel_rfl
theorem e82_0 {β : Type} (N : Nat)  (a0 : Int) (a1 : Int) (K : TV → Option β) : evFn lay (E82 N) Try.f82 [.v (.agg [.int .i64 a0, .int .i64 a1])] K = impl_Table_size N a0 a1 (fun z2 => K (.v (.one (.int .i64 z2)))) := (ve82_0 N a0 a1 K).trans (t_impl_Table_size N a0 a1 (fun z2 => K (.v (.one (.int .i64 z2))))).symm
theorem o82 {β : Type} (N : Nat) : SpecOK (β := β) Try.prog 82 (S82 N) := by
  refine spec_of lay_ok mixed (E := E82 N) (specs_loops specs_nil) muts_nil gs_nil Try.func82 (by kernel_rfl) 0 (by kernel_rfl) trivial fun args K r h => ?_
  unfold S82 VS82 at h
  split at h
  · exact (e82_0 N _ _ _).trans h
  · cases h
def VS61 {β : Type} (N : Nat) (q_impl_IsTable : (a0 : Int) → (a1 : Int) → (k : Bool → Option β) → Option β) : Rv.Spec β := fun args K => match args with
  | [.v (.agg [.int .i64 a0, .int .i64 a1])] => q_impl_IsTable a0 a1 (fun z2 => K (.v (.one (.bool z2))))
  | _ => none
def S61 {β : Type} (N : Nat) : Rv.Spec β := VS61 N (impl_IsTable N)
def VE61 {β : Type} (N : Nat) (q_impl_isBits : (a0 : Int) → (k : Bool → Option β) → Option β) (q_impl_Table_size : (a0 : Int) → (a1 : Int) → (k : Int → Option β) → Option β) : Env β := ⟨[(110, VS110 N q_impl_isBits), (82, VS82 N q_impl_Table_size)], [], [], []⟩
def E61 {β : Type} (N : Nat) : Env β := VE61 N (impl_isBits N) (impl_Table_size N)
def BV_impl_IsTable {β : Type} (N : Nat) (q_impl_isBits : (a0 : Int) → (k : Bool → Option β) → Option β) (q_impl_Table_size : (a0 : Int) → (a1 : Int) → (k : Int → Option β) → Option β) (a0 : Int) (a1 : Int) (k : Bool → Option β) : Option β :=
q_impl_isBits a0 fun r3 =>
(cond r3
((cond ((decide (a1 ≥ 0)))
(q_impl_Table_size a0 a1 fun r4 =>
(gd ((decide (0 ≤ r4)))
(k (((shrI .i64 a1 r4) == 0)))))
(k false)))
(k false))
theorem t_impl_IsTable {β : Type} (N : Nat) (a0 : Int) (a1 : Int) (k : Bool → Option β) : impl_IsTable N a0 a1 k = BV_impl_IsTable N (impl_isBits N) (impl_Table_size N) a0 a1 k := by
  unfold impl_IsTable BV_impl_IsTable
  rfl
theorem ve61_0 {β : Type} (N : Nat) (q_impl_isBits : (a0 : Int) → (k : Bool → Option β) → Option β) (q_impl_Table_size : (a0 : Int) → (a1 : Int) → (k : Int → Option β) → Option β)  (a0 : Int) (a1 : Int) (K : TV → Option β) : evFn lay (VE61 N q_impl_isBits q_impl_Table_size) Try.f61 [.v (.agg [.int .i64 a0, .int .i64 a1])] K = BV_impl_IsTable N q_impl_isBits q_impl_Table_size a0 a1 (fun z2 => K (.v (.one (.bool z2)))) := by kernel_rfl
theorem e61_0 {β : Type} (N : Nat)  (a0 : Int) (a1 : Int) (K : TV → Option β) : evFn lay (E61 N) Try.f61 [.v (.agg [.int .i64 a0, .int .i64 a1])] K = impl_IsTable N a0 a1 (fun z2 => K (.v (.one (.bool z2)))) := (ve61_0 N (impl_isBits N) (impl_Table_size N) a0 a1 K).trans (t_impl_IsTable N a0 a1 (fun z2 => K (.v (.one (.bool z2))))).symm
theorem o61 {β : Type} (N : Nat) : SpecOK (β := β) Try.prog 61 (S61 N) := by
  refine spec_of lay_ok mixed (E := E61 N) (specs_loops (specs_cons (o110 N) (specs_cons (o82 N) specs_nil))) muts_nil gs_nil Try.func61 (by kernel_rfl) 0 (by kernel_rfl) trivial fun args K r h => ?_
  unfold S61 VS61 at h
  split at h
  · exact (e61_0 N _ _ _).trans h
  · cases h
def VS81 {β : Type} (N : Nat) (q_impl_isSmall : (a0 : Int) → (a1 : Int) → (a2 : Int) → (k : Bool → Option β) → Option β) : Rv.Spec β := fun args K => match args with
  | [.v (.agg [.int .i64 a0, .int .i64 a1]), .v (.one (.int .i64 a2))] => q_impl_isSmall a0 a1 a2 (fun z3 => K (.v (.one (.bool z3))))
  | _ => none
def S81 {β : Type} (N : Nat) : Rv.Spec β := VS81 N (impl_isSmall N)
def VE81 {β : Type} (N : Nat) (q_impl_IsTable : (a0 : Int) → (a1 : Int) → (k : Bool → Option β) → Option β) : Env β := ⟨[(61, VS61 N q_impl_IsTable)], [], [], []⟩
def E81 {β : Type} (N : Nat) : Env β := VE81 N (impl_IsTable N)
def BV_impl_isSmall {β : Type} (N : Nat) (q_impl_IsTable : (a0 : Int) → (a1 : Int) → (k : Bool → Option β) → Option β) (a0 : Int) (a1 : Int) (a2 : Int) (k : Bool → Option β) : Option β :=
q_impl_IsTable a0 a1 fun r4 =>
(cond r4
(k ((decide (a0 ≤ a2))))
(k false))
theorem t_impl_isSmall {β : Type} (N : Nat) (a0 : Int) (a1 : Int) (a2 : Int) (k : Bool → Option β) : impl_isSmall N a0 a1 a2 k = BV_impl_isSmall N (impl_IsTable N) a0 a1 a2 k := by
  unfold impl_isSmall BV_impl_isSmall
  rfl
theorem ve81_0 {β : Type} (N : Nat) (q_impl_IsTable : (a0 : Int) → (a1 : Int) → (k : Bool → Option β) → Option β)  (a0 : Int) (a1 : Int) (a2 : Int) (K : TV → Option β) : evFn lay (VE81 N q_impl_IsTable) Try.f81 [.v (.agg [.int .i64 a0, .int .i64 a1]), .v (.one (.int .i64 a2))] K = BV_impl_isSmall N q_impl_IsTable a0 a1 a2 (fun z3 => K (.v (.one (.bool z3)))) := by kernel_rfl
theorem e81_0 {β : Type} (N : Nat)  (a0 : Int) (a1 : Int) (a2 : Int) (K : TV → Option β) : evFn lay (E81 N) Try.f81 [.v (.agg [.int .i64 a0, .int .i64 a1]), .v (.one (.int .i64 a2))] K = impl_isSmall N a0 a1 a2 (fun z3 => K (.v (.one (.bool z3)))) := (ve81_0 N (impl_IsTable N) a0 a1 a2 K).trans (t_impl_isSmall N a0 a1 a2 (fun z3 => K (.v (.one (.bool z3))))).symm
theorem o81 {β : Type} (N : Nat) : SpecOK (β := β) Try.prog 81 (S81 N) := by
  refine spec_of lay_ok mixed (E := E81 N) (specs_loops (specs_cons (o61 N) specs_nil)) muts_nil gs_nil Try.func81 (by kernel_rfl) 0 (by kernel_rfl) trivial fun args K r h => ?_
  unfold S81 VS81 at h
  split at h
  · exact (e81_0 N _ _ _ _).trans h
  · cases h
def VS120 {β : Type} (N : Nat) (q_impl_Table_at : (a0 : Int) → (a1 : Int) → (a2 : Int) → (k : Int → Option β) → Option β) : Rv.Spec β := fun args K => match args with
  | [.v (.agg [.int .i64 a0, .int .i64 a1]), .v (.one (.int .i64 a2))] => q_impl_Table_at a0 a1 a2 (fun z3 => K (.v (.one (.int .i64 z3))))
  | _ => none
def S120 {β : Type} (N : Nat) : Rv.Spec β := VS120 N (impl_Table_at N)
def VE120 {β : Type} (N : Nat) : Env β := ⟨[], [], [], []⟩
def E120 {β : Type} (N : Nat) : Env β := VE120 N
def BV_impl_Table_at {β : Type} (N : Nat) (a0 : Int) (a1 : Int) (a2 : Int) (k : Int → Option β) : Option β :=
(gd ((decide (0 ≤ a2)))
(k ((bits .and .i64 (shrI .i64 a1 a2) 1))))
theorem t_impl_Table_at {β : Type} (N : Nat) (a0 : Int) (a1 : Int) (a2 : Int) (k : Int → Option β) : impl_Table_at N a0 a1 a2 k = BV_impl_Table_at N a0 a1 a2 k := by
  unfold impl_Table_at BV_impl_Table_at
  rfl
theorem ve120_0 {β : Type} (N : Nat)  (a0 : Int) (a1 : Int) (a2 : Int) (K : TV → Option β) : evFn lay (VE120 N) Try.f120 [.v (.agg [.int .i64 a0, .int .i64 a1]), .v (.one (.int .i64 a2))] K = BV_impl_Table_at N a0 a1 a2 (fun z3 => K (.v (.one (.int .i64 z3)))) := by kernel_rfl
theorem e120_0 {β : Type} (N : Nat)  (a0 : Int) (a1 : Int) (a2 : Int) (K : TV → Option β) : evFn lay (E120 N) Try.f120 [.v (.agg [.int .i64 a0, .int .i64 a1]), .v (.one (.int .i64 a2))] K = impl_Table_at N a0 a1 a2 (fun z3 => K (.v (.one (.int .i64 z3)))) := (ve120_0 N a0 a1 a2 K).trans (t_impl_Table_at N a0 a1 a2 (fun z3 => K (.v (.one (.int .i64 z3))))).symm
theorem o120 {β : Type} (N : Nat) : SpecOK (β := β) Try.prog 120 (S120 N) := by
  refine spec_of lay_ok mixed (E := E120 N) (specs_loops specs_nil) muts_nil gs_nil Try.func120 (by kernel_rfl) 0 (by kernel_rfl) trivial fun args K r h => ?_
  unfold S120 VS120 at h
  split at h
  · exact (e120_0 N _ _ _ _).trans h
  · cases h
def VS115 {β : Type} (N : Nat) (q_impl_Table_changes : (a0 : Int) → (a1 : Int) → (a2 : Int) → (a3 : Int) → (k : Bool → Option β) → Option β) : Rv.Spec β := fun args K => match args with
  | [.v (.agg [.int .i64 a0, .int .i64 a1]), .v (.one (.int .i64 a2)), .v (.one (.int .i64 a3))] => q_impl_Table_changes a0 a1 a2 a3 (fun z4 => K (.v (.one (.bool z4))))
  | _ => none
def S115 {β : Type} (N : Nat) : Rv.Spec β := VS115 N (impl_Table_changes N)
def VE115 {β : Type} (N : Nat) (q_impl_Table_at : (a0 : Int) → (a1 : Int) → (a2 : Int) → (k : Int → Option β) → Option β) : Env β := ⟨[(120, VS120 N q_impl_Table_at)], [], [], []⟩
def E115 {β : Type} (N : Nat) : Env β := VE115 N (impl_Table_at N)
def BV_impl_Table_changes {β : Type} (N : Nat) (q_impl_Table_at : (a0 : Int) → (a1 : Int) → (a2 : Int) → (k : Int → Option β) → Option β) (a0 : Int) (a1 : Int) (a2 : Int) (a3 : Int) (k : Bool → Option β) : Option β :=
q_impl_Table_at a0 a1 a2 fun r5 =>
q_impl_Table_at a0 a1 ((bits .xor .i64 a2 a3)) fun r6 =>
k ((r5 != r6))
theorem t_impl_Table_changes {β : Type} (N : Nat) (a0 : Int) (a1 : Int) (a2 : Int) (a3 : Int) (k : Bool → Option β) : impl_Table_changes N a0 a1 a2 a3 k = BV_impl_Table_changes N (impl_Table_at N) a0 a1 a2 a3 k := by
  unfold impl_Table_changes BV_impl_Table_changes
  rfl
theorem ve115_0 {β : Type} (N : Nat) (q_impl_Table_at : (a0 : Int) → (a1 : Int) → (a2 : Int) → (k : Int → Option β) → Option β)  (a0 : Int) (a1 : Int) (a2 : Int) (a3 : Int) (K : TV → Option β) : evFn lay (VE115 N q_impl_Table_at) Try.f115 [.v (.agg [.int .i64 a0, .int .i64 a1]), .v (.one (.int .i64 a2)), .v (.one (.int .i64 a3))] K = BV_impl_Table_changes N q_impl_Table_at a0 a1 a2 a3 (fun z4 => K (.v (.one (.bool z4)))) := by kernel_rfl
theorem e115_0 {β : Type} (N : Nat)  (a0 : Int) (a1 : Int) (a2 : Int) (a3 : Int) (K : TV → Option β) : evFn lay (E115 N) Try.f115 [.v (.agg [.int .i64 a0, .int .i64 a1]), .v (.one (.int .i64 a2)), .v (.one (.int .i64 a3))] K = impl_Table_changes N a0 a1 a2 a3 (fun z4 => K (.v (.one (.bool z4)))) := (ve115_0 N (impl_Table_at N) a0 a1 a2 a3 K).trans (t_impl_Table_changes N a0 a1 a2 a3 (fun z4 => K (.v (.one (.bool z4))))).symm
theorem o115 {β : Type} (N : Nat) : SpecOK (β := β) Try.prog 115 (S115 N) := by
  refine spec_of lay_ok mixed (E := E115 N) (specs_loops (specs_cons (o120 N) specs_nil)) muts_nil gs_nil Try.func115 (by kernel_rfl) 0 (by kernel_rfl) trivial fun args K r h => ?_
  unfold S115 VS115 at h
  split at h
  · exact (e115_0 N _ _ _ _ _).trans h
  · cases h
def VS91 {β : Type} (N : Nat) (q_impl_Table_sensitivity : (a0 : Int) → (a1 : Int) → (a2 : Int) → (k : Int → Option β) → Option β) : Rv.Spec β := fun args K => match args with
  | [.v (.agg [.int .i64 a0, .int .i64 a1]), .v (.one (.int .i64 a2))] => q_impl_Table_sensitivity a0 a1 a2 (fun z3 => K (.v (.one (.int .i64 z3))))
  | _ => none
def S91 {β : Type} (N : Nat) : Rv.Spec β := VS91 N (impl_Table_sensitivity N)
def h91_0_0  (v0 : Int) (v1 : Int) (v2 : Int) (v3 : Int) (v4 : Int) (v5 : Int) : St := ⟨.v (.one .und) :: .v (.one (.int .i64 v0)) :: .v (.one (.ptr 0 0)) :: .v (.one .und) :: .v (.one .und) :: .v (.one (.int .i64 v1)) :: .v (.one .und) :: .v (.one .und) :: .v (.one (.int .i64 v2)) :: .v (.one (.int .i64 v3)) :: .v (.one .und) :: .v (.one .und) :: .v (.one .und) :: .v (.one .und) :: .v (.one .und) :: .v (.one .und) :: .v (.one .und) :: .v (.one .und) :: .v (.one .und) :: .v (.one .und) :: .v (.one .und) :: [], [.cells 25 [.int .i64 v4, .int .i64 v5]]⟩
def x91_0_0_k0  (y0 : Int) : St := ⟨.v (.one .und) :: .v (.one .und) :: .v (.one .und) :: .v (.one .und) :: .v (.one .und) :: .v (.one (.int .i64 y0)) :: .v (.one .und) :: .v (.one .und) :: .v (.one .und) :: .v (.one .und) :: .v (.one .und) :: .v (.one .und) :: .v (.one .und) :: .v (.one .und) :: .v (.one .und) :: .v (.one .und) :: .v (.one .und) :: .v (.one .und) :: .v (.one .und) :: .v (.one .und) :: .v (.one .und) :: [], []⟩
theorem fl91_0_0 (s : St) : refSt (h91_0_0 0 0 0 0 0 0) s = h91_0_0 (intS (oneA (vT (nx tund s.tmps 1)))) (intS (oneA (vT (nx tund s.tmps 5)))) (intS (oneA (vT (nx tund s.tmps 8)))) (intS (oneA (vT (nx tund s.tmps 9)))) (intS (nx .und (cellsB (nx .dead s.blks 0)) 0)) (intS (nx .und (cellsB (nx .dead s.blks 0)) 1)) := by kernel_rfl
def VLS91_0 {β : Type} (N : Nat) (q_impl_Table_sensitivity_l0 : Nat → Int → Int → Int → Int → Int → Int → (Int → Option β) → Option β) : LSpec β := fun s K => cond (shpSt (h91_0_0 0 0 0 0 0 0) s) ((fun (v0 : Int) (v1 : Int) (v2 : Int) (v3 : Int) (v4 : Int) (v5 : Int) => q_impl_Table_sensitivity_l0  N v0 v1 v2 v3 v4 v5 (fun y0 => K (.exit 0) (x91_0_0_k0  y0))) (intS (oneA (vT (nx tund s.tmps 1)))) (intS (oneA (vT (nx tund s.tmps 5)))) (intS (oneA (vT (nx tund s.tmps 8)))) (intS (oneA (vT (nx tund s.tmps 9)))) (intS (nx .und (cellsB (nx .dead s.blks 0)) 0)) (intS (nx .und (cellsB (nx .dead s.blks 0)) 1))) (none)
def LS91_0 {β : Type} (N : Nat) : LSpec β := VLS91_0 N (impl_Table_sensitivity_l0 N)
def VE91 {β : Type} (N : Nat) (q_impl_Table_changes : (a0 : Int) → (a1 : Int) → (a2 : Int) → (a3 : Int) → (k : Bool → Option β) → Option β) (q_impl_Table_sensitivity_l0 : Nat → Int → Int → Int → Int → Int → Int → (Int → Option β) → Option β) : Env β := ⟨[(115, VS115 N q_impl_Table_changes)], [], [(0, VLS91_0 N q_impl_Table_sensitivity_l0)], []⟩
def E91 {β : Type} (N : Nat) : Env β := VE91 N (impl_Table_changes N) (impl_Table_sensitivity_l0 N)
def BV_impl_Table_sensitivity_l0b {β : Type} (N : Nat) (q_impl_Table_changes : (a0 : Int) → (a1 : Int) → (a2 : Int) → (a3 : Int) → (k : Bool → Option β) → Option β)  (v0 : Int) (v1 : Int) (v2 : Int) (v3 : Int) (v4 : Int) (v5 : Int) (rec_ : Int → Int → Int → Int → Int → Int → Option β) (k0 : Int → Option β) : Option β :=
(cond ((decide (v3 < v2)))
((gd ((decide (0 ≤ v3)))
(q_impl_Table_changes v4 v5 v0 ((shlI .i64 1 v3)) fun r4 =>
(cond r4
(rec_ v0 ((w64 (v1 + 1))) v2 ((w64 (v3 + 1))) v4 v5)
(rec_ v0 v1 v2 ((w64 (v3 + 1))) v4 v5)))))
(k0 v1))
theorem t_impl_Table_sensitivity_l0b {β : Type} (N : Nat)  (v0 : Int) (v1 : Int) (v2 : Int) (v3 : Int) (v4 : Int) (v5 : Int) (rec_ : Int → Int → Int → Int → Int → Int → Option β) (k0 : Int → Option β) : impl_Table_sensitivity_l0b N v0 v1 v2 v3 v4 v5 rec_ k0 = BV_impl_Table_sensitivity_l0b N (impl_Table_changes N) v0 v1 v2 v3 v4 v5 rec_ k0 := by
  unfold impl_Table_sensitivity_l0b BV_impl_Table_sensitivity_l0b
  rfl
theorem vst91_0_0 {β : Type} (N : Nat) (q_impl_Table_changes : (a0 : Int) → (a1 : Int) → (a2 : Int) → (a3 : Int) → (k : Bool → Option β) → Option β) (q_impl_Table_sensitivity_l0 : Nat → Int → Int → Int → Int → Int → Int → (Int → Option β) → Option β)  (v0 : Int) (v1 : Int) (v2 : Int) (v3 : Int) (v4 : Int) (v5 : Int) (rec_ : St → Option β) (K : Exit → St → Option β) :
    ev lay (VE91 N q_impl_Table_changes q_impl_Table_sensitivity_l0) (retMask Try.f91) (lp Try.f91 0).body (lp Try.f91 0).ex ((lp Try.f91 0).lv (retMask Try.f91)) (h91_0_0  v0 v1 v2 v3 v4 v5) (nextR (fun s' => rec_ (s'.tidy ((lp Try.f91 0).lv (retMask Try.f91)))) K) = BV_impl_Table_sensitivity_l0b N q_impl_Table_changes  v0 v1 v2 v3 v4 v5 (fun v0 v1 v2 v3 v4 v5 => rec_ (h91_0_0  v0 v1 v2 v3 v4 v5)) (fun y0 => K (.exit 0) (x91_0_0_k0  y0)) := by kernel_rfl
theorem st91_0_0 {β : Type} (N : Nat)  (v0 : Int) (v1 : Int) (v2 : Int) (v3 : Int) (v4 : Int) (v5 : Int) (rec_ : St → Option β) (K : Exit → St → Option β) :
    ev lay (E91 N) (retMask Try.f91) (lp Try.f91 0).body (lp Try.f91 0).ex ((lp Try.f91 0).lv (retMask Try.f91)) (h91_0_0  v0 v1 v2 v3 v4 v5) (nextR (fun s' => rec_ (s'.tidy ((lp Try.f91 0).lv (retMask Try.f91)))) K) = impl_Table_sensitivity_l0b N  v0 v1 v2 v3 v4 v5 (fun v0 v1 v2 v3 v4 v5 => rec_ (h91_0_0  v0 v1 v2 v3 v4 v5)) (fun y0 => K (.exit 0) (x91_0_0_k0  y0)) := (vst91_0_0 N (impl_Table_changes N) (impl_Table_sensitivity_l0 N) v0 v1 v2 v3 v4 v5 rec_ K).trans (t_impl_Table_sensitivity_l0b N  v0 v1 v2 v3 v4 v5 (fun v0 v1 v2 v3 v4 v5 => rec_ (h91_0_0  v0 v1 v2 v3 v4 v5)) (fun y0 => K (.exit 0) (x91_0_0_k0  y0))).symm
theorem ro91_0_0 {β : Type} (N : Nat)  (K : Exit → St → Option β) : ∀ (F : Nat) (v0 : Int) (v1 : Int) (v2 : Int) (v3 : Int) (v4 : Int) (v5 : Int), (lp Try.f91 0).rounds lay (E91 N) (retMask Try.f91) F (h91_0_0  v0 v1 v2 v3 v4 v5) K = impl_Table_sensitivity_l0 N  F v0 v1 v2 v3 v4 v5 (fun y0 => K (.exit 0) (x91_0_0_k0  y0)) := by
  intro F
  induction F with
  | zero => intros; rfl
  | succ F ih =>
    intros
    rw [rounds_next]
    refine (st91_0_0 N  _ _ _ _ _ _ (fun s => (lp Try.f91 0).rounds lay (E91 N) (retMask Try.f91) F s K) K).trans ?_
    simp only [ih]
    rfl
theorem lk91_0 {β : Type} (N : Nat) : lookL (E91 (β := β) N).loops (lp Try.f91 0).id = LS91_0 N := by kernel_rfl
theorem rk91_0 {β : Type} (N : Nat) : RoundsOK lay (E91 (β := β) N) (retMask Try.f91) (lp Try.f91 0) := by
  intro s K r h
  rw [lk91_0] at h
  unfold LS91_0 VLS91_0 at h
  cases hb : shpSt (h91_0_0 0 0 0 0 0 0) s with
  | true =>
    rw [hb, cond_true] at h
    exact ⟨N, by rw [← shpSt_ref hb, fl91_0_0 s]; exact (ro91_0_0 N  K N (intS (oneA (vT (nx tund s.tmps 1)))) (intS (oneA (vT (nx tund s.tmps 5)))) (intS (oneA (vT (nx tund s.tmps 8)))) (intS (oneA (vT (nx tund s.tmps 9)))) (intS (nx .und (cellsB (nx .dead s.blks 0)) 0)) (intS (nx .und (cellsB (nx .dead s.blks 0)) 1))).trans h⟩
  | false =>
  rw [hb, cond_false] at h
  clear hb
  cases h
def BV_impl_Table_sensitivity {β : Type} (N : Nat) (q_impl_Table_sensitivity_l0 : Nat → Int → Int → Int → Int → Int → Int → (Int → Option β) → Option β) (a0 : Int) (a1 : Int) (a2 : Int) (k : Int → Option β) : Option β :=
q_impl_Table_sensitivity_l0  N a2 0 a0 0 a0 a1 (fun e5_0 =>
k e5_0)
theorem t_impl_Table_sensitivity {β : Type} (N : Nat) (a0 : Int) (a1 : Int) (a2 : Int) (k : Int → Option β) : impl_Table_sensitivity N a0 a1 a2 k = BV_impl_Table_sensitivity N (impl_Table_sensitivity_l0 N) a0 a1 a2 k := by
  unfold impl_Table_sensitivity BV_impl_Table_sensitivity
  rfl
theorem ve91_0 {β : Type} (N : Nat) (q_impl_Table_changes : (a0 : Int) → (a1 : Int) → (a2 : Int) → (a3 : Int) → (k : Bool → Option β) → Option β) (q_impl_Table_sensitivity_l0 : Nat → Int → Int → Int → Int → Int → Int → (Int → Option β) → Option β)  (a0 : Int) (a1 : Int) (a2 : Int) (K : TV → Option β) : evFn lay (VE91 N q_impl_Table_changes q_impl_Table_sensitivity_l0) Try.f91 [.v (.agg [.int .i64 a0, .int .i64 a1]), .v (.one (.int .i64 a2))] K = BV_impl_Table_sensitivity N q_impl_Table_sensitivity_l0 a0 a1 a2 (fun z3 => K (.v (.one (.int .i64 z3)))) := by kernel_rfl
theorem e91_0 {β : Type} (N : Nat)  (a0 : Int) (a1 : Int) (a2 : Int) (K : TV → Option β) : evFn lay (E91 N) Try.f91 [.v (.agg [.int .i64 a0, .int .i64 a1]), .v (.one (.int .i64 a2))] K = impl_Table_sensitivity N a0 a1 a2 (fun z3 => K (.v (.one (.int .i64 z3)))) := (ve91_0 N (impl_Table_changes N) (impl_Table_sensitivity_l0 N) a0 a1 a2 K).trans (t_impl_Table_sensitivity N a0 a1 a2 (fun z3 => K (.v (.one (.int .i64 z3))))).symm
theorem o91 {β : Type} (N : Nat) : SpecOK (β := β) Try.prog 91 (S91 N) := by
  refine spec_of lay_ok mixed (E := E91 N) (specs_loops (specs_cons (o115 N) specs_nil)) muts_nil gs_nil Try.func91 (by kernel_rfl) 1 (by kernel_rfl) ⟨trivial, rk91_0 N⟩ fun args K r h => ?_
  unfold S91 VS91 at h
  split at h
  · exact (e91_0 N _ _ _ _).trans h
  · cases h
def VS129 {β : Type} (N : Nat) (q_impl_SensitivityOf : (a0 : Int) → (a1 : Int) → (k : Int → Option β) → Option β) : Rv.Spec β := fun args K => match args with
  | [.v (.agg [.int .i64 a0, .int .i64 a1])] => q_impl_SensitivityOf a0 a1 (fun z2 => K (.v (.one (.int .i64 z2))))
  | _ => none
def S129 {β : Type} (N : Nat) : Rv.Spec β := VS129 N (impl_SensitivityOf N)
def h129_0_0  (v0 : Int) (v1 : Int) (v2 : Int) (v3 : Int) (v4 : Int) : St := ⟨.v (.one .und) :: .v (.one (.ptr 0 0)) :: .v (.one .und) :: .v (.one (.int .i64 v0)) :: .v (.one .und) :: .v (.one .und) :: .v (.one .und) :: .v (.one .und) :: .v (.one .und) :: .v (.one (.int .i64 v1)) :: .v (.one (.int .i64 v2)) :: .v (.one .und) :: .v (.one .und) :: .v (.one .und) :: .v (.one .und) :: .v (.one .und) :: .v (.one .und) :: .v (.one .und) :: .v (.one .und) :: .v (.one .und) :: [], [.cells 25 [.int .i64 v3, .int .i64 v4]]⟩
def x129_0_0_k0  (y0 : Int) : St := ⟨.v (.one .und) :: .v (.one .und) :: .v (.one .und) :: .v (.one (.int .i64 y0)) :: .v (.one .und) :: .v (.one .und) :: .v (.one .und) :: .v (.one .und) :: .v (.one .und) :: .v (.one .und) :: .v (.one .und) :: .v (.one .und) :: .v (.one .und) :: .v (.one .und) :: .v (.one .und) :: .v (.one .und) :: .v (.one .und) :: .v (.one .und) :: .v (.one .und) :: .v (.one .und) :: [], []⟩
theorem fl129_0_0 (s : St) : refSt (h129_0_0 0 0 0 0 0) s = h129_0_0 (intS (oneA (vT (nx tund s.tmps 3)))) (intS (oneA (vT (nx tund s.tmps 9)))) (intS (oneA (vT (nx tund s.tmps 10)))) (intS (nx .und (cellsB (nx .dead s.blks 0)) 0)) (intS (nx .und (cellsB (nx .dead s.blks 0)) 1)) := by kernel_rfl
def VLS129_0 {β : Type} (N : Nat) (q_impl_SensitivityOf_l0 : Nat → Int → Int → Int → Int → Int → (Int → Option β) → Option β) : LSpec β := fun s K => cond (shpSt (h129_0_0 0 0 0 0 0) s) ((fun (v0 : Int) (v1 : Int) (v2 : Int) (v3 : Int) (v4 : Int) => q_impl_SensitivityOf_l0  N v0 v1 v2 v3 v4 (fun y0 => K (.exit 0) (x129_0_0_k0  y0))) (intS (oneA (vT (nx tund s.tmps 3)))) (intS (oneA (vT (nx tund s.tmps 9)))) (intS (oneA (vT (nx tund s.tmps 10)))) (intS (nx .und (cellsB (nx .dead s.blks 0)) 0)) (intS (nx .und (cellsB (nx .dead s.blks 0)) 1))) (none)
def LS129_0 {β : Type} (N : Nat) : LSpec β := VLS129_0 N (impl_SensitivityOf_l0 N)
def VE129 {β : Type} (N : Nat) (q_impl_IsTable : (a0 : Int) → (a1 : Int) → (k : Bool → Option β) → Option β) (q_impl_Table_size : (a0 : Int) → (a1 : Int) → (k : Int → Option β) → Option β) (q_impl_Table_sensitivity : (a0 : Int) → (a1 : Int) → (a2 : Int) → (k : Int → Option β) → Option β) (q_impl_SensitivityOf_l0 : Nat → Int → Int → Int → Int → Int → (Int → Option β) → Option β) : Env β := ⟨[(61, VS61 N q_impl_IsTable), (82, VS82 N q_impl_Table_size), (91, VS91 N q_impl_Table_sensitivity)], [], [(0, VLS129_0 N q_impl_SensitivityOf_l0)], []⟩
def E129 {β : Type} (N : Nat) : Env β := VE129 N (impl_IsTable N) (impl_Table_size N) (impl_Table_sensitivity N) (impl_SensitivityOf_l0 N)
def BV_impl_SensitivityOf_l0b {β : Type} (N : Nat) (q_impl_Table_sensitivity : (a0 : Int) → (a1 : Int) → (a2 : Int) → (k : Int → Option β) → Option β)  (v0 : Int) (v1 : Int) (v2 : Int) (v3 : Int) (v4 : Int) (rec_ : Int → Int → Int → Int → Int → Option β) (k0 : Int → Option β) : Option β :=
(cond ((decide (v2 < v1)))
(q_impl_Table_sensitivity v3 v4 v2 fun r5 =>
rec_ ((mxI v0 r5)) v1 ((w64 (v2 + 1))) v3 v4)
(k0 v0))
theorem t_impl_SensitivityOf_l0b {β : Type} (N : Nat)  (v0 : Int) (v1 : Int) (v2 : Int) (v3 : Int) (v4 : Int) (rec_ : Int → Int → Int → Int → Int → Option β) (k0 : Int → Option β) : impl_SensitivityOf_l0b N v0 v1 v2 v3 v4 rec_ k0 = BV_impl_SensitivityOf_l0b N (impl_Table_sensitivity N) v0 v1 v2 v3 v4 rec_ k0 := by
  unfold impl_SensitivityOf_l0b BV_impl_SensitivityOf_l0b
  rfl
theorem vst129_0_0 {β : Type} (N : Nat) (q_impl_IsTable : (a0 : Int) → (a1 : Int) → (k : Bool → Option β) → Option β) (q_impl_Table_size : (a0 : Int) → (a1 : Int) → (k : Int → Option β) → Option β) (q_impl_Table_sensitivity : (a0 : Int) → (a1 : Int) → (a2 : Int) → (k : Int → Option β) → Option β) (q_impl_SensitivityOf_l0 : Nat → Int → Int → Int → Int → Int → (Int → Option β) → Option β)  (v0 : Int) (v1 : Int) (v2 : Int) (v3 : Int) (v4 : Int) (rec_ : St → Option β) (K : Exit → St → Option β) :
    ev lay (VE129 N q_impl_IsTable q_impl_Table_size q_impl_Table_sensitivity q_impl_SensitivityOf_l0) (retMask Try.f129) (lp Try.f129 0).body (lp Try.f129 0).ex ((lp Try.f129 0).lv (retMask Try.f129)) (h129_0_0  v0 v1 v2 v3 v4) (nextR (fun s' => rec_ (s'.tidy ((lp Try.f129 0).lv (retMask Try.f129)))) K) = BV_impl_SensitivityOf_l0b N q_impl_Table_sensitivity  v0 v1 v2 v3 v4 (fun v0 v1 v2 v3 v4 => rec_ (h129_0_0  v0 v1 v2 v3 v4)) (fun y0 => K (.exit 0) (x129_0_0_k0  y0)) := by kernel_rfl
theorem st129_0_0 {β : Type} (N : Nat)  (v0 : Int) (v1 : Int) (v2 : Int) (v3 : Int) (v4 : Int) (rec_ : St → Option β) (K : Exit → St → Option β) :
    ev lay (E129 N) (retMask Try.f129) (lp Try.f129 0).body (lp Try.f129 0).ex ((lp Try.f129 0).lv (retMask Try.f129)) (h129_0_0  v0 v1 v2 v3 v4) (nextR (fun s' => rec_ (s'.tidy ((lp Try.f129 0).lv (retMask Try.f129)))) K) = impl_SensitivityOf_l0b N  v0 v1 v2 v3 v4 (fun v0 v1 v2 v3 v4 => rec_ (h129_0_0  v0 v1 v2 v3 v4)) (fun y0 => K (.exit 0) (x129_0_0_k0  y0)) := (vst129_0_0 N (impl_IsTable N) (impl_Table_size N) (impl_Table_sensitivity N) (impl_SensitivityOf_l0 N) v0 v1 v2 v3 v4 rec_ K).trans (t_impl_SensitivityOf_l0b N  v0 v1 v2 v3 v4 (fun v0 v1 v2 v3 v4 => rec_ (h129_0_0  v0 v1 v2 v3 v4)) (fun y0 => K (.exit 0) (x129_0_0_k0  y0))).symm
theorem ro129_0_0 {β : Type} (N : Nat)  (K : Exit → St → Option β) : ∀ (F : Nat) (v0 : Int) (v1 : Int) (v2 : Int) (v3 : Int) (v4 : Int), (lp Try.f129 0).rounds lay (E129 N) (retMask Try.f129) F (h129_0_0  v0 v1 v2 v3 v4) K = impl_SensitivityOf_l0 N  F v0 v1 v2 v3 v4 (fun y0 => K (.exit 0) (x129_0_0_k0  y0)) := by
  intro F
  induction F with
  | zero => intros; rfl
  | succ F ih =>
    intros
    rw [rounds_next]
    refine (st129_0_0 N  _ _ _ _ _ (fun s => (lp Try.f129 0).rounds lay (E129 N) (retMask Try.f129) F s K) K).trans ?_
    simp only [ih]
    rfl
theorem lk129_0 {β : Type} (N : Nat) : lookL (E129 (β := β) N).loops (lp Try.f129 0).id = LS129_0 N := by kernel_rfl
theorem rk129_0 {β : Type} (N : Nat) : RoundsOK lay (E129 (β := β) N) (retMask Try.f129) (lp Try.f129 0) := by
  intro s K r h
  rw [lk129_0] at h
  unfold LS129_0 VLS129_0 at h
  cases hb : shpSt (h129_0_0 0 0 0 0 0) s with
  | true =>
    rw [hb, cond_true] at h
    exact ⟨N, by rw [← shpSt_ref hb, fl129_0_0 s]; exact (ro129_0_0 N  K N (intS (oneA (vT (nx tund s.tmps 3)))) (intS (oneA (vT (nx tund s.tmps 9)))) (intS (oneA (vT (nx tund s.tmps 10)))) (intS (nx .und (cellsB (nx .dead s.blks 0)) 0)) (intS (nx .und (cellsB (nx .dead s.blks 0)) 1))).trans h⟩
  | false =>
  rw [hb, cond_false] at h
  clear hb
  cases h
def BV_impl_SensitivityOf {β : Type} (N : Nat) (q_impl_IsTable : (a0 : Int) → (a1 : Int) → (k : Bool → Option β) → Option β) (q_impl_Table_size : (a0 : Int) → (a1 : Int) → (k : Int → Option β) → Option β) (q_impl_SensitivityOf_l0 : Nat → Int → Int → Int → Int → Int → (Int → Option β) → Option β) (a0 : Int) (a1 : Int) (k : Int → Option β) : Option β :=
q_impl_IsTable a0 a1 fun r3 =>
(cond (!r3)
(k (-1))
(q_impl_Table_size a0 a1 fun r4 =>
q_impl_SensitivityOf_l0  N 0 r4 0 a0 a1 (fun e6_0 =>
k e6_0)))
theorem t_impl_SensitivityOf {β : Type} (N : Nat) (a0 : Int) (a1 : Int) (k : Int → Option β) : impl_SensitivityOf N a0 a1 k = BV_impl_SensitivityOf N (impl_IsTable N) (impl_Table_size N) (impl_SensitivityOf_l0 N) a0 a1 k := by
  unfold impl_SensitivityOf BV_impl_SensitivityOf
  rfl
theorem ve129_0 {β : Type} (N : Nat) (q_impl_IsTable : (a0 : Int) → (a1 : Int) → (k : Bool → Option β) → Option β) (q_impl_Table_size : (a0 : Int) → (a1 : Int) → (k : Int → Option β) → Option β) (q_impl_Table_sensitivity : (a0 : Int) → (a1 : Int) → (a2 : Int) → (k : Int → Option β) → Option β) (q_impl_SensitivityOf_l0 : Nat → Int → Int → Int → Int → Int → (Int → Option β) → Option β)  (a0 : Int) (a1 : Int) (K : TV → Option β) : evFn lay (VE129 N q_impl_IsTable q_impl_Table_size q_impl_Table_sensitivity q_impl_SensitivityOf_l0) Try.f129 [.v (.agg [.int .i64 a0, .int .i64 a1])] K = BV_impl_SensitivityOf N q_impl_IsTable q_impl_Table_size q_impl_SensitivityOf_l0 a0 a1 (fun z2 => K (.v (.one (.int .i64 z2)))) := by kernel_rfl
theorem e129_0 {β : Type} (N : Nat)  (a0 : Int) (a1 : Int) (K : TV → Option β) : evFn lay (E129 N) Try.f129 [.v (.agg [.int .i64 a0, .int .i64 a1])] K = impl_SensitivityOf N a0 a1 (fun z2 => K (.v (.one (.int .i64 z2)))) := (ve129_0 N (impl_IsTable N) (impl_Table_size N) (impl_Table_sensitivity N) (impl_SensitivityOf_l0 N) a0 a1 K).trans (t_impl_SensitivityOf N a0 a1 (fun z2 => K (.v (.one (.int .i64 z2))))).symm
theorem o129 {β : Type} (N : Nat) : SpecOK (β := β) Try.prog 129 (S129 N) := by
  refine spec_of lay_ok mixed (E := E129 N) (specs_loops (specs_cons (o61 N) (specs_cons (o82 N) (specs_cons (o91 N) specs_nil)))) muts_nil gs_nil Try.func129 (by kernel_rfl) 1 (by kernel_rfl) ⟨trivial, rk129_0 N⟩ fun args K r h => ?_
  unfold S129 VS129 at h
  split at h
  · exact (e129_0 N _ _ _).trans h
  · cases h
def VS155 {β : Type} (N : Nat) (q_impl_Table_blocks : (a0 : Int) → (a1 : Int) → (a2 : Int) → (k : List Int → Option β) → Option β) : Rv.Spec β := fun args K => match args with
  | [.v (.agg [.int .i64 a0, .int .i64 a1]), .v (.one (.int .i64 a2))] => q_impl_Table_blocks a0 a1 a2 (fun z3 => K (.v (.one (.sl 3 (.ints .i64 z3)))))
  | _ => none
def S155 {β : Type} (N : Nat) : Rv.Spec β := VS155 N (impl_Table_blocks N)
def h155_0_0  (v0 : Int) (v1 : Int) (v2 : Int) (v3 : Int) (v4 : Int) (v5 : List Int) : St := ⟨.v (.one .und) :: .v (.one (.int .i64 v0)) :: .v (.one (.ptr 0 0)) :: .v (.one .und) :: .v (.one .und) :: .v (.one (.row 1)) :: .v (.one .und) :: .v (.one .und) :: .v (.one .und) :: .v (.one .und) :: .v (.one (.int .i64 v1)) :: .v (.one (.int .i64 v2)) :: .v (.one .und) :: .v (.one .und) :: .v (.one .und) :: .v (.one .und) :: .v (.one .und) :: .v (.one .und) :: .v (.one .und) :: .v (.one .und) :: .v (.one .und) :: .v (.one .und) :: .v (.one .und) :: .v (.one .und) :: .v (.one .und) :: .v (.one .und) :: .v (.one .und) :: .v (.one .und) :: .v (.one .und) :: .v (.one .und) :: .v (.one .und) :: .v (.one .und) :: .v (.one .und) :: .v (.one .und) :: .v (.one .und) :: .v (.one .und) :: .v (.one .und) :: .v (.one .und) :: .v (.one .und) :: .v (.one .und) :: .v (.one .und) :: .v (.one .und) :: .v (.one .und) :: [], [.cells 25 [.int .i64 v3, .int .i64 v4], .row 3 (.ints .i64 v5)]⟩
def x155_0_0_k0  (y0 : List Int) : St := ⟨.v (.one .und) :: .v (.one .und) :: .v (.one .und) :: .v (.one .und) :: .v (.one .und) :: .v (.one (.row 0)) :: .v (.one .und) :: .v (.one .und) :: .v (.one .und) :: .v (.one .und) :: .v (.one .und) :: .v (.one .und) :: .v (.one .und) :: .v (.one .und) :: .v (.one .und) :: .v (.one .und) :: .v (.one .und) :: .v (.one .und) :: .v (.one .und) :: .v (.one .und) :: .v (.one .und) :: .v (.one .und) :: .v (.one .und) :: .v (.one .und) :: .v (.one .und) :: .v (.one .und) :: .v (.one .und) :: .v (.one .und) :: .v (.one .und) :: .v (.one .und) :: .v (.one .und) :: .v (.one .und) :: .v (.one .und) :: .v (.one .und) :: .v (.one .und) :: .v (.one .und) :: .v (.one .und) :: .v (.one .und) :: .v (.one .und) :: .v (.one .und) :: .v (.one .und) :: .v (.one .und) :: .v (.one .und) :: [], [.row 3 (.ints .i64 y0)]⟩
def h155_1_0  (v0 : Int) (v1 : Int) (v2 : Bool) (v3 : Int) (v4 : Int) (v5 : Int) (v6 : Int) (v7 : Int) (v8 : List Int) : St := ⟨.v (.one .und) :: .v (.one (.int .i64 v0)) :: .v (.one (.ptr 0 0)) :: .v (.one .und) :: .v (.one .und) :: .v (.one (.row 1)) :: .v (.one (.int .i64 v1)) :: .v (.one (.bool v2)) :: .v (.one (.int .i64 v3)) :: .v (.one .und) :: .v (.one (.int .i64 v4)) :: .v (.one (.int .i64 v5)) :: .v (.one .und) :: .v (.one .und) :: .v (.one .und) :: .v (.one .und) :: .v (.one .und) :: .v (.one .und) :: .v (.one .und) :: .v (.one .und) :: .v (.one .und) :: .v (.one .und) :: .v (.one .und) :: .v (.one .und) :: .v (.one .und) :: .v (.one .und) :: .v (.one .und) :: .v (.one .und) :: .v (.one .und) :: .v (.one .und) :: .v (.one .und) :: .v (.one .und) :: .v (.one .und) :: .v (.one .und) :: .v (.one .und) :: .v (.one .und) :: .v (.one .und) :: .v (.one .und) :: .v (.one .und) :: .v (.one .und) :: .v (.one .und) :: .v (.one .und) :: .v (.one .und) :: [], [.cells 25 [.int .i64 v6, .int .i64 v7], .row 3 (.ints .i64 v8)]⟩
def x155_1_0_k0  (y0 : Int) (y1 : Int) (y2 : Bool) (y3 : Int) (y4 : Int) (y5 : Int) (y6 : Int) (y7 : List Int) : St := ⟨.v (.one .und) :: .v (.one (.int .i64 y0)) :: .v (.one (.ptr 0 0)) :: .v (.one .und) :: .v (.one .und) :: .v (.one (.row 1)) :: .v (.one (.int .i64 y1)) :: .v (.one (.bool y2)) :: .v (.one .und) :: .v (.one .und) :: .v (.one (.int .i64 y3)) :: .v (.one (.int .i64 y4)) :: .v (.one .und) :: .v (.one .und) :: .v (.one .und) :: .v (.one .und) :: .v (.one .und) :: .v (.one .und) :: .v (.one .und) :: .v (.one .und) :: .v (.one .und) :: .v (.one .und) :: .v (.one .und) :: .v (.one .und) :: .v (.one .und) :: .v (.one .und) :: .v (.one .und) :: .v (.one .und) :: .v (.one .und) :: .v (.one .und) :: .v (.one .und) :: .v (.one .und) :: .v (.one .und) :: .v (.one .und) :: .v (.one .und) :: .v (.one .und) :: .v (.one .und) :: .v (.one .und) :: .v (.one .und) :: .v (.one .und) :: .v (.one .und) :: .v (.one .und) :: .v (.one .und) :: [], [.cells 25 [.int .i64 y5, .int .i64 y6], .row 3 (.ints .i64 y7)]⟩
theorem fl155_0_0 (s : St) : refSt (h155_0_0 0 0 0 0 0 []) s = h155_0_0 (intS (oneA (vT (nx tund s.tmps 1)))) (intS (oneA (vT (nx tund s.tmps 10)))) (intS (oneA (vT (nx tund s.tmps 11)))) (intS (nx .und (cellsB (nx .dead s.blks 0)) 0)) (intS (nx .und (cellsB (nx .dead s.blks 0)) 1)) (rInts (rowB_ (nx .dead s.blks 1))) := by kernel_rfl
def VLS155_0 {β : Type} (N : Nat) (q_impl_Table_blocks_l0 : Nat → Int → Int → Int → Int → Int → List Int → (List Int → Option β) → Option β) : LSpec β := fun s K => cond (shpSt (h155_0_0 0 0 0 0 0 []) s) ((fun (v0 : Int) (v1 : Int) (v2 : Int) (v3 : Int) (v4 : Int) (v5 : List Int) => q_impl_Table_blocks_l0  N v0 v1 v2 v3 v4 v5 (fun y0 => K (.exit 0) (x155_0_0_k0  y0))) (intS (oneA (vT (nx tund s.tmps 1)))) (intS (oneA (vT (nx tund s.tmps 10)))) (intS (oneA (vT (nx tund s.tmps 11)))) (intS (nx .und (cellsB (nx .dead s.blks 0)) 0)) (intS (nx .und (cellsB (nx .dead s.blks 0)) 1)) (rInts (rowB_ (nx .dead s.blks 1)))) (none)
def LS155_0 {β : Type} (N : Nat) : LSpec β := VLS155_0 N (impl_Table_blocks_l0 N)
theorem fl155_1_0 (s : St) : refSt (h155_1_0 0 0 false 0 0 0 0 0 []) s = h155_1_0 (intS (oneA (vT (nx tund s.tmps 1)))) (intS (oneA (vT (nx tund s.tmps 6)))) (boolS (oneA (vT (nx tund s.tmps 7)))) (intS (oneA (vT (nx tund s.tmps 8)))) (intS (oneA (vT (nx tund s.tmps 10)))) (intS (oneA (vT (nx tund s.tmps 11)))) (intS (nx .und (cellsB (nx .dead s.blks 0)) 0)) (intS (nx .und (cellsB (nx .dead s.blks 0)) 1)) (rInts (rowB_ (nx .dead s.blks 1))) := by kernel_rfl
def VLS155_2 {β : Type} (N : Nat) (q_impl_Table_blocks_l2 : Nat → Int → Int → Bool → Int → Int → Int → Int → Int → List Int → (Int → Int → Bool → Int → Int → Int → Int → List Int → Option β) → Option β) : LSpec β := fun s K => cond (shpSt (h155_1_0 0 0 false 0 0 0 0 0 []) s) ((fun (v0 : Int) (v1 : Int) (v2 : Bool) (v3 : Int) (v4 : Int) (v5 : Int) (v6 : Int) (v7 : Int) (v8 : List Int) => q_impl_Table_blocks_l2  N v0 v1 v2 v3 v4 v5 v6 v7 v8 (fun y0 y1 y2 y3 y4 y5 y6 y7 => K (.exit 2) (x155_1_0_k0  y0 y1 y2 y3 y4 y5 y6 y7))) (intS (oneA (vT (nx tund s.tmps 1)))) (intS (oneA (vT (nx tund s.tmps 6)))) (boolS (oneA (vT (nx tund s.tmps 7)))) (intS (oneA (vT (nx tund s.tmps 8)))) (intS (oneA (vT (nx tund s.tmps 10)))) (intS (oneA (vT (nx tund s.tmps 11)))) (intS (nx .und (cellsB (nx .dead s.blks 0)) 0)) (intS (nx .und (cellsB (nx .dead s.blks 0)) 1)) (rInts (rowB_ (nx .dead s.blks 1)))) (none)
def LS155_2 {β : Type} (N : Nat) : LSpec β := VLS155_2 N (impl_Table_blocks_l2 N)
def VE155 {β : Type} (N : Nat) (q_impl_Table_size : (a0 : Int) → (a1 : Int) → (k : Int → Option β) → Option β) (q_impl_Table_changes : (a0 : Int) → (a1 : Int) → (a2 : Int) → (a3 : Int) → (k : Bool → Option β) → Option β) (q_impl_Table_blocks_l0 : Nat → Int → Int → Int → Int → Int → List Int → (List Int → Option β) → Option β) (q_impl_Table_blocks_l2 : Nat → Int → Int → Bool → Int → Int → Int → Int → Int → List Int → (Int → Int → Bool → Int → Int → Int → Int → List Int → Option β) → Option β) : Env β := ⟨[(82, VS82 N q_impl_Table_size), (115, VS115 N q_impl_Table_changes)], [], [(0, VLS155_0 N q_impl_Table_blocks_l0), (2, VLS155_2 N q_impl_Table_blocks_l2)], []⟩
def E155 {β : Type} (N : Nat) : Env β := VE155 N (impl_Table_size N) (impl_Table_changes N) (impl_Table_blocks_l0 N) (impl_Table_blocks_l2 N)
def BV_impl_Table_blocks_l0b {β : Type} (N : Nat) (q_impl_Table_changes : (a0 : Int) → (a1 : Int) → (a2 : Int) → (a3 : Int) → (k : Bool → Option β) → Option β) (q_impl_Table_blocks_l2 : Nat → Int → Int → Bool → Int → Int → Int → Int → Int → List Int → (Int → Int → Bool → Int → Int → Int → Int → List Int → Option β) → Option β)  (v0 : Int) (v1 : Int) (v2 : Int) (v3 : Int) (v4 : Int) (v5 : List Int) (rec_ : Int → Int → Int → Int → Int → List Int → Option β) (k0 : List Int → Option β) : Option β :=
(cond ((decide (v2 < v1)))
(q_impl_Table_changes v3 v4 v0 v2 fun r5 =>
q_impl_Table_blocks_l2  N v0 v2 r5 ((bits .and .i64 (w64 (v2 - 1)) v2)) v1 v2 v3 v4 v5 (fun e7_0 e7_1 e7_2 e7_3 e7_4 e7_5 e7_6 e7_7 =>
(cond e7_2
((gd ((decide ((e7_7.length + ((([] : List Int) ++ [e7_1])).length) * 8 ≤ 140737488355328)))
(rec_ e7_0 e7_3 ((w64 (e7_4 + 1))) e7_5 e7_6 ((e7_7 ++ (([] : List Int) ++ [e7_1]))))))
(rec_ e7_0 e7_3 ((w64 (e7_4 + 1))) e7_5 e7_6 e7_7))))
(k0 v5))
theorem t_impl_Table_blocks_l0b {β : Type} (N : Nat)  (v0 : Int) (v1 : Int) (v2 : Int) (v3 : Int) (v4 : Int) (v5 : List Int) (rec_ : Int → Int → Int → Int → Int → List Int → Option β) (k0 : List Int → Option β) : impl_Table_blocks_l0b N v0 v1 v2 v3 v4 v5 rec_ k0 = BV_impl_Table_blocks_l0b N (impl_Table_changes N) (impl_Table_blocks_l2 N) v0 v1 v2 v3 v4 v5 rec_ k0 := by
  unfold impl_Table_blocks_l0b BV_impl_Table_blocks_l0b
  rfl
theorem vst155_0_0 {β : Type} (N : Nat) (q_impl_Table_size : (a0 : Int) → (a1 : Int) → (k : Int → Option β) → Option β) (q_impl_Table_changes : (a0 : Int) → (a1 : Int) → (a2 : Int) → (a3 : Int) → (k : Bool → Option β) → Option β) (q_impl_Table_blocks_l0 : Nat → Int → Int → Int → Int → Int → List Int → (List Int → Option β) → Option β) (q_impl_Table_blocks_l2 : Nat → Int → Int → Bool → Int → Int → Int → Int → Int → List Int → (Int → Int → Bool → Int → Int → Int → Int → List Int → Option β) → Option β)  (v0 : Int) (v1 : Int) (v2 : Int) (v3 : Int) (v4 : Int) (v5 : List Int) (rec_ : St → Option β) (K : Exit → St → Option β) :
    ev lay (VE155 N q_impl_Table_size q_impl_Table_changes q_impl_Table_blocks_l0 q_impl_Table_blocks_l2) (retMask Try.f155) (lp Try.f155 0).body (lp Try.f155 0).ex ((lp Try.f155 0).lv (retMask Try.f155)) (h155_0_0  v0 v1 v2 v3 v4 v5) (nextR (fun s' => rec_ (s'.tidy ((lp Try.f155 0).lv (retMask Try.f155)))) K) = BV_impl_Table_blocks_l0b N q_impl_Table_changes q_impl_Table_blocks_l2  v0 v1 v2 v3 v4 v5 (fun v0 v1 v2 v3 v4 v5 => rec_ (h155_0_0  v0 v1 v2 v3 v4 v5)) (fun y0 => K (.exit 0) (x155_0_0_k0  y0)) := by kernel_rfl
theorem st155_0_0 {β : Type} (N : Nat)  (v0 : Int) (v1 : Int) (v2 : Int) (v3 : Int) (v4 : Int) (v5 : List Int) (rec_ : St → Option β) (K : Exit → St → Option β) :
    ev lay (E155 N) (retMask Try.f155) (lp Try.f155 0).body (lp Try.f155 0).ex ((lp Try.f155 0).lv (retMask Try.f155)) (h155_0_0  v0 v1 v2 v3 v4 v5) (nextR (fun s' => rec_ (s'.tidy ((lp Try.f155 0).lv (retMask Try.f155)))) K) = impl_Table_blocks_l0b N  v0 v1 v2 v3 v4 v5 (fun v0 v1 v2 v3 v4 v5 => rec_ (h155_0_0  v0 v1 v2 v3 v4 v5)) (fun y0 => K (.exit 0) (x155_0_0_k0  y0)) := (vst155_0_0 N (impl_Table_size N) (impl_Table_changes N) (impl_Table_blocks_l0 N) (impl_Table_blocks_l2 N) v0 v1 v2 v3 v4 v5 rec_ K).trans (t_impl_Table_blocks_l0b N  v0 v1 v2 v3 v4 v5 (fun v0 v1 v2 v3 v4 v5 => rec_ (h155_0_0  v0 v1 v2 v3 v4 v5)) (fun y0 => K (.exit 0) (x155_0_0_k0  y0))).symm
theorem ro155_0_0 {β : Type} (N : Nat)  (K : Exit → St → Option β) : ∀ (F : Nat) (v0 : Int) (v1 : Int) (v2 : Int) (v3 : Int) (v4 : Int) (v5 : List Int), (lp Try.f155 0).rounds lay (E155 N) (retMask Try.f155) F (h155_0_0  v0 v1 v2 v3 v4 v5) K = impl_Table_blocks_l0 N  F v0 v1 v2 v3 v4 v5 (fun y0 => K (.exit 0) (x155_0_0_k0  y0)) := by
  intro F
  induction F with
  | zero => intros; rfl
  | succ F ih =>
    intros
    rw [rounds_next]
    refine (st155_0_0 N  _ _ _ _ _ _ (fun s => (lp Try.f155 0).rounds lay (E155 N) (retMask Try.f155) F s K) K).trans ?_
    simp only [ih]
    rfl
theorem lk155_0 {β : Type} (N : Nat) : lookL (E155 (β := β) N).loops (lp Try.f155 0).id = LS155_0 N := by kernel_rfl
theorem rk155_0 {β : Type} (N : Nat) : RoundsOK lay (E155 (β := β) N) (retMask Try.f155) (lp Try.f155 0) := by
  intro s K r h
  rw [lk155_0] at h
  unfold LS155_0 VLS155_0 at h
  cases hb : shpSt (h155_0_0 0 0 0 0 0 []) s with
  | true =>
    rw [hb, cond_true] at h
    exact ⟨N, by rw [← shpSt_ref hb, fl155_0_0 s]; exact (ro155_0_0 N  K N (intS (oneA (vT (nx tund s.tmps 1)))) (intS (oneA (vT (nx tund s.tmps 10)))) (intS (oneA (vT (nx tund s.tmps 11)))) (intS (nx .und (cellsB (nx .dead s.blks 0)) 0)) (intS (nx .und (cellsB (nx .dead s.blks 0)) 1)) (rInts (rowB_ (nx .dead s.blks 1)))).trans h⟩
  | false =>
  rw [hb, cond_false] at h
  clear hb
  cases h
def BV_impl_Table_blocks_l2b {β : Type} (N : Nat) (q_impl_Table_changes : (a0 : Int) → (a1 : Int) → (a2 : Int) → (a3 : Int) → (k : Bool → Option β) → Option β)  (v0 : Int) (v1 : Int) (v2 : Bool) (v3 : Int) (v4 : Int) (v5 : Int) (v6 : Int) (v7 : Int) (v8 : List Int) (rec_ : Int → Int → Bool → Int → Int → Int → Int → Int → List Int → Option β) (k0 : Int → Int → Bool → Int → Int → Int → Int → List Int → Option β) : Option β :=
(cond v2
((cond ((decide (v3 > 0)))
(q_impl_Table_changes v6 v7 v0 v3 fun r6 =>
rec_ v0 v1 (!r6) ((bits .and .i64 (w64 (v3 - 1)) v1)) v4 v5 v6 v7 v8)
(k0 v0 v1 v2 v4 v5 v6 v7 v8)))
(k0 v0 v1 v2 v4 v5 v6 v7 v8))
theorem t_impl_Table_blocks_l2b {β : Type} (N : Nat)  (v0 : Int) (v1 : Int) (v2 : Bool) (v3 : Int) (v4 : Int) (v5 : Int) (v6 : Int) (v7 : Int) (v8 : List Int) (rec_ : Int → Int → Bool → Int → Int → Int → Int → Int → List Int → Option β) (k0 : Int → Int → Bool → Int → Int → Int → Int → List Int → Option β) : impl_Table_blocks_l2b N v0 v1 v2 v3 v4 v5 v6 v7 v8 rec_ k0 = BV_impl_Table_blocks_l2b N (impl_Table_changes N) v0 v1 v2 v3 v4 v5 v6 v7 v8 rec_ k0 := by
  unfold impl_Table_blocks_l2b BV_impl_Table_blocks_l2b
  rfl
theorem vst155_1_0 {β : Type} (N : Nat) (q_impl_Table_size : (a0 : Int) → (a1 : Int) → (k : Int → Option β) → Option β) (q_impl_Table_changes : (a0 : Int) → (a1 : Int) → (a2 : Int) → (a3 : Int) → (k : Bool → Option β) → Option β) (q_impl_Table_blocks_l0 : Nat → Int → Int → Int → Int → Int → List Int → (List Int → Option β) → Option β) (q_impl_Table_blocks_l2 : Nat → Int → Int → Bool → Int → Int → Int → Int → Int → List Int → (Int → Int → Bool → Int → Int → Int → Int → List Int → Option β) → Option β)  (v0 : Int) (v1 : Int) (v2 : Bool) (v3 : Int) (v4 : Int) (v5 : Int) (v6 : Int) (v7 : Int) (v8 : List Int) (rec_ : St → Option β) (K : Exit → St → Option β) :
    ev lay (VE155 N q_impl_Table_size q_impl_Table_changes q_impl_Table_blocks_l0 q_impl_Table_blocks_l2) (retMask Try.f155) (lp Try.f155 1).body (lp Try.f155 1).ex ((lp Try.f155 1).lv (retMask Try.f155)) (h155_1_0  v0 v1 v2 v3 v4 v5 v6 v7 v8) (nextR (fun s' => rec_ (s'.tidy ((lp Try.f155 1).lv (retMask Try.f155)))) K) = BV_impl_Table_blocks_l2b N q_impl_Table_changes  v0 v1 v2 v3 v4 v5 v6 v7 v8 (fun v0 v1 v2 v3 v4 v5 v6 v7 v8 => rec_ (h155_1_0  v0 v1 v2 v3 v4 v5 v6 v7 v8)) (fun y0 y1 y2 y3 y4 y5 y6 y7 => K (.exit 2) (x155_1_0_k0  y0 y1 y2 y3 y4 y5 y6 y7)) := by kernel_rfl
theorem st155_1_0 {β : Type} (N : Nat)  (v0 : Int) (v1 : Int) (v2 : Bool) (v3 : Int) (v4 : Int) (v5 : Int) (v6 : Int) (v7 : Int) (v8 : List Int) (rec_ : St → Option β) (K : Exit → St → Option β) :
    ev lay (E155 N) (retMask Try.f155) (lp Try.f155 1).body (lp Try.f155 1).ex ((lp Try.f155 1).lv (retMask Try.f155)) (h155_1_0  v0 v1 v2 v3 v4 v5 v6 v7 v8) (nextR (fun s' => rec_ (s'.tidy ((lp Try.f155 1).lv (retMask Try.f155)))) K) = impl_Table_blocks_l2b N  v0 v1 v2 v3 v4 v5 v6 v7 v8 (fun v0 v1 v2 v3 v4 v5 v6 v7 v8 => rec_ (h155_1_0  v0 v1 v2 v3 v4 v5 v6 v7 v8)) (fun y0 y1 y2 y3 y4 y5 y6 y7 => K (.exit 2) (x155_1_0_k0  y0 y1 y2 y3 y4 y5 y6 y7)) := (vst155_1_0 N (impl_Table_size N) (impl_Table_changes N) (impl_Table_blocks_l0 N) (impl_Table_blocks_l2 N) v0 v1 v2 v3 v4 v5 v6 v7 v8 rec_ K).trans (t_impl_Table_blocks_l2b N  v0 v1 v2 v3 v4 v5 v6 v7 v8 (fun v0 v1 v2 v3 v4 v5 v6 v7 v8 => rec_ (h155_1_0  v0 v1 v2 v3 v4 v5 v6 v7 v8)) (fun y0 y1 y2 y3 y4 y5 y6 y7 => K (.exit 2) (x155_1_0_k0  y0 y1 y2 y3 y4 y5 y6 y7))).symm
theorem ro155_1_0 {β : Type} (N : Nat)  (K : Exit → St → Option β) : ∀ (F : Nat) (v0 : Int) (v1 : Int) (v2 : Bool) (v3 : Int) (v4 : Int) (v5 : Int) (v6 : Int) (v7 : Int) (v8 : List Int), (lp Try.f155 1).rounds lay (E155 N) (retMask Try.f155) F (h155_1_0  v0 v1 v2 v3 v4 v5 v6 v7 v8) K = impl_Table_blocks_l2 N  F v0 v1 v2 v3 v4 v5 v6 v7 v8 (fun y0 y1 y2 y3 y4 y5 y6 y7 => K (.exit 2) (x155_1_0_k0  y0 y1 y2 y3 y4 y5 y6 y7)) := by
  intro F
  induction F with
  | zero => intros; rfl
  | succ F ih =>
    intros
    rw [rounds_next]
    refine (st155_1_0 N  _ _ _ _ _ _ _ _ _ (fun s => (lp Try.f155 1).rounds lay (E155 N) (retMask Try.f155) F s K) K).trans ?_
    simp only [ih]
    rfl
theorem lk155_2 {β : Type} (N : Nat) : lookL (E155 (β := β) N).loops (lp Try.f155 1).id = LS155_2 N := by kernel_rfl
theorem rk155_2 {β : Type} (N : Nat) : RoundsOK lay (E155 (β := β) N) (retMask Try.f155) (lp Try.f155 1) := by
  intro s K r h
  rw [lk155_2] at h
  unfold LS155_2 VLS155_2 at h
  cases hb : shpSt (h155_1_0 0 0 false 0 0 0 0 0 []) s with
  | true =>
    rw [hb, cond_true] at h
    exact ⟨N, by rw [← shpSt_ref hb, fl155_1_0 s]; exact (ro155_1_0 N  K N (intS (oneA (vT (nx tund s.tmps 1)))) (intS (oneA (vT (nx tund s.tmps 6)))) (boolS (oneA (vT (nx tund s.tmps 7)))) (intS (oneA (vT (nx tund s.tmps 8)))) (intS (oneA (vT (nx tund s.tmps 10)))) (intS (oneA (vT (nx tund s.tmps 11)))) (intS (nx .und (cellsB (nx .dead s.blks 0)) 0)) (intS (nx .und (cellsB (nx .dead s.blks 0)) 1)) (rInts (rowB_ (nx .dead s.blks 1)))).trans h⟩
  | false =>
  rw [hb, cond_false] at h
  clear hb
  cases h
def BV_impl_Table_blocks {β : Type} (N : Nat) (q_impl_Table_size : (a0 : Int) → (a1 : Int) → (k : Int → Option β) → Option β) (q_impl_Table_blocks_l0 : Nat → Int → Int → Int → Int → Int → List Int → (List Int → Option β) → Option β) (a0 : Int) (a1 : Int) (a2 : Int) (k : List Int → Option β) : Option β :=
q_impl_Table_size a0 a1 fun r4 =>
q_impl_Table_blocks_l0  N a2 r4 0 a0 a1 (([] : List Int)) (fun e8_0 =>
k e8_0)
theorem t_impl_Table_blocks {β : Type} (N : Nat) (a0 : Int) (a1 : Int) (a2 : Int) (k : List Int → Option β) : impl_Table_blocks N a0 a1 a2 k = BV_impl_Table_blocks N (impl_Table_size N) (impl_Table_blocks_l0 N) a0 a1 a2 k := by
  unfold impl_Table_blocks BV_impl_Table_blocks
  rfl
theorem ve155_0 {β : Type} (N : Nat) (q_impl_Table_size : (a0 : Int) → (a1 : Int) → (k : Int → Option β) → Option β) (q_impl_Table_changes : (a0 : Int) → (a1 : Int) → (a2 : Int) → (a3 : Int) → (k : Bool → Option β) → Option β) (q_impl_Table_blocks_l0 : Nat → Int → Int → Int → Int → Int → List Int → (List Int → Option β) → Option β) (q_impl_Table_blocks_l2 : Nat → Int → Int → Bool → Int → Int → Int → Int → Int → List Int → (Int → Int → Bool → Int → Int → Int → Int → List Int → Option β) → Option β)  (a0 : Int) (a1 : Int) (a2 : Int) (K : TV → Option β) : evFn lay (VE155 N q_impl_Table_size q_impl_Table_changes q_impl_Table_blocks_l0 q_impl_Table_blocks_l2) Try.f155 [.v (.agg [.int .i64 a0, .int .i64 a1]), .v (.one (.int .i64 a2))] K = BV_impl_Table_blocks N q_impl_Table_size q_impl_Table_blocks_l0 a0 a1 a2 (fun z3 => K (.v (.one (.sl 3 (.ints .i64 z3))))) := by kernel_rfl
theorem e155_0 {β : Type} (N : Nat)  (a0 : Int) (a1 : Int) (a2 : Int) (K : TV → Option β) : evFn lay (E155 N) Try.f155 [.v (.agg [.int .i64 a0, .int .i64 a1]), .v (.one (.int .i64 a2))] K = impl_Table_blocks N a0 a1 a2 (fun z3 => K (.v (.one (.sl 3 (.ints .i64 z3))))) := (ve155_0 N (impl_Table_size N) (impl_Table_changes N) (impl_Table_blocks_l0 N) (impl_Table_blocks_l2 N) a0 a1 a2 K).trans (t_impl_Table_blocks N a0 a1 a2 (fun z3 => K (.v (.one (.sl 3 (.ints .i64 z3)))))).symm
theorem o155 {β : Type} (N : Nat) : SpecOK (β := β) Try.prog 155 (S155 N) := by
  refine spec_of lay_ok mixed (E := E155 N) (specs_loops (specs_cons (o82 N) (specs_cons (o115 N) specs_nil))) muts_nil gs_nil Try.func155 (by kernel_rfl) 2 (by kernel_rfl) ⟨⟨trivial, rk155_0 N⟩, rk155_2 N⟩ fun args K r h => ?_
  unfold S155 VS155 at h
  split at h
  · exact (e155_0 N _ _ _ _).trans h
  · cases h
end Go.Proofs.Ytdkjnadhgdneaaa
