/- The functions that the claims reach answer as their texts do. -/
import Derived.Test.YtdkjnadhgdneaaaE5
namespace Go.Proofs.Ytdkjnadhgdneaaa
open Go.Rv
set_option maxRecDepth 100000
set_option maxHeartbeats 2000000
set_option linter.unusedVariables false
def VS37 {β : Type} (N : Nat) (q_impl_IsConstant : (a0 : Int) → (a1 : Int) → (k : Bool → Option β) → Option β) : Rv.Spec β := fun args K => match args with
  | [.v (.agg [.int .i64 a0, .int .i64 a1])] => q_impl_IsConstant a0 a1 (fun z2 => K (.v (.one (.bool z2))))
  | _ => none
def S37 {β : Type} (N : Nat) : Rv.Spec β := VS37 N (impl_IsConstant N)
def VE37 {β : Type} (N : Nat) (q_impl_IsTable : (a0 : Int) → (a1 : Int) → (k : Bool → Option β) → Option β) (q_impl_Table_isSame : (a0 : Int) → (a1 : Int) → (k : Bool → Option β) → Option β) : Env β := ⟨[(61, VS61 N q_impl_IsTable), (88, VS88 N q_impl_Table_isSame)], [], [], []⟩
def E37 {β : Type} (N : Nat) : Env β := VE37 N (impl_IsTable N) (impl_Table_isSame N)
def BV_impl_IsConstant {β : Type} (N : Nat) (q_impl_IsTable : (a0 : Int) → (a1 : Int) → (k : Bool → Option β) → Option β) (q_impl_Table_isSame : (a0 : Int) → (a1 : Int) → (k : Bool → Option β) → Option β) (a0 : Int) (a1 : Int) (k : Bool → Option β) : Option β :=
q_impl_IsTable a0 a1 fun r3 =>
(cond r3
(q_impl_Table_isSame a0 a1 fun r4 =>
k r4)
(k false))
theorem t_impl_IsConstant {β : Type} (N : Nat) (a0 : Int) (a1 : Int) (k : Bool → Option β) : impl_IsConstant N a0 a1 k = BV_impl_IsConstant N (impl_IsTable N) (impl_Table_isSame N) a0 a1 k := by
  unfold impl_IsConstant BV_impl_IsConstant
  rfl
theorem ve37_0 {β : Type} (N : Nat) (q_impl_IsTable : (a0 : Int) → (a1 : Int) → (k : Bool → Option β) → Option β) (q_impl_Table_isSame : (a0 : Int) → (a1 : Int) → (k : Bool → Option β) → Option β)  (a0 : Int) (a1 : Int) (K : TV → Option β) : evFn lay (VE37 N q_impl_IsTable q_impl_Table_isSame) Try.f37 [.v (.agg [.int .i64 a0, .int .i64 a1])] K = BV_impl_IsConstant N q_impl_IsTable q_impl_Table_isSame a0 a1 (fun z2 => K (.v (.one (.bool z2)))) := by kernel_rfl
theorem e37_0 {β : Type} (N : Nat)  (a0 : Int) (a1 : Int) (K : TV → Option β) : evFn lay (E37 N) Try.f37 [.v (.agg [.int .i64 a0, .int .i64 a1])] K = impl_IsConstant N a0 a1 (fun z2 => K (.v (.one (.bool z2)))) := (ve37_0 N (impl_IsTable N) (impl_Table_isSame N) a0 a1 K).trans (t_impl_IsConstant N a0 a1 (fun z2 => K (.v (.one (.bool z2))))).symm
theorem o37 {β : Type} (N : Nat) : SpecOK (β := β) Try.prog 37 (S37 N) := by
  refine spec_of lay_ok mixed (E := E37 N) (specs_loops (specs_cons (o61 N) (specs_cons (o88 N) specs_nil))) muts_nil gs_nil Try.func37 (by kernel_rfl) 0 (by kernel_rfl) trivial fun args K r h => ?_
  unfold S37 VS37 at h
  split at h
  · exact (e37_0 N _ _ _).trans h
  · cases h
def VS89 {β : Type} (N : Nat) (q_spec_l9Both : (a0 : List Int) → (k : Int → Int → Int → Option β) → Option β) : Rv.Spec β := fun args K => match args with
  | [.v (.one (.sl 5 (.ints .u8 a0)))] => q_spec_l9Both a0 (fun z1 z2 z3 => K (.tup [.agg [.int .i64 z1, .int .i64 z2], .one (.int .i64 z3)]))
  | _ => none
def S89 {β : Type} (N : Nat) : Rv.Spec β := VS89 N (spec_l9Both N)
def VE89 {β : Type} (N : Nat) (q_spec_l1New_g0 : (a0 : List Int) → (k0 : List Int → Int → Int → Option β) → Option β) (q_spec_l2Any_g0 : (a0 : List Int) → (a1 : Int) → (a2 : Int) → (k0 : Int → Int → List Int → Int → Int → Option β) → Option β) (q_spec_l1Below_g0 : (a0 : Int) → (a1 : List Int) → (a2 : Int) → (a3 : Int) → (k0 : Int → List Int → Int → Int → Option β) → Option β) : Env β := ⟨[], [], [], [(55, VS55 N q_spec_l1New_g0), (68, VS68 N q_spec_l2Any_g0), (57, VS57 N q_spec_l1Below_g0)]⟩
def E89 {β : Type} (N : Nat) : Env β := VE89 N (spec_l1New_g0 N) (spec_l2Any_g0 N) (spec_l1Below_g0 N)
def BV_spec_l9Both {β : Type} (N : Nat) (q_spec_l1New_g0 : (a0 : List Int) → (k0 : List Int → Int → Int → Option β) → Option β) (q_spec_l2Any_g0 : (a0 : List Int) → (a1 : Int) → (a2 : Int) → (k0 : Int → Int → List Int → Int → Int → Option β) → Option β) (q_spec_l1Below_g0 : (a0 : Int) → (a1 : List Int) → (a2 : Int) → (a3 : Int) → (k0 : Int → List Int → Int → Int → Option β) → Option β) (a0 : List Int) (k : Int → Int → Int → Option β) : Option β :=
q_spec_l1New_g0 a0 (fun r4_0 r4_1 r4_2 =>
q_spec_l2Any_g0 r4_0 r4_1 r4_2 (fun r5_0 r5_1 r5_2 r5_3 r5_4 =>
q_spec_l1Below_g0 18 r5_2 r5_3 r5_4 (fun r6_0 r6_1 r6_2 r6_3 =>
k r5_0 r5_1 ((w64 (r6_0 - 1))))))
theorem t_spec_l9Both {β : Type} (N : Nat) (a0 : List Int) (k : Int → Int → Int → Option β) : spec_l9Both N a0 k = BV_spec_l9Both N (spec_l1New_g0 N) (spec_l2Any_g0 N) (spec_l1Below_g0 N) a0 k := by
  unfold spec_l9Both BV_spec_l9Both
  rfl
theorem ve89_0 {β : Type} (N : Nat) (q_spec_l1New_g0 : (a0 : List Int) → (k0 : List Int → Int → Int → Option β) → Option β) (q_spec_l2Any_g0 : (a0 : List Int) → (a1 : Int) → (a2 : Int) → (k0 : Int → Int → List Int → Int → Int → Option β) → Option β) (q_spec_l1Below_g0 : (a0 : Int) → (a1 : List Int) → (a2 : Int) → (a3 : Int) → (k0 : Int → List Int → Int → Int → Option β) → Option β)  (a0 : List Int) (K : TV → Option β) : evFn lay (VE89 N q_spec_l1New_g0 q_spec_l2Any_g0 q_spec_l1Below_g0) Try.f89 [.v (.one (.sl 5 (.ints .u8 a0)))] K = BV_spec_l9Both N q_spec_l1New_g0 q_spec_l2Any_g0 q_spec_l1Below_g0 a0 (fun z1 z2 z3 => K (.tup [.agg [.int .i64 z1, .int .i64 z2], .one (.int .i64 z3)])) := by kernel_rfl
theorem e89_0 {β : Type} (N : Nat)  (a0 : List Int) (K : TV → Option β) : evFn lay (E89 N) Try.f89 [.v (.one (.sl 5 (.ints .u8 a0)))] K = spec_l9Both N a0 (fun z1 z2 z3 => K (.tup [.agg [.int .i64 z1, .int .i64 z2], .one (.int .i64 z3)])) := (ve89_0 N (spec_l1New_g0 N) (spec_l2Any_g0 N) (spec_l1Below_g0 N) a0 K).trans (t_spec_l9Both N a0 (fun z1 z2 z3 => K (.tup [.agg [.int .i64 z1, .int .i64 z2], .one (.int .i64 z3)]))).symm
theorem o89 {β : Type} (N : Nat) : SpecOK (β := β) Try.prog 89 (S89 N) := by
  refine spec_of lay_ok mixed (E := E89 N) (specs_loops specs_nil) muts_nil (gs_cons (o55 N) (gs_cons (o68 N) (gs_cons (o57 N) gs_nil))) Try.func89 (by kernel_rfl) 0 (by kernel_rfl) trivial fun args K r h => ?_
  unfold S89 VS89 at h
  split at h
  · exact (e89_0 N _ _).trans h
  · cases h
def VS38 {β : Type} (N : Nat) (q_spec_DrawDetectedBy : (a0 : List Int) → (k : Int → Int → Int → Option β) → Option β) : Rv.Spec β := fun args K => match args with
  | [.v (.one (.sl 5 (.ints .u8 a0)))] => q_spec_DrawDetectedBy a0 (fun z1 z2 z3 => K (.tup [.agg [.int .i64 z1, .int .i64 z2], .one (.int .i64 z3)]))
  | _ => none
def S38 {β : Type} (N : Nat) : Rv.Spec β := VS38 N (spec_DrawDetectedBy N)
def VE38 {β : Type} (N : Nat) (q_spec_l9Both : (a0 : List Int) → (k : Int → Int → Int → Option β) → Option β) : Env β := ⟨[(89, VS89 N q_spec_l9Both)], [], [], []⟩
def E38 {β : Type} (N : Nat) : Env β := VE38 N (spec_l9Both N)
def BV_spec_DrawDetectedBy {β : Type} (N : Nat) (q_spec_l9Both : (a0 : List Int) → (k : Int → Int → Int → Option β) → Option β) (a0 : List Int) (k : Int → Int → Int → Option β) : Option β :=
q_spec_l9Both a0 fun r4 r5 r6 =>
k r4 r5 r6
theorem t_spec_DrawDetectedBy {β : Type} (N : Nat) (a0 : List Int) (k : Int → Int → Int → Option β) : spec_DrawDetectedBy N a0 k = BV_spec_DrawDetectedBy N (spec_l9Both N) a0 k := by
  unfold spec_DrawDetectedBy BV_spec_DrawDetectedBy
  rfl
theorem ve38_0 {β : Type} (N : Nat) (q_spec_l9Both : (a0 : List Int) → (k : Int → Int → Int → Option β) → Option β)  (a0 : List Int) (K : TV → Option β) : evFn lay (VE38 N q_spec_l9Both) Try.f38 [.v (.one (.sl 5 (.ints .u8 a0)))] K = BV_spec_DrawDetectedBy N q_spec_l9Both a0 (fun z1 z2 z3 => K (.tup [.agg [.int .i64 z1, .int .i64 z2], .one (.int .i64 z3)])) := by kernel_rfl
theorem e38_0 {β : Type} (N : Nat)  (a0 : List Int) (K : TV → Option β) : evFn lay (E38 N) Try.f38 [.v (.one (.sl 5 (.ints .u8 a0)))] K = spec_DrawDetectedBy N a0 (fun z1 z2 z3 => K (.tup [.agg [.int .i64 z1, .int .i64 z2], .one (.int .i64 z3)])) := (ve38_0 N (spec_l9Both N) a0 K).trans (t_spec_DrawDetectedBy N a0 (fun z1 z2 z3 => K (.tup [.agg [.int .i64 z1, .int .i64 z2], .one (.int .i64 z3)]))).symm
theorem o38 {β : Type} (N : Nat) : SpecOK (β := β) Try.prog 38 (S38 N) := by
  refine spec_of lay_ok mixed (E := E38 N) (specs_loops (specs_cons (o89 N) specs_nil)) muts_nil gs_nil Try.func38 (by kernel_rfl) 0 (by kernel_rfl) trivial fun args K r h => ?_
  unfold S38 VS38 at h
  split at h
  · exact (e38_0 N _ _).trans h
  · cases h
def VS58 {β : Type} (N : Nat) (q_spec_l9In : (a0 : Int) → (a1 : Int) → (a2 : Int) → (k : Bool → Option β) → Option β) : Rv.Spec β := fun args K => match args with
  | [.v (.agg [.int .i64 a0, .int .i64 a1]), .v (.one (.int .i64 a2))] => q_spec_l9In a0 a1 a2 (fun z3 => K (.v (.one (.bool z3))))
  | _ => none
def S58 {β : Type} (N : Nat) : Rv.Spec β := VS58 N (spec_l9In N)
def VE58 {β : Type} (N : Nat) (q_spec_IsTable : (a0 : Int) → (a1 : Int) → (k : Bool → Option β) → Option β) (q_spec_l1In : (a0 : Int) → (a1 : Int) → (a2 : Int) → (k : Bool → Option β) → Option β) : Env β := ⟨[(69, VS69 N q_spec_IsTable), (93, VS93 N q_spec_l1In)], [], [], []⟩
def E58 {β : Type} (N : Nat) : Env β := VE58 N (spec_IsTable N) (spec_l1In N)
def BV_spec_l9In {β : Type} (N : Nat) (q_spec_IsTable : (a0 : Int) → (a1 : Int) → (k : Bool → Option β) → Option β) (q_spec_l1In : (a0 : Int) → (a1 : Int) → (a2 : Int) → (k : Bool → Option β) → Option β) (a0 : Int) (a1 : Int) (a2 : Int) (k : Bool → Option β) : Option β :=
q_spec_IsTable a0 a1 fun r4 =>
(cond r4
((gd ((decide (0 ≤ a0)))
(q_spec_l1In a2 0 ((w64 ((shlI .i64 1 a0) - 1))) fun r5 =>
k r5)))
(k false))
theorem t_spec_l9In {β : Type} (N : Nat) (a0 : Int) (a1 : Int) (a2 : Int) (k : Bool → Option β) : spec_l9In N a0 a1 a2 k = BV_spec_l9In N (spec_IsTable N) (spec_l1In N) a0 a1 a2 k := by
  unfold spec_l9In BV_spec_l9In
  rfl
theorem ve58_0 {β : Type} (N : Nat) (q_spec_IsTable : (a0 : Int) → (a1 : Int) → (k : Bool → Option β) → Option β) (q_spec_l1In : (a0 : Int) → (a1 : Int) → (a2 : Int) → (k : Bool → Option β) → Option β)  (a0 : Int) (a1 : Int) (a2 : Int) (K : TV → Option β) : evFn lay (VE58 N q_spec_IsTable q_spec_l1In) Try.f58 [.v (.agg [.int .i64 a0, .int .i64 a1]), .v (.one (.int .i64 a2))] K = BV_spec_l9In N q_spec_IsTable q_spec_l1In a0 a1 a2 (fun z3 => K (.v (.one (.bool z3)))) := by kernel_rfl
theorem e58_0 {β : Type} (N : Nat)  (a0 : Int) (a1 : Int) (a2 : Int) (K : TV → Option β) : evFn lay (E58 N) Try.f58 [.v (.agg [.int .i64 a0, .int .i64 a1]), .v (.one (.int .i64 a2))] K = spec_l9In N a0 a1 a2 (fun z3 => K (.v (.one (.bool z3)))) := (ve58_0 N (spec_IsTable N) (spec_l1In N) a0 a1 a2 K).trans (t_spec_l9In N a0 a1 a2 (fun z3 => K (.v (.one (.bool z3))))).symm
theorem o58 {β : Type} (N : Nat) : SpecOK (β := β) Try.prog 58 (S58 N) := by
  refine spec_of lay_ok mixed (E := E58 N) (specs_loops (specs_cons (o69 N) (specs_cons (o93 N) specs_nil))) muts_nil gs_nil Try.func58 (by kernel_rfl) 0 (by kernel_rfl) trivial fun args K r h => ?_
  unfold S58 VS58 at h
  split at h
  · exact (e58_0 N _ _ _ _).trans h
  · cases h
def VS39 {β : Type} (N : Nat) (q_spec_DetectedBy : (a0 : Int) → (a1 : Int) → (a2 : Int) → (k : List Int → Option β) → Option β) : Rv.Spec β := fun args K => match args with
  | [.v (.agg [.int .i64 a0, .int .i64 a1]), .v (.one (.int .i64 a2))] => q_spec_DetectedBy a0 a1 a2 (fun z3 => K (.v (.one (.sl 3 (.ints .i64 z3)))))
  | _ => none
def S39 {β : Type} (N : Nat) : Rv.Spec β := VS39 N (spec_DetectedBy N)
def h39_0_0  (v0 : Int) (v1 : Int) (v2 : Int) (v3 : Int) (v4 : List Int) : St := ⟨.v (.one .und) :: .v (.one (.int .i64 v0)) :: .v (.one (.ptr 0 0)) :: .v (.one .und) :: .v (.one .und) :: .v (.one (.row 1)) :: .v (.one (.int .i64 v1)) :: .v (.one .und) :: .v (.one .und) :: .v (.one .und) :: .v (.one .und) :: .v (.one .und) :: .v (.one .und) :: .v (.one .und) :: .v (.one .und) :: .v (.one .und) :: .v (.one .und) :: .v (.one .und) :: .v (.one .und) :: .v (.one .und) :: .v (.one .und) :: .v (.one .und) :: .v (.one .und) :: .v (.one .und) :: .v (.one .und) :: .v (.one .und) :: .v (.one .und) :: .v (.one .und) :: .v (.one .und) :: .v (.one .und) :: .v (.one .und) :: .v (.one .und) :: .v (.one .und) :: .v (.one .und) :: .v (.one .und) :: .v (.one .und) :: .v (.one .und) :: .v (.one .und) :: .v (.one .und) :: .v (.one .und) :: .v (.one .und) :: .v (.one .und) :: .v (.one .und) :: .v (.one .und) :: .v (.one .und) :: .v (.one .und) :: .v (.one .und) :: .v (.one .und) :: [], [.cells 25 [.int .i64 v2, .int .i64 v3], .row 3 (.ints .i64 v4)]⟩
def x39_0_0_k0  (y0 : List Int) : St := ⟨.v (.one .und) :: .v (.one .und) :: .v (.one .und) :: .v (.one .und) :: .v (.one .und) :: .v (.one (.row 0)) :: .v (.one .und) :: .v (.one .und) :: .v (.one .und) :: .v (.one .und) :: .v (.one .und) :: .v (.one .und) :: .v (.one .und) :: .v (.one .und) :: .v (.one .und) :: .v (.one .und) :: .v (.one .und) :: .v (.one .und) :: .v (.one .und) :: .v (.one .und) :: .v (.one .und) :: .v (.one .und) :: .v (.one .und) :: .v (.one .und) :: .v (.one .und) :: .v (.one .und) :: .v (.one .und) :: .v (.one .und) :: .v (.one .und) :: .v (.one .und) :: .v (.one .und) :: .v (.one .und) :: .v (.one .und) :: .v (.one .und) :: .v (.one .und) :: .v (.one .und) :: .v (.one .und) :: .v (.one .und) :: .v (.one .und) :: .v (.one .und) :: .v (.one .und) :: .v (.one .und) :: .v (.one .und) :: .v (.one .und) :: .v (.one .und) :: .v (.one .und) :: .v (.one .und) :: .v (.one .und) :: [], [.row 3 (.ints .i64 y0)]⟩
def h39_1_0  (v0 : Int) (v1 : Int) (v2 : Int) (v3 : Int) (v4 : Int) (v5 : List Int) : St := ⟨.v (.one .und) :: .v (.one (.int .i64 v0)) :: .v (.one (.ptr 0 0)) :: .v (.one .und) :: .v (.one .und) :: .v (.one (.row 1)) :: .v (.one (.int .i64 v1)) :: .v (.one (.int .i64 v2)) :: .v (.one .und) :: .v (.one .und) :: .v (.one .und) :: .v (.one .und) :: .v (.one .und) :: .v (.one .und) :: .v (.one .und) :: .v (.one .und) :: .v (.one .und) :: .v (.one .und) :: .v (.one .und) :: .v (.one .und) :: .v (.one .und) :: .v (.one .und) :: .v (.one .und) :: .v (.one .und) :: .v (.one .und) :: .v (.one .und) :: .v (.one .und) :: .v (.one .und) :: .v (.one .und) :: .v (.one .und) :: .v (.one .und) :: .v (.one .und) :: .v (.one .und) :: .v (.one .und) :: .v (.one .und) :: .v (.one .und) :: .v (.one .und) :: .v (.one .und) :: .v (.one .und) :: .v (.one .und) :: .v (.one .und) :: .v (.one .und) :: .v (.one .und) :: .v (.one .und) :: .v (.one .und) :: .v (.one .und) :: .v (.one .und) :: .v (.one .und) :: [], [.cells 25 [.int .i64 v3, .int .i64 v4], .row 3 (.ints .i64 v5)]⟩
def x39_1_0_k0  (y0 : Int) (y1 : Int) (y2 : Int) (y3 : Int) (y4 : List Int) : St := ⟨.v (.one .und) :: .v (.one (.int .i64 y0)) :: .v (.one (.ptr 0 0)) :: .v (.one .und) :: .v (.one .und) :: .v (.one (.row 1)) :: .v (.one (.int .i64 y1)) :: .v (.one .und) :: .v (.one .und) :: .v (.one .und) :: .v (.one .und) :: .v (.one .und) :: .v (.one .und) :: .v (.one .und) :: .v (.one .und) :: .v (.one .und) :: .v (.one .und) :: .v (.one .und) :: .v (.one .und) :: .v (.one .und) :: .v (.one .und) :: .v (.one .und) :: .v (.one .und) :: .v (.one .und) :: .v (.one .und) :: .v (.one .und) :: .v (.one .und) :: .v (.one .und) :: .v (.one .und) :: .v (.one .und) :: .v (.one .und) :: .v (.one .und) :: .v (.one .und) :: .v (.one .und) :: .v (.one .und) :: .v (.one .und) :: .v (.one .und) :: .v (.one .und) :: .v (.one .und) :: .v (.one .und) :: .v (.one .und) :: .v (.one .und) :: .v (.one .und) :: .v (.one .und) :: .v (.one .und) :: .v (.one .und) :: .v (.one .und) :: .v (.one .und) :: [], [.cells 25 [.int .i64 y2, .int .i64 y3], .row 3 (.ints .i64 y4)]⟩
theorem fl39_0_0 (s : St) : refSt (h39_0_0 0 0 0 0 []) s = h39_0_0 (intS (oneA (vT (nx tund s.tmps 1)))) (intS (oneA (vT (nx tund s.tmps 6)))) (intS (nx .und (cellsB (nx .dead s.blks 0)) 0)) (intS (nx .und (cellsB (nx .dead s.blks 0)) 1)) (rInts (rowB_ (nx .dead s.blks 1))) := by kernel_rfl
def VLS39_0 {β : Type} (N : Nat) (q_spec_DetectedBy_l0 : Nat → Int → Int → Int → Int → List Int → (List Int → Option β) → Option β) : LSpec β := fun s K => cond (shpSt (h39_0_0 0 0 0 0 []) s) ((fun (v0 : Int) (v1 : Int) (v2 : Int) (v3 : Int) (v4 : List Int) => q_spec_DetectedBy_l0  N v0 v1 v2 v3 v4 (fun y0 => K (.exit 0) (x39_0_0_k0  y0))) (intS (oneA (vT (nx tund s.tmps 1)))) (intS (oneA (vT (nx tund s.tmps 6)))) (intS (nx .und (cellsB (nx .dead s.blks 0)) 0)) (intS (nx .und (cellsB (nx .dead s.blks 0)) 1)) (rInts (rowB_ (nx .dead s.blks 1)))) (none)
def LS39_0 {β : Type} (N : Nat) : LSpec β := VLS39_0 N (spec_DetectedBy_l0 N)
theorem fl39_1_0 (s : St) : refSt (h39_1_0 0 0 0 0 0 []) s = h39_1_0 (intS (oneA (vT (nx tund s.tmps 1)))) (intS (oneA (vT (nx tund s.tmps 6)))) (intS (oneA (vT (nx tund s.tmps 7)))) (intS (nx .und (cellsB (nx .dead s.blks 0)) 0)) (intS (nx .und (cellsB (nx .dead s.blks 0)) 1)) (rInts (rowB_ (nx .dead s.blks 1))) := by kernel_rfl
def VLS39_2 {β : Type} (N : Nat) (q_spec_DetectedBy_l2 : Nat → Int → Int → Int → Int → Int → List Int → (Int → Int → Int → Int → List Int → Option β) → Option β) : LSpec β := fun s K => cond (shpSt (h39_1_0 0 0 0 0 0 []) s) ((fun (v0 : Int) (v1 : Int) (v2 : Int) (v3 : Int) (v4 : Int) (v5 : List Int) => q_spec_DetectedBy_l2  N v0 v1 v2 v3 v4 v5 (fun y0 y1 y2 y3 y4 => K (.exit 2) (x39_1_0_k0  y0 y1 y2 y3 y4))) (intS (oneA (vT (nx tund s.tmps 1)))) (intS (oneA (vT (nx tund s.tmps 6)))) (intS (oneA (vT (nx tund s.tmps 7)))) (intS (nx .und (cellsB (nx .dead s.blks 0)) 0)) (intS (nx .und (cellsB (nx .dead s.blks 0)) 1)) (rInts (rowB_ (nx .dead s.blks 1)))) (none)
def LS39_2 {β : Type} (N : Nat) : LSpec β := VLS39_2 N (spec_DetectedBy_l2 N)
def VE39 {β : Type} (N : Nat) (q_spec_l9In : (a0 : Int) → (a1 : Int) → (a2 : Int) → (k : Bool → Option β) → Option β) (q_spec_l29Stuck : (a0 : Int) → (a1 : Int) → (a2 : Int) → (a3 : Int) → (k : Int → Int → Option β) → Option β) (q_spec_DetectedBy_l0 : Nat → Int → Int → Int → Int → List Int → (List Int → Option β) → Option β) (q_spec_DetectedBy_l2 : Nat → Int → Int → Int → Int → Int → List Int → (Int → Int → Int → Int → List Int → Option β) → Option β) : Env β := ⟨[(58, VS58 N q_spec_l9In), (90, VS90 N q_spec_l29Stuck)], [], [(0, VLS39_0 N q_spec_DetectedBy_l0), (2, VLS39_2 N q_spec_DetectedBy_l2)], []⟩
def E39 {β : Type} (N : Nat) : Env β := VE39 N (spec_l9In N) (spec_l29Stuck N) (spec_DetectedBy_l0 N) (spec_DetectedBy_l2 N)
def BV_spec_DetectedBy_l0b {β : Type} (N : Nat) (q_spec_l9In : (a0 : Int) → (a1 : Int) → (a2 : Int) → (k : Bool → Option β) → Option β) (q_spec_DetectedBy_l2 : Nat → Int → Int → Int → Int → Int → List Int → (Int → Int → Int → Int → List Int → Option β) → Option β)  (v0 : Int) (v1 : Int) (v2 : Int) (v3 : Int) (v4 : List Int) (rec_ : Int → Int → Int → Int → List Int → Option β) (k0 : List Int → Option β) : Option β :=
q_spec_l9In v2 v3 v0 fun r4 =>
(cond r4
((cond ((decide (v1 < v2)))
(q_spec_DetectedBy_l2  N v0 v1 0 v2 v3 v4 (fun e7_0 e7_1 e7_2 e7_3 e7_4 =>
rec_ e7_0 ((w64 (e7_1 + 1))) e7_2 e7_3 e7_4))
(k0 v4)))
(k0 v4))
theorem t_spec_DetectedBy_l0b {β : Type} (N : Nat)  (v0 : Int) (v1 : Int) (v2 : Int) (v3 : Int) (v4 : List Int) (rec_ : Int → Int → Int → Int → List Int → Option β) (k0 : List Int → Option β) : spec_DetectedBy_l0b N v0 v1 v2 v3 v4 rec_ k0 = BV_spec_DetectedBy_l0b N (spec_l9In N) (spec_DetectedBy_l2 N) v0 v1 v2 v3 v4 rec_ k0 := by
  unfold spec_DetectedBy_l0b BV_spec_DetectedBy_l0b
  rfl
theorem vst39_0_0 {β : Type} (N : Nat) (q_spec_l9In : (a0 : Int) → (a1 : Int) → (a2 : Int) → (k : Bool → Option β) → Option β) (q_spec_l29Stuck : (a0 : Int) → (a1 : Int) → (a2 : Int) → (a3 : Int) → (k : Int → Int → Option β) → Option β) (q_spec_DetectedBy_l0 : Nat → Int → Int → Int → Int → List Int → (List Int → Option β) → Option β) (q_spec_DetectedBy_l2 : Nat → Int → Int → Int → Int → Int → List Int → (Int → Int → Int → Int → List Int → Option β) → Option β)  (v0 : Int) (v1 : Int) (v2 : Int) (v3 : Int) (v4 : List Int) (rec_ : St → Option β) (K : Exit → St → Option β) :
    ev lay (VE39 N q_spec_l9In q_spec_l29Stuck q_spec_DetectedBy_l0 q_spec_DetectedBy_l2) (retMask Try.f39) (lp Try.f39 0).body (lp Try.f39 0).ex ((lp Try.f39 0).lv (retMask Try.f39)) (h39_0_0  v0 v1 v2 v3 v4) (nextR (fun s' => rec_ (s'.tidy ((lp Try.f39 0).lv (retMask Try.f39)))) K) = BV_spec_DetectedBy_l0b N q_spec_l9In q_spec_DetectedBy_l2  v0 v1 v2 v3 v4 (fun v0 v1 v2 v3 v4 => rec_ (h39_0_0  v0 v1 v2 v3 v4)) (fun y0 => K (.exit 0) (x39_0_0_k0  y0)) := by kernel_rfl
theorem st39_0_0 {β : Type} (N : Nat)  (v0 : Int) (v1 : Int) (v2 : Int) (v3 : Int) (v4 : List Int) (rec_ : St → Option β) (K : Exit → St → Option β) :
    ev lay (E39 N) (retMask Try.f39) (lp Try.f39 0).body (lp Try.f39 0).ex ((lp Try.f39 0).lv (retMask Try.f39)) (h39_0_0  v0 v1 v2 v3 v4) (nextR (fun s' => rec_ (s'.tidy ((lp Try.f39 0).lv (retMask Try.f39)))) K) = spec_DetectedBy_l0b N  v0 v1 v2 v3 v4 (fun v0 v1 v2 v3 v4 => rec_ (h39_0_0  v0 v1 v2 v3 v4)) (fun y0 => K (.exit 0) (x39_0_0_k0  y0)) := (vst39_0_0 N (spec_l9In N) (spec_l29Stuck N) (spec_DetectedBy_l0 N) (spec_DetectedBy_l2 N) v0 v1 v2 v3 v4 rec_ K).trans (t_spec_DetectedBy_l0b N  v0 v1 v2 v3 v4 (fun v0 v1 v2 v3 v4 => rec_ (h39_0_0  v0 v1 v2 v3 v4)) (fun y0 => K (.exit 0) (x39_0_0_k0  y0))).symm
theorem ro39_0_0 {β : Type} (N : Nat)  (K : Exit → St → Option β) : ∀ (F : Nat) (v0 : Int) (v1 : Int) (v2 : Int) (v3 : Int) (v4 : List Int), (lp Try.f39 0).rounds lay (E39 N) (retMask Try.f39) F (h39_0_0  v0 v1 v2 v3 v4) K = spec_DetectedBy_l0 N  F v0 v1 v2 v3 v4 (fun y0 => K (.exit 0) (x39_0_0_k0  y0)) := by
  intro F
  induction F with
  | zero => intros; rfl
  | succ F ih =>
    intros
    rw [rounds_next]
    refine (st39_0_0 N  _ _ _ _ _ (fun s => (lp Try.f39 0).rounds lay (E39 N) (retMask Try.f39) F s K) K).trans ?_
    simp only [ih]
    rfl
theorem lk39_0 {β : Type} (N : Nat) : lookL (E39 (β := β) N).loops (lp Try.f39 0).id = LS39_0 N := by kernel_rfl
theorem rk39_0 {β : Type} (N : Nat) : RoundsOK lay (E39 (β := β) N) (retMask Try.f39) (lp Try.f39 0) := by
  intro s K r h
  rw [lk39_0] at h
  unfold LS39_0 VLS39_0 at h
  cases hb : shpSt (h39_0_0 0 0 0 0 []) s with
  | true =>
    rw [hb, cond_true] at h
    exact ⟨N, by rw [← shpSt_ref hb, fl39_0_0 s]; exact (ro39_0_0 N  K N (intS (oneA (vT (nx tund s.tmps 1)))) (intS (oneA (vT (nx tund s.tmps 6)))) (intS (nx .und (cellsB (nx .dead s.blks 0)) 0)) (intS (nx .und (cellsB (nx .dead s.blks 0)) 1)) (rInts (rowB_ (nx .dead s.blks 1)))).trans h⟩
  | false =>
  rw [hb, cond_false] at h
  clear hb
  cases h
def BV_spec_DetectedBy_l2b {β : Type} (N : Nat) (q_spec_l29Stuck : (a0 : Int) → (a1 : Int) → (a2 : Int) → (a3 : Int) → (k : Int → Int → Option β) → Option β)  (v0 : Int) (v1 : Int) (v2 : Int) (v3 : Int) (v4 : Int) (v5 : List Int) (rec_ : Int → Int → Int → Int → Int → List Int → Option β) (k0 : Int → Int → Int → Int → List Int → Option β) : Option β :=
(cond ((decide (v2 < 2)))
(q_spec_l29Stuck v3 v4 v1 v2 fun r5 r6 =>
(gd ((decide (0 ≤ v0)))
((gd ((decide (0 ≤ v0)))
((cond (((bits .and .i64 (bits .xor .i64 (shrI .i64 v4 v0) (shrI .i64 r6 v0)) 1) == 1))
((gd ((decide ((v5.length + ((([] : List Int) ++ [(w64 ((w64 (2 * v1)) + v2))])).length) * 8 ≤ 140737488355328)))
(rec_ v0 v1 ((w64 (v2 + 1))) v3 v4 ((v5 ++ (([] : List Int) ++ [(w64 ((w64 (2 * v1)) + v2))]))))))
(rec_ v0 v1 ((w64 (v2 + 1))) v3 v4 v5)))))))
(k0 v0 v1 v3 v4 v5))
theorem t_spec_DetectedBy_l2b {β : Type} (N : Nat)  (v0 : Int) (v1 : Int) (v2 : Int) (v3 : Int) (v4 : Int) (v5 : List Int) (rec_ : Int → Int → Int → Int → Int → List Int → Option β) (k0 : Int → Int → Int → Int → List Int → Option β) : spec_DetectedBy_l2b N v0 v1 v2 v3 v4 v5 rec_ k0 = BV_spec_DetectedBy_l2b N (spec_l29Stuck N) v0 v1 v2 v3 v4 v5 rec_ k0 := by
  unfold spec_DetectedBy_l2b BV_spec_DetectedBy_l2b
  rfl
theorem vst39_1_0 {β : Type} (N : Nat) (q_spec_l9In : (a0 : Int) → (a1 : Int) → (a2 : Int) → (k : Bool → Option β) → Option β) (q_spec_l29Stuck : (a0 : Int) → (a1 : Int) → (a2 : Int) → (a3 : Int) → (k : Int → Int → Option β) → Option β) (q_spec_DetectedBy_l0 : Nat → Int → Int → Int → Int → List Int → (List Int → Option β) → Option β) (q_spec_DetectedBy_l2 : Nat → Int → Int → Int → Int → Int → List Int → (Int → Int → Int → Int → List Int → Option β) → Option β)  (v0 : Int) (v1 : Int) (v2 : Int) (v3 : Int) (v4 : Int) (v5 : List Int) (rec_ : St → Option β) (K : Exit → St → Option β) :
    ev lay (VE39 N q_spec_l9In q_spec_l29Stuck q_spec_DetectedBy_l0 q_spec_DetectedBy_l2) (retMask Try.f39) (lp Try.f39 1).body (lp Try.f39 1).ex ((lp Try.f39 1).lv (retMask Try.f39)) (h39_1_0  v0 v1 v2 v3 v4 v5) (nextR (fun s' => rec_ (s'.tidy ((lp Try.f39 1).lv (retMask Try.f39)))) K) = BV_spec_DetectedBy_l2b N q_spec_l29Stuck  v0 v1 v2 v3 v4 v5 (fun v0 v1 v2 v3 v4 v5 => rec_ (h39_1_0  v0 v1 v2 v3 v4 v5)) (fun y0 y1 y2 y3 y4 => K (.exit 2) (x39_1_0_k0  y0 y1 y2 y3 y4)) := by kernel_rfl
theorem st39_1_0 {β : Type} (N : Nat)  (v0 : Int) (v1 : Int) (v2 : Int) (v3 : Int) (v4 : Int) (v5 : List Int) (rec_ : St → Option β) (K : Exit → St → Option β) :
    ev lay (E39 N) (retMask Try.f39) (lp Try.f39 1).body (lp Try.f39 1).ex ((lp Try.f39 1).lv (retMask Try.f39)) (h39_1_0  v0 v1 v2 v3 v4 v5) (nextR (fun s' => rec_ (s'.tidy ((lp Try.f39 1).lv (retMask Try.f39)))) K) = spec_DetectedBy_l2b N  v0 v1 v2 v3 v4 v5 (fun v0 v1 v2 v3 v4 v5 => rec_ (h39_1_0  v0 v1 v2 v3 v4 v5)) (fun y0 y1 y2 y3 y4 => K (.exit 2) (x39_1_0_k0  y0 y1 y2 y3 y4)) := (vst39_1_0 N (spec_l9In N) (spec_l29Stuck N) (spec_DetectedBy_l0 N) (spec_DetectedBy_l2 N) v0 v1 v2 v3 v4 v5 rec_ K).trans (t_spec_DetectedBy_l2b N  v0 v1 v2 v3 v4 v5 (fun v0 v1 v2 v3 v4 v5 => rec_ (h39_1_0  v0 v1 v2 v3 v4 v5)) (fun y0 y1 y2 y3 y4 => K (.exit 2) (x39_1_0_k0  y0 y1 y2 y3 y4))).symm
theorem ro39_1_0 {β : Type} (N : Nat)  (K : Exit → St → Option β) : ∀ (F : Nat) (v0 : Int) (v1 : Int) (v2 : Int) (v3 : Int) (v4 : Int) (v5 : List Int), (lp Try.f39 1).rounds lay (E39 N) (retMask Try.f39) F (h39_1_0  v0 v1 v2 v3 v4 v5) K = spec_DetectedBy_l2 N  F v0 v1 v2 v3 v4 v5 (fun y0 y1 y2 y3 y4 => K (.exit 2) (x39_1_0_k0  y0 y1 y2 y3 y4)) := by
  intro F
  induction F with
  | zero => intros; rfl
  | succ F ih =>
    intros
    rw [rounds_next]
    refine (st39_1_0 N  _ _ _ _ _ _ (fun s => (lp Try.f39 1).rounds lay (E39 N) (retMask Try.f39) F s K) K).trans ?_
    simp only [ih]
    rfl
theorem lk39_2 {β : Type} (N : Nat) : lookL (E39 (β := β) N).loops (lp Try.f39 1).id = LS39_2 N := by kernel_rfl
theorem rk39_2 {β : Type} (N : Nat) : RoundsOK lay (E39 (β := β) N) (retMask Try.f39) (lp Try.f39 1) := by
  intro s K r h
  rw [lk39_2] at h
  unfold LS39_2 VLS39_2 at h
  cases hb : shpSt (h39_1_0 0 0 0 0 0 []) s with
  | true =>
    rw [hb, cond_true] at h
    exact ⟨N, by rw [← shpSt_ref hb, fl39_1_0 s]; exact (ro39_1_0 N  K N (intS (oneA (vT (nx tund s.tmps 1)))) (intS (oneA (vT (nx tund s.tmps 6)))) (intS (oneA (vT (nx tund s.tmps 7)))) (intS (nx .und (cellsB (nx .dead s.blks 0)) 0)) (intS (nx .und (cellsB (nx .dead s.blks 0)) 1)) (rInts (rowB_ (nx .dead s.blks 1)))).trans h⟩
  | false =>
  rw [hb, cond_false] at h
  clear hb
  cases h
def BV_spec_DetectedBy {β : Type} (N : Nat) (q_spec_DetectedBy_l0 : Nat → Int → Int → Int → Int → List Int → (List Int → Option β) → Option β) (a0 : Int) (a1 : Int) (a2 : Int) (k : List Int → Option β) : Option β :=
q_spec_DetectedBy_l0  N a2 0 a0 a1 (([] : List Int)) (fun e8_0 =>
k e8_0)
theorem t_spec_DetectedBy {β : Type} (N : Nat) (a0 : Int) (a1 : Int) (a2 : Int) (k : List Int → Option β) : spec_DetectedBy N a0 a1 a2 k = BV_spec_DetectedBy N (spec_DetectedBy_l0 N) a0 a1 a2 k := by
  unfold spec_DetectedBy BV_spec_DetectedBy
  rfl
theorem ve39_0 {β : Type} (N : Nat) (q_spec_l9In : (a0 : Int) → (a1 : Int) → (a2 : Int) → (k : Bool → Option β) → Option β) (q_spec_l29Stuck : (a0 : Int) → (a1 : Int) → (a2 : Int) → (a3 : Int) → (k : Int → Int → Option β) → Option β) (q_spec_DetectedBy_l0 : Nat → Int → Int → Int → Int → List Int → (List Int → Option β) → Option β) (q_spec_DetectedBy_l2 : Nat → Int → Int → Int → Int → Int → List Int → (Int → Int → Int → Int → List Int → Option β) → Option β)  (a0 : Int) (a1 : Int) (a2 : Int) (K : TV → Option β) : evFn lay (VE39 N q_spec_l9In q_spec_l29Stuck q_spec_DetectedBy_l0 q_spec_DetectedBy_l2) Try.f39 [.v (.agg [.int .i64 a0, .int .i64 a1]), .v (.one (.int .i64 a2))] K = BV_spec_DetectedBy N q_spec_DetectedBy_l0 a0 a1 a2 (fun z3 => K (.v (.one (.sl 3 (.ints .i64 z3))))) := by kernel_rfl
theorem e39_0 {β : Type} (N : Nat)  (a0 : Int) (a1 : Int) (a2 : Int) (K : TV → Option β) : evFn lay (E39 N) Try.f39 [.v (.agg [.int .i64 a0, .int .i64 a1]), .v (.one (.int .i64 a2))] K = spec_DetectedBy N a0 a1 a2 (fun z3 => K (.v (.one (.sl 3 (.ints .i64 z3))))) := (ve39_0 N (spec_l9In N) (spec_l29Stuck N) (spec_DetectedBy_l0 N) (spec_DetectedBy_l2 N) a0 a1 a2 K).trans (t_spec_DetectedBy N a0 a1 a2 (fun z3 => K (.v (.one (.sl 3 (.ints .i64 z3)))))).symm
theorem o39 {β : Type} (N : Nat) : SpecOK (β := β) Try.prog 39 (S39 N) := by
  refine spec_of lay_ok mixed (E := E39 N) (specs_loops (specs_cons (o58 N) (specs_cons (o90 N) specs_nil))) muts_nil gs_nil Try.func39 (by kernel_rfl) 2 (by kernel_rfl) ⟨⟨trivial, rk39_0 N⟩, rk39_2 N⟩ fun args K r h => ?_
  unfold S39 VS39 at h
  split at h
  · exact (e39_0 N _ _ _ _).trans h
  · cases h
def VS91 {β : Type} (N : Nat) (q_impl_Table_sensitivity : (a0 : Int) → (a1 : Int) → (a2 : Int) → (k : Int → Option β) → Option β) : Rv.Spec β := fun args K => match args with
  | [.v (.agg [.int .i64 a0, .int .i64 a1]), .v (.one (.int .i64 a2))] => q_impl_Table_sensitivity a0 a1 a2 (fun z3 => K (.v (.one (.int .i64 z3))))
  | _ => none
def S91 {β : Type} (N : Nat) : Rv.Spec β := VS91 N (impl_Table_sensitivity N)
def h91_0_0  (v0 : Int) (v1 : Int) (v2 : Int) (v3 : Int) (v4 : Int) (v5 : Int) : St := ⟨.v (.one .und) :: .v (.one (.int .i64 v0)) :: .v (.one (.ptr 0 0)) :: .v (.one .und) :: .v (.one .und) :: .v (.one (.int .i64 v1)) :: .v (.one .und) :: .v (.one .und) :: .v (.one (.int .i64 v2)) :: .v (.one (.int .i64 v3)) :: .v (.one .und) :: .v (.one .und) :: .v (.one .und) :: .v (.one .und) :: .v (.one .und) :: .v (.one .und) :: .v (.one .und) :: .v (.one .und) :: .v (.one .und) :: .v (.one .und) :: .v (.one .und) :: [], [.cells 25 [.int .i64 v4, .int .i64 v5]]⟩
def x91_0_0_k0  (y0 : Int) : St := ⟨.v (.one .und) :: .v (.one .und) :: .v (.one .und) :: .v (.one .und) :: .v (.one .und) :: .v (.one (.int .i64 y0)) :: .v (.one .und) :: .v (.one .und) :: .v (.one .und) :: .v (.one .und) :: .v (.one .und) :: .v (.one .und) :: .v (.one .und) :: .v (.one .und) :: .v (.one .und) :: .v (.one .und) :: .v (.one .und) :: .v (.one .und) :: .v (.one .und) :: .v (.one .und) :: .v (.one .und) :: [], []⟩
theorem fl91_0_0 (s : St) : refSt (h91_0_0 0 0 0 0 0 0) s = h91_0_0 (intS (oneA (vT (nx tund s.tmps 1)))) (intS (oneA (vT (nx tund s.tmps 5)))) (intS (oneA (vT (nx tund s.tmps 8)))) (intS (oneA (vT (nx tund s.tmps 9)))) (intS (nx .und (cellsB (nx .dead s.blks 0)) 0)) (intS (nx .und (cellsB (nx .dead s.blks 0)) 1)) := by kernel_rfl
def VLS91_0 {β : Type} (N : Nat) (q_impl_Table_sensitivity_l0 : Nat → Int → Int → Int → Int → Int → Int → (Int → Option β) → Option β) : LSpec β := fun s K => cond (shpSt (h91_0_0 0 0 0 0 0 0) s) ((fun (v0 : Int) (v1 : Int) (v2 : Int) (v3 : Int) (v4 : Int) (v5 : Int) => q_impl_Table_sensitivity_l0  N v0 v1 v2 v3 v4 v5 (fun y0 => K (.exit 0) (x91_0_0_k0  y0))) (intS (oneA (vT (nx tund s.tmps 1)))) (intS (oneA (vT (nx tund s.tmps 5)))) (intS (oneA (vT (nx tund s.tmps 8)))) (intS (oneA (vT (nx tund s.tmps 9)))) (intS (nx .und (cellsB (nx .dead s.blks 0)) 0)) (intS (nx .und (cellsB (nx .dead s.blks 0)) 1))) (none)
def LS91_0 {β : Type} (N : Nat) : LSpec β := VLS91_0 N (impl_Table_sensitivity_l0 N)
def VE91 {β : Type} (N : Nat) (q_impl_Table_changes : (a0 : Int) → (a1 : Int) → (a2 : Int) → (a3 : Int) → (k : Bool → Option β) → Option β) (q_impl_Table_sensitivity_l0 : Nat → Int → Int → Int → Int → Int → Int → (Int → Option β) → Option β) : Env β := ⟨[(115, VS115 N q_impl_Table_changes)], [], [(0, VLS91_0 N q_impl_Table_sensitivity_l0)], []⟩
def E91 {β : Type} (N : Nat) : Env β := VE91 N (impl_Table_changes N) (impl_Table_sensitivity_l0 N)
def BV_impl_Table_sensitivity_l0b {β : Type} (N : Nat) (q_impl_Table_changes : (a0 : Int) → (a1 : Int) → (a2 : Int) → (a3 : Int) → (k : Bool → Option β) → Option β)  (v0 : Int) (v1 : Int) (v2 : Int) (v3 : Int) (v4 : Int) (v5 : Int) (rec_ : Int → Int → Int → Int → Int → Int → Option β) (k0 : Int → Option β) : Option β :=
(cond ((decide (v3 < v2)))
((gd ((decide (0 ≤ v3)))
(q_impl_Table_changes v4 v5 v0 ((shlI .i64 1 v3)) fun r4 =>
(cond r4
(rec_ v0 ((w64 (v1 + 1))) v2 ((w64 (v3 + 1))) v4 v5)
(rec_ v0 v1 v2 ((w64 (v3 + 1))) v4 v5)))))
(k0 v1))
theorem t_impl_Table_sensitivity_l0b {β : Type} (N : Nat)  (v0 : Int) (v1 : Int) (v2 : Int) (v3 : Int) (v4 : Int) (v5 : Int) (rec_ : Int → Int → Int → Int → Int → Int → Option β) (k0 : Int → Option β) : impl_Table_sensitivity_l0b N v0 v1 v2 v3 v4 v5 rec_ k0 = BV_impl_Table_sensitivity_l0b N (impl_Table_changes N) v0 v1 v2 v3 v4 v5 rec_ k0 := by
  unfold impl_Table_sensitivity_l0b BV_impl_Table_sensitivity_l0b
  rfl
theorem vst91_0_0 {β : Type} (N : Nat) (q_impl_Table_changes : (a0 : Int) → (a1 : Int) → (a2 : Int) → (a3 : Int) → (k : Bool → Option β) → Option β) (q_impl_Table_sensitivity_l0 : Nat → Int → Int → Int → Int → Int → Int → (Int → Option β) → Option β)  (v0 : Int) (v1 : Int) (v2 : Int) (v3 : Int) (v4 : Int) (v5 : Int) (rec_ : St → Option β) (K : Exit → St → Option β) :
    ev lay (VE91 N q_impl_Table_changes q_impl_Table_sensitivity_l0) (retMask Try.f91) (lp Try.f91 0).body (lp Try.f91 0).ex ((lp Try.f91 0).lv (retMask Try.f91)) (h91_0_0  v0 v1 v2 v3 v4 v5) (nextR (fun s' => rec_ (s'.tidy ((lp Try.f91 0).lv (retMask Try.f91)))) K) = BV_impl_Table_sensitivity_l0b N q_impl_Table_changes  v0 v1 v2 v3 v4 v5 (fun v0 v1 v2 v3 v4 v5 => rec_ (h91_0_0  v0 v1 v2 v3 v4 v5)) (fun y0 => K (.exit 0) (x91_0_0_k0  y0)) := by kernel_rfl
theorem st91_0_0 {β : Type} (N : Nat)  (v0 : Int) (v1 : Int) (v2 : Int) (v3 : Int) (v4 : Int) (v5 : Int) (rec_ : St → Option β) (K : Exit → St → Option β) :
    ev lay (E91 N) (retMask Try.f91) (lp Try.f91 0).body (lp Try.f91 0).ex ((lp Try.f91 0).lv (retMask Try.f91)) (h91_0_0  v0 v1 v2 v3 v4 v5) (nextR (fun s' => rec_ (s'.tidy ((lp Try.f91 0).lv (retMask Try.f91)))) K) = impl_Table_sensitivity_l0b N  v0 v1 v2 v3 v4 v5 (fun v0 v1 v2 v3 v4 v5 => rec_ (h91_0_0  v0 v1 v2 v3 v4 v5)) (fun y0 => K (.exit 0) (x91_0_0_k0  y0)) := (vst91_0_0 N (impl_Table_changes N) (impl_Table_sensitivity_l0 N) v0 v1 v2 v3 v4 v5 rec_ K).trans (t_impl_Table_sensitivity_l0b N  v0 v1 v2 v3 v4 v5 (fun v0 v1 v2 v3 v4 v5 => rec_ (h91_0_0  v0 v1 v2 v3 v4 v5)) (fun y0 => K (.exit 0) (x91_0_0_k0  y0))).symm
theorem ro91_0_0 {β : Type} (N : Nat)  (K : Exit → St → Option β) : ∀ (F : Nat) (v0 : Int) (v1 : Int) (v2 : Int) (v3 : Int) (v4 : Int) (v5 : Int), (lp Try.f91 0).rounds lay (E91 N) (retMask Try.f91) F (h91_0_0  v0 v1 v2 v3 v4 v5) K = impl_Table_sensitivity_l0 N  F v0 v1 v2 v3 v4 v5 (fun y0 => K (.exit 0) (x91_0_0_k0  y0)) := by
  intro F
  induction F with
  | zero => intros; rfl
  | succ F ih =>
    intros
    rw [rounds_next]
    refine (st91_0_0 N  _ _ _ _ _ _ (fun s => (lp Try.f91 0).rounds lay (E91 N) (retMask Try.f91) F s K) K).trans ?_
    simp only [ih]
    rfl
theorem lk91_0 {β : Type} (N : Nat) : lookL (E91 (β := β) N).loops (lp Try.f91 0).id = LS91_0 N := by kernel_rfl
theorem rk91_0 {β : Type} (N : Nat) : RoundsOK lay (E91 (β := β) N) (retMask Try.f91) (lp Try.f91 0) := by
  intro s K r h
  rw [lk91_0] at h
  unfold LS91_0 VLS91_0 at h
  cases hb : shpSt (h91_0_0 0 0 0 0 0 0) s with
  | true =>
    rw [hb, cond_true] at h
    exact ⟨N, by rw [← shpSt_ref hb, fl91_0_0 s]; exact (ro91_0_0 N  K N (intS (oneA (vT (nx tund s.tmps 1)))) (intS (oneA (vT (nx tund s.tmps 5)))) (intS (oneA (vT (nx tund s.tmps 8)))) (intS (oneA (vT (nx tund s.tmps 9)))) (intS (nx .und (cellsB (nx .dead s.blks 0)) 0)) (intS (nx .und (cellsB (nx .dead s.blks 0)) 1))).trans h⟩
  | false =>
  rw [hb, cond_false] at h
  clear hb
  cases h
def BV_impl_Table_sensitivity {β : Type} (N : Nat) (q_impl_Table_sensitivity_l0 : Nat → Int → Int → Int → Int → Int → Int → (Int → Option β) → Option β) (a0 : Int) (a1 : Int) (a2 : Int) (k : Int → Option β) : Option β :=
q_impl_Table_sensitivity_l0  N a2 0 a0 0 a0 a1 (fun e5_0 =>
k e5_0)
theorem t_impl_Table_sensitivity {β : Type} (N : Nat) (a0 : Int) (a1 : Int) (a2 : Int) (k : Int → Option β) : impl_Table_sensitivity N a0 a1 a2 k = BV_impl_Table_sensitivity N (impl_Table_sensitivity_l0 N) a0 a1 a2 k := by
  unfold impl_Table_sensitivity BV_impl_Table_sensitivity
  rfl
theorem ve91_0 {β : Type} (N : Nat) (q_impl_Table_changes : (a0 : Int) → (a1 : Int) → (a2 : Int) → (a3 : Int) → (k : Bool → Option β) → Option β) (q_impl_Table_sensitivity_l0 : Nat → Int → Int → Int → Int → Int → Int → (Int → Option β) → Option β)  (a0 : Int) (a1 : Int) (a2 : Int) (K : TV → Option β) : evFn lay (VE91 N q_impl_Table_changes q_impl_Table_sensitivity_l0) Try.f91 [.v (.agg [.int .i64 a0, .int .i64 a1]), .v (.one (.int .i64 a2))] K = BV_impl_Table_sensitivity N q_impl_Table_sensitivity_l0 a0 a1 a2 (fun z3 => K (.v (.one (.int .i64 z3)))) := by kernel_rfl
theorem e91_0 {β : Type} (N : Nat)  (a0 : Int) (a1 : Int) (a2 : Int) (K : TV → Option β) : evFn lay (E91 N) Try.f91 [.v (.agg [.int .i64 a0, .int .i64 a1]), .v (.one (.int .i64 a2))] K = impl_Table_sensitivity N a0 a1 a2 (fun z3 => K (.v (.one (.int .i64 z3)))) := (ve91_0 N (impl_Table_changes N) (impl_Table_sensitivity_l0 N) a0 a1 a2 K).trans (t_impl_Table_sensitivity N a0 a1 a2 (fun z3 => K (.v (.one (.int .i64 z3))))).symm
theorem o91 {β : Type} (N : Nat) : SpecOK (β := β) Try.prog 91 (S91 N) := by
  refine spec_of lay_ok mixed (E := E91 N) (specs_loops (specs_cons (o115 N) specs_nil)) muts_nil gs_nil Try.func91 (by kernel_rfl) 1 (by kernel_rfl) ⟨trivial, rk91_0 N⟩ fun args K r h => ?_
  unfold S91 VS91 at h
  split at h
  · exact (e91_0 N _ _ _ _).trans h
  · cases h
def VS40 {β : Type} (N : Nat) (q_impl_SensitivityAt : (a0 : Int) → (a1 : Int) → (a2 : Int) → (k : Int → Option β) → Option β) : Rv.Spec β := fun args K => match args with
  | [.v (.agg [.int .i64 a0, .int .i64 a1]), .v (.one (.int .i64 a2))] => q_impl_SensitivityAt a0 a1 a2 (fun z3 => K (.v (.one (.int .i64 z3))))
  | _ => none
def S40 {β : Type} (N : Nat) : Rv.Spec β := VS40 N (impl_SensitivityAt N)
def VE40 {β : Type} (N : Nat) (q_impl_hasInput : (a0 : Int) → (a1 : Int) → (a2 : Int) → (k : Bool → Option β) → Option β) (q_impl_Table_sensitivity : (a0 : Int) → (a1 : Int) → (a2 : Int) → (k : Int → Option β) → Option β) : Env β := ⟨[(79, VS79 N q_impl_hasInput), (91, VS91 N q_impl_Table_sensitivity)], [], [], []⟩
def E40 {β : Type} (N : Nat) : Env β := VE40 N (impl_hasInput N) (impl_Table_sensitivity N)
def BV_impl_SensitivityAt {β : Type} (N : Nat) (q_impl_hasInput : (a0 : Int) → (a1 : Int) → (a2 : Int) → (k : Bool → Option β) → Option β) (q_impl_Table_sensitivity : (a0 : Int) → (a1 : Int) → (a2 : Int) → (k : Int → Option β) → Option β) (a0 : Int) (a1 : Int) (a2 : Int) (k : Int → Option β) : Option β :=
q_impl_hasInput a0 a1 a2 fun r4 =>
(cond (!r4)
(k (-1))
(q_impl_Table_sensitivity a0 a1 a2 fun r5 =>
k r5))
theorem t_impl_SensitivityAt {β : Type} (N : Nat) (a0 : Int) (a1 : Int) (a2 : Int) (k : Int → Option β) : impl_SensitivityAt N a0 a1 a2 k = BV_impl_SensitivityAt N (impl_hasInput N) (impl_Table_sensitivity N) a0 a1 a2 k := by
  unfold impl_SensitivityAt BV_impl_SensitivityAt
  rfl
theorem ve40_0 {β : Type} (N : Nat) (q_impl_hasInput : (a0 : Int) → (a1 : Int) → (a2 : Int) → (k : Bool → Option β) → Option β) (q_impl_Table_sensitivity : (a0 : Int) → (a1 : Int) → (a2 : Int) → (k : Int → Option β) → Option β)  (a0 : Int) (a1 : Int) (a2 : Int) (K : TV → Option β) : evFn lay (VE40 N q_impl_hasInput q_impl_Table_sensitivity) Try.f40 [.v (.agg [.int .i64 a0, .int .i64 a1]), .v (.one (.int .i64 a2))] K = BV_impl_SensitivityAt N q_impl_hasInput q_impl_Table_sensitivity a0 a1 a2 (fun z3 => K (.v (.one (.int .i64 z3)))) := by kernel_rfl
theorem e40_0 {β : Type} (N : Nat)  (a0 : Int) (a1 : Int) (a2 : Int) (K : TV → Option β) : evFn lay (E40 N) Try.f40 [.v (.agg [.int .i64 a0, .int .i64 a1]), .v (.one (.int .i64 a2))] K = impl_SensitivityAt N a0 a1 a2 (fun z3 => K (.v (.one (.int .i64 z3)))) := (ve40_0 N (impl_hasInput N) (impl_Table_sensitivity N) a0 a1 a2 K).trans (t_impl_SensitivityAt N a0 a1 a2 (fun z3 => K (.v (.one (.int .i64 z3))))).symm
theorem o40 {β : Type} (N : Nat) : SpecOK (β := β) Try.prog 40 (S40 N) := by
  refine spec_of lay_ok mixed (E := E40 N) (specs_loops (specs_cons (o79 N) (specs_cons (o91 N) specs_nil))) muts_nil gs_nil Try.func40 (by kernel_rfl) 0 (by kernel_rfl) trivial fun args K r h => ?_
  unfold S40 VS40 at h
  split at h
  · exact (e40_0 N _ _ _ _).trans h
  · cases h
def VS41 {β : Type} (N : Nat) (q_spec_DrawIsTestSet : (a0 : List Int) → (k : Int → Int → List Int → Option β) → Option β) : Rv.Spec β := fun args K => match args with
  | [.v (.one (.sl 5 (.ints .u8 a0)))] => q_spec_DrawIsTestSet a0 (fun z1 z2 z3 => K (.tup [.agg [.int .i64 z1, .int .i64 z2], .one (.sl 3 (.ints .i64 z3))]))
  | _ => none
def S41 {β : Type} (N : Nat) : Rv.Spec β := VS41 N (spec_DrawIsTestSet N)
def VE41 {β : Type} (N : Nat) (q_spec_LeastTestSet : (a0 : Int) → (a1 : Int) → (k : List Int → Bool → Option β) → Option β) (q_spec_l1New_g0 : (a0 : List Int) → (k0 : List Int → Int → Int → Option β) → Option β) (q_spec_l22Small_g0 : (a0 : List Int) → (a1 : Int) → (a2 : Int) → (k0 : Int → Int → List Int → Int → Int → Option β) → Option β) (q_spec_l1Once_g0 : (a0 : Int) → (a1 : List Int) → (a2 : Int) → (a3 : Int) → (k0 : Bool → List Int → Int → Int → Option β) → Option β) (q_spec_l1Below_g0 : (a0 : Int) → (a1 : List Int) → (a2 : Int) → (a3 : Int) → (k0 : Int → List Int → Int → Int → Option β) → Option β) : Env β := ⟨[(34, VS34 N q_spec_LeastTestSet)], [], [], [(55, VS55 N q_spec_l1New_g0), (80, VS80 N q_spec_l22Small_g0), (65, VS65 N q_spec_l1Once_g0), (57, VS57 N q_spec_l1Below_g0)]⟩
def E41 {β : Type} (N : Nat) : Env β := VE41 N (spec_LeastTestSet N) (spec_l1New_g0 N) (spec_l22Small_g0 N) (spec_l1Once_g0 N) (spec_l1Below_g0 N)
def BV_spec_DrawIsTestSet {β : Type} (N : Nat) (q_spec_l1New_g0 : (a0 : List Int) → (k0 : List Int → Int → Int → Option β) → Option β) (q_spec_l22Small_g0 : (a0 : List Int) → (a1 : Int) → (a2 : Int) → (k0 : Int → Int → List Int → Int → Int → Option β) → Option β) (q_spec_LeastTestSet : (a0 : Int) → (a1 : Int) → (k : List Int → Bool → Option β) → Option β) (q_spec_l1Once_g0 : (a0 : Int) → (a1 : List Int) → (a2 : Int) → (a3 : Int) → (k0 : Bool → List Int → Int → Int → Option β) → Option β) (q_spec_l1Below_g0 : (a0 : Int) → (a1 : List Int) → (a2 : Int) → (a3 : Int) → (k0 : Int → List Int → Int → Int → Option β) → Option β) (a0 : List Int) (k : Int → Int → List Int → Option β) : Option β :=
q_spec_l1New_g0 a0 (fun r4_0 r4_1 r4_2 =>
q_spec_l22Small_g0 r4_0 r4_1 r4_2 (fun r5_0 r5_1 r5_2 r5_3 r5_4 =>
q_spec_LeastTestSet r5_0 r5_1 fun r6 r7 =>
(cond r7
(q_spec_l1Once_g0 3 r5_2 r5_3 r5_4 (fun r8_0 r8_1 r8_2 r8_3 =>
(cond (!r8_0)
(k r5_0 r5_1 r6)
(q_spec_l1Below_g0 9 r8_1 r8_2 r8_3 (fun r9_0 r9_1 r9_2 r9_3 =>
q_spec_l1Below_g0 8 r9_1 r9_2 r9_3 (fun r10_0 r10_1 r10_2 r10_3 =>
q_spec_l1Below_g0 8 r10_1 r10_2 r10_3 (fun r11_0 r11_1 r11_2 r11_3 =>
(spec_DrawIsTestSet_s6 r5_0 r5_1 ((((([] : List Int) ++ [(w64 (r9_0 - 1))]) ++ [r10_0]) ++ [r11_0]))
(k r5_0 r5_1 ((((([] : List Int) ++ [(w64 (r9_0 - 1))]) ++ [r10_0]) ++ [r11_0])))))))))))
(q_spec_l1Below_g0 9 r5_2 r5_3 r5_4 (fun r12_0 r12_1 r12_2 r12_3 =>
q_spec_l1Below_g0 8 r12_1 r12_2 r12_3 (fun r13_0 r13_1 r13_2 r13_3 =>
q_spec_l1Below_g0 8 r13_1 r13_2 r13_3 (fun r14_0 r14_1 r14_2 r14_3 =>
(spec_DrawIsTestSet_s6 r5_0 r5_1 ((((([] : List Int) ++ [(w64 (r12_0 - 1))]) ++ [r13_0]) ++ [r14_0]))
(k r5_0 r5_1 ((((([] : List Int) ++ [(w64 (r12_0 - 1))]) ++ [r13_0]) ++ [r14_0])))))))))))
theorem t_spec_DrawIsTestSet {β : Type} (N : Nat) (a0 : List Int) (k : Int → Int → List Int → Option β) : spec_DrawIsTestSet N a0 k = BV_spec_DrawIsTestSet N (spec_l1New_g0 N) (spec_l22Small_g0 N) (spec_LeastTestSet N) (spec_l1Once_g0 N) (spec_l1Below_g0 N) a0 k := by
  unfold spec_DrawIsTestSet BV_spec_DrawIsTestSet
  rfl
theorem ve41_0 {β : Type} (N : Nat) (q_spec_LeastTestSet : (a0 : Int) → (a1 : Int) → (k : List Int → Bool → Option β) → Option β) (q_spec_l1New_g0 : (a0 : List Int) → (k0 : List Int → Int → Int → Option β) → Option β) (q_spec_l22Small_g0 : (a0 : List Int) → (a1 : Int) → (a2 : Int) → (k0 : Int → Int → List Int → Int → Int → Option β) → Option β) (q_spec_l1Once_g0 : (a0 : Int) → (a1 : List Int) → (a2 : Int) → (a3 : Int) → (k0 : Bool → List Int → Int → Int → Option β) → Option β) (q_spec_l1Below_g0 : (a0 : Int) → (a1 : List Int) → (a2 : Int) → (a3 : Int) → (k0 : Int → List Int → Int → Int → Option β) → Option β)  (a0 : List Int) (K : TV → Option β) : evFn lay (VE41 N q_spec_LeastTestSet q_spec_l1New_g0 q_spec_l22Small_g0 q_spec_l1Once_g0 q_spec_l1Below_g0) Try.f41 [.v (.one (.sl 5 (.ints .u8 a0)))] K = BV_spec_DrawIsTestSet N q_spec_l1New_g0 q_spec_l22Small_g0 q_spec_LeastTestSet q_spec_l1Once_g0 q_spec_l1Below_g0 a0 (fun z1 z2 z3 => K (.tup [.agg [.int .i64 z1, .int .i64 z2], .one (.sl 3 (.ints .i64 z3))])) := by kernel_rfl
theorem e41_0 {β : Type} (N : Nat)  (a0 : List Int) (K : TV → Option β) : evFn lay (E41 N) Try.f41 [.v (.one (.sl 5 (.ints .u8 a0)))] K = spec_DrawIsTestSet N a0 (fun z1 z2 z3 => K (.tup [.agg [.int .i64 z1, .int .i64 z2], .one (.sl 3 (.ints .i64 z3))])) := (ve41_0 N (spec_LeastTestSet N) (spec_l1New_g0 N) (spec_l22Small_g0 N) (spec_l1Once_g0 N) (spec_l1Below_g0 N) a0 K).trans (t_spec_DrawIsTestSet N a0 (fun z1 z2 z3 => K (.tup [.agg [.int .i64 z1, .int .i64 z2], .one (.sl 3 (.ints .i64 z3))]))).symm
theorem o41 {β : Type} (N : Nat) : SpecOK (β := β) Try.prog 41 (S41 N) := by
  refine spec_of lay_ok mixed (E := E41 N) (specs_loops (specs_cons (o34 N) specs_nil)) muts_nil (gs_cons (o55 N) (gs_cons (o80 N) (gs_cons (o65 N) (gs_cons (o57 N) gs_nil)))) Try.func41 (by kernel_rfl) 0 (by kernel_rfl) trivial fun args K r h => ?_
  unfold S41 VS41 at h
  split at h
  · exact (e41_0 N _ _).trans h
  · cases h
def VS42 {β : Type} (N : Nat) (q_spec_DrawStuckTable : (a0 : List Int) → (k : Int → Int → Int → Int → Option β) → Option β) : Rv.Spec β := fun args K => match args with
  | [.v (.one (.sl 5 (.ints .u8 a0)))] => q_spec_DrawStuckTable a0 (fun z1 z2 z3 z4 => K (.tup [.agg [.int .i64 z1, .int .i64 z2], .one (.int .i64 z3), .one (.int .i64 z4)]))
  | _ => none
def S42 {β : Type} (N : Nat) : Rv.Spec β := VS42 N (spec_DrawStuckTable N)
def VE42 {β : Type} (N : Nat) (q_spec_DrawRestrictTable : (a0 : List Int) → (k : Int → Int → Int → Int → Option β) → Option β) : Env β := ⟨[(73, VS73 N q_spec_DrawRestrictTable)], [], [], []⟩
def E42 {β : Type} (N : Nat) : Env β := VE42 N (spec_DrawRestrictTable N)
def BV_spec_DrawStuckTable {β : Type} (N : Nat) (q_spec_DrawRestrictTable : (a0 : List Int) → (k : Int → Int → Int → Int → Option β) → Option β) (a0 : List Int) (k : Int → Int → Int → Int → Option β) : Option β :=
q_spec_DrawRestrictTable a0 fun r5 r6 r7 r8 =>
k r5 r6 r7 r8
theorem t_spec_DrawStuckTable {β : Type} (N : Nat) (a0 : List Int) (k : Int → Int → Int → Int → Option β) : spec_DrawStuckTable N a0 k = BV_spec_DrawStuckTable N (spec_DrawRestrictTable N) a0 k := by
  unfold spec_DrawStuckTable BV_spec_DrawStuckTable
  rfl
theorem ve42_0 {β : Type} (N : Nat) (q_spec_DrawRestrictTable : (a0 : List Int) → (k : Int → Int → Int → Int → Option β) → Option β)  (a0 : List Int) (K : TV → Option β) : evFn lay (VE42 N q_spec_DrawRestrictTable) Try.f42 [.v (.one (.sl 5 (.ints .u8 a0)))] K = BV_spec_DrawStuckTable N q_spec_DrawRestrictTable a0 (fun z1 z2 z3 z4 => K (.tup [.agg [.int .i64 z1, .int .i64 z2], .one (.int .i64 z3), .one (.int .i64 z4)])) := by kernel_rfl
theorem e42_0 {β : Type} (N : Nat)  (a0 : List Int) (K : TV → Option β) : evFn lay (E42 N) Try.f42 [.v (.one (.sl 5 (.ints .u8 a0)))] K = spec_DrawStuckTable N a0 (fun z1 z2 z3 z4 => K (.tup [.agg [.int .i64 z1, .int .i64 z2], .one (.int .i64 z3), .one (.int .i64 z4)])) := (ve42_0 N (spec_DrawRestrictTable N) a0 K).trans (t_spec_DrawStuckTable N a0 (fun z1 z2 z3 z4 => K (.tup [.agg [.int .i64 z1, .int .i64 z2], .one (.int .i64 z3), .one (.int .i64 z4)]))).symm
theorem o42 {β : Type} (N : Nat) : SpecOK (β := β) Try.prog 42 (S42 N) := by
  refine spec_of lay_ok mixed (E := E42 N) (specs_loops (specs_cons (o73 N) specs_nil)) muts_nil gs_nil Try.func42 (by kernel_rfl) 0 (by kernel_rfl) trivial fun args K r h => ?_
  unfold S42 VS42 at h
  split at h
  · exact (e42_0 N _ _).trans h
  · cases h
def VS43 {β : Type} (N : Nat) (q_impl_StuckTable : (a0 : Int) → (a1 : Int) → (a2 : Int) → (a3 : Int) → (k : Int → Int → Bool → Option β) → Option β) : Rv.Spec β := fun args K => match args with
  | [.v (.agg [.int .i64 a0, .int .i64 a1]), .v (.one (.int .i64 a2)), .v (.one (.int .i64 a3))] => q_impl_StuckTable a0 a1 a2 a3 (fun z4 z5 z6 => K (.tup [.agg [.int .i64 z4, .int .i64 z5], .one (.bool z6)]))
  | _ => none
def S43 {β : Type} (N : Nat) : Rv.Spec β := VS43 N (impl_StuckTable N)
def VE43 {β : Type} (N : Nat) (q_impl_hasVariable : (a0 : Int) → (a1 : Int) → (a2 : Int) → (k : Bool → Option β) → Option β) (q_impl_isBit : (a0 : Int) → (k : Bool → Option β) → Option β) (q_impl_Table_stuck : (a0 : Int) → (a1 : Int) → (a2 : Int) → (a3 : Int) → (k : Int → Int → Option β) → Option β) : Env β := ⟨[(74, VS74 N q_impl_hasVariable), (75, VS75 N q_impl_isBit), (92, VS92 N q_impl_Table_stuck)], [], [], []⟩
def E43 {β : Type} (N : Nat) : Env β := VE43 N (impl_hasVariable N) (impl_isBit N) (impl_Table_stuck N)
def BV_impl_StuckTable {β : Type} (N : Nat) (q_impl_hasVariable : (a0 : Int) → (a1 : Int) → (a2 : Int) → (k : Bool → Option β) → Option β) (q_impl_isBit : (a0 : Int) → (k : Bool → Option β) → Option β) (q_impl_Table_stuck : (a0 : Int) → (a1 : Int) → (a2 : Int) → (a3 : Int) → (k : Int → Int → Option β) → Option β) (a0 : Int) (a1 : Int) (a2 : Int) (a3 : Int) (k : Int → Int → Bool → Option β) : Option β :=
q_impl_hasVariable a0 a1 a2 fun r7 =>
(cond (!r7)
(k 0 0 false)
(q_impl_isBit a3 fun r8 =>
(cond (!r8)
(k 0 0 false)
(q_impl_Table_stuck a0 a1 a2 a3 fun r9 r10 =>
k r9 r10 true))))
theorem t_impl_StuckTable {β : Type} (N : Nat) (a0 : Int) (a1 : Int) (a2 : Int) (a3 : Int) (k : Int → Int → Bool → Option β) : impl_StuckTable N a0 a1 a2 a3 k = BV_impl_StuckTable N (impl_hasVariable N) (impl_isBit N) (impl_Table_stuck N) a0 a1 a2 a3 k := by
  unfold impl_StuckTable BV_impl_StuckTable
  rfl
theorem ve43_0 {β : Type} (N : Nat) (q_impl_hasVariable : (a0 : Int) → (a1 : Int) → (a2 : Int) → (k : Bool → Option β) → Option β) (q_impl_isBit : (a0 : Int) → (k : Bool → Option β) → Option β) (q_impl_Table_stuck : (a0 : Int) → (a1 : Int) → (a2 : Int) → (a3 : Int) → (k : Int → Int → Option β) → Option β)  (a0 : Int) (a1 : Int) (a2 : Int) (a3 : Int) (K : TV → Option β) : evFn lay (VE43 N q_impl_hasVariable q_impl_isBit q_impl_Table_stuck) Try.f43 [.v (.agg [.int .i64 a0, .int .i64 a1]), .v (.one (.int .i64 a2)), .v (.one (.int .i64 a3))] K = BV_impl_StuckTable N q_impl_hasVariable q_impl_isBit q_impl_Table_stuck a0 a1 a2 a3 (fun z4 z5 z6 => K (.tup [.agg [.int .i64 z4, .int .i64 z5], .one (.bool z6)])) := by kernel_rfl
theorem e43_0 {β : Type} (N : Nat)  (a0 : Int) (a1 : Int) (a2 : Int) (a3 : Int) (K : TV → Option β) : evFn lay (E43 N) Try.f43 [.v (.agg [.int .i64 a0, .int .i64 a1]), .v (.one (.int .i64 a2)), .v (.one (.int .i64 a3))] K = impl_StuckTable N a0 a1 a2 a3 (fun z4 z5 z6 => K (.tup [.agg [.int .i64 z4, .int .i64 z5], .one (.bool z6)])) := (ve43_0 N (impl_hasVariable N) (impl_isBit N) (impl_Table_stuck N) a0 a1 a2 a3 K).trans (t_impl_StuckTable N a0 a1 a2 a3 (fun z4 z5 z6 => K (.tup [.agg [.int .i64 z4, .int .i64 z5], .one (.bool z6)]))).symm
theorem o43 {β : Type} (N : Nat) : SpecOK (β := β) Try.prog 43 (S43 N) := by
  refine spec_of lay_ok mixed (E := E43 N) (specs_loops (specs_cons (o74 N) (specs_cons (o75 N) (specs_cons (o92 N) specs_nil)))) muts_nil gs_nil Try.func43 (by kernel_rfl) 0 (by kernel_rfl) trivial fun args K r h => ?_
  unfold S43 VS43 at h
  split at h
  · exact (e43_0 N _ _ _ _ _).trans h
  · cases h
def VS45 {β : Type} (N : Nat) (q_spec_DrawCountDetectable : (a0 : List Int) → (k : Int → Int → Option β) → Option β) : Rv.Spec β := fun args K => match args with
  | [.v (.one (.sl 5 (.ints .u8 a0)))] => q_spec_DrawCountDetectable a0 (fun z1 z2 => K (.v (.agg [.int .i64 z1, .int .i64 z2])))
  | _ => none
def S45 {β : Type} (N : Nat) : Rv.Spec β := VS45 N (spec_DrawCountDetectable N)
def VE45 {β : Type} (N : Nat) (q_spec_l1New_g0 : (a0 : List Int) → (k0 : List Int → Int → Int → Option β) → Option β) (q_spec_l2Any_g0 : (a0 : List Int) → (a1 : Int) → (a2 : Int) → (k0 : Int → Int → List Int → Int → Int → Option β) → Option β) : Env β := ⟨[], [], [], [(55, VS55 N q_spec_l1New_g0), (68, VS68 N q_spec_l2Any_g0)]⟩
def E45 {β : Type} (N : Nat) : Env β := VE45 N (spec_l1New_g0 N) (spec_l2Any_g0 N)
def BV_spec_DrawCountDetectable {β : Type} (N : Nat) (q_spec_l1New_g0 : (a0 : List Int) → (k0 : List Int → Int → Int → Option β) → Option β) (q_spec_l2Any_g0 : (a0 : List Int) → (a1 : Int) → (a2 : Int) → (k0 : Int → Int → List Int → Int → Int → Option β) → Option β) (a0 : List Int) (k : Int → Int → Option β) : Option β :=
q_spec_l1New_g0 a0 (fun r3_0 r3_1 r3_2 =>
q_spec_l2Any_g0 r3_0 r3_1 r3_2 (fun r4_0 r4_1 r4_2 r4_3 r4_4 =>
k r4_0 r4_1))
theorem t_spec_DrawCountDetectable {β : Type} (N : Nat) (a0 : List Int) (k : Int → Int → Option β) : spec_DrawCountDetectable N a0 k = BV_spec_DrawCountDetectable N (spec_l1New_g0 N) (spec_l2Any_g0 N) a0 k := by
  unfold spec_DrawCountDetectable BV_spec_DrawCountDetectable
  rfl
theorem ve45_0 {β : Type} (N : Nat) (q_spec_l1New_g0 : (a0 : List Int) → (k0 : List Int → Int → Int → Option β) → Option β) (q_spec_l2Any_g0 : (a0 : List Int) → (a1 : Int) → (a2 : Int) → (k0 : Int → Int → List Int → Int → Int → Option β) → Option β)  (a0 : List Int) (K : TV → Option β) : evFn lay (VE45 N q_spec_l1New_g0 q_spec_l2Any_g0) Try.f45 [.v (.one (.sl 5 (.ints .u8 a0)))] K = BV_spec_DrawCountDetectable N q_spec_l1New_g0 q_spec_l2Any_g0 a0 (fun z1 z2 => K (.v (.agg [.int .i64 z1, .int .i64 z2]))) := by kernel_rfl
theorem e45_0 {β : Type} (N : Nat)  (a0 : List Int) (K : TV → Option β) : evFn lay (E45 N) Try.f45 [.v (.one (.sl 5 (.ints .u8 a0)))] K = spec_DrawCountDetectable N a0 (fun z1 z2 => K (.v (.agg [.int .i64 z1, .int .i64 z2]))) := (ve45_0 N (spec_l1New_g0 N) (spec_l2Any_g0 N) a0 K).trans (t_spec_DrawCountDetectable N a0 (fun z1 z2 => K (.v (.agg [.int .i64 z1, .int .i64 z2])))).symm
theorem o45 {β : Type} (N : Nat) : SpecOK (β := β) Try.prog 45 (S45 N) := by
  refine spec_of lay_ok mixed (E := E45 N) (specs_loops specs_nil) muts_nil (gs_cons (o55 N) (gs_cons (o68 N) gs_nil)) Try.func45 (by kernel_rfl) 0 (by kernel_rfl) trivial fun args K r h => ?_
  unfold S45 VS45 at h
  split at h
  · exact (e45_0 N _ _).trans h
  · cases h
def VS46 {β : Type} (N : Nat) (q_spec_IsTestSet : (a0 : Int) → (a1 : Int) → (a2 : List Int) → (k : Bool → Option β) → Option β) : Rv.Spec β := fun args K => match args with
  | [.v (.agg [.int .i64 a0, .int .i64 a1]), .v (.one (.sl 3 (.ints .i64 a2)))] => q_spec_IsTestSet a0 a1 a2 (fun z3 => K (.v (.one (.bool z3))))
  | _ => none
def S46 {β : Type} (N : Nat) : Rv.Spec β := VS46 N (spec_IsTestSet N)
def h46_0_0  (v0 : List Int) (v1 : Int) (v2 : Int) (v3 : Int) (v4 : Int) : St := ⟨.v (.one .und) :: .v (.one (.sl 3 (.ints .i64 v0))) :: .v (.one (.ptr 0 0)) :: .v (.one .und) :: .v (.one .und) :: .v (.one (.int .i64 v1)) :: .v (.one (.int .i64 v2)) :: .v (.one .und) :: .v (.one .und) :: .v (.one .und) :: .v (.one .und) :: .v (.one .und) :: .v (.one .und) :: .v (.one .und) :: .v (.one .und) :: .v (.one .und) :: .v (.one .und) :: .v (.one .und) :: .v (.one .und) :: .v (.one .und) :: .v (.one .und) :: .v (.one .und) :: .v (.one .und) :: .v (.one .und) :: .v (.one .und) :: .v (.one .und) :: .v (.one .und) :: .v (.one .und) :: .v (.one .und) :: .v (.one .und) :: .v (.one .und) :: .v (.one .und) :: .v (.one .und) :: .v (.one .und) :: [], [.cells 25 [.int .i64 v3, .int .i64 v4]]⟩
def x46_0_0_k0  (y0 : Bool) : St := ⟨.v (.one .und) :: .v (.one .und) :: .v (.one .und) :: .v (.one .und) :: .v (.one (.bool y0)) :: .v (.one .und) :: .v (.one .und) :: .v (.one .und) :: .v (.one .und) :: .v (.one .und) :: .v (.one .und) :: .v (.one .und) :: .v (.one .und) :: .v (.one .und) :: .v (.one .und) :: .v (.one .und) :: .v (.one .und) :: .v (.one .und) :: .v (.one .und) :: .v (.one .und) :: .v (.one .und) :: .v (.one .und) :: .v (.one .und) :: .v (.one .und) :: .v (.one .und) :: .v (.one .und) :: .v (.one .und) :: .v (.one .und) :: .v (.one .und) :: .v (.one .und) :: .v (.one .und) :: .v (.one .und) :: .v (.one .und) :: .v (.one .und) :: [], []⟩
def x46_0_0_k1  (y0 : Int) (y1 : Int) (y2 : Int) : St := ⟨.v (.one .und) :: .v (.one .und) :: .v (.one (.ptr 0 0)) :: .v (.one .und) :: .v (.one .und) :: .v (.one (.int .i64 y0)) :: .v (.one .und) :: .v (.one .und) :: .v (.one .und) :: .v (.one .und) :: .v (.one .und) :: .v (.one .und) :: .v (.one .und) :: .v (.one .und) :: .v (.one .und) :: .v (.one .und) :: .v (.one .und) :: .v (.one .und) :: .v (.one .und) :: .v (.one .und) :: .v (.one .und) :: .v (.one .und) :: .v (.one .und) :: .v (.one .und) :: .v (.one .und) :: .v (.one .und) :: .v (.one .und) :: .v (.one .und) :: .v (.one .und) :: .v (.one .und) :: .v (.one .und) :: .v (.one .und) :: .v (.one .und) :: .v (.one .und) :: [], [.cells 25 [.int .i64 y1, .int .i64 y2]]⟩
theorem fl46_0_0 (s : St) : refSt (h46_0_0 [] 0 0 0 0) s = h46_0_0 (rInts (rowV (oneA (vT (nx tund s.tmps 1))))) (intS (oneA (vT (nx tund s.tmps 5)))) (intS (oneA (vT (nx tund s.tmps 6)))) (intS (nx .und (cellsB (nx .dead s.blks 0)) 0)) (intS (nx .und (cellsB (nx .dead s.blks 0)) 1)) := by kernel_rfl
def VLS46_0 {β : Type} (N : Nat) (q_spec_IsTestSet_l0 : Nat → List Int → Int → Int → Int → Int → (Bool → Option β) → (Int → Int → Int → Option β) → Option β) : LSpec β := fun s K => cond (shpSt (h46_0_0 [] 0 0 0 0) s) ((fun (v0 : List Int) (v1 : Int) (v2 : Int) (v3 : Int) (v4 : Int) => q_spec_IsTestSet_l0  N v0 v1 v2 v3 v4 (fun y0 => K .ret (x46_0_0_k0  y0)) (fun y0 y1 y2 => K (.exit 0) (x46_0_0_k1  y0 y1 y2))) (rInts (rowV (oneA (vT (nx tund s.tmps 1))))) (intS (oneA (vT (nx tund s.tmps 5)))) (intS (oneA (vT (nx tund s.tmps 6)))) (intS (nx .und (cellsB (nx .dead s.blks 0)) 0)) (intS (nx .und (cellsB (nx .dead s.blks 0)) 1))) (none)
def LS46_0 {β : Type} (N : Nat) : LSpec β := VLS46_0 N (spec_IsTestSet_l0 N)
def VE46 {β : Type} (N : Nat) (q_spec_l9In : (a0 : Int) → (a1 : Int) → (a2 : Int) → (k : Bool → Option β) → Option β) (q_spec_IsTable : (a0 : Int) → (a1 : Int) → (k : Bool → Option β) → Option β) (q_spec_l29Shows : (a0 : Int) → (a1 : Int) → (a2 : Int) → (k : Bool → Option β) → Option β) (q_spec_IsTestSet_l0 : Nat → List Int → Int → Int → Int → Int → (Bool → Option β) → (Int → Int → Int → Option β) → Option β) : Env β := ⟨[(58, VS58 N q_spec_l9In), (69, VS69 N q_spec_IsTable), (85, VS85 N q_spec_l29Shows)], [], [(0, VLS46_0 N q_spec_IsTestSet_l0)], []⟩
def E46 {β : Type} (N : Nat) : Env β := VE46 N (spec_l9In N) (spec_IsTable N) (spec_l29Shows N) (spec_IsTestSet_l0 N)
def BV_spec_IsTestSet_l0b {β : Type} (N : Nat) (q_spec_l9In : (a0 : Int) → (a1 : Int) → (a2 : Int) → (k : Bool → Option β) → Option β)  (v0 : List Int) (v1 : Int) (v2 : Int) (v3 : Int) (v4 : Int) (rec_ : List Int → Int → Int → Int → Int → Option β) (k0 : Bool → Option β) (k1 : Int → Int → Int → Option β) : Option β :=
(cond ((decide (v2 < (v0.length : Int))))
((gd ((decide (0 ≤ v2)))
((gd ((decide (v2 < (v0.length : Int))))
(q_spec_l9In v3 v4 ((rd 0 v0 v2)) fun r4 =>
(cond (!r4)
(k0 false)
((gd ((decide (0 ≤ v2)))
((gd ((decide (v2 < (v0.length : Int))))
((gd ((decide (0 ≤ (rd 0 v0 v2))))
(rec_ v0 ((bits .or .i64 v1 (shlI .i64 1 (rd 0 v0 v2)))) ((w64 (v2 + 1))) v3 v4)))))))))))))
(k1 v1 v3 v4))
theorem t_spec_IsTestSet_l0b {β : Type} (N : Nat)  (v0 : List Int) (v1 : Int) (v2 : Int) (v3 : Int) (v4 : Int) (rec_ : List Int → Int → Int → Int → Int → Option β) (k0 : Bool → Option β) (k1 : Int → Int → Int → Option β) : spec_IsTestSet_l0b N v0 v1 v2 v3 v4 rec_ k0 k1 = BV_spec_IsTestSet_l0b N (spec_l9In N) v0 v1 v2 v3 v4 rec_ k0 k1 := by
  unfold spec_IsTestSet_l0b BV_spec_IsTestSet_l0b
  rfl
theorem vst46_0_0 {β : Type} (N : Nat) (q_spec_l9In : (a0 : Int) → (a1 : Int) → (a2 : Int) → (k : Bool → Option β) → Option β) (q_spec_IsTable : (a0 : Int) → (a1 : Int) → (k : Bool → Option β) → Option β) (q_spec_l29Shows : (a0 : Int) → (a1 : Int) → (a2 : Int) → (k : Bool → Option β) → Option β) (q_spec_IsTestSet_l0 : Nat → List Int → Int → Int → Int → Int → (Bool → Option β) → (Int → Int → Int → Option β) → Option β)  (v0 : List Int) (v1 : Int) (v2 : Int) (v3 : Int) (v4 : Int) (rec_ : St → Option β) (K : Exit → St → Option β) :
    ev lay (VE46 N q_spec_l9In q_spec_IsTable q_spec_l29Shows q_spec_IsTestSet_l0) (retMask Try.f46) (lp Try.f46 0).body (lp Try.f46 0).ex ((lp Try.f46 0).lv (retMask Try.f46)) (h46_0_0  v0 v1 v2 v3 v4) (nextR (fun s' => rec_ (s'.tidy ((lp Try.f46 0).lv (retMask Try.f46)))) K) = BV_spec_IsTestSet_l0b N q_spec_l9In  v0 v1 v2 v3 v4 (fun v0 v1 v2 v3 v4 => rec_ (h46_0_0  v0 v1 v2 v3 v4)) (fun y0 => K .ret (x46_0_0_k0  y0)) (fun y0 y1 y2 => K (.exit 0) (x46_0_0_k1  y0 y1 y2)) := by kernel_rfl
theorem st46_0_0 {β : Type} (N : Nat)  (v0 : List Int) (v1 : Int) (v2 : Int) (v3 : Int) (v4 : Int) (rec_ : St → Option β) (K : Exit → St → Option β) :
    ev lay (E46 N) (retMask Try.f46) (lp Try.f46 0).body (lp Try.f46 0).ex ((lp Try.f46 0).lv (retMask Try.f46)) (h46_0_0  v0 v1 v2 v3 v4) (nextR (fun s' => rec_ (s'.tidy ((lp Try.f46 0).lv (retMask Try.f46)))) K) = spec_IsTestSet_l0b N  v0 v1 v2 v3 v4 (fun v0 v1 v2 v3 v4 => rec_ (h46_0_0  v0 v1 v2 v3 v4)) (fun y0 => K .ret (x46_0_0_k0  y0)) (fun y0 y1 y2 => K (.exit 0) (x46_0_0_k1  y0 y1 y2)) := (vst46_0_0 N (spec_l9In N) (spec_IsTable N) (spec_l29Shows N) (spec_IsTestSet_l0 N) v0 v1 v2 v3 v4 rec_ K).trans (t_spec_IsTestSet_l0b N  v0 v1 v2 v3 v4 (fun v0 v1 v2 v3 v4 => rec_ (h46_0_0  v0 v1 v2 v3 v4)) (fun y0 => K .ret (x46_0_0_k0  y0)) (fun y0 y1 y2 => K (.exit 0) (x46_0_0_k1  y0 y1 y2))).symm
theorem ro46_0_0 {β : Type} (N : Nat)  (K : Exit → St → Option β) : ∀ (F : Nat) (v0 : List Int) (v1 : Int) (v2 : Int) (v3 : Int) (v4 : Int), (lp Try.f46 0).rounds lay (E46 N) (retMask Try.f46) F (h46_0_0  v0 v1 v2 v3 v4) K = spec_IsTestSet_l0 N  F v0 v1 v2 v3 v4 (fun y0 => K .ret (x46_0_0_k0  y0)) (fun y0 y1 y2 => K (.exit 0) (x46_0_0_k1  y0 y1 y2)) := by
  intro F
  induction F with
  | zero => intros; rfl
  | succ F ih =>
    intros
    rw [rounds_next]
    refine (st46_0_0 N  _ _ _ _ _ (fun s => (lp Try.f46 0).rounds lay (E46 N) (retMask Try.f46) F s K) K).trans ?_
    simp only [ih]
    rfl
theorem lk46_0 {β : Type} (N : Nat) : lookL (E46 (β := β) N).loops (lp Try.f46 0).id = LS46_0 N := by kernel_rfl
theorem rk46_0 {β : Type} (N : Nat) : RoundsOK lay (E46 (β := β) N) (retMask Try.f46) (lp Try.f46 0) := by
  intro s K r h
  rw [lk46_0] at h
  unfold LS46_0 VLS46_0 at h
  cases hb : shpSt (h46_0_0 [] 0 0 0 0) s with
  | true =>
    rw [hb, cond_true] at h
    exact ⟨N, by rw [← shpSt_ref hb, fl46_0_0 s]; exact (ro46_0_0 N  K N (rInts (rowV (oneA (vT (nx tund s.tmps 1))))) (intS (oneA (vT (nx tund s.tmps 5)))) (intS (oneA (vT (nx tund s.tmps 6)))) (intS (nx .und (cellsB (nx .dead s.blks 0)) 0)) (intS (nx .und (cellsB (nx .dead s.blks 0)) 1))).trans h⟩
  | false =>
  rw [hb, cond_false] at h
  clear hb
  cases h
def BV_spec_IsTestSet {β : Type} (N : Nat) (q_spec_IsTestSet_l0 : Nat → List Int → Int → Int → Int → Int → (Bool → Option β) → (Int → Int → Int → Option β) → Option β) (q_spec_IsTable : (a0 : Int) → (a1 : Int) → (k : Bool → Option β) → Option β) (q_spec_l29Shows : (a0 : Int) → (a1 : Int) → (a2 : Int) → (k : Bool → Option β) → Option β) (a0 : Int) (a1 : Int) (a2 : List Int) (k : Bool → Option β) : Option β :=
q_spec_IsTestSet_l0  N a2 0 0 a0 a1 (fun e5_0 =>
k e5_0) (fun e6_0 e6_1 e6_2 =>
q_spec_IsTable e6_1 e6_2 fun r7 =>
(cond r7
(q_spec_l29Shows e6_1 e6_2 e6_0 fun r8 =>
k r8)
(k false)))
theorem t_spec_IsTestSet {β : Type} (N : Nat) (a0 : Int) (a1 : Int) (a2 : List Int) (k : Bool → Option β) : spec_IsTestSet N a0 a1 a2 k = BV_spec_IsTestSet N (spec_IsTestSet_l0 N) (spec_IsTable N) (spec_l29Shows N) a0 a1 a2 k := by
  unfold spec_IsTestSet BV_spec_IsTestSet
  rfl
theorem ve46_0 {β : Type} (N : Nat) (q_spec_l9In : (a0 : Int) → (a1 : Int) → (a2 : Int) → (k : Bool → Option β) → Option β) (q_spec_IsTable : (a0 : Int) → (a1 : Int) → (k : Bool → Option β) → Option β) (q_spec_l29Shows : (a0 : Int) → (a1 : Int) → (a2 : Int) → (k : Bool → Option β) → Option β) (q_spec_IsTestSet_l0 : Nat → List Int → Int → Int → Int → Int → (Bool → Option β) → (Int → Int → Int → Option β) → Option β)  (a0 : Int) (a1 : Int) (a2 : List Int) (K : TV → Option β) : evFn lay (VE46 N q_spec_l9In q_spec_IsTable q_spec_l29Shows q_spec_IsTestSet_l0) Try.f46 [.v (.agg [.int .i64 a0, .int .i64 a1]), .v (.one (.sl 3 (.ints .i64 a2)))] K = BV_spec_IsTestSet N q_spec_IsTestSet_l0 q_spec_IsTable q_spec_l29Shows a0 a1 a2 (fun z3 => K (.v (.one (.bool z3)))) := by kernel_rfl
theorem e46_0 {β : Type} (N : Nat)  (a0 : Int) (a1 : Int) (a2 : List Int) (K : TV → Option β) : evFn lay (E46 N) Try.f46 [.v (.agg [.int .i64 a0, .int .i64 a1]), .v (.one (.sl 3 (.ints .i64 a2)))] K = spec_IsTestSet N a0 a1 a2 (fun z3 => K (.v (.one (.bool z3)))) := (ve46_0 N (spec_l9In N) (spec_IsTable N) (spec_l29Shows N) (spec_IsTestSet_l0 N) a0 a1 a2 K).trans (t_spec_IsTestSet N a0 a1 a2 (fun z3 => K (.v (.one (.bool z3))))).symm
theorem o46 {β : Type} (N : Nat) : SpecOK (β := β) Try.prog 46 (S46 N) := by
  refine spec_of lay_ok mixed (E := E46 N) (specs_loops (specs_cons (o58 N) (specs_cons (o69 N) (specs_cons (o85 N) specs_nil)))) muts_nil gs_nil Try.func46 (by kernel_rfl) 1 (by kernel_rfl) ⟨trivial, rk46_0 N⟩ fun args K r h => ?_
  unfold S46 VS46 at h
  split at h
  · exact (e46_0 N _ _ _ _).trans h
  · cases h
end Go.Proofs.Ytdkjnadhgdneaaa
