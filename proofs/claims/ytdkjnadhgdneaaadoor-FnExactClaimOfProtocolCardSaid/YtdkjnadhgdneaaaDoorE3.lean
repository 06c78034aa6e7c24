/- The functions that the claims reach answer as their texts do. -/
import Derived.Test.YtdkjnadhgdneaaaDoorE2
namespace Go.Proofs.YtdkjnadhgdneaaaDoor
open Go.Rv
set_option maxRecDepth 100000
set_option maxHeartbeats 2000000
set_option linter.unusedVariables false
def VS38 {β : Type} (N : Nat) (q_impl_FormatInt : (a0 : Int) → (k : ByteArray → Option β) → Option β) : Rv.Spec β := fun args K => match args with
  | [.v (.one (.int .i64 a0))] => q_impl_FormatInt a0 (fun z1 => K (.v (.one (.str z1))))
  | _ => none
def S38 {β : Type} (N : Nat) : Rv.Spec β := VS38 N (impl_FormatInt N)
def VE38 {β : Type} (N : Nat) (q_strconv_Itoa : (a0 : Int) → (k : ByteArray → Option β) → Option β) : Env β := ⟨[(52, VS52 N q_strconv_Itoa)], [], [], []⟩
def E38 {β : Type} (N : Nat) : Env β := VE38 N (strconv_Itoa N)
def BV_impl_FormatInt {β : Type} (N : Nat) (q_strconv_Itoa : (a0 : Int) → (k : ByteArray → Option β) → Option β) (a0 : Int) (k : ByteArray → Option β) : Option β :=
q_strconv_Itoa a0 fun r2 =>
k r2
theorem t_impl_FormatInt {β : Type} (N : Nat) (a0 : Int) (k : ByteArray → Option β) : impl_FormatInt N a0 k = BV_impl_FormatInt N (strconv_Itoa N) a0 k := by
  unfold impl_FormatInt BV_impl_FormatInt
  rfl
theorem ve38_0 {β : Type} (N : Nat) (q_strconv_Itoa : (a0 : Int) → (k : ByteArray → Option β) → Option β)  (a0 : Int) (K : TV → Option β) : evFn lay (VE38 N q_strconv_Itoa) Tryd.f38 [.v (.one (.int .i64 a0))] K = BV_impl_FormatInt N q_strconv_Itoa a0 (fun z1 => K (.v (.one (.str z1)))) := by kernel_rfl
theorem e38_0 {β : Type} (N : Nat)  (a0 : Int) (K : TV → Option β) : evFn lay (E38 N) Tryd.f38 [.v (.one (.int .i64 a0))] K = impl_FormatInt N a0 (fun z1 => K (.v (.one (.str z1)))) := (ve38_0 N (strconv_Itoa N) a0 K).trans (t_impl_FormatInt N a0 (fun z1 => K (.v (.one (.str z1))))).symm
theorem o38 {β : Type} (N : Nat) : SpecOK (β := β) Tryd.prog 38 (S38 N) := by
  refine spec_of lay_ok mixed (E := E38 N) (specs_loops (specs_cons (o52 N) specs_nil)) muts_nil gs_nil Tryd.func38 (by kernel_rfl) 0 (by kernel_rfl) trivial fun args K r h => ?_
  unfold S38 VS38 at h
  split at h
  · exact (e38_0 N _ _).trans h
  · cases h
def VS39 {β : Type} (N : Nat) (q_impl_sides_parted : (a0 : Int) → (a1 : Int) → (a2 : Int) → (a3 : Int) → (k : Int → Int → Int → Int → Bool → Option β) → Option β) : Rv.Spec β := fun args K => match args with
  | [.v (.agg [.int .i64 a0, .int .i64 a1]), .v (.one (.int .u8 a2)), .v (.one (.int .i64 a3))] => q_impl_sides_parted a0 a1 a2 a3 (fun z4 z5 z6 z7 z8 => K (.tup [.agg [.int .i64 z4, .int .i64 z5], .agg [.int .i64 z6, .int .i64 z7], .one (.bool z8)]))
  | _ => none
def S39 {β : Type} (N : Nat) : Rv.Spec β := VS39 N (impl_sides_parted N)
def VE39 {β : Type} (N : Nat) : Env β := ⟨[], [], [], []⟩
def E39 {β : Type} (N : Nat) : Env β := VE39 N
def BV_impl_sides_parted {β : Type} (N : Nat) (a0 : Int) (a1 : Int) (a2 : Int) (a3 : Int) (k : Int → Int → Int → Int → Bool → Option β) : Option β :=
(cond ((a2 == 66))
((cond ((a3 == 0))
((impl_sides_parted_s5 false a0 a1 a0 a1
(k a0 a1 a0 a1 false)))
((cond ((a3 == a1))
((impl_sides_parted_s5 false a0 a1 a0 a1
(k a0 a1 a0 a1 false)))
((cond (((bits .andNot .i64 a3 a1) != 0))
((impl_sides_parted_s5 false a0 a1 a0 a1
(k a0 a1 a0 a1 false)))
((impl_sides_parted_s6 a2 a3 a1 0 0 0 0 a0 a1 a0 a1
((impl_sides_parted_s6 a2 a3 a1 0 0 0 0 a0 a1 a0 a1
((impl_sides_parted_s6 a2 a3 a1 0 0 0 0 a0 a1 a0 a1
((impl_sides_parted_s6 a2 a3 a1 0 0 0 0 a0 a1 a0 a1
((impl_sides_parted_s6 a2 a3 a1 0 0 0 0 a0 a1 a0 a1
((impl_sides_parted_s6 a2 a3 a1 0 0 0 0 a0 a1 a0 a1
((impl_sides_parted_s6 a2 a3 a1 0 0 0 0 a0 a1 a0 a1
((cond ((a2 == 65))
((impl_sides_parted_s10 true ((bits .andNot .i64 a1 a3)) a1 a3 a1
(k ((bits .andNot .i64 a1 a3)) a1 a3 a1 true)))
((impl_sides_parted_s10 true a0 ((bits .andNot .i64 a1 a3)) a0 a3
(k a0 ((bits .andNot .i64 a1 a3)) a0 a3 true)))))))))))))))))))))))))
((cond ((a3 == 0))
((impl_sides_parted_s5 false a0 a1 a0 a1
(k a0 a1 a0 a1 false)))
((cond ((a3 == a0))
((impl_sides_parted_s5 false a0 a1 a0 a1
(k a0 a1 a0 a1 false)))
((cond (((bits .andNot .i64 a3 a0) != 0))
((impl_sides_parted_s5 false a0 a1 a0 a1
(k a0 a1 a0 a1 false)))
((impl_sides_parted_s6 a2 a3 a0 0 0 0 0 a0 a1 a0 a1
((impl_sides_parted_s6 a2 a3 a0 0 0 0 0 a0 a1 a0 a1
((impl_sides_parted_s6 a2 a3 a0 0 0 0 0 a0 a1 a0 a1
((impl_sides_parted_s6 a2 a3 a0 0 0 0 0 a0 a1 a0 a1
((impl_sides_parted_s6 a2 a3 a0 0 0 0 0 a0 a1 a0 a1
((impl_sides_parted_s6 a2 a3 a0 0 0 0 0 a0 a1 a0 a1
((impl_sides_parted_s6 a2 a3 a0 0 0 0 0 a0 a1 a0 a1
((cond ((a2 == 65))
((impl_sides_parted_s10 true ((bits .andNot .i64 a0 a3)) a1 a3 a1
(k ((bits .andNot .i64 a0 a3)) a1 a3 a1 true)))
((impl_sides_parted_s10 true a0 ((bits .andNot .i64 a0 a3)) a0 a3
(k a0 ((bits .andNot .i64 a0 a3)) a0 a3 true))))))))))))))))))))))))))
theorem t_impl_sides_parted {β : Type} (N : Nat) (a0 : Int) (a1 : Int) (a2 : Int) (a3 : Int) (k : Int → Int → Int → Int → Bool → Option β) : impl_sides_parted N a0 a1 a2 a3 k = BV_impl_sides_parted N a0 a1 a2 a3 k := by
  unfold impl_sides_parted BV_impl_sides_parted
  rfl
theorem ve39_0 {β : Type} (N : Nat)  (a0 : Int) (a1 : Int) (a2 : Int) (a3 : Int) (K : TV → Option β) : evFn lay (VE39 N) Tryd.f39 [.v (.agg [.int .i64 a0, .int .i64 a1]), .v (.one (.int .u8 a2)), .v (.one (.int .i64 a3))] K = BV_impl_sides_parted N a0 a1 a2 a3 (fun z4 z5 z6 z7 z8 => K (.tup [.agg [.int .i64 z4, .int .i64 z5], .agg [.int .i64 z6, .int .i64 z7], .one (.bool z8)])) := by kernel_rfl
theorem e39_0 {β : Type} (N : Nat)  (a0 : Int) (a1 : Int) (a2 : Int) (a3 : Int) (K : TV → Option β) : evFn lay (E39 N) Tryd.f39 [.v (.agg [.int .i64 a0, .int .i64 a1]), .v (.one (.int .u8 a2)), .v (.one (.int .i64 a3))] K = impl_sides_parted N a0 a1 a2 a3 (fun z4 z5 z6 z7 z8 => K (.tup [.agg [.int .i64 z4, .int .i64 z5], .agg [.int .i64 z6, .int .i64 z7], .one (.bool z8)])) := (ve39_0 N a0 a1 a2 a3 K).trans (t_impl_sides_parted N a0 a1 a2 a3 (fun z4 z5 z6 z7 z8 => K (.tup [.agg [.int .i64 z4, .int .i64 z5], .agg [.int .i64 z6, .int .i64 z7], .one (.bool z8)]))).symm
theorem o39 {β : Type} (N : Nat) : SpecOK (β := β) Tryd.prog 39 (S39 N) := by
  refine spec_of lay_ok mixed (E := E39 N) (specs_loops specs_nil) muts_nil gs_nil Tryd.func39 (by kernel_rfl) 0 (by kernel_rfl) trivial fun args K r h => ?_
  unfold S39 VS39 at h
  split at h
  · exact (e39_0 N _ _ _ _ _).trans h
  · cases h
def VS51 {β : Type} (N : Nat) (q_impl_Table_at : (a0 : Int) → (a1 : Int) → (a2 : Int) → (k : Int → Option β) → Option β) : Rv.Spec β := fun args K => match args with
  | [.v (.agg [.int .i64 a0, .int .i64 a1]), .v (.one (.int .i64 a2))] => q_impl_Table_at a0 a1 a2 (fun z3 => K (.v (.one (.int .i64 z3))))
  | _ => none
def S51 {β : Type} (N : Nat) : Rv.Spec β := VS51 N (impl_Table_at N)
def VE51 {β : Type} (N : Nat) : Env β := ⟨[], [], [], []⟩
def E51 {β : Type} (N : Nat) : Env β := VE51 N
def BV_impl_Table_at {β : Type} (N : Nat) (a0 : Int) (a1 : Int) (a2 : Int) (k : Int → Option β) : Option β :=
(gd ((decide (0 ≤ a2)))
(k ((bits .and .i64 (shrI .i64 a1 a2) 1))))
theorem t_impl_Table_at {β : Type} (N : Nat) (a0 : Int) (a1 : Int) (a2 : Int) (k : Int → Option β) : impl_Table_at N a0 a1 a2 k = BV_impl_Table_at N a0 a1 a2 k := by
  unfold impl_Table_at BV_impl_Table_at
  rfl
theorem ve51_0 {β : Type} (N : Nat)  (a0 : Int) (a1 : Int) (a2 : Int) (K : TV → Option β) : evFn lay (VE51 N) Tryd.f51 [.v (.agg [.int .i64 a0, .int .i64 a1]), .v (.one (.int .i64 a2))] K = BV_impl_Table_at N a0 a1 a2 (fun z3 => K (.v (.one (.int .i64 z3)))) := by kernel_rfl
theorem e51_0 {β : Type} (N : Nat)  (a0 : Int) (a1 : Int) (a2 : Int) (K : TV → Option β) : evFn lay (E51 N) Tryd.f51 [.v (.agg [.int .i64 a0, .int .i64 a1]), .v (.one (.int .i64 a2))] K = impl_Table_at N a0 a1 a2 (fun z3 => K (.v (.one (.int .i64 z3)))) := (ve51_0 N a0 a1 a2 K).trans (t_impl_Table_at N a0 a1 a2 (fun z3 => K (.v (.one (.int .i64 z3))))).symm
theorem o51 {β : Type} (N : Nat) : SpecOK (β := β) Tryd.prog 51 (S51 N) := by
  refine spec_of lay_ok mixed (E := E51 N) (specs_loops specs_nil) muts_nil gs_nil Tryd.func51 (by kernel_rfl) 0 (by kernel_rfl) trivial fun args K r h => ?_
  unfold S51 VS51 at h
  split at h
  · exact (e51_0 N _ _ _ _).trans h
  · cases h
def VS37 {β : Type} (N : Nat) (q_impl_talk_value_g0 : (a0 : Int) → (a1 : Int) → (a2 : Int) → (a3 : Int) → (a4 : Int) → (a5 : Mp) → (k0 : Int → Int → Int → Int → Mp → Option β) → Option β) : GSpec β := fun args bl K => match args, bl with
  | [.v (.one (.ptr 0 0)), .v (.agg [.int .i64 a0, .int .i64 a1])], [.pcells 0 62 [.int .i64 a2, .int .i64 a3, .int .i64 a4, .mp 1], .pmp 1 ⟨true, false⟩ a5] => q_impl_talk_value_g0 a0 a1 a2 a3 a4 a5 (fun y0 y1 y2 y3 y4 => K (.v (.one (.int .i64 y0))) [.pcells 0 62 [.int .i64 y1, .int .i64 y2, .int .i64 y3, .mp 1], .pmp 1 ⟨true, false⟩ y4])
  | _, _ => none
def S37 {β : Type} (N : Nat) : GSpec β := VS37 N (impl_talk_value_g0 N)
def h37_0_0  (v0 : Int) (v1 : Int) (v2 : Int) (v3 : Int) (v4 : Int) (v5 : Int) (v6 : Mp) (v7 : Int) (v8 : Int) : St := ⟨.v (.one (.ptr 0 0)) :: .v (.one .und) :: .v (.one .und) :: .v (.one (.ptr 2 0)) :: .v (.one .und) :: .v (.one (.int .i64 v0)) :: .v (.one .und) :: .v (.one .und) :: .v (.one .und) :: .v (.one .und) :: .v (.one .und) :: .v (.one (.int .i64 v1)) :: .v (.one (.int .i64 v2)) :: .v (.one .und) :: .v (.one .und) :: .v (.one .und) :: .v (.one .und) :: .v (.one .und) :: .v (.one .und) :: .v (.one .und) :: .v (.one .und) :: .v (.one .und) :: .v (.one .und) :: .v (.one .und) :: .v (.one .und) :: .v (.one .und) :: .v (.one .und) :: .v (.one .und) :: .v (.one .und) :: .v (.one .und) :: .v (.one .und) :: .v (.one .und) :: .v (.one .und) :: .v (.one .und) :: .v (.one .und) :: .v (.one .und) :: .v (.one .und) :: .v (.one .und) :: .v (.one .und) :: .v (.one .und) :: .v (.one .und) :: .v (.one .und) :: .v (.one .und) :: .v (.one .und) :: .v (.one .und) :: .v (.one .und) :: .v (.one .und) :: .v (.one .und) :: .v (.one .und) :: .v (.one .und) :: .v (.one .und) :: .v (.one .und) :: .v (.one .und) :: .v (.one .und) :: .v (.one .und) :: .v (.one .und) :: .v (.one .und) :: .v (.one .und) :: .v (.one .und) :: .v (.one .und) :: .v (.one .und) :: [], [.pcells 0 62 [.int .i64 v3, .int .i64 v4, .int .i64 v5, .mp 1], .pmp 1 ⟨true, false⟩ v6, .cells 46 [.int .i64 v7, .int .i64 v8]]⟩
def x37_0_0_k0  (y0 : Int) (y1 : Int) (y2 : Int) (y3 : Int) (y4 : Mp) : St := ⟨.v (.one .und) :: .v (.one .und) :: .v (.one .und) :: .v (.one .und) :: .v (.one (.int .i64 y0)) :: .v (.one .und) :: .v (.one .und) :: .v (.one .und) :: .v (.one .und) :: .v (.one .und) :: .v (.one .und) :: .v (.one .und) :: .v (.one .und) :: .v (.one .und) :: .v (.one .und) :: .v (.one .und) :: .v (.one .und) :: .v (.one .und) :: .v (.one .und) :: .v (.one .und) :: .v (.one .und) :: .v (.one .und) :: .v (.one .und) :: .v (.one .und) :: .v (.one .und) :: .v (.one .und) :: .v (.one .und) :: .v (.one .und) :: .v (.one .und) :: .v (.one .und) :: .v (.one .und) :: .v (.one .und) :: .v (.one .und) :: .v (.one .und) :: .v (.one .und) :: .v (.one .und) :: .v (.one .und) :: .v (.one .und) :: .v (.one .und) :: .v (.one .und) :: .v (.one .und) :: .v (.one .und) :: .v (.one .und) :: .v (.one .und) :: .v (.one .und) :: .v (.one .und) :: .v (.one .und) :: .v (.one .und) :: .v (.one .und) :: .v (.one .und) :: .v (.one .und) :: .v (.one .und) :: .v (.one .und) :: .v (.one .und) :: .v (.one .und) :: .v (.one .und) :: .v (.one .und) :: .v (.one .und) :: .v (.one .und) :: .v (.one .und) :: .v (.one .und) :: [], [.pcells 0 62 [.int .i64 y1, .int .i64 y2, .int .i64 y3, .mp 1], .pmp 1 ⟨true, false⟩ y4]⟩
def x37_0_0_k1  (y0 : Int) (y1 : Int) (y2 : Int) (y3 : Int) (y4 : Mp) : St := ⟨.v (.one .und) :: .v (.one .und) :: .v (.one .und) :: .v (.one .und) :: .v (.one .und) :: .v (.one (.int .i64 y0)) :: .v (.one .und) :: .v (.one .und) :: .v (.one .und) :: .v (.one .und) :: .v (.one .und) :: .v (.one .und) :: .v (.one .und) :: .v (.one .und) :: .v (.one .und) :: .v (.one .und) :: .v (.one .und) :: .v (.one .und) :: .v (.one .und) :: .v (.one .und) :: .v (.one .und) :: .v (.one .und) :: .v (.one .und) :: .v (.one .und) :: .v (.one .und) :: .v (.one .und) :: .v (.one .und) :: .v (.one .und) :: .v (.one .und) :: .v (.one .und) :: .v (.one .und) :: .v (.one .und) :: .v (.one .und) :: .v (.one .und) :: .v (.one .und) :: .v (.one .und) :: .v (.one .und) :: .v (.one .und) :: .v (.one .und) :: .v (.one .und) :: .v (.one .und) :: .v (.one .und) :: .v (.one .und) :: .v (.one .und) :: .v (.one .und) :: .v (.one .und) :: .v (.one .und) :: .v (.one .und) :: .v (.one .und) :: .v (.one .und) :: .v (.one .und) :: .v (.one .und) :: .v (.one .und) :: .v (.one .und) :: .v (.one .und) :: .v (.one .und) :: .v (.one .und) :: .v (.one .und) :: .v (.one .und) :: .v (.one .und) :: .v (.one .und) :: [], [.pcells 0 62 [.int .i64 y1, .int .i64 y2, .int .i64 y3, .mp 1], .pmp 1 ⟨true, false⟩ y4]⟩
theorem fl37_0_0 (s : St) : refSt (h37_0_0 0 0 0 0 0 0 [] 0 0) s = h37_0_0 (intS (oneA (vT (nx tund s.tmps 5)))) (intS (oneA (vT (nx tund s.tmps 11)))) (intS (oneA (vT (nx tund s.tmps 12)))) (intS (nx .und (cellsB (nx .dead s.blks 0)) 0)) (intS (nx .und (cellsB (nx .dead s.blks 0)) 1)) (intS (nx .und (cellsB (nx .dead s.blks 0)) 2)) (mpB (nx .dead s.blks 1)) (intS (nx .und (cellsB (nx .dead s.blks 2)) 0)) (intS (nx .und (cellsB (nx .dead s.blks 2)) 1)) := by kernel_rfl
def VLS37_0 {β : Type} (N : Nat) (q_impl_talk_value_l0 : Nat → Int → Int → Int → Int → Int → Int → Mp → Int → Int → (Int → Int → Int → Int → Mp → Option β) → (Int → Int → Int → Int → Mp → Option β) → Option β) : LSpec β := fun s K => cond (shpSt (h37_0_0 0 0 0 0 0 0 [] 0 0) s) ((fun (v0 : Int) (v1 : Int) (v2 : Int) (v3 : Int) (v4 : Int) (v5 : Int) (v6 : Mp) (v7 : Int) (v8 : Int) => q_impl_talk_value_l0  N v0 v1 v2 v3 v4 v5 v6 v7 v8 (fun y0 y1 y2 y3 y4 => K .ret (x37_0_0_k0  y0 y1 y2 y3 y4)) (fun y0 y1 y2 y3 y4 => K (.exit 0) (x37_0_0_k1  y0 y1 y2 y3 y4))) (intS (oneA (vT (nx tund s.tmps 5)))) (intS (oneA (vT (nx tund s.tmps 11)))) (intS (oneA (vT (nx tund s.tmps 12)))) (intS (nx .und (cellsB (nx .dead s.blks 0)) 0)) (intS (nx .und (cellsB (nx .dead s.blks 0)) 1)) (intS (nx .und (cellsB (nx .dead s.blks 0)) 2)) (mpB (nx .dead s.blks 1)) (intS (nx .und (cellsB (nx .dead s.blks 2)) 0)) (intS (nx .und (cellsB (nx .dead s.blks 2)) 1))) (none)
def LS37_0 {β : Type} (N : Nat) : LSpec β := VLS37_0 N (impl_talk_value_l0 N)
def VE37 {β : Type} (N : Nat) (q_impl_Table_size : (a0 : Int) → (a1 : Int) → (k : Int → Option β) → Option β) (q_impl_Table_at : (a0 : Int) → (a1 : Int) → (a2 : Int) → (k : Int → Option β) → Option β) (q_impl_talk_value_l0 : Nat → Int → Int → Int → Int → Int → Int → Mp → Int → Int → (Int → Int → Int → Int → Mp → Option β) → (Int → Int → Int → Int → Mp → Option β) → Option β) : Env β := ⟨[(50, VS50 N q_impl_Table_size), (51, VS51 N q_impl_Table_at)], [], [(0, VLS37_0 N q_impl_talk_value_l0)], []⟩
def E37 {β : Type} (N : Nat) : Env β := VE37 N (impl_Table_size N) (impl_Table_at N) (impl_talk_value_l0 N)
def BV_impl_talk_value_l0b {β : Type} (N : Nat) (q_impl_Table_at : (a0 : Int) → (a1 : Int) → (a2 : Int) → (k : Int → Option β) → Option β)  (v0 : Int) (v1 : Int) (v2 : Int) (v3 : Int) (v4 : Int) (v5 : Int) (v6 : Mp) (v7 : Int) (v8 : Int) (rec_ : Int → Int → Int → Int → Int → Int → Mp → Int → Int → Option β) (k0 : Int → Int → Int → Int → Mp → Option β) (k1 : Int → Int → Int → Int → Mp → Option β) : Option β :=
(cond ((decide (v2 < v1)))
((gd ((decide (0 ≤ v5)))
((gd ((decide (0 ≤ (bits .and .i64 v2 (w64 ((shlI .i64 1 v5) - 1))))))
((cond (((bits .and .i64 (shrI .i64 v7 (bits .and .i64 v2 (w64 ((shlI .i64 1 v5) - 1)))) 1) == 0))
(rec_ v0 v1 ((w64 (v2 + 1))) v3 v4 v5 v6 v7 v8)
((gd ((decide (0 ≤ v5)))
((gd ((decide (0 ≤ (shrI .i64 v2 v5))))
((cond (((bits .and .i64 (shrI .i64 v8 (shrI .i64 v2 v5)) 1) == 0))
(rec_ v0 v1 ((w64 (v2 + 1))) v3 v4 v5 v6 v7 v8)
((cond ((decide (v0 ≥ 0)))
(q_impl_Table_at v3 v4 v2 fun r9 =>
(cond ((r9 != v0))
(k0 (-1) v3 v4 v5 v6)
(q_impl_Table_at v3 v4 v2 fun r10 =>
rec_ r10 v1 ((w64 (v2 + 1))) v3 v4 v5 v6 v7 v8)))
(q_impl_Table_at v3 v4 v2 fun r11 =>
rec_ r11 v1 ((w64 (v2 + 1))) v3 v4 v5 v6 v7 v8)))))))))))))))
(k1 v0 v3 v4 v5 v6))
theorem t_impl_talk_value_l0b {β : Type} (N : Nat)  (v0 : Int) (v1 : Int) (v2 : Int) (v3 : Int) (v4 : Int) (v5 : Int) (v6 : Mp) (v7 : Int) (v8 : Int) (rec_ : Int → Int → Int → Int → Int → Int → Mp → Int → Int → Option β) (k0 : Int → Int → Int → Int → Mp → Option β) (k1 : Int → Int → Int → Int → Mp → Option β) : impl_talk_value_l0b N v0 v1 v2 v3 v4 v5 v6 v7 v8 rec_ k0 k1 = BV_impl_talk_value_l0b N (impl_Table_at N) v0 v1 v2 v3 v4 v5 v6 v7 v8 rec_ k0 k1 := by
  unfold impl_talk_value_l0b BV_impl_talk_value_l0b
  rfl
theorem vst37_0_0 {β : Type} (N : Nat) (q_impl_Table_size : (a0 : Int) → (a1 : Int) → (k : Int → Option β) → Option β) (q_impl_Table_at : (a0 : Int) → (a1 : Int) → (a2 : Int) → (k : Int → Option β) → Option β) (q_impl_talk_value_l0 : Nat → Int → Int → Int → Int → Int → Int → Mp → Int → Int → (Int → Int → Int → Int → Mp → Option β) → (Int → Int → Int → Int → Mp → Option β) → Option β)  (v0 : Int) (v1 : Int) (v2 : Int) (v3 : Int) (v4 : Int) (v5 : Int) (v6 : Mp) (v7 : Int) (v8 : Int) (rec_ : St → Option β) (K : Exit → St → Option β) :
    ev lay (VE37 N q_impl_Table_size q_impl_Table_at q_impl_talk_value_l0) (retMask Tryd.f37) (lp Tryd.f37 0).body (lp Tryd.f37 0).ex ((lp Tryd.f37 0).lv (retMask Tryd.f37)) (h37_0_0  v0 v1 v2 v3 v4 v5 v6 v7 v8) (nextR (fun s' => rec_ (s'.tidy ((lp Tryd.f37 0).lv (retMask Tryd.f37)))) K) = BV_impl_talk_value_l0b N q_impl_Table_at  v0 v1 v2 v3 v4 v5 v6 v7 v8 (fun v0 v1 v2 v3 v4 v5 v6 v7 v8 => rec_ (h37_0_0  v0 v1 v2 v3 v4 v5 v6 v7 v8)) (fun y0 y1 y2 y3 y4 => K .ret (x37_0_0_k0  y0 y1 y2 y3 y4)) (fun y0 y1 y2 y3 y4 => K (.exit 0) (x37_0_0_k1  y0 y1 y2 y3 y4)) := by kernel_rfl
theorem st37_0_0 {β : Type} (N : Nat)  (v0 : Int) (v1 : Int) (v2 : Int) (v3 : Int) (v4 : Int) (v5 : Int) (v6 : Mp) (v7 : Int) (v8 : Int) (rec_ : St → Option β) (K : Exit → St → Option β) :
    ev lay (E37 N) (retMask Tryd.f37) (lp Tryd.f37 0).body (lp Tryd.f37 0).ex ((lp Tryd.f37 0).lv (retMask Tryd.f37)) (h37_0_0  v0 v1 v2 v3 v4 v5 v6 v7 v8) (nextR (fun s' => rec_ (s'.tidy ((lp Tryd.f37 0).lv (retMask Tryd.f37)))) K) = impl_talk_value_l0b N  v0 v1 v2 v3 v4 v5 v6 v7 v8 (fun v0 v1 v2 v3 v4 v5 v6 v7 v8 => rec_ (h37_0_0  v0 v1 v2 v3 v4 v5 v6 v7 v8)) (fun y0 y1 y2 y3 y4 => K .ret (x37_0_0_k0  y0 y1 y2 y3 y4)) (fun y0 y1 y2 y3 y4 => K (.exit 0) (x37_0_0_k1  y0 y1 y2 y3 y4)) := (vst37_0_0 N (impl_Table_size N) (impl_Table_at N) (impl_talk_value_l0 N) v0 v1 v2 v3 v4 v5 v6 v7 v8 rec_ K).trans (t_impl_talk_value_l0b N  v0 v1 v2 v3 v4 v5 v6 v7 v8 (fun v0 v1 v2 v3 v4 v5 v6 v7 v8 => rec_ (h37_0_0  v0 v1 v2 v3 v4 v5 v6 v7 v8)) (fun y0 y1 y2 y3 y4 => K .ret (x37_0_0_k0  y0 y1 y2 y3 y4)) (fun y0 y1 y2 y3 y4 => K (.exit 0) (x37_0_0_k1  y0 y1 y2 y3 y4))).symm
theorem ro37_0_0 {β : Type} (N : Nat)  (K : Exit → St → Option β) : ∀ (F : Nat) (v0 : Int) (v1 : Int) (v2 : Int) (v3 : Int) (v4 : Int) (v5 : Int) (v6 : Mp) (v7 : Int) (v8 : Int), (lp Tryd.f37 0).rounds lay (E37 N) (retMask Tryd.f37) F (h37_0_0  v0 v1 v2 v3 v4 v5 v6 v7 v8) K = impl_talk_value_l0 N  F v0 v1 v2 v3 v4 v5 v6 v7 v8 (fun y0 y1 y2 y3 y4 => K .ret (x37_0_0_k0  y0 y1 y2 y3 y4)) (fun y0 y1 y2 y3 y4 => K (.exit 0) (x37_0_0_k1  y0 y1 y2 y3 y4)) := by
  intro F
  induction F with
  | zero => intros; rfl
  | succ F ih =>
    intros
    rw [rounds_next]
    refine (st37_0_0 N  _ _ _ _ _ _ _ _ _ (fun s => (lp Tryd.f37 0).rounds lay (E37 N) (retMask Tryd.f37) F s K) K).trans ?_
    simp only [ih]
    rfl
theorem lk37_0 {β : Type} (N : Nat) : lookL (E37 (β := β) N).loops (lp Tryd.f37 0).id = LS37_0 N := by kernel_rfl
theorem rk37_0 {β : Type} (N : Nat) : RoundsOK lay (E37 (β := β) N) (retMask Tryd.f37) (lp Tryd.f37 0) := by
  intro s K r h
  rw [lk37_0] at h
  unfold LS37_0 VLS37_0 at h
  cases hb : shpSt (h37_0_0 0 0 0 0 0 0 [] 0 0) s with
  | true =>
    rw [hb, cond_true] at h
    exact ⟨N, by rw [← shpSt_ref hb, fl37_0_0 s]; exact (ro37_0_0 N  K N (intS (oneA (vT (nx tund s.tmps 5)))) (intS (oneA (vT (nx tund s.tmps 11)))) (intS (oneA (vT (nx tund s.tmps 12)))) (intS (nx .und (cellsB (nx .dead s.blks 0)) 0)) (intS (nx .und (cellsB (nx .dead s.blks 0)) 1)) (intS (nx .und (cellsB (nx .dead s.blks 0)) 2)) (mpB (nx .dead s.blks 1)) (intS (nx .und (cellsB (nx .dead s.blks 2)) 0)) (intS (nx .und (cellsB (nx .dead s.blks 2)) 1))).trans h⟩
  | false =>
  rw [hb, cond_false] at h
  clear hb
  cases h
def BV_impl_talk_value_g0 {β : Type} (N : Nat) (q_impl_Table_size : (a0 : Int) → (a1 : Int) → (k : Int → Option β) → Option β) (q_impl_talk_value_l0 : Nat → Int → Int → Int → Int → Int → Int → Mp → Int → Int → (Int → Int → Int → Int → Mp → Option β) → (Int → Int → Int → Int → Mp → Option β) → Option β) (a0 : Int) (a1 : Int) (a2 : Int) (a3 : Int) (a4 : Int) (a5 : Mp) (k0 : Int → Int → Int → Int → Mp → Option β) : Option β :=
q_impl_Table_size a2 a3 fun r8 =>
q_impl_talk_value_l0  N (-1) r8 0 a2 a3 a4 a5 a0 a1 (fun e12_0 e12_1 e12_2 e12_3 e12_4 =>
k0 e12_0 e12_1 e12_2 e12_3 e12_4) (fun e13_0 e13_1 e13_2 e13_3 e13_4 =>
k0 e13_0 e13_1 e13_2 e13_3 e13_4)
theorem t_impl_talk_value_g0 {β : Type} (N : Nat) (a0 : Int) (a1 : Int) (a2 : Int) (a3 : Int) (a4 : Int) (a5 : Mp) (k0 : Int → Int → Int → Int → Mp → Option β) : impl_talk_value_g0 N a0 a1 a2 a3 a4 a5 k0 = BV_impl_talk_value_g0 N (impl_Table_size N) (impl_talk_value_l0 N) a0 a1 a2 a3 a4 a5 k0 := by
  unfold impl_talk_value_g0 BV_impl_talk_value_g0
  rfl
theorem ve37_0 {β : Type} (N : Nat) (q_impl_Table_size : (a0 : Int) → (a1 : Int) → (k : Int → Option β) → Option β) (q_impl_Table_at : (a0 : Int) → (a1 : Int) → (a2 : Int) → (k : Int → Option β) → Option β) (q_impl_talk_value_l0 : Nat → Int → Int → Int → Int → Int → Int → Mp → Int → Int → (Int → Int → Int → Int → Mp → Option β) → (Int → Int → Int → Int → Mp → Option β) → Option β) (a0 : Int) (a1 : Int) (a2 : Int) (a3 : Int) (a4 : Int) (a5 : Mp) (K : TV → List Blk → Option β) : evFnG lay (VE37 N q_impl_Table_size q_impl_Table_at q_impl_talk_value_l0) Tryd.f37 [.v (.one (.ptr 0 0)), .v (.agg [.int .i64 a0, .int .i64 a1])] [.pcells 0 62 [.int .i64 a2, .int .i64 a3, .int .i64 a4, .mp 1], .pmp 1 ⟨true, false⟩ a5] K = BV_impl_talk_value_g0 N q_impl_Table_size q_impl_talk_value_l0 a0 a1 a2 a3 a4 a5 (fun y0 y1 y2 y3 y4 => K (.v (.one (.int .i64 y0))) [.pcells 0 62 [.int .i64 y1, .int .i64 y2, .int .i64 y3, .mp 1], .pmp 1 ⟨true, false⟩ y4]) := by kernel_rfl
theorem e37_0 {β : Type} (N : Nat) (a0 : Int) (a1 : Int) (a2 : Int) (a3 : Int) (a4 : Int) (a5 : Mp) (K : TV → List Blk → Option β) : evFnG lay (E37 N) Tryd.f37 [.v (.one (.ptr 0 0)), .v (.agg [.int .i64 a0, .int .i64 a1])] [.pcells 0 62 [.int .i64 a2, .int .i64 a3, .int .i64 a4, .mp 1], .pmp 1 ⟨true, false⟩ a5] K = impl_talk_value_g0 N a0 a1 a2 a3 a4 a5 (fun y0 y1 y2 y3 y4 => K (.v (.one (.int .i64 y0))) [.pcells 0 62 [.int .i64 y1, .int .i64 y2, .int .i64 y3, .mp 1], .pmp 1 ⟨true, false⟩ y4]) := (ve37_0 N (impl_Table_size N) (impl_Table_at N) (impl_talk_value_l0 N) a0 a1 a2 a3 a4 a5 K).trans (t_impl_talk_value_g0 N a0 a1 a2 a3 a4 a5 (fun y0 y1 y2 y3 y4 => K (.v (.one (.int .i64 y0))) [.pcells 0 62 [.int .i64 y1, .int .i64 y2, .int .i64 y3, .mp 1], .pmp 1 ⟨true, false⟩ y4])).symm
theorem o37 {β : Type} (N : Nat) : GOK (β := β) Tryd.prog 37 (S37 N) := by
  refine g_of lay_ok mixed (E := E37 N) (specs_loops (specs_cons (o50 N) (specs_cons (o51 N) specs_nil))) muts_nil gs_nil Tryd.func37 (by kernel_rfl) 1 (by kernel_rfl) ⟨trivial, rk37_0 N⟩ fun args bl K r h => ?_
  unfold S37 VS37 at h
  split at h
  · exact (e37_0 N _ _ _ _ _ _ _).trans h
  · cases h
def VSF40 {β : Type} (N : Nat) (q_impl_talk_need_g0_f : Nat → Int → Int → Int → Int → Int → Mp → (Int → Int → Int → Int → Mp → Option β) → Option β) (G : Nat) : GSpec β := fun args bl K => match args, bl with
  | [.v (.one (.ptr 0 0)), .v (.agg [.int .i64 a0, .int .i64 a1])], [.pcells 0 62 [.int .i64 a2, .int .i64 a3, .int .i64 a4, .mp 1], .pmp 1 ⟨true, false⟩ a5] => q_impl_talk_need_g0_f G a0 a1 a2 a3 a4 a5 (fun y0 y1 y2 y3 y4 => K (.v (.one (.int .i64 y0))) [.pcells 0 62 [.int .i64 y1, .int .i64 y2, .int .i64 y3, .mp 1], .pmp 1 ⟨true, false⟩ y4])
  | _, _ => none
def SF40 {β : Type} (N : Nat) (G : Nat) : GSpec β := VSF40 N (impl_talk_need_g0_f N) G
def VS40 {β : Type} (N : Nat) (q_impl_talk_need_g0_f : Nat → Int → Int → Int → Int → Int → Mp → (Int → Int → Int → Int → Mp → Option β) → Option β) : GSpec β := VSF40 N q_impl_talk_need_g0_f N
def S40 {β : Type} (N : Nat) : GSpec β := SF40 N N
def h40_0_0  (v0 : Int) (v1 : Int) (v2 : Int) (v3 : Int) (v4 : Int) (v5 : Int) (v6 : Mp) (v7 : Int) (v8 : Int) (v9 : List Int) : St := ⟨.v (.one (.ptr 0 0)) :: .v (.one .und) :: .v (.one .und) :: .v (.one (.ptr 2 0)) :: .v (.one .und) :: .v (.one .und) :: .v (.one .und) :: .v (.one (.int .i64 v0)) :: .v (.one .und) :: .v (.one .und) :: .v (.one .und) :: .v (.one .und) :: .v (.one .und) :: .v (.one .und) :: .v (.one .und) :: .v (.one .und) :: .v (.one .und) :: .v (.one .und) :: .v (.one .und) :: .v (.one .und) :: .v (.one .und) :: .v (.one .und) :: .v (.one .und) :: .v (.one .und) :: .v (.one .und) :: .v (.one .und) :: .v (.one .und) :: .v (.one .und) :: .v (.one .und) :: .v (.one .und) :: .v (.one (.row 3)) :: .v (.one (.int .i64 v1)) :: .v (.one (.int .i64 v2)) :: .v (.one .und) :: .v (.one .und) :: .v (.one .und) :: .v (.one .und) :: .v (.one .und) :: .v (.one .und) :: .v (.one .und) :: .v (.one .und) :: .v (.one .und) :: .v (.one .und) :: .v (.one .und) :: .v (.one .und) :: .v (.one .und) :: .v (.one .und) :: .v (.one .und) :: .v (.one .und) :: .v (.one .und) :: .v (.one .und) :: .v (.one .und) :: .v (.one .und) :: .v (.one .und) :: .v (.one .und) :: .v (.one .und) :: .v (.one .und) :: .v (.one .und) :: .v (.one .und) :: .v (.one .und) :: .v (.one .und) :: .v (.one .und) :: .v (.one .und) :: .v (.one .und) :: .v (.one .und) :: .v (.one .und) :: .v (.one .und) :: [], [.pcells 0 62 [.int .i64 v3, .int .i64 v4, .int .i64 v5, .mp 1], .pmp 1 ⟨true, false⟩ v6, .cells 46 [.int .i64 v7, .int .i64 v8], .srow 5 (.ints .u8 v9)]⟩
def x40_0_0_k0  (y0 : Int) (y1 : Int) (y2 : Int) (y3 : Int) (y4 : Mp) (y5 : Int) (y6 : Int) : St := ⟨.v (.one (.ptr 0 0)) :: .v (.one .und) :: .v (.one .und) :: .v (.one (.ptr 2 0)) :: .v (.one .und) :: .v (.one .und) :: .v (.one .und) :: .v (.one (.int .i64 y0)) :: .v (.one .und) :: .v (.one .und) :: .v (.one .und) :: .v (.one .und) :: .v (.one .und) :: .v (.one .und) :: .v (.one .und) :: .v (.one .und) :: .v (.one .und) :: .v (.one .und) :: .v (.one .und) :: .v (.one .und) :: .v (.one .und) :: .v (.one .und) :: .v (.one .und) :: .v (.one .und) :: .v (.one .und) :: .v (.one .und) :: .v (.one .und) :: .v (.one .und) :: .v (.one .und) :: .v (.one .und) :: .v (.one .und) :: .v (.one .und) :: .v (.one .und) :: .v (.one .und) :: .v (.one .und) :: .v (.one .und) :: .v (.one .und) :: .v (.one .und) :: .v (.one .und) :: .v (.one .und) :: .v (.one .und) :: .v (.one .und) :: .v (.one .und) :: .v (.one .und) :: .v (.one .und) :: .v (.one .und) :: .v (.one .und) :: .v (.one .und) :: .v (.one .und) :: .v (.one .und) :: .v (.one .und) :: .v (.one .und) :: .v (.one .und) :: .v (.one .und) :: .v (.one .und) :: .v (.one .und) :: .v (.one .und) :: .v (.one .und) :: .v (.one .und) :: .v (.one .und) :: .v (.one .und) :: .v (.one .und) :: .v (.one .und) :: .v (.one .und) :: .v (.one .und) :: .v (.one .und) :: .v (.one .und) :: [], [.pcells 0 62 [.int .i64 y1, .int .i64 y2, .int .i64 y3, .mp 1], .pmp 1 ⟨true, false⟩ y4, .cells 46 [.int .i64 y5, .int .i64 y6]]⟩
def h40_1_0  (v0 : Int) (v1 : Int) (v2 : Int) (v3 : Int) (v4 : Int) (v5 : Int) (v6 : Int) (v7 : Int) (v8 : Mp) (v9 : Int) (v10 : Int) (v11 : List Int) : St := ⟨.v (.one (.ptr 0 0)) :: .v (.one .und) :: .v (.one .und) :: .v (.one (.ptr 2 0)) :: .v (.one .und) :: .v (.one .und) :: .v (.one .und) :: .v (.one (.int .i64 v0)) :: .v (.one .und) :: .v (.one (.int .u8 v1)) :: .v (.one .und) :: .v (.one .und) :: .v (.one .und) :: .v (.one .und) :: .v (.one .und) :: .v (.one .und) :: .v (.one .und) :: .v (.one .und) :: .v (.one .und) :: .v (.one .und) :: .v (.one .und) :: .v (.one .und) :: .v (.one .und) :: .v (.one .und) :: .v (.one .und) :: .v (.one .und) :: .v (.one .und) :: .v (.one .und) :: .v (.one .und) :: .v (.one .und) :: .v (.one (.row 3)) :: .v (.one (.int .i64 v2)) :: .v (.one (.int .i64 v3)) :: .v (.one .und) :: .v (.one .und) :: .v (.one .und) :: .v (.one (.int .i64 v4)) :: .v (.one .und) :: .v (.one .und) :: .v (.one .und) :: .v (.one .und) :: .v (.one .und) :: .v (.one .und) :: .v (.one .und) :: .v (.one .und) :: .v (.one .und) :: .v (.one .und) :: .v (.one .und) :: .v (.one .und) :: .v (.one .und) :: .v (.one .und) :: .v (.one .und) :: .v (.one .und) :: .v (.one .und) :: .v (.one .und) :: .v (.one .und) :: .v (.one .und) :: .v (.one .und) :: .v (.one .und) :: .v (.one .und) :: .v (.one .und) :: .v (.one .und) :: .v (.one .und) :: .v (.one .und) :: .v (.one .und) :: .v (.one .und) :: .v (.one .und) :: [], [.pcells 0 62 [.int .i64 v5, .int .i64 v6, .int .i64 v7, .mp 1], .pmp 1 ⟨true, false⟩ v8, .cells 46 [.int .i64 v9, .int .i64 v10], .srow 5 (.ints .u8 v11)]⟩
def x40_1_0_k0  (y0 : Int) (y1 : Int) (y2 : Int) (y3 : Int) (y4 : Int) (y5 : Int) (y6 : Mp) (y7 : Int) (y8 : Int) (y9 : List Int) : St := ⟨.v (.one (.ptr 0 0)) :: .v (.one .und) :: .v (.one .und) :: .v (.one (.ptr 2 0)) :: .v (.one .und) :: .v (.one .und) :: .v (.one .und) :: .v (.one (.int .i64 y0)) :: .v (.one .und) :: .v (.one .und) :: .v (.one .und) :: .v (.one .und) :: .v (.one .und) :: .v (.one .und) :: .v (.one .und) :: .v (.one .und) :: .v (.one .und) :: .v (.one .und) :: .v (.one .und) :: .v (.one .und) :: .v (.one .und) :: .v (.one .und) :: .v (.one .und) :: .v (.one .und) :: .v (.one .und) :: .v (.one .und) :: .v (.one .und) :: .v (.one .und) :: .v (.one .und) :: .v (.one .und) :: .v (.one (.row 3)) :: .v (.one (.int .i64 y1)) :: .v (.one (.int .i64 y2)) :: .v (.one .und) :: .v (.one .und) :: .v (.one .und) :: .v (.one .und) :: .v (.one .und) :: .v (.one .und) :: .v (.one .und) :: .v (.one .und) :: .v (.one .und) :: .v (.one .und) :: .v (.one .und) :: .v (.one .und) :: .v (.one .und) :: .v (.one .und) :: .v (.one .und) :: .v (.one .und) :: .v (.one .und) :: .v (.one .und) :: .v (.one .und) :: .v (.one .und) :: .v (.one .und) :: .v (.one .und) :: .v (.one .und) :: .v (.one .und) :: .v (.one .und) :: .v (.one .und) :: .v (.one .und) :: .v (.one .und) :: .v (.one .und) :: .v (.one .und) :: .v (.one .und) :: .v (.one .und) :: .v (.one .und) :: .v (.one .und) :: [], [.pcells 0 62 [.int .i64 y3, .int .i64 y4, .int .i64 y5, .mp 1], .pmp 1 ⟨true, false⟩ y6, .cells 46 [.int .i64 y7, .int .i64 y8], .srow 5 (.ints .u8 y9)]⟩
theorem fl40_0_0 (s : St) : refSt (h40_0_0 0 0 0 0 0 0 [] 0 0 []) s = h40_0_0 (intS (oneA (vT (nx tund s.tmps 7)))) (intS (oneA (vT (nx tund s.tmps 31)))) (intS (oneA (vT (nx tund s.tmps 32)))) (intS (nx .und (cellsB (nx .dead s.blks 0)) 0)) (intS (nx .und (cellsB (nx .dead s.blks 0)) 1)) (intS (nx .und (cellsB (nx .dead s.blks 0)) 2)) (mpB (nx .dead s.blks 1)) (intS (nx .und (cellsB (nx .dead s.blks 2)) 0)) (intS (nx .und (cellsB (nx .dead s.blks 2)) 1)) (rInts (rowB_ (nx .dead s.blks 3))) := by kernel_rfl
def VLS40_0 {β : Type} (N : Nat) (q_impl_talk_need_l0 : (self : Int → Int → Int → Int → Int → Mp → (Int → Int → Int → Int → Mp → Option β) → Option β) → Nat → Int → Int → Int → Int → Int → Int → Mp → Int → Int → List Int → (Int → Int → Int → Int → Mp → Int → Int → Option β) → Option β) (q_impl_talk_need_g0_f : Nat → Int → Int → Int → Int → Int → Mp → (Int → Int → Int → Int → Mp → Option β) → Option β) (G : Nat) : LSpec β := fun s K => cond (shpSt (h40_0_0 0 0 0 0 0 0 [] 0 0 []) s) ((fun (v0 : Int) (v1 : Int) (v2 : Int) (v3 : Int) (v4 : Int) (v5 : Int) (v6 : Mp) (v7 : Int) (v8 : Int) (v9 : List Int) => q_impl_talk_need_l0 (q_impl_talk_need_g0_f G)  N v0 v1 v2 v3 v4 v5 v6 v7 v8 v9 (fun y0 y1 y2 y3 y4 y5 y6 => K (.exit 0) (x40_0_0_k0  y0 y1 y2 y3 y4 y5 y6))) (intS (oneA (vT (nx tund s.tmps 7)))) (intS (oneA (vT (nx tund s.tmps 31)))) (intS (oneA (vT (nx tund s.tmps 32)))) (intS (nx .und (cellsB (nx .dead s.blks 0)) 0)) (intS (nx .und (cellsB (nx .dead s.blks 0)) 1)) (intS (nx .und (cellsB (nx .dead s.blks 0)) 2)) (mpB (nx .dead s.blks 1)) (intS (nx .und (cellsB (nx .dead s.blks 2)) 0)) (intS (nx .und (cellsB (nx .dead s.blks 2)) 1)) (rInts (rowB_ (nx .dead s.blks 3)))) (none)
def LS40_0 {β : Type} (N : Nat) (G : Nat) : LSpec β := VLS40_0 N (impl_talk_need_l0 N) (impl_talk_need_g0_f N) G
theorem fl40_1_0 (s : St) : refSt (h40_1_0 0 0 0 0 0 0 0 0 [] 0 0 []) s = h40_1_0 (intS (oneA (vT (nx tund s.tmps 7)))) (intS (oneA (vT (nx tund s.tmps 9)))) (intS (oneA (vT (nx tund s.tmps 31)))) (intS (oneA (vT (nx tund s.tmps 32)))) (intS (oneA (vT (nx tund s.tmps 36)))) (intS (nx .und (cellsB (nx .dead s.blks 0)) 0)) (intS (nx .und (cellsB (nx .dead s.blks 0)) 1)) (intS (nx .und (cellsB (nx .dead s.blks 0)) 2)) (mpB (nx .dead s.blks 1)) (intS (nx .und (cellsB (nx .dead s.blks 2)) 0)) (intS (nx .und (cellsB (nx .dead s.blks 2)) 1)) (rInts (rowB_ (nx .dead s.blks 3))) := by kernel_rfl
def VLS40_2 {β : Type} (N : Nat) (q_impl_talk_need_l2 : (self : Int → Int → Int → Int → Int → Mp → (Int → Int → Int → Int → Mp → Option β) → Option β) → Nat → Int → Int → Int → Int → Int → Int → Int → Int → Mp → Int → Int → List Int → (Int → Int → Int → Int → Int → Int → Mp → Int → Int → List Int → Option β) → Option β) (q_impl_talk_need_g0_f : Nat → Int → Int → Int → Int → Int → Mp → (Int → Int → Int → Int → Mp → Option β) → Option β) (G : Nat) : LSpec β := fun s K => cond (shpSt (h40_1_0 0 0 0 0 0 0 0 0 [] 0 0 []) s) ((fun (v0 : Int) (v1 : Int) (v2 : Int) (v3 : Int) (v4 : Int) (v5 : Int) (v6 : Int) (v7 : Int) (v8 : Mp) (v9 : Int) (v10 : Int) (v11 : List Int) => q_impl_talk_need_l2 (q_impl_talk_need_g0_f G)  N v0 v1 v2 v3 v4 v5 v6 v7 v8 v9 v10 v11 (fun y0 y1 y2 y3 y4 y5 y6 y7 y8 y9 => K (.exit 2) (x40_1_0_k0  y0 y1 y2 y3 y4 y5 y6 y7 y8 y9))) (intS (oneA (vT (nx tund s.tmps 7)))) (intS (oneA (vT (nx tund s.tmps 9)))) (intS (oneA (vT (nx tund s.tmps 31)))) (intS (oneA (vT (nx tund s.tmps 32)))) (intS (oneA (vT (nx tund s.tmps 36)))) (intS (nx .und (cellsB (nx .dead s.blks 0)) 0)) (intS (nx .und (cellsB (nx .dead s.blks 0)) 1)) (intS (nx .und (cellsB (nx .dead s.blks 0)) 2)) (mpB (nx .dead s.blks 1)) (intS (nx .und (cellsB (nx .dead s.blks 2)) 0)) (intS (nx .und (cellsB (nx .dead s.blks 2)) 1)) (rInts (rowB_ (nx .dead s.blks 3)))) (none)
def LS40_2 {β : Type} (N : Nat) (G : Nat) : LSpec β := VLS40_2 N (impl_talk_need_l2 N) (impl_talk_need_g0_f N) G
def VE40 {β : Type} (N : Nat) (q_impl_sides_parted : (a0 : Int) → (a1 : Int) → (a2 : Int) → (a3 : Int) → (k : Int → Int → Int → Int → Bool → Option β) → Option β) (q_impl_talk_need_l0 : (self : Int → Int → Int → Int → Int → Mp → (Int → Int → Int → Int → Mp → Option β) → Option β) → Nat → Int → Int → Int → Int → Int → Int → Mp → Int → Int → List Int → (Int → Int → Int → Int → Mp → Int → Int → Option β) → Option β) (q_impl_talk_need_g0_f : Nat → Int → Int → Int → Int → Int → Mp → (Int → Int → Int → Int → Mp → Option β) → Option β) (q_impl_talk_need_l2 : (self : Int → Int → Int → Int → Int → Mp → (Int → Int → Int → Int → Mp → Option β) → Option β) → Nat → Int → Int → Int → Int → Int → Int → Int → Int → Mp → Int → Int → List Int → (Int → Int → Int → Int → Int → Int → Mp → Int → Int → List Int → Option β) → Option β) (q_impl_talk_value_g0 : (a0 : Int) → (a1 : Int) → (a2 : Int) → (a3 : Int) → (a4 : Int) → (a5 : Mp) → (k0 : Int → Int → Int → Int → Mp → Option β) → Option β) (G : Nat) : Env β := ⟨[(39, VS39 N q_impl_sides_parted)], [], [(0, VLS40_0 N q_impl_talk_need_l0 q_impl_talk_need_g0_f G), (2, VLS40_2 N q_impl_talk_need_l2 q_impl_talk_need_g0_f G)], [(37, VS37 N q_impl_talk_value_g0), (40, VSF40 N q_impl_talk_need_g0_f G)]⟩
def E40 {β : Type} (N : Nat) (G : Nat) : Env β := VE40 N (impl_sides_parted N) (impl_talk_need_l0 N) (impl_talk_need_g0_f N) (impl_talk_need_l2 N) (impl_talk_value_g0 N) G
def BV_impl_talk_need_l0b {β : Type} (N : Nat) (q_impl_talk_need_l2 : (self : Int → Int → Int → Int → Int → Mp → (Int → Int → Int → Int → Mp → Option β) → Option β) → Nat → Int → Int → Int → Int → Int → Int → Int → Int → Mp → Int → Int → List Int → (Int → Int → Int → Int → Int → Int → Mp → Int → Int → List Int → Option β) → Option β) (self : Int → Int → Int → Int → Int → Mp → (Int → Int → Int → Int → Mp → Option β) → Option β)  (v0 : Int) (v1 : Int) (v2 : Int) (v3 : Int) (v4 : Int) (v5 : Int) (v6 : Mp) (v7 : Int) (v8 : Int) (v9 : List Int) (rec_ : Int → Int → Int → Int → Int → Int → Mp → Int → Int → List Int → Option β) (k0 : Int → Int → Int → Int → Mp → Int → Int → Option β) : Option β :=
(cond ((decide (v2 < v1)))
((gd ((decide (0 ≤ v2)))
((gd ((decide (v2 < (v9.length : Int))))
(q_impl_talk_need_l2 self  N v0 ((rd 0 v9 v2)) v1 v2 0 v3 v4 v5 v6 v7 v8 v9 (fun e29_0 e29_1 e29_2 e29_3 e29_4 e29_5 e29_6 e29_7 e29_8 e29_9 =>
rec_ e29_0 e29_1 ((w64 (e29_2 + 1))) e29_3 e29_4 e29_5 e29_6 e29_7 e29_8 e29_9))))))
(k0 v0 v3 v4 v5 v6 v7 v8))
theorem t_impl_talk_need_l0b {β : Type} (N : Nat) (self : Int → Int → Int → Int → Int → Mp → (Int → Int → Int → Int → Mp → Option β) → Option β)  (v0 : Int) (v1 : Int) (v2 : Int) (v3 : Int) (v4 : Int) (v5 : Int) (v6 : Mp) (v7 : Int) (v8 : Int) (v9 : List Int) (rec_ : Int → Int → Int → Int → Int → Int → Mp → Int → Int → List Int → Option β) (k0 : Int → Int → Int → Int → Mp → Int → Int → Option β) : impl_talk_need_l0b N self v0 v1 v2 v3 v4 v5 v6 v7 v8 v9 rec_ k0 = BV_impl_talk_need_l0b N (impl_talk_need_l2 N) self v0 v1 v2 v3 v4 v5 v6 v7 v8 v9 rec_ k0 := by
  unfold impl_talk_need_l0b BV_impl_talk_need_l0b
  rfl
theorem vst40_0_0 {β : Type} (N : Nat) (q_impl_sides_parted : (a0 : Int) → (a1 : Int) → (a2 : Int) → (a3 : Int) → (k : Int → Int → Int → Int → Bool → Option β) → Option β) (q_impl_talk_need_l0 : (self : Int → Int → Int → Int → Int → Mp → (Int → Int → Int → Int → Mp → Option β) → Option β) → Nat → Int → Int → Int → Int → Int → Int → Mp → Int → Int → List Int → (Int → Int → Int → Int → Mp → Int → Int → Option β) → Option β) (q_impl_talk_need_g0_f : Nat → Int → Int → Int → Int → Int → Mp → (Int → Int → Int → Int → Mp → Option β) → Option β) (q_impl_talk_need_l2 : (self : Int → Int → Int → Int → Int → Mp → (Int → Int → Int → Int → Mp → Option β) → Option β) → Nat → Int → Int → Int → Int → Int → Int → Int → Int → Mp → Int → Int → List Int → (Int → Int → Int → Int → Int → Int → Mp → Int → Int → List Int → Option β) → Option β) (q_impl_talk_value_g0 : (a0 : Int) → (a1 : Int) → (a2 : Int) → (a3 : Int) → (a4 : Int) → (a5 : Mp) → (k0 : Int → Int → Int → Int → Mp → Option β) → Option β) (G : Nat)  (v0 : Int) (v1 : Int) (v2 : Int) (v3 : Int) (v4 : Int) (v5 : Int) (v6 : Mp) (v7 : Int) (v8 : Int) (v9 : List Int) (rec_ : St → Option β) (K : Exit → St → Option β) :
    ev lay (VE40 N q_impl_sides_parted q_impl_talk_need_l0 q_impl_talk_need_g0_f q_impl_talk_need_l2 q_impl_talk_value_g0 G) (retMask Tryd.f40) (lp Tryd.f40 0).body (lp Tryd.f40 0).ex ((lp Tryd.f40 0).lv (retMask Tryd.f40)) (h40_0_0  v0 v1 v2 v3 v4 v5 v6 v7 v8 v9) (nextR (fun s' => rec_ (s'.tidy ((lp Tryd.f40 0).lv (retMask Tryd.f40)))) K) = BV_impl_talk_need_l0b N q_impl_talk_need_l2 (q_impl_talk_need_g0_f G)  v0 v1 v2 v3 v4 v5 v6 v7 v8 v9 (fun v0 v1 v2 v3 v4 v5 v6 v7 v8 v9 => rec_ (h40_0_0  v0 v1 v2 v3 v4 v5 v6 v7 v8 v9)) (fun y0 y1 y2 y3 y4 y5 y6 => K (.exit 0) (x40_0_0_k0  y0 y1 y2 y3 y4 y5 y6)) := by kernel_rfl
theorem st40_0_0 {β : Type} (N : Nat) (G : Nat)  (v0 : Int) (v1 : Int) (v2 : Int) (v3 : Int) (v4 : Int) (v5 : Int) (v6 : Mp) (v7 : Int) (v8 : Int) (v9 : List Int) (rec_ : St → Option β) (K : Exit → St → Option β) :
    ev lay (E40 N G) (retMask Tryd.f40) (lp Tryd.f40 0).body (lp Tryd.f40 0).ex ((lp Tryd.f40 0).lv (retMask Tryd.f40)) (h40_0_0  v0 v1 v2 v3 v4 v5 v6 v7 v8 v9) (nextR (fun s' => rec_ (s'.tidy ((lp Tryd.f40 0).lv (retMask Tryd.f40)))) K) = impl_talk_need_l0b N (impl_talk_need_g0_f N G)  v0 v1 v2 v3 v4 v5 v6 v7 v8 v9 (fun v0 v1 v2 v3 v4 v5 v6 v7 v8 v9 => rec_ (h40_0_0  v0 v1 v2 v3 v4 v5 v6 v7 v8 v9)) (fun y0 y1 y2 y3 y4 y5 y6 => K (.exit 0) (x40_0_0_k0  y0 y1 y2 y3 y4 y5 y6)) := (vst40_0_0 N (impl_sides_parted N) (impl_talk_need_l0 N) (impl_talk_need_g0_f N) (impl_talk_need_l2 N) (impl_talk_value_g0 N) G v0 v1 v2 v3 v4 v5 v6 v7 v8 v9 rec_ K).trans (t_impl_talk_need_l0b N (impl_talk_need_g0_f N G)  v0 v1 v2 v3 v4 v5 v6 v7 v8 v9 (fun v0 v1 v2 v3 v4 v5 v6 v7 v8 v9 => rec_ (h40_0_0  v0 v1 v2 v3 v4 v5 v6 v7 v8 v9)) (fun y0 y1 y2 y3 y4 y5 y6 => K (.exit 0) (x40_0_0_k0  y0 y1 y2 y3 y4 y5 y6))).symm
theorem ro40_0_0 {β : Type} (N : Nat) (G : Nat)  (K : Exit → St → Option β) : ∀ (F : Nat) (v0 : Int) (v1 : Int) (v2 : Int) (v3 : Int) (v4 : Int) (v5 : Int) (v6 : Mp) (v7 : Int) (v8 : Int) (v9 : List Int), (lp Tryd.f40 0).rounds lay (E40 N G) (retMask Tryd.f40) F (h40_0_0  v0 v1 v2 v3 v4 v5 v6 v7 v8 v9) K = impl_talk_need_l0 N (impl_talk_need_g0_f N G)  F v0 v1 v2 v3 v4 v5 v6 v7 v8 v9 (fun y0 y1 y2 y3 y4 y5 y6 => K (.exit 0) (x40_0_0_k0  y0 y1 y2 y3 y4 y5 y6)) := by
  intro F
  induction F with
  | zero => intros; rfl
  | succ F ih =>
    intros
    rw [rounds_next]
    refine (st40_0_0 N G  _ _ _ _ _ _ _ _ _ _ (fun s => (lp Tryd.f40 0).rounds lay (E40 N G) (retMask Tryd.f40) F s K) K).trans ?_
    simp only [ih]
    rfl
theorem lk40_0 {β : Type} (N : Nat) (G : Nat) : lookL (E40 (β := β) N G).loops (lp Tryd.f40 0).id = LS40_0 N G := by kernel_rfl
theorem rk40_0 {β : Type} (N : Nat) (G : Nat) : RoundsOK lay (E40 (β := β) N G) (retMask Tryd.f40) (lp Tryd.f40 0) := by
  intro s K r h
  rw [lk40_0] at h
  unfold LS40_0 VLS40_0 at h
  cases hb : shpSt (h40_0_0 0 0 0 0 0 0 [] 0 0 []) s with
  | true =>
    rw [hb, cond_true] at h
    exact ⟨N, by rw [← shpSt_ref hb, fl40_0_0 s]; exact (ro40_0_0 N G  K N (intS (oneA (vT (nx tund s.tmps 7)))) (intS (oneA (vT (nx tund s.tmps 31)))) (intS (oneA (vT (nx tund s.tmps 32)))) (intS (nx .und (cellsB (nx .dead s.blks 0)) 0)) (intS (nx .und (cellsB (nx .dead s.blks 0)) 1)) (intS (nx .und (cellsB (nx .dead s.blks 0)) 2)) (mpB (nx .dead s.blks 1)) (intS (nx .und (cellsB (nx .dead s.blks 2)) 0)) (intS (nx .und (cellsB (nx .dead s.blks 2)) 1)) (rInts (rowB_ (nx .dead s.blks 3)))).trans h⟩
  | false =>
  rw [hb, cond_false] at h
  clear hb
  cases h
def BV_impl_talk_need_l2b {β : Type} (N : Nat) (q_impl_sides_parted : (a0 : Int) → (a1 : Int) → (a2 : Int) → (a3 : Int) → (k : Int → Int → Int → Int → Bool → Option β) → Option β) (self : Int → Int → Int → Int → Int → Mp → (Int → Int → Int → Int → Mp → Option β) → Option β)  (v0 : Int) (v1 : Int) (v2 : Int) (v3 : Int) (v4 : Int) (v5 : Int) (v6 : Int) (v7 : Int) (v8 : Mp) (v9 : Int) (v10 : Int) (v11 : List Int) (rec_ : Int → Int → Int → Int → Int → Int → Int → Int → Mp → Int → Int → List Int → Option β) (k0 : Int → Int → Int → Int → Int → Int → Mp → Int → Int → List Int → Option β) : Option β :=
(cond ((decide (v4 < 16)))
(q_impl_sides_parted v9 v10 v1 v4 fun r22 r23 r24 r25 r26 =>
(cond r26
(self r22 r23 v5 v6 v7 v8 (fun r27_0 r27_1 r27_2 r27_3 r27_4 =>
self r24 r25 r27_1 r27_2 r27_3 r27_4 (fun r28_0 r28_1 r28_2 r28_3 r28_4 =>
rec_ ((mnI v0 (w64 (1 + (mxI r27_0 r28_0))))) v1 v2 v3 ((w64 (v4 + 1))) r28_1 r28_2 r28_3 r28_4 v9 v10 v11)))
(rec_ v0 v1 v2 v3 ((w64 (v4 + 1))) v5 v6 v7 v8 v9 v10 v11)))
(k0 v0 v2 v3 v5 v6 v7 v8 v9 v10 v11))
theorem t_impl_talk_need_l2b {β : Type} (N : Nat) (self : Int → Int → Int → Int → Int → Mp → (Int → Int → Int → Int → Mp → Option β) → Option β)  (v0 : Int) (v1 : Int) (v2 : Int) (v3 : Int) (v4 : Int) (v5 : Int) (v6 : Int) (v7 : Int) (v8 : Mp) (v9 : Int) (v10 : Int) (v11 : List Int) (rec_ : Int → Int → Int → Int → Int → Int → Int → Int → Mp → Int → Int → List Int → Option β) (k0 : Int → Int → Int → Int → Int → Int → Mp → Int → Int → List Int → Option β) : impl_talk_need_l2b N self v0 v1 v2 v3 v4 v5 v6 v7 v8 v9 v10 v11 rec_ k0 = BV_impl_talk_need_l2b N (impl_sides_parted N) self v0 v1 v2 v3 v4 v5 v6 v7 v8 v9 v10 v11 rec_ k0 := by
  unfold impl_talk_need_l2b BV_impl_talk_need_l2b
  rfl
theorem vst40_1_0 {β : Type} (N : Nat) (q_impl_sides_parted : (a0 : Int) → (a1 : Int) → (a2 : Int) → (a3 : Int) → (k : Int → Int → Int → Int → Bool → Option β) → Option β) (q_impl_talk_need_l0 : (self : Int → Int → Int → Int → Int → Mp → (Int → Int → Int → Int → Mp → Option β) → Option β) → Nat → Int → Int → Int → Int → Int → Int → Mp → Int → Int → List Int → (Int → Int → Int → Int → Mp → Int → Int → Option β) → Option β) (q_impl_talk_need_g0_f : Nat → Int → Int → Int → Int → Int → Mp → (Int → Int → Int → Int → Mp → Option β) → Option β) (q_impl_talk_need_l2 : (self : Int → Int → Int → Int → Int → Mp → (Int → Int → Int → Int → Mp → Option β) → Option β) → Nat → Int → Int → Int → Int → Int → Int → Int → Int → Mp → Int → Int → List Int → (Int → Int → Int → Int → Int → Int → Mp → Int → Int → List Int → Option β) → Option β) (q_impl_talk_value_g0 : (a0 : Int) → (a1 : Int) → (a2 : Int) → (a3 : Int) → (a4 : Int) → (a5 : Mp) → (k0 : Int → Int → Int → Int → Mp → Option β) → Option β) (G : Nat)  (v0 : Int) (v1 : Int) (v2 : Int) (v3 : Int) (v4 : Int) (v5 : Int) (v6 : Int) (v7 : Int) (v8 : Mp) (v9 : Int) (v10 : Int) (v11 : List Int) (rec_ : St → Option β) (K : Exit → St → Option β) :
    ev lay (VE40 N q_impl_sides_parted q_impl_talk_need_l0 q_impl_talk_need_g0_f q_impl_talk_need_l2 q_impl_talk_value_g0 G) (retMask Tryd.f40) (lp Tryd.f40 1).body (lp Tryd.f40 1).ex ((lp Tryd.f40 1).lv (retMask Tryd.f40)) (h40_1_0  v0 v1 v2 v3 v4 v5 v6 v7 v8 v9 v10 v11) (nextR (fun s' => rec_ (s'.tidy ((lp Tryd.f40 1).lv (retMask Tryd.f40)))) K) = BV_impl_talk_need_l2b N q_impl_sides_parted (q_impl_talk_need_g0_f G)  v0 v1 v2 v3 v4 v5 v6 v7 v8 v9 v10 v11 (fun v0 v1 v2 v3 v4 v5 v6 v7 v8 v9 v10 v11 => rec_ (h40_1_0  v0 v1 v2 v3 v4 v5 v6 v7 v8 v9 v10 v11)) (fun y0 y1 y2 y3 y4 y5 y6 y7 y8 y9 => K (.exit 2) (x40_1_0_k0  y0 y1 y2 y3 y4 y5 y6 y7 y8 y9)) := by kernel_rfl
theorem st40_1_0 {β : Type} (N : Nat) (G : Nat)  (v0 : Int) (v1 : Int) (v2 : Int) (v3 : Int) (v4 : Int) (v5 : Int) (v6 : Int) (v7 : Int) (v8 : Mp) (v9 : Int) (v10 : Int) (v11 : List Int) (rec_ : St → Option β) (K : Exit → St → Option β) :
    ev lay (E40 N G) (retMask Tryd.f40) (lp Tryd.f40 1).body (lp Tryd.f40 1).ex ((lp Tryd.f40 1).lv (retMask Tryd.f40)) (h40_1_0  v0 v1 v2 v3 v4 v5 v6 v7 v8 v9 v10 v11) (nextR (fun s' => rec_ (s'.tidy ((lp Tryd.f40 1).lv (retMask Tryd.f40)))) K) = impl_talk_need_l2b N (impl_talk_need_g0_f N G)  v0 v1 v2 v3 v4 v5 v6 v7 v8 v9 v10 v11 (fun v0 v1 v2 v3 v4 v5 v6 v7 v8 v9 v10 v11 => rec_ (h40_1_0  v0 v1 v2 v3 v4 v5 v6 v7 v8 v9 v10 v11)) (fun y0 y1 y2 y3 y4 y5 y6 y7 y8 y9 => K (.exit 2) (x40_1_0_k0  y0 y1 y2 y3 y4 y5 y6 y7 y8 y9)) := (vst40_1_0 N (impl_sides_parted N) (impl_talk_need_l0 N) (impl_talk_need_g0_f N) (impl_talk_need_l2 N) (impl_talk_value_g0 N) G v0 v1 v2 v3 v4 v5 v6 v7 v8 v9 v10 v11 rec_ K).trans (t_impl_talk_need_l2b N (impl_talk_need_g0_f N G)  v0 v1 v2 v3 v4 v5 v6 v7 v8 v9 v10 v11 (fun v0 v1 v2 v3 v4 v5 v6 v7 v8 v9 v10 v11 => rec_ (h40_1_0  v0 v1 v2 v3 v4 v5 v6 v7 v8 v9 v10 v11)) (fun y0 y1 y2 y3 y4 y5 y6 y7 y8 y9 => K (.exit 2) (x40_1_0_k0  y0 y1 y2 y3 y4 y5 y6 y7 y8 y9))).symm
theorem ro40_1_0 {β : Type} (N : Nat) (G : Nat)  (K : Exit → St → Option β) : ∀ (F : Nat) (v0 : Int) (v1 : Int) (v2 : Int) (v3 : Int) (v4 : Int) (v5 : Int) (v6 : Int) (v7 : Int) (v8 : Mp) (v9 : Int) (v10 : Int) (v11 : List Int), (lp Tryd.f40 1).rounds lay (E40 N G) (retMask Tryd.f40) F (h40_1_0  v0 v1 v2 v3 v4 v5 v6 v7 v8 v9 v10 v11) K = impl_talk_need_l2 N (impl_talk_need_g0_f N G)  F v0 v1 v2 v3 v4 v5 v6 v7 v8 v9 v10 v11 (fun y0 y1 y2 y3 y4 y5 y6 y7 y8 y9 => K (.exit 2) (x40_1_0_k0  y0 y1 y2 y3 y4 y5 y6 y7 y8 y9)) := by
  intro F
  induction F with
  | zero => intros; rfl
  | succ F ih =>
    intros
    rw [rounds_next]
    refine (st40_1_0 N G  _ _ _ _ _ _ _ _ _ _ _ _ (fun s => (lp Tryd.f40 1).rounds lay (E40 N G) (retMask Tryd.f40) F s K) K).trans ?_
    simp only [ih]
    rfl
theorem lk40_2 {β : Type} (N : Nat) (G : Nat) : lookL (E40 (β := β) N G).loops (lp Tryd.f40 1).id = LS40_2 N G := by kernel_rfl
theorem rk40_2 {β : Type} (N : Nat) (G : Nat) : RoundsOK lay (E40 (β := β) N G) (retMask Tryd.f40) (lp Tryd.f40 1) := by
  intro s K r h
  rw [lk40_2] at h
  unfold LS40_2 VLS40_2 at h
  cases hb : shpSt (h40_1_0 0 0 0 0 0 0 0 0 [] 0 0 []) s with
  | true =>
    rw [hb, cond_true] at h
    exact ⟨N, by rw [← shpSt_ref hb, fl40_1_0 s]; exact (ro40_1_0 N G  K N (intS (oneA (vT (nx tund s.tmps 7)))) (intS (oneA (vT (nx tund s.tmps 9)))) (intS (oneA (vT (nx tund s.tmps 31)))) (intS (oneA (vT (nx tund s.tmps 32)))) (intS (oneA (vT (nx tund s.tmps 36)))) (intS (nx .und (cellsB (nx .dead s.blks 0)) 0)) (intS (nx .und (cellsB (nx .dead s.blks 0)) 1)) (intS (nx .und (cellsB (nx .dead s.blks 0)) 2)) (mpB (nx .dead s.blks 1)) (intS (nx .und (cellsB (nx .dead s.blks 2)) 0)) (intS (nx .und (cellsB (nx .dead s.blks 2)) 1)) (rInts (rowB_ (nx .dead s.blks 3)))).trans h⟩
  | false =>
  rw [hb, cond_false] at h
  clear hb
  cases h
def BV_impl_talk_need_g0_b {β : Type} (N : Nat) (q_impl_talk_value_g0 : (a0 : Int) → (a1 : Int) → (a2 : Int) → (a3 : Int) → (a4 : Int) → (a5 : Mp) → (k0 : Int → Int → Int → Int → Mp → Option β) → Option β) (q_impl_talk_need_l0 : (self : Int → Int → Int → Int → Int → Mp → (Int → Int → Int → Int → Mp → Option β) → Option β) → Nat → Int → Int → Int → Int → Int → Int → Mp → Int → Int → List Int → (Int → Int → Int → Int → Mp → Int → Int → Option β) → Option β) (self : Int → Int → Int → Int → Int → Mp → (Int → Int → Int → Int → Mp → Option β) → Option β) (a0 : Int) (a1 : Int) (a2 : Int) (a3 : Int) (a4 : Int) (a5 : Mp) (k0 : Int → Int → Int → Int → Mp → Option β) : Option β :=
(cond ((hasM ⟨true, false⟩ a5 a0 a1))
(k0 ((getM ⟨true, false⟩ a5 a0 a1)) a2 a3 a4 a5)
(q_impl_talk_value_g0 a0 a1 a2 a3 a4 a5 (fun r21_0 r21_1 r21_2 r21_3 r21_4 =>
(cond ((decide (r21_0 < 0)))
(q_impl_talk_need_l0 self  N 4 (((((([] : List Int) ++ [65]) ++ [66])).length : Int)) 0 r21_1 r21_2 r21_3 r21_4 a0 a1 (((([] : List Int) ++ [65]) ++ [66])) (fun e30_0 e30_1 e30_2 e30_3 e30_4 e30_5 e30_6 =>
k0 e30_0 e30_1 e30_2 e30_3 ((putM ⟨true, false⟩ e30_4 e30_5 e30_6 e30_0))))
(k0 0 r21_1 r21_2 r21_3 ((putM ⟨true, false⟩ r21_4 a0 a1 0)))))))
theorem t_impl_talk_need_g0_b {β : Type} (N : Nat) (self : Int → Int → Int → Int → Int → Mp → (Int → Int → Int → Int → Mp → Option β) → Option β) (a0 : Int) (a1 : Int) (a2 : Int) (a3 : Int) (a4 : Int) (a5 : Mp) (k0 : Int → Int → Int → Int → Mp → Option β) : impl_talk_need_g0_b N self a0 a1 a2 a3 a4 a5 k0 = BV_impl_talk_need_g0_b N (impl_talk_value_g0 N) (impl_talk_need_l0 N) self a0 a1 a2 a3 a4 a5 k0 := by
  unfold impl_talk_need_g0_b BV_impl_talk_need_g0_b
  rfl
theorem ve40_0 {β : Type} (N : Nat) (q_impl_sides_parted : (a0 : Int) → (a1 : Int) → (a2 : Int) → (a3 : Int) → (k : Int → Int → Int → Int → Bool → Option β) → Option β) (q_impl_talk_need_l0 : (self : Int → Int → Int → Int → Int → Mp → (Int → Int → Int → Int → Mp → Option β) → Option β) → Nat → Int → Int → Int → Int → Int → Int → Mp → Int → Int → List Int → (Int → Int → Int → Int → Mp → Int → Int → Option β) → Option β) (q_impl_talk_need_g0_f : Nat → Int → Int → Int → Int → Int → Mp → (Int → Int → Int → Int → Mp → Option β) → Option β) (q_impl_talk_need_l2 : (self : Int → Int → Int → Int → Int → Mp → (Int → Int → Int → Int → Mp → Option β) → Option β) → Nat → Int → Int → Int → Int → Int → Int → Int → Int → Mp → Int → Int → List Int → (Int → Int → Int → Int → Int → Int → Mp → Int → Int → List Int → Option β) → Option β) (q_impl_talk_value_g0 : (a0 : Int) → (a1 : Int) → (a2 : Int) → (a3 : Int) → (a4 : Int) → (a5 : Mp) → (k0 : Int → Int → Int → Int → Mp → Option β) → Option β) (G : Nat) (a0 : Int) (a1 : Int) (a2 : Int) (a3 : Int) (a4 : Int) (a5 : Mp) (K : TV → List Blk → Option β) : evFnG lay (VE40 N q_impl_sides_parted q_impl_talk_need_l0 q_impl_talk_need_g0_f q_impl_talk_need_l2 q_impl_talk_value_g0 G) Tryd.f40 [.v (.one (.ptr 0 0)), .v (.agg [.int .i64 a0, .int .i64 a1])] [.pcells 0 62 [.int .i64 a2, .int .i64 a3, .int .i64 a4, .mp 1], .pmp 1 ⟨true, false⟩ a5] K = BV_impl_talk_need_g0_b N q_impl_talk_value_g0 q_impl_talk_need_l0 (q_impl_talk_need_g0_f G) a0 a1 a2 a3 a4 a5 (fun y0 y1 y2 y3 y4 => K (.v (.one (.int .i64 y0))) [.pcells 0 62 [.int .i64 y1, .int .i64 y2, .int .i64 y3, .mp 1], .pmp 1 ⟨true, false⟩ y4]) := by kernel_rfl
theorem e40_0 {β : Type} (N : Nat) (G : Nat) (a0 : Int) (a1 : Int) (a2 : Int) (a3 : Int) (a4 : Int) (a5 : Mp) (K : TV → List Blk → Option β) : evFnG lay (E40 N G) Tryd.f40 [.v (.one (.ptr 0 0)), .v (.agg [.int .i64 a0, .int .i64 a1])] [.pcells 0 62 [.int .i64 a2, .int .i64 a3, .int .i64 a4, .mp 1], .pmp 1 ⟨true, false⟩ a5] K = impl_talk_need_g0_f N (G + 1) a0 a1 a2 a3 a4 a5 (fun y0 y1 y2 y3 y4 => K (.v (.one (.int .i64 y0))) [.pcells 0 62 [.int .i64 y1, .int .i64 y2, .int .i64 y3, .mp 1], .pmp 1 ⟨true, false⟩ y4]) := (ve40_0 N (impl_sides_parted N) (impl_talk_need_l0 N) (impl_talk_need_g0_f N) (impl_talk_need_l2 N) (impl_talk_value_g0 N) G a0 a1 a2 a3 a4 a5 K).trans (t_impl_talk_need_g0_b N (impl_talk_need_g0_f N G) a0 a1 a2 a3 a4 a5 (fun y0 y1 y2 y3 y4 => K (.v (.one (.int .i64 y0))) [.pcells 0 62 [.int .i64 y1, .int .i64 y2, .int .i64 y3, .mp 1], .pmp 1 ⟨true, false⟩ y4])).symm
theorem z40 {β : Type} (N : Nat) : ∀ args bl K r, SF40 (β := β) N 0 args bl K = some r → (none : Option β) = some r := by
  intro args bl K r h
  unfold SF40 VSF40 at h
  split at h <;> exact h
theorem of40 {β : Type} (N : Nat) : ∀ G, GOK (β := β) Tryd.prog 40 (SF40 N G) := by
  intro G
  induction G with
  | zero => exact g_zero Tryd.func40 (by kernel_rfl) (z40 N)
  | succ G ih =>
    refine g_of lay_ok mixed (E := E40 N G) (specs_loops (specs_cons (o39 N) specs_nil)) muts_nil (gs_cons (o37 N) (gs_cons ih gs_nil)) Tryd.func40 (by kernel_rfl) 2 (by kernel_rfl) ⟨⟨trivial, rk40_0 N G⟩, rk40_2 N G⟩ fun args bl K r h => ?_
    unfold SF40 VSF40 at h
    split at h
    · exact (e40_0 N G _ _ _ _ _ _ _).trans h
    · cases h
theorem o40 {β : Type} (N : Nat) : GOK (β := β) Tryd.prog 40 (S40 N) := of40 N N
end Go.Proofs.YtdkjnadhgdneaaaDoor
