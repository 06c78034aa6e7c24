/- The functions that the claims reach answer as their texts do. -/
import Derived.Test.YtfdggelojmofmaaDoorT0
import Derived.Test.YtfdggelojmofmaaDoorProg
import Derived.KernelRfl
import Derived.Test.YtfdggelojmofmaaDoorShelf
namespace Go.Proofs.YtfdggelojmofmaaDoor
open Go.Rv
set_option maxRecDepth 100000
set_option maxHeartbeats 2000000
set_option linter.unusedVariables false
def lay : Lay := [(2, .int .i64),
  (3, .int .i64),
  (4, .bool),
  (5, .int .u8),
  (9, .string),
  (12, .int .u64),
  (21, .int .i32),
  (22, .struct [⟨0, 1, false⟩, ⟨1, 1, false⟩] [3, 3] 16 true),
  (23, .struct [⟨0, 1, false⟩, ⟨1, 1, false⟩] [3, 3] 16 true),
  (24, .struct [⟨0, 1, false⟩, ⟨1, 1, false⟩] [3, 3] 16 true),
  (25, .slice 3),
  (26, .struct [⟨0, 1, false⟩, ⟨1, 2, true⟩, ⟨3, 1, false⟩, ⟨4, 1, false⟩, ⟨5, 1, false⟩, ⟨6, 1, false⟩] [3, 3, 3, 3, 3, 9, 25] 80 false),
  (27, .struct [⟨0, 1, false⟩, ⟨1, 2, true⟩, ⟨3, 1, false⟩, ⟨4, 1, false⟩, ⟨5, 1, false⟩, ⟨6, 1, false⟩] [3, 3, 3, 3, 3, 9, 25] 80 false),
  (34, .slice 52),
  (51, .struct [⟨0, 1, false⟩, ⟨1, 1, false⟩] [3, 3] 16 true),
  (52, .struct [⟨0, 1, false⟩, ⟨1, 1, false⟩] [3, 3] 16 true),
  (57, .slice 9),
  (64, .struct [⟨0, 1, false⟩] [57] 24 false),
  (65, .struct [⟨0, 1, false⟩] [57] 24 false),
  (73, .slice 120),
  (90, .pointer 156),
  (93, .struct [⟨0, 1, false⟩, ⟨1, 1, false⟩] [3, 3] 16 true),
  (94, .struct [⟨0, 1, false⟩, ⟨1, 1, false⟩] [3, 3] 16 true),
  (95, .pointer 162),
  (103, .int .u64),
  (105, .slice 5),
  (106, .pointer 65),
  (113, .slice 25),
  (119, .struct [⟨0, 1, false⟩, ⟨1, 1, false⟩, ⟨2, 1, false⟩] [3, 3, 3] 24 true),
  (120, .struct [⟨0, 1, false⟩, ⟨1, 1, false⟩, ⟨2, 1, false⟩] [3, 3, 3] 24 true),
  (122, .pointer 125),
  (123, .map 24 3),
  (124, .struct [⟨0, 1, false⟩, ⟨1, 1, false⟩, ⟨2, 1, false⟩] [25, 73, 123] 56 false),
  (125, .struct [⟨0, 1, false⟩, ⟨1, 1, false⟩, ⟨2, 1, false⟩] [25, 73, 123] 56 false),
  (129, .pointer 131),
  (130, .struct [⟨0, 2, true⟩, ⟨2, 1, false⟩, ⟨3, 1, false⟩, ⟨4, 1, false⟩] [3, 3, 3, 3, 25] 56 false),
  (131, .struct [⟨0, 2, true⟩, ⟨2, 1, false⟩, ⟨3, 1, false⟩, ⟨4, 1, false⟩] [3, 3, 3, 3, 25] 56 false),
  (134, .map 3 3),
  (136, .int .u64),
  (138, .map 3 4),
  (139, .pointer 187),
  (140, .struct [⟨0, 1, false⟩, ⟨1, 1, false⟩] [3, 3] 16 true),
  (141, .struct [⟨0, 1, false⟩, ⟨1, 1, false⟩] [3, 3] 16 true),
  (154, .map 94 3),
  (155, .struct [⟨0, 2, true⟩, ⟨2, 1, false⟩, ⟨3, 1, false⟩] [3, 3, 154, 154] 32 false),
  (156, .struct [⟨0, 2, true⟩, ⟨2, 1, false⟩, ⟨3, 1, false⟩] [3, 3, 154, 154] 32 false),
  (161, .struct [⟨0, 1, false⟩, ⟨1, 1, false⟩, ⟨2, 1, false⟩] [5, 95, 95] 24 false),
  (162, .struct [⟨0, 1, false⟩, ⟨1, 1, false⟩, ⟨2, 1, false⟩] [5, 95, 95] 24 false),
  (167, .pointer 169),
  (168, .struct [⟨0, 1, false⟩, ⟨1, 1, false⟩] [167, 105] 32 false),
  (169, .struct [⟨0, 1, false⟩, ⟨1, 1, false⟩] [167, 105] 32 false),
  (179, .slice 4),
  (185, .map 141 3),
  (186, .struct [⟨0, 2, true⟩, ⟨2, 1, false⟩, ⟨3, 1, false⟩] [3, 3, 3, 185] 32 false),
  (187, .struct [⟨0, 2, true⟩, ⟨2, 1, false⟩, ⟨3, 1, false⟩] [3, 3, 3, 185] 32 false),
  (192, .array 2 4),
  (197, .pointer 5),
  (199, .int .u32),
  (212, .struct [⟨0, 1, false⟩, ⟨1, 1, false⟩] [5, 5] 2 true),
  (213, .struct [⟨0, 1, false⟩, ⟨1, 1, false⟩] [5, 5] 2 true)]

theorem lay_ok : LayOK Tryd.prog lay := layOK_of (by decide +kernel)
theorem mixed : Tryd.prog.follows .mixedOrders = true := by kernel_rfl
def inv : World → Prop := tabInv Tryd.prog
def S126 {β : Type} (N : Nat) : Rv.Spec β := joinSpec N
theorem o126 {β : Type} (N : Nat) : SpecOK (β := β) inv Tryd.prog 126 (S126 N) := join_ok Tryd.func126 (by kernel_rfl) Tryd.strings_Join_none Tryd.strings_Join N
def S130 {β : Type} (N : Nat) : Rv.Spec β := itoaSpec N
theorem o130 {β : Type} (N : Nat) : SpecOK (β := β) inv Tryd.prog 130 (S130 N) := itoa_ok Tryd.func130 (by kernel_rfl) Tryd.strconv_Itoa N
def VS11 {β : Type} (N : Nat) (q_laws_toTable : (a0 : Int) → (a1 : Int) → (k : Int → Int → Option β) → Option β) : Rv.Spec β := fun args K => match args with
  | [.v (.agg [.int .i64 a0, .int .i64 a1])] => q_laws_toTable a0 a1 (fun z2 z3 => K (.v (.agg [.int .i64 z2, .int .i64 z3])))
  | _ => none
def S11 {β : Type} (N : Nat) : Rv.Spec β := VS11 N (laws_toTable N)
def VE11 {β : Type} (N : Nat) : Env β := ⟨[], [], [], [], ⟨[], [], []⟩⟩
def E11 {β : Type} (N : Nat) : Env β := VE11 N
def BV_laws_toTable {β : Type} (N : Nat) (a0 : Int) (a1 : Int) (k : Int → Int → Option β) : Option β :=
k a0 a1
theorem t_laws_toTable {β : Type} (N : Nat) (a0 : Int) (a1 : Int) (k : Int → Int → Option β) : laws_toTable N a0 a1 k = BV_laws_toTable N a0 a1 k := by
  unfold laws_toTable BV_laws_toTable
  rfl
theorem ve11_0 {β : Type} (N : Nat)  (a0 : Int) (a1 : Int) (K : TV → Option β) : evFn lay (VE11 N) Tryd.f11 [.v (.agg [.int .i64 a0, .int .i64 a1])] K = BV_laws_toTable N a0 a1 (fun z2 z3 => K (.v (.agg [.int .i64 z2, .int .i64 z3]))) := by kernel_rfl
theorem e11_0 {β : Type} (N : Nat)  (a0 : Int) (a1 : Int) (K : TV → Option β) : evFn lay (E11 N) Tryd.f11 [.v (.agg [.int .i64 a0, .int .i64 a1])] K = laws_toTable N a0 a1 (fun z2 z3 => K (.v (.agg [.int .i64 z2, .int .i64 z3]))) := (ve11_0 N a0 a1 K).trans (t_laws_toTable N a0 a1 (fun z2 z3 => K (.v (.agg [.int .i64 z2, .int .i64 z3])))).symm
theorem o11 {β : Type} (N : Nat) : SpecOK (β := β) inv Tryd.prog 11 (S11 N) := by
  refine spec_of lay_ok mixed (E := E11 N) (specs_loops specs_nil) muts_nil gs_nil Tryd.func11 (by kernel_rfl) 0 (by kernel_rfl) trivial fun args K r h => ?_
  unfold S11 VS11 at h
  split at h
  · exact (e11_0 N _ _ _).trans h
  · cases h
def VS43 {β : Type} (N : Nat) (q_spec_l1In : (a0 : Int) → (a1 : Int) → (a2 : Int) → (k : Bool → Option β) → Option β) : Rv.Spec β := fun args K => match args with
  | [.v (.one (.int .i64 a0)), .v (.one (.int .i64 a1)), .v (.one (.int .i64 a2))] => q_spec_l1In a0 a1 a2 (fun z3 => K (.v (.one (.bool z3))))
  | _ => none
def S43 {β : Type} (N : Nat) : Rv.Spec β := VS43 N (spec_l1In N)
def VE43 {β : Type} (N : Nat) : Env β := ⟨[], [], [], [], ⟨[], [], []⟩⟩
def E43 {β : Type} (N : Nat) : Env β := VE43 N
def BV_spec_l1In {β : Type} (N : Nat) (a0 : Int) (a1 : Int) (a2 : Int) (k : Bool → Option β) : Option β :=
(cond ((decide (a0 ≥ a1)))
(k ((decide (a0 ≤ a2))))
(k false))
theorem t_spec_l1In {β : Type} (N : Nat) (a0 : Int) (a1 : Int) (a2 : Int) (k : Bool → Option β) : spec_l1In N a0 a1 a2 k = BV_spec_l1In N a0 a1 a2 k := by
  unfold spec_l1In BV_spec_l1In
  rfl
theorem ve43_0 {β : Type} (N : Nat)  (a0 : Int) (a1 : Int) (a2 : Int) (K : TV → Option β) : evFn lay (VE43 N) Tryd.f43 [.v (.one (.int .i64 a0)), .v (.one (.int .i64 a1)), .v (.one (.int .i64 a2))] K = BV_spec_l1In N a0 a1 a2 (fun z3 => K (.v (.one (.bool z3)))) := by kernel_rfl
theorem e43_0 {β : Type} (N : Nat)  (a0 : Int) (a1 : Int) (a2 : Int) (K : TV → Option β) : evFn lay (E43 N) Tryd.f43 [.v (.one (.int .i64 a0)), .v (.one (.int .i64 a1)), .v (.one (.int .i64 a2))] K = spec_l1In N a0 a1 a2 (fun z3 => K (.v (.one (.bool z3)))) := (ve43_0 N a0 a1 a2 K).trans (t_spec_l1In N a0 a1 a2 (fun z3 => K (.v (.one (.bool z3))))).symm
theorem o43 {β : Type} (N : Nat) : SpecOK (β := β) inv Tryd.prog 43 (S43 N) := by
  refine spec_of lay_ok mixed (E := E43 N) (specs_loops specs_nil) muts_nil gs_nil Tryd.func43 (by kernel_rfl) 0 (by kernel_rfl) trivial fun args K r h => ?_
  unfold S43 VS43 at h
  split at h
  · exact (e43_0 N _ _ _ _).trans h
  · cases h
def VS51 {β : Type} (N : Nat) (q_spec_IsTable : (a0 : Int) → (a1 : Int) → (k : Bool → Option β) → Option β) : Rv.Spec β := fun args K => match args with
  | [.v (.agg [.int .i64 a0, .int .i64 a1])] => q_spec_IsTable a0 a1 (fun z2 => K (.v (.one (.bool z2))))
  | _ => none
def S51 {β : Type} (N : Nat) : Rv.Spec β := VS51 N (spec_IsTable N)
def VE51 {β : Type} (N : Nat) (q_spec_l1In : (a0 : Int) → (a1 : Int) → (a2 : Int) → (k : Bool → Option β) → Option β) : Env β := ⟨[(43, VS43 N q_spec_l1In)], [], [], [], ⟨[], [], []⟩⟩
def E51 {β : Type} (N : Nat) : Env β := VE51 N (spec_l1In N)
def BV_spec_IsTable {β : Type} (N : Nat) (q_spec_l1In : (a0 : Int) → (a1 : Int) → (a2 : Int) → (k : Bool → Option β) → Option β) (a0 : Int) (a1 : Int) (k : Bool → Option β) : Option β :=
q_spec_l1In a0 0 5 fun r3 =>
(cond r3
((gd ((decide (0 ≤ a0)))
((gd ((decide (0 ≤ (shlI .u64 1 a0))))
(q_spec_l1In a1 0 ((w64 ((shlI .i64 1 (shlI .u64 1 a0)) - 1))) fun r4 =>
k r4)))))
(k false))
theorem t_spec_IsTable {β : Type} (N : Nat) (a0 : Int) (a1 : Int) (k : Bool → Option β) : spec_IsTable N a0 a1 k = BV_spec_IsTable N (spec_l1In N) a0 a1 k := by
  unfold spec_IsTable BV_spec_IsTable
  rfl
theorem ve51_0 {β : Type} (N : Nat) (q_spec_l1In : (a0 : Int) → (a1 : Int) → (a2 : Int) → (k : Bool → Option β) → Option β)  (a0 : Int) (a1 : Int) (K : TV → Option β) : evFn lay (VE51 N q_spec_l1In) Tryd.f51 [.v (.agg [.int .i64 a0, .int .i64 a1])] K = BV_spec_IsTable N q_spec_l1In a0 a1 (fun z2 => K (.v (.one (.bool z2)))) := by kernel_rfl
theorem e51_0 {β : Type} (N : Nat)  (a0 : Int) (a1 : Int) (K : TV → Option β) : evFn lay (E51 N) Tryd.f51 [.v (.agg [.int .i64 a0, .int .i64 a1])] K = spec_IsTable N a0 a1 (fun z2 => K (.v (.one (.bool z2)))) := (ve51_0 N (spec_l1In N) a0 a1 K).trans (t_spec_IsTable N a0 a1 (fun z2 => K (.v (.one (.bool z2))))).symm
theorem o51 {β : Type} (N : Nat) : SpecOK (β := β) inv Tryd.prog 51 (S51 N) := by
  refine spec_of lay_ok mixed (E := E51 N) (specs_loops (specs_cons (o43 N) specs_nil)) muts_nil gs_nil Tryd.func51 (by kernel_rfl) 0 (by kernel_rfl) trivial fun args K r h => ?_
  unfold S51 VS51 at h
  split at h
  · exact (e51_0 N _ _ _).trans h
  · cases h
def VS124 {β : Type} (N : Nat) (q_spec_l2Count : (a0 : Int) → (k : Int → Option β) → Option β) : Rv.Spec β := fun args K => match args with
  | [.v (.one (.int .i64 a0))] => q_spec_l2Count a0 (fun z1 => K (.v (.one (.int .i64 z1))))
  | _ => none
def S124 {β : Type} (N : Nat) : Rv.Spec β := VS124 N (spec_l2Count N)
def h124_0_0  (v0 : Int) (v1 : Int) : St := ⟨.v (.one .und) :: .v (.one .und) :: .v (.one .und) :: .v (.one (.int .i64 v0)) :: .v (.one (.int .i64 v1)) :: .v (.one .und) :: .v (.one .und) :: .v (.one .und) :: .v (.one .und) :: .v (.one .und) :: .v (.one .und) :: .v (.one .und) :: .v (.one .und) :: .v (.one .und) :: .v (.one .und) :: [], []⟩
def x124_0_0_k0  (y0 : Int) : St := ⟨.v (.one .und) :: .v (.one .und) :: .v (.one .und) :: .v (.one (.int .i64 y0)) :: .v (.one .und) :: .v (.one .und) :: .v (.one .und) :: .v (.one .und) :: .v (.one .und) :: .v (.one .und) :: .v (.one .und) :: .v (.one .und) :: .v (.one .und) :: .v (.one .und) :: .v (.one .und) :: [], []⟩
theorem fl124_0_0 (s : St) : refSt (h124_0_0 0 0) s = h124_0_0 (intS (oneA (vT (nx tund s.tmps 3)))) (intS (oneA (vT (nx tund s.tmps 4)))) := by kernel_rfl
def VLS124_0 {β : Type} (N : Nat) (q_spec_l2Count_l0 : Nat → Int → Int → (Int → Option β) → Option β) : LSpec β := fun s K => cond (shpSt (h124_0_0 0 0) s) ((fun (v0 : Int) (v1 : Int) => q_spec_l2Count_l0  N v0 v1 (fun y0 => K (.exit 0) (x124_0_0_k0  y0))) (intS (oneA (vT (nx tund s.tmps 3)))) (intS (oneA (vT (nx tund s.tmps 4))))) (none)
def LS124_0 {β : Type} (N : Nat) : LSpec β := VLS124_0 N (spec_l2Count_l0 N)
def VE124 {β : Type} (N : Nat) (q_spec_l2Count_l0 : Nat → Int → Int → (Int → Option β) → Option β) : Env β := ⟨[], [], [(0, VLS124_0 N q_spec_l2Count_l0)], [], ⟨[], [], []⟩⟩
def E124 {β : Type} (N : Nat) : Env β := VE124 N (spec_l2Count_l0 N)
def BV_spec_l2Count_l0b {β : Type} (N : Nat)  (v0 : Int) (v1 : Int) (rec_ : Int → Int → Option β) (k0 : Int → Option β) : Option β :=
(cond ((decide (v1 > 0)))
(rec_ ((w64 (v0 + (bits .and .i64 v1 1)))) ((shrI .i64 v1 1)))
(k0 v0))
theorem t_spec_l2Count_l0b {β : Type} (N : Nat)  (v0 : Int) (v1 : Int) (rec_ : Int → Int → Option β) (k0 : Int → Option β) : spec_l2Count_l0b N v0 v1 rec_ k0 = BV_spec_l2Count_l0b N v0 v1 rec_ k0 := by
  unfold spec_l2Count_l0b BV_spec_l2Count_l0b
  rfl
theorem vst124_0_0 {β : Type} (N : Nat) (q_spec_l2Count_l0 : Nat → Int → Int → (Int → Option β) → Option β)  (v0 : Int) (v1 : Int) (rec_ : St → Option β) (K : Exit → St → Option β) :
    ev lay (VE124 N q_spec_l2Count_l0) (retMask Tryd.f124) (lp Tryd.f124 0).body (lp Tryd.f124 0).ex ((lp Tryd.f124 0).lv (retMask Tryd.f124)) (h124_0_0  v0 v1) (nextR (fun s' => rec_ (s'.tidy ((lp Tryd.f124 0).lv (retMask Tryd.f124)))) K) = BV_spec_l2Count_l0b N  v0 v1 (fun v0 v1 => rec_ (h124_0_0  v0 v1)) (fun y0 => K (.exit 0) (x124_0_0_k0  y0)) := by kernel_rfl
theorem st124_0_0 {β : Type} (N : Nat)  (v0 : Int) (v1 : Int) (rec_ : St → Option β) (K : Exit → St → Option β) :
    ev lay (E124 N) (retMask Tryd.f124) (lp Tryd.f124 0).body (lp Tryd.f124 0).ex ((lp Tryd.f124 0).lv (retMask Tryd.f124)) (h124_0_0  v0 v1) (nextR (fun s' => rec_ (s'.tidy ((lp Tryd.f124 0).lv (retMask Tryd.f124)))) K) = spec_l2Count_l0b N  v0 v1 (fun v0 v1 => rec_ (h124_0_0  v0 v1)) (fun y0 => K (.exit 0) (x124_0_0_k0  y0)) := (vst124_0_0 N (spec_l2Count_l0 N) v0 v1 rec_ K).trans (t_spec_l2Count_l0b N  v0 v1 (fun v0 v1 => rec_ (h124_0_0  v0 v1)) (fun y0 => K (.exit 0) (x124_0_0_k0  y0))).symm
theorem ro124_0_0 {β : Type} (N : Nat)  (K : Exit → St → Option β) : ∀ (F : Nat) (v0 : Int) (v1 : Int), (lp Tryd.f124 0).rounds lay (E124 N) (retMask Tryd.f124) F (h124_0_0  v0 v1) K = spec_l2Count_l0 N  F v0 v1 (fun y0 => K (.exit 0) (x124_0_0_k0  y0)) := by
  intro F
  induction F with
  | zero => intros; rfl
  | succ F ih =>
    intros
    rw [rounds_next]
    refine (st124_0_0 N  _ _ (fun s => (lp Tryd.f124 0).rounds lay (E124 N) (retMask Tryd.f124) F s K) K).trans ?_
    simp only [ih]
    rfl
theorem lk124_0 {β : Type} (N : Nat) : lookL (E124 (β := β) N).loops (lp Tryd.f124 0).id = LS124_0 N := by kernel_rfl
theorem rk124_0 {β : Type} (N : Nat) : RoundsOK lay (E124 (β := β) N) (retMask Tryd.f124) (lp Tryd.f124 0) := by
  intro s K r h
  rw [lk124_0] at h
  unfold LS124_0 VLS124_0 at h
  cases hb : shpSt (h124_0_0 0 0) s with
  | true =>
    rw [hb, cond_true] at h
    exact ⟨N, by rw [← shpSt_ref hb, fl124_0_0 s]; exact (ro124_0_0 N  K N (intS (oneA (vT (nx tund s.tmps 3)))) (intS (oneA (vT (nx tund s.tmps 4))))).trans h⟩
  | false =>
  rw [hb, cond_false] at h
  clear hb
  cases h
def BV_spec_l2Count {β : Type} (N : Nat) (q_spec_l2Count_l0 : Nat → Int → Int → (Int → Option β) → Option β) (a0 : Int) (k : Int → Option β) : Option β :=
q_spec_l2Count_l0  N 0 a0 (fun e2_0 =>
k e2_0)
theorem t_spec_l2Count {β : Type} (N : Nat) (a0 : Int) (k : Int → Option β) : spec_l2Count N a0 k = BV_spec_l2Count N (spec_l2Count_l0 N) a0 k := by
  unfold spec_l2Count BV_spec_l2Count
  rfl
theorem ve124_0 {β : Type} (N : Nat) (q_spec_l2Count_l0 : Nat → Int → Int → (Int → Option β) → Option β)  (a0 : Int) (K : TV → Option β) : evFn lay (VE124 N q_spec_l2Count_l0) Tryd.f124 [.v (.one (.int .i64 a0))] K = BV_spec_l2Count N q_spec_l2Count_l0 a0 (fun z1 => K (.v (.one (.int .i64 z1)))) := by kernel_rfl
theorem e124_0 {β : Type} (N : Nat)  (a0 : Int) (K : TV → Option β) : evFn lay (E124 N) Tryd.f124 [.v (.one (.int .i64 a0))] K = spec_l2Count N a0 (fun z1 => K (.v (.one (.int .i64 z1)))) := (ve124_0 N (spec_l2Count_l0 N) a0 K).trans (t_spec_l2Count N a0 (fun z1 => K (.v (.one (.int .i64 z1))))).symm
theorem o124 {β : Type} (N : Nat) : SpecOK (β := β) inv Tryd.prog 124 (S124 N) := by
  refine spec_of lay_ok mixed (E := E124 N) (specs_loops specs_nil) muts_nil gs_nil Tryd.func124 (by kernel_rfl) 1 (by kernel_rfl) ⟨trivial, rk124_0 N⟩ fun args K r h => ?_
  unfold S124 VS124 at h
  split at h
  · exact (e124_0 N _ _).trans h
  · cases h
def VS123 {β : Type} (N : Nat) (q_spec_l12Sign : (a0 : Int) → (k : Int → Option β) → Option β) : Rv.Spec β := fun args K => match args with
  | [.v (.one (.int .i64 a0))] => q_spec_l12Sign a0 (fun z1 => K (.v (.one (.int .i64 z1))))
  | _ => none
def S123 {β : Type} (N : Nat) : Rv.Spec β := VS123 N (spec_l12Sign N)
def VE123 {β : Type} (N : Nat) (q_spec_l2Count : (a0 : Int) → (k : Int → Option β) → Option β) : Env β := ⟨[(124, VS124 N q_spec_l2Count)], [], [], [], ⟨[], [], []⟩⟩
def E123 {β : Type} (N : Nat) : Env β := VE123 N (spec_l2Count N)
def BV_spec_l12Sign {β : Type} (N : Nat) (q_spec_l2Count : (a0 : Int) → (k : Int → Option β) → Option β) (a0 : Int) (k : Int → Option β) : Option β :=
q_spec_l2Count a0 fun r2 =>
(cond (((remI r2 2) == 1))
(k (-1))
(k 1))
theorem t_spec_l12Sign {β : Type} (N : Nat) (a0 : Int) (k : Int → Option β) : spec_l12Sign N a0 k = BV_spec_l12Sign N (spec_l2Count N) a0 k := by
  unfold spec_l12Sign BV_spec_l12Sign
  rfl
theorem ve123_0 {β : Type} (N : Nat) (q_spec_l2Count : (a0 : Int) → (k : Int → Option β) → Option β)  (a0 : Int) (K : TV → Option β) : evFn lay (VE123 N q_spec_l2Count) Tryd.f123 [.v (.one (.int .i64 a0))] K = BV_spec_l12Sign N q_spec_l2Count a0 (fun z1 => K (.v (.one (.int .i64 z1)))) := by kernel_rfl
theorem e123_0 {β : Type} (N : Nat)  (a0 : Int) (K : TV → Option β) : evFn lay (E123 N) Tryd.f123 [.v (.one (.int .i64 a0))] K = spec_l12Sign N a0 (fun z1 => K (.v (.one (.int .i64 z1)))) := (ve123_0 N (spec_l2Count N) a0 K).trans (t_spec_l12Sign N a0 (fun z1 => K (.v (.one (.int .i64 z1))))).symm
theorem o123 {β : Type} (N : Nat) : SpecOK (β := β) inv Tryd.prog 123 (S123 N) := by
  refine spec_of lay_ok mixed (E := E123 N) (specs_loops (specs_cons (o124 N) specs_nil)) muts_nil gs_nil Tryd.func123 (by kernel_rfl) 0 (by kernel_rfl) trivial fun args K r h => ?_
  unfold S123 VS123 at h
  split at h
  · exact (e123_0 N _ _).trans h
  · cases h
def VS53 {β : Type} (N : Nat) (q_spec_SpectrumOf : (a0 : Int) → (a1 : Int) → (k : List Int → Option β) → Option β) : Rv.Spec β := fun args K => match args with
  | [.v (.agg [.int .i64 a0, .int .i64 a1])] => q_spec_SpectrumOf a0 a1 (fun z2 => K (.v (.one (.sl 3 (.ints .i64 z2)))))
  | _ => none
def S53 {β : Type} (N : Nat) : Rv.Spec β := VS53 N (spec_SpectrumOf N)
def h53_0_0  (v0 : Int) (v1 : Int) (v2 : Int) (v3 : List Int) : St := ⟨.v (.one .und) :: .v (.one (.ptr 0 0)) :: .v (.one .und) :: .v (.one (.row 1)) :: .v (.one (.int .i64 v0)) :: .v (.one .und) :: .v (.one .und) :: .v (.one .und) :: .v (.one .und) :: .v (.one .und) :: .v (.one .und) :: .v (.one .und) :: .v (.one .und) :: .v (.one .und) :: .v (.one .und) :: .v (.one .und) :: .v (.one .und) :: .v (.one .und) :: .v (.one .und) :: .v (.one .und) :: .v (.one .und) :: .v (.one .und) :: .v (.one .und) :: .v (.one .und) :: .v (.one .und) :: .v (.one .und) :: .v (.one .und) :: .v (.one .und) :: .v (.one .und) :: .v (.one .und) :: .v (.one .und) :: .v (.one .und) :: .v (.one .und) :: .v (.one .und) :: .v (.one .und) :: .v (.one .und) :: .v (.one .und) :: .v (.one .und) :: .v (.one .und) :: .v (.one .und) :: .v (.one .und) :: .v (.one .und) :: .v (.one .und) :: .v (.one .und) :: [], [.cells 24 [.int .i64 v1, .int .i64 v2], .row 3 (.ints .i64 v3)]⟩
def x53_0_0_k0  (y0 : List Int) : St := ⟨.v (.one .und) :: .v (.one .und) :: .v (.one .und) :: .v (.one (.row 0)) :: .v (.one .und) :: .v (.one .und) :: .v (.one .und) :: .v (.one .und) :: .v (.one .und) :: .v (.one .und) :: .v (.one .und) :: .v (.one .und) :: .v (.one .und) :: .v (.one .und) :: .v (.one .und) :: .v (.one .und) :: .v (.one .und) :: .v (.one .und) :: .v (.one .und) :: .v (.one .und) :: .v (.one .und) :: .v (.one .und) :: .v (.one .und) :: .v (.one .und) :: .v (.one .und) :: .v (.one .und) :: .v (.one .und) :: .v (.one .und) :: .v (.one .und) :: .v (.one .und) :: .v (.one .und) :: .v (.one .und) :: .v (.one .und) :: .v (.one .und) :: .v (.one .und) :: .v (.one .und) :: .v (.one .und) :: .v (.one .und) :: .v (.one .und) :: .v (.one .und) :: .v (.one .und) :: .v (.one .und) :: .v (.one .und) :: .v (.one .und) :: [], [.row 3 (.ints .i64 y0)]⟩
def h53_1_0  (v0 : Int) (v1 : Int) (v2 : Int) (v3 : Int) (v4 : Int) (v5 : List Int) : St := ⟨.v (.one .und) :: .v (.one (.ptr 0 0)) :: .v (.one .und) :: .v (.one (.row 1)) :: .v (.one (.int .i64 v0)) :: .v (.one (.int .i64 v1)) :: .v (.one (.int .i64 v2)) :: .v (.one .und) :: .v (.one .und) :: .v (.one .und) :: .v (.one .und) :: .v (.one .und) :: .v (.one .und) :: .v (.one .und) :: .v (.one .und) :: .v (.one .und) :: .v (.one .und) :: .v (.one .und) :: .v (.one .und) :: .v (.one .und) :: .v (.one .und) :: .v (.one .und) :: .v (.one .und) :: .v (.one .und) :: .v (.one .und) :: .v (.one .und) :: .v (.one .und) :: .v (.one .und) :: .v (.one .und) :: .v (.one .und) :: .v (.one .und) :: .v (.one .und) :: .v (.one .und) :: .v (.one .und) :: .v (.one .und) :: .v (.one .und) :: .v (.one .und) :: .v (.one .und) :: .v (.one .und) :: .v (.one .und) :: .v (.one .und) :: .v (.one .und) :: .v (.one .und) :: .v (.one .und) :: [], [.cells 24 [.int .i64 v3, .int .i64 v4], .row 3 (.ints .i64 v5)]⟩
def x53_1_0_k0  (y0 : Int) (y1 : Int) (y2 : Int) (y3 : Int) (y4 : List Int) : St := ⟨.v (.one .und) :: .v (.one (.ptr 0 0)) :: .v (.one .und) :: .v (.one (.row 1)) :: .v (.one (.int .i64 y0)) :: .v (.one (.int .i64 y1)) :: .v (.one .und) :: .v (.one .und) :: .v (.one .und) :: .v (.one .und) :: .v (.one .und) :: .v (.one .und) :: .v (.one .und) :: .v (.one .und) :: .v (.one .und) :: .v (.one .und) :: .v (.one .und) :: .v (.one .und) :: .v (.one .und) :: .v (.one .und) :: .v (.one .und) :: .v (.one .und) :: .v (.one .und) :: .v (.one .und) :: .v (.one .und) :: .v (.one .und) :: .v (.one .und) :: .v (.one .und) :: .v (.one .und) :: .v (.one .und) :: .v (.one .und) :: .v (.one .und) :: .v (.one .und) :: .v (.one .und) :: .v (.one .und) :: .v (.one .und) :: .v (.one .und) :: .v (.one .und) :: .v (.one .und) :: .v (.one .und) :: .v (.one .und) :: .v (.one .und) :: .v (.one .und) :: .v (.one .und) :: [], [.cells 24 [.int .i64 y2, .int .i64 y3], .row 3 (.ints .i64 y4)]⟩
theorem fl53_0_0 (s : St) : refSt (h53_0_0 0 0 0 []) s = h53_0_0 (intS (oneA (vT (nx tund s.tmps 4)))) (intS (nx .und (cellsB (nx .dead s.blks 0)) 0)) (intS (nx .und (cellsB (nx .dead s.blks 0)) 1)) (rInts (rowB_ (nx .dead s.blks 1))) := by kernel_rfl
def VLS53_0 {β : Type} (N : Nat) (q_spec_SpectrumOf_l0 : Nat → Int → Int → Int → List Int → (List Int → Option β) → Option β) : LSpec β := fun s K => cond (shpSt (h53_0_0 0 0 0 []) s) ((fun (v0 : Int) (v1 : Int) (v2 : Int) (v3 : List Int) => q_spec_SpectrumOf_l0  N v0 v1 v2 v3 (fun y0 => K (.exit 0) (x53_0_0_k0  y0))) (intS (oneA (vT (nx tund s.tmps 4)))) (intS (nx .und (cellsB (nx .dead s.blks 0)) 0)) (intS (nx .und (cellsB (nx .dead s.blks 0)) 1)) (rInts (rowB_ (nx .dead s.blks 1)))) (none)
def LS53_0 {β : Type} (N : Nat) : LSpec β := VLS53_0 N (spec_SpectrumOf_l0 N)
theorem fl53_1_0 (s : St) : refSt (h53_1_0 0 0 0 0 0 []) s = h53_1_0 (intS (oneA (vT (nx tund s.tmps 4)))) (intS (oneA (vT (nx tund s.tmps 5)))) (intS (oneA (vT (nx tund s.tmps 6)))) (intS (nx .und (cellsB (nx .dead s.blks 0)) 0)) (intS (nx .und (cellsB (nx .dead s.blks 0)) 1)) (rInts (rowB_ (nx .dead s.blks 1))) := by kernel_rfl
def VLS53_2 {β : Type} (N : Nat) (q_spec_SpectrumOf_l2 : Nat → Int → Int → Int → Int → Int → List Int → (Int → Int → Int → Int → List Int → Option β) → Option β) : LSpec β := fun s K => cond (shpSt (h53_1_0 0 0 0 0 0 []) s) ((fun (v0 : Int) (v1 : Int) (v2 : Int) (v3 : Int) (v4 : Int) (v5 : List Int) => q_spec_SpectrumOf_l2  N v0 v1 v2 v3 v4 v5 (fun y0 y1 y2 y3 y4 => K (.exit 2) (x53_1_0_k0  y0 y1 y2 y3 y4))) (intS (oneA (vT (nx tund s.tmps 4)))) (intS (oneA (vT (nx tund s.tmps 5)))) (intS (oneA (vT (nx tund s.tmps 6)))) (intS (nx .und (cellsB (nx .dead s.blks 0)) 0)) (intS (nx .und (cellsB (nx .dead s.blks 0)) 1)) (rInts (rowB_ (nx .dead s.blks 1)))) (none)
def LS53_2 {β : Type} (N : Nat) : LSpec β := VLS53_2 N (spec_SpectrumOf_l2 N)
def VE53 {β : Type} (N : Nat) (q_spec_IsTable : (a0 : Int) → (a1 : Int) → (k : Bool → Option β) → Option β) (q_spec_l12Sign : (a0 : Int) → (k : Int → Option β) → Option β) (q_spec_SpectrumOf_l0 : Nat → Int → Int → Int → List Int → (List Int → Option β) → Option β) (q_spec_SpectrumOf_l2 : Nat → Int → Int → Int → Int → Int → List Int → (Int → Int → Int → Int → List Int → Option β) → Option β) : Env β := ⟨[(51, VS51 N q_spec_IsTable), (123, VS123 N q_spec_l12Sign)], [], [(0, VLS53_0 N q_spec_SpectrumOf_l0), (2, VLS53_2 N q_spec_SpectrumOf_l2)], [], ⟨[], [], []⟩⟩
def E53 {β : Type} (N : Nat) : Env β := VE53 N (spec_IsTable N) (spec_l12Sign N) (spec_SpectrumOf_l0 N) (spec_SpectrumOf_l2 N)
def BV_spec_SpectrumOf_l0b {β : Type} (N : Nat) (q_spec_IsTable : (a0 : Int) → (a1 : Int) → (k : Bool → Option β) → Option β) (q_spec_SpectrumOf_l2 : Nat → Int → Int → Int → Int → Int → List Int → (Int → Int → Int → Int → List Int → Option β) → Option β)  (v0 : Int) (v1 : Int) (v2 : Int) (v3 : List Int) (rec_ : Int → Int → Int → List Int → Option β) (k0 : List Int → Option β) : Option β :=
q_spec_IsTable v1 v2 fun r3 =>
(cond r3
((gd ((decide (0 ≤ v1)))
((cond ((decide (v0 < (shlI .i64 1 v1))))
(q_spec_SpectrumOf_l2  N v0 0 0 v1 v2 v3 (fun e6_0 e6_1 e6_2 e6_3 e6_4 =>
(gd ((decide ((e6_4.length + ((([] : List Int) ++ [e6_1])).length) * 8 ≤ 140737488355328)))
(rec_ ((w64 (e6_0 + 1))) e6_2 e6_3 ((e6_4 ++ (([] : List Int) ++ [e6_1])))))))
(k0 v3)))))
(k0 v3))
theorem t_spec_SpectrumOf_l0b {β : Type} (N : Nat)  (v0 : Int) (v1 : Int) (v2 : Int) (v3 : List Int) (rec_ : Int → Int → Int → List Int → Option β) (k0 : List Int → Option β) : spec_SpectrumOf_l0b N v0 v1 v2 v3 rec_ k0 = BV_spec_SpectrumOf_l0b N (spec_IsTable N) (spec_SpectrumOf_l2 N) v0 v1 v2 v3 rec_ k0 := by
  unfold spec_SpectrumOf_l0b BV_spec_SpectrumOf_l0b
  rfl
theorem vst53_0_0 {β : Type} (N : Nat) (q_spec_IsTable : (a0 : Int) → (a1 : Int) → (k : Bool → Option β) → Option β) (q_spec_l12Sign : (a0 : Int) → (k : Int → Option β) → Option β) (q_spec_SpectrumOf_l0 : Nat → Int → Int → Int → List Int → (List Int → Option β) → Option β) (q_spec_SpectrumOf_l2 : Nat → Int → Int → Int → Int → Int → List Int → (Int → Int → Int → Int → List Int → Option β) → Option β)  (v0 : Int) (v1 : Int) (v2 : Int) (v3 : List Int) (rec_ : St → Option β) (K : Exit → St → Option β) :
    ev lay (VE53 N q_spec_IsTable q_spec_l12Sign q_spec_SpectrumOf_l0 q_spec_SpectrumOf_l2) (retMask Tryd.f53) (lp Tryd.f53 0).body (lp Tryd.f53 0).ex ((lp Tryd.f53 0).lv (retMask Tryd.f53)) (h53_0_0  v0 v1 v2 v3) (nextR (fun s' => rec_ (s'.tidy ((lp Tryd.f53 0).lv (retMask Tryd.f53)))) K) = BV_spec_SpectrumOf_l0b N q_spec_IsTable q_spec_SpectrumOf_l2  v0 v1 v2 v3 (fun v0 v1 v2 v3 => rec_ (h53_0_0  v0 v1 v2 v3)) (fun y0 => K (.exit 0) (x53_0_0_k0  y0)) := by kernel_rfl
theorem st53_0_0 {β : Type} (N : Nat)  (v0 : Int) (v1 : Int) (v2 : Int) (v3 : List Int) (rec_ : St → Option β) (K : Exit → St → Option β) :
    ev lay (E53 N) (retMask Tryd.f53) (lp Tryd.f53 0).body (lp Tryd.f53 0).ex ((lp Tryd.f53 0).lv (retMask Tryd.f53)) (h53_0_0  v0 v1 v2 v3) (nextR (fun s' => rec_ (s'.tidy ((lp Tryd.f53 0).lv (retMask Tryd.f53)))) K) = spec_SpectrumOf_l0b N  v0 v1 v2 v3 (fun v0 v1 v2 v3 => rec_ (h53_0_0  v0 v1 v2 v3)) (fun y0 => K (.exit 0) (x53_0_0_k0  y0)) := (vst53_0_0 N (spec_IsTable N) (spec_l12Sign N) (spec_SpectrumOf_l0 N) (spec_SpectrumOf_l2 N) v0 v1 v2 v3 rec_ K).trans (t_spec_SpectrumOf_l0b N  v0 v1 v2 v3 (fun v0 v1 v2 v3 => rec_ (h53_0_0  v0 v1 v2 v3)) (fun y0 => K (.exit 0) (x53_0_0_k0  y0))).symm
theorem ro53_0_0 {β : Type} (N : Nat)  (K : Exit → St → Option β) : ∀ (F : Nat) (v0 : Int) (v1 : Int) (v2 : Int) (v3 : List Int), (lp Tryd.f53 0).rounds lay (E53 N) (retMask Tryd.f53) F (h53_0_0  v0 v1 v2 v3) K = spec_SpectrumOf_l0 N  F v0 v1 v2 v3 (fun y0 => K (.exit 0) (x53_0_0_k0  y0)) := by
  intro F
  induction F with
  | zero => intros; rfl
  | succ F ih =>
    intros
    rw [rounds_next]
    refine (st53_0_0 N  _ _ _ _ (fun s => (lp Tryd.f53 0).rounds lay (E53 N) (retMask Tryd.f53) F s K) K).trans ?_
    simp only [ih]
    rfl
theorem lk53_0 {β : Type} (N : Nat) : lookL (E53 (β := β) N).loops (lp Tryd.f53 0).id = LS53_0 N := by kernel_rfl
theorem rk53_0 {β : Type} (N : Nat) : RoundsOK lay (E53 (β := β) N) (retMask Tryd.f53) (lp Tryd.f53 0) := by
  intro s K r h
  rw [lk53_0] at h
  unfold LS53_0 VLS53_0 at h
  cases hb : shpSt (h53_0_0 0 0 0 []) s with
  | true =>
    rw [hb, cond_true] at h
    exact ⟨N, by rw [← shpSt_ref hb, fl53_0_0 s]; exact (ro53_0_0 N  K N (intS (oneA (vT (nx tund s.tmps 4)))) (intS (nx .und (cellsB (nx .dead s.blks 0)) 0)) (intS (nx .und (cellsB (nx .dead s.blks 0)) 1)) (rInts (rowB_ (nx .dead s.blks 1)))).trans h⟩
  | false =>
  rw [hb, cond_false] at h
  clear hb
  cases h
def BV_spec_SpectrumOf_l2b {β : Type} (N : Nat) (q_spec_l12Sign : (a0 : Int) → (k : Int → Option β) → Option β)  (v0 : Int) (v1 : Int) (v2 : Int) (v3 : Int) (v4 : Int) (v5 : List Int) (rec_ : Int → Int → Int → Int → Int → List Int → Option β) (k0 : Int → Int → Int → Int → List Int → Option β) : Option β :=
(gd ((decide (0 ≤ v3)))
((cond ((decide (v2 < (shlI .i64 1 v3))))
((gd ((decide (0 ≤ v2)))
(q_spec_l12Sign ((bits .and .i64 (shrI .i64 v4 v2) 1)) fun r4 =>
q_spec_l12Sign ((bits .and .i64 v0 v2)) fun r5 =>
rec_ v0 ((w64 (v1 + (w64 (r4 * r5))))) ((w64 (v2 + 1))) v3 v4 v5)))
(k0 v0 v1 v3 v4 v5))))
theorem t_spec_SpectrumOf_l2b {β : Type} (N : Nat)  (v0 : Int) (v1 : Int) (v2 : Int) (v3 : Int) (v4 : Int) (v5 : List Int) (rec_ : Int → Int → Int → Int → Int → List Int → Option β) (k0 : Int → Int → Int → Int → List Int → Option β) : spec_SpectrumOf_l2b N v0 v1 v2 v3 v4 v5 rec_ k0 = BV_spec_SpectrumOf_l2b N (spec_l12Sign N) v0 v1 v2 v3 v4 v5 rec_ k0 := by
  unfold spec_SpectrumOf_l2b BV_spec_SpectrumOf_l2b
  rfl
theorem vst53_1_0 {β : Type} (N : Nat) (q_spec_IsTable : (a0 : Int) → (a1 : Int) → (k : Bool → Option β) → Option β) (q_spec_l12Sign : (a0 : Int) → (k : Int → Option β) → Option β) (q_spec_SpectrumOf_l0 : Nat → Int → Int → Int → List Int → (List Int → Option β) → Option β) (q_spec_SpectrumOf_l2 : Nat → Int → Int → Int → Int → Int → List Int → (Int → Int → Int → Int → List Int → Option β) → Option β)  (v0 : Int) (v1 : Int) (v2 : Int) (v3 : Int) (v4 : Int) (v5 : List Int) (rec_ : St → Option β) (K : Exit → St → Option β) :
    ev lay (VE53 N q_spec_IsTable q_spec_l12Sign q_spec_SpectrumOf_l0 q_spec_SpectrumOf_l2) (retMask Tryd.f53) (lp Tryd.f53 1).body (lp Tryd.f53 1).ex ((lp Tryd.f53 1).lv (retMask Tryd.f53)) (h53_1_0  v0 v1 v2 v3 v4 v5) (nextR (fun s' => rec_ (s'.tidy ((lp Tryd.f53 1).lv (retMask Tryd.f53)))) K) = BV_spec_SpectrumOf_l2b N q_spec_l12Sign  v0 v1 v2 v3 v4 v5 (fun v0 v1 v2 v3 v4 v5 => rec_ (h53_1_0  v0 v1 v2 v3 v4 v5)) (fun y0 y1 y2 y3 y4 => K (.exit 2) (x53_1_0_k0  y0 y1 y2 y3 y4)) := by kernel_rfl
theorem st53_1_0 {β : Type} (N : Nat)  (v0 : Int) (v1 : Int) (v2 : Int) (v3 : Int) (v4 : Int) (v5 : List Int) (rec_ : St → Option β) (K : Exit → St → Option β) :
    ev lay (E53 N) (retMask Tryd.f53) (lp Tryd.f53 1).body (lp Tryd.f53 1).ex ((lp Tryd.f53 1).lv (retMask Tryd.f53)) (h53_1_0  v0 v1 v2 v3 v4 v5) (nextR (fun s' => rec_ (s'.tidy ((lp Tryd.f53 1).lv (retMask Tryd.f53)))) K) = spec_SpectrumOf_l2b N  v0 v1 v2 v3 v4 v5 (fun v0 v1 v2 v3 v4 v5 => rec_ (h53_1_0  v0 v1 v2 v3 v4 v5)) (fun y0 y1 y2 y3 y4 => K (.exit 2) (x53_1_0_k0  y0 y1 y2 y3 y4)) := (vst53_1_0 N (spec_IsTable N) (spec_l12Sign N) (spec_SpectrumOf_l0 N) (spec_SpectrumOf_l2 N) v0 v1 v2 v3 v4 v5 rec_ K).trans (t_spec_SpectrumOf_l2b N  v0 v1 v2 v3 v4 v5 (fun v0 v1 v2 v3 v4 v5 => rec_ (h53_1_0  v0 v1 v2 v3 v4 v5)) (fun y0 y1 y2 y3 y4 => K (.exit 2) (x53_1_0_k0  y0 y1 y2 y3 y4))).symm
theorem ro53_1_0 {β : Type} (N : Nat)  (K : Exit → St → Option β) : ∀ (F : Nat) (v0 : Int) (v1 : Int) (v2 : Int) (v3 : Int) (v4 : Int) (v5 : List Int), (lp Tryd.f53 1).rounds lay (E53 N) (retMask Tryd.f53) F (h53_1_0  v0 v1 v2 v3 v4 v5) K = spec_SpectrumOf_l2 N  F v0 v1 v2 v3 v4 v5 (fun y0 y1 y2 y3 y4 => K (.exit 2) (x53_1_0_k0  y0 y1 y2 y3 y4)) := by
  intro F
  induction F with
  | zero => intros; rfl
  | succ F ih =>
    intros
    rw [rounds_next]
    refine (st53_1_0 N  _ _ _ _ _ _ (fun s => (lp Tryd.f53 1).rounds lay (E53 N) (retMask Tryd.f53) F s K) K).trans ?_
    simp only [ih]
    rfl
theorem lk53_2 {β : Type} (N : Nat) : lookL (E53 (β := β) N).loops (lp Tryd.f53 1).id = LS53_2 N := by kernel_rfl
theorem rk53_2 {β : Type} (N : Nat) : RoundsOK lay (E53 (β := β) N) (retMask Tryd.f53) (lp Tryd.f53 1) := by
  intro s K r h
  rw [lk53_2] at h
  unfold LS53_2 VLS53_2 at h
  cases hb : shpSt (h53_1_0 0 0 0 0 0 []) s with
  | true =>
    rw [hb, cond_true] at h
    exact ⟨N, by rw [← shpSt_ref hb, fl53_1_0 s]; exact (ro53_1_0 N  K N (intS (oneA (vT (nx tund s.tmps 4)))) (intS (oneA (vT (nx tund s.tmps 5)))) (intS (oneA (vT (nx tund s.tmps 6)))) (intS (nx .und (cellsB (nx .dead s.blks 0)) 0)) (intS (nx .und (cellsB (nx .dead s.blks 0)) 1)) (rInts (rowB_ (nx .dead s.blks 1)))).trans h⟩
  | false =>
  rw [hb, cond_false] at h
  clear hb
  cases h
def BV_spec_SpectrumOf {β : Type} (N : Nat) (q_spec_SpectrumOf_l0 : Nat → Int → Int → Int → List Int → (List Int → Option β) → Option β) (a0 : Int) (a1 : Int) (k : List Int → Option β) : Option β :=
q_spec_SpectrumOf_l0  N 0 a0 a1 (([] : List Int)) (fun e7_0 =>
k e7_0)
theorem t_spec_SpectrumOf {β : Type} (N : Nat) (a0 : Int) (a1 : Int) (k : List Int → Option β) : spec_SpectrumOf N a0 a1 k = BV_spec_SpectrumOf N (spec_SpectrumOf_l0 N) a0 a1 k := by
  unfold spec_SpectrumOf BV_spec_SpectrumOf
  rfl
theorem ve53_0 {β : Type} (N : Nat) (q_spec_IsTable : (a0 : Int) → (a1 : Int) → (k : Bool → Option β) → Option β) (q_spec_l12Sign : (a0 : Int) → (k : Int → Option β) → Option β) (q_spec_SpectrumOf_l0 : Nat → Int → Int → Int → List Int → (List Int → Option β) → Option β) (q_spec_SpectrumOf_l2 : Nat → Int → Int → Int → Int → Int → List Int → (Int → Int → Int → Int → List Int → Option β) → Option β)  (a0 : Int) (a1 : Int) (K : TV → Option β) : evFn lay (VE53 N q_spec_IsTable q_spec_l12Sign q_spec_SpectrumOf_l0 q_spec_SpectrumOf_l2) Tryd.f53 [.v (.agg [.int .i64 a0, .int .i64 a1])] K = BV_spec_SpectrumOf N q_spec_SpectrumOf_l0 a0 a1 (fun z2 => K (.v (.one (.sl 3 (.ints .i64 z2))))) := by kernel_rfl
theorem e53_0 {β : Type} (N : Nat)  (a0 : Int) (a1 : Int) (K : TV → Option β) : evFn lay (E53 N) Tryd.f53 [.v (.agg [.int .i64 a0, .int .i64 a1])] K = spec_SpectrumOf N a0 a1 (fun z2 => K (.v (.one (.sl 3 (.ints .i64 z2))))) := (ve53_0 N (spec_IsTable N) (spec_l12Sign N) (spec_SpectrumOf_l0 N) (spec_SpectrumOf_l2 N) a0 a1 K).trans (t_spec_SpectrumOf N a0 a1 (fun z2 => K (.v (.one (.sl 3 (.ints .i64 z2)))))).symm
theorem o53 {β : Type} (N : Nat) : SpecOK (β := β) inv Tryd.prog 53 (S53 N) := by
  refine spec_of lay_ok mixed (E := E53 N) (specs_loops (specs_cons (o51 N) (specs_cons (o123 N) specs_nil))) muts_nil gs_nil Tryd.func53 (by kernel_rfl) 2 (by kernel_rfl) ⟨⟨trivial, rk53_0 N⟩, rk53_2 N⟩ fun args K r h => ?_
  unfold S53 VS53 at h
  split at h
  · exact (e53_0 N _ _ _).trans h
  · cases h
def VS55 {β : Type} (N : Nat) (q_spec_FormatInt : (a0 : Int) → (k : ByteArray → Option β) → Option β) : Rv.Spec β := fun args K => match args with
  | [.v (.one (.int .i64 a0))] => q_spec_FormatInt a0 (fun z1 => K (.v (.one (.str z1))))
  | _ => none
def S55 {β : Type} (N : Nat) : Rv.Spec β := VS55 N (spec_FormatInt N)
def h55_0_0  (v0 : Int) (v1 : ByteArray) (v2 : Bool) : St := ⟨.v (.one (.int .i64 v0)) :: .v (.one .und) :: .v (.one .und) :: .v (.one (.str v1)) :: .v (.one (.bool v2)) :: .v (.one .und) :: .v (.one .und) :: .v (.one .und) :: .v (.one .und) :: .v (.one .und) :: .v (.one .und) :: .v (.one .und) :: .v (.one .und) :: .v (.one .und) :: .v (.one .und) :: .v (.one .und) :: .v (.one .und) :: .v (.one .und) :: .v (.one .und) :: .v (.one .und) :: .v (.one .und) :: .v (.one .und) :: .v (.one .und) :: .v (.one .und) :: .v (.one .und) :: .v (.one .und) :: .v (.one .und) :: .v (.one .und) :: .v (.one .und) :: .v (.one .und) :: .v (.one .und) :: [], []⟩
def x55_0_0_k0  (y0 : ByteArray) (y1 : Bool) : St := ⟨.v (.one .und) :: .v (.one .und) :: .v (.one .und) :: .v (.one (.str y0)) :: .v (.one (.bool y1)) :: .v (.one .und) :: .v (.one .und) :: .v (.one .und) :: .v (.one .und) :: .v (.one .und) :: .v (.one .und) :: .v (.one .und) :: .v (.one .und) :: .v (.one .und) :: .v (.one .und) :: .v (.one .und) :: .v (.one .und) :: .v (.one .und) :: .v (.one .und) :: .v (.one .und) :: .v (.one .und) :: .v (.one .und) :: .v (.one .und) :: .v (.one .und) :: .v (.one .und) :: .v (.one .und) :: .v (.one .und) :: .v (.one .und) :: .v (.one .und) :: .v (.one .und) :: .v (.one .und) :: [], []⟩
theorem fl55_0_0 (s : St) : refSt (h55_0_0 0 ByteArray.empty false) s = h55_0_0 (intS (oneA (vT (nx tund s.tmps 0)))) (strS (oneA (vT (nx tund s.tmps 3)))) (boolS (oneA (vT (nx tund s.tmps 4)))) := by kernel_rfl
def VLS55_0 {β : Type} (N : Nat) (q_spec_FormatInt_l0 : Nat → Int → ByteArray → Bool → (ByteArray → Bool → Option β) → Option β) : LSpec β := fun s K => cond (shpSt (h55_0_0 0 ByteArray.empty false) s) ((fun (v0 : Int) (v1 : ByteArray) (v2 : Bool) => q_spec_FormatInt_l0  N v0 v1 v2 (fun y0 y1 => K (.exit 0) (x55_0_0_k0  y0 y1))) (intS (oneA (vT (nx tund s.tmps 0)))) (strS (oneA (vT (nx tund s.tmps 3)))) (boolS (oneA (vT (nx tund s.tmps 4))))) (none)
def LS55_0 {β : Type} (N : Nat) : LSpec β := VLS55_0 N (spec_FormatInt_l0 N)
def VE55 {β : Type} (N : Nat) (q_spec_FormatInt_l0 : Nat → Int → ByteArray → Bool → (ByteArray → Bool → Option β) → Option β) : Env β := ⟨[], [], [(0, VLS55_0 N q_spec_FormatInt_l0)], [], ⟨[], [], []⟩⟩
def E55 {β : Type} (N : Nat) : Env β := VE55 N (spec_FormatInt_l0 N)
def BV_spec_FormatInt_l0b {β : Type} (N : Nat)  (v0 : Int) (v1 : ByteArray) (v2 : Bool) (rec_ : Int → ByteArray → Bool → Option β) (k0 : ByteArray → Bool → Option β) : Option β :=
(cond ((v0 != 0))
((cond ((decide ((remI v0 10) < 0)))
((gd ((decide (((strOf ((([] : List Int) ++ [(w8 ((w64 (48 + (w64 (0 - (remI v0 10)))))))])))).size + v1.size ≤ 9223372036854775807)))
(rec_ ((quoI .i64 v0 10)) (((strOf ((([] : List Int) ++ [(w8 ((w64 (48 + (w64 (0 - (remI v0 10)))))))]))) ++ v1)) v2)))
((gd ((decide (((strOf ((([] : List Int) ++ [(w8 ((w64 (48 + (remI v0 10)))))])))).size + v1.size ≤ 9223372036854775807)))
(rec_ ((quoI .i64 v0 10)) (((strOf ((([] : List Int) ++ [(w8 ((w64 (48 + (remI v0 10)))))]))) ++ v1)) v2)))))
(k0 v1 v2))
theorem t_spec_FormatInt_l0b {β : Type} (N : Nat)  (v0 : Int) (v1 : ByteArray) (v2 : Bool) (rec_ : Int → ByteArray → Bool → Option β) (k0 : ByteArray → Bool → Option β) : spec_FormatInt_l0b N v0 v1 v2 rec_ k0 = BV_spec_FormatInt_l0b N v0 v1 v2 rec_ k0 := by
  unfold spec_FormatInt_l0b BV_spec_FormatInt_l0b
  rfl
theorem vst55_0_0 {β : Type} (N : Nat) (q_spec_FormatInt_l0 : Nat → Int → ByteArray → Bool → (ByteArray → Bool → Option β) → Option β)  (v0 : Int) (v1 : ByteArray) (v2 : Bool) (rec_ : St → Option β) (K : Exit → St → Option β) :
    ev lay (VE55 N q_spec_FormatInt_l0) (retMask Tryd.f55) (lp Tryd.f55 0).body (lp Tryd.f55 0).ex ((lp Tryd.f55 0).lv (retMask Tryd.f55)) (h55_0_0  v0 v1 v2) (nextR (fun s' => rec_ (s'.tidy ((lp Tryd.f55 0).lv (retMask Tryd.f55)))) K) = BV_spec_FormatInt_l0b N  v0 v1 v2 (fun v0 v1 v2 => rec_ (h55_0_0  v0 v1 v2)) (fun y0 y1 => K (.exit 0) (x55_0_0_k0  y0 y1)) := by kernel_rfl
theorem st55_0_0 {β : Type} (N : Nat)  (v0 : Int) (v1 : ByteArray) (v2 : Bool) (rec_ : St → Option β) (K : Exit → St → Option β) :
    ev lay (E55 N) (retMask Tryd.f55) (lp Tryd.f55 0).body (lp Tryd.f55 0).ex ((lp Tryd.f55 0).lv (retMask Tryd.f55)) (h55_0_0  v0 v1 v2) (nextR (fun s' => rec_ (s'.tidy ((lp Tryd.f55 0).lv (retMask Tryd.f55)))) K) = spec_FormatInt_l0b N  v0 v1 v2 (fun v0 v1 v2 => rec_ (h55_0_0  v0 v1 v2)) (fun y0 y1 => K (.exit 0) (x55_0_0_k0  y0 y1)) := (vst55_0_0 N (spec_FormatInt_l0 N) v0 v1 v2 rec_ K).trans (t_spec_FormatInt_l0b N  v0 v1 v2 (fun v0 v1 v2 => rec_ (h55_0_0  v0 v1 v2)) (fun y0 y1 => K (.exit 0) (x55_0_0_k0  y0 y1))).symm
theorem ro55_0_0 {β : Type} (N : Nat)  (K : Exit → St → Option β) : ∀ (F : Nat) (v0 : Int) (v1 : ByteArray) (v2 : Bool), (lp Tryd.f55 0).rounds lay (E55 N) (retMask Tryd.f55) F (h55_0_0  v0 v1 v2) K = spec_FormatInt_l0 N  F v0 v1 v2 (fun y0 y1 => K (.exit 0) (x55_0_0_k0  y0 y1)) := by
  intro F
  induction F with
  | zero => intros; rfl
  | succ F ih =>
    intros
    rw [rounds_next]
    refine (st55_0_0 N  _ _ _ (fun s => (lp Tryd.f55 0).rounds lay (E55 N) (retMask Tryd.f55) F s K) K).trans ?_
    simp only [ih]
    rfl
theorem lk55_0 {β : Type} (N : Nat) : lookL (E55 (β := β) N).loops (lp Tryd.f55 0).id = LS55_0 N := by kernel_rfl
theorem rk55_0 {β : Type} (N : Nat) : RoundsOK lay (E55 (β := β) N) (retMask Tryd.f55) (lp Tryd.f55 0) := by
  intro s K r h
  rw [lk55_0] at h
  unfold LS55_0 VLS55_0 at h
  cases hb : shpSt (h55_0_0 0 ByteArray.empty false) s with
  | true =>
    rw [hb, cond_true] at h
    exact ⟨N, by rw [← shpSt_ref hb, fl55_0_0 s]; exact (ro55_0_0 N  K N (intS (oneA (vT (nx tund s.tmps 0)))) (strS (oneA (vT (nx tund s.tmps 3)))) (boolS (oneA (vT (nx tund s.tmps 4))))).trans h⟩
  | false =>
  rw [hb, cond_false] at h
  clear hb
  cases h
def BV_spec_FormatInt {β : Type} (N : Nat) (q_spec_FormatInt_l0 : Nat → Int → ByteArray → Bool → (ByteArray → Bool → Option β) → Option β) (a0 : Int) (k : ByteArray → Option β) : Option β :=
(cond ((a0 == 0))
(k ((strOf [48])))
(q_spec_FormatInt_l0  N a0 ByteArray.empty ((decide (a0 < 0))) (fun e2_0 e2_1 =>
(cond e2_1
((gd ((decide (((strOf [45])).size + e2_0.size ≤ 9223372036854775807)))
(k (((strOf [45]) ++ e2_0)))))
(k e2_0)))))
theorem t_spec_FormatInt {β : Type} (N : Nat) (a0 : Int) (k : ByteArray → Option β) : spec_FormatInt N a0 k = BV_spec_FormatInt N (spec_FormatInt_l0 N) a0 k := by
  unfold spec_FormatInt BV_spec_FormatInt
  rfl
theorem ve55_0 {β : Type} (N : Nat) (q_spec_FormatInt_l0 : Nat → Int → ByteArray → Bool → (ByteArray → Bool → Option β) → Option β)  (a0 : Int) (K : TV → Option β) : evFn lay (VE55 N q_spec_FormatInt_l0) Tryd.f55 [.v (.one (.int .i64 a0))] K = BV_spec_FormatInt N q_spec_FormatInt_l0 a0 (fun z1 => K (.v (.one (.str z1)))) := by kernel_rfl
theorem e55_0 {β : Type} (N : Nat)  (a0 : Int) (K : TV → Option β) : evFn lay (E55 N) Tryd.f55 [.v (.one (.int .i64 a0))] K = spec_FormatInt N a0 (fun z1 => K (.v (.one (.str z1)))) := (ve55_0 N (spec_FormatInt_l0 N) a0 K).trans (t_spec_FormatInt N a0 (fun z1 => K (.v (.one (.str z1))))).symm
theorem o55 {β : Type} (N : Nat) : SpecOK (β := β) inv Tryd.prog 55 (S55 N) := by
  refine spec_of lay_ok mixed (E := E55 N) (specs_loops specs_nil) muts_nil gs_nil Tryd.func55 (by kernel_rfl) 1 (by kernel_rfl) ⟨trivial, rk55_0 N⟩ fun args K r h => ?_
  unfold S55 VS55 at h
  split at h
  · exact (e55_0 N _ _).trans h
  · cases h
def VS52 {β : Type} (N : Nat) (q_spec_l34Numbers : (a0 : List Int) → (k : ByteArray → Option β) → Option β) : Rv.Spec β := fun args K => match args with
  | [.v (.one (.sl 3 (.ints .i64 a0)))] => q_spec_l34Numbers a0 (fun z1 => K (.v (.one (.str z1))))
  | _ => none
def S52 {β : Type} (N : Nat) : Rv.Spec β := VS52 N (spec_l34Numbers N)
def h52_0_0  (v0 : List Int) (v1 : ByteArray) (v2 : Int) : St := ⟨.v (.one (.sl 3 (.ints .i64 v0))) :: .v (.one .und) :: .v (.one .und) :: .v (.one (.str v1)) :: .v (.one (.int .i64 v2)) :: .v (.one .und) :: .v (.one .und) :: .v (.one .und) :: .v (.one .und) :: .v (.one .und) :: .v (.one .und) :: .v (.one .und) :: .v (.one .und) :: .v (.one .und) :: .v (.one .und) :: .v (.one .und) :: .v (.one .und) :: .v (.one .und) :: .v (.one .und) :: .v (.one .und) :: .v (.one .und) :: .v (.one .und) :: .v (.one .und) :: .v (.one .und) :: .v (.one .und) :: [], []⟩
def x52_0_0_k0  (y0 : ByteArray) : St := ⟨.v (.one .und) :: .v (.one .und) :: .v (.one .und) :: .v (.one (.str y0)) :: .v (.one .und) :: .v (.one .und) :: .v (.one .und) :: .v (.one .und) :: .v (.one .und) :: .v (.one .und) :: .v (.one .und) :: .v (.one .und) :: .v (.one .und) :: .v (.one .und) :: .v (.one .und) :: .v (.one .und) :: .v (.one .und) :: .v (.one .und) :: .v (.one .und) :: .v (.one .und) :: .v (.one .und) :: .v (.one .und) :: .v (.one .und) :: .v (.one .und) :: .v (.one .und) :: [], []⟩
theorem fl52_0_0 (s : St) : refSt (h52_0_0 [] ByteArray.empty 0) s = h52_0_0 (rInts (rowV (oneA (vT (nx tund s.tmps 0))))) (strS (oneA (vT (nx tund s.tmps 3)))) (intS (oneA (vT (nx tund s.tmps 4)))) := by kernel_rfl
def VLS52_0 {β : Type} (N : Nat) (q_spec_l34Numbers_l0 : Nat → List Int → ByteArray → Int → (ByteArray → Option β) → Option β) : LSpec β := fun s K => cond (shpSt (h52_0_0 [] ByteArray.empty 0) s) ((fun (v0 : List Int) (v1 : ByteArray) (v2 : Int) => q_spec_l34Numbers_l0  N v0 v1 v2 (fun y0 => K (.exit 0) (x52_0_0_k0  y0))) (rInts (rowV (oneA (vT (nx tund s.tmps 0))))) (strS (oneA (vT (nx tund s.tmps 3)))) (intS (oneA (vT (nx tund s.tmps 4))))) (none)
def LS52_0 {β : Type} (N : Nat) : LSpec β := VLS52_0 N (spec_l34Numbers_l0 N)
def VE52 {β : Type} (N : Nat) (q_spec_FormatInt : (a0 : Int) → (k : ByteArray → Option β) → Option β) (q_spec_l34Numbers_l0 : Nat → List Int → ByteArray → Int → (ByteArray → Option β) → Option β) : Env β := ⟨[(55, VS55 N q_spec_FormatInt)], [], [(0, VLS52_0 N q_spec_l34Numbers_l0)], [], ⟨[], [], []⟩⟩
def E52 {β : Type} (N : Nat) : Env β := VE52 N (spec_FormatInt N) (spec_l34Numbers_l0 N)
def BV_spec_l34Numbers_l0b {β : Type} (N : Nat) (q_spec_FormatInt : (a0 : Int) → (k : ByteArray → Option β) → Option β)  (v0 : List Int) (v1 : ByteArray) (v2 : Int) (rec_ : List Int → ByteArray → Int → Option β) (k0 : ByteArray → Option β) : Option β :=
(cond ((decide (v2 < (v0.length : Int))))
((cond ((decide (v2 > 0)))
((gd ((decide (v1.size + ((strOf [44])).size ≤ 9223372036854775807)))
((gd ((decide (0 ≤ v2)))
((gd ((decide (v2 < (v0.length : Int))))
(q_spec_FormatInt ((rd 0 v0 v2)) fun r2 =>
(gd ((decide (((v1 ++ (strOf [44]))).size + r2.size ≤ 9223372036854775807)))
(rec_ v0 (((v1 ++ (strOf [44])) ++ r2)) ((w64 (v2 + 1))))))))))))
((gd ((decide (0 ≤ v2)))
((gd ((decide (v2 < (v0.length : Int))))
(q_spec_FormatInt ((rd 0 v0 v2)) fun r3 =>
(gd ((decide (v1.size + r3.size ≤ 9223372036854775807)))
(rec_ v0 ((v1 ++ r3)) ((w64 (v2 + 1))))))))))))
(k0 v1))
theorem t_spec_l34Numbers_l0b {β : Type} (N : Nat)  (v0 : List Int) (v1 : ByteArray) (v2 : Int) (rec_ : List Int → ByteArray → Int → Option β) (k0 : ByteArray → Option β) : spec_l34Numbers_l0b N v0 v1 v2 rec_ k0 = BV_spec_l34Numbers_l0b N (spec_FormatInt N) v0 v1 v2 rec_ k0 := by
  unfold spec_l34Numbers_l0b BV_spec_l34Numbers_l0b
  rfl
theorem vst52_0_0 {β : Type} (N : Nat) (q_spec_FormatInt : (a0 : Int) → (k : ByteArray → Option β) → Option β) (q_spec_l34Numbers_l0 : Nat → List Int → ByteArray → Int → (ByteArray → Option β) → Option β)  (v0 : List Int) (v1 : ByteArray) (v2 : Int) (rec_ : St → Option β) (K : Exit → St → Option β) :
    ev lay (VE52 N q_spec_FormatInt q_spec_l34Numbers_l0) (retMask Tryd.f52) (lp Tryd.f52 0).body (lp Tryd.f52 0).ex ((lp Tryd.f52 0).lv (retMask Tryd.f52)) (h52_0_0  v0 v1 v2) (nextR (fun s' => rec_ (s'.tidy ((lp Tryd.f52 0).lv (retMask Tryd.f52)))) K) = BV_spec_l34Numbers_l0b N q_spec_FormatInt  v0 v1 v2 (fun v0 v1 v2 => rec_ (h52_0_0  v0 v1 v2)) (fun y0 => K (.exit 0) (x52_0_0_k0  y0)) := by kernel_rfl
theorem st52_0_0 {β : Type} (N : Nat)  (v0 : List Int) (v1 : ByteArray) (v2 : Int) (rec_ : St → Option β) (K : Exit → St → Option β) :
    ev lay (E52 N) (retMask Tryd.f52) (lp Tryd.f52 0).body (lp Tryd.f52 0).ex ((lp Tryd.f52 0).lv (retMask Tryd.f52)) (h52_0_0  v0 v1 v2) (nextR (fun s' => rec_ (s'.tidy ((lp Tryd.f52 0).lv (retMask Tryd.f52)))) K) = spec_l34Numbers_l0b N  v0 v1 v2 (fun v0 v1 v2 => rec_ (h52_0_0  v0 v1 v2)) (fun y0 => K (.exit 0) (x52_0_0_k0  y0)) := (vst52_0_0 N (spec_FormatInt N) (spec_l34Numbers_l0 N) v0 v1 v2 rec_ K).trans (t_spec_l34Numbers_l0b N  v0 v1 v2 (fun v0 v1 v2 => rec_ (h52_0_0  v0 v1 v2)) (fun y0 => K (.exit 0) (x52_0_0_k0  y0))).symm
theorem ro52_0_0 {β : Type} (N : Nat)  (K : Exit → St → Option β) : ∀ (F : Nat) (v0 : List Int) (v1 : ByteArray) (v2 : Int), (lp Tryd.f52 0).rounds lay (E52 N) (retMask Tryd.f52) F (h52_0_0  v0 v1 v2) K = spec_l34Numbers_l0 N  F v0 v1 v2 (fun y0 => K (.exit 0) (x52_0_0_k0  y0)) := by
  intro F
  induction F with
  | zero => intros; rfl
  | succ F ih =>
    intros
    rw [rounds_next]
    refine (st52_0_0 N  _ _ _ (fun s => (lp Tryd.f52 0).rounds lay (E52 N) (retMask Tryd.f52) F s K) K).trans ?_
    simp only [ih]
    rfl
theorem lk52_0 {β : Type} (N : Nat) : lookL (E52 (β := β) N).loops (lp Tryd.f52 0).id = LS52_0 N := by kernel_rfl
theorem rk52_0 {β : Type} (N : Nat) : RoundsOK lay (E52 (β := β) N) (retMask Tryd.f52) (lp Tryd.f52 0) := by
  intro s K r h
  rw [lk52_0] at h
  unfold LS52_0 VLS52_0 at h
  cases hb : shpSt (h52_0_0 [] ByteArray.empty 0) s with
  | true =>
    rw [hb, cond_true] at h
    exact ⟨N, by rw [← shpSt_ref hb, fl52_0_0 s]; exact (ro52_0_0 N  K N (rInts (rowV (oneA (vT (nx tund s.tmps 0))))) (strS (oneA (vT (nx tund s.tmps 3)))) (intS (oneA (vT (nx tund s.tmps 4))))).trans h⟩
  | false =>
  rw [hb, cond_false] at h
  clear hb
  cases h
def BV_spec_l34Numbers {β : Type} (N : Nat) (q_spec_l34Numbers_l0 : Nat → List Int → ByteArray → Int → (ByteArray → Option β) → Option β) (a0 : List Int) (k : ByteArray → Option β) : Option β :=
q_spec_l34Numbers_l0  N a0 ByteArray.empty 0 (fun e4_0 =>
(cond ((e4_0.toList == ByteArray.empty.toList))
(k ((strOf [110, 111, 110, 101])))
(k e4_0)))
theorem t_spec_l34Numbers {β : Type} (N : Nat) (a0 : List Int) (k : ByteArray → Option β) : spec_l34Numbers N a0 k = BV_spec_l34Numbers N (spec_l34Numbers_l0 N) a0 k := by
  unfold spec_l34Numbers BV_spec_l34Numbers
  rfl
theorem ve52_0 {β : Type} (N : Nat) (q_spec_FormatInt : (a0 : Int) → (k : ByteArray → Option β) → Option β) (q_spec_l34Numbers_l0 : Nat → List Int → ByteArray → Int → (ByteArray → Option β) → Option β)  (a0 : List Int) (K : TV → Option β) : evFn lay (VE52 N q_spec_FormatInt q_spec_l34Numbers_l0) Tryd.f52 [.v (.one (.sl 3 (.ints .i64 a0)))] K = BV_spec_l34Numbers N q_spec_l34Numbers_l0 a0 (fun z1 => K (.v (.one (.str z1)))) := by kernel_rfl
theorem e52_0 {β : Type} (N : Nat)  (a0 : List Int) (K : TV → Option β) : evFn lay (E52 N) Tryd.f52 [.v (.one (.sl 3 (.ints .i64 a0)))] K = spec_l34Numbers N a0 (fun z1 => K (.v (.one (.str z1)))) := (ve52_0 N (spec_FormatInt N) (spec_l34Numbers_l0 N) a0 K).trans (t_spec_l34Numbers N a0 (fun z1 => K (.v (.one (.str z1))))).symm
theorem o52 {β : Type} (N : Nat) : SpecOK (β := β) inv Tryd.prog 52 (S52 N) := by
  refine spec_of lay_ok mixed (E := E52 N) (specs_loops (specs_cons (o55 N) specs_nil)) muts_nil gs_nil Tryd.func52 (by kernel_rfl) 1 (by kernel_rfl) ⟨trivial, rk52_0 N⟩ fun args K r h => ?_
  unfold S52 VS52 at h
  split at h
  · exact (e52_0 N _ _).trans h
  · cases h
def VS54 {β : Type} (N : Nat) (q_spec_EnergyByLevel : (a0 : Int) → (a1 : Int) → (k : List Int → Option β) → Option β) : Rv.Spec β := fun args K => match args with
  | [.v (.agg [.int .i64 a0, .int .i64 a1])] => q_spec_EnergyByLevel a0 a1 (fun z2 => K (.v (.one (.sl 3 (.ints .i64 z2)))))
  | _ => none
def S54 {β : Type} (N : Nat) : Rv.Spec β := VS54 N (spec_EnergyByLevel N)
def h54_0_0  (v0 : Int) (v1 : List Int) (v2 : List Int) : St := ⟨.v (.one .und) :: .v (.one .und) :: .v (.one .und) :: .v (.one (.row 0)) :: .v (.one (.row 1)) :: .v (.one (.int .i64 v0)) :: .v (.one .und) :: .v (.one .und) :: .v (.one .und) :: .v (.one .und) :: .v (.one .und) :: .v (.one .und) :: .v (.one .und) :: .v (.one .und) :: .v (.one .und) :: .v (.one .und) :: .v (.one .und) :: .v (.one .und) :: .v (.one .und) :: .v (.one .und) :: .v (.one .und) :: .v (.one .und) :: .v (.one .und) :: .v (.one .und) :: .v (.one .und) :: .v (.one .und) :: .v (.one .und) :: .v (.one .und) :: .v (.one .und) :: .v (.one .und) :: .v (.one .und) :: .v (.one .und) :: .v (.one .und) :: .v (.one .und) :: .v (.one .und) :: .v (.one .und) :: .v (.one .und) :: .v (.one .und) :: .v (.one .und) :: .v (.one .und) :: .v (.one .und) :: .v (.one .und) :: [], [.row 3 (.ints .i64 v1), .row 3 (.ints .i64 v2)]⟩
def x54_0_0_k0  (y0 : List Int) : St := ⟨.v (.one .und) :: .v (.one .und) :: .v (.one .und) :: .v (.one (.row 0)) :: .v (.one .und) :: .v (.one .und) :: .v (.one .und) :: .v (.one .und) :: .v (.one .und) :: .v (.one .und) :: .v (.one .und) :: .v (.one .und) :: .v (.one .und) :: .v (.one .und) :: .v (.one .und) :: .v (.one .und) :: .v (.one .und) :: .v (.one .und) :: .v (.one .und) :: .v (.one .und) :: .v (.one .und) :: .v (.one .und) :: .v (.one .und) :: .v (.one .und) :: .v (.one .und) :: .v (.one .und) :: .v (.one .und) :: .v (.one .und) :: .v (.one .und) :: .v (.one .und) :: .v (.one .und) :: .v (.one .und) :: .v (.one .und) :: .v (.one .und) :: .v (.one .und) :: .v (.one .und) :: .v (.one .und) :: .v (.one .und) :: .v (.one .und) :: .v (.one .und) :: .v (.one .und) :: .v (.one .und) :: [], [.row 3 (.ints .i64 y0)]⟩
theorem fl54_0_0 (s : St) : refSt (h54_0_0 0 [] []) s = h54_0_0 (intS (oneA (vT (nx tund s.tmps 5)))) (rInts (rowB_ (nx .dead s.blks 0))) (rInts (rowB_ (nx .dead s.blks 1))) := by kernel_rfl
def VLS54_0 {β : Type} (N : Nat) (q_spec_EnergyByLevel_l0 : Nat → Int → List Int → List Int → (List Int → Option β) → Option β) : LSpec β := fun s K => cond (shpSt (h54_0_0 0 [] []) s) ((fun (v0 : Int) (v1 : List Int) (v2 : List Int) => q_spec_EnergyByLevel_l0  N v0 v1 v2 (fun y0 => K (.exit 0) (x54_0_0_k0  y0))) (intS (oneA (vT (nx tund s.tmps 5)))) (rInts (rowB_ (nx .dead s.blks 0))) (rInts (rowB_ (nx .dead s.blks 1)))) (none)
def LS54_0 {β : Type} (N : Nat) : LSpec β := VLS54_0 N (spec_EnergyByLevel_l0 N)
def VE54 {β : Type} (N : Nat) (q_spec_IsTable : (a0 : Int) → (a1 : Int) → (k : Bool → Option β) → Option β) (q_spec_SpectrumOf : (a0 : Int) → (a1 : Int) → (k : List Int → Option β) → Option β) (q_spec_l2Count : (a0 : Int) → (k : Int → Option β) → Option β) (q_spec_EnergyByLevel_l0 : Nat → Int → List Int → List Int → (List Int → Option β) → Option β) : Env β := ⟨[(51, VS51 N q_spec_IsTable), (53, VS53 N q_spec_SpectrumOf), (124, VS124 N q_spec_l2Count)], [], [(0, VLS54_0 N q_spec_EnergyByLevel_l0)], [], ⟨[], [], []⟩⟩
def E54 {β : Type} (N : Nat) : Env β := VE54 N (spec_IsTable N) (spec_SpectrumOf N) (spec_l2Count N) (spec_EnergyByLevel_l0 N)
def BV_spec_EnergyByLevel_l0b {β : Type} (N : Nat) (q_spec_l2Count : (a0 : Int) → (k : Int → Option β) → Option β)  (v0 : Int) (v1 : List Int) (v2 : List Int) (rec_ : Int → List Int → List Int → Option β) (k0 : List Int → Option β) : Option β :=
(cond ((decide (v0 < (v2.length : Int))))
((gd ((decide (0 ≤ v0)))
((gd ((decide (v0 < (v2.length : Int))))
((gd ((decide (0 ≤ v0)))
((gd ((decide (v0 < (v2.length : Int))))
(q_spec_l2Count v0 fun r5 =>
q_spec_l2Count v0 fun r6 =>
(gd ((decide (0 ≤ r6)))
((gd ((decide (r6 < (v1.length : Int))))
((gd ((decide (0 ≤ r5)))
((gd ((decide (r5 < (v1.length : Int))))
(rec_ ((w64 (v0 + 1))) ((wr v1 r5 (w64 ((rd 0 v1 r6) + (w64 ((rd 0 v2 v0) * (rd 0 v2 v0))))))) v2)))))))))))))))))
(k0 v1))
theorem t_spec_EnergyByLevel_l0b {β : Type} (N : Nat)  (v0 : Int) (v1 : List Int) (v2 : List Int) (rec_ : Int → List Int → List Int → Option β) (k0 : List Int → Option β) : spec_EnergyByLevel_l0b N v0 v1 v2 rec_ k0 = BV_spec_EnergyByLevel_l0b N (spec_l2Count N) v0 v1 v2 rec_ k0 := by
  unfold spec_EnergyByLevel_l0b BV_spec_EnergyByLevel_l0b
  rfl
theorem vst54_0_0 {β : Type} (N : Nat) (q_spec_IsTable : (a0 : Int) → (a1 : Int) → (k : Bool → Option β) → Option β) (q_spec_SpectrumOf : (a0 : Int) → (a1 : Int) → (k : List Int → Option β) → Option β) (q_spec_l2Count : (a0 : Int) → (k : Int → Option β) → Option β) (q_spec_EnergyByLevel_l0 : Nat → Int → List Int → List Int → (List Int → Option β) → Option β)  (v0 : Int) (v1 : List Int) (v2 : List Int) (rec_ : St → Option β) (K : Exit → St → Option β) :
    ev lay (VE54 N q_spec_IsTable q_spec_SpectrumOf q_spec_l2Count q_spec_EnergyByLevel_l0) (retMask Tryd.f54) (lp Tryd.f54 0).body (lp Tryd.f54 0).ex ((lp Tryd.f54 0).lv (retMask Tryd.f54)) (h54_0_0  v0 v1 v2) (nextR (fun s' => rec_ (s'.tidy ((lp Tryd.f54 0).lv (retMask Tryd.f54)))) K) = BV_spec_EnergyByLevel_l0b N q_spec_l2Count  v0 v1 v2 (fun v0 v1 v2 => rec_ (h54_0_0  v0 v1 v2)) (fun y0 => K (.exit 0) (x54_0_0_k0  y0)) := by kernel_rfl
theorem st54_0_0 {β : Type} (N : Nat)  (v0 : Int) (v1 : List Int) (v2 : List Int) (rec_ : St → Option β) (K : Exit → St → Option β) :
    ev lay (E54 N) (retMask Tryd.f54) (lp Tryd.f54 0).body (lp Tryd.f54 0).ex ((lp Tryd.f54 0).lv (retMask Tryd.f54)) (h54_0_0  v0 v1 v2) (nextR (fun s' => rec_ (s'.tidy ((lp Tryd.f54 0).lv (retMask Tryd.f54)))) K) = spec_EnergyByLevel_l0b N  v0 v1 v2 (fun v0 v1 v2 => rec_ (h54_0_0  v0 v1 v2)) (fun y0 => K (.exit 0) (x54_0_0_k0  y0)) := (vst54_0_0 N (spec_IsTable N) (spec_SpectrumOf N) (spec_l2Count N) (spec_EnergyByLevel_l0 N) v0 v1 v2 rec_ K).trans (t_spec_EnergyByLevel_l0b N  v0 v1 v2 (fun v0 v1 v2 => rec_ (h54_0_0  v0 v1 v2)) (fun y0 => K (.exit 0) (x54_0_0_k0  y0))).symm
theorem ro54_0_0 {β : Type} (N : Nat)  (K : Exit → St → Option β) : ∀ (F : Nat) (v0 : Int) (v1 : List Int) (v2 : List Int), (lp Tryd.f54 0).rounds lay (E54 N) (retMask Tryd.f54) F (h54_0_0  v0 v1 v2) K = spec_EnergyByLevel_l0 N  F v0 v1 v2 (fun y0 => K (.exit 0) (x54_0_0_k0  y0)) := by
  intro F
  induction F with
  | zero => intros; rfl
  | succ F ih =>
    intros
    rw [rounds_next]
    refine (st54_0_0 N  _ _ _ (fun s => (lp Tryd.f54 0).rounds lay (E54 N) (retMask Tryd.f54) F s K) K).trans ?_
    simp only [ih]
    rfl
theorem lk54_0 {β : Type} (N : Nat) : lookL (E54 (β := β) N).loops (lp Tryd.f54 0).id = LS54_0 N := by kernel_rfl
theorem rk54_0 {β : Type} (N : Nat) : RoundsOK lay (E54 (β := β) N) (retMask Tryd.f54) (lp Tryd.f54 0) := by
  intro s K r h
  rw [lk54_0] at h
  unfold LS54_0 VLS54_0 at h
  cases hb : shpSt (h54_0_0 0 [] []) s with
  | true =>
    rw [hb, cond_true] at h
    exact ⟨N, by rw [← shpSt_ref hb, fl54_0_0 s]; exact (ro54_0_0 N  K N (intS (oneA (vT (nx tund s.tmps 5)))) (rInts (rowB_ (nx .dead s.blks 0))) (rInts (rowB_ (nx .dead s.blks 1)))).trans h⟩
  | false =>
  rw [hb, cond_false] at h
  clear hb
  cases h
def BV_spec_EnergyByLevel {β : Type} (N : Nat) (q_spec_IsTable : (a0 : Int) → (a1 : Int) → (k : Bool → Option β) → Option β) (q_spec_SpectrumOf : (a0 : Int) → (a1 : Int) → (k : List Int → Option β) → Option β) (q_spec_EnergyByLevel_l0 : Nat → Int → List Int → List Int → (List Int → Option β) → Option β) (a0 : Int) (a1 : Int) (k : List Int → Option β) : Option β :=
q_spec_IsTable a0 a1 fun r3 =>
(cond (!r3)
(k (([] : List Int)))
((gd ((decide (0 ≤ (w64 (a0 + 1)))))
((gd ((decide ((w64 (a0 + 1)) ≤ (w64 (a0 + 1)))))
((gd ((decide (8 * (w64 (a0 + 1)) ≤ 281474976710656)))
(q_spec_SpectrumOf a0 a1 fun r4 =>
q_spec_EnergyByLevel_l0  N 0 ((List.replicate (Int.toNat (w64 (a0 + 1))) (0 : Int))) r4 (fun e7_0 =>
k e7_0)))))))))
theorem t_spec_EnergyByLevel {β : Type} (N : Nat) (a0 : Int) (a1 : Int) (k : List Int → Option β) : spec_EnergyByLevel N a0 a1 k = BV_spec_EnergyByLevel N (spec_IsTable N) (spec_SpectrumOf N) (spec_EnergyByLevel_l0 N) a0 a1 k := by
  unfold spec_EnergyByLevel BV_spec_EnergyByLevel
  rfl
theorem ve54_0 {β : Type} (N : Nat) (q_spec_IsTable : (a0 : Int) → (a1 : Int) → (k : Bool → Option β) → Option β) (q_spec_SpectrumOf : (a0 : Int) → (a1 : Int) → (k : List Int → Option β) → Option β) (q_spec_l2Count : (a0 : Int) → (k : Int → Option β) → Option β) (q_spec_EnergyByLevel_l0 : Nat → Int → List Int → List Int → (List Int → Option β) → Option β)  (a0 : Int) (a1 : Int) (K : TV → Option β) : evFn lay (VE54 N q_spec_IsTable q_spec_SpectrumOf q_spec_l2Count q_spec_EnergyByLevel_l0) Tryd.f54 [.v (.agg [.int .i64 a0, .int .i64 a1])] K = BV_spec_EnergyByLevel N q_spec_IsTable q_spec_SpectrumOf q_spec_EnergyByLevel_l0 a0 a1 (fun z2 => K (.v (.one (.sl 3 (.ints .i64 z2))))) := by kernel_rfl
theorem e54_0 {β : Type} (N : Nat)  (a0 : Int) (a1 : Int) (K : TV → Option β) : evFn lay (E54 N) Tryd.f54 [.v (.agg [.int .i64 a0, .int .i64 a1])] K = spec_EnergyByLevel N a0 a1 (fun z2 => K (.v (.one (.sl 3 (.ints .i64 z2))))) := (ve54_0 N (spec_IsTable N) (spec_SpectrumOf N) (spec_l2Count N) (spec_EnergyByLevel_l0 N) a0 a1 K).trans (t_spec_EnergyByLevel N a0 a1 (fun z2 => K (.v (.one (.sl 3 (.ints .i64 z2)))))).symm
theorem o54 {β : Type} (N : Nat) : SpecOK (β := β) inv Tryd.prog 54 (S54 N) := by
  refine spec_of lay_ok mixed (E := E54 N) (specs_loops (specs_cons (o51 N) (specs_cons (o53 N) (specs_cons (o124 N) specs_nil)))) muts_nil gs_nil Tryd.func54 (by kernel_rfl) 1 (by kernel_rfl) ⟨trivial, rk54_0 N⟩ fun args K r h => ?_
  unfold S54 VS54 at h
  split at h
  · exact (e54_0 N _ _ _).trans h
  · cases h
def VS56 {β : Type} (N : Nat) (q_spec_Nonlinearity : (a0 : Int) → (a1 : Int) → (k : Int → Option β) → Option β) : Rv.Spec β := fun args K => match args with
  | [.v (.agg [.int .i64 a0, .int .i64 a1])] => q_spec_Nonlinearity a0 a1 (fun z2 => K (.v (.one (.int .i64 z2))))
  | _ => none
def S56 {β : Type} (N : Nat) : Rv.Spec β := VS56 N (spec_Nonlinearity N)
def h56_0_0  (v0 : Int) (v1 : Int) (v2 : List Int) : St := ⟨.v (.one .und) :: .v (.one .und) :: .v (.one .und) :: .v (.one (.row 0)) :: .v (.one (.int .i64 v0)) :: .v (.one (.int .i64 v1)) :: .v (.one .und) :: .v (.one .und) :: .v (.one .und) :: .v (.one .und) :: .v (.one .und) :: .v (.one .und) :: .v (.one .und) :: .v (.one .und) :: .v (.one .und) :: .v (.one .und) :: .v (.one .und) :: .v (.one .und) :: .v (.one .und) :: .v (.one .und) :: .v (.one .und) :: .v (.one .und) :: .v (.one .und) :: .v (.one .und) :: .v (.one .und) :: .v (.one .und) :: .v (.one .und) :: .v (.one .und) :: .v (.one .und) :: .v (.one .und) :: .v (.one .und) :: .v (.one .und) :: .v (.one .und) :: .v (.one .und) :: [], [.row 3 (.ints .i64 v2)]⟩
def x56_0_0_k0  (y0 : Int) (y1 : List Int) : St := ⟨.v (.one .und) :: .v (.one .und) :: .v (.one .und) :: .v (.one (.row 0)) :: .v (.one (.int .i64 y0)) :: .v (.one .und) :: .v (.one .und) :: .v (.one .und) :: .v (.one .und) :: .v (.one .und) :: .v (.one .und) :: .v (.one .und) :: .v (.one .und) :: .v (.one .und) :: .v (.one .und) :: .v (.one .und) :: .v (.one .und) :: .v (.one .und) :: .v (.one .und) :: .v (.one .und) :: .v (.one .und) :: .v (.one .und) :: .v (.one .und) :: .v (.one .und) :: .v (.one .und) :: .v (.one .und) :: .v (.one .und) :: .v (.one .und) :: .v (.one .und) :: .v (.one .und) :: .v (.one .und) :: .v (.one .und) :: .v (.one .und) :: .v (.one .und) :: [], [.row 3 (.ints .i64 y1)]⟩
theorem fl56_0_0 (s : St) : refSt (h56_0_0 0 0 []) s = h56_0_0 (intS (oneA (vT (nx tund s.tmps 4)))) (intS (oneA (vT (nx tund s.tmps 5)))) (rInts (rowB_ (nx .dead s.blks 0))) := by kernel_rfl
def VLS56_0 {β : Type} (N : Nat) (q_spec_Nonlinearity_l0 : Nat → Int → Int → List Int → (Int → List Int → Option β) → Option β) : LSpec β := fun s K => cond (shpSt (h56_0_0 0 0 []) s) ((fun (v0 : Int) (v1 : Int) (v2 : List Int) => q_spec_Nonlinearity_l0  N v0 v1 v2 (fun y0 y1 => K (.exit 0) (x56_0_0_k0  y0 y1))) (intS (oneA (vT (nx tund s.tmps 4)))) (intS (oneA (vT (nx tund s.tmps 5)))) (rInts (rowB_ (nx .dead s.blks 0)))) (none)
def LS56_0 {β : Type} (N : Nat) : LSpec β := VLS56_0 N (spec_Nonlinearity_l0 N)
def VE56 {β : Type} (N : Nat) (q_spec_SpectrumOf : (a0 : Int) → (a1 : Int) → (k : List Int → Option β) → Option β) (q_spec_Nonlinearity_l0 : Nat → Int → Int → List Int → (Int → List Int → Option β) → Option β) : Env β := ⟨[(53, VS53 N q_spec_SpectrumOf)], [], [(0, VLS56_0 N q_spec_Nonlinearity_l0)], [], ⟨[], [], []⟩⟩
def E56 {β : Type} (N : Nat) : Env β := VE56 N (spec_SpectrumOf N) (spec_Nonlinearity_l0 N)
def BV_spec_Nonlinearity_l0b {β : Type} (N : Nat)  (v0 : Int) (v1 : Int) (v2 : List Int) (rec_ : Int → Int → List Int → Option β) (k0 : Int → List Int → Option β) : Option β :=
(cond ((decide (v1 < (v2.length : Int))))
((gd ((decide (0 ≤ v1)))
((gd ((decide (v1 < (v2.length : Int))))
((gd ((decide (0 ≤ v1)))
((gd ((decide (v1 < (v2.length : Int))))
(rec_ ((mxI v0 (mxI (rd 0 v2 v1) (w64 (0 - (rd 0 v2 v1)))))) ((w64 (v1 + 1))) v2)))))))))
(k0 v0 v2))
theorem t_spec_Nonlinearity_l0b {β : Type} (N : Nat)  (v0 : Int) (v1 : Int) (v2 : List Int) (rec_ : Int → Int → List Int → Option β) (k0 : Int → List Int → Option β) : spec_Nonlinearity_l0b N v0 v1 v2 rec_ k0 = BV_spec_Nonlinearity_l0b N v0 v1 v2 rec_ k0 := by
  unfold spec_Nonlinearity_l0b BV_spec_Nonlinearity_l0b
  rfl
theorem vst56_0_0 {β : Type} (N : Nat) (q_spec_SpectrumOf : (a0 : Int) → (a1 : Int) → (k : List Int → Option β) → Option β) (q_spec_Nonlinearity_l0 : Nat → Int → Int → List Int → (Int → List Int → Option β) → Option β)  (v0 : Int) (v1 : Int) (v2 : List Int) (rec_ : St → Option β) (K : Exit → St → Option β) :
    ev lay (VE56 N q_spec_SpectrumOf q_spec_Nonlinearity_l0) (retMask Tryd.f56) (lp Tryd.f56 0).body (lp Tryd.f56 0).ex ((lp Tryd.f56 0).lv (retMask Tryd.f56)) (h56_0_0  v0 v1 v2) (nextR (fun s' => rec_ (s'.tidy ((lp Tryd.f56 0).lv (retMask Tryd.f56)))) K) = BV_spec_Nonlinearity_l0b N  v0 v1 v2 (fun v0 v1 v2 => rec_ (h56_0_0  v0 v1 v2)) (fun y0 y1 => K (.exit 0) (x56_0_0_k0  y0 y1)) := by kernel_rfl
theorem st56_0_0 {β : Type} (N : Nat)  (v0 : Int) (v1 : Int) (v2 : List Int) (rec_ : St → Option β) (K : Exit → St → Option β) :
    ev lay (E56 N) (retMask Tryd.f56) (lp Tryd.f56 0).body (lp Tryd.f56 0).ex ((lp Tryd.f56 0).lv (retMask Tryd.f56)) (h56_0_0  v0 v1 v2) (nextR (fun s' => rec_ (s'.tidy ((lp Tryd.f56 0).lv (retMask Tryd.f56)))) K) = spec_Nonlinearity_l0b N  v0 v1 v2 (fun v0 v1 v2 => rec_ (h56_0_0  v0 v1 v2)) (fun y0 y1 => K (.exit 0) (x56_0_0_k0  y0 y1)) := (vst56_0_0 N (spec_SpectrumOf N) (spec_Nonlinearity_l0 N) v0 v1 v2 rec_ K).trans (t_spec_Nonlinearity_l0b N  v0 v1 v2 (fun v0 v1 v2 => rec_ (h56_0_0  v0 v1 v2)) (fun y0 y1 => K (.exit 0) (x56_0_0_k0  y0 y1))).symm
theorem ro56_0_0 {β : Type} (N : Nat)  (K : Exit → St → Option β) : ∀ (F : Nat) (v0 : Int) (v1 : Int) (v2 : List Int), (lp Tryd.f56 0).rounds lay (E56 N) (retMask Tryd.f56) F (h56_0_0  v0 v1 v2) K = spec_Nonlinearity_l0 N  F v0 v1 v2 (fun y0 y1 => K (.exit 0) (x56_0_0_k0  y0 y1)) := by
  intro F
  induction F with
  | zero => intros; rfl
  | succ F ih =>
    intros
    rw [rounds_next]
    refine (st56_0_0 N  _ _ _ (fun s => (lp Tryd.f56 0).rounds lay (E56 N) (retMask Tryd.f56) F s K) K).trans ?_
    simp only [ih]
    rfl
theorem lk56_0 {β : Type} (N : Nat) : lookL (E56 (β := β) N).loops (lp Tryd.f56 0).id = LS56_0 N := by kernel_rfl
theorem rk56_0 {β : Type} (N : Nat) : RoundsOK lay (E56 (β := β) N) (retMask Tryd.f56) (lp Tryd.f56 0) := by
  intro s K r h
  rw [lk56_0] at h
  unfold LS56_0 VLS56_0 at h
  cases hb : shpSt (h56_0_0 0 0 []) s with
  | true =>
    rw [hb, cond_true] at h
    exact ⟨N, by rw [← shpSt_ref hb, fl56_0_0 s]; exact (ro56_0_0 N  K N (intS (oneA (vT (nx tund s.tmps 4)))) (intS (oneA (vT (nx tund s.tmps 5)))) (rInts (rowB_ (nx .dead s.blks 0)))).trans h⟩
  | false =>
  rw [hb, cond_false] at h
  clear hb
  cases h
def BV_spec_Nonlinearity {β : Type} (N : Nat) (q_spec_SpectrumOf : (a0 : Int) → (a1 : Int) → (k : List Int → Option β) → Option β) (q_spec_Nonlinearity_l0 : Nat → Int → Int → List Int → (Int → List Int → Option β) → Option β) (a0 : Int) (a1 : Int) (k : Int → Option β) : Option β :=
q_spec_SpectrumOf a0 a1 fun r3 =>
(cond (((r3.length : Int) == 0))
(k (-1))
(q_spec_Nonlinearity_l0  N 0 0 r3 (fun e4_0 e4_1 =>
k ((quoI .i64 (w64 ((e4_1.length : Int) - e4_0)) 2)))))
theorem t_spec_Nonlinearity {β : Type} (N : Nat) (a0 : Int) (a1 : Int) (k : Int → Option β) : spec_Nonlinearity N a0 a1 k = BV_spec_Nonlinearity N (spec_SpectrumOf N) (spec_Nonlinearity_l0 N) a0 a1 k := by
  unfold spec_Nonlinearity BV_spec_Nonlinearity
  rfl
theorem ve56_0 {β : Type} (N : Nat) (q_spec_SpectrumOf : (a0 : Int) → (a1 : Int) → (k : List Int → Option β) → Option β) (q_spec_Nonlinearity_l0 : Nat → Int → Int → List Int → (Int → List Int → Option β) → Option β)  (a0 : Int) (a1 : Int) (K : TV → Option β) : evFn lay (VE56 N q_spec_SpectrumOf q_spec_Nonlinearity_l0) Tryd.f56 [.v (.agg [.int .i64 a0, .int .i64 a1])] K = BV_spec_Nonlinearity N q_spec_SpectrumOf q_spec_Nonlinearity_l0 a0 a1 (fun z2 => K (.v (.one (.int .i64 z2)))) := by kernel_rfl
theorem e56_0 {β : Type} (N : Nat)  (a0 : Int) (a1 : Int) (K : TV → Option β) : evFn lay (E56 N) Tryd.f56 [.v (.agg [.int .i64 a0, .int .i64 a1])] K = spec_Nonlinearity N a0 a1 (fun z2 => K (.v (.one (.int .i64 z2)))) := (ve56_0 N (spec_SpectrumOf N) (spec_Nonlinearity_l0 N) a0 a1 K).trans (t_spec_Nonlinearity N a0 a1 (fun z2 => K (.v (.one (.int .i64 z2))))).symm
theorem o56 {β : Type} (N : Nat) : SpecOK (β := β) inv Tryd.prog 56 (S56 N) := by
  refine spec_of lay_ok mixed (E := E56 N) (specs_loops (specs_cons (o53 N) specs_nil)) muts_nil gs_nil Tryd.func56 (by kernel_rfl) 1 (by kernel_rfl) ⟨trivial, rk56_0 N⟩ fun args K r h => ?_
  unfold S56 VS56 at h
  split at h
  · exact (e56_0 N _ _ _).trans h
  · cases h
end Go.Proofs.YtfdggelojmofmaaDoor
