/- The functions that the claims reach answer as their texts do. -/
import Derived.Test.YtdkjnadhgdneaaaT0
import Derived.Test.YtdkjnadhgdneaaaProg
import Derived.KernelRfl
namespace Go.Proofs.Ytdkjnadhgdneaaa
open Go.Rv
set_option maxRecDepth 100000
set_option maxHeartbeats 2000000
set_option linter.unusedVariables false
def lay : Lay := [(2, .int .i64),
  (3, .int .i64),
  (4, .bool),
  (5, .int .u8),
  (9, .string),
  (12, .int .u64),
  (21, .int .i32),
  (22, .slice 5),
  (24, .struct [⟨0, 1, false⟩, ⟨1, 1, false⟩] [3, 3] 16 true),
  (25, .struct [⟨0, 1, false⟩, ⟨1, 1, false⟩] [3, 3] 16 true),
  (26, .slice 3),
  (27, .struct [⟨0, 2, true⟩, ⟨2, 1, false⟩, ⟨3, 1, false⟩] [3, 3, 3, 26] 48 false),
  (28, .struct [⟨0, 2, true⟩, ⟨2, 1, false⟩, ⟨3, 1, false⟩] [3, 3, 3, 26] 48 false),
  (62, .struct [⟨0, 1, false⟩, ⟨1, 1, false⟩] [3, 3] 16 true),
  (69, .pointer 96),
  (95, .struct [⟨0, 1, false⟩, ⟨1, 1, false⟩, ⟨2, 1, false⟩] [22, 3, 3] 40 false),
  (96, .struct [⟨0, 1, false⟩, ⟨1, 1, false⟩, ⟨2, 1, false⟩] [22, 3, 3] 40 false),
  (100, .int .u64),
  (102, .int .u64),
  (108, .pointer 117),
  (111, .struct [⟨0, 1, false⟩, ⟨1, 1, false⟩] [3, 3] 16 true),
  (112, .struct [⟨0, 1, false⟩, ⟨1, 1, false⟩] [3, 3] 16 true),
  (115, .map 112 3),
  (116, .struct [⟨0, 2, true⟩, ⟨2, 1, false⟩, ⟨3, 1, false⟩] [3, 3, 115, 115] 32 false),
  (117, .struct [⟨0, 2, true⟩, ⟨2, 1, false⟩, ⟨3, 1, false⟩] [3, 3, 115, 115] 32 false),
  (120, .array 2 4),
  (127, .int .u32),
  (131, .pointer 5)]

theorem lay_ok : LayOK Try.prog lay := layOK_of (by decide +kernel)
theorem mixed : Try.prog.follows .mixedOrders = true := by kernel_rfl
def VS8 {β : Type} (N : Nat) (q_laws_big : (a0 : List Int) → (k : Bool → Option β) → Option β) : Rv.Spec β := fun args K => match args with
  | [.v (.one (.sl 5 (.ints .u8 a0)))] => q_laws_big a0 (fun z1 => K (.v (.one (.bool z1))))
  | _ => none
def S8 {β : Type} (N : Nat) : Rv.Spec β := VS8 N (laws_big N)
def VE8 {β : Type} (N : Nat) : Env β := ⟨[], [], [], []⟩
def E8 {β : Type} (N : Nat) : Env β := VE8 N
def BV_laws_big {β : Type} (N : Nat) (a0 : List Int) (k : Bool → Option β) : Option β :=
k ((decide ((a0.length : Int) > 1048576)))
theorem t_laws_big {β : Type} (N : Nat) (a0 : List Int) (k : Bool → Option β) : laws_big N a0 k = BV_laws_big N a0 k := by
  unfold laws_big BV_laws_big
  rfl
theorem ve8_0 {β : Type} (N : Nat)  (a0 : List Int) (K : TV → Option β) : evFn lay (VE8 N) Try.f8 [.v (.one (.sl 5 (.ints .u8 a0)))] K = BV_laws_big N a0 (fun z1 => K (.v (.one (.bool z1)))) := by kernel_rfl
theorem e8_0 {β : Type} (N : Nat)  (a0 : List Int) (K : TV → Option β) : evFn lay (E8 N) Try.f8 [.v (.one (.sl 5 (.ints .u8 a0)))] K = laws_big N a0 (fun z1 => K (.v (.one (.bool z1)))) := (ve8_0 N a0 K).trans (t_laws_big N a0 (fun z1 => K (.v (.one (.bool z1))))).symm
theorem o8 {β : Type} (N : Nat) : SpecOK (β := β) Try.prog 8 (S8 N) := by
  refine spec_of lay_ok mixed (E := E8 N) (specs_loops specs_nil) muts_nil gs_nil Try.func8 (by kernel_rfl) 0 (by kernel_rfl) trivial fun args K r h => ?_
  unfold S8 VS8 at h
  split at h
  · exact (e8_0 N _ _).trans h
  · cases h
def VS55 {β : Type} (N : Nat) (q_spec_l1New_g0 : (a0 : List Int) → (k0 : List Int → Int → Int → Option β) → Option β) : GSpec β := fun args bl K => match args, bl with
  | [.v (.one (.sl 5 (.ints .u8 a0)))], [] => q_spec_l1New_g0 a0 (fun y0 y1 y2 => K (.v (.one (.ptr 0 0))) [.cells 96 [.sl 5 (.ints .u8 y0), .int .i64 y1, .int .i64 y2]])
  | _, _ => none
def S55 {β : Type} (N : Nat) : GSpec β := VS55 N (spec_l1New_g0 N)
def h55_0_0  (v0 : List Int) (v1 : Int) (v2 : Int) : St := ⟨.v (.one (.sl 5 (.ints .u8 v0))) :: .v (.one .und) :: .v (.one .und) :: .v (.one (.int .i64 v1)) :: .v (.one (.int .i64 v2)) :: .v (.one .und) :: .v (.one .und) :: .v (.one .und) :: .v (.one .und) :: .v (.one .und) :: .v (.one .und) :: .v (.one .und) :: .v (.one .und) :: .v (.one .und) :: .v (.one .und) :: .v (.one .und) :: .v (.one .und) :: .v (.one .und) :: .v (.one .und) :: .v (.one .und) :: .v (.one .und) :: .v (.one .und) :: .v (.one .und) :: .v (.one .und) :: .v (.one .und) :: .v (.one .und) :: .v (.one .und) :: .v (.one .und) :: .v (.one .und) :: .v (.one .und) :: .v (.one .und) :: .v (.one .und) :: [], []⟩
def x55_0_0_k0  (y0 : List Int) (y1 : Int) : St := ⟨.v (.one (.sl 5 (.ints .u8 y0))) :: .v (.one .und) :: .v (.one .und) :: .v (.one (.int .i64 y1)) :: .v (.one .und) :: .v (.one .und) :: .v (.one .und) :: .v (.one .und) :: .v (.one .und) :: .v (.one .und) :: .v (.one .und) :: .v (.one .und) :: .v (.one .und) :: .v (.one .und) :: .v (.one .und) :: .v (.one .und) :: .v (.one .und) :: .v (.one .und) :: .v (.one .und) :: .v (.one .und) :: .v (.one .und) :: .v (.one .und) :: .v (.one .und) :: .v (.one .und) :: .v (.one .und) :: .v (.one .und) :: .v (.one .und) :: .v (.one .und) :: .v (.one .und) :: .v (.one .und) :: .v (.one .und) :: .v (.one .und) :: [], []⟩
theorem fl55_0_0 (s : St) : refSt (h55_0_0 [] 0 0) s = h55_0_0 (rInts (rowV (oneA (vT (nx tund s.tmps 0))))) (intS (oneA (vT (nx tund s.tmps 3)))) (intS (oneA (vT (nx tund s.tmps 4)))) := by kernel_rfl
def VLS55_0 {β : Type} (N : Nat) (q_spec_l1New_l0 : Nat → List Int → Int → Int → (List Int → Int → Option β) → Option β) : LSpec β := fun s K => cond (shpSt (h55_0_0 [] 0 0) s) ((fun (v0 : List Int) (v1 : Int) (v2 : Int) => q_spec_l1New_l0  N v0 v1 v2 (fun y0 y1 => K (.exit 0) (x55_0_0_k0  y0 y1))) (rInts (rowV (oneA (vT (nx tund s.tmps 0))))) (intS (oneA (vT (nx tund s.tmps 3)))) (intS (oneA (vT (nx tund s.tmps 4))))) (none)
def LS55_0 {β : Type} (N : Nat) : LSpec β := VLS55_0 N (spec_l1New_l0 N)
def VE55 {β : Type} (N : Nat) (q_spec_l1New_l0 : Nat → List Int → Int → Int → (List Int → Int → Option β) → Option β) : Env β := ⟨[], [], [(0, VLS55_0 N q_spec_l1New_l0)], []⟩
def E55 {β : Type} (N : Nat) : Env β := VE55 N (spec_l1New_l0 N)
def BV_spec_l1New_l0b {β : Type} (N : Nat)  (v0 : List Int) (v1 : Int) (v2 : Int) (rec_ : List Int → Int → Int → Option β) (k0 : List Int → Int → Option β) : Option β :=
(cond ((decide (v2 < (v0.length : Int))))
((cond ((decide (v2 < 4000)))
((gd ((decide (0 ≤ v2)))
((gd ((decide (v2 < (v0.length : Int))))
(rec_ v0 ((bits .and .i64 (w64 ((w64 ((w64 (v1 * 131)) + (w64 ((rd 0 v0 v2))))) + 7)) 1073741823)) ((w64 (v2 + 1))))))))
(k0 v0 v1)))
(k0 v0 v1))
theorem t_spec_l1New_l0b {β : Type} (N : Nat)  (v0 : List Int) (v1 : Int) (v2 : Int) (rec_ : List Int → Int → Int → Option β) (k0 : List Int → Int → Option β) : spec_l1New_l0b N v0 v1 v2 rec_ k0 = BV_spec_l1New_l0b N v0 v1 v2 rec_ k0 := by
  unfold spec_l1New_l0b BV_spec_l1New_l0b
  rfl
theorem vst55_0_0 {β : Type} (N : Nat) (q_spec_l1New_l0 : Nat → List Int → Int → Int → (List Int → Int → Option β) → Option β)  (v0 : List Int) (v1 : Int) (v2 : Int) (rec_ : St → Option β) (K : Exit → St → Option β) :
    ev lay (VE55 N q_spec_l1New_l0) (retMask Try.f55) (lp Try.f55 0).body (lp Try.f55 0).ex ((lp Try.f55 0).lv (retMask Try.f55)) (h55_0_0  v0 v1 v2) (nextR (fun s' => rec_ (s'.tidy ((lp Try.f55 0).lv (retMask Try.f55)))) K) = BV_spec_l1New_l0b N  v0 v1 v2 (fun v0 v1 v2 => rec_ (h55_0_0  v0 v1 v2)) (fun y0 y1 => K (.exit 0) (x55_0_0_k0  y0 y1)) := by kernel_rfl
theorem st55_0_0 {β : Type} (N : Nat)  (v0 : List Int) (v1 : Int) (v2 : Int) (rec_ : St → Option β) (K : Exit → St → Option β) :
    ev lay (E55 N) (retMask Try.f55) (lp Try.f55 0).body (lp Try.f55 0).ex ((lp Try.f55 0).lv (retMask Try.f55)) (h55_0_0  v0 v1 v2) (nextR (fun s' => rec_ (s'.tidy ((lp Try.f55 0).lv (retMask Try.f55)))) K) = spec_l1New_l0b N  v0 v1 v2 (fun v0 v1 v2 => rec_ (h55_0_0  v0 v1 v2)) (fun y0 y1 => K (.exit 0) (x55_0_0_k0  y0 y1)) := (vst55_0_0 N (spec_l1New_l0 N) v0 v1 v2 rec_ K).trans (t_spec_l1New_l0b N  v0 v1 v2 (fun v0 v1 v2 => rec_ (h55_0_0  v0 v1 v2)) (fun y0 y1 => K (.exit 0) (x55_0_0_k0  y0 y1))).symm
theorem ro55_0_0 {β : Type} (N : Nat)  (K : Exit → St → Option β) : ∀ (F : Nat) (v0 : List Int) (v1 : Int) (v2 : Int), (lp Try.f55 0).rounds lay (E55 N) (retMask Try.f55) F (h55_0_0  v0 v1 v2) K = spec_l1New_l0 N  F v0 v1 v2 (fun y0 y1 => K (.exit 0) (x55_0_0_k0  y0 y1)) := by
  intro F
  induction F with
  | zero => intros; rfl
  | succ F ih =>
    intros
    rw [rounds_next]
    refine (st55_0_0 N  _ _ _ (fun s => (lp Try.f55 0).rounds lay (E55 N) (retMask Try.f55) F s K) K).trans ?_
    simp only [ih]
    rfl
theorem lk55_0 {β : Type} (N : Nat) : lookL (E55 (β := β) N).loops (lp Try.f55 0).id = LS55_0 N := by kernel_rfl
theorem rk55_0 {β : Type} (N : Nat) : RoundsOK lay (E55 (β := β) N) (retMask Try.f55) (lp Try.f55 0) := by
  intro s K r h
  rw [lk55_0] at h
  unfold LS55_0 VLS55_0 at h
  cases hb : shpSt (h55_0_0 [] 0 0) s with
  | true =>
    rw [hb, cond_true] at h
    exact ⟨N, by rw [← shpSt_ref hb, fl55_0_0 s]; exact (ro55_0_0 N  K N (rInts (rowV (oneA (vT (nx tund s.tmps 0))))) (intS (oneA (vT (nx tund s.tmps 3)))) (intS (oneA (vT (nx tund s.tmps 4))))).trans h⟩
  | false =>
  rw [hb, cond_false] at h
  clear hb
  cases h
def BV_spec_l1New_g0 {β : Type} (N : Nat) (q_spec_l1New_l0 : Nat → List Int → Int → Int → (List Int → Int → Option β) → Option β) (a0 : List Int) (k0 : List Int → Int → Int → Option β) : Option β :=
q_spec_l1New_l0  N a0 ((w64 (10101 + (a0.length : Int)))) 0 (fun e64_0 e64_1 =>
k0 e64_0 0 e64_1)
theorem t_spec_l1New_g0 {β : Type} (N : Nat) (a0 : List Int) (k0 : List Int → Int → Int → Option β) : spec_l1New_g0 N a0 k0 = BV_spec_l1New_g0 N (spec_l1New_l0 N) a0 k0 := by
  unfold spec_l1New_g0 BV_spec_l1New_g0
  rfl
theorem ve55_0 {β : Type} (N : Nat) (q_spec_l1New_l0 : Nat → List Int → Int → Int → (List Int → Int → Option β) → Option β) (a0 : List Int) (K : TV → List Blk → Option β) : evFnG lay (VE55 N q_spec_l1New_l0) Try.f55 [.v (.one (.sl 5 (.ints .u8 a0)))] [] K = BV_spec_l1New_g0 N q_spec_l1New_l0 a0 (fun y0 y1 y2 => K (.v (.one (.ptr 0 0))) [.cells 96 [.sl 5 (.ints .u8 y0), .int .i64 y1, .int .i64 y2]]) := by kernel_rfl
theorem e55_0 {β : Type} (N : Nat) (a0 : List Int) (K : TV → List Blk → Option β) : evFnG lay (E55 N) Try.f55 [.v (.one (.sl 5 (.ints .u8 a0)))] [] K = spec_l1New_g0 N a0 (fun y0 y1 y2 => K (.v (.one (.ptr 0 0))) [.cells 96 [.sl 5 (.ints .u8 y0), .int .i64 y1, .int .i64 y2]]) := (ve55_0 N (spec_l1New_l0 N) a0 K).trans (t_spec_l1New_g0 N a0 (fun y0 y1 y2 => K (.v (.one (.ptr 0 0))) [.cells 96 [.sl 5 (.ints .u8 y0), .int .i64 y1, .int .i64 y2]])).symm
theorem o55 {β : Type} (N : Nat) : GOK (β := β) Try.prog 55 (S55 N) := by
  refine g_of lay_ok mixed (E := E55 N) (specs_loops specs_nil) muts_nil gs_nil Try.func55 (by kernel_rfl) 1 (by kernel_rfl) ⟨trivial, rk55_0 N⟩ fun args bl K r h => ?_
  unfold S55 VS55 at h
  split at h
  · exact (e55_0 N _ _).trans h
  · cases h
def VS93 {β : Type} (N : Nat) (q_spec_l1In : (a0 : Int) → (a1 : Int) → (a2 : Int) → (k : Bool → Option β) → Option β) : Rv.Spec β := fun args K => match args with
  | [.v (.one (.int .i64 a0)), .v (.one (.int .i64 a1)), .v (.one (.int .i64 a2))] => q_spec_l1In a0 a1 a2 (fun z3 => K (.v (.one (.bool z3))))
  | _ => none
def S93 {β : Type} (N : Nat) : Rv.Spec β := VS93 N (spec_l1In N)
def VE93 {β : Type} (N : Nat) : Env β := ⟨[], [], [], []⟩
def E93 {β : Type} (N : Nat) : Env β := VE93 N
def BV_spec_l1In {β : Type} (N : Nat) (a0 : Int) (a1 : Int) (a2 : Int) (k : Bool → Option β) : Option β :=
(cond ((decide (a0 ≥ a1)))
(k ((decide (a0 ≤ a2))))
(k false))
theorem t_spec_l1In {β : Type} (N : Nat) (a0 : Int) (a1 : Int) (a2 : Int) (k : Bool → Option β) : spec_l1In N a0 a1 a2 k = BV_spec_l1In N a0 a1 a2 k := by
  unfold spec_l1In BV_spec_l1In
  rfl
theorem ve93_0 {β : Type} (N : Nat)  (a0 : Int) (a1 : Int) (a2 : Int) (K : TV → Option β) : evFn lay (VE93 N) Try.f93 [.v (.one (.int .i64 a0)), .v (.one (.int .i64 a1)), .v (.one (.int .i64 a2))] K = BV_spec_l1In N a0 a1 a2 (fun z3 => K (.v (.one (.bool z3)))) := by kernel_rfl
theorem e93_0 {β : Type} (N : Nat)  (a0 : Int) (a1 : Int) (a2 : Int) (K : TV → Option β) : evFn lay (E93 N) Try.f93 [.v (.one (.int .i64 a0)), .v (.one (.int .i64 a1)), .v (.one (.int .i64 a2))] K = spec_l1In N a0 a1 a2 (fun z3 => K (.v (.one (.bool z3)))) := (ve93_0 N a0 a1 a2 K).trans (t_spec_l1In N a0 a1 a2 (fun z3 => K (.v (.one (.bool z3))))).symm
theorem o93 {β : Type} (N : Nat) : SpecOK (β := β) Try.prog 93 (S93 N) := by
  refine spec_of lay_ok mixed (E := E93 N) (specs_loops specs_nil) muts_nil gs_nil Try.func93 (by kernel_rfl) 0 (by kernel_rfl) trivial fun args K r h => ?_
  unfold S93 VS93 at h
  split at h
  · exact (e93_0 N _ _ _ _).trans h
  · cases h
def VS69 {β : Type} (N : Nat) (q_spec_IsTable : (a0 : Int) → (a1 : Int) → (k : Bool → Option β) → Option β) : Rv.Spec β := fun args K => match args with
  | [.v (.agg [.int .i64 a0, .int .i64 a1])] => q_spec_IsTable a0 a1 (fun z2 => K (.v (.one (.bool z2))))
  | _ => none
def S69 {β : Type} (N : Nat) : Rv.Spec β := VS69 N (spec_IsTable N)
def VE69 {β : Type} (N : Nat) (q_spec_l1In : (a0 : Int) → (a1 : Int) → (a2 : Int) → (k : Bool → Option β) → Option β) : Env β := ⟨[(93, VS93 N q_spec_l1In)], [], [], []⟩
def E69 {β : Type} (N : Nat) : Env β := VE69 N (spec_l1In N)
def BV_spec_IsTable {β : Type} (N : Nat) (q_spec_l1In : (a0 : Int) → (a1 : Int) → (a2 : Int) → (k : Bool → Option β) → Option β) (a0 : Int) (a1 : Int) (k : Bool → Option β) : Option β :=
q_spec_l1In a0 0 5 fun r3 =>
(cond r3
((gd ((decide (0 ≤ a0)))
((gd ((decide (0 ≤ (shlI .u64 1 a0))))
(q_spec_l1In a1 0 ((w64 ((shlI .i64 1 (shlI .u64 1 a0)) - 1))) fun r4 =>
k r4)))))
(k false))
theorem t_spec_IsTable {β : Type} (N : Nat) (a0 : Int) (a1 : Int) (k : Bool → Option β) : spec_IsTable N a0 a1 k = BV_spec_IsTable N (spec_l1In N) a0 a1 k := by
  unfold spec_IsTable BV_spec_IsTable
  rfl
theorem ve69_0 {β : Type} (N : Nat) (q_spec_l1In : (a0 : Int) → (a1 : Int) → (a2 : Int) → (k : Bool → Option β) → Option β)  (a0 : Int) (a1 : Int) (K : TV → Option β) : evFn lay (VE69 N q_spec_l1In) Try.f69 [.v (.agg [.int .i64 a0, .int .i64 a1])] K = BV_spec_IsTable N q_spec_l1In a0 a1 (fun z2 => K (.v (.one (.bool z2)))) := by kernel_rfl
theorem e69_0 {β : Type} (N : Nat)  (a0 : Int) (a1 : Int) (K : TV → Option β) : evFn lay (E69 N) Try.f69 [.v (.agg [.int .i64 a0, .int .i64 a1])] K = spec_IsTable N a0 a1 (fun z2 => K (.v (.one (.bool z2)))) := (ve69_0 N (spec_l1In N) a0 a1 K).trans (t_spec_IsTable N a0 a1 (fun z2 => K (.v (.one (.bool z2))))).symm
theorem o69 {β : Type} (N : Nat) : SpecOK (β := β) Try.prog 69 (S69 N) := by
  refine spec_of lay_ok mixed (E := E69 N) (specs_loops (specs_cons (o93 N) specs_nil)) muts_nil gs_nil Try.func69 (by kernel_rfl) 0 (by kernel_rfl) trivial fun args K r h => ?_
  unfold S69 VS69 at h
  split at h
  · exact (e69_0 N _ _ _).trans h
  · cases h
def VS70 {β : Type} (N : Nat) (q_spec_l2Count : (a0 : Int) → (k : Int → Option β) → Option β) : Rv.Spec β := fun args K => match args with
  | [.v (.one (.int .i64 a0))] => q_spec_l2Count a0 (fun z1 => K (.v (.one (.int .i64 z1))))
  | _ => none
def S70 {β : Type} (N : Nat) : Rv.Spec β := VS70 N (spec_l2Count N)
def h70_0_0  (v0 : Int) (v1 : Int) : St := ⟨.v (.one .und) :: .v (.one .und) :: .v (.one .und) :: .v (.one (.int .i64 v0)) :: .v (.one (.int .i64 v1)) :: .v (.one .und) :: .v (.one .und) :: .v (.one .und) :: .v (.one .und) :: .v (.one .und) :: .v (.one .und) :: .v (.one .und) :: .v (.one .und) :: .v (.one .und) :: .v (.one .und) :: [], []⟩
def x70_0_0_k0  (y0 : Int) : St := ⟨.v (.one .und) :: .v (.one .und) :: .v (.one .und) :: .v (.one (.int .i64 y0)) :: .v (.one .und) :: .v (.one .und) :: .v (.one .und) :: .v (.one .und) :: .v (.one .und) :: .v (.one .und) :: .v (.one .und) :: .v (.one .und) :: .v (.one .und) :: .v (.one .und) :: .v (.one .und) :: [], []⟩
theorem fl70_0_0 (s : St) : refSt (h70_0_0 0 0) s = h70_0_0 (intS (oneA (vT (nx tund s.tmps 3)))) (intS (oneA (vT (nx tund s.tmps 4)))) := by kernel_rfl
def VLS70_0 {β : Type} (N : Nat) (q_spec_l2Count_l0 : Nat → Int → Int → (Int → Option β) → Option β) : LSpec β := fun s K => cond (shpSt (h70_0_0 0 0) s) ((fun (v0 : Int) (v1 : Int) => q_spec_l2Count_l0  N v0 v1 (fun y0 => K (.exit 0) (x70_0_0_k0  y0))) (intS (oneA (vT (nx tund s.tmps 3)))) (intS (oneA (vT (nx tund s.tmps 4))))) (none)
def LS70_0 {β : Type} (N : Nat) : LSpec β := VLS70_0 N (spec_l2Count_l0 N)
def VE70 {β : Type} (N : Nat) (q_spec_l2Count_l0 : Nat → Int → Int → (Int → Option β) → Option β) : Env β := ⟨[], [], [(0, VLS70_0 N q_spec_l2Count_l0)], []⟩
def E70 {β : Type} (N : Nat) : Env β := VE70 N (spec_l2Count_l0 N)
def BV_spec_l2Count_l0b {β : Type} (N : Nat)  (v0 : Int) (v1 : Int) (rec_ : Int → Int → Option β) (k0 : Int → Option β) : Option β :=
(cond ((decide (v1 > 0)))
(rec_ ((w64 (v0 + (bits .and .i64 v1 1)))) ((shrI .i64 v1 1)))
(k0 v0))
theorem t_spec_l2Count_l0b {β : Type} (N : Nat)  (v0 : Int) (v1 : Int) (rec_ : Int → Int → Option β) (k0 : Int → Option β) : spec_l2Count_l0b N v0 v1 rec_ k0 = BV_spec_l2Count_l0b N v0 v1 rec_ k0 := by
  unfold spec_l2Count_l0b BV_spec_l2Count_l0b
  rfl
theorem vst70_0_0 {β : Type} (N : Nat) (q_spec_l2Count_l0 : Nat → Int → Int → (Int → Option β) → Option β)  (v0 : Int) (v1 : Int) (rec_ : St → Option β) (K : Exit → St → Option β) :
    ev lay (VE70 N q_spec_l2Count_l0) (retMask Try.f70) (lp Try.f70 0).body (lp Try.f70 0).ex ((lp Try.f70 0).lv (retMask Try.f70)) (h70_0_0  v0 v1) (nextR (fun s' => rec_ (s'.tidy ((lp Try.f70 0).lv (retMask Try.f70)))) K) = BV_spec_l2Count_l0b N  v0 v1 (fun v0 v1 => rec_ (h70_0_0  v0 v1)) (fun y0 => K (.exit 0) (x70_0_0_k0  y0)) := by kernel_rfl
theorem st70_0_0 {β : Type} (N : Nat)  (v0 : Int) (v1 : Int) (rec_ : St → Option β) (K : Exit → St → Option β) :
    ev lay (E70 N) (retMask Try.f70) (lp Try.f70 0).body (lp Try.f70 0).ex ((lp Try.f70 0).lv (retMask Try.f70)) (h70_0_0  v0 v1) (nextR (fun s' => rec_ (s'.tidy ((lp Try.f70 0).lv (retMask Try.f70)))) K) = spec_l2Count_l0b N  v0 v1 (fun v0 v1 => rec_ (h70_0_0  v0 v1)) (fun y0 => K (.exit 0) (x70_0_0_k0  y0)) := (vst70_0_0 N (spec_l2Count_l0 N) v0 v1 rec_ K).trans (t_spec_l2Count_l0b N  v0 v1 (fun v0 v1 => rec_ (h70_0_0  v0 v1)) (fun y0 => K (.exit 0) (x70_0_0_k0  y0))).symm
theorem ro70_0_0 {β : Type} (N : Nat)  (K : Exit → St → Option β) : ∀ (F : Nat) (v0 : Int) (v1 : Int), (lp Try.f70 0).rounds lay (E70 N) (retMask Try.f70) F (h70_0_0  v0 v1) K = spec_l2Count_l0 N  F v0 v1 (fun y0 => K (.exit 0) (x70_0_0_k0  y0)) := by
  intro F
  induction F with
  | zero => intros; rfl
  | succ F ih =>
    intros
    rw [rounds_next]
    refine (st70_0_0 N  _ _ (fun s => (lp Try.f70 0).rounds lay (E70 N) (retMask Try.f70) F s K) K).trans ?_
    simp only [ih]
    rfl
theorem lk70_0 {β : Type} (N : Nat) : lookL (E70 (β := β) N).loops (lp Try.f70 0).id = LS70_0 N := by kernel_rfl
theorem rk70_0 {β : Type} (N : Nat) : RoundsOK lay (E70 (β := β) N) (retMask Try.f70) (lp Try.f70 0) := by
  intro s K r h
  rw [lk70_0] at h
  unfold LS70_0 VLS70_0 at h
  cases hb : shpSt (h70_0_0 0 0) s with
  | true =>
    rw [hb, cond_true] at h
    exact ⟨N, by rw [← shpSt_ref hb, fl70_0_0 s]; exact (ro70_0_0 N  K N (intS (oneA (vT (nx tund s.tmps 3)))) (intS (oneA (vT (nx tund s.tmps 4))))).trans h⟩
  | false =>
  rw [hb, cond_false] at h
  clear hb
  cases h
def BV_spec_l2Count {β : Type} (N : Nat) (q_spec_l2Count_l0 : Nat → Int → Int → (Int → Option β) → Option β) (a0 : Int) (k : Int → Option β) : Option β :=
q_spec_l2Count_l0  N 0 a0 (fun e2_0 =>
k e2_0)
theorem t_spec_l2Count {β : Type} (N : Nat) (a0 : Int) (k : Int → Option β) : spec_l2Count N a0 k = BV_spec_l2Count N (spec_l2Count_l0 N) a0 k := by
  unfold spec_l2Count BV_spec_l2Count
  rfl
theorem ve70_0 {β : Type} (N : Nat) (q_spec_l2Count_l0 : Nat → Int → Int → (Int → Option β) → Option β)  (a0 : Int) (K : TV → Option β) : evFn lay (VE70 N q_spec_l2Count_l0) Try.f70 [.v (.one (.int .i64 a0))] K = BV_spec_l2Count N q_spec_l2Count_l0 a0 (fun z1 => K (.v (.one (.int .i64 z1)))) := by kernel_rfl
theorem e70_0 {β : Type} (N : Nat)  (a0 : Int) (K : TV → Option β) : evFn lay (E70 N) Try.f70 [.v (.one (.int .i64 a0))] K = spec_l2Count N a0 (fun z1 => K (.v (.one (.int .i64 z1)))) := (ve70_0 N (spec_l2Count_l0 N) a0 K).trans (t_spec_l2Count N a0 (fun z1 => K (.v (.one (.int .i64 z1))))).symm
theorem o70 {β : Type} (N : Nat) : SpecOK (β := β) Try.prog 70 (S70 N) := by
  refine spec_of lay_ok mixed (E := E70 N) (specs_loops specs_nil) muts_nil gs_nil Try.func70 (by kernel_rfl) 1 (by kernel_rfl) ⟨trivial, rk70_0 N⟩ fun args K r h => ?_
  unfold S70 VS70 at h
  split at h
  · exact (e70_0 N _ _).trans h
  · cases h
def VS71 {β : Type} (N : Nat) (q_spec_InfluenceOf : (a0 : Int) → (a1 : Int) → (a2 : Int) → (k : Int → Option β) → Option β) : Rv.Spec β := fun args K => match args with
  | [.v (.agg [.int .i64 a0, .int .i64 a1]), .v (.one (.int .i64 a2))] => q_spec_InfluenceOf a0 a1 a2 (fun z3 => K (.v (.one (.int .i64 z3))))
  | _ => none
def S71 {β : Type} (N : Nat) : Rv.Spec β := VS71 N (spec_InfluenceOf N)
def h71_0_0  (v0 : Int) (v1 : Int) (v2 : Int) (v3 : Int) (v4 : Int) : St := ⟨.v (.one .und) :: .v (.one (.int .i64 v0)) :: .v (.one (.ptr 0 0)) :: .v (.one .und) :: .v (.one .und) :: .v (.one (.int .i64 v1)) :: .v (.one (.int .i64 v2)) :: .v (.one .und) :: .v (.one .und) :: .v (.one .und) :: .v (.one .und) :: .v (.one .und) :: .v (.one .und) :: .v (.one .und) :: .v (.one .und) :: .v (.one .und) :: .v (.one .und) :: .v (.one .und) :: .v (.one .und) :: .v (.one .und) :: .v (.one .und) :: .v (.one .und) :: .v (.one .und) :: .v (.one .und) :: .v (.one .und) :: .v (.one .und) :: .v (.one .und) :: .v (.one .und) :: .v (.one .und) :: .v (.one .und) :: .v (.one .und) :: .v (.one .und) :: .v (.one .und) :: .v (.one .und) :: .v (.one .und) :: .v (.one .und) :: .v (.one .und) :: .v (.one .und) :: .v (.one .und) :: .v (.one .und) :: .v (.one .und) :: [], [.cells 25 [.int .i64 v3, .int .i64 v4]]⟩
def x71_0_0_k0  (y0 : Int) : St := ⟨.v (.one .und) :: .v (.one .und) :: .v (.one .und) :: .v (.one .und) :: .v (.one .und) :: .v (.one (.int .i64 y0)) :: .v (.one .und) :: .v (.one .und) :: .v (.one .und) :: .v (.one .und) :: .v (.one .und) :: .v (.one .und) :: .v (.one .und) :: .v (.one .und) :: .v (.one .und) :: .v (.one .und) :: .v (.one .und) :: .v (.one .und) :: .v (.one .und) :: .v (.one .und) :: .v (.one .und) :: .v (.one .und) :: .v (.one .und) :: .v (.one .und) :: .v (.one .und) :: .v (.one .und) :: .v (.one .und) :: .v (.one .und) :: .v (.one .und) :: .v (.one .und) :: .v (.one .und) :: .v (.one .und) :: .v (.one .und) :: .v (.one .und) :: .v (.one .und) :: .v (.one .und) :: .v (.one .und) :: .v (.one .und) :: .v (.one .und) :: .v (.one .und) :: .v (.one .und) :: [], []⟩
theorem fl71_0_0 (s : St) : refSt (h71_0_0 0 0 0 0 0) s = h71_0_0 (intS (oneA (vT (nx tund s.tmps 1)))) (intS (oneA (vT (nx tund s.tmps 5)))) (intS (oneA (vT (nx tund s.tmps 6)))) (intS (nx .und (cellsB (nx .dead s.blks 0)) 0)) (intS (nx .und (cellsB (nx .dead s.blks 0)) 1)) := by kernel_rfl
def VLS71_0 {β : Type} (N : Nat) (q_spec_InfluenceOf_l0 : Nat → Int → Int → Int → Int → Int → (Int → Option β) → Option β) : LSpec β := fun s K => cond (shpSt (h71_0_0 0 0 0 0 0) s) ((fun (v0 : Int) (v1 : Int) (v2 : Int) (v3 : Int) (v4 : Int) => q_spec_InfluenceOf_l0  N v0 v1 v2 v3 v4 (fun y0 => K (.exit 0) (x71_0_0_k0  y0))) (intS (oneA (vT (nx tund s.tmps 1)))) (intS (oneA (vT (nx tund s.tmps 5)))) (intS (oneA (vT (nx tund s.tmps 6)))) (intS (nx .und (cellsB (nx .dead s.blks 0)) 0)) (intS (nx .und (cellsB (nx .dead s.blks 0)) 1))) (none)
def LS71_0 {β : Type} (N : Nat) : LSpec β := VLS71_0 N (spec_InfluenceOf_l0 N)
def VE71 {β : Type} (N : Nat) (q_spec_IsTable : (a0 : Int) → (a1 : Int) → (k : Bool → Option β) → Option β) (q_spec_l1In : (a0 : Int) → (a1 : Int) → (a2 : Int) → (k : Bool → Option β) → Option β) (q_spec_InfluenceOf_l0 : Nat → Int → Int → Int → Int → Int → (Int → Option β) → Option β) : Env β := ⟨[(69, VS69 N q_spec_IsTable), (93, VS93 N q_spec_l1In)], [], [(0, VLS71_0 N q_spec_InfluenceOf_l0)], []⟩
def E71 {β : Type} (N : Nat) : Env β := VE71 N (spec_IsTable N) (spec_l1In N) (spec_InfluenceOf_l0 N)
def BV_spec_InfluenceOf_l0b {β : Type} (N : Nat)  (v0 : Int) (v1 : Int) (v2 : Int) (v3 : Int) (v4 : Int) (rec_ : Int → Int → Int → Int → Int → Option β) (k0 : Int → Option β) : Option β :=
(gd ((decide (0 ≤ v3)))
((cond ((decide (v2 < (shlI .i64 1 v3))))
((gd ((decide (0 ≤ v2)))
((gd ((decide (0 ≤ v0)))
((gd ((decide (0 ≤ (bits .xor .i64 v2 (shlI .i64 1 v0)))))
(rec_ v0 ((w64 (v1 + (bits .and .i64 (bits .xor .i64 (shrI .i64 v4 v2) (shrI .i64 v4 (bits .xor .i64 v2 (shlI .i64 1 v0)))) 1)))) ((w64 (v2 + 1))) v3 v4)))))))
(k0 v1))))
theorem t_spec_InfluenceOf_l0b {β : Type} (N : Nat)  (v0 : Int) (v1 : Int) (v2 : Int) (v3 : Int) (v4 : Int) (rec_ : Int → Int → Int → Int → Int → Option β) (k0 : Int → Option β) : spec_InfluenceOf_l0b N v0 v1 v2 v3 v4 rec_ k0 = BV_spec_InfluenceOf_l0b N v0 v1 v2 v3 v4 rec_ k0 := by
  unfold spec_InfluenceOf_l0b BV_spec_InfluenceOf_l0b
  rfl
theorem vst71_0_0 {β : Type} (N : Nat) (q_spec_IsTable : (a0 : Int) → (a1 : Int) → (k : Bool → Option β) → Option β) (q_spec_l1In : (a0 : Int) → (a1 : Int) → (a2 : Int) → (k : Bool → Option β) → Option β) (q_spec_InfluenceOf_l0 : Nat → Int → Int → Int → Int → Int → (Int → Option β) → Option β)  (v0 : Int) (v1 : Int) (v2 : Int) (v3 : Int) (v4 : Int) (rec_ : St → Option β) (K : Exit → St → Option β) :
    ev lay (VE71 N q_spec_IsTable q_spec_l1In q_spec_InfluenceOf_l0) (retMask Try.f71) (lp Try.f71 0).body (lp Try.f71 0).ex ((lp Try.f71 0).lv (retMask Try.f71)) (h71_0_0  v0 v1 v2 v3 v4) (nextR (fun s' => rec_ (s'.tidy ((lp Try.f71 0).lv (retMask Try.f71)))) K) = BV_spec_InfluenceOf_l0b N  v0 v1 v2 v3 v4 (fun v0 v1 v2 v3 v4 => rec_ (h71_0_0  v0 v1 v2 v3 v4)) (fun y0 => K (.exit 0) (x71_0_0_k0  y0)) := by kernel_rfl
theorem st71_0_0 {β : Type} (N : Nat)  (v0 : Int) (v1 : Int) (v2 : Int) (v3 : Int) (v4 : Int) (rec_ : St → Option β) (K : Exit → St → Option β) :
    ev lay (E71 N) (retMask Try.f71) (lp Try.f71 0).body (lp Try.f71 0).ex ((lp Try.f71 0).lv (retMask Try.f71)) (h71_0_0  v0 v1 v2 v3 v4) (nextR (fun s' => rec_ (s'.tidy ((lp Try.f71 0).lv (retMask Try.f71)))) K) = spec_InfluenceOf_l0b N  v0 v1 v2 v3 v4 (fun v0 v1 v2 v3 v4 => rec_ (h71_0_0  v0 v1 v2 v3 v4)) (fun y0 => K (.exit 0) (x71_0_0_k0  y0)) := (vst71_0_0 N (spec_IsTable N) (spec_l1In N) (spec_InfluenceOf_l0 N) v0 v1 v2 v3 v4 rec_ K).trans (t_spec_InfluenceOf_l0b N  v0 v1 v2 v3 v4 (fun v0 v1 v2 v3 v4 => rec_ (h71_0_0  v0 v1 v2 v3 v4)) (fun y0 => K (.exit 0) (x71_0_0_k0  y0))).symm
theorem ro71_0_0 {β : Type} (N : Nat)  (K : Exit → St → Option β) : ∀ (F : Nat) (v0 : Int) (v1 : Int) (v2 : Int) (v3 : Int) (v4 : Int), (lp Try.f71 0).rounds lay (E71 N) (retMask Try.f71) F (h71_0_0  v0 v1 v2 v3 v4) K = spec_InfluenceOf_l0 N  F v0 v1 v2 v3 v4 (fun y0 => K (.exit 0) (x71_0_0_k0  y0)) := by
  intro F
  induction F with
  | zero => intros; rfl
  | succ F ih =>
    intros
    rw [rounds_next]
    refine (st71_0_0 N  _ _ _ _ _ (fun s => (lp Try.f71 0).rounds lay (E71 N) (retMask Try.f71) F s K) K).trans ?_
    simp only [ih]
    rfl
theorem lk71_0 {β : Type} (N : Nat) : lookL (E71 (β := β) N).loops (lp Try.f71 0).id = LS71_0 N := by kernel_rfl
theorem rk71_0 {β : Type} (N : Nat) : RoundsOK lay (E71 (β := β) N) (retMask Try.f71) (lp Try.f71 0) := by
  intro s K r h
  rw [lk71_0] at h
  unfold LS71_0 VLS71_0 at h
  cases hb : shpSt (h71_0_0 0 0 0 0 0) s with
  | true =>
    rw [hb, cond_true] at h
    exact ⟨N, by rw [← shpSt_ref hb, fl71_0_0 s]; exact (ro71_0_0 N  K N (intS (oneA (vT (nx tund s.tmps 1)))) (intS (oneA (vT (nx tund s.tmps 5)))) (intS (oneA (vT (nx tund s.tmps 6)))) (intS (nx .und (cellsB (nx .dead s.blks 0)) 0)) (intS (nx .und (cellsB (nx .dead s.blks 0)) 1))).trans h⟩
  | false =>
  rw [hb, cond_false] at h
  clear hb
  cases h
def BV_spec_InfluenceOf {β : Type} (N : Nat) (q_spec_IsTable : (a0 : Int) → (a1 : Int) → (k : Bool → Option β) → Option β) (q_spec_l1In : (a0 : Int) → (a1 : Int) → (a2 : Int) → (k : Bool → Option β) → Option β) (q_spec_InfluenceOf_l0 : Nat → Int → Int → Int → Int → Int → (Int → Option β) → Option β) (a0 : Int) (a1 : Int) (a2 : Int) (k : Int → Option β) : Option β :=
q_spec_IsTable a0 a1 fun r4 =>
(cond (!r4)
(k (-1))
(q_spec_l1In a2 0 ((w64 (a0 - 1))) fun r5 =>
(cond (!r5)
(k (-1))
(q_spec_InfluenceOf_l0  N a2 0 0 a0 a1 (fun e6_0 =>
k e6_0)))))
theorem t_spec_InfluenceOf {β : Type} (N : Nat) (a0 : Int) (a1 : Int) (a2 : Int) (k : Int → Option β) : spec_InfluenceOf N a0 a1 a2 k = BV_spec_InfluenceOf N (spec_IsTable N) (spec_l1In N) (spec_InfluenceOf_l0 N) a0 a1 a2 k := by
  unfold spec_InfluenceOf BV_spec_InfluenceOf
  rfl
theorem ve71_0 {β : Type} (N : Nat) (q_spec_IsTable : (a0 : Int) → (a1 : Int) → (k : Bool → Option β) → Option β) (q_spec_l1In : (a0 : Int) → (a1 : Int) → (a2 : Int) → (k : Bool → Option β) → Option β) (q_spec_InfluenceOf_l0 : Nat → Int → Int → Int → Int → Int → (Int → Option β) → Option β)  (a0 : Int) (a1 : Int) (a2 : Int) (K : TV → Option β) : evFn lay (VE71 N q_spec_IsTable q_spec_l1In q_spec_InfluenceOf_l0) Try.f71 [.v (.agg [.int .i64 a0, .int .i64 a1]), .v (.one (.int .i64 a2))] K = BV_spec_InfluenceOf N q_spec_IsTable q_spec_l1In q_spec_InfluenceOf_l0 a0 a1 a2 (fun z3 => K (.v (.one (.int .i64 z3)))) := by kernel_rfl
theorem e71_0 {β : Type} (N : Nat)  (a0 : Int) (a1 : Int) (a2 : Int) (K : TV → Option β) : evFn lay (E71 N) Try.f71 [.v (.agg [.int .i64 a0, .int .i64 a1]), .v (.one (.int .i64 a2))] K = spec_InfluenceOf N a0 a1 a2 (fun z3 => K (.v (.one (.int .i64 z3)))) := (ve71_0 N (spec_IsTable N) (spec_l1In N) (spec_InfluenceOf_l0 N) a0 a1 a2 K).trans (t_spec_InfluenceOf N a0 a1 a2 (fun z3 => K (.v (.one (.int .i64 z3))))).symm
theorem o71 {β : Type} (N : Nat) : SpecOK (β := β) Try.prog 71 (S71 N) := by
  refine spec_of lay_ok mixed (E := E71 N) (specs_loops (specs_cons (o69 N) (specs_cons (o93 N) specs_nil))) muts_nil gs_nil Try.func71 (by kernel_rfl) 1 (by kernel_rfl) ⟨trivial, rk71_0 N⟩ fun args K r h => ?_
  unfold S71 VS71 at h
  split at h
  · exact (e71_0 N _ _ _ _).trans h
  · cases h
def VS21 {β : Type} (N : Nat) (q_spec_NewKept : (a0 : Int) → (a1 : Int) → (k : Int → Int → Int → List Int → Bool → Option β) → Option β) : Rv.Spec β := fun args K => match args with
  | [.v (.agg [.int .i64 a0, .int .i64 a1])] => q_spec_NewKept a0 a1 (fun z2 z3 z4 z5 z6 => K (.tup [.agg [.int .i64 z2, .int .i64 z3, .int .i64 z4, .sl 3 (.ints .i64 z5)], .one (.bool z6)]))
  | _ => none
def S21 {β : Type} (N : Nat) : Rv.Spec β := VS21 N (spec_NewKept N)
def h21_0_0  (v0 : Int) (v1 : Int) (v2 : Int) (v3 : Int) (v4 : Int) (v5 : Int) (v6 : Int) (v7 : Int) (v8 : Int) (v9 : List Int) (v10 : List Int) : St := ⟨.v (.one .und) :: .v (.one (.ptr 0 0)) :: .v (.one (.ptr 1 0)) :: .v (.one .und) :: .v (.one (.ptr 2 0)) :: .v (.one (.int .i64 v0)) :: .v (.one .und) :: .v (.one .und) :: .v (.one .und) :: .v (.one .und) :: .v (.one .und) :: .v (.one .und) :: .v (.one .und) :: .v (.one .und) :: .v (.one .und) :: .v (.one .und) :: .v (.one .und) :: .v (.one .und) :: .v (.one .und) :: .v (.one .und) :: .v (.one .und) :: .v (.one .und) :: .v (.one .und) :: .v (.one .und) :: .v (.one .und) :: .v (.one .und) :: .v (.one .und) :: .v (.one .und) :: .v (.one .und) :: .v (.one .und) :: .v (.one .und) :: [], [.cells 25 [.int .i64 v1, .int .i64 v2], .cells 28 [.int .i64 v3, .int .i64 v4, .int .i64 v5, .row 3], .cells 28 [.int .i64 v6, .int .i64 v7, .int .i64 v8, .row 4], .row 3 (.ints .i64 v9), .row 3 (.ints .i64 v10)]⟩
def x21_0_0_k0  (y0 : Int) (y1 : Int) (y2 : Int) (y3 : Int) (y4 : Int) (y5 : Int) (y6 : List Int) (y7 : List Int) : St := ⟨.v (.one .und) :: .v (.one .und) :: .v (.one (.ptr 0 0)) :: .v (.one .und) :: .v (.one (.ptr 1 0)) :: .v (.one .und) :: .v (.one .und) :: .v (.one .und) :: .v (.one .und) :: .v (.one .und) :: .v (.one .und) :: .v (.one .und) :: .v (.one .und) :: .v (.one .und) :: .v (.one .und) :: .v (.one .und) :: .v (.one .und) :: .v (.one .und) :: .v (.one .und) :: .v (.one .und) :: .v (.one .und) :: .v (.one .und) :: .v (.one .und) :: .v (.one .und) :: .v (.one .und) :: .v (.one .und) :: .v (.one .und) :: .v (.one .und) :: .v (.one .und) :: .v (.one .und) :: .v (.one .und) :: [], [.cells 28 [.int .i64 y0, .int .i64 y1, .int .i64 y2, .row 2], .cells 28 [.int .i64 y3, .int .i64 y4, .int .i64 y5, .row 3], .row 3 (.ints .i64 y6), .row 3 (.ints .i64 y7)]⟩
theorem fl21_0_0 (s : St) : refSt (h21_0_0 0 0 0 0 0 0 0 0 0 [] []) s = h21_0_0 (intS (oneA (vT (nx tund s.tmps 5)))) (intS (nx .und (cellsB (nx .dead s.blks 0)) 0)) (intS (nx .und (cellsB (nx .dead s.blks 0)) 1)) (intS (nx .und (cellsB (nx .dead s.blks 1)) 0)) (intS (nx .und (cellsB (nx .dead s.blks 1)) 1)) (intS (nx .und (cellsB (nx .dead s.blks 1)) 2)) (intS (nx .und (cellsB (nx .dead s.blks 2)) 0)) (intS (nx .und (cellsB (nx .dead s.blks 2)) 1)) (intS (nx .und (cellsB (nx .dead s.blks 2)) 2)) (rInts (rowB_ (nx .dead s.blks 3))) (rInts (rowB_ (nx .dead s.blks 4))) := by kernel_rfl
def VLS21_0 {β : Type} (N : Nat) (q_spec_NewKept_l0 : Nat → Int → Int → Int → Int → Int → Int → Int → Int → Int → List Int → List Int → (Int → Int → Int → Int → Int → Int → List Int → List Int → Option β) → Option β) : LSpec β := fun s K => cond (shpSt (h21_0_0 0 0 0 0 0 0 0 0 0 [] []) s) ((fun (v0 : Int) (v1 : Int) (v2 : Int) (v3 : Int) (v4 : Int) (v5 : Int) (v6 : Int) (v7 : Int) (v8 : Int) (v9 : List Int) (v10 : List Int) => q_spec_NewKept_l0  N v0 v1 v2 v3 v4 v5 v6 v7 v8 v9 v10 (fun y0 y1 y2 y3 y4 y5 y6 y7 => K (.exit 0) (x21_0_0_k0  y0 y1 y2 y3 y4 y5 y6 y7))) (intS (oneA (vT (nx tund s.tmps 5)))) (intS (nx .und (cellsB (nx .dead s.blks 0)) 0)) (intS (nx .und (cellsB (nx .dead s.blks 0)) 1)) (intS (nx .und (cellsB (nx .dead s.blks 1)) 0)) (intS (nx .und (cellsB (nx .dead s.blks 1)) 1)) (intS (nx .und (cellsB (nx .dead s.blks 1)) 2)) (intS (nx .und (cellsB (nx .dead s.blks 2)) 0)) (intS (nx .und (cellsB (nx .dead s.blks 2)) 1)) (intS (nx .und (cellsB (nx .dead s.blks 2)) 2)) (rInts (rowB_ (nx .dead s.blks 3))) (rInts (rowB_ (nx .dead s.blks 4)))) (none)
def LS21_0 {β : Type} (N : Nat) : LSpec β := VLS21_0 N (spec_NewKept_l0 N)
def VE21 {β : Type} (N : Nat) (q_spec_IsTable : (a0 : Int) → (a1 : Int) → (k : Bool → Option β) → Option β) (q_spec_l2Count : (a0 : Int) → (k : Int → Option β) → Option β) (q_spec_InfluenceOf : (a0 : Int) → (a1 : Int) → (a2 : Int) → (k : Int → Option β) → Option β) (q_spec_NewKept_l0 : Nat → Int → Int → Int → Int → Int → Int → Int → Int → Int → List Int → List Int → (Int → Int → Int → Int → Int → Int → List Int → List Int → Option β) → Option β) : Env β := ⟨[(69, VS69 N q_spec_IsTable), (70, VS70 N q_spec_l2Count), (71, VS71 N q_spec_InfluenceOf)], [], [(0, VLS21_0 N q_spec_NewKept_l0)], []⟩
def E21 {β : Type} (N : Nat) : Env β := VE21 N (spec_IsTable N) (spec_l2Count N) (spec_InfluenceOf N) (spec_NewKept_l0 N)
def BV_spec_NewKept_l0b {β : Type} (N : Nat) (q_spec_InfluenceOf : (a0 : Int) → (a1 : Int) → (a2 : Int) → (k : Int → Option β) → Option β)  (v0 : Int) (v1 : Int) (v2 : Int) (v3 : Int) (v4 : Int) (v5 : Int) (v6 : Int) (v7 : Int) (v8 : Int) (v9 : List Int) (v10 : List Int) (rec_ : Int → Int → Int → Int → Int → Int → Int → Int → Int → List Int → List Int → Option β) (k0 : Int → Int → Int → Int → Int → Int → List Int → List Int → Option β) : Option β :=
(cond ((decide (v0 < v1)))
(q_spec_InfluenceOf v1 v2 v0 fun r9 =>
(gd ((decide ((v10.length + ((([] : List Int) ++ [r9])).length) * 8 ≤ 140737488355328)))
(rec_ ((w64 (v0 + 1))) v1 v2 v3 v4 v5 v6 v7 v8 v9 ((v10 ++ (([] : List Int) ++ [r9]))))))
(k0 v3 v4 v5 v6 v7 v8 v9 v10))
theorem t_spec_NewKept_l0b {β : Type} (N : Nat)  (v0 : Int) (v1 : Int) (v2 : Int) (v3 : Int) (v4 : Int) (v5 : Int) (v6 : Int) (v7 : Int) (v8 : Int) (v9 : List Int) (v10 : List Int) (rec_ : Int → Int → Int → Int → Int → Int → Int → Int → Int → List Int → List Int → Option β) (k0 : Int → Int → Int → Int → Int → Int → List Int → List Int → Option β) : spec_NewKept_l0b N v0 v1 v2 v3 v4 v5 v6 v7 v8 v9 v10 rec_ k0 = BV_spec_NewKept_l0b N (spec_InfluenceOf N) v0 v1 v2 v3 v4 v5 v6 v7 v8 v9 v10 rec_ k0 := by
  unfold spec_NewKept_l0b BV_spec_NewKept_l0b
  rfl
theorem vst21_0_0 {β : Type} (N : Nat) (q_spec_IsTable : (a0 : Int) → (a1 : Int) → (k : Bool → Option β) → Option β) (q_spec_l2Count : (a0 : Int) → (k : Int → Option β) → Option β) (q_spec_InfluenceOf : (a0 : Int) → (a1 : Int) → (a2 : Int) → (k : Int → Option β) → Option β) (q_spec_NewKept_l0 : Nat → Int → Int → Int → Int → Int → Int → Int → Int → Int → List Int → List Int → (Int → Int → Int → Int → Int → Int → List Int → List Int → Option β) → Option β)  (v0 : Int) (v1 : Int) (v2 : Int) (v3 : Int) (v4 : Int) (v5 : Int) (v6 : Int) (v7 : Int) (v8 : Int) (v9 : List Int) (v10 : List Int) (rec_ : St → Option β) (K : Exit → St → Option β) :
    ev lay (VE21 N q_spec_IsTable q_spec_l2Count q_spec_InfluenceOf q_spec_NewKept_l0) (retMask Try.f21) (lp Try.f21 0).body (lp Try.f21 0).ex ((lp Try.f21 0).lv (retMask Try.f21)) (h21_0_0  v0 v1 v2 v3 v4 v5 v6 v7 v8 v9 v10) (nextR (fun s' => rec_ (s'.tidy ((lp Try.f21 0).lv (retMask Try.f21)))) K) = BV_spec_NewKept_l0b N q_spec_InfluenceOf  v0 v1 v2 v3 v4 v5 v6 v7 v8 v9 v10 (fun v0 v1 v2 v3 v4 v5 v6 v7 v8 v9 v10 => rec_ (h21_0_0  v0 v1 v2 v3 v4 v5 v6 v7 v8 v9 v10)) (fun y0 y1 y2 y3 y4 y5 y6 y7 => K (.exit 0) (x21_0_0_k0  y0 y1 y2 y3 y4 y5 y6 y7)) := by kernel_rfl
theorem st21_0_0 {β : Type} (N : Nat)  (v0 : Int) (v1 : Int) (v2 : Int) (v3 : Int) (v4 : Int) (v5 : Int) (v6 : Int) (v7 : Int) (v8 : Int) (v9 : List Int) (v10 : List Int) (rec_ : St → Option β) (K : Exit → St → Option β) :
    ev lay (E21 N) (retMask Try.f21) (lp Try.f21 0).body (lp Try.f21 0).ex ((lp Try.f21 0).lv (retMask Try.f21)) (h21_0_0  v0 v1 v2 v3 v4 v5 v6 v7 v8 v9 v10) (nextR (fun s' => rec_ (s'.tidy ((lp Try.f21 0).lv (retMask Try.f21)))) K) = spec_NewKept_l0b N  v0 v1 v2 v3 v4 v5 v6 v7 v8 v9 v10 (fun v0 v1 v2 v3 v4 v5 v6 v7 v8 v9 v10 => rec_ (h21_0_0  v0 v1 v2 v3 v4 v5 v6 v7 v8 v9 v10)) (fun y0 y1 y2 y3 y4 y5 y6 y7 => K (.exit 0) (x21_0_0_k0  y0 y1 y2 y3 y4 y5 y6 y7)) := (vst21_0_0 N (spec_IsTable N) (spec_l2Count N) (spec_InfluenceOf N) (spec_NewKept_l0 N) v0 v1 v2 v3 v4 v5 v6 v7 v8 v9 v10 rec_ K).trans (t_spec_NewKept_l0b N  v0 v1 v2 v3 v4 v5 v6 v7 v8 v9 v10 (fun v0 v1 v2 v3 v4 v5 v6 v7 v8 v9 v10 => rec_ (h21_0_0  v0 v1 v2 v3 v4 v5 v6 v7 v8 v9 v10)) (fun y0 y1 y2 y3 y4 y5 y6 y7 => K (.exit 0) (x21_0_0_k0  y0 y1 y2 y3 y4 y5 y6 y7))).symm
theorem ro21_0_0 {β : Type} (N : Nat)  (K : Exit → St → Option β) : ∀ (F : Nat) (v0 : Int) (v1 : Int) (v2 : Int) (v3 : Int) (v4 : Int) (v5 : Int) (v6 : Int) (v7 : Int) (v8 : Int) (v9 : List Int) (v10 : List Int), (lp Try.f21 0).rounds lay (E21 N) (retMask Try.f21) F (h21_0_0  v0 v1 v2 v3 v4 v5 v6 v7 v8 v9 v10) K = spec_NewKept_l0 N  F v0 v1 v2 v3 v4 v5 v6 v7 v8 v9 v10 (fun y0 y1 y2 y3 y4 y5 y6 y7 => K (.exit 0) (x21_0_0_k0  y0 y1 y2 y3 y4 y5 y6 y7)) := by
  intro F
  induction F with
  | zero => intros; rfl
  | succ F ih =>
    intros
    rw [rounds_next]
    refine (st21_0_0 N  _ _ _ _ _ _ _ _ _ _ _ (fun s => (lp Try.f21 0).rounds lay (E21 N) (retMask Try.f21) F s K) K).trans ?_
    simp only [ih]
    rfl
theorem lk21_0 {β : Type} (N : Nat) : lookL (E21 (β := β) N).loops (lp Try.f21 0).id = LS21_0 N := by kernel_rfl
theorem rk21_0 {β : Type} (N : Nat) : RoundsOK lay (E21 (β := β) N) (retMask Try.f21) (lp Try.f21 0) := by
  intro s K r h
  rw [lk21_0] at h
  unfold LS21_0 VLS21_0 at h
  cases hb : shpSt (h21_0_0 0 0 0 0 0 0 0 0 0 [] []) s with
  | true =>
    rw [hb, cond_true] at h
    exact ⟨N, by rw [← shpSt_ref hb, fl21_0_0 s]; exact (ro21_0_0 N  K N (intS (oneA (vT (nx tund s.tmps 5)))) (intS (nx .und (cellsB (nx .dead s.blks 0)) 0)) (intS (nx .und (cellsB (nx .dead s.blks 0)) 1)) (intS (nx .und (cellsB (nx .dead s.blks 1)) 0)) (intS (nx .und (cellsB (nx .dead s.blks 1)) 1)) (intS (nx .und (cellsB (nx .dead s.blks 1)) 2)) (intS (nx .und (cellsB (nx .dead s.blks 2)) 0)) (intS (nx .und (cellsB (nx .dead s.blks 2)) 1)) (intS (nx .und (cellsB (nx .dead s.blks 2)) 2)) (rInts (rowB_ (nx .dead s.blks 3))) (rInts (rowB_ (nx .dead s.blks 4)))).trans h⟩
  | false =>
  rw [hb, cond_false] at h
  clear hb
  cases h
def BV_spec_NewKept {β : Type} (N : Nat) (q_spec_IsTable : (a0 : Int) → (a1 : Int) → (k : Bool → Option β) → Option β) (q_spec_l2Count : (a0 : Int) → (k : Int → Option β) → Option β) (q_spec_NewKept_l0 : Nat → Int → Int → Int → Int → Int → Int → Int → Int → Int → List Int → List Int → (Int → Int → Int → Int → Int → Int → List Int → List Int → Option β) → Option β) (a0 : Int) (a1 : Int) (k : Int → Int → Int → List Int → Bool → Option β) : Option β :=
q_spec_IsTable a0 a1 fun r7 =>
(cond (!r7)
(k 0 0 0 (([] : List Int)) false)
(q_spec_l2Count a1 fun r8 =>
(spec_NewKept_s3 a0 a1 0 0 0 a0 a1 r8 (([] : List Int)) (([] : List Int))
(q_spec_NewKept_l0  N 0 a0 a1 0 0 0 a0 a1 r8 (([] : List Int)) (([] : List Int)) (fun e10_0 e10_1 e10_2 e10_3 e10_4 e10_5 e10_6 e10_7 =>
k e10_3 e10_4 e10_5 e10_7 true)))))
theorem t_spec_NewKept {β : Type} (N : Nat) (a0 : Int) (a1 : Int) (k : Int → Int → Int → List Int → Bool → Option β) : spec_NewKept N a0 a1 k = BV_spec_NewKept N (spec_IsTable N) (spec_l2Count N) (spec_NewKept_l0 N) a0 a1 k := by
  unfold spec_NewKept BV_spec_NewKept
  rfl
theorem ve21_0 {β : Type} (N : Nat) (q_spec_IsTable : (a0 : Int) → (a1 : Int) → (k : Bool → Option β) → Option β) (q_spec_l2Count : (a0 : Int) → (k : Int → Option β) → Option β) (q_spec_InfluenceOf : (a0 : Int) → (a1 : Int) → (a2 : Int) → (k : Int → Option β) → Option β) (q_spec_NewKept_l0 : Nat → Int → Int → Int → Int → Int → Int → Int → Int → Int → List Int → List Int → (Int → Int → Int → Int → Int → Int → List Int → List Int → Option β) → Option β)  (a0 : Int) (a1 : Int) (K : TV → Option β) : evFn lay (VE21 N q_spec_IsTable q_spec_l2Count q_spec_InfluenceOf q_spec_NewKept_l0) Try.f21 [.v (.agg [.int .i64 a0, .int .i64 a1])] K = BV_spec_NewKept N q_spec_IsTable q_spec_l2Count q_spec_NewKept_l0 a0 a1 (fun z2 z3 z4 z5 z6 => K (.tup [.agg [.int .i64 z2, .int .i64 z3, .int .i64 z4, .sl 3 (.ints .i64 z5)], .one (.bool z6)])) := by kernel_rfl
theorem e21_0 {β : Type} (N : Nat)  (a0 : Int) (a1 : Int) (K : TV → Option β) : evFn lay (E21 N) Try.f21 [.v (.agg [.int .i64 a0, .int .i64 a1])] K = spec_NewKept N a0 a1 (fun z2 z3 z4 z5 z6 => K (.tup [.agg [.int .i64 z2, .int .i64 z3, .int .i64 z4, .sl 3 (.ints .i64 z5)], .one (.bool z6)])) := (ve21_0 N (spec_IsTable N) (spec_l2Count N) (spec_InfluenceOf N) (spec_NewKept_l0 N) a0 a1 K).trans (t_spec_NewKept N a0 a1 (fun z2 z3 z4 z5 z6 => K (.tup [.agg [.int .i64 z2, .int .i64 z3, .int .i64 z4, .sl 3 (.ints .i64 z5)], .one (.bool z6)]))).symm
theorem o21 {β : Type} (N : Nat) : SpecOK (β := β) Try.prog 21 (S21 N) := by
  refine spec_of lay_ok mixed (E := E21 N) (specs_loops (specs_cons (o69 N) (specs_cons (o70 N) (specs_cons (o71 N) specs_nil)))) muts_nil gs_nil Try.func21 (by kernel_rfl) 1 (by kernel_rfl) ⟨trivial, rk21_0 N⟩ fun args K r h => ?_
  unfold S21 VS21 at h
  split at h
  · exact (e21_0 N _ _ _).trans h
  · cases h
end Go.Proofs.Ytdkjnadhgdneaaa
