/- The functions that the claims reach answer as their texts do. -/
import Derived.Test.YtdkjnadhgdneaaaT0
import Derived.Test.YtdkjnadhgdneaaaProg
import Derived.KernelRfl
namespace Go.Proofs.Ytdkjnadhgdneaaa
open Go.Rv
set_option maxRecDepth 100000
set_option maxHeartbeats 2000000
set_option linter.unusedVariables false
def lay : Lay := [(2, .int .i64),
  (3, .int .i64),
  (4, .bool),
  (5, .int .u8),
  (9, .string),
  (12, .int .u64),
  (21, .int .i32),
  (22, .slice 5),
  (24, .struct [⟨0, 1, false⟩, ⟨1, 1, false⟩] [3, 3] 16 true),
  (25, .struct [⟨0, 1, false⟩, ⟨1, 1, false⟩] [3, 3] 16 true),
  (26, .slice 3),
  (27, .struct [⟨0, 2, true⟩, ⟨2, 1, false⟩, ⟨3, 1, false⟩] [3, 3, 3, 26] 48 false),
  (28, .struct [⟨0, 2, true⟩, ⟨2, 1, false⟩, ⟨3, 1, false⟩] [3, 3, 3, 26] 48 false),
  (62, .struct [⟨0, 1, false⟩, ⟨1, 1, false⟩] [3, 3] 16 true),
  (69, .pointer 96),
  (95, .struct [⟨0, 1, false⟩, ⟨1, 1, false⟩, ⟨2, 1, false⟩] [22, 3, 3] 40 false),
  (96, .struct [⟨0, 1, false⟩, ⟨1, 1, false⟩, ⟨2, 1, false⟩] [22, 3, 3] 40 false),
  (100, .int .u64),
  (102, .int .u64),
  (108, .pointer 117),
  (111, .struct [⟨0, 1, false⟩, ⟨1, 1, false⟩] [3, 3] 16 true),
  (112, .struct [⟨0, 1, false⟩, ⟨1, 1, false⟩] [3, 3] 16 true),
  (115, .map 112 3),
  (116, .struct [⟨0, 2, true⟩, ⟨2, 1, false⟩, ⟨3, 1, false⟩] [3, 3, 115, 115] 32 false),
  (117, .struct [⟨0, 2, true⟩, ⟨2, 1, false⟩, ⟨3, 1, false⟩] [3, 3, 115, 115] 32 false),
  (120, .array 2 4),
  (127, .int .u32),
  (131, .pointer 5)]

theorem lay_ok : LayOK Try.prog lay := layOK_of (by decide +kernel)
theorem mixed : Try.prog.follows .mixedOrders = true := by kernel_rfl
def VS49 {β : Type} (N : Nat) (q_laws_toTable : (a0 : Int) → (a1 : Int) → (k : Int → Int → Option β) → Option β) : Rv.Spec β := fun args K => match args with
  | [.v (.agg [.int .i64 a0, .int .i64 a1])] => q_laws_toTable a0 a1 (fun z2 z3 => K (.v (.agg [.int .i64 z2, .int .i64 z3])))
  | _ => none
def S49 {β : Type} (N : Nat) : Rv.Spec β := VS49 N (laws_toTable N)
def VE49 {β : Type} (N : Nat) : Env β := ⟨[], [], [], []⟩
def E49 {β : Type} (N : Nat) : Env β := VE49 N
def BV_laws_toTable {β : Type} (N : Nat) (a0 : Int) (a1 : Int) (k : Int → Int → Option β) : Option β :=
k a0 a1
theorem t_laws_toTable {β : Type} (N : Nat) (a0 : Int) (a1 : Int) (k : Int → Int → Option β) : laws_toTable N a0 a1 k = BV_laws_toTable N a0 a1 k := by
  unfold laws_toTable BV_laws_toTable
  rfl
theorem ve49_0 {β : Type} (N : Nat)  (a0 : Int) (a1 : Int) (K : TV → Option β) : evFn lay (VE49 N) Try.f49 [.v (.agg [.int .i64 a0, .int .i64 a1])] K = BV_laws_toTable N a0 a1 (fun z2 z3 => K (.v (.agg [.int .i64 z2, .int .i64 z3]))) := by kernel_rfl
theorem e49_0 {β : Type} (N : Nat)  (a0 : Int) (a1 : Int) (K : TV → Option β) : evFn lay (E49 N) Try.f49 [.v (.agg [.int .i64 a0, .int .i64 a1])] K = laws_toTable N a0 a1 (fun z2 z3 => K (.v (.agg [.int .i64 z2, .int .i64 z3]))) := (ve49_0 N a0 a1 K).trans (t_laws_toTable N a0 a1 (fun z2 z3 => K (.v (.agg [.int .i64 z2, .int .i64 z3])))).symm
theorem o49 {β : Type} (N : Nat) : SpecOK (β := β) Try.prog 49 (S49 N) := by
  refine spec_of lay_ok mixed (E := E49 N) (specs_loops specs_nil) muts_nil gs_nil Try.func49 (by kernel_rfl) 0 (by kernel_rfl) trivial fun args K r h => ?_
  unfold S49 VS49 at h
  split at h
  · exact (e49_0 N _ _ _).trans h
  · cases h
def VS93 {β : Type} (N : Nat) (q_spec_l1In : (a0 : Int) → (a1 : Int) → (a2 : Int) → (k : Bool → Option β) → Option β) : Rv.Spec β := fun args K => match args with
  | [.v (.one (.int .i64 a0)), .v (.one (.int .i64 a1)), .v (.one (.int .i64 a2))] => q_spec_l1In a0 a1 a2 (fun z3 => K (.v (.one (.bool z3))))
  | _ => none
def S93 {β : Type} (N : Nat) : Rv.Spec β := VS93 N (spec_l1In N)
def VE93 {β : Type} (N : Nat) : Env β := ⟨[], [], [], []⟩
def E93 {β : Type} (N : Nat) : Env β := VE93 N
def BV_spec_l1In {β : Type} (N : Nat) (a0 : Int) (a1 : Int) (a2 : Int) (k : Bool → Option β) : Option β :=
(cond ((decide (a0 ≥ a1)))
(k ((decide (a0 ≤ a2))))
(k false))
theorem t_spec_l1In {β : Type} (N : Nat) (a0 : Int) (a1 : Int) (a2 : Int) (k : Bool → Option β) : spec_l1In N a0 a1 a2 k = BV_spec_l1In N a0 a1 a2 k := by
  unfold spec_l1In BV_spec_l1In
  rfl
theorem ve93_0 {β : Type} (N : Nat)  (a0 : Int) (a1 : Int) (a2 : Int) (K : TV → Option β) : evFn lay (VE93 N) Try.f93 [.v (.one (.int .i64 a0)), .v (.one (.int .i64 a1)), .v (.one (.int .i64 a2))] K = BV_spec_l1In N a0 a1 a2 (fun z3 => K (.v (.one (.bool z3)))) := by kernel_rfl
theorem e93_0 {β : Type} (N : Nat)  (a0 : Int) (a1 : Int) (a2 : Int) (K : TV → Option β) : evFn lay (E93 N) Try.f93 [.v (.one (.int .i64 a0)), .v (.one (.int .i64 a1)), .v (.one (.int .i64 a2))] K = spec_l1In N a0 a1 a2 (fun z3 => K (.v (.one (.bool z3)))) := (ve93_0 N a0 a1 a2 K).trans (t_spec_l1In N a0 a1 a2 (fun z3 => K (.v (.one (.bool z3))))).symm
theorem o93 {β : Type} (N : Nat) : SpecOK (β := β) Try.prog 93 (S93 N) := by
  refine spec_of lay_ok mixed (E := E93 N) (specs_loops specs_nil) muts_nil gs_nil Try.func93 (by kernel_rfl) 0 (by kernel_rfl) trivial fun args K r h => ?_
  unfold S93 VS93 at h
  split at h
  · exact (e93_0 N _ _ _ _).trans h
  · cases h
def VS69 {β : Type} (N : Nat) (q_spec_IsTable : (a0 : Int) → (a1 : Int) → (k : Bool → Option β) → Option β) : Rv.Spec β := fun args K => match args with
  | [.v (.agg [.int .i64 a0, .int .i64 a1])] => q_spec_IsTable a0 a1 (fun z2 => K (.v (.one (.bool z2))))
  | _ => none
def S69 {β : Type} (N : Nat) : Rv.Spec β := VS69 N (spec_IsTable N)
def VE69 {β : Type} (N : Nat) (q_spec_l1In : (a0 : Int) → (a1 : Int) → (a2 : Int) → (k : Bool → Option β) → Option β) : Env β := ⟨[(93, VS93 N q_spec_l1In)], [], [], []⟩
def E69 {β : Type} (N : Nat) : Env β := VE69 N (spec_l1In N)
def BV_spec_IsTable {β : Type} (N : Nat) (q_spec_l1In : (a0 : Int) → (a1 : Int) → (a2 : Int) → (k : Bool → Option β) → Option β) (a0 : Int) (a1 : Int) (k : Bool → Option β) : Option β :=
q_spec_l1In a0 0 5 fun r3 =>
(cond r3
((gd ((decide (0 ≤ a0)))
((gd ((decide (0 ≤ (shlI .u64 1 a0))))
(q_spec_l1In a1 0 ((w64 ((shlI .i64 1 (shlI .u64 1 a0)) - 1))) fun r4 =>
k r4)))))
(k false))
theorem t_spec_IsTable {β : Type} (N : Nat) (a0 : Int) (a1 : Int) (k : Bool → Option β) : spec_IsTable N a0 a1 k = BV_spec_IsTable N (spec_l1In N) a0 a1 k := by
  unfold spec_IsTable BV_spec_IsTable
  rfl
theorem ve69_0 {β : Type} (N : Nat) (q_spec_l1In : (a0 : Int) → (a1 : Int) → (a2 : Int) → (k : Bool → Option β) → Option β)  (a0 : Int) (a1 : Int) (K : TV → Option β) : evFn lay (VE69 N q_spec_l1In) Try.f69 [.v (.agg [.int .i64 a0, .int .i64 a1])] K = BV_spec_IsTable N q_spec_l1In a0 a1 (fun z2 => K (.v (.one (.bool z2)))) := by kernel_rfl
theorem e69_0 {β : Type} (N : Nat)  (a0 : Int) (a1 : Int) (K : TV → Option β) : evFn lay (E69 N) Try.f69 [.v (.agg [.int .i64 a0, .int .i64 a1])] K = spec_IsTable N a0 a1 (fun z2 => K (.v (.one (.bool z2)))) := (ve69_0 N (spec_l1In N) a0 a1 K).trans (t_spec_IsTable N a0 a1 (fun z2 => K (.v (.one (.bool z2))))).symm
theorem o69 {β : Type} (N : Nat) : SpecOK (β := β) Try.prog 69 (S69 N) := by
  refine spec_of lay_ok mixed (E := E69 N) (specs_loops (specs_cons (o93 N) specs_nil)) muts_nil gs_nil Try.func69 (by kernel_rfl) 0 (by kernel_rfl) trivial fun args K r h => ?_
  unfold S69 VS69 at h
  split at h
  · exact (e69_0 N _ _ _).trans h
  · cases h
def VS122 {β : Type} (N : Nat) (q_spec_l10At : (a0 : Int) → (a1 : Int) → (a2 : Int) → (k : Int → Option β) → Option β) : Rv.Spec β := fun args K => match args with
  | [.v (.agg [.int .i64 a0, .int .i64 a1]), .v (.one (.int .i64 a2))] => q_spec_l10At a0 a1 a2 (fun z3 => K (.v (.one (.int .i64 z3))))
  | _ => none
def S122 {β : Type} (N : Nat) : Rv.Spec β := VS122 N (spec_l10At N)
def h122_0_0  (v0 : Int) (v1 : Int) (v2 : Int) (v3 : Int) (v4 : Int) : St := ⟨.v (.one .und) :: .v (.one (.int .i64 v0)) :: .v (.one (.ptr 0 0)) :: .v (.one .und) :: .v (.one .und) :: .v (.one (.int .i64 v1)) :: .v (.one (.int .i64 v2)) :: .v (.one .und) :: .v (.one .und) :: .v (.one .und) :: .v (.one .und) :: .v (.one .und) :: .v (.one .und) :: .v (.one .und) :: .v (.one .und) :: .v (.one .und) :: .v (.one .und) :: .v (.one .und) :: .v (.one .und) :: .v (.one .und) :: .v (.one .und) :: .v (.one .und) :: .v (.one .und) :: .v (.one .und) :: .v (.one .und) :: .v (.one .und) :: .v (.one .und) :: .v (.one .und) :: .v (.one .und) :: [], [.cells 25 [.int .i64 v3, .int .i64 v4]]⟩
def x122_0_0_k0  (y0 : Int) : St := ⟨.v (.one .und) :: .v (.one .und) :: .v (.one .und) :: .v (.one .und) :: .v (.one .und) :: .v (.one (.int .i64 y0)) :: .v (.one .und) :: .v (.one .und) :: .v (.one .und) :: .v (.one .und) :: .v (.one .und) :: .v (.one .und) :: .v (.one .und) :: .v (.one .und) :: .v (.one .und) :: .v (.one .und) :: .v (.one .und) :: .v (.one .und) :: .v (.one .und) :: .v (.one .und) :: .v (.one .und) :: .v (.one .und) :: .v (.one .und) :: .v (.one .und) :: .v (.one .und) :: .v (.one .und) :: .v (.one .und) :: .v (.one .und) :: .v (.one .und) :: [], []⟩
theorem fl122_0_0 (s : St) : refSt (h122_0_0 0 0 0 0 0) s = h122_0_0 (intS (oneA (vT (nx tund s.tmps 1)))) (intS (oneA (vT (nx tund s.tmps 5)))) (intS (oneA (vT (nx tund s.tmps 6)))) (intS (nx .und (cellsB (nx .dead s.blks 0)) 0)) (intS (nx .und (cellsB (nx .dead s.blks 0)) 1)) := by kernel_rfl
def VLS122_0 {β : Type} (N : Nat) (q_spec_l10At_l0 : Nat → Int → Int → Int → Int → Int → (Int → Option β) → Option β) : LSpec β := fun s K => cond (shpSt (h122_0_0 0 0 0 0 0) s) ((fun (v0 : Int) (v1 : Int) (v2 : Int) (v3 : Int) (v4 : Int) => q_spec_l10At_l0  N v0 v1 v2 v3 v4 (fun y0 => K (.exit 0) (x122_0_0_k0  y0))) (intS (oneA (vT (nx tund s.tmps 1)))) (intS (oneA (vT (nx tund s.tmps 5)))) (intS (oneA (vT (nx tund s.tmps 6)))) (intS (nx .und (cellsB (nx .dead s.blks 0)) 0)) (intS (nx .und (cellsB (nx .dead s.blks 0)) 1))) (none)
def LS122_0 {β : Type} (N : Nat) : LSpec β := VLS122_0 N (spec_l10At_l0 N)
def VE122 {β : Type} (N : Nat) (q_spec_l10At_l0 : Nat → Int → Int → Int → Int → Int → (Int → Option β) → Option β) : Env β := ⟨[], [], [(0, VLS122_0 N q_spec_l10At_l0)], []⟩
def E122 {β : Type} (N : Nat) : Env β := VE122 N (spec_l10At_l0 N)
def BV_spec_l10At_l0b {β : Type} (N : Nat)  (v0 : Int) (v1 : Int) (v2 : Int) (v3 : Int) (v4 : Int) (rec_ : Int → Int → Int → Int → Int → Option β) (k0 : Int → Option β) : Option β :=
(cond ((decide (v2 < v3)))
((gd ((decide (0 ≤ v0)))
((gd ((decide (0 ≤ v2)))
((gd ((decide (0 ≤ (bits .xor .i64 v0 (shlI .i64 1 v2)))))
(rec_ v0 ((w64 (v1 + (bits .and .i64 (bits .xor .i64 (shrI .i64 v4 v0) (shrI .i64 v4 (bits .xor .i64 v0 (shlI .i64 1 v2)))) 1)))) ((w64 (v2 + 1))) v3 v4)))))))
(k0 v1))
theorem t_spec_l10At_l0b {β : Type} (N : Nat)  (v0 : Int) (v1 : Int) (v2 : Int) (v3 : Int) (v4 : Int) (rec_ : Int → Int → Int → Int → Int → Option β) (k0 : Int → Option β) : spec_l10At_l0b N v0 v1 v2 v3 v4 rec_ k0 = BV_spec_l10At_l0b N v0 v1 v2 v3 v4 rec_ k0 := by
  unfold spec_l10At_l0b BV_spec_l10At_l0b
  rfl
theorem vst122_0_0 {β : Type} (N : Nat) (q_spec_l10At_l0 : Nat → Int → Int → Int → Int → Int → (Int → Option β) → Option β)  (v0 : Int) (v1 : Int) (v2 : Int) (v3 : Int) (v4 : Int) (rec_ : St → Option β) (K : Exit → St → Option β) :
    ev lay (VE122 N q_spec_l10At_l0) (retMask Try.f122) (lp Try.f122 0).body (lp Try.f122 0).ex ((lp Try.f122 0).lv (retMask Try.f122)) (h122_0_0  v0 v1 v2 v3 v4) (nextR (fun s' => rec_ (s'.tidy ((lp Try.f122 0).lv (retMask Try.f122)))) K) = BV_spec_l10At_l0b N  v0 v1 v2 v3 v4 (fun v0 v1 v2 v3 v4 => rec_ (h122_0_0  v0 v1 v2 v3 v4)) (fun y0 => K (.exit 0) (x122_0_0_k0  y0)) := by kernel_rfl
theorem st122_0_0 {β : Type} (N : Nat)  (v0 : Int) (v1 : Int) (v2 : Int) (v3 : Int) (v4 : Int) (rec_ : St → Option β) (K : Exit → St → Option β) :
    ev lay (E122 N) (retMask Try.f122) (lp Try.f122 0).body (lp Try.f122 0).ex ((lp Try.f122 0).lv (retMask Try.f122)) (h122_0_0  v0 v1 v2 v3 v4) (nextR (fun s' => rec_ (s'.tidy ((lp Try.f122 0).lv (retMask Try.f122)))) K) = spec_l10At_l0b N  v0 v1 v2 v3 v4 (fun v0 v1 v2 v3 v4 => rec_ (h122_0_0  v0 v1 v2 v3 v4)) (fun y0 => K (.exit 0) (x122_0_0_k0  y0)) := (vst122_0_0 N (spec_l10At_l0 N) v0 v1 v2 v3 v4 rec_ K).trans (t_spec_l10At_l0b N  v0 v1 v2 v3 v4 (fun v0 v1 v2 v3 v4 => rec_ (h122_0_0  v0 v1 v2 v3 v4)) (fun y0 => K (.exit 0) (x122_0_0_k0  y0))).symm
theorem ro122_0_0 {β : Type} (N : Nat)  (K : Exit → St → Option β) : ∀ (F : Nat) (v0 : Int) (v1 : Int) (v2 : Int) (v3 : Int) (v4 : Int), (lp Try.f122 0).rounds lay (E122 N) (retMask Try.f122) F (h122_0_0  v0 v1 v2 v3 v4) K = spec_l10At_l0 N  F v0 v1 v2 v3 v4 (fun y0 => K (.exit 0) (x122_0_0_k0  y0)) := by
  intro F
  induction F with
  | zero => intros; rfl
  | succ F ih =>
    intros
    rw [rounds_next]
    refine (st122_0_0 N  _ _ _ _ _ (fun s => (lp Try.f122 0).rounds lay (E122 N) (retMask Try.f122) F s K) K).trans ?_
    simp only [ih]
    rfl
theorem lk122_0 {β : Type} (N : Nat) : lookL (E122 (β := β) N).loops (lp Try.f122 0).id = LS122_0 N := by kernel_rfl
theorem rk122_0 {β : Type} (N : Nat) : RoundsOK lay (E122 (β := β) N) (retMask Try.f122) (lp Try.f122 0) := by
  intro s K r h
  rw [lk122_0] at h
  unfold LS122_0 VLS122_0 at h
  cases hb : shpSt (h122_0_0 0 0 0 0 0) s with
  | true =>
    rw [hb, cond_true] at h
    exact ⟨N, by rw [← shpSt_ref hb, fl122_0_0 s]; exact (ro122_0_0 N  K N (intS (oneA (vT (nx tund s.tmps 1)))) (intS (oneA (vT (nx tund s.tmps 5)))) (intS (oneA (vT (nx tund s.tmps 6)))) (intS (nx .und (cellsB (nx .dead s.blks 0)) 0)) (intS (nx .und (cellsB (nx .dead s.blks 0)) 1))).trans h⟩
  | false =>
  rw [hb, cond_false] at h
  clear hb
  cases h
def BV_spec_l10At {β : Type} (N : Nat) (q_spec_l10At_l0 : Nat → Int → Int → Int → Int → Int → (Int → Option β) → Option β) (a0 : Int) (a1 : Int) (a2 : Int) (k : Int → Option β) : Option β :=
q_spec_l10At_l0  N a2 0 0 a0 a1 (fun e4_0 =>
k e4_0)
theorem t_spec_l10At {β : Type} (N : Nat) (a0 : Int) (a1 : Int) (a2 : Int) (k : Int → Option β) : spec_l10At N a0 a1 a2 k = BV_spec_l10At N (spec_l10At_l0 N) a0 a1 a2 k := by
  unfold spec_l10At BV_spec_l10At
  rfl
theorem ve122_0 {β : Type} (N : Nat) (q_spec_l10At_l0 : Nat → Int → Int → Int → Int → Int → (Int → Option β) → Option β)  (a0 : Int) (a1 : Int) (a2 : Int) (K : TV → Option β) : evFn lay (VE122 N q_spec_l10At_l0) Try.f122 [.v (.agg [.int .i64 a0, .int .i64 a1]), .v (.one (.int .i64 a2))] K = BV_spec_l10At N q_spec_l10At_l0 a0 a1 a2 (fun z3 => K (.v (.one (.int .i64 z3)))) := by kernel_rfl
theorem e122_0 {β : Type} (N : Nat)  (a0 : Int) (a1 : Int) (a2 : Int) (K : TV → Option β) : evFn lay (E122 N) Try.f122 [.v (.agg [.int .i64 a0, .int .i64 a1]), .v (.one (.int .i64 a2))] K = spec_l10At N a0 a1 a2 (fun z3 => K (.v (.one (.int .i64 z3)))) := (ve122_0 N (spec_l10At_l0 N) a0 a1 a2 K).trans (t_spec_l10At N a0 a1 a2 (fun z3 => K (.v (.one (.int .i64 z3))))).symm
theorem o122 {β : Type} (N : Nat) : SpecOK (β := β) Try.prog 122 (S122 N) := by
  refine spec_of lay_ok mixed (E := E122 N) (specs_loops specs_nil) muts_nil gs_nil Try.func122 (by kernel_rfl) 1 (by kernel_rfl) ⟨trivial, rk122_0 N⟩ fun args K r h => ?_
  unfold S122 VS122 at h
  split at h
  · exact (e122_0 N _ _ _ _).trans h
  · cases h
def VS95 {β : Type} (N : Nat) (q_spec_SensitivityOf : (a0 : Int) → (a1 : Int) → (k : Int → Option β) → Option β) : Rv.Spec β := fun args K => match args with
  | [.v (.agg [.int .i64 a0, .int .i64 a1])] => q_spec_SensitivityOf a0 a1 (fun z2 => K (.v (.one (.int .i64 z2))))
  | _ => none
def S95 {β : Type} (N : Nat) : Rv.Spec β := VS95 N (spec_SensitivityOf N)
def h95_0_0  (v0 : Int) (v1 : Int) (v2 : Int) (v3 : Int) : St := ⟨.v (.one .und) :: .v (.one (.ptr 0 0)) :: .v (.one .und) :: .v (.one (.int .i64 v0)) :: .v (.one (.int .i64 v1)) :: .v (.one .und) :: .v (.one .und) :: .v (.one .und) :: .v (.one .und) :: .v (.one .und) :: .v (.one .und) :: .v (.one .und) :: .v (.one .und) :: .v (.one .und) :: .v (.one .und) :: .v (.one .und) :: .v (.one .und) :: .v (.one .und) :: .v (.one .und) :: .v (.one .und) :: .v (.one .und) :: [], [.cells 25 [.int .i64 v2, .int .i64 v3]]⟩
def x95_0_0_k0  (y0 : Int) : St := ⟨.v (.one .und) :: .v (.one .und) :: .v (.one .und) :: .v (.one (.int .i64 y0)) :: .v (.one .und) :: .v (.one .und) :: .v (.one .und) :: .v (.one .und) :: .v (.one .und) :: .v (.one .und) :: .v (.one .und) :: .v (.one .und) :: .v (.one .und) :: .v (.one .und) :: .v (.one .und) :: .v (.one .und) :: .v (.one .und) :: .v (.one .und) :: .v (.one .und) :: .v (.one .und) :: .v (.one .und) :: [], []⟩
theorem fl95_0_0 (s : St) : refSt (h95_0_0 0 0 0 0) s = h95_0_0 (intS (oneA (vT (nx tund s.tmps 3)))) (intS (oneA (vT (nx tund s.tmps 4)))) (intS (nx .und (cellsB (nx .dead s.blks 0)) 0)) (intS (nx .und (cellsB (nx .dead s.blks 0)) 1)) := by kernel_rfl
def VLS95_0 {β : Type} (N : Nat) (q_spec_SensitivityOf_l0 : Nat → Int → Int → Int → Int → (Int → Option β) → Option β) : LSpec β := fun s K => cond (shpSt (h95_0_0 0 0 0 0) s) ((fun (v0 : Int) (v1 : Int) (v2 : Int) (v3 : Int) => q_spec_SensitivityOf_l0  N v0 v1 v2 v3 (fun y0 => K (.exit 0) (x95_0_0_k0  y0))) (intS (oneA (vT (nx tund s.tmps 3)))) (intS (oneA (vT (nx tund s.tmps 4)))) (intS (nx .und (cellsB (nx .dead s.blks 0)) 0)) (intS (nx .und (cellsB (nx .dead s.blks 0)) 1))) (none)
def LS95_0 {β : Type} (N : Nat) : LSpec β := VLS95_0 N (spec_SensitivityOf_l0 N)
def VE95 {β : Type} (N : Nat) (q_spec_IsTable : (a0 : Int) → (a1 : Int) → (k : Bool → Option β) → Option β) (q_spec_l10At : (a0 : Int) → (a1 : Int) → (a2 : Int) → (k : Int → Option β) → Option β) (q_spec_SensitivityOf_l0 : Nat → Int → Int → Int → Int → (Int → Option β) → Option β) : Env β := ⟨[(69, VS69 N q_spec_IsTable), (122, VS122 N q_spec_l10At)], [], [(0, VLS95_0 N q_spec_SensitivityOf_l0)], []⟩
def E95 {β : Type} (N : Nat) : Env β := VE95 N (spec_IsTable N) (spec_l10At N) (spec_SensitivityOf_l0 N)
def BV_spec_SensitivityOf_l0b {β : Type} (N : Nat) (q_spec_l10At : (a0 : Int) → (a1 : Int) → (a2 : Int) → (k : Int → Option β) → Option β)  (v0 : Int) (v1 : Int) (v2 : Int) (v3 : Int) (rec_ : Int → Int → Int → Int → Option β) (k0 : Int → Option β) : Option β :=
(gd ((decide (0 ≤ v2)))
((cond ((decide (v1 < (shlI .i64 1 v2))))
(q_spec_l10At v2 v3 v1 fun r4 =>
rec_ ((mxI v0 r4)) ((w64 (v1 + 1))) v2 v3)
(k0 v0))))
theorem t_spec_SensitivityOf_l0b {β : Type} (N : Nat)  (v0 : Int) (v1 : Int) (v2 : Int) (v3 : Int) (rec_ : Int → Int → Int → Int → Option β) (k0 : Int → Option β) : spec_SensitivityOf_l0b N v0 v1 v2 v3 rec_ k0 = BV_spec_SensitivityOf_l0b N (spec_l10At N) v0 v1 v2 v3 rec_ k0 := by
  unfold spec_SensitivityOf_l0b BV_spec_SensitivityOf_l0b
  rfl
theorem vst95_0_0 {β : Type} (N : Nat) (q_spec_IsTable : (a0 : Int) → (a1 : Int) → (k : Bool → Option β) → Option β) (q_spec_l10At : (a0 : Int) → (a1 : Int) → (a2 : Int) → (k : Int → Option β) → Option β) (q_spec_SensitivityOf_l0 : Nat → Int → Int → Int → Int → (Int → Option β) → Option β)  (v0 : Int) (v1 : Int) (v2 : Int) (v3 : Int) (rec_ : St → Option β) (K : Exit → St → Option β) :
    ev lay (VE95 N q_spec_IsTable q_spec_l10At q_spec_SensitivityOf_l0) (retMask Try.f95) (lp Try.f95 0).body (lp Try.f95 0).ex ((lp Try.f95 0).lv (retMask Try.f95)) (h95_0_0  v0 v1 v2 v3) (nextR (fun s' => rec_ (s'.tidy ((lp Try.f95 0).lv (retMask Try.f95)))) K) = BV_spec_SensitivityOf_l0b N q_spec_l10At  v0 v1 v2 v3 (fun v0 v1 v2 v3 => rec_ (h95_0_0  v0 v1 v2 v3)) (fun y0 => K (.exit 0) (x95_0_0_k0  y0)) := by kernel_rfl
theorem st95_0_0 {β : Type} (N : Nat)  (v0 : Int) (v1 : Int) (v2 : Int) (v3 : Int) (rec_ : St → Option β) (K : Exit → St → Option β) :
    ev lay (E95 N) (retMask Try.f95) (lp Try.f95 0).body (lp Try.f95 0).ex ((lp Try.f95 0).lv (retMask Try.f95)) (h95_0_0  v0 v1 v2 v3) (nextR (fun s' => rec_ (s'.tidy ((lp Try.f95 0).lv (retMask Try.f95)))) K) = spec_SensitivityOf_l0b N  v0 v1 v2 v3 (fun v0 v1 v2 v3 => rec_ (h95_0_0  v0 v1 v2 v3)) (fun y0 => K (.exit 0) (x95_0_0_k0  y0)) := (vst95_0_0 N (spec_IsTable N) (spec_l10At N) (spec_SensitivityOf_l0 N) v0 v1 v2 v3 rec_ K).trans (t_spec_SensitivityOf_l0b N  v0 v1 v2 v3 (fun v0 v1 v2 v3 => rec_ (h95_0_0  v0 v1 v2 v3)) (fun y0 => K (.exit 0) (x95_0_0_k0  y0))).symm
theorem ro95_0_0 {β : Type} (N : Nat)  (K : Exit → St → Option β) : ∀ (F : Nat) (v0 : Int) (v1 : Int) (v2 : Int) (v3 : Int), (lp Try.f95 0).rounds lay (E95 N) (retMask Try.f95) F (h95_0_0  v0 v1 v2 v3) K = spec_SensitivityOf_l0 N  F v0 v1 v2 v3 (fun y0 => K (.exit 0) (x95_0_0_k0  y0)) := by
  intro F
  induction F with
  | zero => intros; rfl
  | succ F ih =>
    intros
    rw [rounds_next]
    refine (st95_0_0 N  _ _ _ _ (fun s => (lp Try.f95 0).rounds lay (E95 N) (retMask Try.f95) F s K) K).trans ?_
    simp only [ih]
    rfl
theorem lk95_0 {β : Type} (N : Nat) : lookL (E95 (β := β) N).loops (lp Try.f95 0).id = LS95_0 N := by kernel_rfl
theorem rk95_0 {β : Type} (N : Nat) : RoundsOK lay (E95 (β := β) N) (retMask Try.f95) (lp Try.f95 0) := by
  intro s K r h
  rw [lk95_0] at h
  unfold LS95_0 VLS95_0 at h
  cases hb : shpSt (h95_0_0 0 0 0 0) s with
  | true =>
    rw [hb, cond_true] at h
    exact ⟨N, by rw [← shpSt_ref hb, fl95_0_0 s]; exact (ro95_0_0 N  K N (intS (oneA (vT (nx tund s.tmps 3)))) (intS (oneA (vT (nx tund s.tmps 4)))) (intS (nx .und (cellsB (nx .dead s.blks 0)) 0)) (intS (nx .und (cellsB (nx .dead s.blks 0)) 1))).trans h⟩
  | false =>
  rw [hb, cond_false] at h
  clear hb
  cases h
def BV_spec_SensitivityOf {β : Type} (N : Nat) (q_spec_IsTable : (a0 : Int) → (a1 : Int) → (k : Bool → Option β) → Option β) (q_spec_SensitivityOf_l0 : Nat → Int → Int → Int → Int → (Int → Option β) → Option β) (a0 : Int) (a1 : Int) (k : Int → Option β) : Option β :=
q_spec_IsTable a0 a1 fun r3 =>
(cond (!r3)
(k (-1))
(q_spec_SensitivityOf_l0  N 0 0 a0 a1 (fun e5_0 =>
k e5_0)))
theorem t_spec_SensitivityOf {β : Type} (N : Nat) (a0 : Int) (a1 : Int) (k : Int → Option β) : spec_SensitivityOf N a0 a1 k = BV_spec_SensitivityOf N (spec_IsTable N) (spec_SensitivityOf_l0 N) a0 a1 k := by
  unfold spec_SensitivityOf BV_spec_SensitivityOf
  rfl
theorem ve95_0 {β : Type} (N : Nat) (q_spec_IsTable : (a0 : Int) → (a1 : Int) → (k : Bool → Option β) → Option β) (q_spec_l10At : (a0 : Int) → (a1 : Int) → (a2 : Int) → (k : Int → Option β) → Option β) (q_spec_SensitivityOf_l0 : Nat → Int → Int → Int → Int → (Int → Option β) → Option β)  (a0 : Int) (a1 : Int) (K : TV → Option β) : evFn lay (VE95 N q_spec_IsTable q_spec_l10At q_spec_SensitivityOf_l0) Try.f95 [.v (.agg [.int .i64 a0, .int .i64 a1])] K = BV_spec_SensitivityOf N q_spec_IsTable q_spec_SensitivityOf_l0 a0 a1 (fun z2 => K (.v (.one (.int .i64 z2)))) := by kernel_rfl
theorem e95_0 {β : Type} (N : Nat)  (a0 : Int) (a1 : Int) (K : TV → Option β) : evFn lay (E95 N) Try.f95 [.v (.agg [.int .i64 a0, .int .i64 a1])] K = spec_SensitivityOf N a0 a1 (fun z2 => K (.v (.one (.int .i64 z2)))) := (ve95_0 N (spec_IsTable N) (spec_l10At N) (spec_SensitivityOf_l0 N) a0 a1 K).trans (t_spec_SensitivityOf N a0 a1 (fun z2 => K (.v (.one (.int .i64 z2))))).symm
theorem o95 {β : Type} (N : Nat) : SpecOK (β := β) Try.prog 95 (S95 N) := by
  refine spec_of lay_ok mixed (E := E95 N) (specs_loops (specs_cons (o69 N) (specs_cons (o122 N) specs_nil))) muts_nil gs_nil Try.func95 (by kernel_rfl) 1 (by kernel_rfl) ⟨trivial, rk95_0 N⟩ fun args K r h => ?_
  unfold S95 VS95 at h
  split at h
  · exact (e95_0 N _ _ _).trans h
  · cases h
def VS58 {β : Type} (N : Nat) (q_spec_l9In : (a0 : Int) → (a1 : Int) → (a2 : Int) → (k : Bool → Option β) → Option β) : Rv.Spec β := fun args K => match args with
  | [.v (.agg [.int .i64 a0, .int .i64 a1]), .v (.one (.int .i64 a2))] => q_spec_l9In a0 a1 a2 (fun z3 => K (.v (.one (.bool z3))))
  | _ => none
def S58 {β : Type} (N : Nat) : Rv.Spec β := VS58 N (spec_l9In N)
def VE58 {β : Type} (N : Nat) (q_spec_IsTable : (a0 : Int) → (a1 : Int) → (k : Bool → Option β) → Option β) (q_spec_l1In : (a0 : Int) → (a1 : Int) → (a2 : Int) → (k : Bool → Option β) → Option β) : Env β := ⟨[(69, VS69 N q_spec_IsTable), (93, VS93 N q_spec_l1In)], [], [], []⟩
def E58 {β : Type} (N : Nat) : Env β := VE58 N (spec_IsTable N) (spec_l1In N)
def BV_spec_l9In {β : Type} (N : Nat) (q_spec_IsTable : (a0 : Int) → (a1 : Int) → (k : Bool → Option β) → Option β) (q_spec_l1In : (a0 : Int) → (a1 : Int) → (a2 : Int) → (k : Bool → Option β) → Option β) (a0 : Int) (a1 : Int) (a2 : Int) (k : Bool → Option β) : Option β :=
q_spec_IsTable a0 a1 fun r4 =>
(cond r4
((gd ((decide (0 ≤ a0)))
(q_spec_l1In a2 0 ((w64 ((shlI .i64 1 a0) - 1))) fun r5 =>
k r5)))
(k false))
theorem t_spec_l9In {β : Type} (N : Nat) (a0 : Int) (a1 : Int) (a2 : Int) (k : Bool → Option β) : spec_l9In N a0 a1 a2 k = BV_spec_l9In N (spec_IsTable N) (spec_l1In N) a0 a1 a2 k := by
  unfold spec_l9In BV_spec_l9In
  rfl
theorem ve58_0 {β : Type} (N : Nat) (q_spec_IsTable : (a0 : Int) → (a1 : Int) → (k : Bool → Option β) → Option β) (q_spec_l1In : (a0 : Int) → (a1 : Int) → (a2 : Int) → (k : Bool → Option β) → Option β)  (a0 : Int) (a1 : Int) (a2 : Int) (K : TV → Option β) : evFn lay (VE58 N q_spec_IsTable q_spec_l1In) Try.f58 [.v (.agg [.int .i64 a0, .int .i64 a1]), .v (.one (.int .i64 a2))] K = BV_spec_l9In N q_spec_IsTable q_spec_l1In a0 a1 a2 (fun z3 => K (.v (.one (.bool z3)))) := by kernel_rfl
theorem e58_0 {β : Type} (N : Nat)  (a0 : Int) (a1 : Int) (a2 : Int) (K : TV → Option β) : evFn lay (E58 N) Try.f58 [.v (.agg [.int .i64 a0, .int .i64 a1]), .v (.one (.int .i64 a2))] K = spec_l9In N a0 a1 a2 (fun z3 => K (.v (.one (.bool z3)))) := (ve58_0 N (spec_IsTable N) (spec_l1In N) a0 a1 a2 K).trans (t_spec_l9In N a0 a1 a2 (fun z3 => K (.v (.one (.bool z3))))).symm
theorem o58 {β : Type} (N : Nat) : SpecOK (β := β) Try.prog 58 (S58 N) := by
  refine spec_of lay_ok mixed (E := E58 N) (specs_loops (specs_cons (o69 N) (specs_cons (o93 N) specs_nil))) muts_nil gs_nil Try.func58 (by kernel_rfl) 0 (by kernel_rfl) trivial fun args K r h => ?_
  unfold S58 VS58 at h
  split at h
  · exact (e58_0 N _ _ _ _).trans h
  · cases h
def VS141 {β : Type} (N : Nat) (q_spec_l10Blocks : (a0 : Int) → (a1 : Int) → (a2 : Int) → (k : List Int → Option β) → Option β) : Rv.Spec β := fun args K => match args with
  | [.v (.agg [.int .i64 a0, .int .i64 a1]), .v (.one (.int .i64 a2))] => q_spec_l10Blocks a0 a1 a2 (fun z3 => K (.v (.one (.sl 3 (.ints .i64 z3)))))
  | _ => none
def S141 {β : Type} (N : Nat) : Rv.Spec β := VS141 N (spec_l10Blocks N)
def h141_0_0  (v0 : Int) (v1 : Int) (v2 : Int) (v3 : Int) (v4 : List Int) : St := ⟨.v (.one .und) :: .v (.one (.int .i64 v0)) :: .v (.one (.ptr 0 0)) :: .v (.one .und) :: .v (.one .und) :: .v (.one (.row 1)) :: .v (.one (.int .i64 v1)) :: .v (.one .und) :: .v (.one .und) :: .v (.one .und) :: .v (.one .und) :: .v (.one .und) :: .v (.one .und) :: .v (.one .und) :: .v (.one .und) :: .v (.one .und) :: .v (.one .und) :: .v (.one .und) :: .v (.one .und) :: .v (.one .und) :: .v (.one .und) :: .v (.one .und) :: .v (.one .und) :: .v (.one .und) :: .v (.one .und) :: .v (.one .und) :: .v (.one .und) :: .v (.one .und) :: .v (.one .und) :: .v (.one .und) :: .v (.one .und) :: .v (.one .und) :: .v (.one .und) :: .v (.one .und) :: .v (.one .und) :: .v (.one .und) :: .v (.one .und) :: .v (.one .und) :: .v (.one .und) :: .v (.one .und) :: .v (.one .und) :: .v (.one .und) :: .v (.one .und) :: .v (.one .und) :: .v (.one .und) :: .v (.one .und) :: .v (.one .und) :: .v (.one .und) :: .v (.one .und) :: .v (.one .und) :: .v (.one .und) :: .v (.one .und) :: .v (.one .und) :: .v (.one .und) :: .v (.one .und) :: .v (.one .und) :: [], [.cells 25 [.int .i64 v2, .int .i64 v3], .row 3 (.ints .i64 v4)]⟩
def x141_0_0_k0  (y0 : List Int) : St := ⟨.v (.one .und) :: .v (.one .und) :: .v (.one .und) :: .v (.one .und) :: .v (.one .und) :: .v (.one (.row 0)) :: .v (.one .und) :: .v (.one .und) :: .v (.one .und) :: .v (.one .und) :: .v (.one .und) :: .v (.one .und) :: .v (.one .und) :: .v (.one .und) :: .v (.one .und) :: .v (.one .und) :: .v (.one .und) :: .v (.one .und) :: .v (.one .und) :: .v (.one .und) :: .v (.one .und) :: .v (.one .und) :: .v (.one .und) :: .v (.one .und) :: .v (.one .und) :: .v (.one .und) :: .v (.one .und) :: .v (.one .und) :: .v (.one .und) :: .v (.one .und) :: .v (.one .und) :: .v (.one .und) :: .v (.one .und) :: .v (.one .und) :: .v (.one .und) :: .v (.one .und) :: .v (.one .und) :: .v (.one .und) :: .v (.one .und) :: .v (.one .und) :: .v (.one .und) :: .v (.one .und) :: .v (.one .und) :: .v (.one .und) :: .v (.one .und) :: .v (.one .und) :: .v (.one .und) :: .v (.one .und) :: .v (.one .und) :: .v (.one .und) :: .v (.one .und) :: .v (.one .und) :: .v (.one .und) :: .v (.one .und) :: .v (.one .und) :: .v (.one .und) :: [], [.row 3 (.ints .i64 y0)]⟩
def h141_1_0  (v0 : Int) (v1 : Int) (v2 : Bool) (v3 : Int) (v4 : Int) (v5 : Int) (v6 : List Int) : St := ⟨.v (.one .und) :: .v (.one (.int .i64 v0)) :: .v (.one (.ptr 0 0)) :: .v (.one .und) :: .v (.one .und) :: .v (.one (.row 1)) :: .v (.one (.int .i64 v1)) :: .v (.one (.bool v2)) :: .v (.one (.int .i64 v3)) :: .v (.one .und) :: .v (.one .und) :: .v (.one .und) :: .v (.one .und) :: .v (.one .und) :: .v (.one .und) :: .v (.one .und) :: .v (.one .und) :: .v (.one .und) :: .v (.one .und) :: .v (.one .und) :: .v (.one .und) :: .v (.one .und) :: .v (.one .und) :: .v (.one .und) :: .v (.one .und) :: .v (.one .und) :: .v (.one .und) :: .v (.one .und) :: .v (.one .und) :: .v (.one .und) :: .v (.one .und) :: .v (.one .und) :: .v (.one .und) :: .v (.one .und) :: .v (.one .und) :: .v (.one .und) :: .v (.one .und) :: .v (.one .und) :: .v (.one .und) :: .v (.one .und) :: .v (.one .und) :: .v (.one .und) :: .v (.one .und) :: .v (.one .und) :: .v (.one .und) :: .v (.one .und) :: .v (.one .und) :: .v (.one .und) :: .v (.one .und) :: .v (.one .und) :: .v (.one .und) :: .v (.one .und) :: .v (.one .und) :: .v (.one .und) :: .v (.one .und) :: .v (.one .und) :: [], [.cells 25 [.int .i64 v4, .int .i64 v5], .row 3 (.ints .i64 v6)]⟩
def x141_1_0_k0  (y0 : Int) (y1 : Int) (y2 : Bool) (y3 : Int) (y4 : Int) (y5 : List Int) : St := ⟨.v (.one .und) :: .v (.one (.int .i64 y0)) :: .v (.one (.ptr 0 0)) :: .v (.one .und) :: .v (.one .und) :: .v (.one (.row 1)) :: .v (.one (.int .i64 y1)) :: .v (.one (.bool y2)) :: .v (.one .und) :: .v (.one .und) :: .v (.one .und) :: .v (.one .und) :: .v (.one .und) :: .v (.one .und) :: .v (.one .und) :: .v (.one .und) :: .v (.one .und) :: .v (.one .und) :: .v (.one .und) :: .v (.one .und) :: .v (.one .und) :: .v (.one .und) :: .v (.one .und) :: .v (.one .und) :: .v (.one .und) :: .v (.one .und) :: .v (.one .und) :: .v (.one .und) :: .v (.one .und) :: .v (.one .und) :: .v (.one .und) :: .v (.one .und) :: .v (.one .und) :: .v (.one .und) :: .v (.one .und) :: .v (.one .und) :: .v (.one .und) :: .v (.one .und) :: .v (.one .und) :: .v (.one .und) :: .v (.one .und) :: .v (.one .und) :: .v (.one .und) :: .v (.one .und) :: .v (.one .und) :: .v (.one .und) :: .v (.one .und) :: .v (.one .und) :: .v (.one .und) :: .v (.one .und) :: .v (.one .und) :: .v (.one .und) :: .v (.one .und) :: .v (.one .und) :: .v (.one .und) :: .v (.one .und) :: [], [.cells 25 [.int .i64 y3, .int .i64 y4], .row 3 (.ints .i64 y5)]⟩
theorem fl141_0_0 (s : St) : refSt (h141_0_0 0 0 0 0 []) s = h141_0_0 (intS (oneA (vT (nx tund s.tmps 1)))) (intS (oneA (vT (nx tund s.tmps 6)))) (intS (nx .und (cellsB (nx .dead s.blks 0)) 0)) (intS (nx .und (cellsB (nx .dead s.blks 0)) 1)) (rInts (rowB_ (nx .dead s.blks 1))) := by kernel_rfl
def VLS141_0 {β : Type} (N : Nat) (q_spec_l10Blocks_l0 : Nat → Int → Int → Int → Int → List Int → (List Int → Option β) → Option β) : LSpec β := fun s K => cond (shpSt (h141_0_0 0 0 0 0 []) s) ((fun (v0 : Int) (v1 : Int) (v2 : Int) (v3 : Int) (v4 : List Int) => q_spec_l10Blocks_l0  N v0 v1 v2 v3 v4 (fun y0 => K (.exit 0) (x141_0_0_k0  y0))) (intS (oneA (vT (nx tund s.tmps 1)))) (intS (oneA (vT (nx tund s.tmps 6)))) (intS (nx .und (cellsB (nx .dead s.blks 0)) 0)) (intS (nx .und (cellsB (nx .dead s.blks 0)) 1)) (rInts (rowB_ (nx .dead s.blks 1)))) (none)
def LS141_0 {β : Type} (N : Nat) : LSpec β := VLS141_0 N (spec_l10Blocks_l0 N)
theorem fl141_1_0 (s : St) : refSt (h141_1_0 0 0 false 0 0 0 []) s = h141_1_0 (intS (oneA (vT (nx tund s.tmps 1)))) (intS (oneA (vT (nx tund s.tmps 6)))) (boolS (oneA (vT (nx tund s.tmps 7)))) (intS (oneA (vT (nx tund s.tmps 8)))) (intS (nx .und (cellsB (nx .dead s.blks 0)) 0)) (intS (nx .und (cellsB (nx .dead s.blks 0)) 1)) (rInts (rowB_ (nx .dead s.blks 1))) := by kernel_rfl
def VLS141_2 {β : Type} (N : Nat) (q_spec_l10Blocks_l2 : Nat → Int → Int → Bool → Int → Int → Int → List Int → (Int → Int → Bool → Int → Int → List Int → Option β) → Option β) : LSpec β := fun s K => cond (shpSt (h141_1_0 0 0 false 0 0 0 []) s) ((fun (v0 : Int) (v1 : Int) (v2 : Bool) (v3 : Int) (v4 : Int) (v5 : Int) (v6 : List Int) => q_spec_l10Blocks_l2  N v0 v1 v2 v3 v4 v5 v6 (fun y0 y1 y2 y3 y4 y5 => K (.exit 2) (x141_1_0_k0  y0 y1 y2 y3 y4 y5))) (intS (oneA (vT (nx tund s.tmps 1)))) (intS (oneA (vT (nx tund s.tmps 6)))) (boolS (oneA (vT (nx tund s.tmps 7)))) (intS (oneA (vT (nx tund s.tmps 8)))) (intS (nx .und (cellsB (nx .dead s.blks 0)) 0)) (intS (nx .und (cellsB (nx .dead s.blks 0)) 1)) (rInts (rowB_ (nx .dead s.blks 1)))) (none)
def LS141_2 {β : Type} (N : Nat) : LSpec β := VLS141_2 N (spec_l10Blocks_l2 N)
def VE141 {β : Type} (N : Nat) (q_spec_l10Blocks_l0 : Nat → Int → Int → Int → Int → List Int → (List Int → Option β) → Option β) (q_spec_l10Blocks_l2 : Nat → Int → Int → Bool → Int → Int → Int → List Int → (Int → Int → Bool → Int → Int → List Int → Option β) → Option β) : Env β := ⟨[], [], [(0, VLS141_0 N q_spec_l10Blocks_l0), (2, VLS141_2 N q_spec_l10Blocks_l2)], []⟩
def E141 {β : Type} (N : Nat) : Env β := VE141 N (spec_l10Blocks_l0 N) (spec_l10Blocks_l2 N)
def BV_spec_l10Blocks_l0b {β : Type} (N : Nat) (q_spec_l10Blocks_l2 : Nat → Int → Int → Bool → Int → Int → Int → List Int → (Int → Int → Bool → Int → Int → List Int → Option β) → Option β)  (v0 : Int) (v1 : Int) (v2 : Int) (v3 : Int) (v4 : List Int) (rec_ : Int → Int → Int → Int → List Int → Option β) (k0 : List Int → Option β) : Option β :=
(gd ((decide (0 ≤ v2)))
((cond ((decide (v1 < (shlI .i64 1 v2))))
((gd ((decide (0 ≤ v0)))
((gd ((decide (0 ≤ (bits .xor .i64 v0 v1))))
((cond (((bits .and .i64 (shrI .i64 v3 v0) 1) == (bits .and .i64 (shrI .i64 v3 (bits .xor .i64 v0 v1)) 1)))
(rec_ v0 ((w64 (v1 + 1))) v2 v3 v4)
(q_spec_l10Blocks_l2  N v0 v1 true 0 v2 v3 v4 (fun e4_0 e4_1 e4_2 e4_3 e4_4 e4_5 =>
(cond e4_2
((gd ((decide ((e4_5.length + ((([] : List Int) ++ [e4_1])).length) * 8 ≤ 140737488355328)))
(rec_ e4_0 ((w64 (e4_1 + 1))) e4_3 e4_4 ((e4_5 ++ (([] : List Int) ++ [e4_1]))))))
(rec_ e4_0 ((w64 (e4_1 + 1))) e4_3 e4_4 e4_5))))))))))
(k0 v4))))
theorem t_spec_l10Blocks_l0b {β : Type} (N : Nat)  (v0 : Int) (v1 : Int) (v2 : Int) (v3 : Int) (v4 : List Int) (rec_ : Int → Int → Int → Int → List Int → Option β) (k0 : List Int → Option β) : spec_l10Blocks_l0b N v0 v1 v2 v3 v4 rec_ k0 = BV_spec_l10Blocks_l0b N (spec_l10Blocks_l2 N) v0 v1 v2 v3 v4 rec_ k0 := by
  unfold spec_l10Blocks_l0b BV_spec_l10Blocks_l0b
  rfl
theorem vst141_0_0 {β : Type} (N : Nat) (q_spec_l10Blocks_l0 : Nat → Int → Int → Int → Int → List Int → (List Int → Option β) → Option β) (q_spec_l10Blocks_l2 : Nat → Int → Int → Bool → Int → Int → Int → List Int → (Int → Int → Bool → Int → Int → List Int → Option β) → Option β)  (v0 : Int) (v1 : Int) (v2 : Int) (v3 : Int) (v4 : List Int) (rec_ : St → Option β) (K : Exit → St → Option β) :
    ev lay (VE141 N q_spec_l10Blocks_l0 q_spec_l10Blocks_l2) (retMask Try.f141) (lp Try.f141 0).body (lp Try.f141 0).ex ((lp Try.f141 0).lv (retMask Try.f141)) (h141_0_0  v0 v1 v2 v3 v4) (nextR (fun s' => rec_ (s'.tidy ((lp Try.f141 0).lv (retMask Try.f141)))) K) = BV_spec_l10Blocks_l0b N q_spec_l10Blocks_l2  v0 v1 v2 v3 v4 (fun v0 v1 v2 v3 v4 => rec_ (h141_0_0  v0 v1 v2 v3 v4)) (fun y0 => K (.exit 0) (x141_0_0_k0  y0)) := by kernel_rfl
theorem st141_0_0 {β : Type} (N : Nat)  (v0 : Int) (v1 : Int) (v2 : Int) (v3 : Int) (v4 : List Int) (rec_ : St → Option β) (K : Exit → St → Option β) :
    ev lay (E141 N) (retMask Try.f141) (lp Try.f141 0).body (lp Try.f141 0).ex ((lp Try.f141 0).lv (retMask Try.f141)) (h141_0_0  v0 v1 v2 v3 v4) (nextR (fun s' => rec_ (s'.tidy ((lp Try.f141 0).lv (retMask Try.f141)))) K) = spec_l10Blocks_l0b N  v0 v1 v2 v3 v4 (fun v0 v1 v2 v3 v4 => rec_ (h141_0_0  v0 v1 v2 v3 v4)) (fun y0 => K (.exit 0) (x141_0_0_k0  y0)) := (vst141_0_0 N (spec_l10Blocks_l0 N) (spec_l10Blocks_l2 N) v0 v1 v2 v3 v4 rec_ K).trans (t_spec_l10Blocks_l0b N  v0 v1 v2 v3 v4 (fun v0 v1 v2 v3 v4 => rec_ (h141_0_0  v0 v1 v2 v3 v4)) (fun y0 => K (.exit 0) (x141_0_0_k0  y0))).symm
theorem ro141_0_0 {β : Type} (N : Nat)  (K : Exit → St → Option β) : ∀ (F : Nat) (v0 : Int) (v1 : Int) (v2 : Int) (v3 : Int) (v4 : List Int), (lp Try.f141 0).rounds lay (E141 N) (retMask Try.f141) F (h141_0_0  v0 v1 v2 v3 v4) K = spec_l10Blocks_l0 N  F v0 v1 v2 v3 v4 (fun y0 => K (.exit 0) (x141_0_0_k0  y0)) := by
  intro F
  induction F with
  | zero => intros; rfl
  | succ F ih =>
    intros
    rw [rounds_next]
    refine (st141_0_0 N  _ _ _ _ _ (fun s => (lp Try.f141 0).rounds lay (E141 N) (retMask Try.f141) F s K) K).trans ?_
    simp only [ih]
    rfl
theorem lk141_0 {β : Type} (N : Nat) : lookL (E141 (β := β) N).loops (lp Try.f141 0).id = LS141_0 N := by kernel_rfl
theorem rk141_0 {β : Type} (N : Nat) : RoundsOK lay (E141 (β := β) N) (retMask Try.f141) (lp Try.f141 0) := by
  intro s K r h
  rw [lk141_0] at h
  unfold LS141_0 VLS141_0 at h
  cases hb : shpSt (h141_0_0 0 0 0 0 []) s with
  | true =>
    rw [hb, cond_true] at h
    exact ⟨N, by rw [← shpSt_ref hb, fl141_0_0 s]; exact (ro141_0_0 N  K N (intS (oneA (vT (nx tund s.tmps 1)))) (intS (oneA (vT (nx tund s.tmps 6)))) (intS (nx .und (cellsB (nx .dead s.blks 0)) 0)) (intS (nx .und (cellsB (nx .dead s.blks 0)) 1)) (rInts (rowB_ (nx .dead s.blks 1)))).trans h⟩
  | false =>
  rw [hb, cond_false] at h
  clear hb
  cases h
def BV_spec_l10Blocks_l2b {β : Type} (N : Nat)  (v0 : Int) (v1 : Int) (v2 : Bool) (v3 : Int) (v4 : Int) (v5 : Int) (v6 : List Int) (rec_ : Int → Int → Bool → Int → Int → Int → List Int → Option β) (k0 : Int → Int → Bool → Int → Int → List Int → Option β) : Option β :=
(cond ((decide (v3 < (v6.length : Int))))
((cond v2
((gd ((decide (0 ≤ v3)))
((gd ((decide (v3 < (v6.length : Int))))
((gd ((decide (0 ≤ v3)))
((gd ((decide (v3 < (v6.length : Int))))
(rec_ v0 v1 (((bits .and .i64 (rd 0 v6 v3) v1) != (rd 0 v6 v3))) ((w64 (v3 + 1))) v4 v5 v6)))))))))
(rec_ v0 v1 false ((w64 (v3 + 1))) v4 v5 v6)))
(k0 v0 v1 v2 v4 v5 v6))
theorem t_spec_l10Blocks_l2b {β : Type} (N : Nat)  (v0 : Int) (v1 : Int) (v2 : Bool) (v3 : Int) (v4 : Int) (v5 : Int) (v6 : List Int) (rec_ : Int → Int → Bool → Int → Int → Int → List Int → Option β) (k0 : Int → Int → Bool → Int → Int → List Int → Option β) : spec_l10Blocks_l2b N v0 v1 v2 v3 v4 v5 v6 rec_ k0 = BV_spec_l10Blocks_l2b N v0 v1 v2 v3 v4 v5 v6 rec_ k0 := by
  unfold spec_l10Blocks_l2b BV_spec_l10Blocks_l2b
  rfl
theorem vst141_1_0 {β : Type} (N : Nat) (q_spec_l10Blocks_l0 : Nat → Int → Int → Int → Int → List Int → (List Int → Option β) → Option β) (q_spec_l10Blocks_l2 : Nat → Int → Int → Bool → Int → Int → Int → List Int → (Int → Int → Bool → Int → Int → List Int → Option β) → Option β)  (v0 : Int) (v1 : Int) (v2 : Bool) (v3 : Int) (v4 : Int) (v5 : Int) (v6 : List Int) (rec_ : St → Option β) (K : Exit → St → Option β) :
    ev lay (VE141 N q_spec_l10Blocks_l0 q_spec_l10Blocks_l2) (retMask Try.f141) (lp Try.f141 1).body (lp Try.f141 1).ex ((lp Try.f141 1).lv (retMask Try.f141)) (h141_1_0  v0 v1 v2 v3 v4 v5 v6) (nextR (fun s' => rec_ (s'.tidy ((lp Try.f141 1).lv (retMask Try.f141)))) K) = BV_spec_l10Blocks_l2b N  v0 v1 v2 v3 v4 v5 v6 (fun v0 v1 v2 v3 v4 v5 v6 => rec_ (h141_1_0  v0 v1 v2 v3 v4 v5 v6)) (fun y0 y1 y2 y3 y4 y5 => K (.exit 2) (x141_1_0_k0  y0 y1 y2 y3 y4 y5)) := by kernel_rfl
theorem st141_1_0 {β : Type} (N : Nat)  (v0 : Int) (v1 : Int) (v2 : Bool) (v3 : Int) (v4 : Int) (v5 : Int) (v6 : List Int) (rec_ : St → Option β) (K : Exit → St → Option β) :
    ev lay (E141 N) (retMask Try.f141) (lp Try.f141 1).body (lp Try.f141 1).ex ((lp Try.f141 1).lv (retMask Try.f141)) (h141_1_0  v0 v1 v2 v3 v4 v5 v6) (nextR (fun s' => rec_ (s'.tidy ((lp Try.f141 1).lv (retMask Try.f141)))) K) = spec_l10Blocks_l2b N  v0 v1 v2 v3 v4 v5 v6 (fun v0 v1 v2 v3 v4 v5 v6 => rec_ (h141_1_0  v0 v1 v2 v3 v4 v5 v6)) (fun y0 y1 y2 y3 y4 y5 => K (.exit 2) (x141_1_0_k0  y0 y1 y2 y3 y4 y5)) := (vst141_1_0 N (spec_l10Blocks_l0 N) (spec_l10Blocks_l2 N) v0 v1 v2 v3 v4 v5 v6 rec_ K).trans (t_spec_l10Blocks_l2b N  v0 v1 v2 v3 v4 v5 v6 (fun v0 v1 v2 v3 v4 v5 v6 => rec_ (h141_1_0  v0 v1 v2 v3 v4 v5 v6)) (fun y0 y1 y2 y3 y4 y5 => K (.exit 2) (x141_1_0_k0  y0 y1 y2 y3 y4 y5))).symm
theorem ro141_1_0 {β : Type} (N : Nat)  (K : Exit → St → Option β) : ∀ (F : Nat) (v0 : Int) (v1 : Int) (v2 : Bool) (v3 : Int) (v4 : Int) (v5 : Int) (v6 : List Int), (lp Try.f141 1).rounds lay (E141 N) (retMask Try.f141) F (h141_1_0  v0 v1 v2 v3 v4 v5 v6) K = spec_l10Blocks_l2 N  F v0 v1 v2 v3 v4 v5 v6 (fun y0 y1 y2 y3 y4 y5 => K (.exit 2) (x141_1_0_k0  y0 y1 y2 y3 y4 y5)) := by
  intro F
  induction F with
  | zero => intros; rfl
  | succ F ih =>
    intros
    rw [rounds_next]
    refine (st141_1_0 N  _ _ _ _ _ _ _ (fun s => (lp Try.f141 1).rounds lay (E141 N) (retMask Try.f141) F s K) K).trans ?_
    simp only [ih]
    rfl
theorem lk141_2 {β : Type} (N : Nat) : lookL (E141 (β := β) N).loops (lp Try.f141 1).id = LS141_2 N := by kernel_rfl
theorem rk141_2 {β : Type} (N : Nat) : RoundsOK lay (E141 (β := β) N) (retMask Try.f141) (lp Try.f141 1) := by
  intro s K r h
  rw [lk141_2] at h
  unfold LS141_2 VLS141_2 at h
  cases hb : shpSt (h141_1_0 0 0 false 0 0 0 []) s with
  | true =>
    rw [hb, cond_true] at h
    exact ⟨N, by rw [← shpSt_ref hb, fl141_1_0 s]; exact (ro141_1_0 N  K N (intS (oneA (vT (nx tund s.tmps 1)))) (intS (oneA (vT (nx tund s.tmps 6)))) (boolS (oneA (vT (nx tund s.tmps 7)))) (intS (oneA (vT (nx tund s.tmps 8)))) (intS (nx .und (cellsB (nx .dead s.blks 0)) 0)) (intS (nx .und (cellsB (nx .dead s.blks 0)) 1)) (rInts (rowB_ (nx .dead s.blks 1)))).trans h⟩
  | false =>
  rw [hb, cond_false] at h
  clear hb
  cases h
def BV_spec_l10Blocks {β : Type} (N : Nat) (q_spec_l10Blocks_l0 : Nat → Int → Int → Int → Int → List Int → (List Int → Option β) → Option β) (a0 : Int) (a1 : Int) (a2 : Int) (k : List Int → Option β) : Option β :=
q_spec_l10Blocks_l0  N a2 1 a0 a1 (([] : List Int)) (fun e5_0 =>
k e5_0)
theorem t_spec_l10Blocks {β : Type} (N : Nat) (a0 : Int) (a1 : Int) (a2 : Int) (k : List Int → Option β) : spec_l10Blocks N a0 a1 a2 k = BV_spec_l10Blocks N (spec_l10Blocks_l0 N) a0 a1 a2 k := by
  unfold spec_l10Blocks BV_spec_l10Blocks
  rfl
theorem ve141_0 {β : Type} (N : Nat) (q_spec_l10Blocks_l0 : Nat → Int → Int → Int → Int → List Int → (List Int → Option β) → Option β) (q_spec_l10Blocks_l2 : Nat → Int → Int → Bool → Int → Int → Int → List Int → (Int → Int → Bool → Int → Int → List Int → Option β) → Option β)  (a0 : Int) (a1 : Int) (a2 : Int) (K : TV → Option β) : evFn lay (VE141 N q_spec_l10Blocks_l0 q_spec_l10Blocks_l2) Try.f141 [.v (.agg [.int .i64 a0, .int .i64 a1]), .v (.one (.int .i64 a2))] K = BV_spec_l10Blocks N q_spec_l10Blocks_l0 a0 a1 a2 (fun z3 => K (.v (.one (.sl 3 (.ints .i64 z3))))) := by kernel_rfl
theorem e141_0 {β : Type} (N : Nat)  (a0 : Int) (a1 : Int) (a2 : Int) (K : TV → Option β) : evFn lay (E141 N) Try.f141 [.v (.agg [.int .i64 a0, .int .i64 a1]), .v (.one (.int .i64 a2))] K = spec_l10Blocks N a0 a1 a2 (fun z3 => K (.v (.one (.sl 3 (.ints .i64 z3))))) := (ve141_0 N (spec_l10Blocks_l0 N) (spec_l10Blocks_l2 N) a0 a1 a2 K).trans (t_spec_l10Blocks N a0 a1 a2 (fun z3 => K (.v (.one (.sl 3 (.ints .i64 z3)))))).symm
theorem o141 {β : Type} (N : Nat) : SpecOK (β := β) Try.prog 141 (S141 N) := by
  refine spec_of lay_ok mixed (E := E141 N) (specs_loops specs_nil) muts_nil gs_nil Try.func141 (by kernel_rfl) 2 (by kernel_rfl) ⟨⟨trivial, rk141_0 N⟩, rk141_2 N⟩ fun args K r h => ?_
  unfold S141 VS141 at h
  split at h
  · exact (e141_0 N _ _ _ _).trans h
  · cases h
def VSF140 {β : Type} (N : Nat) (q_spec_l10Pack_f : Nat → List Int → Int → Int → (Int → Option β) → Option β) (G : Nat) : Rv.Spec β := fun args K => match args with
  | [.v (.one (.sl 3 (.ints .i64 a0))), .v (.one (.int .i64 a1)), .v (.one (.int .i64 a2))] => q_spec_l10Pack_f G a0 a1 a2 (fun z3 => K (.v (.one (.int .i64 z3))))
  | _ => none
def SF140 {β : Type} (N : Nat) (G : Nat) : Rv.Spec β := VSF140 N (spec_l10Pack_f N) G
def VS140 {β : Type} (N : Nat) (q_spec_l10Pack_f : Nat → List Int → Int → Int → (Int → Option β) → Option β) : Rv.Spec β := VSF140 N q_spec_l10Pack_f N
def S140 {β : Type} (N : Nat) : Rv.Spec β := SF140 N N
def h140_0_0  (v0 : List Int) (v1 : Int) (v2 : Int) (v3 : Int) : St := ⟨.v (.one (.sl 3 (.ints .i64 v0))) :: .v (.one .und) :: .v (.one (.int .i64 v1)) :: .v (.one .und) :: .v (.one .und) :: .v (.one .und) :: .v (.one .und) :: .v (.one (.int .i64 v2)) :: .v (.one (.int .i64 v3)) :: .v (.one .und) :: .v (.one .und) :: .v (.one .und) :: .v (.one .und) :: .v (.one .und) :: .v (.one .und) :: .v (.one .und) :: .v (.one .und) :: .v (.one .und) :: .v (.one .und) :: .v (.one .und) :: .v (.one .und) :: .v (.one .und) :: .v (.one .und) :: .v (.one .und) :: .v (.one .und) :: .v (.one .und) :: .v (.one .und) :: .v (.one .und) :: .v (.one .und) :: .v (.one .und) :: .v (.one .und) :: .v (.one .und) :: .v (.one .und) :: .v (.one .und) :: .v (.one .und) :: .v (.one .und) :: .v (.one .und) :: [], []⟩
def x140_0_0_k0  (y0 : Int) : St := ⟨.v (.one .und) :: .v (.one .und) :: .v (.one .und) :: .v (.one .und) :: .v (.one .und) :: .v (.one .und) :: .v (.one .und) :: .v (.one (.int .i64 y0)) :: .v (.one .und) :: .v (.one .und) :: .v (.one .und) :: .v (.one .und) :: .v (.one .und) :: .v (.one .und) :: .v (.one .und) :: .v (.one .und) :: .v (.one .und) :: .v (.one .und) :: .v (.one .und) :: .v (.one .und) :: .v (.one .und) :: .v (.one .und) :: .v (.one .und) :: .v (.one .und) :: .v (.one .und) :: .v (.one .und) :: .v (.one .und) :: .v (.one .und) :: .v (.one .und) :: .v (.one .und) :: .v (.one .und) :: .v (.one .und) :: .v (.one .und) :: .v (.one .und) :: .v (.one .und) :: .v (.one .und) :: .v (.one .und) :: [], []⟩
theorem fl140_0_0 (s : St) : refSt (h140_0_0 [] 0 0 0) s = h140_0_0 (rInts (rowV (oneA (vT (nx tund s.tmps 0))))) (intS (oneA (vT (nx tund s.tmps 2)))) (intS (oneA (vT (nx tund s.tmps 7)))) (intS (oneA (vT (nx tund s.tmps 8)))) := by kernel_rfl
def VLS140_0 {β : Type} (N : Nat) (q_spec_l10Pack_l0 : (self : List Int → Int → Int → (Int → Option β) → Option β) → Nat → List Int → Int → Int → Int → (Int → Option β) → Option β) (q_spec_l10Pack_f : Nat → List Int → Int → Int → (Int → Option β) → Option β) (G : Nat) : LSpec β := fun s K => cond (shpSt (h140_0_0 [] 0 0 0) s) ((fun (v0 : List Int) (v1 : Int) (v2 : Int) (v3 : Int) => q_spec_l10Pack_l0 (q_spec_l10Pack_f G)  N v0 v1 v2 v3 (fun y0 => K (.exit 0) (x140_0_0_k0  y0))) (rInts (rowV (oneA (vT (nx tund s.tmps 0))))) (intS (oneA (vT (nx tund s.tmps 2)))) (intS (oneA (vT (nx tund s.tmps 7)))) (intS (oneA (vT (nx tund s.tmps 8))))) (none)
def LS140_0 {β : Type} (N : Nat) (G : Nat) : LSpec β := VLS140_0 N (spec_l10Pack_l0 N) (spec_l10Pack_f N) G
def VE140 {β : Type} (N : Nat) (q_spec_l10Pack_f : Nat → List Int → Int → Int → (Int → Option β) → Option β) (q_spec_l10Pack_l0 : (self : List Int → Int → Int → (Int → Option β) → Option β) → Nat → List Int → Int → Int → Int → (Int → Option β) → Option β) (G : Nat) : Env β := ⟨[(140, VSF140 N q_spec_l10Pack_f G)], [], [(0, VLS140_0 N q_spec_l10Pack_l0 q_spec_l10Pack_f G)], []⟩
def E140 {β : Type} (N : Nat) (G : Nat) : Env β := VE140 N (spec_l10Pack_f N) (spec_l10Pack_l0 N) G
def BV_spec_l10Pack_l0b {β : Type} (N : Nat) (self : List Int → Int → Int → (Int → Option β) → Option β)  (v0 : List Int) (v1 : Int) (v2 : Int) (v3 : Int) (rec_ : List Int → Int → Int → Int → Option β) (k0 : Int → Option β) : Option β :=
(cond ((decide (v3 < (v0.length : Int))))
((gd ((decide (0 ≤ v3)))
((gd ((decide (v3 < (v0.length : Int))))
((cond (((bits .and .i64 (rd 0 v0 v3) v1) == 0))
((gd ((decide (0 ≤ v3)))
((gd ((decide (v3 < (v0.length : Int))))
(self v0 ((w64 (v3 + 1))) ((bits .or .i64 v1 (rd 0 v0 v3))) fun r4 =>
rec_ v0 v1 ((mxI v2 (w64 (1 + r4)))) ((w64 (v3 + 1))))))))
(rec_ v0 v1 v2 ((w64 (v3 + 1))))))))))
(k0 v2))
theorem t_spec_l10Pack_l0b {β : Type} (N : Nat) (self : List Int → Int → Int → (Int → Option β) → Option β)  (v0 : List Int) (v1 : Int) (v2 : Int) (v3 : Int) (rec_ : List Int → Int → Int → Int → Option β) (k0 : Int → Option β) : spec_l10Pack_l0b N self v0 v1 v2 v3 rec_ k0 = BV_spec_l10Pack_l0b N self v0 v1 v2 v3 rec_ k0 := by
  unfold spec_l10Pack_l0b BV_spec_l10Pack_l0b
  rfl
theorem vst140_0_0 {β : Type} (N : Nat) (q_spec_l10Pack_f : Nat → List Int → Int → Int → (Int → Option β) → Option β) (q_spec_l10Pack_l0 : (self : List Int → Int → Int → (Int → Option β) → Option β) → Nat → List Int → Int → Int → Int → (Int → Option β) → Option β) (G : Nat)  (v0 : List Int) (v1 : Int) (v2 : Int) (v3 : Int) (rec_ : St → Option β) (K : Exit → St → Option β) :
    ev lay (VE140 N q_spec_l10Pack_f q_spec_l10Pack_l0 G) (retMask Try.f140) (lp Try.f140 0).body (lp Try.f140 0).ex ((lp Try.f140 0).lv (retMask Try.f140)) (h140_0_0  v0 v1 v2 v3) (nextR (fun s' => rec_ (s'.tidy ((lp Try.f140 0).lv (retMask Try.f140)))) K) = BV_spec_l10Pack_l0b N (q_spec_l10Pack_f G)  v0 v1 v2 v3 (fun v0 v1 v2 v3 => rec_ (h140_0_0  v0 v1 v2 v3)) (fun y0 => K (.exit 0) (x140_0_0_k0  y0)) := by kernel_rfl
theorem st140_0_0 {β : Type} (N : Nat) (G : Nat)  (v0 : List Int) (v1 : Int) (v2 : Int) (v3 : Int) (rec_ : St → Option β) (K : Exit → St → Option β) :
    ev lay (E140 N G) (retMask Try.f140) (lp Try.f140 0).body (lp Try.f140 0).ex ((lp Try.f140 0).lv (retMask Try.f140)) (h140_0_0  v0 v1 v2 v3) (nextR (fun s' => rec_ (s'.tidy ((lp Try.f140 0).lv (retMask Try.f140)))) K) = spec_l10Pack_l0b N (spec_l10Pack_f N G)  v0 v1 v2 v3 (fun v0 v1 v2 v3 => rec_ (h140_0_0  v0 v1 v2 v3)) (fun y0 => K (.exit 0) (x140_0_0_k0  y0)) := (vst140_0_0 N (spec_l10Pack_f N) (spec_l10Pack_l0 N) G v0 v1 v2 v3 rec_ K).trans (t_spec_l10Pack_l0b N (spec_l10Pack_f N G)  v0 v1 v2 v3 (fun v0 v1 v2 v3 => rec_ (h140_0_0  v0 v1 v2 v3)) (fun y0 => K (.exit 0) (x140_0_0_k0  y0))).symm
theorem ro140_0_0 {β : Type} (N : Nat) (G : Nat)  (K : Exit → St → Option β) : ∀ (F : Nat) (v0 : List Int) (v1 : Int) (v2 : Int) (v3 : Int), (lp Try.f140 0).rounds lay (E140 N G) (retMask Try.f140) F (h140_0_0  v0 v1 v2 v3) K = spec_l10Pack_l0 N (spec_l10Pack_f N G)  F v0 v1 v2 v3 (fun y0 => K (.exit 0) (x140_0_0_k0  y0)) := by
  intro F
  induction F with
  | zero => intros; rfl
  | succ F ih =>
    intros
    rw [rounds_next]
    refine (st140_0_0 N G  _ _ _ _ (fun s => (lp Try.f140 0).rounds lay (E140 N G) (retMask Try.f140) F s K) K).trans ?_
    simp only [ih]
    rfl
theorem lk140_0 {β : Type} (N : Nat) (G : Nat) : lookL (E140 (β := β) N G).loops (lp Try.f140 0).id = LS140_0 N G := by kernel_rfl
theorem rk140_0 {β : Type} (N : Nat) (G : Nat) : RoundsOK lay (E140 (β := β) N G) (retMask Try.f140) (lp Try.f140 0) := by
  intro s K r h
  rw [lk140_0] at h
  unfold LS140_0 VLS140_0 at h
  cases hb : shpSt (h140_0_0 [] 0 0 0) s with
  | true =>
    rw [hb, cond_true] at h
    exact ⟨N, by rw [← shpSt_ref hb, fl140_0_0 s]; exact (ro140_0_0 N G  K N (rInts (rowV (oneA (vT (nx tund s.tmps 0))))) (intS (oneA (vT (nx tund s.tmps 2)))) (intS (oneA (vT (nx tund s.tmps 7)))) (intS (oneA (vT (nx tund s.tmps 8))))).trans h⟩
  | false =>
  rw [hb, cond_false] at h
  clear hb
  cases h
def BV_spec_l10Pack_b {β : Type} (N : Nat) (q_spec_l10Pack_l0 : (self : List Int → Int → Int → (Int → Option β) → Option β) → Nat → List Int → Int → Int → Int → (Int → Option β) → Option β) (self : List Int → Int → Int → (Int → Option β) → Option β) (a0 : List Int) (a1 : Int) (a2 : Int) (k : Int → Option β) : Option β :=
q_spec_l10Pack_l0 self  N a0 a2 0 a1 (fun e5_0 =>
k e5_0)
theorem t_spec_l10Pack_b {β : Type} (N : Nat) (self : List Int → Int → Int → (Int → Option β) → Option β) (a0 : List Int) (a1 : Int) (a2 : Int) (k : Int → Option β) : spec_l10Pack_b N self a0 a1 a2 k = BV_spec_l10Pack_b N (spec_l10Pack_l0 N) self a0 a1 a2 k := by
  unfold spec_l10Pack_b BV_spec_l10Pack_b
  rfl
theorem ve140_0 {β : Type} (N : Nat) (q_spec_l10Pack_f : Nat → List Int → Int → Int → (Int → Option β) → Option β) (q_spec_l10Pack_l0 : (self : List Int → Int → Int → (Int → Option β) → Option β) → Nat → List Int → Int → Int → Int → (Int → Option β) → Option β) (G : Nat)  (a0 : List Int) (a1 : Int) (a2 : Int) (K : TV → Option β) : evFn lay (VE140 N q_spec_l10Pack_f q_spec_l10Pack_l0 G) Try.f140 [.v (.one (.sl 3 (.ints .i64 a0))), .v (.one (.int .i64 a1)), .v (.one (.int .i64 a2))] K = BV_spec_l10Pack_b N q_spec_l10Pack_l0 (q_spec_l10Pack_f G) a0 a1 a2 (fun z3 => K (.v (.one (.int .i64 z3)))) := by kernel_rfl
theorem e140_0 {β : Type} (N : Nat) (G : Nat)  (a0 : List Int) (a1 : Int) (a2 : Int) (K : TV → Option β) : evFn lay (E140 N G) Try.f140 [.v (.one (.sl 3 (.ints .i64 a0))), .v (.one (.int .i64 a1)), .v (.one (.int .i64 a2))] K = spec_l10Pack_f N (G + 1) a0 a1 a2 (fun z3 => K (.v (.one (.int .i64 z3)))) := (ve140_0 N (spec_l10Pack_f N) (spec_l10Pack_l0 N) G a0 a1 a2 K).trans (t_spec_l10Pack_b N (spec_l10Pack_f N G) a0 a1 a2 (fun z3 => K (.v (.one (.int .i64 z3))))).symm
theorem z140 {β : Type} (N : Nat) : ∀ args K r, SF140 (β := β) N 0 args K = some r → (none : Option β) = some r := by
  intro args K r h
  unfold SF140 VSF140 at h
  split at h <;> exact h
theorem of140 {β : Type} (N : Nat) : ∀ G, SpecOK (β := β) Try.prog 140 (SF140 N G) := by
  intro G
  induction G with
  | zero => exact s_zero Try.func140 (by kernel_rfl) (z140 N)
  | succ G ih =>
    refine spec_of lay_ok mixed (E := E140 N G) (specs_loops (specs_cons ih specs_nil)) muts_nil gs_nil Try.func140 (by kernel_rfl) 1 (by kernel_rfl) ⟨trivial, rk140_0 N G⟩ fun args K r h => ?_
    unfold SF140 VSF140 at h
    split at h
    · exact (e140_0 N G _ _ _ _).trans h
    · cases h
theorem o140 {β : Type} (N : Nat) : SpecOK (β := β) Try.prog 140 (S140 N) := of140 N N
def VS123 {β : Type} (N : Nat) (q_spec_BlockSensitivityAt : (a0 : Int) → (a1 : Int) → (a2 : Int) → (k : Int → Option β) → Option β) : Rv.Spec β := fun args K => match args with
  | [.v (.agg [.int .i64 a0, .int .i64 a1]), .v (.one (.int .i64 a2))] => q_spec_BlockSensitivityAt a0 a1 a2 (fun z3 => K (.v (.one (.int .i64 z3))))
  | _ => none
def S123 {β : Type} (N : Nat) : Rv.Spec β := VS123 N (spec_BlockSensitivityAt N)
def VE123 {β : Type} (N : Nat) (q_spec_l9In : (a0 : Int) → (a1 : Int) → (a2 : Int) → (k : Bool → Option β) → Option β) (q_spec_l10Blocks : (a0 : Int) → (a1 : Int) → (a2 : Int) → (k : List Int → Option β) → Option β) (q_spec_l10Pack_f : Nat → List Int → Int → Int → (Int → Option β) → Option β) : Env β := ⟨[(58, VS58 N q_spec_l9In), (141, VS141 N q_spec_l10Blocks), (140, VS140 N q_spec_l10Pack_f)], [], [], []⟩
def E123 {β : Type} (N : Nat) : Env β := VE123 N (spec_l9In N) (spec_l10Blocks N) (spec_l10Pack_f N)
def BV_spec_BlockSensitivityAt {β : Type} (N : Nat) (q_spec_l9In : (a0 : Int) → (a1 : Int) → (a2 : Int) → (k : Bool → Option β) → Option β) (q_spec_l10Blocks : (a0 : Int) → (a1 : Int) → (a2 : Int) → (k : List Int → Option β) → Option β) (q_spec_l10Pack_f : Nat → List Int → Int → Int → (Int → Option β) → Option β) (a0 : Int) (a1 : Int) (a2 : Int) (k : Int → Option β) : Option β :=
q_spec_l9In a0 a1 a2 fun r4 =>
(cond (!r4)
(k (-1))
(q_spec_l10Blocks a0 a1 a2 fun r5 =>
q_spec_l10Pack_f N r5 0 0 fun r6 =>
k r6))
theorem t_spec_BlockSensitivityAt {β : Type} (N : Nat) (a0 : Int) (a1 : Int) (a2 : Int) (k : Int → Option β) : spec_BlockSensitivityAt N a0 a1 a2 k = BV_spec_BlockSensitivityAt N (spec_l9In N) (spec_l10Blocks N) (spec_l10Pack_f N) a0 a1 a2 k := by
  unfold spec_BlockSensitivityAt BV_spec_BlockSensitivityAt
  rfl
theorem ve123_0 {β : Type} (N : Nat) (q_spec_l9In : (a0 : Int) → (a1 : Int) → (a2 : Int) → (k : Bool → Option β) → Option β) (q_spec_l10Blocks : (a0 : Int) → (a1 : Int) → (a2 : Int) → (k : List Int → Option β) → Option β) (q_spec_l10Pack_f : Nat → List Int → Int → Int → (Int → Option β) → Option β)  (a0 : Int) (a1 : Int) (a2 : Int) (K : TV → Option β) : evFn lay (VE123 N q_spec_l9In q_spec_l10Blocks q_spec_l10Pack_f) Try.f123 [.v (.agg [.int .i64 a0, .int .i64 a1]), .v (.one (.int .i64 a2))] K = BV_spec_BlockSensitivityAt N q_spec_l9In q_spec_l10Blocks q_spec_l10Pack_f a0 a1 a2 (fun z3 => K (.v (.one (.int .i64 z3)))) := by kernel_rfl
theorem e123_0 {β : Type} (N : Nat)  (a0 : Int) (a1 : Int) (a2 : Int) (K : TV → Option β) : evFn lay (E123 N) Try.f123 [.v (.agg [.int .i64 a0, .int .i64 a1]), .v (.one (.int .i64 a2))] K = spec_BlockSensitivityAt N a0 a1 a2 (fun z3 => K (.v (.one (.int .i64 z3)))) := (ve123_0 N (spec_l9In N) (spec_l10Blocks N) (spec_l10Pack_f N) a0 a1 a2 K).trans (t_spec_BlockSensitivityAt N a0 a1 a2 (fun z3 => K (.v (.one (.int .i64 z3))))).symm
theorem o123 {β : Type} (N : Nat) : SpecOK (β := β) Try.prog 123 (S123 N) := by
  refine spec_of lay_ok mixed (E := E123 N) (specs_loops (specs_cons (o58 N) (specs_cons (o141 N) (specs_cons (o140 N) specs_nil)))) muts_nil gs_nil Try.func123 (by kernel_rfl) 0 (by kernel_rfl) trivial fun args K r h => ?_
  unfold S123 VS123 at h
  split at h
  · exact (e123_0 N _ _ _ _).trans h
  · cases h
def VS96 {β : Type} (N : Nat) (q_spec_BlockSensitivityOf : (a0 : Int) → (a1 : Int) → (k : Int → Option β) → Option β) : Rv.Spec β := fun args K => match args with
  | [.v (.agg [.int .i64 a0, .int .i64 a1])] => q_spec_BlockSensitivityOf a0 a1 (fun z2 => K (.v (.one (.int .i64 z2))))
  | _ => none
def S96 {β : Type} (N : Nat) : Rv.Spec β := VS96 N (spec_BlockSensitivityOf N)
def h96_0_0  (v0 : Int) (v1 : Int) (v2 : Int) (v3 : Int) : St := ⟨.v (.one .und) :: .v (.one (.ptr 0 0)) :: .v (.one .und) :: .v (.one (.int .i64 v0)) :: .v (.one (.int .i64 v1)) :: .v (.one .und) :: .v (.one .und) :: .v (.one .und) :: .v (.one .und) :: .v (.one .und) :: .v (.one .und) :: .v (.one .und) :: .v (.one .und) :: .v (.one .und) :: .v (.one .und) :: .v (.one .und) :: .v (.one .und) :: .v (.one .und) :: .v (.one .und) :: .v (.one .und) :: .v (.one .und) :: [], [.cells 25 [.int .i64 v2, .int .i64 v3]]⟩
def x96_0_0_k0  (y0 : Int) : St := ⟨.v (.one .und) :: .v (.one .und) :: .v (.one .und) :: .v (.one (.int .i64 y0)) :: .v (.one .und) :: .v (.one .und) :: .v (.one .und) :: .v (.one .und) :: .v (.one .und) :: .v (.one .und) :: .v (.one .und) :: .v (.one .und) :: .v (.one .und) :: .v (.one .und) :: .v (.one .und) :: .v (.one .und) :: .v (.one .und) :: .v (.one .und) :: .v (.one .und) :: .v (.one .und) :: .v (.one .und) :: [], []⟩
theorem fl96_0_0 (s : St) : refSt (h96_0_0 0 0 0 0) s = h96_0_0 (intS (oneA (vT (nx tund s.tmps 3)))) (intS (oneA (vT (nx tund s.tmps 4)))) (intS (nx .und (cellsB (nx .dead s.blks 0)) 0)) (intS (nx .und (cellsB (nx .dead s.blks 0)) 1)) := by kernel_rfl
def VLS96_0 {β : Type} (N : Nat) (q_spec_BlockSensitivityOf_l0 : Nat → Int → Int → Int → Int → (Int → Option β) → Option β) : LSpec β := fun s K => cond (shpSt (h96_0_0 0 0 0 0) s) ((fun (v0 : Int) (v1 : Int) (v2 : Int) (v3 : Int) => q_spec_BlockSensitivityOf_l0  N v0 v1 v2 v3 (fun y0 => K (.exit 0) (x96_0_0_k0  y0))) (intS (oneA (vT (nx tund s.tmps 3)))) (intS (oneA (vT (nx tund s.tmps 4)))) (intS (nx .und (cellsB (nx .dead s.blks 0)) 0)) (intS (nx .und (cellsB (nx .dead s.blks 0)) 1))) (none)
def LS96_0 {β : Type} (N : Nat) : LSpec β := VLS96_0 N (spec_BlockSensitivityOf_l0 N)
def VE96 {β : Type} (N : Nat) (q_spec_IsTable : (a0 : Int) → (a1 : Int) → (k : Bool → Option β) → Option β) (q_spec_BlockSensitivityAt : (a0 : Int) → (a1 : Int) → (a2 : Int) → (k : Int → Option β) → Option β) (q_spec_BlockSensitivityOf_l0 : Nat → Int → Int → Int → Int → (Int → Option β) → Option β) : Env β := ⟨[(69, VS69 N q_spec_IsTable), (123, VS123 N q_spec_BlockSensitivityAt)], [], [(0, VLS96_0 N q_spec_BlockSensitivityOf_l0)], []⟩
def E96 {β : Type} (N : Nat) : Env β := VE96 N (spec_IsTable N) (spec_BlockSensitivityAt N) (spec_BlockSensitivityOf_l0 N)
def BV_spec_BlockSensitivityOf_l0b {β : Type} (N : Nat) (q_spec_BlockSensitivityAt : (a0 : Int) → (a1 : Int) → (a2 : Int) → (k : Int → Option β) → Option β)  (v0 : Int) (v1 : Int) (v2 : Int) (v3 : Int) (rec_ : Int → Int → Int → Int → Option β) (k0 : Int → Option β) : Option β :=
(gd ((decide (0 ≤ v2)))
((cond ((decide (v1 < (shlI .i64 1 v2))))
(q_spec_BlockSensitivityAt v2 v3 v1 fun r4 =>
rec_ ((mxI v0 r4)) ((w64 (v1 + 1))) v2 v3)
(k0 v0))))
theorem t_spec_BlockSensitivityOf_l0b {β : Type} (N : Nat)  (v0 : Int) (v1 : Int) (v2 : Int) (v3 : Int) (rec_ : Int → Int → Int → Int → Option β) (k0 : Int → Option β) : spec_BlockSensitivityOf_l0b N v0 v1 v2 v3 rec_ k0 = BV_spec_BlockSensitivityOf_l0b N (spec_BlockSensitivityAt N) v0 v1 v2 v3 rec_ k0 := by
  unfold spec_BlockSensitivityOf_l0b BV_spec_BlockSensitivityOf_l0b
  rfl
theorem vst96_0_0 {β : Type} (N : Nat) (q_spec_IsTable : (a0 : Int) → (a1 : Int) → (k : Bool → Option β) → Option β) (q_spec_BlockSensitivityAt : (a0 : Int) → (a1 : Int) → (a2 : Int) → (k : Int → Option β) → Option β) (q_spec_BlockSensitivityOf_l0 : Nat → Int → Int → Int → Int → (Int → Option β) → Option β)  (v0 : Int) (v1 : Int) (v2 : Int) (v3 : Int) (rec_ : St → Option β) (K : Exit → St → Option β) :
    ev lay (VE96 N q_spec_IsTable q_spec_BlockSensitivityAt q_spec_BlockSensitivityOf_l0) (retMask Try.f96) (lp Try.f96 0).body (lp Try.f96 0).ex ((lp Try.f96 0).lv (retMask Try.f96)) (h96_0_0  v0 v1 v2 v3) (nextR (fun s' => rec_ (s'.tidy ((lp Try.f96 0).lv (retMask Try.f96)))) K) = BV_spec_BlockSensitivityOf_l0b N q_spec_BlockSensitivityAt  v0 v1 v2 v3 (fun v0 v1 v2 v3 => rec_ (h96_0_0  v0 v1 v2 v3)) (fun y0 => K (.exit 0) (x96_0_0_k0  y0)) := by kernel_rfl
theorem st96_0_0 {β : Type} (N : Nat)  (v0 : Int) (v1 : Int) (v2 : Int) (v3 : Int) (rec_ : St → Option β) (K : Exit → St → Option β) :
    ev lay (E96 N) (retMask Try.f96) (lp Try.f96 0).body (lp Try.f96 0).ex ((lp Try.f96 0).lv (retMask Try.f96)) (h96_0_0  v0 v1 v2 v3) (nextR (fun s' => rec_ (s'.tidy ((lp Try.f96 0).lv (retMask Try.f96)))) K) = spec_BlockSensitivityOf_l0b N  v0 v1 v2 v3 (fun v0 v1 v2 v3 => rec_ (h96_0_0  v0 v1 v2 v3)) (fun y0 => K (.exit 0) (x96_0_0_k0  y0)) := (vst96_0_0 N (spec_IsTable N) (spec_BlockSensitivityAt N) (spec_BlockSensitivityOf_l0 N) v0 v1 v2 v3 rec_ K).trans (t_spec_BlockSensitivityOf_l0b N  v0 v1 v2 v3 (fun v0 v1 v2 v3 => rec_ (h96_0_0  v0 v1 v2 v3)) (fun y0 => K (.exit 0) (x96_0_0_k0  y0))).symm
theorem ro96_0_0 {β : Type} (N : Nat)  (K : Exit → St → Option β) : ∀ (F : Nat) (v0 : Int) (v1 : Int) (v2 : Int) (v3 : Int), (lp Try.f96 0).rounds lay (E96 N) (retMask Try.f96) F (h96_0_0  v0 v1 v2 v3) K = spec_BlockSensitivityOf_l0 N  F v0 v1 v2 v3 (fun y0 => K (.exit 0) (x96_0_0_k0  y0)) := by
  intro F
  induction F with
  | zero => intros; rfl
  | succ F ih =>
    intros
    rw [rounds_next]
    refine (st96_0_0 N  _ _ _ _ (fun s => (lp Try.f96 0).rounds lay (E96 N) (retMask Try.f96) F s K) K).trans ?_
    simp only [ih]
    rfl
theorem lk96_0 {β : Type} (N : Nat) : lookL (E96 (β := β) N).loops (lp Try.f96 0).id = LS96_0 N := by kernel_rfl
theorem rk96_0 {β : Type} (N : Nat) : RoundsOK lay (E96 (β := β) N) (retMask Try.f96) (lp Try.f96 0) := by
  intro s K r h
  rw [lk96_0] at h
  unfold LS96_0 VLS96_0 at h
  cases hb : shpSt (h96_0_0 0 0 0 0) s with
  | true =>
    rw [hb, cond_true] at h
    exact ⟨N, by rw [← shpSt_ref hb, fl96_0_0 s]; exact (ro96_0_0 N  K N (intS (oneA (vT (nx tund s.tmps 3)))) (intS (oneA (vT (nx tund s.tmps 4)))) (intS (nx .und (cellsB (nx .dead s.blks 0)) 0)) (intS (nx .und (cellsB (nx .dead s.blks 0)) 1))).trans h⟩
  | false =>
  rw [hb, cond_false] at h
  clear hb
  cases h
def BV_spec_BlockSensitivityOf {β : Type} (N : Nat) (q_spec_IsTable : (a0 : Int) → (a1 : Int) → (k : Bool → Option β) → Option β) (q_spec_BlockSensitivityOf_l0 : Nat → Int → Int → Int → Int → (Int → Option β) → Option β) (a0 : Int) (a1 : Int) (k : Int → Option β) : Option β :=
q_spec_IsTable a0 a1 fun r3 =>
(cond (!r3)
(k (-1))
(q_spec_BlockSensitivityOf_l0  N 0 0 a0 a1 (fun e5_0 =>
k e5_0)))
theorem t_spec_BlockSensitivityOf {β : Type} (N : Nat) (a0 : Int) (a1 : Int) (k : Int → Option β) : spec_BlockSensitivityOf N a0 a1 k = BV_spec_BlockSensitivityOf N (spec_IsTable N) (spec_BlockSensitivityOf_l0 N) a0 a1 k := by
  unfold spec_BlockSensitivityOf BV_spec_BlockSensitivityOf
  rfl
theorem ve96_0 {β : Type} (N : Nat) (q_spec_IsTable : (a0 : Int) → (a1 : Int) → (k : Bool → Option β) → Option β) (q_spec_BlockSensitivityAt : (a0 : Int) → (a1 : Int) → (a2 : Int) → (k : Int → Option β) → Option β) (q_spec_BlockSensitivityOf_l0 : Nat → Int → Int → Int → Int → (Int → Option β) → Option β)  (a0 : Int) (a1 : Int) (K : TV → Option β) : evFn lay (VE96 N q_spec_IsTable q_spec_BlockSensitivityAt q_spec_BlockSensitivityOf_l0) Try.f96 [.v (.agg [.int .i64 a0, .int .i64 a1])] K = BV_spec_BlockSensitivityOf N q_spec_IsTable q_spec_BlockSensitivityOf_l0 a0 a1 (fun z2 => K (.v (.one (.int .i64 z2)))) := by kernel_rfl
theorem e96_0 {β : Type} (N : Nat)  (a0 : Int) (a1 : Int) (K : TV → Option β) : evFn lay (E96 N) Try.f96 [.v (.agg [.int .i64 a0, .int .i64 a1])] K = spec_BlockSensitivityOf N a0 a1 (fun z2 => K (.v (.one (.int .i64 z2)))) := (ve96_0 N (spec_IsTable N) (spec_BlockSensitivityAt N) (spec_BlockSensitivityOf_l0 N) a0 a1 K).trans (t_spec_BlockSensitivityOf N a0 a1 (fun z2 => K (.v (.one (.int .i64 z2))))).symm
theorem o96 {β : Type} (N : Nat) : SpecOK (β := β) Try.prog 96 (S96 N) := by
  refine spec_of lay_ok mixed (E := E96 N) (specs_loops (specs_cons (o69 N) (specs_cons (o123 N) specs_nil))) muts_nil gs_nil Try.func96 (by kernel_rfl) 1 (by kernel_rfl) ⟨trivial, rk96_0 N⟩ fun args K r h => ?_
  unfold S96 VS96 at h
  split at h
  · exact (e96_0 N _ _ _).trans h
  · cases h
end Go.Proofs.Ytdkjnadhgdneaaa
