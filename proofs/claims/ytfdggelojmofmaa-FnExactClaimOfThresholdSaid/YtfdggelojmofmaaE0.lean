/- The functions that the claims reach answer as their texts do. -/
import Derived.Test.YtfdggelojmofmaaT0
import Derived.Test.YtfdggelojmofmaaProg
import Derived.KernelRfl
import Derived.Test.YtfdggelojmofmaaShelf
import Derived.Test.YtfdggelojmofmaaRep
namespace Go.Proofs.Ytfdggelojmofmaa
open Go.Rv
set_option maxRecDepth 100000
set_option maxHeartbeats 2000000
set_option linter.unusedVariables false
def lay : Lay := [(2, .int .i64),
  (3, .int .i64),
  (4, .bool),
  (5, .int .u8),
  (9, .string),
  (12, .int .u64),
  (21, .int .i32),
  (25, .struct [⟨0, 1, false⟩, ⟨1, 1, false⟩] [3, 3] 16 true),
  (26, .struct [⟨0, 1, false⟩, ⟨1, 1, false⟩] [3, 3] 16 true),
  (27, .struct [⟨0, 1, false⟩, ⟨1, 1, false⟩] [3, 3] 16 true),
  (28, .slice 3),
  (29, .struct [⟨0, 1, false⟩, ⟨1, 2, true⟩, ⟨3, 1, false⟩, ⟨4, 1, false⟩, ⟨5, 1, false⟩, ⟨6, 1, false⟩] [3, 3, 3, 3, 3, 9, 28] 80 false),
  (30, .struct [⟨0, 1, false⟩, ⟨1, 2, true⟩, ⟨3, 1, false⟩, ⟨4, 1, false⟩, ⟨5, 1, false⟩, ⟨6, 1, false⟩] [3, 3, 3, 3, 3, 9, 28] 80 false),
  (37, .slice 9),
  (42, .slice 5),
  (54, .pointer 90),
  (71, .pointer 110),
  (89, .struct [⟨0, 1, false⟩, ⟨1, 1, false⟩, ⟨2, 1, false⟩] [5, 54, 54] 24 false),
  (90, .struct [⟨0, 1, false⟩, ⟨1, 1, false⟩, ⟨2, 1, false⟩] [5, 54, 54] 24 false),
  (99, .int .u64),
  (103, .slice 28),
  (107, .slice 160),
  (109, .struct [⟨0, 1, false⟩, ⟨1, 1, false⟩, ⟨2, 1, false⟩] [42, 3, 3] 40 false),
  (110, .struct [⟨0, 1, false⟩, ⟨1, 1, false⟩, ⟨2, 1, false⟩] [42, 3, 3] 40 false),
  (125, .slice 4),
  (126, .pointer 129),
  (127, .map 27 3),
  (128, .struct [⟨0, 1, false⟩, ⟨1, 1, false⟩, ⟨2, 1, false⟩] [28, 107, 127] 56 false),
  (129, .struct [⟨0, 1, false⟩, ⟨1, 1, false⟩, ⟨2, 1, false⟩] [28, 107, 127] 56 false),
  (138, .int .u32),
  (141, .int .u64),
  (146, .pointer 168),
  (149, .struct [⟨0, 1, false⟩, ⟨1, 1, false⟩] [3, 3] 16 true),
  (150, .struct [⟨0, 1, false⟩, ⟨1, 1, false⟩] [3, 3] 16 true),
  (159, .struct [⟨0, 1, false⟩, ⟨1, 1, false⟩, ⟨2, 1, false⟩] [3, 3, 3] 24 true),
  (160, .struct [⟨0, 1, false⟩, ⟨1, 1, false⟩, ⟨2, 1, false⟩] [3, 3, 3] 24 true),
  (162, .pointer 134),
  (166, .map 150 3),
  (167, .struct [⟨0, 2, true⟩, ⟨2, 1, false⟩, ⟨3, 1, false⟩] [3, 3, 166, 166] 32 false),
  (168, .struct [⟨0, 2, true⟩, ⟨2, 1, false⟩, ⟨3, 1, false⟩] [3, 3, 166, 166] 32 false),
  (172, .array 2 4),
  (181, .pointer 5)]

theorem lay_ok : LayOK Try.prog lay := layOK_of (by decide +kernel)
theorem mixed : Try.prog.follows .mixedOrders = true := by kernel_rfl
def inv : World → Prop := fun _ => True
def S92 {β : Type} (N : Nat) : Rv.Spec β := repeatSpec 3 N
theorem o92 {β : Type} (N : Nat) : SpecOK (β := β) inv Try.prog 92 (S92 N) := repeat_ok Try.func92 (by kernel_rfl) repeat_told N
def S95 {β : Type} (N : Nat) : Rv.Spec β := cloneSpec 3 N
theorem o95 {β : Type} (N : Nat) : SpecOK (β := β) inv Try.prog 95 (S95 N) := clone_ok Try.func95 (by kernel_rfl) Try.slices_Clone_int_nil Try.slices_Clone_int_zero Try.slices_Clone_int N
def VS11 {β : Type} (N : Nat) (q_laws_toTable : (a0 : Int) → (a1 : Int) → (k : Int → Int → Option β) → Option β) : Rv.Spec β := fun args K => match args with
  | [.v (.agg [.int .i64 a0, .int .i64 a1])] => q_laws_toTable a0 a1 (fun z2 z3 => K (.v (.agg [.int .i64 z2, .int .i64 z3])))
  | _ => none
def S11 {β : Type} (N : Nat) : Rv.Spec β := VS11 N (laws_toTable N)
def VE11 {β : Type} (N : Nat) : Env β := ⟨[], [], [], [], ⟨[], [], []⟩⟩
def E11 {β : Type} (N : Nat) : Env β := VE11 N
def BV_laws_toTable {β : Type} (N : Nat) (a0 : Int) (a1 : Int) (k : Int → Int → Option β) : Option β :=
k a0 a1
theorem t_laws_toTable {β : Type} (N : Nat) (a0 : Int) (a1 : Int) (k : Int → Int → Option β) : laws_toTable N a0 a1 k = BV_laws_toTable N a0 a1 k := by
  unfold laws_toTable BV_laws_toTable
  rfl
theorem ve11_0 {β : Type} (N : Nat)  (a0 : Int) (a1 : Int) (K : TV → Option β) : evFn lay (VE11 N) Try.f11 [.v (.agg [.int .i64 a0, .int .i64 a1])] K = BV_laws_toTable N a0 a1 (fun z2 z3 => K (.v (.agg [.int .i64 z2, .int .i64 z3]))) := by kernel_rfl
theorem e11_0 {β : Type} (N : Nat)  (a0 : Int) (a1 : Int) (K : TV → Option β) : evFn lay (E11 N) Try.f11 [.v (.agg [.int .i64 a0, .int .i64 a1])] K = laws_toTable N a0 a1 (fun z2 z3 => K (.v (.agg [.int .i64 z2, .int .i64 z3]))) := (ve11_0 N a0 a1 K).trans (t_laws_toTable N a0 a1 (fun z2 z3 => K (.v (.agg [.int .i64 z2, .int .i64 z3])))).symm
theorem o11 {β : Type} (N : Nat) : SpecOK (β := β) inv Try.prog 11 (S11 N) := by
  refine spec_of lay_ok mixed (E := E11 N) (specs_loops specs_nil) muts_nil gs_nil Try.func11 (by kernel_rfl) 0 (by kernel_rfl) trivial fun args K r h => ?_
  unfold S11 VS11 at h
  split at h
  · exact (e11_0 N _ _ _).trans h
  · cases h
def VS73 {β : Type} (N : Nat) (q_spec_l1In : (a0 : Int) → (a1 : Int) → (a2 : Int) → (k : Bool → Option β) → Option β) : Rv.Spec β := fun args K => match args with
  | [.v (.one (.int .i64 a0)), .v (.one (.int .i64 a1)), .v (.one (.int .i64 a2))] => q_spec_l1In a0 a1 a2 (fun z3 => K (.v (.one (.bool z3))))
  | _ => none
def S73 {β : Type} (N : Nat) : Rv.Spec β := VS73 N (spec_l1In N)
def VE73 {β : Type} (N : Nat) : Env β := ⟨[], [], [], [], ⟨[], [], []⟩⟩
def E73 {β : Type} (N : Nat) : Env β := VE73 N
def BV_spec_l1In {β : Type} (N : Nat) (a0 : Int) (a1 : Int) (a2 : Int) (k : Bool → Option β) : Option β :=
(cond ((decide (a0 ≥ a1)))
(k ((decide (a0 ≤ a2))))
(k false))
theorem t_spec_l1In {β : Type} (N : Nat) (a0 : Int) (a1 : Int) (a2 : Int) (k : Bool → Option β) : spec_l1In N a0 a1 a2 k = BV_spec_l1In N a0 a1 a2 k := by
  unfold spec_l1In BV_spec_l1In
  rfl
theorem ve73_0 {β : Type} (N : Nat)  (a0 : Int) (a1 : Int) (a2 : Int) (K : TV → Option β) : evFn lay (VE73 N) Try.f73 [.v (.one (.int .i64 a0)), .v (.one (.int .i64 a1)), .v (.one (.int .i64 a2))] K = BV_spec_l1In N a0 a1 a2 (fun z3 => K (.v (.one (.bool z3)))) := by kernel_rfl
theorem e73_0 {β : Type} (N : Nat)  (a0 : Int) (a1 : Int) (a2 : Int) (K : TV → Option β) : evFn lay (E73 N) Try.f73 [.v (.one (.int .i64 a0)), .v (.one (.int .i64 a1)), .v (.one (.int .i64 a2))] K = spec_l1In N a0 a1 a2 (fun z3 => K (.v (.one (.bool z3)))) := (ve73_0 N a0 a1 a2 K).trans (t_spec_l1In N a0 a1 a2 (fun z3 => K (.v (.one (.bool z3))))).symm
theorem o73 {β : Type} (N : Nat) : SpecOK (β := β) inv Try.prog 73 (S73 N) := by
  refine spec_of lay_ok mixed (E := E73 N) (specs_loops specs_nil) muts_nil gs_nil Try.func73 (by kernel_rfl) 0 (by kernel_rfl) trivial fun args K r h => ?_
  unfold S73 VS73 at h
  split at h
  · exact (e73_0 N _ _ _ _).trans h
  · cases h
def VS58 {β : Type} (N : Nat) (q_spec_IsTable : (a0 : Int) → (a1 : Int) → (k : Bool → Option β) → Option β) : Rv.Spec β := fun args K => match args with
  | [.v (.agg [.int .i64 a0, .int .i64 a1])] => q_spec_IsTable a0 a1 (fun z2 => K (.v (.one (.bool z2))))
  | _ => none
def S58 {β : Type} (N : Nat) : Rv.Spec β := VS58 N (spec_IsTable N)
def VE58 {β : Type} (N : Nat) (q_spec_l1In : (a0 : Int) → (a1 : Int) → (a2 : Int) → (k : Bool → Option β) → Option β) : Env β := ⟨[(73, VS73 N q_spec_l1In)], [], [], [], ⟨[], [], []⟩⟩
def E58 {β : Type} (N : Nat) : Env β := VE58 N (spec_l1In N)
def BV_spec_IsTable {β : Type} (N : Nat) (q_spec_l1In : (a0 : Int) → (a1 : Int) → (a2 : Int) → (k : Bool → Option β) → Option β) (a0 : Int) (a1 : Int) (k : Bool → Option β) : Option β :=
q_spec_l1In a0 0 5 fun r3 =>
(cond r3
((gd ((decide (0 ≤ a0)))
((gd ((decide (0 ≤ (shlI .u64 1 a0))))
(q_spec_l1In a1 0 ((w64 ((shlI .i64 1 (shlI .u64 1 a0)) - 1))) fun r4 =>
k r4)))))
(k false))
theorem t_spec_IsTable {β : Type} (N : Nat) (a0 : Int) (a1 : Int) (k : Bool → Option β) : spec_IsTable N a0 a1 k = BV_spec_IsTable N (spec_l1In N) a0 a1 k := by
  unfold spec_IsTable BV_spec_IsTable
  rfl
theorem ve58_0 {β : Type} (N : Nat) (q_spec_l1In : (a0 : Int) → (a1 : Int) → (a2 : Int) → (k : Bool → Option β) → Option β)  (a0 : Int) (a1 : Int) (K : TV → Option β) : evFn lay (VE58 N q_spec_l1In) Try.f58 [.v (.agg [.int .i64 a0, .int .i64 a1])] K = BV_spec_IsTable N q_spec_l1In a0 a1 (fun z2 => K (.v (.one (.bool z2)))) := by kernel_rfl
theorem e58_0 {β : Type} (N : Nat)  (a0 : Int) (a1 : Int) (K : TV → Option β) : evFn lay (E58 N) Try.f58 [.v (.agg [.int .i64 a0, .int .i64 a1])] K = spec_IsTable N a0 a1 (fun z2 => K (.v (.one (.bool z2)))) := (ve58_0 N (spec_l1In N) a0 a1 K).trans (t_spec_IsTable N a0 a1 (fun z2 => K (.v (.one (.bool z2))))).symm
theorem o58 {β : Type} (N : Nat) : SpecOK (β := β) inv Try.prog 58 (S58 N) := by
  refine spec_of lay_ok mixed (E := E58 N) (specs_loops (specs_cons (o73 N) specs_nil)) muts_nil gs_nil Try.func58 (by kernel_rfl) 0 (by kernel_rfl) trivial fun args K r h => ?_
  unfold S58 VS58 at h
  split at h
  · exact (e58_0 N _ _ _).trans h
  · cases h
def VS123 {β : Type} (N : Nat) (q_spec_l16Sum : (a0 : List Int) → (a1 : Int) → (k : Int → Option β) → Option β) : Rv.Spec β := fun args K => match args with
  | [.v (.one (.sl 3 (.ints .i64 a0))), .v (.one (.int .i64 a1))] => q_spec_l16Sum a0 a1 (fun z2 => K (.v (.one (.int .i64 z2))))
  | _ => none
def S123 {β : Type} (N : Nat) : Rv.Spec β := VS123 N (spec_l16Sum N)
def h123_0_0  (v0 : List Int) (v1 : Int) (v2 : Int) (v3 : Int) : St := ⟨.v (.one (.sl 3 (.ints .i64 v0))) :: .v (.one (.int .i64 v1)) :: .v (.one .und) :: .v (.one .und) :: .v (.one .und) :: .v (.one (.int .i64 v2)) :: .v (.one (.int .i64 v3)) :: .v (.one .und) :: .v (.one .und) :: .v (.one .und) :: .v (.one .und) :: .v (.one .und) :: .v (.one .und) :: .v (.one .und) :: .v (.one .und) :: .v (.one .und) :: .v (.one .und) :: .v (.one .und) :: .v (.one .und) :: .v (.one .und) :: .v (.one .und) :: .v (.one .und) :: .v (.one .und) :: .v (.one .und) :: .v (.one .und) :: [], []⟩
def x123_0_0_k0  (y0 : Int) : St := ⟨.v (.one .und) :: .v (.one .und) :: .v (.one .und) :: .v (.one .und) :: .v (.one .und) :: .v (.one (.int .i64 y0)) :: .v (.one .und) :: .v (.one .und) :: .v (.one .und) :: .v (.one .und) :: .v (.one .und) :: .v (.one .und) :: .v (.one .und) :: .v (.one .und) :: .v (.one .und) :: .v (.one .und) :: .v (.one .und) :: .v (.one .und) :: .v (.one .und) :: .v (.one .und) :: .v (.one .und) :: .v (.one .und) :: .v (.one .und) :: .v (.one .und) :: .v (.one .und) :: [], []⟩
theorem fl123_0_0 (s : St) : refSt (h123_0_0 [] 0 0 0) s = h123_0_0 (rInts (rowV (oneA (vT (nx tund s.tmps 0))))) (intS (oneA (vT (nx tund s.tmps 1)))) (intS (oneA (vT (nx tund s.tmps 5)))) (intS (oneA (vT (nx tund s.tmps 6)))) := by kernel_rfl
def VLS123_0 {β : Type} (N : Nat) (q_spec_l16Sum_l0 : Nat → List Int → Int → Int → Int → (Int → Option β) → Option β) : LSpec β := fun s K => cond (shpSt (h123_0_0 [] 0 0 0) s) ((fun (v0 : List Int) (v1 : Int) (v2 : Int) (v3 : Int) => q_spec_l16Sum_l0  N v0 v1 v2 v3 (fun y0 => K (.exit 0) (x123_0_0_k0  y0))) (rInts (rowV (oneA (vT (nx tund s.tmps 0))))) (intS (oneA (vT (nx tund s.tmps 1)))) (intS (oneA (vT (nx tund s.tmps 5)))) (intS (oneA (vT (nx tund s.tmps 6))))) (none)
def LS123_0 {β : Type} (N : Nat) : LSpec β := VLS123_0 N (spec_l16Sum_l0 N)
def VE123 {β : Type} (N : Nat) (q_spec_l16Sum_l0 : Nat → List Int → Int → Int → Int → (Int → Option β) → Option β) : Env β := ⟨[], [], [(0, VLS123_0 N q_spec_l16Sum_l0)], [], ⟨[], [], []⟩⟩
def E123 {β : Type} (N : Nat) : Env β := VE123 N (spec_l16Sum_l0 N)
def BV_spec_l16Sum_l0b {β : Type} (N : Nat)  (v0 : List Int) (v1 : Int) (v2 : Int) (v3 : Int) (rec_ : List Int → Int → Int → Int → Option β) (k0 : Int → Option β) : Option β :=
(cond ((decide (v3 < (v0.length : Int))))
((gd ((decide (0 ≤ v3)))
((cond (((bits .and .i64 (shrI .i64 v1 v3) 1) == 1))
((gd ((decide (0 ≤ v3)))
((gd ((decide (v3 < (v0.length : Int))))
(rec_ v0 v1 ((w64 (v2 + (rd 0 v0 v3)))) ((w64 (v3 + 1))))))))
(rec_ v0 v1 v2 ((w64 (v3 + 1))))))))
(k0 v2))
theorem t_spec_l16Sum_l0b {β : Type} (N : Nat)  (v0 : List Int) (v1 : Int) (v2 : Int) (v3 : Int) (rec_ : List Int → Int → Int → Int → Option β) (k0 : Int → Option β) : spec_l16Sum_l0b N v0 v1 v2 v3 rec_ k0 = BV_spec_l16Sum_l0b N v0 v1 v2 v3 rec_ k0 := by
  unfold spec_l16Sum_l0b BV_spec_l16Sum_l0b
  rfl
theorem vst123_0_0 {β : Type} (N : Nat) (q_spec_l16Sum_l0 : Nat → List Int → Int → Int → Int → (Int → Option β) → Option β)  (v0 : List Int) (v1 : Int) (v2 : Int) (v3 : Int) (rec_ : St → Option β) (K : Exit → St → Option β) :
    ev lay (VE123 N q_spec_l16Sum_l0) (retMask Try.f123) (lp Try.f123 0).body (lp Try.f123 0).ex ((lp Try.f123 0).lv (retMask Try.f123)) (h123_0_0  v0 v1 v2 v3) (nextR (fun s' => rec_ (s'.tidy ((lp Try.f123 0).lv (retMask Try.f123)))) K) = BV_spec_l16Sum_l0b N  v0 v1 v2 v3 (fun v0 v1 v2 v3 => rec_ (h123_0_0  v0 v1 v2 v3)) (fun y0 => K (.exit 0) (x123_0_0_k0  y0)) := by kernel_rfl
theorem st123_0_0 {β : Type} (N : Nat)  (v0 : List Int) (v1 : Int) (v2 : Int) (v3 : Int) (rec_ : St → Option β) (K : Exit → St → Option β) :
    ev lay (E123 N) (retMask Try.f123) (lp Try.f123 0).body (lp Try.f123 0).ex ((lp Try.f123 0).lv (retMask Try.f123)) (h123_0_0  v0 v1 v2 v3) (nextR (fun s' => rec_ (s'.tidy ((lp Try.f123 0).lv (retMask Try.f123)))) K) = spec_l16Sum_l0b N  v0 v1 v2 v3 (fun v0 v1 v2 v3 => rec_ (h123_0_0  v0 v1 v2 v3)) (fun y0 => K (.exit 0) (x123_0_0_k0  y0)) := (vst123_0_0 N (spec_l16Sum_l0 N) v0 v1 v2 v3 rec_ K).trans (t_spec_l16Sum_l0b N  v0 v1 v2 v3 (fun v0 v1 v2 v3 => rec_ (h123_0_0  v0 v1 v2 v3)) (fun y0 => K (.exit 0) (x123_0_0_k0  y0))).symm
theorem ro123_0_0 {β : Type} (N : Nat)  (K : Exit → St → Option β) : ∀ (F : Nat) (v0 : List Int) (v1 : Int) (v2 : Int) (v3 : Int), (lp Try.f123 0).rounds lay (E123 N) (retMask Try.f123) F (h123_0_0  v0 v1 v2 v3) K = spec_l16Sum_l0 N  F v0 v1 v2 v3 (fun y0 => K (.exit 0) (x123_0_0_k0  y0)) := by
  intro F
  induction F with
  | zero => intros; rfl
  | succ F ih =>
    intros
    rw [rounds_next]
    refine (st123_0_0 N  _ _ _ _ (fun s => (lp Try.f123 0).rounds lay (E123 N) (retMask Try.f123) F s K) K).trans ?_
    simp only [ih]
    rfl
theorem lk123_0 {β : Type} (N : Nat) : lookL (E123 (β := β) N).loops (lp Try.f123 0).id = LS123_0 N := by kernel_rfl
theorem rk123_0 {β : Type} (N : Nat) : RoundsOK lay (E123 (β := β) N) (retMask Try.f123) (lp Try.f123 0) := by
  intro s K r h
  rw [lk123_0] at h
  unfold LS123_0 VLS123_0 at h
  cases hb : shpSt (h123_0_0 [] 0 0 0) s with
  | true =>
    rw [hb, cond_true] at h
    exact ⟨N, by rw [← shpSt_ref hb, fl123_0_0 s]; exact (ro123_0_0 N  K N (rInts (rowV (oneA (vT (nx tund s.tmps 0))))) (intS (oneA (vT (nx tund s.tmps 1)))) (intS (oneA (vT (nx tund s.tmps 5)))) (intS (oneA (vT (nx tund s.tmps 6))))).trans h⟩
  | false =>
  rw [hb, cond_false] at h
  clear hb
  cases h
def BV_spec_l16Sum {β : Type} (N : Nat) (q_spec_l16Sum_l0 : Nat → List Int → Int → Int → Int → (Int → Option β) → Option β) (a0 : List Int) (a1 : Int) (k : Int → Option β) : Option β :=
q_spec_l16Sum_l0  N a0 a1 0 0 (fun e3_0 =>
k e3_0)
theorem t_spec_l16Sum {β : Type} (N : Nat) (a0 : List Int) (a1 : Int) (k : Int → Option β) : spec_l16Sum N a0 a1 k = BV_spec_l16Sum N (spec_l16Sum_l0 N) a0 a1 k := by
  unfold spec_l16Sum BV_spec_l16Sum
  rfl
theorem ve123_0 {β : Type} (N : Nat) (q_spec_l16Sum_l0 : Nat → List Int → Int → Int → Int → (Int → Option β) → Option β)  (a0 : List Int) (a1 : Int) (K : TV → Option β) : evFn lay (VE123 N q_spec_l16Sum_l0) Try.f123 [.v (.one (.sl 3 (.ints .i64 a0))), .v (.one (.int .i64 a1))] K = BV_spec_l16Sum N q_spec_l16Sum_l0 a0 a1 (fun z2 => K (.v (.one (.int .i64 z2)))) := by kernel_rfl
theorem e123_0 {β : Type} (N : Nat)  (a0 : List Int) (a1 : Int) (K : TV → Option β) : evFn lay (E123 N) Try.f123 [.v (.one (.sl 3 (.ints .i64 a0))), .v (.one (.int .i64 a1))] K = spec_l16Sum N a0 a1 (fun z2 => K (.v (.one (.int .i64 z2)))) := (ve123_0 N (spec_l16Sum_l0 N) a0 a1 K).trans (t_spec_l16Sum N a0 a1 (fun z2 => K (.v (.one (.int .i64 z2))))).symm
theorem o123 {β : Type} (N : Nat) : SpecOK (β := β) inv Try.prog 123 (S123 N) := by
  refine spec_of lay_ok mixed (E := E123 N) (specs_loops specs_nil) muts_nil gs_nil Try.func123 (by kernel_rfl) 1 (by kernel_rfl) ⟨trivial, rk123_0 N⟩ fun args K r h => ?_
  unfold S123 VS123 at h
  split at h
  · exact (e123_0 N _ _ _).trans h
  · cases h
def VS91 {β : Type} (N : Nat) (q_spec_l16Fits : (a0 : Int) → (a1 : Int) → (a2 : List Int) → (k : Int → Bool → Option β) → Option β) : Rv.Spec β := fun args K => match args with
  | [.v (.agg [.int .i64 a0, .int .i64 a1]), .v (.one (.sl 3 (.ints .i64 a2)))] => q_spec_l16Fits a0 a1 a2 (fun z3 z4 => K (.tup [.one (.int .i64 z3), .one (.bool z4)]))
  | _ => none
def S91 {β : Type} (N : Nat) : Rv.Spec β := VS91 N (spec_l16Fits N)
def h91_0_0  (v0 : List Int) (v1 : Int) (v2 : Int) (v3 : Int) (v4 : Int) (v5 : Int) : St := ⟨.v (.one .und) :: .v (.one (.sl 3 (.ints .i64 v0))) :: .v (.one (.ptr 0 0)) :: .v (.one .und) :: .v (.one .und) :: .v (.one .und) :: .v (.one (.int .i64 v1)) :: .v (.one (.int .i64 v2)) :: .v (.one (.int .i64 v3)) :: .v (.one .und) :: .v (.one .und) :: .v (.one .und) :: .v (.one .und) :: .v (.one .und) :: .v (.one .und) :: .v (.one .und) :: .v (.one .und) :: .v (.one .und) :: .v (.one .und) :: .v (.one .und) :: .v (.one .und) :: .v (.one .und) :: .v (.one .und) :: .v (.one .und) :: .v (.one .und) :: .v (.one .und) :: .v (.one .und) :: .v (.one .und) :: .v (.one .und) :: .v (.one .und) :: .v (.one .und) :: .v (.one .und) :: .v (.one .und) :: .v (.one .und) :: .v (.one .und) :: .v (.one .und) :: .v (.one .und) :: .v (.one .und) :: .v (.one .und) :: .v (.one .und) :: [], [.cells 27 [.int .i64 v4, .int .i64 v5]]⟩
def x91_0_0_k0  (y0 : Int) (y1 : Int) : St := ⟨.v (.one .und) :: .v (.one .und) :: .v (.one .und) :: .v (.one .und) :: .v (.one .und) :: .v (.one .und) :: .v (.one (.int .i64 y0)) :: .v (.one (.int .i64 y1)) :: .v (.one .und) :: .v (.one .und) :: .v (.one .und) :: .v (.one .und) :: .v (.one .und) :: .v (.one .und) :: .v (.one .und) :: .v (.one .und) :: .v (.one .und) :: .v (.one .und) :: .v (.one .und) :: .v (.one .und) :: .v (.one .und) :: .v (.one .und) :: .v (.one .und) :: .v (.one .und) :: .v (.one .und) :: .v (.one .und) :: .v (.one .und) :: .v (.one .und) :: .v (.one .und) :: .v (.one .und) :: .v (.one .und) :: .v (.one .und) :: .v (.one .und) :: .v (.one .und) :: .v (.one .und) :: .v (.one .und) :: .v (.one .und) :: .v (.one .und) :: .v (.one .und) :: .v (.one .und) :: [], []⟩
theorem fl91_0_0 (s : St) : refSt (h91_0_0 [] 0 0 0 0 0) s = h91_0_0 (rInts (rowV (oneA (vT (nx tund s.tmps 1))))) (intS (oneA (vT (nx tund s.tmps 6)))) (intS (oneA (vT (nx tund s.tmps 7)))) (intS (oneA (vT (nx tund s.tmps 8)))) (intS (nx .und (cellsB (nx .dead s.blks 0)) 0)) (intS (nx .und (cellsB (nx .dead s.blks 0)) 1)) := by kernel_rfl
def VLS91_0 {β : Type} (N : Nat) (q_spec_l16Fits_l0 : Nat → List Int → Int → Int → Int → Int → Int → (Int → Int → Option β) → Option β) : LSpec β := fun s K => cond (shpSt (h91_0_0 [] 0 0 0 0 0) s) ((fun (v0 : List Int) (v1 : Int) (v2 : Int) (v3 : Int) (v4 : Int) (v5 : Int) => q_spec_l16Fits_l0  N v0 v1 v2 v3 v4 v5 (fun y0 y1 => K (.exit 0) (x91_0_0_k0  y0 y1))) (rInts (rowV (oneA (vT (nx tund s.tmps 1))))) (intS (oneA (vT (nx tund s.tmps 6)))) (intS (oneA (vT (nx tund s.tmps 7)))) (intS (oneA (vT (nx tund s.tmps 8)))) (intS (nx .und (cellsB (nx .dead s.blks 0)) 0)) (intS (nx .und (cellsB (nx .dead s.blks 0)) 1))) (none)
def LS91_0 {β : Type} (N : Nat) : LSpec β := VLS91_0 N (spec_l16Fits_l0 N)
def VE91 {β : Type} (N : Nat) (q_spec_l16Sum : (a0 : List Int) → (a1 : Int) → (k : Int → Option β) → Option β) (q_spec_l16Fits_l0 : Nat → List Int → Int → Int → Int → Int → Int → (Int → Int → Option β) → Option β) : Env β := ⟨[(123, VS123 N q_spec_l16Sum)], [], [(0, VLS91_0 N q_spec_l16Fits_l0)], [], ⟨[], [], []⟩⟩
def E91 {β : Type} (N : Nat) : Env β := VE91 N (spec_l16Sum N) (spec_l16Fits_l0 N)
def BV_spec_l16Fits_l0b {β : Type} (N : Nat) (q_spec_l16Sum : (a0 : List Int) → (a1 : Int) → (k : Int → Option β) → Option β)  (v0 : List Int) (v1 : Int) (v2 : Int) (v3 : Int) (v4 : Int) (v5 : Int) (rec_ : List Int → Int → Int → Int → Int → Int → Option β) (k0 : Int → Int → Option β) : Option β :=
(gd ((decide (0 ≤ v4)))
((cond ((decide (v3 < (shlI .i64 1 v4))))
(q_spec_l16Sum v0 v3 fun r5 =>
(gd ((decide (0 ≤ v3)))
((cond (((bits .and .i64 (shrI .i64 v5 v3) 1) == 1))
(rec_ v0 ((mnI v1 r5)) v2 ((w64 (v3 + 1))) v4 v5)
(rec_ v0 v1 ((mxI v2 r5)) ((w64 (v3 + 1))) v4 v5)))))
(k0 v1 v2))))
theorem t_spec_l16Fits_l0b {β : Type} (N : Nat)  (v0 : List Int) (v1 : Int) (v2 : Int) (v3 : Int) (v4 : Int) (v5 : Int) (rec_ : List Int → Int → Int → Int → Int → Int → Option β) (k0 : Int → Int → Option β) : spec_l16Fits_l0b N v0 v1 v2 v3 v4 v5 rec_ k0 = BV_spec_l16Fits_l0b N (spec_l16Sum N) v0 v1 v2 v3 v4 v5 rec_ k0 := by
  unfold spec_l16Fits_l0b BV_spec_l16Fits_l0b
  rfl
theorem vst91_0_0 {β : Type} (N : Nat) (q_spec_l16Sum : (a0 : List Int) → (a1 : Int) → (k : Int → Option β) → Option β) (q_spec_l16Fits_l0 : Nat → List Int → Int → Int → Int → Int → Int → (Int → Int → Option β) → Option β)  (v0 : List Int) (v1 : Int) (v2 : Int) (v3 : Int) (v4 : Int) (v5 : Int) (rec_ : St → Option β) (K : Exit → St → Option β) :
    ev lay (VE91 N q_spec_l16Sum q_spec_l16Fits_l0) (retMask Try.f91) (lp Try.f91 0).body (lp Try.f91 0).ex ((lp Try.f91 0).lv (retMask Try.f91)) (h91_0_0  v0 v1 v2 v3 v4 v5) (nextR (fun s' => rec_ (s'.tidy ((lp Try.f91 0).lv (retMask Try.f91)))) K) = BV_spec_l16Fits_l0b N q_spec_l16Sum  v0 v1 v2 v3 v4 v5 (fun v0 v1 v2 v3 v4 v5 => rec_ (h91_0_0  v0 v1 v2 v3 v4 v5)) (fun y0 y1 => K (.exit 0) (x91_0_0_k0  y0 y1)) := by kernel_rfl
theorem st91_0_0 {β : Type} (N : Nat)  (v0 : List Int) (v1 : Int) (v2 : Int) (v3 : Int) (v4 : Int) (v5 : Int) (rec_ : St → Option β) (K : Exit → St → Option β) :
    ev lay (E91 N) (retMask Try.f91) (lp Try.f91 0).body (lp Try.f91 0).ex ((lp Try.f91 0).lv (retMask Try.f91)) (h91_0_0  v0 v1 v2 v3 v4 v5) (nextR (fun s' => rec_ (s'.tidy ((lp Try.f91 0).lv (retMask Try.f91)))) K) = spec_l16Fits_l0b N  v0 v1 v2 v3 v4 v5 (fun v0 v1 v2 v3 v4 v5 => rec_ (h91_0_0  v0 v1 v2 v3 v4 v5)) (fun y0 y1 => K (.exit 0) (x91_0_0_k0  y0 y1)) := (vst91_0_0 N (spec_l16Sum N) (spec_l16Fits_l0 N) v0 v1 v2 v3 v4 v5 rec_ K).trans (t_spec_l16Fits_l0b N  v0 v1 v2 v3 v4 v5 (fun v0 v1 v2 v3 v4 v5 => rec_ (h91_0_0  v0 v1 v2 v3 v4 v5)) (fun y0 y1 => K (.exit 0) (x91_0_0_k0  y0 y1))).symm
theorem ro91_0_0 {β : Type} (N : Nat)  (K : Exit → St → Option β) : ∀ (F : Nat) (v0 : List Int) (v1 : Int) (v2 : Int) (v3 : Int) (v4 : Int) (v5 : Int), (lp Try.f91 0).rounds lay (E91 N) (retMask Try.f91) F (h91_0_0  v0 v1 v2 v3 v4 v5) K = spec_l16Fits_l0 N  F v0 v1 v2 v3 v4 v5 (fun y0 y1 => K (.exit 0) (x91_0_0_k0  y0 y1)) := by
  intro F
  induction F with
  | zero => intros; rfl
  | succ F ih =>
    intros
    rw [rounds_next]
    refine (st91_0_0 N  _ _ _ _ _ _ (fun s => (lp Try.f91 0).rounds lay (E91 N) (retMask Try.f91) F s K) K).trans ?_
    simp only [ih]
    rfl
theorem lk91_0 {β : Type} (N : Nat) : lookL (E91 (β := β) N).loops (lp Try.f91 0).id = LS91_0 N := by kernel_rfl
theorem rk91_0 {β : Type} (N : Nat) : RoundsOK lay (E91 (β := β) N) (retMask Try.f91) (lp Try.f91 0) := by
  intro s K r h
  rw [lk91_0] at h
  unfold LS91_0 VLS91_0 at h
  cases hb : shpSt (h91_0_0 [] 0 0 0 0 0) s with
  | true =>
    rw [hb, cond_true] at h
    exact ⟨N, by rw [← shpSt_ref hb, fl91_0_0 s]; exact (ro91_0_0 N  K N (rInts (rowV (oneA (vT (nx tund s.tmps 1))))) (intS (oneA (vT (nx tund s.tmps 6)))) (intS (oneA (vT (nx tund s.tmps 7)))) (intS (oneA (vT (nx tund s.tmps 8)))) (intS (nx .und (cellsB (nx .dead s.blks 0)) 0)) (intS (nx .und (cellsB (nx .dead s.blks 0)) 1))).trans h⟩
  | false =>
  rw [hb, cond_false] at h
  clear hb
  cases h
def BV_spec_l16Fits {β : Type} (N : Nat) (q_spec_l16Fits_l0 : Nat → List Int → Int → Int → Int → Int → Int → (Int → Int → Option β) → Option β) (a0 : Int) (a1 : Int) (a2 : List Int) (k : Int → Bool → Option β) : Option β :=
q_spec_l16Fits_l0  N a2 100 (-100) 0 a0 a1 (fun e6_0 e6_1 =>
(cond ((e6_0 == 100))
(k ((w64 (e6_1 + 1))) true)
(k e6_0 ((decide (e6_1 < e6_0))))))
theorem t_spec_l16Fits {β : Type} (N : Nat) (a0 : Int) (a1 : Int) (a2 : List Int) (k : Int → Bool → Option β) : spec_l16Fits N a0 a1 a2 k = BV_spec_l16Fits N (spec_l16Fits_l0 N) a0 a1 a2 k := by
  unfold spec_l16Fits BV_spec_l16Fits
  rfl
theorem ve91_0 {β : Type} (N : Nat) (q_spec_l16Sum : (a0 : List Int) → (a1 : Int) → (k : Int → Option β) → Option β) (q_spec_l16Fits_l0 : Nat → List Int → Int → Int → Int → Int → Int → (Int → Int → Option β) → Option β)  (a0 : Int) (a1 : Int) (a2 : List Int) (K : TV → Option β) : evFn lay (VE91 N q_spec_l16Sum q_spec_l16Fits_l0) Try.f91 [.v (.agg [.int .i64 a0, .int .i64 a1]), .v (.one (.sl 3 (.ints .i64 a2)))] K = BV_spec_l16Fits N q_spec_l16Fits_l0 a0 a1 a2 (fun z3 z4 => K (.tup [.one (.int .i64 z3), .one (.bool z4)])) := by kernel_rfl
theorem e91_0 {β : Type} (N : Nat)  (a0 : Int) (a1 : Int) (a2 : List Int) (K : TV → Option β) : evFn lay (E91 N) Try.f91 [.v (.agg [.int .i64 a0, .int .i64 a1]), .v (.one (.sl 3 (.ints .i64 a2)))] K = spec_l16Fits N a0 a1 a2 (fun z3 z4 => K (.tup [.one (.int .i64 z3), .one (.bool z4)])) := (ve91_0 N (spec_l16Sum N) (spec_l16Fits_l0 N) a0 a1 a2 K).trans (t_spec_l16Fits N a0 a1 a2 (fun z3 z4 => K (.tup [.one (.int .i64 z3), .one (.bool z4)]))).symm
theorem o91 {β : Type} (N : Nat) : SpecOK (β := β) inv Try.prog 91 (S91 N) := by
  refine spec_of lay_ok mixed (E := E91 N) (specs_loops (specs_cons (o123 N) specs_nil)) muts_nil gs_nil Try.func91 (by kernel_rfl) 1 (by kernel_rfl) ⟨trivial, rk91_0 N⟩ fun args K r h => ?_
  unfold S91 VS91 at h
  split at h
  · exact (e91_0 N _ _ _ _).trans h
  · cases h
def VS49 {β : Type} (N : Nat) (q_spec_WeightsFor : (a0 : Int) → (a1 : Int) → (k : List Int → Int → Bool → Option β) → Option β) : Rv.Spec β := fun args K => match args with
  | [.v (.agg [.int .i64 a0, .int .i64 a1])] => q_spec_WeightsFor a0 a1 (fun z2 z3 z4 => K (.tup [.one (.sl 3 (.ints .i64 z2)), .one (.int .i64 z3), .one (.bool z4)]))
  | _ => none
def S49 {β : Type} (N : Nat) : Rv.Spec β := VS49 N (spec_WeightsFor N)
def h49_0_0  (v0 : Int) (v1 : Int) (v2 : Int) (v3 : Int) : St := ⟨.v (.one .und) :: .v (.one (.ptr 0 0)) :: .v (.one .und) :: .v (.one .und) :: .v (.one .und) :: .v (.one (.int .i64 v0)) :: .v (.one (.int .i64 v1)) :: .v (.one .und) :: .v (.one .und) :: .v (.one .und) :: .v (.one .und) :: .v (.one .und) :: .v (.one .und) :: .v (.one .und) :: .v (.one .und) :: .v (.one .und) :: .v (.one .und) :: .v (.one .und) :: .v (.one .und) :: .v (.one .und) :: .v (.one .und) :: .v (.one .und) :: .v (.one .und) :: .v (.one .und) :: .v (.one .und) :: .v (.one .und) :: .v (.one .und) :: .v (.one .und) :: .v (.one .und) :: .v (.one .und) :: .v (.one .und) :: .v (.one .und) :: .v (.one .und) :: .v (.one .und) :: .v (.one .und) :: .v (.one .und) :: .v (.one .und) :: .v (.one .und) :: .v (.one .und) :: .v (.one .und) :: .v (.one .und) :: .v (.one .und) :: .v (.one .und) :: .v (.one .und) :: .v (.one .und) :: .v (.one .und) :: .v (.one .und) :: .v (.one .und) :: .v (.one .und) :: .v (.one .und) :: .v (.one .und) :: .v (.one .und) :: .v (.one .und) :: .v (.one .und) :: .v (.one .und) :: .v (.one .und) :: .v (.one .und) :: .v (.one .und) :: .v (.one .und) :: .v (.one .und) :: .v (.one .und) :: .v (.one .und) :: .v (.one .und) :: .v (.one .und) :: .v (.one .und) :: .v (.one .und) :: .v (.one .und) :: .v (.one .und) :: .v (.one .und) :: .v (.one .und) :: .v (.one .und) :: .v (.one .und) :: .v (.one .und) :: .v (.one .und) :: .v (.one .und) :: .v (.one .und) :: .v (.one .und) :: .v (.one .und) :: .v (.one .und) :: .v (.one .und) :: .v (.one .und) :: .v (.one .und) :: .v (.one .und) :: .v (.one .und) :: .v (.one .und) :: .v (.one .und) :: .v (.one .und) :: .v (.one .und) :: [], [.cells 27 [.int .i64 v2, .int .i64 v3]]⟩
def x49_0_0_k0  (y0 : Int) (y1 : Int) (y2 : Int) : St := ⟨.v (.one .und) :: .v (.one (.ptr 0 0)) :: .v (.one .und) :: .v (.one .und) :: .v (.one .und) :: .v (.one (.int .i64 y0)) :: .v (.one .und) :: .v (.one .und) :: .v (.one .und) :: .v (.one .und) :: .v (.one .und) :: .v (.one .und) :: .v (.one .und) :: .v (.one .und) :: .v (.one .und) :: .v (.one .und) :: .v (.one .und) :: .v (.one .und) :: .v (.one .und) :: .v (.one .und) :: .v (.one .und) :: .v (.one .und) :: .v (.one .und) :: .v (.one .und) :: .v (.one .und) :: .v (.one .und) :: .v (.one .und) :: .v (.one .und) :: .v (.one .und) :: .v (.one .und) :: .v (.one .und) :: .v (.one .und) :: .v (.one .und) :: .v (.one .und) :: .v (.one .und) :: .v (.one .und) :: .v (.one .und) :: .v (.one .und) :: .v (.one .und) :: .v (.one .und) :: .v (.one .und) :: .v (.one .und) :: .v (.one .und) :: .v (.one .und) :: .v (.one .und) :: .v (.one .und) :: .v (.one .und) :: .v (.one .und) :: .v (.one .und) :: .v (.one .und) :: .v (.one .und) :: .v (.one .und) :: .v (.one .und) :: .v (.one .und) :: .v (.one .und) :: .v (.one .und) :: .v (.one .und) :: .v (.one .und) :: .v (.one .und) :: .v (.one .und) :: .v (.one .und) :: .v (.one .und) :: .v (.one .und) :: .v (.one .und) :: .v (.one .und) :: .v (.one .und) :: .v (.one .und) :: .v (.one .und) :: .v (.one .und) :: .v (.one .und) :: .v (.one .und) :: .v (.one .und) :: .v (.one .und) :: .v (.one .und) :: .v (.one .und) :: .v (.one .und) :: .v (.one .und) :: .v (.one .und) :: .v (.one .und) :: .v (.one .und) :: .v (.one .und) :: .v (.one .und) :: .v (.one .und) :: .v (.one .und) :: .v (.one .und) :: .v (.one .und) :: .v (.one .und) :: .v (.one .und) :: [], [.cells 27 [.int .i64 y1, .int .i64 y2]]⟩
def h49_1_0  (v0 : Int) (v1 : Int) (v2 : Int) (v3 : Int) (v4 : Int) (v5 : Int) (v6 : List Int) : St := ⟨.v (.one .und) :: .v (.one (.ptr 0 0)) :: .v (.one .und) :: .v (.one .und) :: .v (.one .und) :: .v (.one (.int .i64 v0)) :: .v (.one .und) :: .v (.one (.row 1)) :: .v (.one (.int .i64 v1)) :: .v (.one (.int .i64 v2)) :: .v (.one (.int .i64 v3)) :: .v (.one .und) :: .v (.one .und) :: .v (.one .und) :: .v (.one .und) :: .v (.one .und) :: .v (.one .und) :: .v (.one .und) :: .v (.one .und) :: .v (.one .und) :: .v (.one .und) :: .v (.one .und) :: .v (.one .und) :: .v (.one .und) :: .v (.one .und) :: .v (.one .und) :: .v (.one .und) :: .v (.one .und) :: .v (.one .und) :: .v (.one .und) :: .v (.one .und) :: .v (.one .und) :: .v (.one .und) :: .v (.one .und) :: .v (.one .und) :: .v (.one .und) :: .v (.one .und) :: .v (.one .und) :: .v (.one .und) :: .v (.one .und) :: .v (.one .und) :: .v (.one .und) :: .v (.one .und) :: .v (.one .und) :: .v (.one .und) :: .v (.one .und) :: .v (.one .und) :: .v (.one .und) :: .v (.one .und) :: .v (.one .und) :: .v (.one .und) :: .v (.one .und) :: .v (.one .und) :: .v (.one .und) :: .v (.one .und) :: .v (.one .und) :: .v (.one .und) :: .v (.one .und) :: .v (.one .und) :: .v (.one .und) :: .v (.one .und) :: .v (.one .und) :: .v (.one .und) :: .v (.one .und) :: .v (.one .und) :: .v (.one .und) :: .v (.one .und) :: .v (.one .und) :: .v (.one .und) :: .v (.one .und) :: .v (.one .und) :: .v (.one .und) :: .v (.one .und) :: .v (.one .und) :: .v (.one .und) :: .v (.one .und) :: .v (.one .und) :: .v (.one .und) :: .v (.one .und) :: .v (.one .und) :: .v (.one .und) :: .v (.one .und) :: .v (.one .und) :: .v (.one .und) :: .v (.one .und) :: .v (.one .und) :: .v (.one .und) :: .v (.one .und) :: [], [.cells 27 [.int .i64 v4, .int .i64 v5], .row 3 (.ints .i64 v6)]⟩
def x49_1_0_k0  (y0 : Int) (y1 : Int) (y2 : List Int) : St := ⟨.v (.one .und) :: .v (.one .und) :: .v (.one .und) :: .v (.one .und) :: .v (.one .und) :: .v (.one .und) :: .v (.one .und) :: .v (.one (.row 0)) :: .v (.one (.int .i64 y0)) :: .v (.one (.int .i64 y1)) :: .v (.one .und) :: .v (.one .und) :: .v (.one .und) :: .v (.one .und) :: .v (.one .und) :: .v (.one .und) :: .v (.one .und) :: .v (.one .und) :: .v (.one .und) :: .v (.one .und) :: .v (.one .und) :: .v (.one .und) :: .v (.one .und) :: .v (.one .und) :: .v (.one .und) :: .v (.one .und) :: .v (.one .und) :: .v (.one .und) :: .v (.one .und) :: .v (.one .und) :: .v (.one .und) :: .v (.one .und) :: .v (.one .und) :: .v (.one .und) :: .v (.one .und) :: .v (.one .und) :: .v (.one .und) :: .v (.one .und) :: .v (.one .und) :: .v (.one .und) :: .v (.one .und) :: .v (.one .und) :: .v (.one .und) :: .v (.one .und) :: .v (.one .und) :: .v (.one .und) :: .v (.one .und) :: .v (.one .und) :: .v (.one .und) :: .v (.one .und) :: .v (.one .und) :: .v (.one .und) :: .v (.one .und) :: .v (.one .und) :: .v (.one .und) :: .v (.one .und) :: .v (.one .und) :: .v (.one .und) :: .v (.one .und) :: .v (.one .und) :: .v (.one .und) :: .v (.one .und) :: .v (.one .und) :: .v (.one .und) :: .v (.one .und) :: .v (.one .und) :: .v (.one .und) :: .v (.one .und) :: .v (.one .und) :: .v (.one .und) :: .v (.one .und) :: .v (.one .und) :: .v (.one .und) :: .v (.one .und) :: .v (.one .und) :: .v (.one .und) :: .v (.one .und) :: .v (.one .und) :: .v (.one .und) :: .v (.one .und) :: .v (.one .und) :: .v (.one .und) :: .v (.one .und) :: .v (.one .und) :: .v (.one .und) :: .v (.one .und) :: .v (.one .und) :: .v (.one .und) :: [], [.row 3 (.ints .i64 y2)]⟩
def h49_2_0  (v0 : Int) (v1 : Int) (v2 : Int) (v3 : Int) (v4 : Int) (v5 : Int) (v6 : Int) (v7 : Int) (v8 : Int) (v9 : List Int) (v10 : List Int) : St := ⟨.v (.one .und) :: .v (.one (.ptr 0 0)) :: .v (.one .und) :: .v (.one .und) :: .v (.one .und) :: .v (.one (.int .i64 v0)) :: .v (.one .und) :: .v (.one (.row 1)) :: .v (.one (.int .i64 v1)) :: .v (.one (.int .i64 v2)) :: .v (.one (.int .i64 v3)) :: .v (.one (.row 2)) :: .v (.one (.int .i64 v4)) :: .v (.one (.int .i64 v5)) :: .v (.one (.int .i64 v6)) :: .v (.one .und) :: .v (.one .und) :: .v (.one .und) :: .v (.one .und) :: .v (.one .und) :: .v (.one .und) :: .v (.one .und) :: .v (.one .und) :: .v (.one .und) :: .v (.one .und) :: .v (.one .und) :: .v (.one .und) :: .v (.one .und) :: .v (.one .und) :: .v (.one .und) :: .v (.one .und) :: .v (.one .und) :: .v (.one .und) :: .v (.one .und) :: .v (.one .und) :: .v (.one .und) :: .v (.one .und) :: .v (.one .und) :: .v (.one .und) :: .v (.one .und) :: .v (.one .und) :: .v (.one .und) :: .v (.one .und) :: .v (.one .und) :: .v (.one .und) :: .v (.one .und) :: .v (.one .und) :: .v (.one .und) :: .v (.one .und) :: .v (.one .und) :: .v (.one .und) :: .v (.one .und) :: .v (.one .und) :: .v (.one .und) :: .v (.one .und) :: .v (.one .und) :: .v (.one .und) :: .v (.one .und) :: .v (.one .und) :: .v (.one .und) :: .v (.one .und) :: .v (.one .und) :: .v (.one .und) :: .v (.one .und) :: .v (.one .und) :: .v (.one .und) :: .v (.one .und) :: .v (.one .und) :: .v (.one .und) :: .v (.one .und) :: .v (.one .und) :: .v (.one .und) :: .v (.one .und) :: .v (.one .und) :: .v (.one .und) :: .v (.one .und) :: .v (.one .und) :: .v (.one .und) :: .v (.one .und) :: .v (.one .und) :: .v (.one .und) :: .v (.one .und) :: .v (.one .und) :: .v (.one .und) :: .v (.one .und) :: .v (.one .und) :: .v (.one .und) :: .v (.one .und) :: [], [.cells 27 [.int .i64 v7, .int .i64 v8], .row 3 (.ints .i64 v9), .row 3 (.ints .i64 v10)]⟩
def x49_2_0_k0  (y0 : Int) (y1 : Int) (y2 : Int) (y3 : Int) (y4 : Int) (y5 : Int) (y6 : Int) (y7 : List Int) (y8 : List Int) : St := ⟨.v (.one .und) :: .v (.one (.ptr 0 0)) :: .v (.one .und) :: .v (.one .und) :: .v (.one .und) :: .v (.one (.int .i64 y0)) :: .v (.one .und) :: .v (.one (.row 1)) :: .v (.one (.int .i64 y1)) :: .v (.one (.int .i64 y2)) :: .v (.one (.int .i64 y3)) :: .v (.one (.row 2)) :: .v (.one .und) :: .v (.one (.int .i64 y4)) :: .v (.one .und) :: .v (.one .und) :: .v (.one .und) :: .v (.one .und) :: .v (.one .und) :: .v (.one .und) :: .v (.one .und) :: .v (.one .und) :: .v (.one .und) :: .v (.one .und) :: .v (.one .und) :: .v (.one .und) :: .v (.one .und) :: .v (.one .und) :: .v (.one .und) :: .v (.one .und) :: .v (.one .und) :: .v (.one .und) :: .v (.one .und) :: .v (.one .und) :: .v (.one .und) :: .v (.one .und) :: .v (.one .und) :: .v (.one .und) :: .v (.one .und) :: .v (.one .und) :: .v (.one .und) :: .v (.one .und) :: .v (.one .und) :: .v (.one .und) :: .v (.one .und) :: .v (.one .und) :: .v (.one .und) :: .v (.one .und) :: .v (.one .und) :: .v (.one .und) :: .v (.one .und) :: .v (.one .und) :: .v (.one .und) :: .v (.one .und) :: .v (.one .und) :: .v (.one .und) :: .v (.one .und) :: .v (.one .und) :: .v (.one .und) :: .v (.one .und) :: .v (.one .und) :: .v (.one .und) :: .v (.one .und) :: .v (.one .und) :: .v (.one .und) :: .v (.one .und) :: .v (.one .und) :: .v (.one .und) :: .v (.one .und) :: .v (.one .und) :: .v (.one .und) :: .v (.one .und) :: .v (.one .und) :: .v (.one .und) :: .v (.one .und) :: .v (.one .und) :: .v (.one .und) :: .v (.one .und) :: .v (.one .und) :: .v (.one .und) :: .v (.one .und) :: .v (.one .und) :: .v (.one .und) :: .v (.one .und) :: .v (.one .und) :: .v (.one .und) :: .v (.one .und) :: .v (.one .und) :: [], [.cells 27 [.int .i64 y5, .int .i64 y6], .row 3 (.ints .i64 y7), .row 3 (.ints .i64 y8)]⟩
theorem fl49_0_0 (s : St) : refSt (h49_0_0 0 0 0 0) s = h49_0_0 (intS (oneA (vT (nx tund s.tmps 5)))) (intS (oneA (vT (nx tund s.tmps 6)))) (intS (nx .und (cellsB (nx .dead s.blks 0)) 0)) (intS (nx .und (cellsB (nx .dead s.blks 0)) 1)) := by kernel_rfl
def VLS49_0 {β : Type} (N : Nat) (q_spec_WeightsFor_l0 : Nat → Int → Int → Int → Int → (Int → Int → Int → Option β) → Option β) : LSpec β := fun s K => cond (shpSt (h49_0_0 0 0 0 0) s) ((fun (v0 : Int) (v1 : Int) (v2 : Int) (v3 : Int) => q_spec_WeightsFor_l0  N v0 v1 v2 v3 (fun y0 y1 y2 => K (.exit 0) (x49_0_0_k0  y0 y1 y2))) (intS (oneA (vT (nx tund s.tmps 5)))) (intS (oneA (vT (nx tund s.tmps 6)))) (intS (nx .und (cellsB (nx .dead s.blks 0)) 0)) (intS (nx .und (cellsB (nx .dead s.blks 0)) 1))) (none)
def LS49_0 {β : Type} (N : Nat) : LSpec β := VLS49_0 N (spec_WeightsFor_l0 N)
theorem fl49_1_0 (s : St) : refSt (h49_1_0 0 0 0 0 0 0 []) s = h49_1_0 (intS (oneA (vT (nx tund s.tmps 5)))) (intS (oneA (vT (nx tund s.tmps 8)))) (intS (oneA (vT (nx tund s.tmps 9)))) (intS (oneA (vT (nx tund s.tmps 10)))) (intS (nx .und (cellsB (nx .dead s.blks 0)) 0)) (intS (nx .und (cellsB (nx .dead s.blks 0)) 1)) (rInts (rowB_ (nx .dead s.blks 1))) := by kernel_rfl
def VLS49_2 {β : Type} (N : Nat) (q_spec_WeightsFor_l2 : Nat → Int → Int → Int → Int → Int → Int → List Int → (Int → Int → List Int → Option β) → Option β) : LSpec β := fun s K => cond (shpSt (h49_1_0 0 0 0 0 0 0 []) s) ((fun (v0 : Int) (v1 : Int) (v2 : Int) (v3 : Int) (v4 : Int) (v5 : Int) (v6 : List Int) => q_spec_WeightsFor_l2  N v0 v1 v2 v3 v4 v5 v6 (fun y0 y1 y2 => K (.exit 2) (x49_1_0_k0  y0 y1 y2))) (intS (oneA (vT (nx tund s.tmps 5)))) (intS (oneA (vT (nx tund s.tmps 8)))) (intS (oneA (vT (nx tund s.tmps 9)))) (intS (oneA (vT (nx tund s.tmps 10)))) (intS (nx .und (cellsB (nx .dead s.blks 0)) 0)) (intS (nx .und (cellsB (nx .dead s.blks 0)) 1)) (rInts (rowB_ (nx .dead s.blks 1)))) (none)
def LS49_2 {β : Type} (N : Nat) : LSpec β := VLS49_2 N (spec_WeightsFor_l2 N)
theorem fl49_2_0 (s : St) : refSt (h49_2_0 0 0 0 0 0 0 0 0 0 [] []) s = h49_2_0 (intS (oneA (vT (nx tund s.tmps 5)))) (intS (oneA (vT (nx tund s.tmps 8)))) (intS (oneA (vT (nx tund s.tmps 9)))) (intS (oneA (vT (nx tund s.tmps 10)))) (intS (oneA (vT (nx tund s.tmps 12)))) (intS (oneA (vT (nx tund s.tmps 13)))) (intS (oneA (vT (nx tund s.tmps 14)))) (intS (nx .und (cellsB (nx .dead s.blks 0)) 0)) (intS (nx .und (cellsB (nx .dead s.blks 0)) 1)) (rInts (rowB_ (nx .dead s.blks 1))) (rInts (rowB_ (nx .dead s.blks 2))) := by kernel_rfl
def VLS49_4 {β : Type} (N : Nat) (q_spec_WeightsFor_l4 : Nat → Int → Int → Int → Int → Int → Int → Int → Int → Int → List Int → List Int → (Int → Int → Int → Int → Int → Int → Int → List Int → List Int → Option β) → Option β) : LSpec β := fun s K => cond (shpSt (h49_2_0 0 0 0 0 0 0 0 0 0 [] []) s) ((fun (v0 : Int) (v1 : Int) (v2 : Int) (v3 : Int) (v4 : Int) (v5 : Int) (v6 : Int) (v7 : Int) (v8 : Int) (v9 : List Int) (v10 : List Int) => q_spec_WeightsFor_l4  N v0 v1 v2 v3 v4 v5 v6 v7 v8 v9 v10 (fun y0 y1 y2 y3 y4 y5 y6 y7 y8 => K (.exit 4) (x49_2_0_k0  y0 y1 y2 y3 y4 y5 y6 y7 y8))) (intS (oneA (vT (nx tund s.tmps 5)))) (intS (oneA (vT (nx tund s.tmps 8)))) (intS (oneA (vT (nx tund s.tmps 9)))) (intS (oneA (vT (nx tund s.tmps 10)))) (intS (oneA (vT (nx tund s.tmps 12)))) (intS (oneA (vT (nx tund s.tmps 13)))) (intS (oneA (vT (nx tund s.tmps 14)))) (intS (nx .und (cellsB (nx .dead s.blks 0)) 0)) (intS (nx .und (cellsB (nx .dead s.blks 0)) 1)) (rInts (rowB_ (nx .dead s.blks 1))) (rInts (rowB_ (nx .dead s.blks 2)))) (none)
def LS49_4 {β : Type} (N : Nat) : LSpec β := VLS49_4 N (spec_WeightsFor_l4 N)
def VE49 {β : Type} (N : Nat) (q_spec_IsTable : (a0 : Int) → (a1 : Int) → (k : Bool → Option β) → Option β) (q_spec_l16Fits : (a0 : Int) → (a1 : Int) → (a2 : List Int) → (k : Int → Bool → Option β) → Option β) (q_spec_WeightsFor_l0 : Nat → Int → Int → Int → Int → (Int → Int → Int → Option β) → Option β) (q_spec_WeightsFor_l2 : Nat → Int → Int → Int → Int → Int → Int → List Int → (Int → Int → List Int → Option β) → Option β) (q_spec_WeightsFor_l4 : Nat → Int → Int → Int → Int → Int → Int → Int → Int → Int → List Int → List Int → (Int → Int → Int → Int → Int → Int → Int → List Int → List Int → Option β) → Option β) : Env β := ⟨[(58, VS58 N q_spec_IsTable), (91, VS91 N q_spec_l16Fits)], [], [(0, VLS49_0 N q_spec_WeightsFor_l0), (2, VLS49_2 N q_spec_WeightsFor_l2), (4, VLS49_4 N q_spec_WeightsFor_l4)], [], ⟨[], [], []⟩⟩
def E49 {β : Type} (N : Nat) : Env β := VE49 N (spec_IsTable N) (spec_l16Fits N) (spec_WeightsFor_l0 N) (spec_WeightsFor_l2 N) (spec_WeightsFor_l4 N)
def BV_spec_WeightsFor_l0b {β : Type} (N : Nat)  (v0 : Int) (v1 : Int) (v2 : Int) (v3 : Int) (rec_ : Int → Int → Int → Int → Option β) (k0 : Int → Int → Int → Option β) : Option β :=
(cond ((decide (v1 < v2)))
(rec_ ((w64 (v0 * 7))) ((w64 (v1 + 1))) v2 v3)
(k0 v0 v2 v3))
theorem t_spec_WeightsFor_l0b {β : Type} (N : Nat)  (v0 : Int) (v1 : Int) (v2 : Int) (v3 : Int) (rec_ : Int → Int → Int → Int → Option β) (k0 : Int → Int → Int → Option β) : spec_WeightsFor_l0b N v0 v1 v2 v3 rec_ k0 = BV_spec_WeightsFor_l0b N v0 v1 v2 v3 rec_ k0 := by
  unfold spec_WeightsFor_l0b BV_spec_WeightsFor_l0b
  rfl
theorem vst49_0_0 {β : Type} (N : Nat) (q_spec_IsTable : (a0 : Int) → (a1 : Int) → (k : Bool → Option β) → Option β) (q_spec_l16Fits : (a0 : Int) → (a1 : Int) → (a2 : List Int) → (k : Int → Bool → Option β) → Option β) (q_spec_WeightsFor_l0 : Nat → Int → Int → Int → Int → (Int → Int → Int → Option β) → Option β) (q_spec_WeightsFor_l2 : Nat → Int → Int → Int → Int → Int → Int → List Int → (Int → Int → List Int → Option β) → Option β) (q_spec_WeightsFor_l4 : Nat → Int → Int → Int → Int → Int → Int → Int → Int → Int → List Int → List Int → (Int → Int → Int → Int → Int → Int → Int → List Int → List Int → Option β) → Option β)  (v0 : Int) (v1 : Int) (v2 : Int) (v3 : Int) (rec_ : St → Option β) (K : Exit → St → Option β) :
    ev lay (VE49 N q_spec_IsTable q_spec_l16Fits q_spec_WeightsFor_l0 q_spec_WeightsFor_l2 q_spec_WeightsFor_l4) (retMask Try.f49) (lp Try.f49 0).body (lp Try.f49 0).ex ((lp Try.f49 0).lv (retMask Try.f49)) (h49_0_0  v0 v1 v2 v3) (nextR (fun s' => rec_ (s'.tidy ((lp Try.f49 0).lv (retMask Try.f49)))) K) = BV_spec_WeightsFor_l0b N  v0 v1 v2 v3 (fun v0 v1 v2 v3 => rec_ (h49_0_0  v0 v1 v2 v3)) (fun y0 y1 y2 => K (.exit 0) (x49_0_0_k0  y0 y1 y2)) := by kernel_rfl
theorem st49_0_0 {β : Type} (N : Nat)  (v0 : Int) (v1 : Int) (v2 : Int) (v3 : Int) (rec_ : St → Option β) (K : Exit → St → Option β) :
    ev lay (E49 N) (retMask Try.f49) (lp Try.f49 0).body (lp Try.f49 0).ex ((lp Try.f49 0).lv (retMask Try.f49)) (h49_0_0  v0 v1 v2 v3) (nextR (fun s' => rec_ (s'.tidy ((lp Try.f49 0).lv (retMask Try.f49)))) K) = spec_WeightsFor_l0b N  v0 v1 v2 v3 (fun v0 v1 v2 v3 => rec_ (h49_0_0  v0 v1 v2 v3)) (fun y0 y1 y2 => K (.exit 0) (x49_0_0_k0  y0 y1 y2)) := (vst49_0_0 N (spec_IsTable N) (spec_l16Fits N) (spec_WeightsFor_l0 N) (spec_WeightsFor_l2 N) (spec_WeightsFor_l4 N) v0 v1 v2 v3 rec_ K).trans (t_spec_WeightsFor_l0b N  v0 v1 v2 v3 (fun v0 v1 v2 v3 => rec_ (h49_0_0  v0 v1 v2 v3)) (fun y0 y1 y2 => K (.exit 0) (x49_0_0_k0  y0 y1 y2))).symm
theorem ro49_0_0 {β : Type} (N : Nat)  (K : Exit → St → Option β) : ∀ (F : Nat) (v0 : Int) (v1 : Int) (v2 : Int) (v3 : Int), (lp Try.f49 0).rounds lay (E49 N) (retMask Try.f49) F (h49_0_0  v0 v1 v2 v3) K = spec_WeightsFor_l0 N  F v0 v1 v2 v3 (fun y0 y1 y2 => K (.exit 0) (x49_0_0_k0  y0 y1 y2)) := by
  intro F
  induction F with
  | zero => intros; rfl
  | succ F ih =>
    intros
    rw [rounds_next]
    refine (st49_0_0 N  _ _ _ _ (fun s => (lp Try.f49 0).rounds lay (E49 N) (retMask Try.f49) F s K) K).trans ?_
    simp only [ih]
    rfl
theorem lk49_0 {β : Type} (N : Nat) : lookL (E49 (β := β) N).loops (lp Try.f49 0).id = LS49_0 N := by kernel_rfl
theorem rk49_0 {β : Type} (N : Nat) : RoundsOK lay (E49 (β := β) N) (retMask Try.f49) (lp Try.f49 0) := by
  intro s K r h
  rw [lk49_0] at h
  unfold LS49_0 VLS49_0 at h
  cases hb : shpSt (h49_0_0 0 0 0 0) s with
  | true =>
    rw [hb, cond_true] at h
    exact ⟨N, by rw [← shpSt_ref hb, fl49_0_0 s]; exact (ro49_0_0 N  K N (intS (oneA (vT (nx tund s.tmps 5)))) (intS (oneA (vT (nx tund s.tmps 6)))) (intS (nx .und (cellsB (nx .dead s.blks 0)) 0)) (intS (nx .und (cellsB (nx .dead s.blks 0)) 1))).trans h⟩
  | false =>
  rw [hb, cond_false] at h
  clear hb
  cases h
def BV_spec_WeightsFor_l2b {β : Type} (N : Nat) (q_spec_WeightsFor_l4 : Nat → Int → Int → Int → Int → Int → Int → Int → Int → Int → List Int → List Int → (Int → Int → Int → Int → Int → Int → Int → List Int → List Int → Option β) → Option β) (q_spec_l16Fits : (a0 : Int) → (a1 : Int) → (a2 : List Int) → (k : Int → Bool → Option β) → Option β)  (v0 : Int) (v1 : Int) (v2 : Int) (v3 : Int) (v4 : Int) (v5 : Int) (v6 : List Int) (rec_ : Int → Int → Int → Int → Int → Int → List Int → Option β) (k0 : Int → Int → List Int → Option β) : Option β :=
(cond ((decide (v3 < v0)))
((gd ((decide (0 ≤ v4)))
((gd ((decide (v4 ≤ v4)))
((gd ((decide (8 * v4 ≤ 281474976710656)))
(q_spec_WeightsFor_l4  N v0 v1 v2 v3 v3 0 ((w64 (v4 - 1))) v4 v5 v6 ((List.replicate (Int.toNat v4) (0 : Int))) (fun e7_0 e7_1 e7_2 e7_3 e7_4 e7_5 e7_6 e7_7 e7_8 =>
(cond ((decide (e7_4 ≥ e7_1)))
(rec_ e7_0 e7_1 e7_2 ((w64 (e7_3 + 1))) e7_5 e7_6 e7_7)
(q_spec_l16Fits e7_5 e7_6 e7_8 fun r8 r9 =>
(cond r9
(rec_ e7_0 e7_4 r8 ((w64 (e7_3 + 1))) e7_5 e7_6 e7_8)
(rec_ e7_0 e7_1 e7_2 ((w64 (e7_3 + 1))) e7_5 e7_6 e7_7))))))))))))
(k0 v1 v2 v6))
theorem t_spec_WeightsFor_l2b {β : Type} (N : Nat)  (v0 : Int) (v1 : Int) (v2 : Int) (v3 : Int) (v4 : Int) (v5 : Int) (v6 : List Int) (rec_ : Int → Int → Int → Int → Int → Int → List Int → Option β) (k0 : Int → Int → List Int → Option β) : spec_WeightsFor_l2b N v0 v1 v2 v3 v4 v5 v6 rec_ k0 = BV_spec_WeightsFor_l2b N (spec_WeightsFor_l4 N) (spec_l16Fits N) v0 v1 v2 v3 v4 v5 v6 rec_ k0 := by
  unfold spec_WeightsFor_l2b BV_spec_WeightsFor_l2b
  rfl
theorem vst49_1_0 {β : Type} (N : Nat) (q_spec_IsTable : (a0 : Int) → (a1 : Int) → (k : Bool → Option β) → Option β) (q_spec_l16Fits : (a0 : Int) → (a1 : Int) → (a2 : List Int) → (k : Int → Bool → Option β) → Option β) (q_spec_WeightsFor_l0 : Nat → Int → Int → Int → Int → (Int → Int → Int → Option β) → Option β) (q_spec_WeightsFor_l2 : Nat → Int → Int → Int → Int → Int → Int → List Int → (Int → Int → List Int → Option β) → Option β) (q_spec_WeightsFor_l4 : Nat → Int → Int → Int → Int → Int → Int → Int → Int → Int → List Int → List Int → (Int → Int → Int → Int → Int → Int → Int → List Int → List Int → Option β) → Option β)  (v0 : Int) (v1 : Int) (v2 : Int) (v3 : Int) (v4 : Int) (v5 : Int) (v6 : List Int) (rec_ : St → Option β) (K : Exit → St → Option β) :
    ev lay (VE49 N q_spec_IsTable q_spec_l16Fits q_spec_WeightsFor_l0 q_spec_WeightsFor_l2 q_spec_WeightsFor_l4) (retMask Try.f49) (lp Try.f49 1).body (lp Try.f49 1).ex ((lp Try.f49 1).lv (retMask Try.f49)) (h49_1_0  v0 v1 v2 v3 v4 v5 v6) (nextR (fun s' => rec_ (s'.tidy ((lp Try.f49 1).lv (retMask Try.f49)))) K) = BV_spec_WeightsFor_l2b N q_spec_WeightsFor_l4 q_spec_l16Fits  v0 v1 v2 v3 v4 v5 v6 (fun v0 v1 v2 v3 v4 v5 v6 => rec_ (h49_1_0  v0 v1 v2 v3 v4 v5 v6)) (fun y0 y1 y2 => K (.exit 2) (x49_1_0_k0  y0 y1 y2)) := by kernel_rfl
theorem st49_1_0 {β : Type} (N : Nat)  (v0 : Int) (v1 : Int) (v2 : Int) (v3 : Int) (v4 : Int) (v5 : Int) (v6 : List Int) (rec_ : St → Option β) (K : Exit → St → Option β) :
    ev lay (E49 N) (retMask Try.f49) (lp Try.f49 1).body (lp Try.f49 1).ex ((lp Try.f49 1).lv (retMask Try.f49)) (h49_1_0  v0 v1 v2 v3 v4 v5 v6) (nextR (fun s' => rec_ (s'.tidy ((lp Try.f49 1).lv (retMask Try.f49)))) K) = spec_WeightsFor_l2b N  v0 v1 v2 v3 v4 v5 v6 (fun v0 v1 v2 v3 v4 v5 v6 => rec_ (h49_1_0  v0 v1 v2 v3 v4 v5 v6)) (fun y0 y1 y2 => K (.exit 2) (x49_1_0_k0  y0 y1 y2)) := (vst49_1_0 N (spec_IsTable N) (spec_l16Fits N) (spec_WeightsFor_l0 N) (spec_WeightsFor_l2 N) (spec_WeightsFor_l4 N) v0 v1 v2 v3 v4 v5 v6 rec_ K).trans (t_spec_WeightsFor_l2b N  v0 v1 v2 v3 v4 v5 v6 (fun v0 v1 v2 v3 v4 v5 v6 => rec_ (h49_1_0  v0 v1 v2 v3 v4 v5 v6)) (fun y0 y1 y2 => K (.exit 2) (x49_1_0_k0  y0 y1 y2))).symm
theorem ro49_1_0 {β : Type} (N : Nat)  (K : Exit → St → Option β) : ∀ (F : Nat) (v0 : Int) (v1 : Int) (v2 : Int) (v3 : Int) (v4 : Int) (v5 : Int) (v6 : List Int), (lp Try.f49 1).rounds lay (E49 N) (retMask Try.f49) F (h49_1_0  v0 v1 v2 v3 v4 v5 v6) K = spec_WeightsFor_l2 N  F v0 v1 v2 v3 v4 v5 v6 (fun y0 y1 y2 => K (.exit 2) (x49_1_0_k0  y0 y1 y2)) := by
  intro F
  induction F with
  | zero => intros; rfl
  | succ F ih =>
    intros
    rw [rounds_next]
    refine (st49_1_0 N  _ _ _ _ _ _ _ (fun s => (lp Try.f49 1).rounds lay (E49 N) (retMask Try.f49) F s K) K).trans ?_
    simp only [ih]
    rfl
theorem lk49_2 {β : Type} (N : Nat) : lookL (E49 (β := β) N).loops (lp Try.f49 1).id = LS49_2 N := by kernel_rfl
theorem rk49_2 {β : Type} (N : Nat) : RoundsOK lay (E49 (β := β) N) (retMask Try.f49) (lp Try.f49 1) := by
  intro s K r h
  rw [lk49_2] at h
  unfold LS49_2 VLS49_2 at h
  cases hb : shpSt (h49_1_0 0 0 0 0 0 0 []) s with
  | true =>
    rw [hb, cond_true] at h
    exact ⟨N, by rw [← shpSt_ref hb, fl49_1_0 s]; exact (ro49_1_0 N  K N (intS (oneA (vT (nx tund s.tmps 5)))) (intS (oneA (vT (nx tund s.tmps 8)))) (intS (oneA (vT (nx tund s.tmps 9)))) (intS (oneA (vT (nx tund s.tmps 10)))) (intS (nx .und (cellsB (nx .dead s.blks 0)) 0)) (intS (nx .und (cellsB (nx .dead s.blks 0)) 1)) (rInts (rowB_ (nx .dead s.blks 1)))).trans h⟩
  | false =>
  rw [hb, cond_false] at h
  clear hb
  cases h
def BV_spec_WeightsFor_l4b {β : Type} (N : Nat)  (v0 : Int) (v1 : Int) (v2 : Int) (v3 : Int) (v4 : Int) (v5 : Int) (v6 : Int) (v7 : Int) (v8 : Int) (v9 : List Int) (v10 : List Int) (rec_ : Int → Int → Int → Int → Int → Int → Int → Int → Int → List Int → List Int → Option β) (k0 : Int → Int → Int → Int → Int → Int → Int → List Int → List Int → Option β) : Option β :=
(cond ((decide (v6 ≥ 0)))
((gd ((decide (0 ≤ v6)))
((gd ((decide (v6 < (v10.length : Int))))
((gd ((decide (0 ≤ v6)))
((gd ((decide (v6 < (((wr v10 v6 (w64 ((remI v4 7) - 3)))).length : Int))))
((gd ((decide (0 ≤ v6)))
((gd ((decide (v6 < (((wr v10 v6 (w64 ((remI v4 7) - 3)))).length : Int))))
(rec_ v0 v1 v2 v3 ((quoI .i64 v4 7)) ((w64 (v5 + (mxI (rd 0 ((wr v10 v6 (w64 ((remI v4 7) - 3)))) v6) (w64 (0 - (rd 0 ((wr v10 v6 (w64 ((remI v4 7) - 3)))) v6))))))) ((w64 (v6 - 1))) v7 v8 v9 ((wr v10 v6 (w64 ((remI v4 7) - 3)))))))))))))))))
(k0 v0 v1 v2 v3 v5 v7 v8 v9 v10))
theorem t_spec_WeightsFor_l4b {β : Type} (N : Nat)  (v0 : Int) (v1 : Int) (v2 : Int) (v3 : Int) (v4 : Int) (v5 : Int) (v6 : Int) (v7 : Int) (v8 : Int) (v9 : List Int) (v10 : List Int) (rec_ : Int → Int → Int → Int → Int → Int → Int → Int → Int → List Int → List Int → Option β) (k0 : Int → Int → Int → Int → Int → Int → Int → List Int → List Int → Option β) : spec_WeightsFor_l4b N v0 v1 v2 v3 v4 v5 v6 v7 v8 v9 v10 rec_ k0 = BV_spec_WeightsFor_l4b N v0 v1 v2 v3 v4 v5 v6 v7 v8 v9 v10 rec_ k0 := by
  unfold spec_WeightsFor_l4b BV_spec_WeightsFor_l4b
  rfl
theorem vst49_2_0 {β : Type} (N : Nat) (q_spec_IsTable : (a0 : Int) → (a1 : Int) → (k : Bool → Option β) → Option β) (q_spec_l16Fits : (a0 : Int) → (a1 : Int) → (a2 : List Int) → (k : Int → Bool → Option β) → Option β) (q_spec_WeightsFor_l0 : Nat → Int → Int → Int → Int → (Int → Int → Int → Option β) → Option β) (q_spec_WeightsFor_l2 : Nat → Int → Int → Int → Int → Int → Int → List Int → (Int → Int → List Int → Option β) → Option β) (q_spec_WeightsFor_l4 : Nat → Int → Int → Int → Int → Int → Int → Int → Int → Int → List Int → List Int → (Int → Int → Int → Int → Int → Int → Int → List Int → List Int → Option β) → Option β)  (v0 : Int) (v1 : Int) (v2 : Int) (v3 : Int) (v4 : Int) (v5 : Int) (v6 : Int) (v7 : Int) (v8 : Int) (v9 : List Int) (v10 : List Int) (rec_ : St → Option β) (K : Exit → St → Option β) :
    ev lay (VE49 N q_spec_IsTable q_spec_l16Fits q_spec_WeightsFor_l0 q_spec_WeightsFor_l2 q_spec_WeightsFor_l4) (retMask Try.f49) (lp Try.f49 2).body (lp Try.f49 2).ex ((lp Try.f49 2).lv (retMask Try.f49)) (h49_2_0  v0 v1 v2 v3 v4 v5 v6 v7 v8 v9 v10) (nextR (fun s' => rec_ (s'.tidy ((lp Try.f49 2).lv (retMask Try.f49)))) K) = BV_spec_WeightsFor_l4b N  v0 v1 v2 v3 v4 v5 v6 v7 v8 v9 v10 (fun v0 v1 v2 v3 v4 v5 v6 v7 v8 v9 v10 => rec_ (h49_2_0  v0 v1 v2 v3 v4 v5 v6 v7 v8 v9 v10)) (fun y0 y1 y2 y3 y4 y5 y6 y7 y8 => K (.exit 4) (x49_2_0_k0  y0 y1 y2 y3 y4 y5 y6 y7 y8)) := by kernel_rfl
theorem st49_2_0 {β : Type} (N : Nat)  (v0 : Int) (v1 : Int) (v2 : Int) (v3 : Int) (v4 : Int) (v5 : Int) (v6 : Int) (v7 : Int) (v8 : Int) (v9 : List Int) (v10 : List Int) (rec_ : St → Option β) (K : Exit → St → Option β) :
    ev lay (E49 N) (retMask Try.f49) (lp Try.f49 2).body (lp Try.f49 2).ex ((lp Try.f49 2).lv (retMask Try.f49)) (h49_2_0  v0 v1 v2 v3 v4 v5 v6 v7 v8 v9 v10) (nextR (fun s' => rec_ (s'.tidy ((lp Try.f49 2).lv (retMask Try.f49)))) K) = spec_WeightsFor_l4b N  v0 v1 v2 v3 v4 v5 v6 v7 v8 v9 v10 (fun v0 v1 v2 v3 v4 v5 v6 v7 v8 v9 v10 => rec_ (h49_2_0  v0 v1 v2 v3 v4 v5 v6 v7 v8 v9 v10)) (fun y0 y1 y2 y3 y4 y5 y6 y7 y8 => K (.exit 4) (x49_2_0_k0  y0 y1 y2 y3 y4 y5 y6 y7 y8)) := (vst49_2_0 N (spec_IsTable N) (spec_l16Fits N) (spec_WeightsFor_l0 N) (spec_WeightsFor_l2 N) (spec_WeightsFor_l4 N) v0 v1 v2 v3 v4 v5 v6 v7 v8 v9 v10 rec_ K).trans (t_spec_WeightsFor_l4b N  v0 v1 v2 v3 v4 v5 v6 v7 v8 v9 v10 (fun v0 v1 v2 v3 v4 v5 v6 v7 v8 v9 v10 => rec_ (h49_2_0  v0 v1 v2 v3 v4 v5 v6 v7 v8 v9 v10)) (fun y0 y1 y2 y3 y4 y5 y6 y7 y8 => K (.exit 4) (x49_2_0_k0  y0 y1 y2 y3 y4 y5 y6 y7 y8))).symm
theorem ro49_2_0 {β : Type} (N : Nat)  (K : Exit → St → Option β) : ∀ (F : Nat) (v0 : Int) (v1 : Int) (v2 : Int) (v3 : Int) (v4 : Int) (v5 : Int) (v6 : Int) (v7 : Int) (v8 : Int) (v9 : List Int) (v10 : List Int), (lp Try.f49 2).rounds lay (E49 N) (retMask Try.f49) F (h49_2_0  v0 v1 v2 v3 v4 v5 v6 v7 v8 v9 v10) K = spec_WeightsFor_l4 N  F v0 v1 v2 v3 v4 v5 v6 v7 v8 v9 v10 (fun y0 y1 y2 y3 y4 y5 y6 y7 y8 => K (.exit 4) (x49_2_0_k0  y0 y1 y2 y3 y4 y5 y6 y7 y8)) := by
  intro F
  induction F with
  | zero => intros; rfl
  | succ F ih =>
    intros
    rw [rounds_next]
    refine (st49_2_0 N  _ _ _ _ _ _ _ _ _ _ _ (fun s => (lp Try.f49 2).rounds lay (E49 N) (retMask Try.f49) F s K) K).trans ?_
    simp only [ih]
    rfl
theorem lk49_4 {β : Type} (N : Nat) : lookL (E49 (β := β) N).loops (lp Try.f49 2).id = LS49_4 N := by kernel_rfl
theorem rk49_4 {β : Type} (N : Nat) : RoundsOK lay (E49 (β := β) N) (retMask Try.f49) (lp Try.f49 2) := by
  intro s K r h
  rw [lk49_4] at h
  unfold LS49_4 VLS49_4 at h
  cases hb : shpSt (h49_2_0 0 0 0 0 0 0 0 0 0 [] []) s with
  | true =>
    rw [hb, cond_true] at h
    exact ⟨N, by rw [← shpSt_ref hb, fl49_2_0 s]; exact (ro49_2_0 N  K N (intS (oneA (vT (nx tund s.tmps 5)))) (intS (oneA (vT (nx tund s.tmps 8)))) (intS (oneA (vT (nx tund s.tmps 9)))) (intS (oneA (vT (nx tund s.tmps 10)))) (intS (oneA (vT (nx tund s.tmps 12)))) (intS (oneA (vT (nx tund s.tmps 13)))) (intS (oneA (vT (nx tund s.tmps 14)))) (intS (nx .und (cellsB (nx .dead s.blks 0)) 0)) (intS (nx .und (cellsB (nx .dead s.blks 0)) 1)) (rInts (rowB_ (nx .dead s.blks 1))) (rInts (rowB_ (nx .dead s.blks 2)))).trans h⟩
  | false =>
  rw [hb, cond_false] at h
  clear hb
  cases h
def BV_spec_WeightsFor {β : Type} (N : Nat) (q_spec_IsTable : (a0 : Int) → (a1 : Int) → (k : Bool → Option β) → Option β) (q_spec_WeightsFor_l0 : Nat → Int → Int → Int → Int → (Int → Int → Int → Option β) → Option β) (q_spec_WeightsFor_l2 : Nat → Int → Int → Int → Int → Int → Int → List Int → (Int → Int → List Int → Option β) → Option β) (a0 : Int) (a1 : Int) (k : List Int → Int → Bool → Option β) : Option β :=
q_spec_IsTable a0 a1 fun r5 =>
(cond (!r5)
(k (([] : List Int)) 0 false)
((cond ((decide (a0 > 4)))
(k (([] : List Int)) 0 false)
(q_spec_WeightsFor_l0  N 1 0 a0 a1 (fun e6_0 e6_1 e6_2 =>
q_spec_WeightsFor_l2  N e6_0 100 0 0 e6_1 e6_2 (([] : List Int)) (fun e10_0 e10_1 e10_2 =>
k e10_2 e10_1 ((decide (e10_0 < 100)))))))))
theorem t_spec_WeightsFor {β : Type} (N : Nat) (a0 : Int) (a1 : Int) (k : List Int → Int → Bool → Option β) : spec_WeightsFor N a0 a1 k = BV_spec_WeightsFor N (spec_IsTable N) (spec_WeightsFor_l0 N) (spec_WeightsFor_l2 N) a0 a1 k := by
  unfold spec_WeightsFor BV_spec_WeightsFor
  rfl
theorem ve49_0 {β : Type} (N : Nat) (q_spec_IsTable : (a0 : Int) → (a1 : Int) → (k : Bool → Option β) → Option β) (q_spec_l16Fits : (a0 : Int) → (a1 : Int) → (a2 : List Int) → (k : Int → Bool → Option β) → Option β) (q_spec_WeightsFor_l0 : Nat → Int → Int → Int → Int → (Int → Int → Int → Option β) → Option β) (q_spec_WeightsFor_l2 : Nat → Int → Int → Int → Int → Int → Int → List Int → (Int → Int → List Int → Option β) → Option β) (q_spec_WeightsFor_l4 : Nat → Int → Int → Int → Int → Int → Int → Int → Int → Int → List Int → List Int → (Int → Int → Int → Int → Int → Int → Int → List Int → List Int → Option β) → Option β)  (a0 : Int) (a1 : Int) (K : TV → Option β) : evFn lay (VE49 N q_spec_IsTable q_spec_l16Fits q_spec_WeightsFor_l0 q_spec_WeightsFor_l2 q_spec_WeightsFor_l4) Try.f49 [.v (.agg [.int .i64 a0, .int .i64 a1])] K = BV_spec_WeightsFor N q_spec_IsTable q_spec_WeightsFor_l0 q_spec_WeightsFor_l2 a0 a1 (fun z2 z3 z4 => K (.tup [.one (.sl 3 (.ints .i64 z2)), .one (.int .i64 z3), .one (.bool z4)])) := by kernel_rfl
theorem e49_0 {β : Type} (N : Nat)  (a0 : Int) (a1 : Int) (K : TV → Option β) : evFn lay (E49 N) Try.f49 [.v (.agg [.int .i64 a0, .int .i64 a1])] K = spec_WeightsFor N a0 a1 (fun z2 z3 z4 => K (.tup [.one (.sl 3 (.ints .i64 z2)), .one (.int .i64 z3), .one (.bool z4)])) := (ve49_0 N (spec_IsTable N) (spec_l16Fits N) (spec_WeightsFor_l0 N) (spec_WeightsFor_l2 N) (spec_WeightsFor_l4 N) a0 a1 K).trans (t_spec_WeightsFor N a0 a1 (fun z2 z3 z4 => K (.tup [.one (.sl 3 (.ints .i64 z2)), .one (.int .i64 z3), .one (.bool z4)]))).symm
theorem o49 {β : Type} (N : Nat) : SpecOK (β := β) inv Try.prog 49 (S49 N) := by
  refine spec_of lay_ok mixed (E := E49 N) (specs_loops (specs_cons (o58 N) (specs_cons (o91 N) specs_nil))) muts_nil gs_nil Try.func49 (by kernel_rfl) 3 (by kernel_rfl) ⟨⟨⟨trivial, rk49_0 N⟩, rk49_2 N⟩, rk49_4 N⟩ fun args K r h => ?_
  unfold S49 VS49 at h
  split at h
  · exact (e49_0 N _ _ _).trans h
  · cases h
end Go.Proofs.Ytfdggelojmofmaa
